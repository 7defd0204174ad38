/- Contracts and laws that the proof stands on. -/
import Derived.Test.YtdldgbbhagpofaaGreatDoorSeglogCrash4
import Derived.MapKept
set_option linter.unusedSimpArgs false
set_option linter.unusedVariables false
namespace Go.Sl
variable {P : Program} {Γ : Ctx} {L R : List Chunk} {N : Nat} {fr : Fr} {Q : Exit → Act → World → Prop} {ops : Array Oper} {rest : List Oper}
variable {d : Nat} {ty : TypeId} {pos : String} {aft : Array Edge} {gd : Option (Nat × Bool)} {x y z : Operand} {v u : Value} {t t2 tx : TypeId}
theorem srcReads {C : Chunk} {b o m c n : Nat} {news : List Value} {e : TypeId} (D : TDesc P tx (.slice e)) (s : Sel L C R) (hl : news.length = m * n) (h1 : news.all (·.oneCell') = true) (r : ∀ (j : Nat) (v : Value), news[j]? = some v → Reads C ⟨b, o + j, none⟩ v) :
    SrcIs P Γ L n tx (.slice (some ⟨b, o, none⟩) m c) m news := fun w hh =>
  Src.ofSlice w D.desc ⟨b, o, none⟩ m c news hl (fun j v hv => by rw [Addr.add_lit]; exact hh.cell s (r j v hv)) (fun v hv => List.all_eq_true.1 h1 v hv)
theorem srcRow {b o m c n : Nat} {ys news : List Value} {e e' : TypeId} {fz : Nat × Nat} (D : TDesc P tx (.slice e)) (s : Sel L (.row b ys e' fz) R) (ct : Cut ys o (m * n) news) (h1 : news.all (·.oneCell') = true) :
    SrcIs P Γ L n tx (.slice (some ⟨b, o, none⟩) m c) m news := srcReads D s ct.get.1 h1 (fun j v hv => reads_row (ct.get.2 j v hv))
theorem srcNil {p : Option Addr} {c n : Nat} {e : TypeId} (D : TDesc P tx (.slice e)) : SrcIs P Γ L n tx (.slice p 0 c) 0 [] := fun w _ => by
  cases p with
  | none => exact Src.ofNil w D.desc c
  | some a => exact Src.ofSlice w D.desc a 0 c [] (by simp) (fun j v hv => by simp at hv) (fun v hv => by simp at hv)
theorem srcOwn {p : Option Addr} {m c n : Nat} {news : List Value} {e e' : TypeId} (D : TDesc P tx (.slice e)) (s : Sel L (.own p m c n news e') R) : SrcIs P Γ L n tx (.slice p m c) m news := fun w hh => by
  obtain ⟨hl, _, hp⟩ := own_place hh s
  have h1 := own_one hh s
  by_cases hm : m = 0
  · subst hm
    obtain rfl : news = [] := List.eq_nil_of_length_eq_zero (by rw [hl, Nat.zero_mul])
    exact srcNil D w hh
  · obtain ⟨b, rfl⟩ := hp (by omega)
    exact srcReads (L := L) (R := R) (o := 0) D s hl h1 (fun j v hv => by rw [Nat.zero_add]; exact reads_own hv) w hh
theorem srcString {s : ByteArray} (D : TDesc P tx .string) : SrcIs P Γ L 1 tx (.string s) s.size (byteCells s) := fun w _ => Src.ofString w D.desc s
inductive Bnd (fr : Fr) (k : Nat) : Option Operand → Nat → Prop where
  | none : Bnd fr k none k
  | some {x : Operand} {i : Int} {n : Nat} : ev fr x = some (.int .i64 i) → i = n → Bnd fr k (some x) n
theorem qs_slice {e : TypeId} {p : Option Addr} {len cap l h n : Nat} {lo hi : Option Operand} (D : TDesc P t (.slice e)) (S : TSize P e n) (hx : ev fr x = some (.slice p len cap)) (hl : Bnd fr 0 lo l) (hh : Bnd fr len hi h) (h1 : l ≤ h) (h2 : h ≤ cap) :
    QStep P Γ fr ⟨some d, .slice t x lo hi none, ty, pos, aft, gd⟩ (.slice (if cap = l then p else p.map (·.add (l * n))) (h - l) (cap - l)) := qs_of (fun a w hf => by
  have hsz := run_sizeOf' (P := P) (t := e) S.size w
  have key : ∀ (lv hv : Option Value), (lo.map a.eval = lv) → (hi.map a.eval = hv) → (Instr.sliceBounds true len cap lv hv none).run P w = .ok (l, h, cap) w → (execOp a.eval ⟨some d, .slice t x lo hi none, ty, pos, aft, gd⟩).run P w = .ok (.value (.slice (if cap = l then p else p.map (·.add (l * n))) (h - l) (cap - l))) w := by
    intro lv hv e1 e2 e3
    simp only [execOp, hf.ev hx, e1, e2, Option.map_none, Instr.sliceAt, Instr.slice, Sem.run_bind, run_underlying D.desc, Result.andThen_ok, e3, hsz, Sem.run_pure]
  cases hl with
  | none =>
    cases hh with
    | none => exact key none none rfl rfl (by simp [Instr.sliceBounds])
    | @some x' i' n' g1 g2 =>
      subst g2
      exact key none (some (.int .i64 h)) rfl (by simp [hf.ev g1]) (by simp [Instr.sliceBounds, run_sliceBound, h2])
  | @some x' i' n' g1 g2 =>
    subst g2
    cases hh with
    | none => exact key (some (.int .i64 l)) none (by simp [hf.ev g1]) rfl (by simp [Instr.sliceBounds, run_sliceBound, h1])
    | @some x2 i2 n2 g3 g4 =>
      subst g4
      exact key (some (.int .i64 l)) (some (.int .i64 h)) (by simp [hf.ev g1]) (by simp [hf.ev g3]) (by simp [Instr.sliceBounds, run_sliceBound, h1, h2]))
theorem qs_slice00 {e : TypeId} {p : Option Addr} {len cap n : Nat} (D : TDesc P t (.slice e)) (S : TSize P e n) (hx : ev fr x = some (.slice p len cap)) :
    QStep P Γ fr ⟨some d, .slice t x none (some (.const (.int .i64 0))) (some (.const (.int .i64 0))), ty, pos, aft, gd⟩ (.slice p 0 0) := qs_of (fun a w hf => by
  have hsz := run_sizeOf' (P := P) (t := e) S.size w
  have e3 : (Instr.sliceBounds true len cap none (some (.int .i64 0)) (some (.int .i64 0))).run P w = .ok (0, 0, 0) w := by simp [Instr.sliceBounds, run_sliceBound]
  have e0 : a.eval (.const (.int .i64 0)) = .int .i64 0 := rfl
  simp only [execOp, hf.ev hx, Option.map_none, Option.map_some, e0, Instr.sliceAt, Instr.slice, Sem.run_bind, run_underlying D.desc, Result.andThen_ok, e3, hsz, Sem.run_pure, if_true, Nat.sub_self])
class MapKey (κ : Type) [DecidableEq κ] where
  v : κ → Value
  kind : TypeDesc → Prop
  same : ∀ {k : TypeDesc} {a b : κ}, kind k → Instr.sameNow k (v a) (v b) = some (decide (a = b))
  inj : ∀ {a b : κ}, v a = v b → a = b
  bits : ∀ a : κ, Instr.sameBits 10000 (v a) (v a) = true
  check : ∀ {P : Program} {t : TypeId} {k : TypeDesc} {a : κ} {w : World} {b : Bool}, P.underlying t = some k → kind k → (Instr.checkKey b 10000 t (v a)).run P w = .ok () w
theorem same_of {k : TypeDesc} {u v : Value} (ha : MapKept.IsKey k u) (hb : MapKept.IsKey k v) {p : Prop} [Decidable p] (h : u = v ↔ p) : Instr.sameNow k u v = some (decide p) := by
  obtain ⟨r, h1, h2⟩ := MapKept.sameNow_of_keys ha hb
  rw [h1]
  congr 1
  rw [Bool.eq_iff_iff, h2, h]
  simp
theorem isKeyI (n : Int) : MapKept.IsKey (.int .i64) (.int .i64 n) := rfl
theorem isKeyS (s : ByteArray) : MapKept.IsKey .string (.string s) := trivial
instance : MapKey Int where
  v := .int .i64
  kind k := k = .int .i64
  same h := by subst h; exact same_of (isKeyI _) (isKeyI _) (by simp)
  inj h := by simpa using h
  bits a := MapKept.sameBits_self (isKeyI a) 10000
  check h hk := by subst hk; exact MapKept.run_checkKey h (isKeyI _) _ 9999
instance : MapKey ByteArray where
  v := .string
  kind k := k = .string
  same h := by subst h; exact same_of (isKeyS _) (isKeyS _) (by simp)
  inj h := by simpa using h
  bits a := MapKept.sameBits_self (isKeyS a) 10000
  check h hk := by subst hk; exact MapKept.run_checkKey h (isKeyS _) _ 9999
def setBlock (w : World) (b : Nat) (o : Obj) : World := { w with heap := w.heap.setIfInBounds b o }
section
variable {κ : Type} [DecidableEq κ] [K : MapKey κ]
def mget : List (κ × Value) → κ → Option Value
  | [], _ => none
  | (a, v) :: M, k => if k = a then some v else mget M k
def mput : List (κ × Value) → κ → Value → List (κ × Value)
  | [], k, v => [(k, v)]
  | (a, u) :: M, k, v => if k = a then (a, v) :: M else (a, u) :: mput M k v
def mdel : List (κ × Value) → κ → List (κ × Value)
  | [], _ => []
  | (a, u) :: M, k => if k = a then M else (a, u) :: mdel M k
def mapsTo (M : List (κ × Value)) (es : List MapEntry) : Prop := es.map (fun e => (e.key, e.val)) = M.map (fun x => (K.v x.1, x.2))
def mapS (b : Nat) (M : List (κ × Value)) : HP → Prop := fun h => ∃ es clock, h b = some (.map es clock) ∧ mapsTo M es.toList ∧ MapKept.Stamped es clock
abbrev Chunk.map (b : Nat) (M : List (κ × Value)) : Chunk := .asn (mapS b M)
theorem findNow_map {kd : TypeDesc} (hk : K.kind kd) (k : κ) : ∀ (M : List (κ × Value)) (es : List MapEntry) (i : Nat), mapsTo M es →
    (∃ j u, Instr.findNow kd (K.v k) es i = some (some (i + j, u)) ∧ mget M k = some u ∧ j < es.length ∧ (∃ e, es[j]? = some e ∧ e.key = K.v k) ∧ (∀ v, mapsTo (mput M k v) (es.modify j fun e => { e with val := v })) ∧ mapsTo (mdel M k) (es.eraseIdx j)) ∨
    (Instr.findNow kd (K.v k) es i = some none ∧ mget M k = none ∧ (∀ (v : Value) (c : Nat), mapsTo (mput M k v) (es ++ [{ key := K.v k, val := v, born := c }])) ∧ mdel M k = M ∧ ∀ e ∈ es, e.key ≠ K.v k)
  | [], es, i, h => by
    have : es = [] := by simpa [mapsTo] using h
    subst this
    exact .inr ⟨rfl, rfl, fun v c => rfl, rfl, fun e h => by cases h⟩
  | (a, u) :: M, [], i, h => by simp [mapsTo] at h
  | (a, u) :: M, e :: es, i, h => by
    simp only [mapsTo, List.map_cons, List.cons.injEq, Prod.mk.injEq] at h
    obtain ⟨⟨h1, h2⟩, h3⟩ := h
    have hs := K.same (a := k) (b := a) hk
    simp only [Instr.findNow, h1, hs]
    by_cases e1 : k = a
    · subst e1
      left
      refine ⟨0, u, by simp [h2], by simp [mget], by simp, ⟨e, by simp, h1⟩, fun v => ?_, ?_⟩
      · simp only [mput, if_true, List.modify_zero_cons, mapsTo, List.map_cons, h1]
        rw [h3]
      · simp only [mdel, if_true, List.eraseIdx_zero, List.tail_cons]
        exact h3
    · simp only [e1, decide_false]
      rcases findNow_map hk k M es (i + 1) h3 with ⟨j, u', g1, g2, g3, g4, g5, g6⟩ | ⟨g1, g2, g3, g4, g7⟩
      · left
        refine ⟨j + 1, u', by rw [g1]; congr 3; omega, by simp [mget, e1, g2], by simp; omega, by simpa using g4, fun v => ?_, ?_⟩
        · have := g5 v
          simp only [mput, e1, if_false, List.modify_succ_cons, mapsTo, List.map_cons, h1, h2]
          rw [this]
        · simp only [mdel, e1, if_false, List.eraseIdx_cons_succ, mapsTo, List.map_cons, h1, h2]
          rw [g6]
      · right
        refine ⟨g1, by simp [mget, e1, g2], fun v c => ?_, by simp [mdel, e1, g4], fun x hx => by
          rcases List.mem_cons.1 hx with rfl | hx
          · rw [h1]; exact fun q => e1 (K.inj q).symm
          · exact g7 x hx⟩
        have := g3 v c
        simp only [mput, e1, if_false, mapsTo, List.map_cons, h1, h2, List.cons_append]
        rw [this]
theorem run_findKey {w : World} {kt : TypeId} {kd : TypeDesc} {k : κ} {es : List MapEntry} {r : Option (Nat × Value)} (hu : P.underlying kt = some kd) (h : Instr.findNow kd (K.v k) es 0 = some r) : (Instr.findKey kt (K.v k) es).run P w = .ok r w := by
  simp [Instr.findKey, run_underlying hu, h]
theorem Holds.mapAt {w : World} {b : Nat} {M : List (κ × Value)} (hh : Holds Γ L w) (s : Sel L (.map b M) R) : ∃ es clock, w.heap[b]? = some (.map es clock) ∧ mapsTo M es.toList ∧ MapKept.Stamped es clock ∧ Holds Γ (.pt b (.map es clock) :: R) w := by
  have hs := hh.sel s
  obtain ⟨hp, hd, hsub, h1, h2, dj, s1, s2, ⟨es, clock, e1, e2, e3⟩, hr⟩ := hs.own
  exact ⟨es, clock, hsub _ _ (s1 _ _ e1), e2, e3, hs.os, hs.tape, hs.output, hs.frz, hs.frame, hp, hd, hsub, h1, h2, dj, s1, s2, e1, hr⟩
theorem Holds.ofMap {w : World} {b : Nat} {M : List (κ × Value)} {es : Array MapEntry} {clock : Nat} (hh : Holds Γ (.pt b (.map es clock) :: R) w) (h : mapsTo M es.toList) (hst : MapKept.Stamped es clock) : Holds Γ (.map b M :: R) w :=
  hh.mono fun _ ⟨h1, h2, dj, s1, s2, hc, hr⟩ => ⟨h1, h2, dj, s1, s2, ⟨es, clock, hc, h, hst⟩, hr⟩
def mapR (r : Option Value) (zero : Value) (ok : Bool) : Value := if ok then .tuple #[r.getD zero, .bool r.isSome] else r.getD zero
theorem vs_lookup {b : Nat} {M : List (κ × Value)} {kt et : TypeId} {kd : TypeDesc} {k : κ} {zv : Value} {ok : Bool} (D : TDesc P t (.map kt et)) (E : TDesc P kt kd) (Z : TZero P et zv) (hk : K.kind kd) (hx : ev fr x = some (.map (some b))) (hy : ev fr y = some (K.v k)) (s : Sel L (.map b M) R) :
    VStep P Γ fr L ⟨some d, .lookup t x y ok, ty, pos, aft, gd⟩ (mapR (mget M k) zv ok) := vs_of (fun a w hf hh => by
  obtain ⟨es, clock, hb, hm, _, _⟩ := hh.mapAt s
  have hg : (getObj b).run P w = .ok (.map es clock) w := by simp [getObj, Sem.run, hb]
  simp only [execOp, hf.ev hx, hf.ev hy, Instr.lookup, Sem.run_bind, run_underlying D.desc, Result.andThen_ok, hg, Sem.run_pure, K.check E.desc hk]
  rcases findNow_map hk k M es.toList 0 hm with ⟨j, u', g1, g2, _⟩ | ⟨g1, g2, _⟩
  · rw [run_findKey E.desc g1, g2]
    cases ok <;> simp [mapR]
  · rw [run_findKey E.desc g1, g2]
    cases ok <;> simp [mapR, run_zeroValue' Z.zero])
theorem vs_lookupNil {kt et : TypeId} {kd : TypeDesc} {k : κ} {zv : Value} {ok : Bool} (D : TDesc P t (.map kt et)) (E : TDesc P kt kd) (Z : TZero P et zv) (hk : K.kind kd) (hx : ev fr x = some (.map none)) (hy : ev fr y = some (K.v k)) :
    QStep P Γ fr ⟨some d, .lookup t x y ok, ty, pos, aft, gd⟩ (mapR none zv ok) := qs_of (fun a w hf => by
  simp only [execOp, hf.ev hx, hf.ev hy, Instr.lookup, Sem.run_bind, run_underlying D.desc, Result.andThen_ok, Sem.run_pure, K.check E.desc hk]
  rw [run_findKey E.desc (r := none) rfl]
  cases ok <;> simp [mapR, run_zeroValue' Z.zero])
theorem setObj_map {w : World} {b : Nat} {es : Array MapEntry} {clock : Nat} (o : Obj) (h : w.heap[b]? = some (.map es clock)) : (setObj b o).run P w = .ok () (setBlock w b o) := by
  simp [setObj, Sem.run, h, setBlock]
theorem Holds.setMap {w : World} {b : Nat} {es es' : Array MapEntry} {clock clock' : Nat} (hh : Holds Γ (.pt b (.map es clock) :: R) w) : Holds Γ (.pt b (.map es' clock') :: R) (setBlock w b (.map es' clock')) := by
  have hb := hh.block .here
  have hlt := (Array.getElem?_eq_some_iff.1 hb).1
  exact hh.update (o' := .map es' clock') .here rfl rfl rfl (by simp [setBlock, hlt]) rfl (fun c hc => by simp [setBlock, Array.getElem?_setIfInBounds_ne (Ne.symm hc)])
theorem ss_mapUpdate {b : Nat} {M : List (κ × Value)} {kt et : TypeId} {kd : TypeDesc} {k : κ} (D : TDesc P t (.map kt et)) (E : TDesc P kt kd) (hk : K.kind kd) (hx : ev fr x = some (.map (some b))) (hy : ev fr y = some (K.v k)) (hz : ev fr z = some u) (s : Sel L (.map b M) R) :
    SStep P Γ fr L ⟨none, .mapUpdate t x y z, ty, pos, aft, gd⟩ (.map b (mput M k u) :: R) := ss_of (fun a w hf hh => by
  obtain ⟨es, clock, hb, hm, hst, hp⟩ := hh.mapAt s
  have hg : (getObj b).run P w = .ok (.map es clock) w := by simp [getObj, Sem.run, hb]
  rcases findNow_map hk k M es.toList 0 hm with ⟨j, u', g1, g2, g3, ⟨e, g4, g5⟩, g6, _⟩ | ⟨g1, g2, g3, _, g7⟩
  · refine ⟨_, ?_, (hp.setMap (es' := es.modify j fun e => { e with key := K.v k, val := u }) (clock' := clock)).ofMap ?_ (MapKept.stamped_modify hst j _ (fun _ _ => rfl) (fun x _ hx => by
      have g4' : es[j]? = some e := by simpa using g4
      rw [g4'] at hx
      cases hx
      exact g5.symm))⟩
    · simp only [execOp, hf.ev hx, hf.ev hy, hf.ev hz, Instr.mapUpdate, Sem.run_bind, run_underlying D.desc, Result.andThen_ok, hg, Sem.run_pure, K.check E.desc hk]
      rw [run_findKey E.desc g1]
      have g4' : es[j]? = some e := by simpa using g4
      simp [g4', g5, Instr.keyThatStays, K.bits, setObj_map _ hb]
    · have : (es.modify j fun e => { e with key := K.v k, val := u }) = (es.modify j fun e => { e with val := u }) := by
        apply Array.ext'
        simp only [Array.toList_modify]
        apply List.ext_getElem?
        intro i
        simp only [List.getElem?_modify]
        by_cases hi : j = i
        · subst hi; simp [g4, g5]
        · simp [hi]
      rw [this]
      simpa using g6 u
  · refine ⟨_, ?_, (hp.setMap (es' := es.push { key := K.v k, val := u, born := clock }) (clock' := clock + 1)).ofMap ?_ (MapKept.stamped_push hst g7)⟩
    · simp only [execOp, hf.ev hx, hf.ev hy, hf.ev hz, Instr.mapUpdate, Sem.run_bind, run_underlying D.desc, Result.andThen_ok, hg, Sem.run_pure, K.check E.desc hk]
      rw [run_findKey E.desc g1]
      simp [setObj_map _ hb]
    · simpa using g3 u clock)
theorem cs_delete {b : Nat} {M : List (κ × Value)} {kt et : TypeId} {kd : TypeDesc} {k : κ} {dst : Option Tmp} (D : TDesc P t (.map kt et)) (E : TDesc P kt kd) (hk : K.kind kd) (hx : ev fr x = some (.map (some b))) (hy : ev fr y = some (K.v k)) (s : Sel L (.map b M) R) :
    CStep P Γ fr L ⟨some d, .call ⟨.builtin .delete, [x, y].toArray, [t, t2].toArray⟩, ty, pos, aft, gd⟩ (X := Unit) (fun _ => .tuple #[]) (fun _ => .map b (mdel M k) :: R) (fun _ => True) := cs_of (fun a w hf hh => by
  obtain ⟨es, clock, hb, hm, hst, hp⟩ := hh.mapAt s
  have hg : (getObj b).run P w = .ok (.map es clock) w := by simp [getObj, Sem.run, hb]
  have hbi : ∀ {ats : Array TypeId} {cs : Array Bool} {args : Array Value}, builtin .delete ats ty cs args = (do pure (.value (← Builtin.delete_ ats ty args))) := rfl
  rcases findNow_map hk k M es.toList 0 hm with ⟨j, u', g1, g2, g3, _, _, g6⟩ | ⟨g1, g2, g3, g4, _⟩
  · refine ⟨(), _, trivial, ?_, (hp.setMap (es' := es.eraseIdxIfInBounds j) (clock' := clock)).ofMap ?_ (MapKept.stamped_erase hst j)⟩
    · simp [execOp, resolve, hf.ev hx, hf.ev hy, invoke, hbi, Builtin.delete_, run_underlying D.desc, hg, K.check E.desc hk, run_findKey E.desc g1, setObj_map _ hb]
    · have g3' : j < es.size := by simpa using g3
      rw [Array.eraseIdxIfInBounds_eq, dif_pos g3']
      simpa using g6
  · refine ⟨(), _, trivial, ?_, (hp.setMap (es' := es) (clock' := clock)).ofMap ?_ hst⟩
    · simp [execOp, resolve, hf.ev hx, hf.ev hy, invoke, hbi, Builtin.delete_, run_underlying D.desc, hg, K.check E.desc hk, run_findKey E.desc g1, setObj_map _ hb]
    · rw [g4]; exact hm)
theorem cs_makeMap {kt et : TypeId} (κ : Type) [DecidableEq κ] [K : MapKey κ] : CStep P Γ fr L ⟨some d, .makeMap t none, ty, pos, aft, gd⟩ (X := Nat) (fun b => .map (some b)) (fun b => .map b ([] : List (κ × Value)) :: L) (fun _ => True) :=
  cs_of (fun a w hf hh => ⟨w.heap.size, w.alloc (.map #[] 0), trivial, by simp [execOp, Instr.makeMap],
    Holds.ofMap (es := #[]) (clock := 0) (hh.new rfl rfl rfl rfl rfl) rfl (MapKept.stamped_empty 0)⟩)
theorem stamped_nodup {M : List (κ × Value)} {es : List MapEntry} (hm : mapsTo M es) (h : (es.map (·.key)).Nodup) : (M.map (·.1)).Nodup := by
  have e : es.map (·.key) = (M.map (·.1)).map K.v := by
    have := congrArg (List.map Prod.fst) hm
    simpa [List.map_map, Function.comp_def] using this
  rw [e] at h
  exact (List.pairwise_map.1 h).imp fun hne e => hne (congrArg K.v e)
theorem g_mapNodup {φ : Act → World → Prop} {b : Nat} {M : List (κ × Value)} (s : Sel L (.map b M) R) (g : (M.map (·.1)).Nodup → G Γ N fr L φ) : G Γ N fr L φ := fun a w hN hd hf hh => by
  obtain ⟨es, clock, _, hm, hst, _⟩ := hh.mapAt s
  exact g (stamped_nodup hm hst.2.2) a w hN hd hf hh
end
end Go.Sl

namespace Go.Sl
variable {P : Program} {Γ : Ctx} {L R : List Chunk} {N : Nat} {fr : Fr} {Q : Exit → Act → World → Prop} {ops : Array Oper} {rest : List Oper}
variable {d : Nat} {ty : TypeId} {pos : String} {aft : Array Edge} {gd : Option (Nat × Bool)} {x y z : Operand} {v u : Value} {t t2 tx : TypeId}
theorem qs_eqlT {i : IntKind} {a b : Int} (hx : ev fr x = some (.int i a)) (hy : ev fr y = some (.int i b)) (h : a = b) : QStep P Γ fr ⟨some d, .binOp .eql t x y t2, ty, pos, aft, gd⟩ (.bool true) := by
  have := qs_eql (P := P) (Γ := Γ) (d := d) (t := t) (t2 := t2) (ty := ty) (pos := pos) (aft := aft) (gd := gd) hx hy
  rwa [decide_eq_true h] at this
theorem qs_eqlF {i : IntKind} {a b : Int} (hx : ev fr x = some (.int i a)) (hy : ev fr y = some (.int i b)) (h : a ≠ b) : QStep P Γ fr ⟨some d, .binOp .eql t x y t2, ty, pos, aft, gd⟩ (.bool false) := by
  have := qs_eql (P := P) (Γ := Γ) (d := d) (t := t) (t2 := t2) (ty := ty) (pos := pos) (aft := aft) (gd := gd) hx hy
  rwa [decide_eq_false h] at this
theorem qs_eqAT {fs : List (TypeId × Nat)} {xs ys : List Value} {r : Bool} (T : TFields P t fs) (hx : ev fr x = some (.agg xs.toArray)) (hy : ev fr y = some (.agg ys.toArray)) (h : EqFs P 3 xs ys fs r) (hr : r = true) : QStep P Γ fr ⟨some d, .binOp .eql t x y t2, ty, pos, aft, gd⟩ (.bool true) := by
  subst hr; exact qs_eqA hx hy h
theorem qs_neAT {fs : List (TypeId × Nat)} {xs ys : List Value} {r : Bool} (T : TFields P t fs) (hx : ev fr x = some (.agg xs.toArray)) (hy : ev fr y = some (.agg ys.toArray)) (h : EqFs P 3 xs ys fs r) (hr : r = true) : QStep P Γ fr ⟨some d, .binOp .neq t x y t2, ty, pos, aft, gd⟩ (.bool false) := by
  subst hr; exact qs_neA hx hy h
theorem run_eqNilSIn {e : TypeId} {p : Option Addr} {n c : Nat} (h : P.underlying t = some (.slice e)) (w : World) (m : Nat) : (Op.equalIn (m + 1) t (.slice p n c) (.slice none 0 0)).run P w = .ok p.isNone w := by
  cases p <;> simp [Op.equalIn, run_underlying h]
theorem run_eqNilMIn {k e : TypeId} {p : Option Nat} (h : P.underlying t = some (.map k e)) (w : World) (m : Nat) : (Op.equalIn (m + 1) t (.map p) (.map none)).run P w = .ok p.isNone w := by
  cases p <;> simp [Op.equalIn, run_underlying h]
theorem qs_eqNilS {e : TypeId} {p : Option Addr} {n c : Nat} (D : TDesc P t (.slice e)) (hx : ev fr x = some (.slice p n c)) (hy : ev fr y = some (.slice none 0 0)) : QStep P Γ fr ⟨some d, .binOp .eql t x y t2, ty, pos, aft, gd⟩ (.bool p.isNone) :=
  qs_of (fun a w hf => by
    have hb : binOp .eql t (.slice p n c) (.slice none 0 0) = (do pure (.bool (← Op.equal t (.slice p n c) (.slice none 0 0)))) := by cases p <;> rfl
    have h2 : (Op.equal t (.slice p n c) (.slice none 0 0)).run P w = .ok p.isNone w := run_eqNilSIn D.desc w 9999
    simp only [execOp, hf.ev hx, hf.ev hy, eqGuard_at_slice, hb]
    simp [h2])
theorem qs_eqNilM {k e : TypeId} {p : Option Nat} (D : TDesc P t (.map k e)) (hx : ev fr x = some (.map p)) (hy : ev fr y = some (.map none)) : QStep P Γ fr ⟨some d, .binOp .eql t x y t2, ty, pos, aft, gd⟩ (.bool p.isNone) :=
  qs_of (fun a w hf => by
    have hb : binOp .eql t (.map p) (.map none) = (do pure (.bool (← Op.equal t (.map p) (.map none)))) := by cases p <;> rfl
    have h2 : (Op.equal t (.map p) (.map none)).run P w = .ok p.isNone w := run_eqNilMIn D.desc w 9999
    simp only [execOp, hf.ev hx, hf.ev hy, eqGuard_at_map, hb]
    simp [h2])
theorem cs_buildSlice0 {e : TypeId} {n : Nat} (D : TDesc P t (.slice e)) (S : TSize P e n) : CStep P Γ fr L ⟨some d, .buildSlice t 0 (List.toArray []), ty, pos, aft, gd⟩ (X := Nat) (fun b => .slice (some ⟨b, 0, none⟩) 0 0) (fun b => .own (some ⟨b, 0, none⟩) 0 0 n [] e :: L) (fun _ => True) :=
  cs_of (fun a w hf hh => by
    refine ⟨w.heap.size, w.alloc (.cells #[] e), trivial, ?_, ?_⟩
    · simp [execOp, Instr.buildSlice, run_underlying D.desc, run_sizeOf' S.size, Instr.fill, newRow]
      have h0 : Array.range 0 = #[] := by
        apply Array.ext'
        simp
      rw [h0, Array.map_empty]
    · exact (hh.newRow (e := e) (xs := #[])).toOwn (R := L) (xs := []) (by simp) rfl)
theorem ss_delete {κ : Type} [DecidableEq κ] [K : MapKey κ] {b : Nat} {M : List (κ × Value)} {kt et : TypeId} {kd : TypeDesc} {k : κ} (D : TDesc P t (.map kt et)) (E : TDesc P kt kd) (hk : K.kind kd) (hx : ev fr x = some (.map (some b))) (hy : ev fr y = some (K.v k)) (s : Sel L (.map b M) R) :
    SStep P Γ fr L ⟨none, .call ⟨.builtin .delete, [x, y].toArray, [t, t2].toArray⟩, ty, pos, aft, gd⟩ (.map b (mdel M k) :: R) := fun a hf w hh =>
  ((cs_delete (d := 0) (dst := none) (ty := ty) (pos := pos) (aft := aft) (gd := gd) (t2 := t2) D E hk hx hy s) a hf w hh).mono fun _ _ ⟨_, _, _, h⟩ => h
theorem vs_lookS {κ : Type} [DecidableEq κ] [K : MapKey κ] {b : Nat} {M : List (κ × Value)} {kt et : TypeId} {kd : TypeDesc} {k : κ} {zv : Value} (D : TDesc P t (.map kt et)) (E : TDesc P kt kd) (Z : TZero P et zv) (hk : K.kind kd) (hx : ev fr x = some (.map (some b))) (hy : ev fr y = some (K.v k)) (s : Sel L (.map b M) R) (h : mget M k = some v) :
    VStep P Γ fr L ⟨some d, .lookup t x y true, ty, pos, aft, gd⟩ (.tuple #[v, .bool true]) := by
  have := vs_lookup (Γ := Γ) (d := d) (ty := ty) (pos := pos) (aft := aft) (gd := gd) (ok := true) D E Z hk hx hy s
  rwa [h] at this
theorem vs_lookN {κ : Type} [DecidableEq κ] [K : MapKey κ] {b : Nat} {M : List (κ × Value)} {kt et : TypeId} {kd : TypeDesc} {k : κ} {zv : Value} (D : TDesc P t (.map kt et)) (E : TDesc P kt kd) (Z : TZero P et zv) (hk : K.kind kd) (hx : ev fr x = some (.map (some b))) (hy : ev fr y = some (K.v k)) (s : Sel L (.map b M) R) (h : mget M k = none) :
    VStep P Γ fr L ⟨some d, .lookup t x y true, ty, pos, aft, gd⟩ (.tuple #[zv, .bool false]) := by
  have := vs_lookup (Γ := Γ) (d := d) (ty := ty) (pos := pos) (aft := aft) (gd := gd) (ok := true) D E Z hk hx hy s
  rwa [h] at this
theorem vs_lookNil {κ : Type} [DecidableEq κ] [K : MapKey κ] {kt et : TypeId} {kd : TypeDesc} {k : κ} {zv : Value} (D : TDesc P t (.map kt et)) (E : TDesc P kt kd) (Z : TZero P et zv) (hk : K.kind kd) (hx : ev fr x = some (.map none)) (hy : ev fr y = some (K.v k)) :
    QStep P Γ fr ⟨some d, .lookup t x y true, ty, pos, aft, gd⟩ (.tuple #[zv, .bool false]) := vs_lookupNil (ok := true) D E Z hk hx hy
theorem kindI : MapKey.kind Int (.int .i64) := rfl
theorem kindS : MapKey.kind ByteArray .string := rfl
theorem s_qe {op : Op} (K : G Γ N ((d, v) :: fr) L (wpList P ops Q rest)) (hg : Runs ops fr gd := by exact rfl) (hN : Nat.blt d N = true := by exact rfl) (q : QStep P Γ fr ⟨some d, op, ty, pos, aft, gd⟩ v := by first | (apply qs_eqlT; exact rfl; exact rfl; exact heq) | (apply qs_eqlF; exact rfl; exact rfl; exact hne) | fail) : G Γ N fr L (wpList P ops Q (⟨some d, op, ty, pos, aft, gd⟩ :: rest)) := g_q q hg hN K
theorem p_qe {op : Op} {i : Nat} {pl : Plan} (K : GP P ops Q Γ N ((d, v) :: fr) L pl) (hi : ops[i]? = some ⟨some d, op, ty, pos, aft, gd⟩ := by exact rfl) (hg : Runs ops fr gd := by exact rfl) (hN : Nat.blt d N = true := by exact rfl) (q : ∀ Δ, QStep P Δ fr ⟨some d, op, ty, pos, aft, gd⟩ v := by intro Δ; exact (by first | (apply qs_eqlT; exact rfl; exact rfl; exact heq) | (apply qs_eqlF; exact rfl; exact rfl; exact hne) | fail)) : GP P ops Q Γ N fr L (.take i pl) := gp_q q hi hg hN K
theorem s_qa {op : Op} (K : G Γ N ((d, v) :: fr) L (wpList P ops Q rest)) (hg : Runs ops fr gd := by exact rfl) (hN : Nat.blt d N = true := by exact rfl) (q : QStep P Γ fr ⟨some d, op, ty, pos, aft, gd⟩ v := by first | (apply qs_eqAT; exact inferInstance; exact rfl; exact rfl; exact (by (repeat (first | exact EqFs.nil | (apply eqFs_one; exact inferInstance; exact rfl; exact rfl) | (apply eqFs_agg; exact inferInstance; exact (by (repeat (first | exact Cut.zero | apply Cut.take | apply Cut.skip)); first | done | fail); exact (by (repeat (first | exact Cut.zero | apply Cut.take | apply Cut.skip)); first | done | fail)) | exact eqRun_int.mono (by omega) | exact eqRun_string.mono (by omega) | exact eqRun_bool.mono (by omega) | (apply eqRun_structM; exact inferInstance))); first | done | fail); simp; done) | (apply qs_neAT; exact inferInstance; exact rfl; exact rfl; exact (by (repeat (first | exact EqFs.nil | (apply eqFs_one; exact inferInstance; exact rfl; exact rfl) | (apply eqFs_agg; exact inferInstance; exact (by (repeat (first | exact Cut.zero | apply Cut.take | apply Cut.skip)); first | done | fail); exact (by (repeat (first | exact Cut.zero | apply Cut.take | apply Cut.skip)); first | done | fail)) | exact eqRun_int.mono (by omega) | exact eqRun_string.mono (by omega) | exact eqRun_bool.mono (by omega) | (apply eqRun_structM; exact inferInstance))); first | done | fail); simp; done) | fail) : G Γ N fr L (wpList P ops Q (⟨some d, op, ty, pos, aft, gd⟩ :: rest)) := g_q q hg hN K
theorem p_qa {op : Op} {i : Nat} {pl : Plan} (K : GP P ops Q Γ N ((d, v) :: fr) L pl) (hi : ops[i]? = some ⟨some d, op, ty, pos, aft, gd⟩ := by exact rfl) (hg : Runs ops fr gd := by exact rfl) (hN : Nat.blt d N = true := by exact rfl) (q : ∀ Δ, QStep P Δ fr ⟨some d, op, ty, pos, aft, gd⟩ v := by intro Δ; exact (by first | (apply qs_eqAT; exact inferInstance; exact rfl; exact rfl; exact (by (repeat (first | exact EqFs.nil | (apply eqFs_one; exact inferInstance; exact rfl; exact rfl) | (apply eqFs_agg; exact inferInstance; exact (by (repeat (first | exact Cut.zero | apply Cut.take | apply Cut.skip)); first | done | fail); exact (by (repeat (first | exact Cut.zero | apply Cut.take | apply Cut.skip)); first | done | fail)) | exact eqRun_int.mono (by omega) | exact eqRun_string.mono (by omega) | exact eqRun_bool.mono (by omega) | (apply eqRun_structM; exact inferInstance))); first | done | fail); simp; done) | (apply qs_neAT; exact inferInstance; exact rfl; exact rfl; exact (by (repeat (first | exact EqFs.nil | (apply eqFs_one; exact inferInstance; exact rfl; exact rfl) | (apply eqFs_agg; exact inferInstance; exact (by (repeat (first | exact Cut.zero | apply Cut.take | apply Cut.skip)); first | done | fail); exact (by (repeat (first | exact Cut.zero | apply Cut.take | apply Cut.skip)); first | done | fail)) | exact eqRun_int.mono (by omega) | exact eqRun_string.mono (by omega) | exact eqRun_bool.mono (by omega) | (apply eqRun_structM; exact inferInstance))); first | done | fail); simp; done) | fail)) : GP P ops Q Γ N fr L (.take i pl) := gp_q q hi hg hN K
theorem s_mq {op : Op} (K : G Γ N ((d, v) :: fr) L (wpList P ops Q rest)) (hg : Runs ops fr gd := by exact rfl) (hN : Nat.blt d N = true := by exact rfl) (q : QStep P Γ fr ⟨some d, op, ty, pos, aft, gd⟩ v := by first | (apply qs_eqNilS; exact inferInstance; exact rfl; exact rfl) | (apply qs_eqNilM; exact inferInstance; exact rfl; exact rfl) | (apply qs_slice00; exact inferInstance; exact inferInstance; exact rfl) | (apply vs_lookNil (κ := Int); exact inferInstance; exact inferInstance; exact inferInstance; exact kindI; exact rfl; exact rfl) | (apply vs_lookNil (κ := ByteArray); exact inferInstance; exact inferInstance; exact inferInstance; exact kindS; exact rfl; exact rfl) | fail) : G Γ N fr L (wpList P ops Q (⟨some d, op, ty, pos, aft, gd⟩ :: rest)) := g_q q hg hN K
theorem p_mq {op : Op} {i : Nat} {pl : Plan} (K : GP P ops Q Γ N ((d, v) :: fr) L pl) (hi : ops[i]? = some ⟨some d, op, ty, pos, aft, gd⟩ := by exact rfl) (hg : Runs ops fr gd := by exact rfl) (hN : Nat.blt d N = true := by exact rfl) (q : ∀ Δ, QStep P Δ fr ⟨some d, op, ty, pos, aft, gd⟩ v := by intro Δ; exact (by first | (apply qs_eqNilS; exact inferInstance; exact rfl; exact rfl) | (apply qs_eqNilM; exact inferInstance; exact rfl; exact rfl) | (apply qs_slice00; exact inferInstance; exact inferInstance; exact rfl) | (apply vs_lookNil (κ := Int); exact inferInstance; exact inferInstance; exact inferInstance; exact kindI; exact rfl; exact rfl) | (apply vs_lookNil (κ := ByteArray); exact inferInstance; exact inferInstance; exact inferInstance; exact kindS; exact rfl; exact rfl) | fail)) : GP P ops Q Γ N fr L (.take i pl) := gp_q q hi hg hN K
section
variable {e : TypeId} {n len cap m k : Nat} {p : Option Addr} {zv : Value} {xs news : List Value} {i : Nat} {pl : Plan}
theorem s_app (K : ∀ q c, G Γ N ((d, .slice q (len + m) c) :: fr) (.own q (len + m) c n (xs ++ news) e :: R) (wpList P ops Q rest)) (hg : Runs ops fr gd := by exact rfl) (hN : Nat.blt d N = true := by exact rfl)
    (D : TDesc P t (.slice e) := by exact inferInstance) (S : TSize P e n := by exact inferInstance) (Z : TZero P e zv := by exact inferInstance) (B : TBytes P e k := by exact inferInstance) (hx : ev fr x = some (.slice p len cap) := by exact rfl) (hy : ev fr y = some u := by exact rfl)
    (s : Sel L (.own p len cap n xs e) R := by (repeat (first | exact Sel.here | apply Sel.there)); first | done | fail) (src : SrcIs P Γ L n tx u m news := by first | (apply srcRow; exact inferInstance; exact (by (repeat (first | exact Sel.here | apply Sel.there)); first | done | fail); exact (by (repeat (first | exact Cut.zero | apply Cut.take | apply Cut.skip)); first | done | fail); exact rfl) | (apply srcOwn; exact inferInstance; exact (by (repeat (first | exact Sel.here | apply Sel.there)); first | done | fail)) | (apply srcNil; exact inferInstance) | (apply srcString; exact inferInstance) | exact hsrc | fail) (hzn : zv.cells.size = n := by exact rfl) (hb : (len + m) * k ≤ 140737488355328 := by omega) (hb2 : len + m ≤ 140737488355328 := by omega) :
    G Γ N fr L (wpList P ops Q (⟨some d, .call ⟨.builtin .append, [x, y].toArray, [t, tx].toArray⟩, ty, pos, aft, gd⟩ :: rest)) := g_c (cs_append D S Z B hx hy s src hzn hb hb2) hg hN fun q _ => K q.1 q.2
theorem p_app (K : ∀ q c, GP P ops Q Γ N ((d, .slice q (len + m) c) :: fr) (.own q (len + m) c n (xs ++ news) e :: R) pl) (hi : ops[i]? = some ⟨some d, .call ⟨.builtin .append, [x, y].toArray, [t, tx].toArray⟩, ty, pos, aft, gd⟩ := by exact rfl) (hg : Runs ops fr gd := by exact rfl) (hN : Nat.blt d N = true := by exact rfl)
    (D : TDesc P t (.slice e) := by exact inferInstance) (S : TSize P e n := by exact inferInstance) (Z : TZero P e zv := by exact inferInstance) (B : TBytes P e k := by exact inferInstance) (hx : ev fr x = some (.slice p len cap) := by exact rfl) (hy : ev fr y = some u := by exact rfl)
    (s : Sel L (.own p len cap n xs e) R := by (repeat (first | exact Sel.here | apply Sel.there)); first | done | fail) (src : SrcIs P Γ L n tx u m news := by first | (apply srcRow; exact inferInstance; exact (by (repeat (first | exact Sel.here | apply Sel.there)); first | done | fail); exact (by (repeat (first | exact Cut.zero | apply Cut.take | apply Cut.skip)); first | done | fail); exact rfl) | (apply srcOwn; exact inferInstance; exact (by (repeat (first | exact Sel.here | apply Sel.there)); first | done | fail)) | (apply srcNil; exact inferInstance) | (apply srcString; exact inferInstance) | exact hsrc | fail) (hzn : zv.cells.size = n := by exact rfl) (hb : (len + m) * k ≤ 140737488355328 := by omega) (hb2 : len + m ≤ 140737488355328 := by omega) :
    GP P ops Q Γ N fr L (.one i pl) := gp_c (cs_append D S Z B hx hy s src hzn hb hb2) hi hg hN fun q _ => K q.1 q.2
theorem s_b0 (K : ∀ b, G Γ N ((d, .slice (some ⟨b, 0, none⟩) 0 0) :: fr) (.own (some ⟨b, 0, none⟩) 0 0 n [] e :: L) (wpList P ops Q rest)) (hg : Runs ops fr gd := by exact rfl) (hN : Nat.blt d N = true := by exact rfl)
    (D : TDesc P t (.slice e) := by exact inferInstance) (S : TSize P e n := by exact inferInstance) : G Γ N fr L (wpList P ops Q (⟨some d, .buildSlice t 0 (List.toArray []), ty, pos, aft, gd⟩ :: rest)) := g_n (cs_buildSlice0 D S) hg hN K
theorem p_b0 (K : ∀ b, GP P ops Q Γ N ((d, .slice (some ⟨b, 0, none⟩) 0 0) :: fr) (.own (some ⟨b, 0, none⟩) 0 0 n [] e :: L) pl) (hi : ops[i]? = some ⟨some d, .buildSlice t 0 (List.toArray []), ty, pos, aft, gd⟩ := by exact rfl) (hg : Runs ops fr gd := by exact rfl) (hN : Nat.blt d N = true := by exact rfl)
    (D : TDesc P t (.slice e) := by exact inferInstance) (S : TSize P e n := by exact inferInstance) : GP P ops Q Γ N fr L (.one i pl) := gp_n (cs_buildSlice0 D S) hi hg hN K
variable {op : Op} {M : List Chunk}
theorem s_mv (K : G Γ N ((d, v) :: fr) L (wpList P ops Q rest)) (hg : Runs ops fr gd := by exact rfl) (hN : Nat.blt d N = true := by exact rfl) (q : VStep P Γ fr L ⟨some d, op, ty, pos, aft, gd⟩ v := by first | (apply vs_lookS (κ := Int); exact inferInstance; exact inferInstance; exact inferInstance; exact kindI; exact rfl; exact rfl; exact (by (repeat (first | exact Sel.here | apply Sel.there)); first | done | fail); assumption) | (apply vs_lookN (κ := Int); exact inferInstance; exact inferInstance; exact inferInstance; exact kindI; exact rfl; exact rfl; exact (by (repeat (first | exact Sel.here | apply Sel.there)); first | done | fail); assumption) | (apply vs_lookS (κ := ByteArray); exact inferInstance; exact inferInstance; exact inferInstance; exact kindS; exact rfl; exact rfl; exact (by (repeat (first | exact Sel.here | apply Sel.there)); first | done | fail); assumption) | (apply vs_lookN (κ := ByteArray); exact inferInstance; exact inferInstance; exact inferInstance; exact kindS; exact rfl; exact rfl; exact (by (repeat (first | exact Sel.here | apply Sel.there)); first | done | fail); assumption) | fail) : G Γ N fr L (wpList P ops Q (⟨some d, op, ty, pos, aft, gd⟩ :: rest)) := g_v q hg hN K
theorem p_mv (K : GP P ops Q Γ N ((d, v) :: fr) L pl) (hi : ops[i]? = some ⟨some d, op, ty, pos, aft, gd⟩ := by exact rfl) (hg : Runs ops fr gd := by exact rfl) (hN : Nat.blt d N = true := by exact rfl) (q : VStep P Γ fr L ⟨some d, op, ty, pos, aft, gd⟩ v := by first | (apply vs_lookS (κ := Int); exact inferInstance; exact inferInstance; exact inferInstance; exact kindI; exact rfl; exact rfl; exact (by (repeat (first | exact Sel.here | apply Sel.there)); first | done | fail); assumption) | (apply vs_lookN (κ := Int); exact inferInstance; exact inferInstance; exact inferInstance; exact kindI; exact rfl; exact rfl; exact (by (repeat (first | exact Sel.here | apply Sel.there)); first | done | fail); assumption) | (apply vs_lookS (κ := ByteArray); exact inferInstance; exact inferInstance; exact inferInstance; exact kindS; exact rfl; exact rfl; exact (by (repeat (first | exact Sel.here | apply Sel.there)); first | done | fail); assumption) | (apply vs_lookN (κ := ByteArray); exact inferInstance; exact inferInstance; exact inferInstance; exact kindS; exact rfl; exact rfl; exact (by (repeat (first | exact Sel.here | apply Sel.there)); first | done | fail); assumption) | fail) : GP P ops Q Γ N fr L (.one i pl) := gp_v q hi hg hN K
theorem s_ms (K : G Γ N fr M (wpList P ops Q rest)) (hg : Runs ops fr gd := by exact rfl) (q : SStep P Γ fr L ⟨none, op, ty, pos, aft, gd⟩ M := by first | (apply ss_mapUpdate (κ := Int); exact inferInstance; exact inferInstance; exact kindI; exact rfl; exact rfl; exact rfl; exact (by (repeat (first | exact Sel.here | apply Sel.there)); first | done | fail)) | (apply ss_mapUpdate (κ := ByteArray); exact inferInstance; exact inferInstance; exact kindS; exact rfl; exact rfl; exact rfl; exact (by (repeat (first | exact Sel.here | apply Sel.there)); first | done | fail)) | (apply ss_delete (κ := Int); exact inferInstance; exact inferInstance; exact kindI; exact rfl; exact rfl; exact (by (repeat (first | exact Sel.here | apply Sel.there)); first | done | fail)) | (apply ss_delete (κ := ByteArray); exact inferInstance; exact inferInstance; exact kindS; exact rfl; exact rfl; exact (by (repeat (first | exact Sel.here | apply Sel.there)); first | done | fail)) | fail) : G Γ N fr L (wpList P ops Q (⟨none, op, ty, pos, aft, gd⟩ :: rest)) := g_s q hg K
theorem p_ms (K : GP P ops Q Γ N fr M pl) (hi : ops[i]? = some ⟨none, op, ty, pos, aft, gd⟩ := by exact rfl) (hg : Runs ops fr gd := by exact rfl) (q : SStep P Γ fr L ⟨none, op, ty, pos, aft, gd⟩ M := by first | (apply ss_mapUpdate (κ := Int); exact inferInstance; exact inferInstance; exact kindI; exact rfl; exact rfl; exact rfl; exact (by (repeat (first | exact Sel.here | apply Sel.there)); first | done | fail)) | (apply ss_mapUpdate (κ := ByteArray); exact inferInstance; exact inferInstance; exact kindS; exact rfl; exact rfl; exact rfl; exact (by (repeat (first | exact Sel.here | apply Sel.there)); first | done | fail)) | (apply ss_delete (κ := Int); exact inferInstance; exact inferInstance; exact kindI; exact rfl; exact rfl; exact (by (repeat (first | exact Sel.here | apply Sel.there)); first | done | fail)) | (apply ss_delete (κ := ByteArray); exact inferInstance; exact inferInstance; exact kindS; exact rfl; exact rfl; exact (by (repeat (first | exact Sel.here | apply Sel.there)); first | done | fail)) | fail) : GP P ops Q Γ N fr L (.one i pl) := gp_s q hi hg K
theorem s_mkI (K : ∀ b, G Γ N ((d, .map (some b)) :: fr) (.map b ([] : List (Int × Value)) :: L) (wpList P ops Q rest)) (hg : Runs ops fr gd := by exact rfl) (hN : Nat.blt d N = true := by exact rfl) : G Γ N fr L (wpList P ops Q (⟨some d, .makeMap t none, ty, pos, aft, gd⟩ :: rest)) := g_n (cs_makeMap (kt := 0) (et := 0) Int) hg hN K
theorem s_mkS (K : ∀ b, G Γ N ((d, .map (some b)) :: fr) (.map b ([] : List (ByteArray × Value)) :: L) (wpList P ops Q rest)) (hg : Runs ops fr gd := by exact rfl) (hN : Nat.blt d N = true := by exact rfl) : G Γ N fr L (wpList P ops Q (⟨some d, .makeMap t none, ty, pos, aft, gd⟩ :: rest)) := g_n (cs_makeMap (kt := 0) (et := 0) ByteArray) hg hN K
theorem p_tc {f : FuncId} {xs : List Operand} {vs : List Value} {tys : Array TypeId} {A C : List Chunk} {mm : HP} [Cb : Callable P f] {X : Type} {ret : X → Value} {B : X → List Chunk} {φ : X → Prop} (fn : Does P f vs A ret B φ) (hd : HP.disj Γ.hf mm) (hk : All C mm)
    (K : ∀ x m', φ x → HP.disj Γ.hf m' → All [] m' → GP P ops Q (Γ.add m') N ((d, ret x) :: fr) (B x ++ R ++ C) pl) (hi : ops[i]? = some ⟨some d, .call ⟨.value (.func f), xs.toArray, tys⟩, ty, pos, aft, gd⟩ := by exact rfl) (hg : Runs ops fr gd := by exact rfl) (hN : Nat.blt d N = true := by exact rfl) (he : Evs fr xs vs := by (repeat (first | exact Evs.nil | refine Evs.cons rfl ?_)); first | done | fail) (tk : Take L A R := by (repeat (first | exact Take.nil | apply Take.cons | exact Sel.here | apply Sel.there)); first | done | fail) :
    GP P ops Q (Γ.add mm) N fr L (.thaw i pl) := gp_thaw (C' := fun _ => []) (R' := fun x => B x ++ R ++ C) hd hk (cs_call fn he tk) (fun _ => .nil) K hi hg hN
theorem p_ta {C : List Chunk} {mm : HP} (hd : HP.disj Γ.hf mm) (hk : All C mm) (K : ∀ q c m', HP.disj Γ.hf m' → All [] m' → GP P ops Q (Γ.add m') N ((d, .slice q (len + m) c) :: fr) (.own q (len + m) c n (xs ++ news) e :: R ++ C) pl) (hi : ops[i]? = some ⟨some d, .call ⟨.builtin .append, [x, y].toArray, [t, tx].toArray⟩, ty, pos, aft, gd⟩ := by exact rfl) (hg : Runs ops fr gd := by exact rfl) (hN : Nat.blt d N = true := by exact rfl)
    (D : TDesc P t (.slice e) := by exact inferInstance) (S : TSize P e n := by exact inferInstance) (Z : TZero P e zv := by exact inferInstance) (B : TBytes P e k := by exact inferInstance) (hx : ev fr x = some (.slice p len cap) := by exact rfl) (hy : ev fr y = some u := by exact rfl)
    (s : Sel L (.own p len cap n xs e) R := by (repeat (first | exact Sel.here | apply Sel.there)); first | done | fail) (src : SrcIs P (Γ.add mm) L n tx u m news := by first | (apply srcRow; exact inferInstance; exact (by (repeat (first | exact Sel.here | apply Sel.there)); first | done | fail); exact (by (repeat (first | exact Cut.zero | apply Cut.take | apply Cut.skip)); first | done | fail); exact rfl) | (apply srcOwn; exact inferInstance; exact (by (repeat (first | exact Sel.here | apply Sel.there)); first | done | fail)) | (apply srcNil; exact inferInstance) | (apply srcString; exact inferInstance) | exact hsrc | fail) (hzn : zv.cells.size = n := by exact rfl) (hb : (len + m) * k ≤ 140737488355328 := by omega) (hb2 : len + m ≤ 140737488355328 := by omega) :
    GP P ops Q (Γ.add mm) N fr L (.thaw i pl) := gp_thaw (C' := fun _ => []) (R' := fun q => .own q.1 (len + m) q.2 n (xs ++ news) e :: R ++ C) hd hk (cs_append D S Z B hx hy s src hzn hb hb2) (fun _ => .nil) (fun q m' _ h1 h2 => K q.1 q.2 m' h1 h2) hi hg hN
end
structure SlAt (C : Chunk) (n : Nat) (p : Option Addr) (m : Nat) (news : List Value) : Prop where
  len : news.length = m * n
  one : news.all (·.oneCell') = true
  nil : p = none → m = 0
  reads : ∀ (j : Nat) (v : Value), news[j]? = some v → ∃ b o, p = some ⟨b, o, none⟩ ∧ Reads C ⟨b, o + j, none⟩ v
theorem srcAt {C : Chunk} {n m c : Nat} {p : Option Addr} {e : TypeId} {news : List Value} (h : SlAt C n p m news) (D : TDesc P tx (.slice e)) (s : Sel L C R) (hn : 0 < n) : SrcIs P Γ L n tx (.slice p m c) m news := fun w hh => by
  by_cases hm : m = 0
  · subst hm
    obtain rfl : news = [] := List.eq_nil_of_length_eq_zero (by rw [h.len, Nat.zero_mul])
    exact srcNil D w hh
  · have hpos : 0 < news.length := by rw [h.len]; exact Nat.mul_pos (by omega) hn
    obtain ⟨b, o, rfl, _⟩ := h.reads 0 news[0] (by simp [hpos])
    refine srcReads (R := R) D s h.len h.one (fun j v hv => ?_) w hh
    obtain ⟨b', o', e1, r⟩ := h.reads j v hv
    simp only [Option.some.injEq, Addr.mk.injEq, and_true] at e1
    obtain ⟨rfl, rfl⟩ := e1
    exact r
theorem SlAt.none {C : Chunk} {n : Nat} : SlAt C n none 0 [] := ⟨by simp, rfl, fun _ => rfl, fun j v h => by simp at h⟩
theorem g_drawMI {id : Nat} {l : List Oper} [M : Mixed P] (m : Nat) {Mp : List (Int × Value)} (plan : Plan) (h : ∀ k, HP.disj Γ.hf k → All R k → GP P l.toArray Q (Γ.add k) N fr [.map m Mp] plan) (hp : planOk l plan = true := by kernel_rfl) (s : Sel L (.map m Mp) R := by (repeat (first | exact Sel.here | apply Sel.there)); first | done | fail) :
    G Γ N fr L ((Code.region id l.toArray true).wp P Q) := g_draw plan hp s.but h
theorem g_drawO {id : Nat} {l : List Oper} [M : Mixed P] {p : Option Addr} {len cap n : Nat} {xs : List Value} {e : TypeId} (plan : Plan) (s : Sel L (.own p len cap n xs e) R) (h : ∀ k, HP.disj Γ.hf k → All R k → GP P l.toArray Q (Γ.add k) N fr [.own p len cap n xs e] plan) (hp : planOk l plan = true := by kernel_rfl) :
    G Γ N fr L ((Code.region id l.toArray true).wp P Q) := g_draw plan hp s.but h
theorem g_drawO2 {id : Nat} {l : List Oper} [M : Mixed P] {p p' : Option Addr} {len cap n len' cap' n' : Nat} {xs xs' : List Value} {e e' : TypeId} {R1 : List Chunk} (plan : Plan) (s : Sel L (.own p len cap n xs e) R1) (s' : Sel R1 (.own p' len' cap' n' xs' e') R) (h : ∀ k, HP.disj Γ.hf k → All R k → GP P l.toArray Q (Γ.add k) N fr [.own p len cap n xs e, .own p' len' cap' n' xs' e'] plan) (hp : planOk l plan = true := by kernel_rfl) :
    G Γ N fr L ((Code.region id l.toArray true).wp P Q) := g_take (.cons s (.cons s' .nil)) (g_draw plan hp (take_head2 R) h)
theorem does_noC {P : Program} {f : FuncId} {args : List Value} {X : Type} {A : List Chunk} {ret : X → Value} {B : X → List Chunk} {φ : X → Prop} (d : Does P f args (A ++ [.pure True]) ret (fun x => B x ++ [.pure True]) φ) : Does P f args A ret B φ := fun Γ w hh => by
  refine (d Γ w (hh.mono fun h al => all_append.2 ⟨h, fun _ => none, fun _ => .inr rfl, HP.sub.refl _, (fun _ _ e => by cases e), al, ⟨fun _ => none, fun _ => none, fun _ => .inl rfl, (fun _ _ e => by cases e), (fun _ _ e => by cases e), trivial, trivial⟩⟩)).mono ?_
  rintro e w' ⟨x, hx, rfl, hB⟩
  exact ⟨x, hx, rfl, hB.mono fun _ al => al.drop_right⟩
theorem mget_self {κ : Type} [DecidableEq κ] [MapKey κ] (M : List (κ × Value)) (k : κ) (v : Value) : mget (mput M k v) k = some v := by
  induction M with
  | nil => simp [mput, mget]
  | cons a M ih =>
    obtain ⟨a, u⟩ := a
    simp only [mput]
    by_cases h : k = a
    · simp [h, mget]
    · simp [h, mget, ih]
theorem mdel_one {κ : Type} [DecidableEq κ] [MapKey κ] (k : κ) (v : Value) : mdel (mput ([] : List (κ × Value)) k v) k = [] := by simp [mput, mdel]
theorem SlAt.empty {C : Chunk} {n : Nat} {p : Option Addr} : SlAt C n p 0 [] := ⟨by simp, rfl, fun _ => rfl, fun j v h => by simp at h⟩
theorem flat_len {α : Type} {f : α → List Value} {n : Nat} (hf : ∀ a, (f a).length = n) (l : List α) : (l.flatMap f).length = l.length * n := by
  induction l with
  | nil => simp
  | cons a l ih => simp [List.flatMap_cons, hf, ih, Nat.succ_mul, Nat.add_comm]
theorem flat_get {α : Type} {f : α → List Value} {n : Nat} (hf : ∀ a, (f a).length = n) : ∀ (l : List α) (i : Nat) (a : α), l[i]? = some a → ∀ (j : Nat) (v : Value), (f a)[j]? = some v → (l.flatMap f)[i * n + j]? = some v
  | [], i, a, h, j, v, hj => by simp at h
  | b :: l, 0, a, h, j, v, hj => by
    obtain rfl : b = a := by simpa using h
    have := (List.getElem?_eq_some_iff.1 hj).1
    rw [List.flatMap_cons, Nat.zero_mul, Nat.zero_add, List.getElem?_append_left this]
    exact hj
  | b :: l, i + 1, a, h, j, v, hj => by
    rw [List.flatMap_cons, List.getElem?_append_right (by rw [hf, Nat.succ_mul]; omega), hf, show (i + 1) * n + j - n = i * n + j by rw [Nat.succ_mul]; omega]
    exact flat_get hf l i a (by simpa using h) j v hj
theorem flat_snoc {α : Type} (f : α → List Value) (l : List α) (a : α) : (l ++ [a]).flatMap f = l.flatMap f ++ f a := by simp
theorem own_at {α : Type} {f : α → List Value} {n b len cap : Nat} {e : TypeId} (hf : ∀ a, (f a).length = n) {l : List α} {i : Nat} {a : α} (h : l[i]? = some a) : ∀ (j : Nat) (v : Value), (f a)[j]? = some v → Reads (.own (some ⟨b, 0, none⟩) len cap n (l.flatMap f) e) ⟨b, 0 + i * n + j, none⟩ v := fun j v hj => by
  rw [Nat.zero_add]
  exact reads_own (flat_get hf l i a h j v hj)
theorem does_pre {f : FuncId} {args : List Value} {X : Type} {A A' : List Chunk} {ret : X → Value} {B : X → List Chunk} {φ : X → Prop} (h : ∀ hp, All A' hp → All A hp) (d : Does P f args A ret B φ) : Does P f args A' ret B φ := fun Γ w hh => d Γ w (hh.mono h)
theorem does_post {f : FuncId} {args : List Value} {X : Type} {A : List Chunk} {ret : X → Value} {B : X → List Chunk} {φ ψ : X → Prop} (h : ∀ x, φ x → ψ x) (d : Does P f args A ret B φ) : Does P f args A ret B ψ := fun Γ w hh => (d Γ w hh).mono fun e w' ⟨x, hx, r⟩ => ⟨x, h x hx, r⟩
def mapO {κ : Type} [DecidableEq κ] [MapKey κ] : Option Nat → List (κ × Value) → HP → Prop
  | none, M => fun _ => M = []
  | some b, M => mapS b M
end Go.Sl

namespace Go.Sl
variable {P : Program} {Γ : Ctx} {L R : List Chunk} {N : Nat} {fr : Fr}
variable {d : Nat} {ty : TypeId} {pos : String} {aft : Array Edge} {gd : Option (Nat × Bool)} {x y : Operand} {v : Value} {t : TypeId}
theorem Holds.ownRow {w : World} {b len cap n : Nat} {xs : List Value} {e : TypeId} (hh : Holds Γ L w) (s : Sel L (.own (some ⟨b, 0, none⟩) len cap n xs e) R) (hp : 0 < xs.length) :
    ∃ junk, (xs.length = len * n ∧ xs.all (·.oneCell') = true) ∧ junk.length = (cap - len) * n ∧ len ≤ cap ∧ Holds Γ (.row b (xs ++ junk) e :: R) w := by
  have hs := hh.sel s
  obtain ⟨hp', hd, hsub, h1, h2, dj, s1, s2, hc, hr⟩ := hs.own
  obtain ⟨⟨hl, ho⟩, ⟨e1, _⟩ | ⟨b', junk, e1, e3, e4, e2⟩⟩ := hc
  · rw [hl, e1, Nat.zero_mul] at hp; omega
  · simp only [Option.some.injEq, Addr.mk.injEq, and_true] at e1
    subst e1
    exact ⟨junk, ⟨hl, ho⟩, e3, e4, hs.os, hs.tape, hs.output, hs.frz, hs.frame, hp', hd, hsub, h1, h2, dj, s1, s2, e2, hr⟩
theorem ss_storeOwn {b k len cap n : Nat} {xs : List Value} {e : TypeId} (T : TOne P t) (hx : ev fr x = some (.pointer (some ⟨b, k, none⟩))) (hy : ev fr y = some v) (h1 : v.oneCell' = true) (s : Sel L (.own (some ⟨b, 0, none⟩) len cap n xs e) R) (hk : k < xs.length) :
    SStep P Γ fr L ⟨none, .store t x y, ty, pos, aft, gd⟩ (.own (some ⟨b, 0, none⟩) len cap n (xs.set k v) e :: R) := fun a hf w hh => by
  obtain ⟨junk, ⟨hl, ho⟩, e3, e4, hrow⟩ := hh.ownRow s (by omega)
  haveI : TSize P t 1 := ⟨T.size⟩
  have hst := ss_storeE (P := P) (Γ := Γ) (fr := fr) (t := t) (ty := ty) (pos := pos) (aft := aft) (gd := gd) (n := 1) (vs := [v]) (ys := (xs ++ junk).take k ++ [v] ++ (xs ++ junk).drop (k + [v].length)) hx hy (.here (L := R)) (by cases v <;> simp_all [Value.cells, Value.oneCell']) rfl (by simp [h1]) (Nat.zero_le _) ⟨by simp only [List.length_append, List.length_cons, List.length_nil]; omega, rfl⟩ a hf w hrow
  refine hst.mono fun u w' h => h.mono fun _ ⟨k1, k2, dj', t1, t2, hc', hr'⟩ => ⟨k1, k2, dj', t1, t2, ⟨⟨by simpa using hl, ?_⟩, .inr ⟨b, junk, rfl, e3, e4, ?_⟩⟩, hr'⟩
  · rw [List.all_eq_true] at ho ⊢
    intro z hz
    rcases List.mem_or_eq_of_mem_set hz with h | h
    · exact ho z h
    · rw [h]; exact h1
  · have hc'' : k1 b = some (.cells ((xs ++ junk).take k ++ [v] ++ (xs ++ junk).drop (k + [v].length)).toArray e (0, 0)) := hc'
    rw [hc'']
    congr 2
    have : (xs ++ junk).take k ++ [v] ++ (xs ++ junk).drop (k + [v].length) = (xs ++ junk).set k v := by
      rw [List.set_eq_take_append_cons_drop, if_pos (by simp only [List.length_append]; omega)]
      simp
    rw [this, List.set_append_left _ _ hk]
abbrev Pile (H : HP) : Chunk := .asn fun h => h = H
theorem SlAt.grow {H H' : HP} {n m : Nat} {p : Option Addr} {news : List Value} (h : SlAt (Pile H) n p m news) (s : HP.sub H H') : SlAt (Pile H') n p m news := by
  refine ⟨h.len, h.one, h.nil, fun j v hv => ?_⟩
  obtain ⟨b, o, e, r⟩ := h.reads j v hv
  refine ⟨b, o, e, fun hp hc => ?_⟩
  obtain ⟨xs, e, fz, h1, h2, h3⟩ := r H rfl
  have hc' : hp = H' := hc
  subst hc'
  exact ⟨xs, e, fz, s _ _ h1, h2, h3⟩
theorem g_pile {φ : Act → World → Prop} {H : HP} {R1 : List Chunk} {p : Option Addr} {m c n : Nat} {xs : List Value} {e : TypeId} (s1 : Sel L (.own p m c n xs e) R1) (s2 : Sel R1 (Pile H) R)
    (g : ∀ H', HP.sub H H' → SlAt (Pile H') n p m xs → G Γ N fr (Pile H' :: R) φ) : G Γ N fr L φ := fun a w hN hd hf hh => by
  have hs := hh.take (Take.cons s1 (Take.cons s2 .nil))
  obtain ⟨hp, hdj, hsub, h1, r1, dj1, a1, a2, hc1, h2, r2, dj2, b1, b2, hc2, hr⟩ := hs.own
  have hH : h2 = H := hc2
  subst hH
  have hd12 : HP.disj h1 h2 := (HP.disj_sub dj1.symm b1).symm
  have hd1r : HP.disj h1 r2 := (HP.disj_sub dj1.symm b2).symm
  refine g (HP.union h1 h2) (HP.sub_union_right hd12) ?_ a w hN hd hf ⟨hs.os, hs.tape, hs.output, hs.frz, hs.frame, hp, hdj, hsub, HP.union h1 h2, r2, HP.disj_union hd1r dj2, HP.union_sub a1 (b1.trans a2), b2.trans a2, rfl, hr⟩
  obtain ⟨⟨hl, ho⟩, hcase⟩ := hc1
  refine ⟨hl, ho, ?_, fun j v hv => ?_⟩
  · rintro rfl
    rcases hcase with ⟨e1, _⟩ | ⟨b, junk, e1, _⟩
    · exact e1
    · cases e1
  · rcases hcase with ⟨e1, _⟩ | ⟨b, junk, e1, e3, e4, e2⟩
    · have : xs = [] := List.eq_nil_of_length_eq_zero (by rw [hl, e1, Nat.zero_mul])
      subst this
      simp at hv
    · subst e1
      refine ⟨b, 0, rfl, fun hp' hc' => ?_⟩
      have hc'' : hp' = HP.union h1 h2 := hc'
      subst hc''
      refine ⟨_, _, _, HP.sub_union_left _ _ _ _ e2, rfl, ?_⟩
      have hj := (List.getElem?_eq_some_iff.1 hv).1
      simp only [List.getElem?_toArray, Nat.zero_add]
      rw [List.getElem?_append_left hj]
      exact hv
end Go.Sl

namespace Go.Sl
variable {P : Program} {Γ : Ctx} {L R : List Chunk} {N : Nat} {fr : Fr}
variable {d : Nat} {ty : TypeId} {pos : String} {aft : Array Edge} {gd : Option (Nat × Bool)} {f : FuncId} {xs : List Operand} {vs : List Value} {tys : Array TypeId} {C : List Chunk} {k H : HP}
theorem cs_callP [Cb : Callable P f] {X : Type} {ret : X → Value} {φ : X → Prop} (fn : Does P f vs [Pile H] ret (fun _ => [Pile H]) φ) (hd : HP.disj Γ.hf k) (hk : All C k) (he : Evs fr xs vs) (s : Sel C (Pile H) R) :
    CStep P (Γ.add k) fr L ⟨some d, .call ⟨.value (.func f), xs.toArray, tys⟩, ty, pos, aft, gd⟩ ret (fun _ => L) φ := by
  intro a hf w hh
  unfold opRes
  rw [run_call he hf _ rfl]
  obtain ⟨h, dh, sh, al⟩ := hh.own
  obtain ⟨h1, _, _, sA, _, hc, _⟩ := All.sel s hk
  have hc' : h1 = H := hc
  subst hc'
  have hfr : HP.sub (HP.union Γ.hf k) (wheap w) := hh.frame
  have fk : HP.sub k (wheap w) := (HP.sub_union_right hd).trans hfr
  have ff : HP.sub Γ.hf (wheap w) := (HP.sub_union_left _ _).trans hfr
  obtain ⟨df, dk⟩ := HP.disj_of_union dh
  let kR : HP := k.cut (fun b => (h1 b).isNone)
  let Γ' : Ctx := { Γ with hf := HP.union (HP.union Γ.hf kR) h }
  have sR : HP.sub kR k := HP.cut_sub _ _
  have dAR : HP.disj h1 kR := fun b => by
    show h1 b = none ∨ k.cut (fun b => (h1 b).isNone) b = none
    unfold HP.cut
    cases hq : h1 b with
    | none => exact .inl rfl
    | some o => right; simp [hq]
  have H0 : Holds Γ' [Pile h1] w := by
    refine ⟨hh.os, hh.tape, hh.output, hh.frz, HP.union_sub (HP.union_sub ff (sR.trans fk)) sh, h1, ?_, sA.trans fk, h1, fun _ => none, fun _ => .inr rfl, HP.sub.refl _, (fun _ _ e => by cases e), rfl, trivial⟩
    exact HP.disj_union (HP.disj_union (HP.disj_sub hd.symm sA).symm dAR.symm) (HP.disj_sub dk sA).symm
  refine (fn Γ' w H0).mono ?_
  rintro e w' ⟨x, hx, rfl, hB⟩
  refine ⟨_, rfl, x, hx, rfl, ?_⟩
  obtain ⟨h', dh', sh', g1, _, _, t1, _, gc, _⟩ := hB.own
  have gc' : g1 = h1 := gc
  subst gc'
  have hf' : HP.sub (HP.union (HP.union Γ.hf kR) h) (wheap w') := hB.frame
  have fR : HP.sub (HP.union Γ.hf kR) (wheap w') := (HP.sub_union_left _ _).trans hf'
  have dfR : HP.disj Γ.hf kR := (HP.disj_sub hd.symm sR).symm
  refine ⟨hB.os, hB.tape, hB.output, hB.frz, HP.union_sub ((HP.sub_union_left _ _).trans fR) ?_, h, dh, (HP.sub_union_right ?_).trans hf', al⟩
  · intro b o hb
    cases hg : g1 b with
    | some o' =>
      have e1 := sA _ _ hg
      rw [hb] at e1
      cases e1
      exact sh' _ _ (t1 _ _ hg)
    | none =>
      exact fR _ _ (HP.sub_union_right dfR _ _ (by
        show k.cut (fun b => (g1 b).isNone) b = some o
        unfold HP.cut
        simp [hg, hb]))
  · exact HP.disj_union df (HP.disj_sub dk sR)
theorem slAt_elem {α : Type} {g : α → List Value} {n m : Nat} {c : Chunk} {p : Option Addr} {l : List α} (h : SlAt c n p m (l.flatMap g)) (hg : ∀ a, (g a).length = n) (hn : 0 < n) {i : Nat} {a : α} (hi : l[i]? = some a) :
    ∃ b o, p = some ⟨b, o, none⟩ ∧ ∀ (j : Nat) (v : Value), (g a)[j]? = some v → Reads c ⟨b, o + i * n + j, none⟩ v := by
  have h0 : (g a)[0]? = some ((g a)[0]'(by rw [hg]; exact hn)) := List.getElem?_eq_getElem _
  obtain ⟨b, o, rfl, _⟩ := h.reads _ _ (flat_get hg l i a hi 0 _ h0)
  refine ⟨b, o, rfl, fun j v hv => ?_⟩
  obtain ⟨b', o', e, r⟩ := h.reads _ _ (flat_get hg l i a hi j v hv)
  simp only [Option.some.injEq, Addr.mk.injEq, and_true] at e
  obtain ⟨rfl, rfl⟩ := e
  rw [Nat.add_assoc]
  exact r
theorem slAt_cell {m : Nat} {c : Chunk} {p : Option Addr} {ws : List Value} (h : SlAt c 1 p m ws) {i : Nat} {v : Value} (hi : ws[i]? = some v) : ∃ b o, p = some ⟨b, o, none⟩ ∧ Reads c ⟨b, o + i, none⟩ v := h.reads i v hi
theorem p_cP {ops : Array Oper} {Q : Exit → Act → World → Prop} {i : Nat} {pl : Plan} [Cb : Callable P f] {X : Type} {ret : X → Value} {φ : X → Prop} (fn : Does P f vs [Pile H] ret (fun _ => [Pile H]) φ) (hd : HP.disj Γ.hf k) (hk : All C k)
    (K : ∀ x, φ x → GP P ops Q (Γ.add k) N ((d, ret x) :: fr) L pl) (hi : ops[i]? = some ⟨some d, .call ⟨.value (.func f), xs.toArray, tys⟩, ty, pos, aft, gd⟩ := by exact rfl) (hg : Runs ops fr gd := by exact rfl) (hN : Nat.blt d N = true := by exact rfl) (he : Evs fr xs vs := by (repeat (first | exact Evs.nil | refine Evs.cons rfl ?_)); first | done | fail) (s : Sel C (Pile H) R := by (repeat (first | exact Sel.here | apply Sel.there)); first | done | fail) :
    GP P ops Q (Γ.add k) N fr L (.one i pl) := gp_c (cs_callP fn hd hk he s) hi hg hN K
end Go.Sl
