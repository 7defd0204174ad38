/- Contracts and laws that the proof stands on. -/
import Derived.Test.YtfjkfcfmbipfhaaDiskPlays5
import Derived.Carry
import Derived.ChangeArms
import Derived.ProofKit
import Derived.OpenShut
import Derived.Test.YtfjkfcfmbipfhaaChecked
set_option linter.unusedSimpArgs false
set_option linter.unusedVariables false
namespace Go.Sl
open Go Go.RowKit Go.ChangeShapes Go.WideShapes Go.ChangeAt
variable {P : Program} {W : World}
def CellsAt (W : World) (b o : Nat) (cs : List Value) : Prop := ∀ (j : Nat) (v : Value), cs[j]? = some v → W.cell? ⟨b, o + j, none⟩ = some v
class Opens (P : Program) (t : TypeId) (α : outParam Type) where
  is : World → α → List Value → Prop
  opens : ∀ {H : Type} {enc : TypeId × Value → H} {W : World} {sp : Nat → Bool} {n : Nat} {cs : List Value} {x : DataW H × List MemPlace}, DataW.trod enc P W 0 sp true n t cs = some x → ∃ a, is W a cs
class OpensFs (P : Program) (fs : List (TypeId × Nat)) (α : outParam Type) where
  is : World → α → List Value → Prop
  opens : ∀ {H : Type} {enc : TypeId × Value → H} {W : World} {sp : Nat → Bool} {n : Nat} {cs : List Value},
    (∀ f ∈ fs, ∃ x : DataW H × List MemPlace, DataW.trod enc P W 0 sp true n f.1 ((cs.drop f.2).take (P.cellsOf f.1)) = some x) → ∃ a, is W a cs
instance : OpensFs P [] Unit := ⟨fun _ _ _ => True, fun _ => ⟨(), trivial⟩⟩
instance {t : TypeId} {o n : Nat} {fs : List (TypeId × Nat)} {α β : Type} [A : Opens P t α] [S : TSize P t n] [B : OpensFs P fs β] : OpensFs P ((t, o) :: fs) (α × β) :=
  ⟨fun W x cs => A.is W x.1 ((cs.drop o).take n) ∧ B.is W x.2 cs, fun h => by
    obtain ⟨x, hx⟩ := h _ (List.mem_cons_self ..)
    have hn : P.cellsOf t = n := by simp [Program.cellsOf, S.size]
    rw [hn] at hx
    obtain ⟨a, ha⟩ := A.opens hx
    obtain ⟨b, hb⟩ := B.opens (fun f hf => h f (List.mem_cons_of_mem _ hf))
    exact ⟨(a, b), ha, hb⟩⟩
instance {t : TypeId} {k : IntKind} [D : TDesc P t (.int k)] : Opens P t Int :=
  ⟨fun _ n cs => cs = [.int k n] ∧ (Lit.int k n).wf = true, fun h => by obtain ⟨n, h1, _, h3⟩ := DataW.trod_int D.desc h; exact ⟨n, h1, h3⟩⟩
instance {t : TypeId} [D : TDesc P t .bool] : Opens P t Bool :=
  ⟨fun _ b cs => cs = [.bool b], fun h => by obtain ⟨n, h1, _⟩ := DataW.trod_bool D.desc h; exact ⟨n, h1⟩⟩
instance {t : TypeId} [D : TDesc P t .string] : Opens P t ByteArray :=
  ⟨fun _ s cs => cs = [.string s] ∧ s.size ≤ maxLen, fun h => by obtain ⟨n, h1, _, h3⟩ := DataW.trod_string D.desc h; exact ⟨n, h1, h3⟩⟩
structure SliceOf (α : Type) where
  place : Option Addr
  cap : Nat
  xs : List α
def SliceOf.val {α : Type} (s : SliceOf α) : Value := .slice s.place s.xs.length s.cap
theorem cell_spot (W : World) (a : Addr) (h : a.spot.isSome = true) : W.cell? a = none := by
  unfold World.cell?
  split <;> simp [h]
theorem cells_at {W : World} {a : Addr} {n : Nat} {cs : List Value} (h : W.cells? 0 a n = some cs) : cs.length = n ∧ ∀ (j : Nat) (v : Value), cs[j]? = some v → W.cell? (a.add j) = some v := by
  unfold World.cells? at h
  rw [if_pos (Nat.zero_le _)] at h
  have hl := mapM_some_length h
  refine ⟨by simpa using hl, fun j v hv => ?_⟩
  have hj : j < n := by
    have := (List.getElem?_eq_some_iff.1 hv).1
    simp at hl; omega
  have := mapM_some_get h j j (by simp [hj])
  rw [this, hv]
class NZ (n : Nat) : Prop where
  pos : 0 < n
instance {n : Nat} : NZ (n + 1) := ⟨Nat.succ_pos n⟩
instance {t e : TypeId} {n : Nat} {α : Type} [D : TDesc P t (.slice e)] [S : TSize P e n] [Z : NZ n] [A : Opens P e α] : Opens P t (SliceOf α) :=
  ⟨fun W s cs => cs = [s.val] ∧ s.xs.length ≤ s.cap ∧ s.cap ≤ maxLen ∧ (s.place = none → s.xs = [] ∧ s.cap = 0) ∧
      (∀ (i : Nat) (x : α), s.xs[i]? = some x → ∃ b o c, s.place = some ⟨b, o, none⟩ ∧ A.is W x c ∧ c.length = n ∧ CellsAt W b (o + i * n) c), fun {H enc W sp k cs x} h => by
    have hn : P.cellsOf e = n := by simp [Program.cellsOf, S.size]
    have hz : 0 < n := Z.pos
    rcases DataW.trod_slice D.desc h with ⟨rfl, _⟩ | ⟨a, len, cap, elems, rest, k, _, rfl, _, hb, hl, hc, he, hx, _⟩
    · exact ⟨⟨none, 0, []⟩, rfl, Nat.zero_le _, Nat.zero_le _, fun _ => ⟨rfl, rfl⟩, fun i x hx => by simp at hx⟩
    · have hel : ∀ i, i < len → ∃ (x : α) (c : List Value), A.is W x c ∧ c.length = n ∧ ∀ (j : Nat) (v : Value), c[j]? = some v → W.cell? ((a.add (i * n)).add j) = some v := fun i hi => by
        have h1 := hx i hi
        have h2 : elems[i]? = some (elems[i]'(by omega)) := by simp [he, hi]
        rw [h2, hn] at h1
        cases hcs : W.cells? 0 (a.add (i * n)) n with
        | none => rw [hcs] at h1; cases h1
        | some c =>
          rw [hcs] at h1
          obtain ⟨x, hx⟩ := A.opens (cs := c) h1
          have := cells_at hcs
          exact ⟨x, c, hx, this.1, this.2⟩
      refine ⟨⟨some a, cap, List.ofFn fun i : Fin len => Classical.choose (hel i i.2)⟩, by simp [SliceOf.val], by simpa using hl, hc, (fun e => by cases e), fun i x hx => ?_⟩
      simp only [List.getElem?_ofFn] at hx
      split at hx
      · rename_i hi
        obtain ⟨c, h1, h2, h3⟩ := Classical.choose_spec (hel i hi)
        cases hx
        obtain ⟨b, o, sp⟩ := a
        have hsp : sp = none := by
          cases sp with
          | none => rfl
          | some k =>
            obtain ⟨_, c0, _, l0, g0⟩ := hel 0 (by omega)
            have h0 : c0[0]? = some (c0[0]'(by omega)) := by simp [l0, hz]
            have h4 := g0 0 _ h0
            simp only [Nat.zero_mul, Addr.add, ↓reduceIte] at h4
            rw [cell_spot W _ rfl] at h4
            cases h4
        subst hsp
        refine ⟨b, o, c, rfl, h1, h2, fun j v hv => ?_⟩
        have := h3 j v hv
        rw [Addr.add_lit, Addr.add_lit] at this
        exact this
      · cases hx⟩
instance {t : TypeId} {n : Nat} {fs : List (TypeId × Nat)} {α : Type} [T : TFds P t fs] [S : TSize P t n] [A : OpensFs P fs α] : Opens P t α :=
  ⟨fun W x cs => cs.length = n ∧ A.is W x cs, fun {H enc W sp k cs x} h => by
    obtain ⟨xs, k', _, _, hl, hxs, hf⟩ := DataW.trod_struct T.struct h
    refine (A.opens (W := W) (enc := enc) (sp := sp) (n := k') (cs := cs) fun f hf' => ?_).imp fun a ha => ⟨by rw [hl]; simp [Program.cellsOf, S.size], ha⟩
    obtain ⟨i, hi⟩ := List.mem_iff_getElem?.1 hf'
    have hm : ((P.fieldsOf t).toList.map fun f => (f.type, f.offset))[i]? = some f := by rw [T.fields]; exact hi
    simp only [List.getElem?_map, Option.map_eq_some_iff] at hm
    obtain ⟨g, hg, rfl⟩ := hm
    have hg' : (P.fieldsOf t)[i]? = some g := by simpa using hg
    have := hf i g hg'
    have hlt : i < xs.length := by
      rw [hxs]
      exact (Array.getElem?_eq_some_iff.1 hg').1
    exact ⟨xs[i], by rw [this]; simp [hlt]⟩⟩
def oneD : TypeDesc → Bool
  | .struct _ => false
  | .array _ _ => false
  | _ => true
theorem arg_one {H : Type} {enc : TypeId × Value → H} {t : TypeId} {α : Type} [A : Opens P t α] {d : TypeDesc} {b : Nat} {sp : Nat → Bool} {v : Value} {x : DataW H} {ps : List MemPlace} (hd : P.underlying t = some d) (ho : oneD d = true)
    (hval : Value.okWide P W .any b t v) (h : DataW.Trod enc P W 0 sp true t v x ps) : ∃ a, A.is W a [v] := by
  obtain ⟨n, hn⟩ := h
  have : v.cells.toList = [v] := by
    cases v with
    | agg cs =>
      unfold Value.okWide at hval
      rw [hd] at hval
      cases d <;> simp_all [oneD, Cell.okWide, Cell.ok]
    | _ => rfl
  rw [this] at hn
  exact A.opens hn
theorem arg_agg {H : Type} {enc : TypeId × Value → H} {t : TypeId} {α : Type} {fs : List (TypeId × Nat)} [T : TFds P t fs] [A : Opens P t α] {b : Nat} {sp : Nat → Bool} {v : Value} {x : DataW H} {ps : List MemPlace}
    (hval : Value.okWide P W .any b t v) (h : DataW.Trod enc P W 0 sp true t v x ps) : ∃ a cs, v = .agg cs.toArray ∧ A.is W a cs := by
  obtain ⟨n, hn⟩ := h
  unfold Value.okWide at hval
  rw [T.struct] at hval
  obtain ⟨cs, rfl, _⟩ := hval
  obtain ⟨a, ha⟩ := A.opens hn
  exact ⟨a, cs.toList, by simp, ha⟩
theorem trodAll_stays {H : Type} {enc : TypeId × Value → H} (hl : laidOutB P = true) {W W' : World} {base : Nat} {sp : Nat → Bool} : ∀ {ts : List TypeId} {vs : List Value} {ds : List (DataW H)} {ps : List MemPlace},
    ts.all (fun t => P.readableRec t && decide (t < P.types.size)) = true → DataW.TrodAll enc P W base (fun _ => true) true ts vs ds ps → (∀ p ∈ ps, W.sameAt W' p) → (∀ p ∈ ps, sp p.block = true) → DataW.TrodAll enc P W' base sp true ts vs ds ps
  | [], [], [], _, _, h, _, _ => h
  | t :: ts, v :: vs, d :: ds, ps, ht, ⟨p, q, h1, h2, e⟩, hs, hp => by
    simp only [List.all_cons, Bool.and_eq_true, decide_eq_true_eq] at ht
    subst e
    exact ⟨p, q, WideElems.Trod_stays hl ht.1.1 ht.1.2 h1 (fun x hx => hs x (by simp [hx])) (fun x hx => hp x (by simp [hx])), trodAll_stays hl ht.2 h2 (fun x hx => hs x (by simp [hx])) (fun x hx => hp x (by simp [hx])), rfl⟩
  | [], _ :: _, _, _, _, h, _, _ => h.elim
  | [], [], _ :: _, _, _, h, _, _ => h.elim
  | _ :: _, [], _, _, _, h, _, _ => h.elim
  | _ :: _, _ :: _, [], _, _, h, _, _ => h.elim
theorem post_old {H : Type} {enc : TypeId × Value → H} {f : Func} {s : ChangeSpec} {apart fresh handsOn again : Bool} {W W' : World} {args : Array Value} {v : Value} {ds gs : List (DataW H)} {before pa pv : List MemPlace}
    (hW : DataW.Whole enc P f.params.toList s.vars apart W args.toList ds gs before)
    (hres : ∀ (b : Nat) (sp : Nat → Bool) (hd : Bool), DataW.TrodAll enc P W' b sp hd f.resultTypes.toList (v.resultList f.resultTypes.size) (s.fn H (ds ++ gs)).results [])
    (hargs : ∀ sp : Nat → Bool, (∀ p ∈ before, sp p.block = true) → DataW.TrodAll enc P W' 0 sp true f.params.toList args.toList (s.fn H (ds ++ gs)).args pa)
    (hvars : ∀ sp : Nat → Bool, (∀ p ∈ before, sp p.block = true) → DataW.TrodVars enc P W' sp s.vars (s.fn H (ds ++ gs)).vars pv)
    (hps : before = pa ++ pv) (hk : W.keptBut W' (· ∈ before)) (hfz : ∀ a : Addr, a.block < W.heap.size → W'.frozen? a = W.frozen? a)
    (hok : ∀ (j : Nat) (t : TypeId) (r : Value), f.resultTypes[j]? = some t → (v.resultList f.resultTypes.size)[j]? = some r → Value.okWide P W' .any 0 t r) :
    s.post enc P f apart fresh handsOn again W args v W' := by
  have hold : ∀ p ∈ before, (fun b => decide (b < W.heap.size)) p.block = true := fun p hp => by simpa using hW.lt p hp
  have hlt := hW.lt
  refine ⟨ds, gs, before, [], pa, pv, hW, hres _ _ _, hargs _ hold, hvars _ hold, World.keptBut_mono (fun p hp => ⟨hp, ?_⟩) hk, fun _ => ?_⟩
  · rw [hps, List.mem_append] at hp
    exact Or.inr hp
  · obtain ⟨_, _, _, _, _, hz, hn⟩ := hW
    refine ⟨hok, _, _, ([] ++ pa) ++ pv, ⟨[] ++ pa, pv, trodAll_append (hargs _ (fun _ _ => rfl)) (hres _ _ _), hvars _ (fun _ _ => rfl), rfl, ?_, ?_⟩, ?_⟩
    · intro b off hp
      have hp' : MemPlace.cell b off ∈ before := by rw [hps]; simpa using hp
      rw [hfz _ (hlt _ hp')]
      exact hz b off hp'
    · intro ha
      have := hn ha
      rw [hps] at this
      simpa using this
    · intro p hp _
      rw [hps]
      simpa using hp
theorem law_post {H : Type} {enc : TypeId × Value → H} {f : Func} {s : ChangeSpec} {apart fresh handsOn again : Bool} {W W' : World} {args : Array Value} {ds gs : List (DataW H)} {before : List MemPlace} {tb : TypeId}
    (hl : laidOutB P = true) (hp : f.params.toList.all (fun t => P.readableRec t && decide (t < P.types.size)) = true) (hv : s.vars = []) (hr : f.resultTypes = #[tb]) (hb : P.underlying tb = some .bool)
    (hW : DataW.Whole enc P f.params.toList s.vars apart W args.toList ds gs before) (hfn : s.fn H (ds ++ gs) = { results := [.lit (.bool true)], args := ds }) (hst : Stays W W') :
    s.post enc P f apart fresh handsOn again W args (.bool true) W' := by
  have hlt := hW.lt
  have hW' := hW
  obtain ⟨p, q, hA, hV, rfl, hfz, hnd⟩ := hW
  rw [hv] at hV
  obtain ⟨rfl, rfl⟩ := trodVars_none hV
  refine post_old (pa := p) (pv := []) hW' (fun b sp hd => ?_) (fun sp hsp => ?_) (fun sp hsp => ?_) rfl (World.keptBut_mono (fun _ f => f.elim) hst.kept) hst.froz (ok_one hr rfl (okWide_bool_mk hb _))
  · rw [hfn, hr]
    exact trodAll_cons_mk (shut_bool hb _) trodAll_mk0
  · rw [hfn]
    exact trodAll_stays hl hp hA (fun x hx => hst.below.same (hlt x (by simp [hx]))) (fun x hx => hsp x (by simp [hx]))
  · rw [hfn, hv]
    rfl
end Go.Sl

namespace Go.Proofs.Ytfjkfcfmbipfhaa.facts
open Go.Sl
instance sz1 : TSize Try.prog 1 1 := ⟨by kernel_rfl⟩
instance by1 : TBytes Try.prog 1 8 := ⟨by kernel_rfl⟩
instance on1 : TOne Try.prog 1 := ⟨by kernel_rfl, by kernel_rfl⟩
instance ze1 : TZero Try.prog 1 .nilFunc := ⟨by kernel_rfl⟩
instance sz2 : TSize Try.prog 2 1 := ⟨by kernel_rfl⟩
instance by2 : TBytes Try.prog 2 8 := ⟨by kernel_rfl⟩
instance on2 : TOne Try.prog 2 := ⟨by kernel_rfl, by kernel_rfl⟩
instance ze2 : TZero Try.prog 2 (.int .i64 0) := ⟨by kernel_rfl⟩
instance de2 : TDesc Try.prog 2 (.int .i64) := ⟨by kernel_rfl⟩
instance sz3 : TSize Try.prog 3 1 := ⟨by kernel_rfl⟩
instance by3 : TBytes Try.prog 3 8 := ⟨by kernel_rfl⟩
instance on3 : TOne Try.prog 3 := ⟨by kernel_rfl, by kernel_rfl⟩
instance ze3 : TZero Try.prog 3 (.int .i64 0) := ⟨by kernel_rfl⟩
instance de3 : TDesc Try.prog 3 (.int .i64) := ⟨by kernel_rfl⟩
instance sz4 : TSize Try.prog 4 1 := ⟨by kernel_rfl⟩
instance by4 : TBytes Try.prog 4 1 := ⟨by kernel_rfl⟩
instance on4 : TOne Try.prog 4 := ⟨by kernel_rfl, by kernel_rfl⟩
instance ze4 : TZero Try.prog 4 (.bool false) := ⟨by kernel_rfl⟩
instance de4 : TDesc Try.prog 4 (.bool) := ⟨by kernel_rfl⟩
instance sz5 : TSize Try.prog 5 1 := ⟨by kernel_rfl⟩
instance by5 : TBytes Try.prog 5 1 := ⟨by kernel_rfl⟩
instance on5 : TOne Try.prog 5 := ⟨by kernel_rfl, by kernel_rfl⟩
instance ze5 : TZero Try.prog 5 (.int .u8 0) := ⟨by kernel_rfl⟩
instance de5 : TDesc Try.prog 5 (.int .u8) := ⟨by kernel_rfl⟩
instance sz6 : TSize Try.prog 6 1 := ⟨by kernel_rfl⟩
instance by6 : TBytes Try.prog 6 1 := ⟨by kernel_rfl⟩
instance on6 : TOne Try.prog 6 := ⟨by kernel_rfl, by kernel_rfl⟩
instance ze6 : TZero Try.prog 6 (.int .u8 0) := ⟨by kernel_rfl⟩
instance de6 : TDesc Try.prog 6 (.int .u8) := ⟨by kernel_rfl⟩
instance sz7 : TSize Try.prog 7 4 := ⟨by kernel_rfl⟩
instance by7 : TBytes Try.prog 7 24 := ⟨by kernel_rfl⟩
instance ag7 : TAgg Try.prog 7 4 := ⟨by kernel_rfl, by kernel_rfl⟩
instance ze7 : TZero Try.prog 7 (.agg [(.int .i64 0), (.int .i64 0), (.bool false), (.int .u8 0)].toArray) := ⟨by kernel_rfl⟩
instance td7 : TFds Try.prog 7 [(2, 0), (3, 1), (4, 2), (6, 3)] := ⟨by kernel_rfl, by kernel_rfl⟩
instance tf7 : TFields Try.prog 7 [(2, 0), (3, 1), (4, 2), (6, 3)] := ⟨by kernel_rfl, by kernel_rfl, by kernel_rfl, by kernel_rfl⟩
instance pl7 : TPlaces Try.prog 7 := ⟨by kernel_rfl⟩
instance fo7_0 : FOff Try.prog 7 0 0 1 := ⟨by kernel_rfl, rfl⟩
instance fo7_1 : FOff Try.prog 7 1 1 1 := ⟨by kernel_rfl, rfl⟩
instance fo7_2 : FOff Try.prog 7 2 2 1 := ⟨by kernel_rfl, rfl⟩
instance fo7_3 : FOff Try.prog 7 3 3 1 := ⟨by kernel_rfl, rfl⟩
instance sz8 : TSize Try.prog 8 4 := ⟨by kernel_rfl⟩
instance by8 : TBytes Try.prog 8 24 := ⟨by kernel_rfl⟩
instance ag8 : TAgg Try.prog 8 4 := ⟨by kernel_rfl, by kernel_rfl⟩
instance ze8 : TZero Try.prog 8 (.agg [(.int .i64 0), (.int .i64 0), (.bool false), (.int .u8 0)].toArray) := ⟨by kernel_rfl⟩
instance td8 : TFds Try.prog 8 [(2, 0), (3, 1), (4, 2), (6, 3)] := ⟨by kernel_rfl, by kernel_rfl⟩
instance pl8 : TPlaces Try.prog 8 := ⟨by kernel_rfl⟩
instance fo8_0 : FOff Try.prog 8 0 0 1 := ⟨by kernel_rfl, rfl⟩
instance fo8_1 : FOff Try.prog 8 1 1 1 := ⟨by kernel_rfl, rfl⟩
instance fo8_2 : FOff Try.prog 8 2 2 1 := ⟨by kernel_rfl, rfl⟩
instance fo8_3 : FOff Try.prog 8 3 3 1 := ⟨by kernel_rfl, rfl⟩
instance sz9 : TSize Try.prog 9 1 := ⟨by kernel_rfl⟩
instance by9 : TBytes Try.prog 9 16 := ⟨by kernel_rfl⟩
instance on9 : TOne Try.prog 9 := ⟨by kernel_rfl, by kernel_rfl⟩
instance ze9 : TZero Try.prog 9 (.string ByteArray.empty) := ⟨by kernel_rfl⟩
instance de9 : TDesc Try.prog 9 (.string) := ⟨by kernel_rfl⟩
instance sz10 : TSize Try.prog 10 1 := ⟨by kernel_rfl⟩
instance by10 : TBytes Try.prog 10 16 := ⟨by kernel_rfl⟩
instance on10 : TOne Try.prog 10 := ⟨by kernel_rfl, by kernel_rfl⟩
instance ze10 : TZero Try.prog 10 (.string ByteArray.empty) := ⟨by kernel_rfl⟩
instance de10 : TDesc Try.prog 10 (.string) := ⟨by kernel_rfl⟩
instance sz11 : TSize Try.prog 11 1 := ⟨by kernel_rfl⟩
instance by11 : TBytes Try.prog 11 16 := ⟨by kernel_rfl⟩
instance on11 : TOne Try.prog 11 := ⟨by kernel_rfl, by kernel_rfl⟩
instance ze11 : TZero Try.prog 11 (.string ByteArray.empty) := ⟨by kernel_rfl⟩
instance de11 : TDesc Try.prog 11 (.string) := ⟨by kernel_rfl⟩
instance sz12 : TSize Try.prog 12 1 := ⟨by kernel_rfl⟩
instance by12 : TBytes Try.prog 12 8 := ⟨by kernel_rfl⟩
instance on12 : TOne Try.prog 12 := ⟨by kernel_rfl, by kernel_rfl⟩
instance ze12 : TZero Try.prog 12 (.int .u64 0) := ⟨by kernel_rfl⟩
instance de12 : TDesc Try.prog 12 (.int .u64) := ⟨by kernel_rfl⟩
instance sz13 : TSize Try.prog 13 2 := ⟨by kernel_rfl⟩
instance by13 : TBytes Try.prog 13 24 := ⟨by kernel_rfl⟩
instance ag13 : TAgg Try.prog 13 2 := ⟨by kernel_rfl, by kernel_rfl⟩
instance ze13 : TZero Try.prog 13 (.agg [(.string ByteArray.empty), (.int .u64 0)].toArray) := ⟨by kernel_rfl⟩
instance td13 : TFds Try.prog 13 [(9, 0), (12, 1)] := ⟨by kernel_rfl, by kernel_rfl⟩
instance pl13 : TPlaces Try.prog 13 := ⟨by kernel_rfl⟩
instance fo13_0 : FOff Try.prog 13 0 0 1 := ⟨by kernel_rfl, rfl⟩
instance fo13_1 : FOff Try.prog 13 1 1 1 := ⟨by kernel_rfl, rfl⟩
instance sz14 : TSize Try.prog 14 2 := ⟨by kernel_rfl⟩
instance by14 : TBytes Try.prog 14 24 := ⟨by kernel_rfl⟩
instance ag14 : TAgg Try.prog 14 2 := ⟨by kernel_rfl, by kernel_rfl⟩
instance ze14 : TZero Try.prog 14 (.agg [(.string ByteArray.empty), (.int .u64 0)].toArray) := ⟨by kernel_rfl⟩
instance td14 : TFds Try.prog 14 [(9, 0), (12, 1)] := ⟨by kernel_rfl, by kernel_rfl⟩
instance pl14 : TPlaces Try.prog 14 := ⟨by kernel_rfl⟩
instance fo14_0 : FOff Try.prog 14 0 0 1 := ⟨by kernel_rfl, rfl⟩
instance fo14_1 : FOff Try.prog 14 1 1 1 := ⟨by kernel_rfl, rfl⟩
instance sz15 : TSize Try.prog 15 1 := ⟨by kernel_rfl⟩
instance by15 : TBytes Try.prog 15 8 := ⟨by kernel_rfl⟩
instance on15 : TOne Try.prog 15 := ⟨by kernel_rfl, by kernel_rfl⟩
instance ze15 : TZero Try.prog 15 (.pointer none) := ⟨by kernel_rfl⟩
instance de15 : TDesc Try.prog 15 (.pointer 104) := ⟨by kernel_rfl⟩
instance sz16 : TSize Try.prog 16 1 := ⟨by kernel_rfl⟩
instance by16 : TBytes Try.prog 16 8 := ⟨by kernel_rfl⟩
instance on16 : TOne Try.prog 16 := ⟨by kernel_rfl, by kernel_rfl⟩
instance ze16 : TZero Try.prog 16 (.pointer none) := ⟨by kernel_rfl⟩
instance de16 : TDesc Try.prog 16 (.pointer 107) := ⟨by kernel_rfl⟩
instance sz17 : TSize Try.prog 17 1 := ⟨by kernel_rfl⟩
instance by17 : TBytes Try.prog 17 8 := ⟨by kernel_rfl⟩
instance on17 : TOne Try.prog 17 := ⟨by kernel_rfl, by kernel_rfl⟩
instance ze17 : TZero Try.prog 17 (.pointer none) := ⟨by kernel_rfl⟩
instance de17 : TDesc Try.prog 17 (.pointer 116) := ⟨by kernel_rfl⟩
instance sz18 : TSize Try.prog 18 1 := ⟨by kernel_rfl⟩
instance by18 : TBytes Try.prog 18 8 := ⟨by kernel_rfl⟩
instance ag18 : TAgg Try.prog 18 1 := ⟨by kernel_rfl, by kernel_rfl⟩
instance ze18 : TZero Try.prog 18 (.agg [(.pointer none)].toArray) := ⟨by kernel_rfl⟩
instance td18 : TFds Try.prog 18 [(17, 0)] := ⟨by kernel_rfl, by kernel_rfl⟩
instance pl18 : TPlaces Try.prog 18 := ⟨by kernel_rfl⟩
instance fo18_0 : FOff Try.prog 18 0 0 1 := ⟨by kernel_rfl, rfl⟩
instance sz19 : TSize Try.prog 19 1 := ⟨by kernel_rfl⟩
instance by19 : TBytes Try.prog 19 8 := ⟨by kernel_rfl⟩
instance ag19 : TAgg Try.prog 19 1 := ⟨by kernel_rfl, by kernel_rfl⟩
instance ze19 : TZero Try.prog 19 (.agg [(.pointer none)].toArray) := ⟨by kernel_rfl⟩
instance td19 : TFds Try.prog 19 [(17, 0)] := ⟨by kernel_rfl, by kernel_rfl⟩
instance pl19 : TPlaces Try.prog 19 := ⟨by kernel_rfl⟩
instance fo19_0 : FOff Try.prog 19 0 0 1 := ⟨by kernel_rfl, rfl⟩
instance sz20 : TSize Try.prog 20 1 := ⟨by kernel_rfl⟩
instance by20 : TBytes Try.prog 20 16 := ⟨by kernel_rfl⟩
instance on20 : TOne Try.prog 20 := ⟨by kernel_rfl, by kernel_rfl⟩
instance ze20 : TZero Try.prog 20 .nilIface := ⟨by kernel_rfl⟩
instance sz21 : TSize Try.prog 21 1 := ⟨by kernel_rfl⟩
instance by21 : TBytes Try.prog 21 4 := ⟨by kernel_rfl⟩
instance on21 : TOne Try.prog 21 := ⟨by kernel_rfl, by kernel_rfl⟩
instance ze21 : TZero Try.prog 21 (.int .i32 0) := ⟨by kernel_rfl⟩
instance de21 : TDesc Try.prog 21 (.int .i32) := ⟨by kernel_rfl⟩
instance sz22 : TSize Try.prog 22 1 := ⟨by kernel_rfl⟩
instance by22 : TBytes Try.prog 22 24 := ⟨by kernel_rfl⟩
instance on22 : TOne Try.prog 22 := ⟨by kernel_rfl, by kernel_rfl⟩
instance ze22 : TZero Try.prog 22 (.slice none 0 0) := ⟨by kernel_rfl⟩
instance de22 : TDesc Try.prog 22 (.slice 3) := ⟨by kernel_rfl⟩
instance sz23 : TSize Try.prog 23 1 := ⟨by kernel_rfl⟩
instance by23 : TBytes Try.prog 23 8 := ⟨by kernel_rfl⟩
instance on23 : TOne Try.prog 23 := ⟨by kernel_rfl, by kernel_rfl⟩
instance ze23 : TZero Try.prog 23 .nilFunc := ⟨by kernel_rfl⟩
instance sz24 : TSize Try.prog 24 1 := ⟨by kernel_rfl⟩
instance by24 : TBytes Try.prog 24 8 := ⟨by kernel_rfl⟩
instance on24 : TOne Try.prog 24 := ⟨by kernel_rfl, by kernel_rfl⟩
instance ze24 : TZero Try.prog 24 (.pointer none) := ⟨by kernel_rfl⟩
instance de24 : TDesc Try.prog 24 (.pointer 61) := ⟨by kernel_rfl⟩
instance sz25 : TSize Try.prog 25 1 := ⟨by kernel_rfl⟩
instance by25 : TBytes Try.prog 25 8 := ⟨by kernel_rfl⟩
instance on25 : TOne Try.prog 25 := ⟨by kernel_rfl, by kernel_rfl⟩
instance ze25 : TZero Try.prog 25 (.int .i64 0) := ⟨by kernel_rfl⟩
instance de25 : TDesc Try.prog 25 (.int .i64) := ⟨by kernel_rfl⟩
instance sz27 : TSize Try.prog 27 1 := ⟨by kernel_rfl⟩
instance by27 : TBytes Try.prog 27 8 := ⟨by kernel_rfl⟩
instance on27 : TOne Try.prog 27 := ⟨by kernel_rfl, by kernel_rfl⟩
instance ze27 : TZero Try.prog 27 .nilFunc := ⟨by kernel_rfl⟩
instance sz28 : TSize Try.prog 28 1 := ⟨by kernel_rfl⟩
instance by28 : TBytes Try.prog 28 24 := ⟨by kernel_rfl⟩
instance on28 : TOne Try.prog 28 := ⟨by kernel_rfl, by kernel_rfl⟩
instance ze28 : TZero Try.prog 28 (.slice none 0 0) := ⟨by kernel_rfl⟩
instance de28 : TDesc Try.prog 28 (.slice 5) := ⟨by kernel_rfl⟩
instance sz29 : TSize Try.prog 29 1 := ⟨by kernel_rfl⟩
instance by29 : TBytes Try.prog 29 8 := ⟨by kernel_rfl⟩
instance on29 : TOne Try.prog 29 := ⟨by kernel_rfl, by kernel_rfl⟩
instance ze29 : TZero Try.prog 29 .nilFunc := ⟨by kernel_rfl⟩
instance sz30 : TSize Try.prog 30 1 := ⟨by kernel_rfl⟩
instance by30 : TBytes Try.prog 30 8 := ⟨by kernel_rfl⟩
instance on30 : TOne Try.prog 30 := ⟨by kernel_rfl, by kernel_rfl⟩
instance ze30 : TZero Try.prog 30 .nilFunc := ⟨by kernel_rfl⟩
instance sz31 : TSize Try.prog 31 1 := ⟨by kernel_rfl⟩
instance by31 : TBytes Try.prog 31 8 := ⟨by kernel_rfl⟩
instance on31 : TOne Try.prog 31 := ⟨by kernel_rfl, by kernel_rfl⟩
instance ze31 : TZero Try.prog 31 .nilFunc := ⟨by kernel_rfl⟩
instance sz33 : TSize Try.prog 33 1 := ⟨by kernel_rfl⟩
instance by33 : TBytes Try.prog 33 8 := ⟨by kernel_rfl⟩
instance on33 : TOne Try.prog 33 := ⟨by kernel_rfl, by kernel_rfl⟩
instance ze33 : TZero Try.prog 33 .nilFunc := ⟨by kernel_rfl⟩
instance sz34 : TSize Try.prog 34 1 := ⟨by kernel_rfl⟩
instance by34 : TBytes Try.prog 34 8 := ⟨by kernel_rfl⟩
instance on34 : TOne Try.prog 34 := ⟨by kernel_rfl, by kernel_rfl⟩
instance ze34 : TZero Try.prog 34 .nilFunc := ⟨by kernel_rfl⟩
instance sz35 : TSize Try.prog 35 1 := ⟨by kernel_rfl⟩
instance by35 : TBytes Try.prog 35 8 := ⟨by kernel_rfl⟩
instance on35 : TOne Try.prog 35 := ⟨by kernel_rfl, by kernel_rfl⟩
instance ze35 : TZero Try.prog 35 .nilFunc := ⟨by kernel_rfl⟩
instance sz36 : TSize Try.prog 36 1 := ⟨by kernel_rfl⟩
instance by36 : TBytes Try.prog 36 8 := ⟨by kernel_rfl⟩
instance on36 : TOne Try.prog 36 := ⟨by kernel_rfl, by kernel_rfl⟩
instance ze36 : TZero Try.prog 36 .nilFunc := ⟨by kernel_rfl⟩
instance sz37 : TSize Try.prog 37 1 := ⟨by kernel_rfl⟩
instance by37 : TBytes Try.prog 37 8 := ⟨by kernel_rfl⟩
instance on37 : TOne Try.prog 37 := ⟨by kernel_rfl, by kernel_rfl⟩
instance ze37 : TZero Try.prog 37 .nilFunc := ⟨by kernel_rfl⟩
instance sz38 : TSize Try.prog 38 1 := ⟨by kernel_rfl⟩
instance by38 : TBytes Try.prog 38 8 := ⟨by kernel_rfl⟩
instance on38 : TOne Try.prog 38 := ⟨by kernel_rfl, by kernel_rfl⟩
instance ze38 : TZero Try.prog 38 .nilFunc := ⟨by kernel_rfl⟩
instance sz39 : TSize Try.prog 39 1 := ⟨by kernel_rfl⟩
instance by39 : TBytes Try.prog 39 8 := ⟨by kernel_rfl⟩
instance on39 : TOne Try.prog 39 := ⟨by kernel_rfl, by kernel_rfl⟩
instance ze39 : TZero Try.prog 39 .nilFunc := ⟨by kernel_rfl⟩
instance sz40 : TSize Try.prog 40 1 := ⟨by kernel_rfl⟩
instance by40 : TBytes Try.prog 40 8 := ⟨by kernel_rfl⟩
instance on40 : TOne Try.prog 40 := ⟨by kernel_rfl, by kernel_rfl⟩
instance ze40 : TZero Try.prog 40 .nilFunc := ⟨by kernel_rfl⟩
instance sz41 : TSize Try.prog 41 1 := ⟨by kernel_rfl⟩
instance by41 : TBytes Try.prog 41 8 := ⟨by kernel_rfl⟩
instance on41 : TOne Try.prog 41 := ⟨by kernel_rfl, by kernel_rfl⟩
instance ze41 : TZero Try.prog 41 .nilFunc := ⟨by kernel_rfl⟩
instance sz42 : TSize Try.prog 42 1 := ⟨by kernel_rfl⟩
instance by42 : TBytes Try.prog 42 24 := ⟨by kernel_rfl⟩
instance on42 : TOne Try.prog 42 := ⟨by kernel_rfl, by kernel_rfl⟩
instance ze42 : TZero Try.prog 42 (.slice none 0 0) := ⟨by kernel_rfl⟩
instance de42 : TDesc Try.prog 42 (.slice 9) := ⟨by kernel_rfl⟩
instance sz43 : TSize Try.prog 43 1 := ⟨by kernel_rfl⟩
instance by43 : TBytes Try.prog 43 8 := ⟨by kernel_rfl⟩
instance on43 : TOne Try.prog 43 := ⟨by kernel_rfl, by kernel_rfl⟩
instance ze43 : TZero Try.prog 43 .nilFunc := ⟨by kernel_rfl⟩
instance sz44 : TSize Try.prog 44 1 := ⟨by kernel_rfl⟩
instance by44 : TBytes Try.prog 44 8 := ⟨by kernel_rfl⟩
instance on44 : TOne Try.prog 44 := ⟨by kernel_rfl, by kernel_rfl⟩
instance ze44 : TZero Try.prog 44 .nilFunc := ⟨by kernel_rfl⟩
instance sz45 : TSize Try.prog 45 1 := ⟨by kernel_rfl⟩
instance by45 : TBytes Try.prog 45 8 := ⟨by kernel_rfl⟩
instance on45 : TOne Try.prog 45 := ⟨by kernel_rfl, by kernel_rfl⟩
instance ze45 : TZero Try.prog 45 .nilFunc := ⟨by kernel_rfl⟩
instance sz46 : TSize Try.prog 46 1 := ⟨by kernel_rfl⟩
instance by46 : TBytes Try.prog 46 8 := ⟨by kernel_rfl⟩
instance on46 : TOne Try.prog 46 := ⟨by kernel_rfl, by kernel_rfl⟩
instance ze46 : TZero Try.prog 46 .nilFunc := ⟨by kernel_rfl⟩
instance sz47 : TSize Try.prog 47 1 := ⟨by kernel_rfl⟩
instance by47 : TBytes Try.prog 47 8 := ⟨by kernel_rfl⟩
instance on47 : TOne Try.prog 47 := ⟨by kernel_rfl, by kernel_rfl⟩
instance ze47 : TZero Try.prog 47 .nilFunc := ⟨by kernel_rfl⟩
instance sz48 : TSize Try.prog 48 1 := ⟨by kernel_rfl⟩
instance by48 : TBytes Try.prog 48 24 := ⟨by kernel_rfl⟩
instance on48 : TOne Try.prog 48 := ⟨by kernel_rfl, by kernel_rfl⟩
instance ze48 : TZero Try.prog 48 (.slice none 0 0) := ⟨by kernel_rfl⟩
instance de48 : TDesc Try.prog 48 (.slice 56) := ⟨by kernel_rfl⟩
instance sz49 : TSize Try.prog 49 1 := ⟨by kernel_rfl⟩
instance by49 : TBytes Try.prog 49 8 := ⟨by kernel_rfl⟩
instance on49 : TOne Try.prog 49 := ⟨by kernel_rfl, by kernel_rfl⟩
instance ze49 : TZero Try.prog 49 .nilFunc := ⟨by kernel_rfl⟩
instance sz50 : TSize Try.prog 50 1 := ⟨by kernel_rfl⟩
instance by50 : TBytes Try.prog 50 8 := ⟨by kernel_rfl⟩
instance on50 : TOne Try.prog 50 := ⟨by kernel_rfl, by kernel_rfl⟩
instance ze50 : TZero Try.prog 50 (.pointer none) := ⟨by kernel_rfl⟩
instance de50 : TDesc Try.prog 50 (.pointer 79) := ⟨by kernel_rfl⟩
instance sz52 : TSize Try.prog 52 1 := ⟨by kernel_rfl⟩
instance by52 : TBytes Try.prog 52 8 := ⟨by kernel_rfl⟩
instance on52 : TOne Try.prog 52 := ⟨by kernel_rfl, by kernel_rfl⟩
instance ze52 : TZero Try.prog 52 .nilFunc := ⟨by kernel_rfl⟩
instance sz54 : TSize Try.prog 54 1 := ⟨by kernel_rfl⟩
instance by54 : TBytes Try.prog 54 8 := ⟨by kernel_rfl⟩
instance on54 : TOne Try.prog 54 := ⟨by kernel_rfl, by kernel_rfl⟩
instance ze54 : TZero Try.prog 54 .nilFunc := ⟨by kernel_rfl⟩
instance sz55 : TSize Try.prog 55 5 := ⟨by kernel_rfl⟩
instance by55 : TBytes Try.prog 55 72 := ⟨by kernel_rfl⟩
instance ag55 : TAgg Try.prog 55 5 := ⟨by kernel_rfl, by kernel_rfl⟩
instance ze55 : TZero Try.prog 55 (.agg [(.int .i64 0), (.string ByteArray.empty), (.string ByteArray.empty), (.int .i64 0), (.slice none 0 0)].toArray) := ⟨by kernel_rfl⟩
instance td55 : TFds Try.prog 55 [(3, 0), (9, 1), (9, 2), (3, 3), (22, 4)] := ⟨by kernel_rfl, by kernel_rfl⟩
instance pl55 : TPlaces Try.prog 55 := ⟨by kernel_rfl⟩
instance fo55_0 : FOff Try.prog 55 0 0 1 := ⟨by kernel_rfl, rfl⟩
instance fo55_1 : FOff Try.prog 55 1 1 1 := ⟨by kernel_rfl, rfl⟩
instance fo55_2 : FOff Try.prog 55 2 2 1 := ⟨by kernel_rfl, rfl⟩
instance fo55_3 : FOff Try.prog 55 3 3 1 := ⟨by kernel_rfl, rfl⟩
instance fo55_4 : FOff Try.prog 55 4 4 1 := ⟨by kernel_rfl, rfl⟩
instance sz56 : TSize Try.prog 56 5 := ⟨by kernel_rfl⟩
instance by56 : TBytes Try.prog 56 72 := ⟨by kernel_rfl⟩
instance ag56 : TAgg Try.prog 56 5 := ⟨by kernel_rfl, by kernel_rfl⟩
instance ze56 : TZero Try.prog 56 (.agg [(.int .i64 0), (.string ByteArray.empty), (.string ByteArray.empty), (.int .i64 0), (.slice none 0 0)].toArray) := ⟨by kernel_rfl⟩
instance td56 : TFds Try.prog 56 [(3, 0), (9, 1), (9, 2), (3, 3), (22, 4)] := ⟨by kernel_rfl, by kernel_rfl⟩
instance pl56 : TPlaces Try.prog 56 := ⟨by kernel_rfl⟩
instance fo56_0 : FOff Try.prog 56 0 0 1 := ⟨by kernel_rfl, rfl⟩
instance fo56_1 : FOff Try.prog 56 1 1 1 := ⟨by kernel_rfl, rfl⟩
instance fo56_2 : FOff Try.prog 56 2 2 1 := ⟨by kernel_rfl, rfl⟩
instance fo56_3 : FOff Try.prog 56 3 3 1 := ⟨by kernel_rfl, rfl⟩
instance fo56_4 : FOff Try.prog 56 4 4 1 := ⟨by kernel_rfl, rfl⟩
instance sz57 : TSize Try.prog 57 1 := ⟨by kernel_rfl⟩
instance by57 : TBytes Try.prog 57 8 := ⟨by kernel_rfl⟩
instance on57 : TOne Try.prog 57 := ⟨by kernel_rfl, by kernel_rfl⟩
instance ze57 : TZero Try.prog 57 .nilFunc := ⟨by kernel_rfl⟩
instance sz58 : TSize Try.prog 58 1 := ⟨by kernel_rfl⟩
instance by58 : TBytes Try.prog 58 8 := ⟨by kernel_rfl⟩
instance on58 : TOne Try.prog 58 := ⟨by kernel_rfl, by kernel_rfl⟩
instance ze58 : TZero Try.prog 58 .nilFunc := ⟨by kernel_rfl⟩
instance sz59 : TSize Try.prog 59 1 := ⟨by kernel_rfl⟩
instance by59 : TBytes Try.prog 59 24 := ⟨by kernel_rfl⟩
instance on59 : TOne Try.prog 59 := ⟨by kernel_rfl, by kernel_rfl⟩
instance ze59 : TZero Try.prog 59 (.slice none 0 0) := ⟨by kernel_rfl⟩
instance de59 : TDesc Try.prog 59 (.slice 67) := ⟨by kernel_rfl⟩
instance sz60 : TSize Try.prog 60 4 := ⟨by kernel_rfl⟩
instance by60 : TBytes Try.prog 60 48 := ⟨by kernel_rfl⟩
instance ag60 : TAgg Try.prog 60 4 := ⟨by kernel_rfl, by kernel_rfl⟩
instance ze60 : TZero Try.prog 60 (.agg [(.int .i64 0), (.slice none 0 0), (.int .i64 0), (.int .i64 0)].toArray) := ⟨by kernel_rfl⟩
instance td60 : TFds Try.prog 60 [(3, 0), (59, 1), (3, 2), (3, 3)] := ⟨by kernel_rfl, by kernel_rfl⟩
instance pl60 : TPlaces Try.prog 60 := ⟨by kernel_rfl⟩
instance fo60_0 : FOff Try.prog 60 0 0 1 := ⟨by kernel_rfl, rfl⟩
instance fo60_1 : FOff Try.prog 60 1 1 1 := ⟨by kernel_rfl, rfl⟩
instance fo60_2 : FOff Try.prog 60 2 2 1 := ⟨by kernel_rfl, rfl⟩
instance fo60_3 : FOff Try.prog 60 3 3 1 := ⟨by kernel_rfl, rfl⟩
instance sz61 : TSize Try.prog 61 4 := ⟨by kernel_rfl⟩
instance by61 : TBytes Try.prog 61 48 := ⟨by kernel_rfl⟩
instance ag61 : TAgg Try.prog 61 4 := ⟨by kernel_rfl, by kernel_rfl⟩
instance ze61 : TZero Try.prog 61 (.agg [(.int .i64 0), (.slice none 0 0), (.int .i64 0), (.int .i64 0)].toArray) := ⟨by kernel_rfl⟩
instance td61 : TFds Try.prog 61 [(3, 0), (59, 1), (3, 2), (3, 3)] := ⟨by kernel_rfl, by kernel_rfl⟩
instance pl61 : TPlaces Try.prog 61 := ⟨by kernel_rfl⟩
instance fo61_0 : FOff Try.prog 61 0 0 1 := ⟨by kernel_rfl, rfl⟩
instance fo61_1 : FOff Try.prog 61 1 1 1 := ⟨by kernel_rfl, rfl⟩
instance fo61_2 : FOff Try.prog 61 2 2 1 := ⟨by kernel_rfl, rfl⟩
instance fo61_3 : FOff Try.prog 61 3 3 1 := ⟨by kernel_rfl, rfl⟩
instance sz62 : TSize Try.prog 62 1 := ⟨by kernel_rfl⟩
instance by62 : TBytes Try.prog 62 8 := ⟨by kernel_rfl⟩
instance on62 : TOne Try.prog 62 := ⟨by kernel_rfl, by kernel_rfl⟩
instance ze62 : TZero Try.prog 62 .nilFunc := ⟨by kernel_rfl⟩
instance sz64 : TSize Try.prog 64 1 := ⟨by kernel_rfl⟩
instance by64 : TBytes Try.prog 64 8 := ⟨by kernel_rfl⟩
instance on64 : TOne Try.prog 64 := ⟨by kernel_rfl, by kernel_rfl⟩
instance ze64 : TZero Try.prog 64 .nilFunc := ⟨by kernel_rfl⟩
instance sz65 : TSize Try.prog 65 1 := ⟨by kernel_rfl⟩
instance by65 : TBytes Try.prog 65 8 := ⟨by kernel_rfl⟩
instance on65 : TOne Try.prog 65 := ⟨by kernel_rfl, by kernel_rfl⟩
instance ze65 : TZero Try.prog 65 .nilFunc := ⟨by kernel_rfl⟩
instance sz66 : TSize Try.prog 66 1 := ⟨by kernel_rfl⟩
instance by66 : TBytes Try.prog 66 8 := ⟨by kernel_rfl⟩
instance on66 : TOne Try.prog 66 := ⟨by kernel_rfl, by kernel_rfl⟩
instance ze66 : TZero Try.prog 66 .nilFunc := ⟨by kernel_rfl⟩
instance sz67 : TSize Try.prog 67 1 := ⟨by kernel_rfl⟩
instance by67 : TBytes Try.prog 67 8 := ⟨by kernel_rfl⟩
instance on67 : TOne Try.prog 67 := ⟨by kernel_rfl, by kernel_rfl⟩
instance ze67 : TZero Try.prog 67 (.pointer none) := ⟨by kernel_rfl⟩
instance de67 : TDesc Try.prog 67 (.pointer 69) := ⟨by kernel_rfl⟩
instance sz68 : TSize Try.prog 68 3 := ⟨by kernel_rfl⟩
instance by68 : TBytes Try.prog 68 64 := ⟨by kernel_rfl⟩
instance ag68 : TAgg Try.prog 68 3 := ⟨by kernel_rfl, by kernel_rfl⟩
instance ze68 : TZero Try.prog 68 (.agg [(.string ByteArray.empty), (.slice none 0 0), (.slice none 0 0)].toArray) := ⟨by kernel_rfl⟩
instance td68 : TFds Try.prog 68 [(9, 0), (28, 1), (28, 2)] := ⟨by kernel_rfl, by kernel_rfl⟩
instance pl68 : TPlaces Try.prog 68 := ⟨by kernel_rfl⟩
instance fo68_0 : FOff Try.prog 68 0 0 1 := ⟨by kernel_rfl, rfl⟩
instance fo68_1 : FOff Try.prog 68 1 1 1 := ⟨by kernel_rfl, rfl⟩
instance fo68_2 : FOff Try.prog 68 2 2 1 := ⟨by kernel_rfl, rfl⟩
instance sz69 : TSize Try.prog 69 3 := ⟨by kernel_rfl⟩
instance by69 : TBytes Try.prog 69 64 := ⟨by kernel_rfl⟩
instance ag69 : TAgg Try.prog 69 3 := ⟨by kernel_rfl, by kernel_rfl⟩
instance ze69 : TZero Try.prog 69 (.agg [(.string ByteArray.empty), (.slice none 0 0), (.slice none 0 0)].toArray) := ⟨by kernel_rfl⟩
instance td69 : TFds Try.prog 69 [(9, 0), (28, 1), (28, 2)] := ⟨by kernel_rfl, by kernel_rfl⟩
instance pl69 : TPlaces Try.prog 69 := ⟨by kernel_rfl⟩
instance fo69_0 : FOff Try.prog 69 0 0 1 := ⟨by kernel_rfl, rfl⟩
instance fo69_1 : FOff Try.prog 69 1 1 1 := ⟨by kernel_rfl, rfl⟩
instance fo69_2 : FOff Try.prog 69 2 2 1 := ⟨by kernel_rfl, rfl⟩
instance sz71 : TSize Try.prog 71 1 := ⟨by kernel_rfl⟩
instance by71 : TBytes Try.prog 71 8 := ⟨by kernel_rfl⟩
instance on71 : TOne Try.prog 71 := ⟨by kernel_rfl, by kernel_rfl⟩
instance ze71 : TZero Try.prog 71 .nilFunc := ⟨by kernel_rfl⟩
instance sz72 : TSize Try.prog 72 1 := ⟨by kernel_rfl⟩
instance by72 : TBytes Try.prog 72 8 := ⟨by kernel_rfl⟩
instance on72 : TOne Try.prog 72 := ⟨by kernel_rfl, by kernel_rfl⟩
instance ze72 : TZero Try.prog 72 .nilFunc := ⟨by kernel_rfl⟩
instance sz73 : TSize Try.prog 73 1 := ⟨by kernel_rfl⟩
instance by73 : TBytes Try.prog 73 8 := ⟨by kernel_rfl⟩
instance on73 : TOne Try.prog 73 := ⟨by kernel_rfl, by kernel_rfl⟩
instance ze73 : TZero Try.prog 73 .nilFunc := ⟨by kernel_rfl⟩
instance sz74 : TSize Try.prog 74 1 := ⟨by kernel_rfl⟩
instance by74 : TBytes Try.prog 74 8 := ⟨by kernel_rfl⟩
instance on74 : TOne Try.prog 74 := ⟨by kernel_rfl, by kernel_rfl⟩
instance ze74 : TZero Try.prog 74 .nilFunc := ⟨by kernel_rfl⟩
instance sz75 : TSize Try.prog 75 1 := ⟨by kernel_rfl⟩
instance by75 : TBytes Try.prog 75 8 := ⟨by kernel_rfl⟩
instance on75 : TOne Try.prog 75 := ⟨by kernel_rfl, by kernel_rfl⟩
instance ze75 : TZero Try.prog 75 .nilFunc := ⟨by kernel_rfl⟩
instance sz76 : TSize Try.prog 76 1 := ⟨by kernel_rfl⟩
instance by76 : TBytes Try.prog 76 8 := ⟨by kernel_rfl⟩
instance on76 : TOne Try.prog 76 := ⟨by kernel_rfl, by kernel_rfl⟩
instance ze76 : TZero Try.prog 76 .nilFunc := ⟨by kernel_rfl⟩
instance sz77 : TSize Try.prog 77 1 := ⟨by kernel_rfl⟩
instance by77 : TBytes Try.prog 77 24 := ⟨by kernel_rfl⟩
instance on77 : TOne Try.prog 77 := ⟨by kernel_rfl, by kernel_rfl⟩
instance ze77 : TZero Try.prog 77 (.slice none 0 0) := ⟨by kernel_rfl⟩
instance de77 : TDesc Try.prog 77 (.slice 97) := ⟨by kernel_rfl⟩
instance sz78 : TSize Try.prog 78 4 := ⟨by kernel_rfl⟩
instance by78 : TBytes Try.prog 78 48 := ⟨by kernel_rfl⟩
instance ag78 : TAgg Try.prog 78 4 := ⟨by kernel_rfl, by kernel_rfl⟩
instance ze78 : TZero Try.prog 78 (.agg [(.int .i64 0), (.slice none 0 0), (.int .i64 0), (.int .i64 0)].toArray) := ⟨by kernel_rfl⟩
instance td78 : TFds Try.prog 78 [(3, 0), (77, 1), (3, 2), (3, 3)] := ⟨by kernel_rfl, by kernel_rfl⟩
instance pl78 : TPlaces Try.prog 78 := ⟨by kernel_rfl⟩
instance fo78_0 : FOff Try.prog 78 0 0 1 := ⟨by kernel_rfl, rfl⟩
instance fo78_1 : FOff Try.prog 78 1 1 1 := ⟨by kernel_rfl, rfl⟩
instance fo78_2 : FOff Try.prog 78 2 2 1 := ⟨by kernel_rfl, rfl⟩
instance fo78_3 : FOff Try.prog 78 3 3 1 := ⟨by kernel_rfl, rfl⟩
instance sz79 : TSize Try.prog 79 4 := ⟨by kernel_rfl⟩
instance by79 : TBytes Try.prog 79 48 := ⟨by kernel_rfl⟩
instance ag79 : TAgg Try.prog 79 4 := ⟨by kernel_rfl, by kernel_rfl⟩
instance ze79 : TZero Try.prog 79 (.agg [(.int .i64 0), (.slice none 0 0), (.int .i64 0), (.int .i64 0)].toArray) := ⟨by kernel_rfl⟩
instance td79 : TFds Try.prog 79 [(3, 0), (77, 1), (3, 2), (3, 3)] := ⟨by kernel_rfl, by kernel_rfl⟩
instance pl79 : TPlaces Try.prog 79 := ⟨by kernel_rfl⟩
instance fo79_0 : FOff Try.prog 79 0 0 1 := ⟨by kernel_rfl, rfl⟩
instance fo79_1 : FOff Try.prog 79 1 1 1 := ⟨by kernel_rfl, rfl⟩
instance fo79_2 : FOff Try.prog 79 2 2 1 := ⟨by kernel_rfl, rfl⟩
instance fo79_3 : FOff Try.prog 79 3 3 1 := ⟨by kernel_rfl, rfl⟩
instance sz80 : TSize Try.prog 80 1 := ⟨by kernel_rfl⟩
instance by80 : TBytes Try.prog 80 8 := ⟨by kernel_rfl⟩
instance on80 : TOne Try.prog 80 := ⟨by kernel_rfl, by kernel_rfl⟩
instance ze80 : TZero Try.prog 80 .nilFunc := ⟨by kernel_rfl⟩
instance sz81 : TSize Try.prog 81 1 := ⟨by kernel_rfl⟩
instance by81 : TBytes Try.prog 81 8 := ⟨by kernel_rfl⟩
instance on81 : TOne Try.prog 81 := ⟨by kernel_rfl, by kernel_rfl⟩
instance ze81 : TZero Try.prog 81 .nilFunc := ⟨by kernel_rfl⟩
instance sz82 : TSize Try.prog 82 1 := ⟨by kernel_rfl⟩
instance by82 : TBytes Try.prog 82 8 := ⟨by kernel_rfl⟩
instance on82 : TOne Try.prog 82 := ⟨by kernel_rfl, by kernel_rfl⟩
instance ze82 : TZero Try.prog 82 .nilFunc := ⟨by kernel_rfl⟩
instance sz83 : TSize Try.prog 83 1 := ⟨by kernel_rfl⟩
instance by83 : TBytes Try.prog 83 8 := ⟨by kernel_rfl⟩
instance on83 : TOne Try.prog 83 := ⟨by kernel_rfl, by kernel_rfl⟩
instance ze83 : TZero Try.prog 83 .nilFunc := ⟨by kernel_rfl⟩
instance sz84 : TSize Try.prog 84 1 := ⟨by kernel_rfl⟩
instance by84 : TBytes Try.prog 84 8 := ⟨by kernel_rfl⟩
instance on84 : TOne Try.prog 84 := ⟨by kernel_rfl, by kernel_rfl⟩
instance ze84 : TZero Try.prog 84 .nilFunc := ⟨by kernel_rfl⟩
instance sz85 : TSize Try.prog 85 1 := ⟨by kernel_rfl⟩
instance by85 : TBytes Try.prog 85 8 := ⟨by kernel_rfl⟩
instance on85 : TOne Try.prog 85 := ⟨by kernel_rfl, by kernel_rfl⟩
instance ze85 : TZero Try.prog 85 .nilFunc := ⟨by kernel_rfl⟩
instance sz86 : TSize Try.prog 86 1 := ⟨by kernel_rfl⟩
instance by86 : TBytes Try.prog 86 8 := ⟨by kernel_rfl⟩
instance on86 : TOne Try.prog 86 := ⟨by kernel_rfl, by kernel_rfl⟩
instance ze86 : TZero Try.prog 86 .nilFunc := ⟨by kernel_rfl⟩
instance sz88 : TSize Try.prog 88 1 := ⟨by kernel_rfl⟩
instance by88 : TBytes Try.prog 88 8 := ⟨by kernel_rfl⟩
instance on88 : TOne Try.prog 88 := ⟨by kernel_rfl, by kernel_rfl⟩
instance ze88 : TZero Try.prog 88 .nilFunc := ⟨by kernel_rfl⟩
instance sz89 : TSize Try.prog 89 1 := ⟨by kernel_rfl⟩
instance by89 : TBytes Try.prog 89 8 := ⟨by kernel_rfl⟩
instance on89 : TOne Try.prog 89 := ⟨by kernel_rfl, by kernel_rfl⟩
instance ze89 : TZero Try.prog 89 .nilFunc := ⟨by kernel_rfl⟩
instance sz90 : TSize Try.prog 90 1 := ⟨by kernel_rfl⟩
instance by90 : TBytes Try.prog 90 8 := ⟨by kernel_rfl⟩
instance on90 : TOne Try.prog 90 := ⟨by kernel_rfl, by kernel_rfl⟩
instance ze90 : TZero Try.prog 90 .nilFunc := ⟨by kernel_rfl⟩
instance sz91 : TSize Try.prog 91 1 := ⟨by kernel_rfl⟩
instance by91 : TBytes Try.prog 91 8 := ⟨by kernel_rfl⟩
instance on91 : TOne Try.prog 91 := ⟨by kernel_rfl, by kernel_rfl⟩
instance ze91 : TZero Try.prog 91 .nilFunc := ⟨by kernel_rfl⟩
instance sz92 : TSize Try.prog 92 1 := ⟨by kernel_rfl⟩
instance by92 : TBytes Try.prog 92 8 := ⟨by kernel_rfl⟩
instance on92 : TOne Try.prog 92 := ⟨by kernel_rfl, by kernel_rfl⟩
instance ze92 : TZero Try.prog 92 .nilFunc := ⟨by kernel_rfl⟩
instance sz93 : TSize Try.prog 93 1 := ⟨by kernel_rfl⟩
instance by93 : TBytes Try.prog 93 24 := ⟨by kernel_rfl⟩
instance on93 : TOne Try.prog 93 := ⟨by kernel_rfl, by kernel_rfl⟩
instance ze93 : TZero Try.prog 93 (.slice none 0 0) := ⟨by kernel_rfl⟩
instance de93 : TDesc Try.prog 93 (.slice 28) := ⟨by kernel_rfl⟩
instance sz94 : TSize Try.prog 94 1 := ⟨by kernel_rfl⟩
instance by94 : TBytes Try.prog 94 8 := ⟨by kernel_rfl⟩
instance on94 : TOne Try.prog 94 := ⟨by kernel_rfl, by kernel_rfl⟩
instance ze94 : TZero Try.prog 94 .nilFunc := ⟨by kernel_rfl⟩
instance sz95 : TSize Try.prog 95 1 := ⟨by kernel_rfl⟩
instance by95 : TBytes Try.prog 95 8 := ⟨by kernel_rfl⟩
instance on95 : TOne Try.prog 95 := ⟨by kernel_rfl, by kernel_rfl⟩
instance ze95 : TZero Try.prog 95 .nilFunc := ⟨by kernel_rfl⟩
instance sz96 : TSize Try.prog 96 3 := ⟨by kernel_rfl⟩
instance by96 : TBytes Try.prog 96 48 := ⟨by kernel_rfl⟩
instance ag96 : TAgg Try.prog 96 3 := ⟨by kernel_rfl, by kernel_rfl⟩
instance ze96 : TZero Try.prog 96 (.agg [(.string ByteArray.empty), (.slice none 0 0), (.int .i64 0)].toArray) := ⟨by kernel_rfl⟩
instance td96 : TFds Try.prog 96 [(9, 0), (28, 1), (3, 2)] := ⟨by kernel_rfl, by kernel_rfl⟩
instance pl96 : TPlaces Try.prog 96 := ⟨by kernel_rfl⟩
instance fo96_0 : FOff Try.prog 96 0 0 1 := ⟨by kernel_rfl, rfl⟩
instance fo96_1 : FOff Try.prog 96 1 1 1 := ⟨by kernel_rfl, rfl⟩
instance fo96_2 : FOff Try.prog 96 2 2 1 := ⟨by kernel_rfl, rfl⟩
instance sz97 : TSize Try.prog 97 3 := ⟨by kernel_rfl⟩
instance by97 : TBytes Try.prog 97 48 := ⟨by kernel_rfl⟩
instance ag97 : TAgg Try.prog 97 3 := ⟨by kernel_rfl, by kernel_rfl⟩
instance ze97 : TZero Try.prog 97 (.agg [(.string ByteArray.empty), (.slice none 0 0), (.int .i64 0)].toArray) := ⟨by kernel_rfl⟩
instance td97 : TFds Try.prog 97 [(9, 0), (28, 1), (3, 2)] := ⟨by kernel_rfl, by kernel_rfl⟩
instance pl97 : TPlaces Try.prog 97 := ⟨by kernel_rfl⟩
instance fo97_0 : FOff Try.prog 97 0 0 1 := ⟨by kernel_rfl, rfl⟩
instance fo97_1 : FOff Try.prog 97 1 1 1 := ⟨by kernel_rfl, rfl⟩
instance fo97_2 : FOff Try.prog 97 2 2 1 := ⟨by kernel_rfl, rfl⟩
instance sz98 : TSize Try.prog 98 1 := ⟨by kernel_rfl⟩
instance by98 : TBytes Try.prog 98 8 := ⟨by kernel_rfl⟩
instance on98 : TOne Try.prog 98 := ⟨by kernel_rfl, by kernel_rfl⟩
instance ze98 : TZero Try.prog 98 .nilFunc := ⟨by kernel_rfl⟩
instance sz99 : TSize Try.prog 99 1 := ⟨by kernel_rfl⟩
instance by99 : TBytes Try.prog 99 8 := ⟨by kernel_rfl⟩
instance on99 : TOne Try.prog 99 := ⟨by kernel_rfl, by kernel_rfl⟩
instance ze99 : TZero Try.prog 99 .nilFunc := ⟨by kernel_rfl⟩
instance sz100 : TSize Try.prog 100 1 := ⟨by kernel_rfl⟩
instance by100 : TBytes Try.prog 100 8 := ⟨by kernel_rfl⟩
instance on100 : TOne Try.prog 100 := ⟨by kernel_rfl, by kernel_rfl⟩
instance ze100 : TZero Try.prog 100 (.int .u64 0) := ⟨by kernel_rfl⟩
instance de100 : TDesc Try.prog 100 (.int .u64) := ⟨by kernel_rfl⟩
instance sz101 : TSize Try.prog 101 1 := ⟨by kernel_rfl⟩
instance by101 : TBytes Try.prog 101 8 := ⟨by kernel_rfl⟩
instance on101 : TOne Try.prog 101 := ⟨by kernel_rfl, by kernel_rfl⟩
instance ze101 : TZero Try.prog 101 .nilFunc := ⟨by kernel_rfl⟩
instance sz102 : TSize Try.prog 102 1 := ⟨by kernel_rfl⟩
instance by102 : TBytes Try.prog 102 8 := ⟨by kernel_rfl⟩
instance on102 : TOne Try.prog 102 := ⟨by kernel_rfl, by kernel_rfl⟩
instance ze102 : TZero Try.prog 102 .nilFunc := ⟨by kernel_rfl⟩
instance sz103 : TSize Try.prog 103 4 := ⟨by kernel_rfl⟩
instance by103 : TBytes Try.prog 103 40 := ⟨by kernel_rfl⟩
instance ag103 : TAgg Try.prog 103 4 := ⟨by kernel_rfl, by kernel_rfl⟩
instance ze103 : TZero Try.prog 103 (.agg [(.pointer none), (.pointer none), (.pointer none), (.string ByteArray.empty)].toArray) := ⟨by kernel_rfl⟩
instance td103 : TFds Try.prog 103 [(17, 0), (17, 1), (17, 2), (9, 3)] := ⟨by kernel_rfl, by kernel_rfl⟩
instance pl103 : TPlaces Try.prog 103 := ⟨by kernel_rfl⟩
instance fo103_0 : FOff Try.prog 103 0 0 1 := ⟨by kernel_rfl, rfl⟩
instance fo103_1 : FOff Try.prog 103 1 1 1 := ⟨by kernel_rfl, rfl⟩
instance fo103_2 : FOff Try.prog 103 2 2 1 := ⟨by kernel_rfl, rfl⟩
instance fo103_3 : FOff Try.prog 103 3 3 1 := ⟨by kernel_rfl, rfl⟩
instance sz104 : TSize Try.prog 104 4 := ⟨by kernel_rfl⟩
instance by104 : TBytes Try.prog 104 40 := ⟨by kernel_rfl⟩
instance ag104 : TAgg Try.prog 104 4 := ⟨by kernel_rfl, by kernel_rfl⟩
instance ze104 : TZero Try.prog 104 (.agg [(.pointer none), (.pointer none), (.pointer none), (.string ByteArray.empty)].toArray) := ⟨by kernel_rfl⟩
instance td104 : TFds Try.prog 104 [(17, 0), (17, 1), (17, 2), (9, 3)] := ⟨by kernel_rfl, by kernel_rfl⟩
instance pl104 : TPlaces Try.prog 104 := ⟨by kernel_rfl⟩
instance fo104_0 : FOff Try.prog 104 0 0 1 := ⟨by kernel_rfl, rfl⟩
instance fo104_1 : FOff Try.prog 104 1 1 1 := ⟨by kernel_rfl, rfl⟩
instance fo104_2 : FOff Try.prog 104 2 2 1 := ⟨by kernel_rfl, rfl⟩
instance fo104_3 : FOff Try.prog 104 3 3 1 := ⟨by kernel_rfl, rfl⟩
instance sz105 : TSize Try.prog 105 0 := ⟨by kernel_rfl⟩
instance by105 : TBytes Try.prog 105 0 := ⟨by kernel_rfl⟩
instance ag105 : TAgg Try.prog 105 0 := ⟨by kernel_rfl, by kernel_rfl⟩
instance ze105 : TZero Try.prog 105 (.agg [].toArray) := ⟨by kernel_rfl⟩
instance de105 : TDesc Try.prog 105 (.array 0 16) := ⟨by kernel_rfl⟩
instance sz106 : TSize Try.prog 106 0 := ⟨by kernel_rfl⟩
instance by106 : TBytes Try.prog 106 0 := ⟨by kernel_rfl⟩
instance ag106 : TAgg Try.prog 106 0 := ⟨by kernel_rfl, by kernel_rfl⟩
instance ze106 : TZero Try.prog 106 (.agg [].toArray) := ⟨by kernel_rfl⟩
instance td106 : TFds Try.prog 106 [(105, 0)] := ⟨by kernel_rfl, by kernel_rfl⟩
instance pl106 : TPlaces Try.prog 106 := ⟨by kernel_rfl⟩
instance sz107 : TSize Try.prog 107 0 := ⟨by kernel_rfl⟩
instance by107 : TBytes Try.prog 107 0 := ⟨by kernel_rfl⟩
instance ag107 : TAgg Try.prog 107 0 := ⟨by kernel_rfl, by kernel_rfl⟩
instance ze107 : TZero Try.prog 107 (.agg [].toArray) := ⟨by kernel_rfl⟩
instance td107 : TFds Try.prog 107 [(105, 0)] := ⟨by kernel_rfl, by kernel_rfl⟩
instance pl107 : TPlaces Try.prog 107 := ⟨by kernel_rfl⟩
instance sz108 : TSize Try.prog 108 1 := ⟨by kernel_rfl⟩
instance by108 : TBytes Try.prog 108 4 := ⟨by kernel_rfl⟩
instance on108 : TOne Try.prog 108 := ⟨by kernel_rfl, by kernel_rfl⟩
instance ze108 : TZero Try.prog 108 (.int .u32 0) := ⟨by kernel_rfl⟩
instance de108 : TDesc Try.prog 108 (.int .u32) := ⟨by kernel_rfl⟩
instance sz109 : TSize Try.prog 109 1 := ⟨by kernel_rfl⟩
instance by109 : TBytes Try.prog 109 1 := ⟨by kernel_rfl⟩
instance on109 : TOne Try.prog 109 := ⟨by kernel_rfl, by kernel_rfl⟩
instance ze109 : TZero Try.prog 109 (.int .u8 0) := ⟨by kernel_rfl⟩
instance de109 : TDesc Try.prog 109 (.int .u8) := ⟨by kernel_rfl⟩
instance sz110 : TSize Try.prog 110 1 := ⟨by kernel_rfl⟩
instance by110 : TBytes Try.prog 110 1 := ⟨by kernel_rfl⟩
instance on110 : TOne Try.prog 110 := ⟨by kernel_rfl, by kernel_rfl⟩
instance ze110 : TZero Try.prog 110 (.int .u8 0) := ⟨by kernel_rfl⟩
instance de110 : TDesc Try.prog 110 (.int .u8) := ⟨by kernel_rfl⟩
instance sz111 : TSize Try.prog 111 1 := ⟨by kernel_rfl⟩
instance by111 : TBytes Try.prog 111 8 := ⟨by kernel_rfl⟩
instance on111 : TOne Try.prog 111 := ⟨by kernel_rfl, by kernel_rfl⟩
instance ze111 : TZero Try.prog 111 .nilFunc := ⟨by kernel_rfl⟩
instance sz112 : TSize Try.prog 112 1 := ⟨by kernel_rfl⟩
instance by112 : TBytes Try.prog 112 8 := ⟨by kernel_rfl⟩
instance on112 : TOne Try.prog 112 := ⟨by kernel_rfl, by kernel_rfl⟩
instance ze112 : TZero Try.prog 112 (.pointer none) := ⟨by kernel_rfl⟩
instance de112 : TDesc Try.prog 112 (.pointer 5) := ⟨by kernel_rfl⟩
instance sz113 : TSize Try.prog 113 1 := ⟨by kernel_rfl⟩
instance by113 : TBytes Try.prog 113 4 := ⟨by kernel_rfl⟩
instance on113 : TOne Try.prog 113 := ⟨by kernel_rfl, by kernel_rfl⟩
instance ze113 : TZero Try.prog 113 (.int .i32 0) := ⟨by kernel_rfl⟩
instance de113 : TDesc Try.prog 113 (.int .i32) := ⟨by kernel_rfl⟩
instance sz114 : TSize Try.prog 114 1 := ⟨by kernel_rfl⟩
instance by114 : TBytes Try.prog 114 4 := ⟨by kernel_rfl⟩
instance on114 : TOne Try.prog 114 := ⟨by kernel_rfl, by kernel_rfl⟩
instance ze114 : TZero Try.prog 114 (.int .i32 0) := ⟨by kernel_rfl⟩
instance de114 : TDesc Try.prog 114 (.int .i32) := ⟨by kernel_rfl⟩
instance sz115 : TSize Try.prog 115 11 := ⟨by kernel_rfl⟩
instance by115 : TBytes Try.prog 115 48 := ⟨by kernel_rfl⟩
instance ag115 : TAgg Try.prog 115 11 := ⟨by kernel_rfl, by kernel_rfl⟩
instance ze115 : TZero Try.prog 115 (.agg [(.int .u64 0), (.int .u64 0), (.int .u32 0), (.int .u8 0), (.int .u8 0), (.int .u8 0), (.int .u8 0), .nilFunc, (.pointer none), (.int .i32 0), (.int .i32 0)].toArray) := ⟨by kernel_rfl⟩
instance td115 : TFds Try.prog 115 [(12, 0), (12, 1), (108, 2), (109, 3), (5, 4), (5, 5), (110, 6), (111, 7), (112, 8), (113, 9), (114, 10)] := ⟨by kernel_rfl, by kernel_rfl⟩
instance pl115 : TPlaces Try.prog 115 := ⟨by kernel_rfl⟩
instance fo115_0 : FOff Try.prog 115 0 0 1 := ⟨by kernel_rfl, rfl⟩
instance fo115_1 : FOff Try.prog 115 1 1 1 := ⟨by kernel_rfl, rfl⟩
instance fo115_2 : FOff Try.prog 115 2 2 1 := ⟨by kernel_rfl, rfl⟩
instance fo115_3 : FOff Try.prog 115 3 3 1 := ⟨by kernel_rfl, rfl⟩
instance fo115_4 : FOff Try.prog 115 4 4 1 := ⟨by kernel_rfl, rfl⟩
instance fo115_5 : FOff Try.prog 115 5 5 1 := ⟨by kernel_rfl, rfl⟩
instance fo115_6 : FOff Try.prog 115 6 6 1 := ⟨by kernel_rfl, rfl⟩
instance fo115_7 : FOff Try.prog 115 7 7 1 := ⟨by kernel_rfl, rfl⟩
instance fo115_8 : FOff Try.prog 115 8 8 1 := ⟨by kernel_rfl, rfl⟩
instance fo115_9 : FOff Try.prog 115 9 9 1 := ⟨by kernel_rfl, rfl⟩
instance fo115_10 : FOff Try.prog 115 10 10 1 := ⟨by kernel_rfl, rfl⟩
instance sz116 : TSize Try.prog 116 11 := ⟨by kernel_rfl⟩
instance by116 : TBytes Try.prog 116 48 := ⟨by kernel_rfl⟩
instance ag116 : TAgg Try.prog 116 11 := ⟨by kernel_rfl, by kernel_rfl⟩
instance ze116 : TZero Try.prog 116 (.agg [(.int .u64 0), (.int .u64 0), (.int .u32 0), (.int .u8 0), (.int .u8 0), (.int .u8 0), (.int .u8 0), .nilFunc, (.pointer none), (.int .i32 0), (.int .i32 0)].toArray) := ⟨by kernel_rfl⟩
instance td116 : TFds Try.prog 116 [(12, 0), (12, 1), (108, 2), (109, 3), (5, 4), (5, 5), (110, 6), (111, 7), (112, 8), (113, 9), (114, 10)] := ⟨by kernel_rfl, by kernel_rfl⟩
instance pl116 : TPlaces Try.prog 116 := ⟨by kernel_rfl⟩
instance fo116_0 : FOff Try.prog 116 0 0 1 := ⟨by kernel_rfl, rfl⟩
instance fo116_1 : FOff Try.prog 116 1 1 1 := ⟨by kernel_rfl, rfl⟩
instance fo116_2 : FOff Try.prog 116 2 2 1 := ⟨by kernel_rfl, rfl⟩
instance fo116_3 : FOff Try.prog 116 3 3 1 := ⟨by kernel_rfl, rfl⟩
instance fo116_4 : FOff Try.prog 116 4 4 1 := ⟨by kernel_rfl, rfl⟩
instance fo116_5 : FOff Try.prog 116 5 5 1 := ⟨by kernel_rfl, rfl⟩
instance fo116_6 : FOff Try.prog 116 6 6 1 := ⟨by kernel_rfl, rfl⟩
instance fo116_7 : FOff Try.prog 116 7 7 1 := ⟨by kernel_rfl, rfl⟩
instance fo116_8 : FOff Try.prog 116 8 8 1 := ⟨by kernel_rfl, rfl⟩
instance fo116_9 : FOff Try.prog 116 9 9 1 := ⟨by kernel_rfl, rfl⟩
instance fo116_10 : FOff Try.prog 116 10 10 1 := ⟨by kernel_rfl, rfl⟩
instance ca3 : Callable Try.prog 3 := callable (by kernel_rfl)
instance ca4 : Callable Try.prog 4 := callable (by kernel_rfl)
instance ca5 : Callable Try.prog 5 := callable (by kernel_rfl)
instance ca6 : Callable Try.prog 6 := callable (by kernel_rfl)
instance ca7 : Callable Try.prog 7 := callable (by kernel_rfl)
instance ca8 : Callable Try.prog 8 := callable (by kernel_rfl)
instance ca9 : Callable Try.prog 9 := callable (by kernel_rfl)
instance ca10 : Callable Try.prog 10 := callable (by kernel_rfl)
instance ca11 : Callable Try.prog 11 := callable (by kernel_rfl)
instance ca12 : Callable Try.prog 12 := callable (by kernel_rfl)
instance ca13 : Callable Try.prog 13 := callable (by kernel_rfl)
instance ca14 : Callable Try.prog 14 := callable (by kernel_rfl)
instance ca15 : Callable Try.prog 15 := callable (by kernel_rfl)
instance ca16 : Callable Try.prog 16 := callable (by kernel_rfl)
instance ca17 : Callable Try.prog 17 := callable (by kernel_rfl)
instance ca18 : Callable Try.prog 18 := callable (by kernel_rfl)
instance ca19 : Callable Try.prog 19 := callable (by kernel_rfl)
instance ca20 : Callable Try.prog 20 := callable (by kernel_rfl)
instance ca21 : Callable Try.prog 21 := callable (by kernel_rfl)
instance ca22 : Callable Try.prog 22 := callable (by kernel_rfl)
instance ca23 : Callable Try.prog 23 := callable (by kernel_rfl)
instance ca24 : Callable Try.prog 24 := callable (by kernel_rfl)
instance ca25 : Callable Try.prog 25 := callable (by kernel_rfl)
instance ca26 : Callable Try.prog 26 := callable (by kernel_rfl)
instance ca27 : Callable Try.prog 27 := callable (by kernel_rfl)
instance ca28 : Callable Try.prog 28 := callable (by kernel_rfl)
instance ca29 : Callable Try.prog 29 := callable (by kernel_rfl)
instance ca30 : Callable Try.prog 30 := callable (by kernel_rfl)
instance ca31 : Callable Try.prog 31 := callable (by kernel_rfl)
instance ca32 : Callable Try.prog 32 := callable (by kernel_rfl)
instance ca33 : Callable Try.prog 33 := callable (by kernel_rfl)
instance ca34 : Callable Try.prog 34 := callable (by kernel_rfl)
instance ca35 : Callable Try.prog 35 := callable (by kernel_rfl)
instance ca36 : Callable Try.prog 36 := callable (by kernel_rfl)
instance ca37 : Callable Try.prog 37 := callable (by kernel_rfl)
instance ca38 : Callable Try.prog 38 := callable (by kernel_rfl)
instance ca39 : Callable Try.prog 39 := callable (by kernel_rfl)
instance ca40 : Callable Try.prog 40 := callable (by kernel_rfl)
instance ca41 : Callable Try.prog 41 := callable (by kernel_rfl)
instance ca42 : Callable Try.prog 42 := callable (by kernel_rfl)
instance ca43 : Callable Try.prog 43 := callable (by kernel_rfl)
instance ca44 : Callable Try.prog 44 := callable (by kernel_rfl)
instance ca45 : Callable Try.prog 45 := callable (by kernel_rfl)
instance ca46 : Callable Try.prog 46 := callable (by kernel_rfl)
instance ca47 : Callable Try.prog 47 := callable (by kernel_rfl)
instance ca48 : Callable Try.prog 48 := callable (by kernel_rfl)
instance ca49 : Callable Try.prog 49 := callable (by kernel_rfl)
instance ca50 : Callable Try.prog 50 := callable (by kernel_rfl)
instance ca51 : Callable Try.prog 51 := callable (by kernel_rfl)
instance ca52 : Callable Try.prog 52 := callable (by kernel_rfl)
instance ca53 : Callable Try.prog 53 := callable (by kernel_rfl)
instance ca54 : Callable Try.prog 54 := callable (by kernel_rfl)
instance ca56 : Callable Try.prog 56 := callable (by kernel_rfl)
instance ca57 : Callable Try.prog 57 := callable (by kernel_rfl)
instance ca58 : Callable Try.prog 58 := callable (by kernel_rfl)
instance ca59 : Callable Try.prog 59 := callable (by kernel_rfl)
instance ca60 : Callable Try.prog 60 := callable (by kernel_rfl)
instance ca61 : Callable Try.prog 61 := callable (by kernel_rfl)
instance ca62 : Callable Try.prog 62 := callable (by kernel_rfl)
instance ca63 : Callable Try.prog 63 := callable (by kernel_rfl)
instance ca64 : Callable Try.prog 64 := callable (by kernel_rfl)
instance ca65 : Callable Try.prog 65 := callable (by kernel_rfl)
instance ca66 : Callable Try.prog 66 := callable (by kernel_rfl)
instance ca67 : Callable Try.prog 67 := callable (by kernel_rfl)
instance ca68 : Callable Try.prog 68 := callable (by kernel_rfl)
end Go.Proofs.Ytfjkfcfmbipfhaa.facts
