/- Contracts and laws that the proof stands on. -/
import Derived.Test.YtaahibcibgljbaaGreatDoorCallTold7
import Derived.Lib.MapLaws
import Derived.Lib.TrimUEq
import Derived.Lib.RuneCountTail
import Derived.Lib.ValidLaws
import Derived.Test.YtaahibcibgljbaaGreatDoorCallTold3
import Derived.RowKit3
import Derived.Below
import Derived.Carry
import Derived.ChangeArms
import Derived.ProofKit
import Derived.OpenShut
set_option linter.unusedSimpArgs false
set_option linter.unusedVariables false
namespace Go.Sl
variable {P : Program} {Γ : Ctx} {L R : List Chunk} {N : Nat} {fr : Fr} {Q : Exit → Act → World → Prop} {ops : Array Oper} {rest : List Oper}
variable {d : Nat} {ty : TypeId} {pos : String} {aft : Array Edge} {gd : Option (Nat × Bool)} {x y z : Operand} {v u : Value} {t t2 tx : TypeId}
theorem qs_sliceStr {s : ByteArray} {l h : Nat} {lo hi : Option Operand} (D : TDesc P t .string) (hx : ev fr x = some (.string s)) (hl : Bnd fr 0 lo l) (hh : Bnd fr s.size hi h) (h1 : l ≤ h) (h2 : h ≤ s.size) :
    QStep P Γ fr ⟨some d, .slice t x lo hi none, ty, pos, aft, gd⟩ (.string (s.extract l h)) := qs_of (fun a w hf => by
  have key : ∀ (lv hv : Option Value), (lo.map a.eval = lv) → (hi.map a.eval = hv) → (Instr.sliceBounds false s.size s.size lv hv none).run P w = .ok (l, h, s.size) w → (execOp a.eval ⟨some d, .slice t x lo hi none, ty, pos, aft, gd⟩).run P w = .ok (.value (.string (s.extract l h))) w := by
    intro lv hv e1 e2 e3
    simp only [execOp, hf.ev hx, e1, e2, Option.map_none, Instr.sliceAt, Instr.slice, Sem.run_bind, run_underlying D.desc, Result.andThen_ok, Option.isSome_none, Bool.false_eq_true, if_false, e3, Sem.run_pure]
  cases hl with
  | none =>
    cases hh with
    | none => exact key none none rfl rfl (by simp [Instr.sliceBounds])
    | @some x' i' n' g1 g2 =>
      subst g2
      exact key none (some (.int .i64 h)) rfl (by simp [hf.ev g1]) (by simp [Instr.sliceBounds, run_sliceBound, h2])
  | @some x' i' n' g1 g2 =>
    subst g2
    cases hh with
    | none => exact key (some (.int .i64 l)) none (by simp [hf.ev g1]) rfl (by simp [Instr.sliceBounds, run_sliceBound, h1])
    | @some x2 i2 n2 g3 g4 =>
      subst g4
      exact key (some (.int .i64 l)) (some (.int .i64 h)) (by simp [hf.ev g1]) (by simp [hf.ev g3]) (by simp [Instr.sliceBounds, run_sliceBound, h1, h2]))
theorem qs_sliceArr {e : TypeId} {n h b o k : Nat} {kk : IntKind} {hi : Operand} (D : TDesc P t (.array n e)) (S : TSize P e k) (hx : ev fr x = some (.pointer (some ⟨b, o, none⟩))) (hh : ev fr hi = some (.int kk (h : Int))) (h2 : h ≤ n) (hz : n ≠ 0) :
    QStep P Γ fr ⟨some d, .slice t x none (some hi) none, ty, pos, aft, gd⟩ (.slice (some ⟨b, o, none⟩) h n) := qs_of (fun a w hf => by
  have hn : P.arrayLen t = n := by simp [Program.arrayLen, D.desc]
  have he : P.elem t = e := by simp [Program.elem, D.desc]
  have hr := run_sliceAt_array_h (P := P) w t ⟨b, o, none⟩ (by rw [hn, he]; exact D.desc) kk (h : Int) (by omega) (by rw [hn]; omega)
  rw [hn, he, run_sizeOf' S.size] at hr
  simp only [Result.andThen_ok, Int.toNat_natCast] at hr
  simp only [execOp, hf.ev hx, Option.map_none, Option.map_some, hf.ev hh, Sem.run_bind, hr]
  simp [slicedAt, hz, Addr.add])
theorem qs_shrK {i k : IntKind} {a n : Nat} (hx : ev fr x = some (.int i (a : Int))) (hy : ev fr y = some (.int k (n : Int))) (hn : n ≤ i.bits) : QStep P Γ fr ⟨some d, .binOp .shr t x y t2, ty, pos, aft, gd⟩ (.int i ((a / 2 ^ n : Nat) : Int)) :=
  qs_of (fun c w hf => by
    have e0 : ¬ ((n : Int) < 0) := by omega
    have e1 : min (n : Int).toNat i.bits = n := by
      rw [Int.toNat_natCast]; omega
    have e2 : (a : Int).fdiv (2 ^ n) = ((a / 2 ^ n : Nat) : Int) := by
      rw [Int.fdiv_eq_ediv_of_nonneg _ (by exact_mod_cast Nat.zero_le _)]
      norm_cast
    simp only [execOp, hf.ev hx, hf.ev hy, eqGuard_at_int, binOp_shr, Op.shift, e0, if_false, e1, e2]
    simp)
theorem does1_grow {f : FuncId} {args : List Value} {H H' : HP} (s : HP.sub H H') (fn : Does1 P f args [Pile H] v) : Does1 P f args [Pile H'] v := by
  intro Γ w hh
  obtain ⟨h, dh, sh, h1, h2, d12, s1, s2, hc, _⟩ := hh.own
  have hc' : h1 = H' := hc
  subst hc'
  let R : HP := h1.cut (fun b => (H b).isNone)
  have sR : HP.sub R h1 := HP.cut_sub _ _
  have dR : HP.disj H R := fun b => by
    show H b = none ∨ h1.cut (fun b => (H b).isNone) b = none
    unfold HP.cut
    cases hq : H b with
    | none => exact .inl rfl
    | some o => right; simp [hq]
  have dfR : HP.disj Γ.hf R := (HP.disj_sub dh.symm (sR.trans s1)).symm
  have dfH : HP.disj Γ.hf H := (HP.disj_sub dh.symm (s.trans s1)).symm
  have H0 : Holds (Γ.add R) [Pile H] w := by
    refine ⟨hh.os, hh.tape, hh.output, hh.frz, HP.union_sub hh.frame ((sR.trans s1).trans sh), H, ?_, (s.trans s1).trans sh, H, fun _ => none, fun _ => .inr rfl, HP.sub.refl _, (fun _ _ e => by cases e), rfl, trivial⟩
    exact HP.disj_union dfH dR.symm
  refine (fn (Γ.add R) w H0).mono ?_
  rintro e w' ⟨x, hx, rfl, hB⟩
  refine ⟨x, hx, rfl, ?_⟩
  obtain ⟨h', dh', sh', g1, _, _, t1, _, gc, _⟩ := hB.own
  have gc' : g1 = H := gc
  subst gc'
  have hf' : HP.sub (HP.union Γ.hf R) (wheap w') := hB.frame
  refine ⟨hB.os, hB.tape, hB.output, hB.frz, (HP.sub_union_left _ _).trans hf', h1, (HP.disj_sub dh.symm s1).symm, ?_, h1, fun _ => none, fun _ => .inr rfl, HP.sub.refl _, (fun _ _ e => by cases e), rfl, trivial⟩
  intro b o hb
  cases hg : g1 b with
  | some o' =>
    have e1 := s _ _ hg
    rw [hb] at e1
    cases e1
    exact sh' _ _ (t1 _ _ hg)
  | none => exact hf' _ _ (HP.sub_union_right dfR _ _ (by
      show h1.cut (fun b => (g1 b).isNone) b = some o
      unfold HP.cut
      simp [hg, hb]))
end Go.Sl

namespace Go.Sl
open Go Go.RowKit
abbrev Ctx.of (W : World) : Ctx := ⟨W.heap.size, fun b => fzOf W.heap[b]?, fun _ => none, W.os, W.tape, W.output⟩
abbrev Init (W : World) : Chunk := .asn fun h => h = wheap W
theorem holds_init (W : World) : Holds (Ctx.of W) [Init W] W :=
  ⟨rfl, rfl, rfl, ⟨Nat.le_refl _, fun _ _ => rfl⟩, (fun _ _ h => by cases h), wheap W, (fun _ => .inl rfl), HP.sub.refl _, wheap W, fun _ => none, (fun _ => .inr rfl), HP.sub.refl _, (fun _ _ h => by cases h), rfl, trivial⟩
structure Stays (W w : World) : Prop where
  kept : W.keptBut w (fun _ => False)
  froz : ∀ a : Addr, a.block < W.heap.size → w.frozen? a = W.frozen? a
  below : Below W.heap.size W w
theorem stays_of_holds {W w : World} {L R : List Chunk} (hh : Holds (Ctx.of W) L w) (s : Sel L (Init W) R) : Stays W w := by
  have hs := hh.sel s
  obtain ⟨h, _, s1, h1, _, _, t1, _, hc, _⟩ := hs.own
  have hc' : h1 = wheap W := hc
  subst hc'
  have keep : ∀ (i : Nat) (o : Obj), W.heap[i]? = some o → w.heap[i]? = some o := fun i o hi => s1 _ _ (t1 _ _ hi)
  have size : W.heap.size ≤ w.heap.size := by
    by_cases h0 : W.heap.size = 0
    · omega
    · have hi' : W.heap[W.heap.size - 1]? = some W.heap[W.heap.size - 1] := by simp
      have := (Array.getElem?_eq_some_iff.1 (keep _ _ hi')).1
      omega
  refine ⟨⟨hh.os, hh.output, fun i hi => ?_⟩, fun a ha => frozen_at a (hh.frz.2 a.block ha), hh.os, hh.tape, hh.output, size, fun k hk => ?_⟩
  · have hi' : W.heap[i]? = some W.heap[i] := by simp [hi]
    rw [keep i _ hi', hi']
    cases W.heap[i] with
    | cells c t fz => exact ⟨rfl, rfl, rfl, fun _ _ => rfl⟩
    | map es k => exact .inr ⟨rfl, rfl⟩
    | _ => rfl
  · have hi' : W.heap[k]? = some W.heap[k] := by simp [hk]
    rw [keep k _ hi', hi']
theorem calls_init {P : Program} {f : FuncId} {args : List Value} {X : Type} {ret : X → Value} {φ : X → Prop} (W : World) (d : Does P f args [Init W] ret (fun _ => [Init W]) φ) :
    Calls P f args.toArray W fun e w => ∃ x, φ x ∧ e = .returned (ret x) ∧ Stays W w :=
  (d (Ctx.of W) W (holds_init W)).mono fun e w ⟨x, hx, he, hh⟩ => ⟨x, hx, he, stays_of_holds hh .here⟩
theorem calls1_init {P : Program} {f : FuncId} {args : List Value} {v : Value} (W : World) (d : Does1 P f args [Init W] v) :
    Calls P f args.toArray W fun e w => e = .returned v ∧ Stays W w :=
  (calls_init W d).mono fun e w ⟨_, _, he, hg⟩ => ⟨he, hg⟩
theorem Does.frame {P : Program} {f : FuncId} {args : List Value} {X : Type} {A : List Chunk} {ret : X → Value} {B : X → List Chunk} {φ : X → Prop} (d : Does P f args A ret B φ) (R : List Chunk) :
    Does P f args (A ++ R) ret (fun x => B x ++ R) φ := fun Γ w hh => by
  obtain ⟨m, dm, hr, hA⟩ := hh.split
  refine (d _ w hA).mono ?_
  rintro e w' ⟨x, hx, rfl, hB⟩
  exact ⟨x, hx, rfl, hB.join dm hr⟩
theorem calls1_nil {P : Program} {f : FuncId} {args : List Value} {v : Value} (W : World) (d : Does1 P f args [] v) :
    Calls P f args.toArray W fun e w => e = .returned v ∧ Stays W w :=
  calls1_init W (Does.frame d [Init W])
theorem reads_init {W : World} {b o : Nat} {xs : Array Value} {e : TypeId} {fz : Nat × Nat} {v : Value} (hb : W.heap[b]? = some (.cells xs e fz)) (hv : xs[o]? = some v) : Reads (Init W) ⟨b, o, none⟩ v := fun h hs =>
  ⟨xs, e, fz, by rw [show h = wheap W from hs]; exact hb, rfl, hv⟩
theorem reads_init' {W : World} {b o : Nat} {v : Value} (hv : W.cell? ⟨b, o, none⟩ = some v) : Reads (Init W) ⟨b, o, none⟩ v := by
  unfold World.cell? at hv
  split at hv <;> simp_all
  rename_i hb
  exact reads_init hb hv
end Go.Sl

namespace Go.Sl
open Go Go.RowKit Go.ChangeShapes Go.WideShapes Go.ChangeAt
variable {P : Program} {W : World}
def CellsAt (W : World) (b o : Nat) (cs : List Value) : Prop := ∀ (j : Nat) (v : Value), cs[j]? = some v → W.cell? ⟨b, o + j, none⟩ = some v
class Opens (P : Program) (t : TypeId) (α : outParam Type) where
  is : World → α → List Value → Prop
  opens : ∀ {H : Type} {enc : TypeId × Value → H} {W : World} {sp : Nat → Bool} {n : Nat} {cs : List Value} {x : DataW H × List MemPlace}, DataW.trod enc P W 0 sp true n t cs = some x → ∃ a, is W a cs
class OpensFs (P : Program) (fs : List (TypeId × Nat)) (α : outParam Type) where
  is : World → α → List Value → Prop
  opens : ∀ {H : Type} {enc : TypeId × Value → H} {W : World} {sp : Nat → Bool} {n : Nat} {cs : List Value},
    (∀ f ∈ fs, ∃ x : DataW H × List MemPlace, DataW.trod enc P W 0 sp true n f.1 ((cs.drop f.2).take (P.cellsOf f.1)) = some x) → ∃ a, is W a cs
instance : OpensFs P [] Unit := ⟨fun _ _ _ => True, fun _ => ⟨(), trivial⟩⟩
instance {t : TypeId} {o n : Nat} {fs : List (TypeId × Nat)} {α β : Type} [A : Opens P t α] [S : TSize P t n] [B : OpensFs P fs β] : OpensFs P ((t, o) :: fs) (α × β) :=
  ⟨fun W x cs => A.is W x.1 ((cs.drop o).take n) ∧ B.is W x.2 cs, fun h => by
    obtain ⟨x, hx⟩ := h _ (List.mem_cons_self ..)
    have hn : P.cellsOf t = n := by simp [Program.cellsOf, S.size]
    rw [hn] at hx
    obtain ⟨a, ha⟩ := A.opens hx
    obtain ⟨b, hb⟩ := B.opens (fun f hf => h f (List.mem_cons_of_mem _ hf))
    exact ⟨(a, b), ha, hb⟩⟩
instance {t : TypeId} {k : IntKind} [D : TDesc P t (.int k)] : Opens P t Int :=
  ⟨fun _ n cs => cs = [.int k n] ∧ (Lit.int k n).wf = true, fun h => by obtain ⟨n, h1, _, h3⟩ := DataW.trod_int D.desc h; exact ⟨n, h1, h3⟩⟩
instance {t : TypeId} [D : TDesc P t .bool] : Opens P t Bool :=
  ⟨fun _ b cs => cs = [.bool b], fun h => by obtain ⟨n, h1, _⟩ := DataW.trod_bool D.desc h; exact ⟨n, h1⟩⟩
instance {t : TypeId} [D : TDesc P t .string] : Opens P t ByteArray :=
  ⟨fun _ s cs => cs = [.string s] ∧ s.size ≤ maxLen, fun h => by obtain ⟨n, h1, _, h3⟩ := DataW.trod_string D.desc h; exact ⟨n, h1, h3⟩⟩
structure SliceOf (α : Type) where
  place : Option Addr
  cap : Nat
  xs : List α
def SliceOf.val {α : Type} (s : SliceOf α) : Value := .slice s.place s.xs.length s.cap
theorem cell_spot (W : World) (a : Addr) (h : a.spot.isSome = true) : W.cell? a = none := by
  unfold World.cell?
  split <;> simp [h]
theorem cells_at {W : World} {a : Addr} {n : Nat} {cs : List Value} (h : W.cells? 0 a n = some cs) : cs.length = n ∧ ∀ (j : Nat) (v : Value), cs[j]? = some v → W.cell? (a.add j) = some v := by
  unfold World.cells? at h
  rw [if_pos (Nat.zero_le _)] at h
  have hl := mapM_some_length h
  refine ⟨by simpa using hl, fun j v hv => ?_⟩
  have hj : j < n := by
    have := (List.getElem?_eq_some_iff.1 hv).1
    simp at hl; omega
  have := mapM_some_get h j j (by simp [hj])
  rw [this, hv]
class NZ (n : Nat) : Prop where
  pos : 0 < n
instance {n : Nat} : NZ (n + 1) := ⟨Nat.succ_pos n⟩
instance {t e : TypeId} {n : Nat} {α : Type} [D : TDesc P t (.slice e)] [S : TSize P e n] [Z : NZ n] [A : Opens P e α] : Opens P t (SliceOf α) :=
  ⟨fun W s cs => cs = [s.val] ∧ s.xs.length ≤ s.cap ∧ s.cap ≤ maxLen ∧ (s.place = none → s.xs = [] ∧ s.cap = 0) ∧
      (∀ (i : Nat) (x : α), s.xs[i]? = some x → ∃ b o c, s.place = some ⟨b, o, none⟩ ∧ A.is W x c ∧ c.length = n ∧ CellsAt W b (o + i * n) c), fun {H enc W sp k cs x} h => by
    have hn : P.cellsOf e = n := by simp [Program.cellsOf, S.size]
    have hz : 0 < n := Z.pos
    rcases DataW.trod_slice D.desc h with ⟨rfl, _⟩ | ⟨a, len, cap, elems, rest, k, _, rfl, _, hb, hl, hc, he, hx, _⟩
    · exact ⟨⟨none, 0, []⟩, rfl, Nat.zero_le _, Nat.zero_le _, fun _ => ⟨rfl, rfl⟩, fun i x hx => by simp at hx⟩
    · have hel : ∀ i, i < len → ∃ (x : α) (c : List Value), A.is W x c ∧ c.length = n ∧ ∀ (j : Nat) (v : Value), c[j]? = some v → W.cell? ((a.add (i * n)).add j) = some v := fun i hi => by
        have h1 := hx i hi
        have h2 : elems[i]? = some (elems[i]'(by omega)) := by simp [he, hi]
        rw [h2, hn] at h1
        cases hcs : W.cells? 0 (a.add (i * n)) n with
        | none => rw [hcs] at h1; cases h1
        | some c =>
          rw [hcs] at h1
          obtain ⟨x, hx⟩ := A.opens (cs := c) h1
          have := cells_at hcs
          exact ⟨x, c, hx, this.1, this.2⟩
      refine ⟨⟨some a, cap, List.ofFn fun i : Fin len => Classical.choose (hel i i.2)⟩, by simp [SliceOf.val], by simpa using hl, hc, (fun e => by cases e), fun i x hx => ?_⟩
      simp only [List.getElem?_ofFn] at hx
      split at hx
      · rename_i hi
        obtain ⟨c, h1, h2, h3⟩ := Classical.choose_spec (hel i hi)
        cases hx
        obtain ⟨b, o, sp⟩ := a
        have hsp : sp = none := by
          cases sp with
          | none => rfl
          | some k =>
            obtain ⟨_, c0, _, l0, g0⟩ := hel 0 (by omega)
            have h0 : c0[0]? = some (c0[0]'(by omega)) := by simp [l0, hz]
            have h4 := g0 0 _ h0
            simp only [Nat.zero_mul, Addr.add, ↓reduceIte] at h4
            rw [cell_spot W _ rfl] at h4
            cases h4
        subst hsp
        refine ⟨b, o, c, rfl, h1, h2, fun j v hv => ?_⟩
        have := h3 j v hv
        rw [Addr.add_lit, Addr.add_lit] at this
        exact this
      · cases hx⟩
instance {t : TypeId} {n : Nat} {fs : List (TypeId × Nat)} {α : Type} [T : TFds P t fs] [S : TSize P t n] [A : OpensFs P fs α] : Opens P t α :=
  ⟨fun W x cs => cs.length = n ∧ A.is W x cs, fun {H enc W sp k cs x} h => by
    obtain ⟨xs, k', _, _, hl, hxs, hf⟩ := DataW.trod_struct T.struct h
    refine (A.opens (W := W) (enc := enc) (sp := sp) (n := k') (cs := cs) fun f hf' => ?_).imp fun a ha => ⟨by rw [hl]; simp [Program.cellsOf, S.size], ha⟩
    obtain ⟨i, hi⟩ := List.mem_iff_getElem?.1 hf'
    have hm : ((P.fieldsOf t).toList.map fun f => (f.type, f.offset))[i]? = some f := by rw [T.fields]; exact hi
    simp only [List.getElem?_map, Option.map_eq_some_iff] at hm
    obtain ⟨g, hg, rfl⟩ := hm
    have hg' : (P.fieldsOf t)[i]? = some g := by simpa using hg
    have := hf i g hg'
    have hlt : i < xs.length := by
      rw [hxs]
      exact (Array.getElem?_eq_some_iff.1 hg').1
    exact ⟨xs[i], by rw [this]; simp [hlt]⟩⟩
def oneD : TypeDesc → Bool
  | .struct _ => false
  | .array _ _ => false
  | _ => true
theorem arg_one {H : Type} {enc : TypeId × Value → H} {t : TypeId} {α : Type} [A : Opens P t α] {d : TypeDesc} {b : Nat} {sp : Nat → Bool} {v : Value} {x : DataW H} {ps : List MemPlace} (hd : P.underlying t = some d) (ho : oneD d = true)
    (hval : Value.okWide P W .any b t v) (h : DataW.Trod enc P W 0 sp true t v x ps) : ∃ a, A.is W a [v] := by
  obtain ⟨n, hn⟩ := h
  have : v.cells.toList = [v] := by
    cases v with
    | agg cs =>
      unfold Value.okWide at hval
      rw [hd] at hval
      cases d <;> simp_all [oneD, Cell.okWide, Cell.ok]
    | _ => rfl
  rw [this] at hn
  exact A.opens hn
theorem arg_agg {H : Type} {enc : TypeId × Value → H} {t : TypeId} {α : Type} {fs : List (TypeId × Nat)} [T : TFds P t fs] [A : Opens P t α] {b : Nat} {sp : Nat → Bool} {v : Value} {x : DataW H} {ps : List MemPlace}
    (hval : Value.okWide P W .any b t v) (h : DataW.Trod enc P W 0 sp true t v x ps) : ∃ a cs, v = .agg cs.toArray ∧ A.is W a cs := by
  obtain ⟨n, hn⟩ := h
  unfold Value.okWide at hval
  rw [T.struct] at hval
  obtain ⟨cs, rfl, _⟩ := hval
  obtain ⟨a, ha⟩ := A.opens hn
  exact ⟨a, cs.toList, by simp, ha⟩
theorem trodAll_stays {H : Type} {enc : TypeId × Value → H} (hl : laidOutB P = true) {W W' : World} {base : Nat} {sp : Nat → Bool} : ∀ {ts : List TypeId} {vs : List Value} {ds : List (DataW H)} {ps : List MemPlace},
    ts.all (fun t => P.readableRec t && decide (t < P.types.size)) = true → DataW.TrodAll enc P W base (fun _ => true) true ts vs ds ps → (∀ p ∈ ps, W.sameAt W' p) → (∀ p ∈ ps, sp p.block = true) → DataW.TrodAll enc P W' base sp true ts vs ds ps
  | [], [], [], _, _, h, _, _ => h
  | t :: ts, v :: vs, d :: ds, ps, ht, ⟨p, q, h1, h2, e⟩, hs, hp => by
    simp only [List.all_cons, Bool.and_eq_true, decide_eq_true_eq] at ht
    subst e
    exact ⟨p, q, WideElems.Trod_stays hl ht.1.1 ht.1.2 h1 (fun x hx => hs x (by simp [hx])) (fun x hx => hp x (by simp [hx])), trodAll_stays hl ht.2 h2 (fun x hx => hs x (by simp [hx])) (fun x hx => hp x (by simp [hx])), rfl⟩
  | [], _ :: _, _, _, _, h, _, _ => h.elim
  | [], [], _ :: _, _, _, h, _, _ => h.elim
  | _ :: _, [], _, _, _, h, _, _ => h.elim
  | _ :: _, _ :: _, [], _, _, h, _, _ => h.elim
theorem post_old {H : Type} {enc : TypeId × Value → H} {f : Func} {s : ChangeSpec} {apart fresh handsOn again : Bool} {W W' : World} {args : Array Value} {v : Value} {ds gs : List (DataW H)} {before pa pv : List MemPlace}
    (hW : DataW.Whole enc P f.params.toList s.vars apart W args.toList ds gs before)
    (hres : ∀ (b : Nat) (sp : Nat → Bool) (hd : Bool), DataW.TrodAll enc P W' b sp hd f.resultTypes.toList (v.resultList f.resultTypes.size) (s.fn H (ds ++ gs)).results [])
    (hargs : ∀ sp : Nat → Bool, (∀ p ∈ before, sp p.block = true) → DataW.TrodAll enc P W' 0 sp true f.params.toList args.toList (s.fn H (ds ++ gs)).args pa)
    (hvars : ∀ sp : Nat → Bool, (∀ p ∈ before, sp p.block = true) → DataW.TrodVars enc P W' sp s.vars (s.fn H (ds ++ gs)).vars pv)
    (hps : before = pa ++ pv) (hk : W.keptBut W' (· ∈ before)) (hfz : ∀ a : Addr, a.block < W.heap.size → W'.frozen? a = W.frozen? a)
    (hok : ∀ (j : Nat) (t : TypeId) (r : Value), f.resultTypes[j]? = some t → (v.resultList f.resultTypes.size)[j]? = some r → Value.okWide P W' .any 0 t r) :
    s.post enc P f apart fresh handsOn again W args v W' := by
  have hold : ∀ p ∈ before, (fun b => decide (b < W.heap.size)) p.block = true := fun p hp => by simpa using hW.lt p hp
  have hlt := hW.lt
  refine ⟨ds, gs, before, [], pa, pv, hW, hres _ _ _, hargs _ hold, hvars _ hold, World.keptBut_mono (fun p hp => ⟨hp, ?_⟩) hk, fun _ => ?_⟩
  · rw [hps, List.mem_append] at hp
    exact Or.inr hp
  · obtain ⟨_, _, _, _, _, hz, hn⟩ := hW
    refine ⟨hok, _, _, ([] ++ pa) ++ pv, ⟨[] ++ pa, pv, trodAll_append (hargs _ (fun _ _ => rfl)) (hres _ _ _), hvars _ (fun _ _ => rfl), rfl, ?_, ?_⟩, ?_⟩
    · intro b off hp
      have hp' : MemPlace.cell b off ∈ before := by rw [hps]; simpa using hp
      rw [hfz _ (hlt _ hp')]
      exact hz b off hp'
    · intro ha
      have := hn ha
      rw [hps] at this
      simpa using this
    · intro p hp _
      rw [hps]
      simpa using hp
theorem law_post {H : Type} {enc : TypeId × Value → H} {f : Func} {s : ChangeSpec} {apart fresh handsOn again : Bool} {W W' : World} {args : Array Value} {ds gs : List (DataW H)} {before : List MemPlace} {tb : TypeId}
    (hl : laidOutB P = true) (hp : f.params.toList.all (fun t => P.readableRec t && decide (t < P.types.size)) = true) (hv : s.vars = []) (hr : f.resultTypes = #[tb]) (hb : P.underlying tb = some .bool)
    (hW : DataW.Whole enc P f.params.toList s.vars apart W args.toList ds gs before) (hfn : s.fn H (ds ++ gs) = { results := [.lit (.bool true)], args := ds }) (hst : Stays W W') :
    s.post enc P f apart fresh handsOn again W args (.bool true) W' := by
  have hlt := hW.lt
  have hW' := hW
  obtain ⟨p, q, hA, hV, rfl, hfz, hnd⟩ := hW
  rw [hv] at hV
  obtain ⟨rfl, rfl⟩ := trodVars_none hV
  refine post_old (pa := p) (pv := []) hW' (fun b sp hd => ?_) (fun sp hsp => ?_) (fun sp hsp => ?_) rfl (World.keptBut_mono (fun _ f => f.elim) hst.kept) hst.froz (ok_one hr rfl (okWide_bool_mk hb _))
  · rw [hfn, hr]
    exact trodAll_cons_mk (shut_bool hb _) trodAll_mk0
  · rw [hfn]
    exact trodAll_stays hl hp hA (fun x hx => hst.below.same (hlt x (by simp [hx]))) (fun x hx => hsp x (by simp [hx]))
  · rw [hfn, hv]
    rfl
end Go.Sl
