/-
  DERIVED: THE SHELF's CONTRACTS AT THIS DUMP, IN PLAIN WORDS (tools/lay-plain.mjs out of 'TryzShelf.lean', which tools/lay-shelf.mjs wrote): THE SAME DECLARATIONS UNDER THE SAME NAMES: 'import', 'namespace', 'open', 'def', 'theorem' AND NOTHING ELSE: no command of the shelf's: FOR A HAND-IN. Each laying: the table of numbers ('.._ren') and one theorem, a field a fact of the dump's own or the kernel's comparison; each contract: ONE APPLICATION.
-/
import Derived.Shelf.Strconv.Itoa2
import Derived.Test.YtaahibcibgljbaaGreatDoorProg
import Derived.Test.YtaahibcibgljbaaGreatDoorCallTold8
import Derived.Test.YtaahibcibgljbaaGreatDoorCallTold7
import Derived.SizedLaws
set_option linter.unusedSimpArgs false
set_option linter.unusedVariables false
namespace Go.Proofs
open Go.Shelf
def Tryz.laysNm283_ren : Go.Shelf.Ren := ⟨fun | 283 => 111 | n => n, fun | 3 => 3 | 9 => 9 | 4 => 4 | n => n, fun | n => n⟩
theorem Tryz.laysNm283 : Go.Proofs.Lays.n283 Tryz.prog Tryz.laysNm283_ren := {
  mixed := by kernel_rfl
  f283 := Tryz.func111.trans (congrArg some (by kernel_rfl))
  t3 := Tryz.underlying3
  a3 := Tryz.isAgg3
  z3 := Tryz.sizeOf3
  v3 := Tryz.zeroValue3
  t4 := Tryz.underlying4
  a4 := Tryz.isAgg4
  z4 := Tryz.sizeOf4
  v4 := Tryz.zeroValue4
  t9 := Tryz.underlying9
  a9 := Tryz.isAgg9
  z9 := Tryz.sizeOf9
  v9 := Tryz.zeroValue9 }
def Tryz.laysNm285_ren : Go.Shelf.Ren := ⟨fun | 285 => 113 | n => n, fun | 37 => 86 | 53 => 123 | 3 => 3 | 4 => 4 | 51 => 160 | 9 => 9 | 5 => 5 | 0 => 0 | n => n, fun | n => n⟩
theorem Tryz.laysNm285 : Go.Proofs.Lays.n285 Tryz.prog Tryz.laysNm285_ren := {
  mixed := by kernel_rfl
  f285 := Tryz.func113.trans (congrArg some (by kernel_rfl))
  t0 := Tryz.underlying0
  a0 := Tryz.isAgg0
  z0 := Tryz.sizeOf0
  v0 := Tryz.zeroValue0
  t3 := Tryz.underlying3
  a3 := Tryz.isAgg3
  z3 := Tryz.sizeOf3
  v3 := Tryz.zeroValue3
  t4 := Tryz.underlying4
  a4 := Tryz.isAgg4
  z4 := Tryz.sizeOf4
  v4 := Tryz.zeroValue4
  t5 := Tryz.underlying5
  a5 := Tryz.isAgg5
  z5 := Tryz.sizeOf5
  v5 := Tryz.zeroValue5
  t9 := Tryz.underlying9
  a9 := Tryz.isAgg9
  z9 := Tryz.sizeOf9
  v9 := Tryz.zeroValue9
  t37 := Tryz.underlying86
  a37 := Tryz.isAgg86
  z37 := Tryz.sizeOf86
  v37 := Tryz.zeroValue86
  t51 := Tryz.underlying160
  a51 := Tryz.isAgg160
  z51 := Tryz.sizeOf160
  v51 := Tryz.zeroValue160
  t53 := Tryz.underlying123
  a53 := Tryz.isAgg123
  z53 := Tryz.sizeOf123
  v53 := Tryz.zeroValue123 }
end Go.Proofs

namespace Go.Sl
open Go Go.RowKit Go.ChangeShapes Go.WideShapes Go.ChangeAt
variable {P : Program} {W : World}
abbrev Fits (l : List Nat) : Prop := l.all (· ≤ reachBytes) = true
theorem Fits.sub {l m : List Nat} (h : Fits m) (s : ∀ n ∈ l, n ∈ m) : Fits l := by
  rw [Fits, List.all_eq_true] at h ⊢
  exact fun n hn => h n (s n hn)
class OpensZ (P : Program) (t : TypeId) (α : outParam Type) where
  is : World → α → List Value → Prop
  opens : ∀ {H : Type} {enc : TypeId × Value → H} {W : World} {sp : Nat → Bool} {n : Nat} {cs : List Value} {x : DataW H × List MemPlace}, DataW.trod enc P W 0 sp true n t cs = some x → Fits (x.1.weights P t) → ∃ a, is W a cs
class OpensFsZ (P : Program) (fs : List (TypeId × Nat)) (α : outParam Type) where
  is : World → α → List Value → Prop
  opens : ∀ {H : Type} {enc : TypeId × Value → H} {W : World} {sp : Nat → Bool} {n : Nat} {cs : List Value},
    (∀ f ∈ fs, ∃ x : DataW H × List MemPlace, DataW.trod enc P W 0 sp true n f.1 ((cs.drop f.2).take (P.cellsOf f.1)) = some x ∧ Fits (x.1.weights P f.1)) → ∃ a, is W a cs
instance : OpensFsZ P [] Unit := ⟨fun _ _ _ => True, fun _ => ⟨(), trivial⟩⟩
instance {t : TypeId} {o n : Nat} {fs : List (TypeId × Nat)} {α β : Type} [A : OpensZ P t α] [S : TSize P t n] [B : OpensFsZ P fs β] : OpensFsZ P ((t, o) :: fs) (α × β) :=
  ⟨fun W x cs => A.is W x.1 ((cs.drop o).take n) ∧ B.is W x.2 cs, fun h => by
    obtain ⟨x, hx, hf⟩ := h _ (List.mem_cons_self ..)
    have hn : P.cellsOf t = n := by simp [Program.cellsOf, S.size]
    rw [hn] at hx
    obtain ⟨a, ha⟩ := A.opens hx hf
    obtain ⟨b, hb⟩ := B.opens (fun f hf => h f (List.mem_cons_of_mem _ hf))
    exact ⟨(a, b), ha, hb⟩⟩
instance {t : TypeId} {k : IntKind} [D : TDesc P t (.int k)] : OpensZ P t Int :=
  ⟨fun _ n cs => cs = [.int k n] ∧ (Lit.int k n).wf = true, fun h _ => by obtain ⟨n, h1, _, h3⟩ := DataW.trod_int D.desc h; exact ⟨n, h1, h3⟩⟩
instance {t : TypeId} [D : TDesc P t .bool] : OpensZ P t Bool :=
  ⟨fun _ b cs => cs = [.bool b], fun h _ => by obtain ⟨n, h1, _⟩ := DataW.trod_bool D.desc h; exact ⟨n, h1⟩⟩
instance {t : TypeId} [D : TDesc P t .string] : OpensZ P t ByteArray :=
  ⟨fun _ s cs => cs = [.string s] ∧ s.size ≤ maxLen, fun h _ => by obtain ⟨n, h1, _, h3⟩ := DataW.trod_string D.desc h; exact ⟨n, h1, h3⟩⟩
theorem weightsAll_mem {H : Type} {e : TypeId} : ∀ {l : List (DataW H)} {i : Nat} {d : DataW H}, l[i]? = some d → ∀ n ∈ d.weights P e, n ∈ DataW.weightsAll P e l
  | [], _, _, h, _, _ => by simp at h
  | x :: l, 0, d, h, n, hn => by
    simp only [List.getElem?_cons_zero, Option.some.injEq] at h
    subst h
    simp only [DataW.weightsAll, List.mem_append]
    exact .inl hn
  | x :: l, i + 1, d, h, n, hn => by
    simp only [List.getElem?_cons_succ] at h
    simp only [DataW.weightsAll, List.mem_append]
    exact .inr (weightsAll_mem h n hn)
instance {t e : TypeId} {n k : Nat} {α : Type} [D : TDesc P t (.slice e)] [S : TSize P e n] [B : TBytes P e k] [Z : NZ n] [A : OpensZ P e α] : OpensZ P t (SliceOf α) :=
  ⟨fun W s cs => cs = [s.val] ∧ s.xs.length * k ≤ reachBytes ∧ s.xs.length ≤ s.cap ∧ s.cap ≤ maxLen ∧ (s.place = none → s.xs = [] ∧ s.cap = 0) ∧
      (∀ (i : Nat) (x : α), s.xs[i]? = some x → ∃ b o c, s.place = some ⟨b, o, none⟩ ∧ A.is W x c ∧ c.length = n ∧ CellsAt W b (o + i * n) c), fun {H enc W sp q cs x} h hf => by
    have hn : P.cellsOf e = n := by simp [Program.cellsOf, S.size]
    have hk : P.bytesOf e = k := by simp [Program.bytesOf, B.bytes]
    have hz : 0 < n := Z.pos
    rcases DataW.trod_slice D.desc h with ⟨rfl, _⟩ | ⟨a, len, cap, elems, rest, q', _, rfl, rfl, hb, hl, hc, he, hx, _⟩
    · exact ⟨⟨none, 0, []⟩, rfl, by simp, Nat.zero_le _, Nat.zero_le _, fun _ => ⟨rfl, rfl⟩, fun i x hx => by simp at hx⟩
    · simp only [DataW.weights, D.desc, hk, List.length_map] at hf
      have hsz : len * k ≤ reachBytes := by
        have h1 := List.all_eq_true.1 hf _ (List.mem_cons_self ..)
        simp only [decide_eq_true_eq] at h1
        refine Nat.le_trans (Nat.mul_le_mul_right k ?_) h1
        omega
      have hel : ∀ i, i < len → ∃ (x : α) (c : List Value), A.is W x c ∧ c.length = n ∧ ∀ (j : Nat) (v : Value), c[j]? = some v → W.cell? ((a.add (i * n)).add j) = some v := fun i hi => by
        have h1 := hx i hi
        have h2 : elems[i]? = some (elems[i]'(by omega)) := by simp [he, hi]
        rw [h2, hn] at h1
        cases hcs : W.cells? 0 (a.add (i * n)) n with
        | none => rw [hcs] at h1; cases h1
        | some c =>
          rw [hcs] at h1
          have hw : Fits ((elems[i]'(by omega)).1.weights P e) := Fits.sub hf fun m hm =>
            List.mem_cons_of_mem _ (List.mem_append_left _ (weightsAll_mem (i := i) (d := (elems[i]'(by omega)).1) (by simp [he, hi]) m hm))
          obtain ⟨x, hx⟩ := A.opens (cs := c) h1 hw
          have := cells_at hcs
          exact ⟨x, c, hx, this.1, this.2⟩
      refine ⟨⟨some a, cap, List.ofFn fun i : Fin len => Classical.choose (hel i i.2)⟩, by simp [SliceOf.val], by simpa using hsz, by simpa using hl, hc, (fun e => by cases e), fun i x hx => ?_⟩
      simp only [List.getElem?_ofFn] at hx
      split at hx
      · rename_i hi
        obtain ⟨c, h1, h2, h3⟩ := Classical.choose_spec (hel i hi)
        cases hx
        obtain ⟨b, o, sp⟩ := a
        have hsp : sp = none := by
          cases sp with
          | none => rfl
          | some k =>
            obtain ⟨_, c0, _, l0, g0⟩ := hel 0 (by omega)
            have h0 : c0[0]? = some (c0[0]'(by omega)) := by simp [l0, hz]
            have h4 := g0 0 _ h0
            simp only [Nat.zero_mul, Addr.add, ↓reduceIte] at h4
            rw [cell_spot W _ rfl] at h4
            cases h4
        subst hsp
        refine ⟨b, o, c, rfl, h1, h2, fun j v hv => ?_⟩
        have := h3 j v hv
        rw [Addr.add_lit, Addr.add_lit] at this
        exact this
      · cases hx⟩
instance {t : TypeId} {n : Nat} {fs : List (TypeId × Nat)} {α : Type} [T : TFds P t fs] [S : TSize P t n] [A : OpensFsZ P fs α] : OpensZ P t α :=
  ⟨fun W x cs => cs.length = n ∧ A.is W x cs, fun {H enc W sp k cs x} h hw => by
    obtain ⟨xs, k', _, rfl, hl, hxs, hf⟩ := DataW.trod_struct T.struct h
    simp only [DataW.weights, T.struct] at hw
    refine (A.opens (W := W) (enc := enc) (sp := sp) (n := k') (cs := cs) fun f hf' => ?_).imp fun a ha => ⟨by rw [hl]; simp [Program.cellsOf, S.size], ha⟩
    obtain ⟨i, hi⟩ := List.mem_iff_getElem?.1 hf'
    have hm : ((P.fieldsOf t).toList.map fun f => (f.type, f.offset))[i]? = some f := by rw [T.fields]; exact hi
    simp only [List.getElem?_map, Option.map_eq_some_iff] at hm
    obtain ⟨g, hg, rfl⟩ := hm
    have hg' : (P.fieldsOf t)[i]? = some g := by simpa using hg
    have := hf i g hg'
    have hlt : i < xs.length := by
      rw [hxs]
      exact (Array.getElem?_eq_some_iff.1 hg').1
    refine ⟨xs[i], by rw [this]; simp [hlt], ?_⟩
    exact Fits.sub hw fun m hm => DataW.weights_mem_each (j := i) (t := g.type) (d := xs[i].1) (by simp [hg']) (by simp [hlt]) m hm⟩
theorem arg_oneZ {H : Type} {enc : TypeId × Value → H} {t : TypeId} {α : Type} [A : OpensZ P t α] {d : TypeDesc} {b : Nat} {sp : Nat → Bool} {v : Value} {x : DataW H} {ps : List MemPlace} (hd : P.underlying t = some d) (ho : oneD d = true)
    (hval : Value.okWide P W .any b t v) (h : DataW.Trod enc P W 0 sp true t v x ps) (hf : Fits (x.weights P t)) : ∃ a, A.is W a [v] := by
  obtain ⟨n, hn⟩ := h
  have : v.cells.toList = [v] := by
    cases v with
    | agg cs =>
      unfold Value.okWide at hval
      rw [hd] at hval
      cases d <;> simp_all [oneD, Cell.okWide, Cell.ok]
    | _ => rfl
  rw [this] at hn
  exact A.opens hn hf
theorem slAt_of {W : World} {α : Type} {A : World → α → List Value → Prop} {n : Nat} {p : Option Addr} {xs : List α} {g : α → List Value} (hn : 0 < n) (hnil : p = none → xs = [])
    (h : ∀ (i : Nat) (x : α), xs[i]? = some x → ∃ b o c, p = some ⟨b, o, none⟩ ∧ A W x c ∧ c.length = n ∧ CellsAt W b (o + i * n) c) (hg : ∀ x c, A W x c → c.length = n → c = g x) (h1 : ∀ x, (g x).all (·.oneCell') = true) (hl : ∀ x, (g x).length = n) :
    SlAt (Init W) n p xs.length (xs.flatMap g) := by
  refine ⟨flat_len hl xs, ?_, fun e => by rw [hnil e]; rfl, fun j v hv => ?_⟩
  · rw [List.all_eq_true]
    intro v hv
    obtain ⟨x, _, hv⟩ := List.mem_flatMap.1 hv
    exact List.all_eq_true.1 (h1 x) v hv
  · have hj := (List.getElem?_eq_some_iff.1 hv).1
    rw [flat_len hl] at hj
    have hi : j / n < xs.length := Nat.div_lt_of_lt_mul (by rw [Nat.mul_comm]; exact hj)
    obtain ⟨b, o, c, rfl, ha, hc, hr⟩ := h (j / n) xs[j / n] (by simp [hi])
    refine ⟨b, o, rfl, reads_init' ?_⟩
    have e := hg _ _ ha hc
    have hd := Nat.div_add_mod j n
    have hv2 : c[j % n]? = some v := by
      rw [e]
      have h2 := Nat.mod_lt j hn
      have h3 : (g xs[j / n])[j % n]? = some ((g xs[j / n])[j % n]'(by rw [hl]; exact h2)) := List.getElem?_eq_getElem _
      have h4 := flat_get hl xs (j / n) xs[j / n] (by simp [hi]) (j % n) _ h3
      rw [show j / n * n + j % n = j by rw [Nat.mul_comm]; exact hd] at h4
      rw [h3, ← h4]; exact hv
    have := hr (j % n) v hv2
    rwa [Nat.add_assoc, show j / n * n + j % n = j by rw [Nat.mul_comm]; exact hd] at this
theorem sl_inZ {W : World} {α β : Type} {A : World → α → List Value → Prop} {n k : Nat} {s : SliceOf α} {f : α → β} {g : β → List Value} {R : β → Prop} (hn : 0 < n)
    (h : s.xs.length * k ≤ reachBytes ∧ s.xs.length ≤ s.cap ∧ s.cap ≤ maxLen ∧ (s.place = none → s.xs = [] ∧ s.cap = 0) ∧ (∀ (i : Nat) (x : α), s.xs[i]? = some x → ∃ b o c, s.place = some ⟨b, o, none⟩ ∧ A W x c ∧ c.length = n ∧ CellsAt W b (o + i * n) c))
    (hg : ∀ x c, A W x c → c = g (f x) ∧ R (f x)) (h1 : ∀ x, (g x).all (·.oneCell') = true) (hl : ∀ x, (g x).length = n) :
    SlAt (Init W) n s.place (s.xs.map f).length ((s.xs.map f).flatMap g) ∧ s.xs.length * k ≤ 140737488355328 ∧ (∀ y ∈ s.xs.map f, R y) ∧ s.xs.length ≤ 9223372036854775807 := by
  obtain ⟨g0, g1, g2, g3, g4⟩ := h
  refine ⟨?_, ?_, fun y hy => ?_, ?_⟩
  · rw [List.length_map, List.flatMap_map]
    exact slAt_of (g := fun x => g (f x)) hn (fun e => (g3 e).1) g4 (fun x c hx _ => (hg x c hx).1) (fun x => h1 _) (fun x => hl _)
  · exact Nat.le_trans g0 (by decide)
  · obtain ⟨x, hx, rfl⟩ := List.mem_map.1 hy
    obtain ⟨i, hi, rfl⟩ := List.mem_iff_getElem.1 hx
    obtain ⟨_, _, c, _, ha, _⟩ := g4 i _ (List.getElem?_eq_getElem hi)
    exact (hg _ _ ha).2
  · unfold maxLen at g2; omega
end Go.Sl
