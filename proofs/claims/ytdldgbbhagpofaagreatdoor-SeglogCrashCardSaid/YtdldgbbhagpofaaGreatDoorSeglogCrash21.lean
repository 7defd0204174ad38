/- Contracts and laws that the proof stands on. -/
import Derived.Test.YtdldgbbhagpofaaGreatDoorSeglogCrash17
import Derived.Test.YtdldgbbhagpofaaGreatDoorSeglogCrash20
import Derived.Shelf.Strconv.AtoiAll
import Derived.Shelf.Sort.Plain
import Derived.Test.YtdldgbbhagpofaaGreatDoorProg
import Derived.Test.YtdldgbbhagpofaaGreatDoorSeglogCrash18
import Derived.Test.YtdldgbbhagpofaaGreatDoorSeglogCrash19
set_option linter.unusedSimpArgs false
set_option linter.unusedVariables false
namespace Go.Proofs.YtdldgbbhagpofaaGreatDoor
open Go.Sl facts
theorem drop_ne {fs : List Fi} (hS : SortF fs) {pos : Nat} (h : pos < fs.length) : ∀ x ∈ fs.drop (pos + 1), x.nm ≠ fs[pos].nm := fun x hx => by
  obtain ⟨i, hi, rfl⟩ := List.mem_iff_getElem.1 hx
  rw [List.length_drop] at hi
  rw [List.getElem_drop]
  intro e
  have := hS.lt (i := pos) (j := pos + 1 + i) (by omega) (by omega)
  rw [e, ltB_irr] at this
  cases this
theorem fdat_del {fs : List Fi} (hS : SortF fs) {nm : ByteArray} {pos : Nat} (hP : PosIs fs nm pos) (hlt : pos < fs.length) (hf : foundB fs nm pos = true) (nm' : ByteArray) : fdat (del fs pos) nm' = if nm' = nm then none else fdat fs nm' := by
  have hnm := found_nm hf hlt
  unfold del
  rw [fdat_append]
  by_cases h : nm' = nm
  · subst h
    rw [if_pos rfl, fdat_none (take_ne hP), fdat_none (a := fs.drop (pos + 1)) (by rw [← hnm]; exact drop_ne hS hlt)]
    rfl
  · rw [if_neg h]
    conv => rhs; rw [split_at fs pos hlt]
    rw [fdat_append, fdat_cons, if_neg (by rw [hnm]; exact Ne.symm h)]
theorem del_mem {fs : List Fi} {pos : Nat} : ∀ x ∈ del fs pos, x ∈ fs := fun x hx => by
  rcases List.mem_append.1 hx with h | h
  · exact List.mem_of_mem_take h
  · exact List.mem_of_mem_drop h
theorem fdat_some {fs : List Fi} {nm : ByteArray} {y : FD} (h : fdat fs nm = some y) : ∃ x ∈ fs, x.nm = nm ∧ (x.safe, x.loose) = y := by
  unfold fdat at h
  cases hf : fs.find? (fun x => decide (x.nm = nm)) with
  | none => rw [hf] at h; cases h
  | some x =>
    rw [hf] at h
    refine ⟨x, List.mem_of_find?_eq_some hf, ?_, by simpa using h⟩
    have := List.find?_some hf
    simpa using this
theorem used_mem {fs : List Fi} {x : Fi} (h : x ∈ fs) : x.safe.length + x.loose.length ≤ used fs := by
  obtain ⟨i, hi, rfl⟩ := List.mem_iff_getElem.1 h
  have h1 := used_take fs i hi
  have h2 := used_le fs (i + 1)
  omega
theorem fdat_used {fs : List Fi} {nm : ByteArray} {y : FD} (h : fdat fs nm = some y) : y.1.length + y.2.length ≤ used fs := by
  obtain ⟨x, hx, _, rfl⟩ := fdat_some h
  exact used_mem hx
structure Rm1 (nm : ByteArray) (fs gs : List Fi) : Prop where
  sort : SortF gs
  used : Go.Proofs.YtdldgbbhagpofaaGreatDoor.used gs ≤ Go.Proofs.YtdldgbbhagpofaaGreatDoor.used fs
  len : gs.length ≤ fs.length
  mem : ∀ x ∈ gs, x ∈ fs
  at_ : fdat gs nm = none
  else_ : ∀ nm', nm' ≠ nm → fdat gs nm' = fdat fs nm'
attribute [local irreducible] Code.wp wpList Exit.then Exit.inBlock bodyPost Back MidQ G GP QStep VStep CStep SStep Does Post Reads
theorem readS (d : Nat) (room : Int) (q : Option Addr) (c : Nat) (ops ct : Int) (fs : List Fi) (hS : SortF fs) (nm : ByteArray) (hn : fs.length ≤ 2000) (hu : used fs ≤ 1000000) (y : FD) (hy : fdat fs nm = some y) :
    Does Tryz.prog 35 [ptr d, .string nm] (bagL d room ops ct q c fs []) (X := OA) (fun x => .tuple #[.slice x.1 (y.1 ++ y.2).length x.2, int 0]) (fun x => .own x.1 (y.1 ++ y.2).length x.2 1 (cells8 (y.1 ++ y.2)) 5 :: bagL d room ops ct q c fs []) (fun _ => True) := by
  obtain ⟨pos, hP⟩ := hS.pos nm
  have hfd := fdat_found hS hP hy
  have hlt := found_lt hfd
  have h := read_g d room q c ops ct fs nm pos hn hP hu hfd hlt
  have e : y = (fs[pos].safe, fs[pos].loose) := by have := hy.symm.trans (fdat_yes hP hlt hfd); exact Option.some.inj this
  subst e
  exact h
theorem readN (d : Nat) (room : Int) (q : Option Addr) (c : Nat) (ops ct : Int) (fs : List Fi) (hS : SortF fs) (nm : ByteArray) (hn : fs.length ≤ 2000) (hy : fdat fs nm = none) :
    Does1 Tryz.prog 35 [ptr d, .string nm] (bagL d room ops ct q c fs []) (.tuple #[.slice none 0 0, int 4]) := by
  obtain ⟨pos, hP⟩ := hS.pos nm
  cases hfd : foundB fs nm pos with
  | false => exact read_no d room q c ops ct fs nm pos hn hP hfd
  | true => rw [fdat_yes hP (found_lt hfd) hfd] at hy; cases hy
theorem removeS (d : Nat) (room : Int) (q : Option Addr) (c : Nat) (ops ct : Int) (h : Cnt ops ct) (h1 : ct ≠ 1) (fs : List Fi) (hS : SortF fs) (nm : ByteArray) (hn : fs.length ≤ 2000) (y : FD) (hy : fdat fs nm = some y) :
    Does Tryz.prog 50 [ptr d, .string nm] (bagL d room ops ct q c fs []) (X := DkX) (fun _ => int 0) (fun y => bagL d room (ops + 1) (cutN ct) y.q y.c y.fs []) (fun y => Rm1 nm fs y.fs) := by
  obtain ⟨pos, hP⟩ := hS.pos nm
  have hfd := fdat_found hS hP hy
  have hlt := found_lt hfd
  refine does_map (fun _ : Unit => ⟨q, c, del fs pos⟩) (take_all _) (fun _ _ => rfl) (fun Γ x w _ h => h) (fun _ _ => ?_) (remove_g d room q c ops ct h h1 fs nm pos hn hP hfd hlt)
  exact ⟨sort_del hS pos, used_del fs pos, by dsimp only; rw [del_len fs pos hlt]; omega, del_mem, by dsimp only; rw [fdat_del hS hP hlt hfd, if_pos rfl], fun nm' h' => by dsimp only; rw [fdat_del hS hP hlt hfd, if_neg h']⟩
end Go.Proofs.YtdldgbbhagpofaaGreatDoor

namespace Go.Proofs.YtdldgbbhagpofaaGreatDoor
open Go.Sl facts
noncomputable def ixOf (nm : ByteArray) : Nat := by
  classical
  exact if h : ∃ i, i < 100 ∧ nm = nmB i then h.choose else 0
theorem ix_nm {nm : ByteArray} (h : ∃ i, i < 100 ∧ nm = nmB i) : ixOf nm < 100 ∧ nm = nmB (ixOf nm) := by
  unfold ixOf
  rw [dif_pos h]
  exact h.choose_spec
theorem ix_of {i : Nat} (h : i < 100) : ixOf (nmB i) = i := by
  obtain ⟨h1, h2⟩ := ix_nm (nm := nmB i) ⟨i, h, rfl⟩
  exact (nm_inj h h1 h2).symm
structure FsN (fs : List Fi) : Prop where
  sort : SortF fs
  nms : ∀ x ∈ fs, ∃ i, i < 100 ∧ x.nm = nmB i
  len : fs.length ≤ 300
noncomputable def junkL (k : Nat) (fs : List Fi) : List Nat := (fs.map fun x => ixOf x.nm).filter fun i => decide (k ≤ i)
theorem junk_lt {k : Nat} {fs : List Fi} (h : FsN fs) : ∀ i ∈ junkL k fs, i < 100 ∧ k ≤ i ∧ ∃ x ∈ fs, x.nm = nmB i := fun i hi => by
  obtain ⟨h1, h2⟩ := List.mem_filter.1 hi
  obtain ⟨x, hx, rfl⟩ := List.mem_map.1 h1
  obtain ⟨h3, h4⟩ := ix_nm (h.nms x hx)
  exact ⟨h3, by simpa using h2, x, hx, h4⟩
theorem fdat_mem {fs : List Fi} {x : Fi} (h : x ∈ fs) : ∃ y, fdat fs x.nm = some y := by
  unfold fdat
  cases hf : fs.find? (fun z => decide (z.nm = x.nm)) with
  | some y => exact ⟨_, rfl⟩
  | none => have := List.find?_eq_none.1 hf x h; simp at this
theorem junk_mem {k : Nat} {fs : List Fi} {i : Nat} (hi : i < 100) (hk : k ≤ i) {y : FD} (h : fdat fs (nmB i) = some y) : i ∈ junkL k fs := by
  obtain ⟨x, hx, h1, _⟩ := fdat_some h
  refine List.mem_filter.2 ⟨List.mem_map.2 ⟨x, hx, ?_⟩, by simpa using hk⟩
  show ixOf x.nm = i
  rw [h1, ix_of hi]
theorem junk_nodup {k : Nat} {fs : List Fi} (h : FsN fs) : (junkL k fs).Nodup := by
  unfold junkL
  refine List.Pairwise.filter _ ?_
  have h1 := h.sort
  unfold SortF at h1
  rw [List.pairwise_map] at h1 ⊢
  have h2 : fs.Pairwise fun a b => (a ∈ fs ∧ b ∈ fs) ∧ ltB a.nm b.nm = true := List.Pairwise.and_mem.1 h1 |>.imp fun {a b} ⟨p, q, r⟩ => ⟨⟨p, q⟩, r⟩
  refine h2.imp fun {a b} ⟨⟨ha, hb⟩, hlt⟩ e => ?_
  have e1 := (ix_nm (h.nms a ha)).2
  have e2 := (ix_nm (h.nms b hb)).2
  rw [e] at e1
  rw [e1, ← e2, ltB_irr] at hlt
  cases hlt
theorem junk_snoc (k : Nat) (fs : List Fi) (i : Nat) (h : i < fs.length) : junkL k (fs.take (i + 1)) = if k ≤ ixOf fs[i].nm then junkL k (fs.take i) ++ [ixOf fs[i].nm] else junkL k (fs.take i) := by
  unfold junkL
  rw [List.take_add_one, List.getElem?_eq_getElem h, List.map_append, List.filter_append]
  by_cases hk : k ≤ ixOf fs[i].nm <;> simp [hk]
structure SoIs (k : Nat) (fs : List Fi) (zs : List Nat) : Prop where
  mem : ∀ i, i ∈ zs ↔ i ∈ junkL k fs
  asc : zs.Pairwise fun a b => a < b
structure CyX where
  y : DkX
  ops : Int
  ct : Int
structure CyOk (fs : List Fi) (ops0 ct0 : Int) (n : Nat) (rm : List Nat) (z : CyX) : Prop where
  sort : SortF z.y.fs
  used : used z.y.fs ≤ Go.Proofs.YtdldgbbhagpofaaGreatDoor.used fs
  len : z.y.fs.length ≤ fs.length
  mem : ∀ x ∈ z.y.fs, x ∈ fs
  at_ : ∀ a, a < 100 → fdat z.y.fs (nmB a) = if a ∈ rm then none else fdat fs (nmB a)
  ops : ops0 ≤ z.ops ∧ z.ops ≤ ops0 + n
  ct : 0 ≤ z.ct ∧ z.ct ≤ ct0 ∧ (ct0 ≠ 0 → z.ct ≠ 0)
structure ClX where
  b : Bool
  z : CyX
structure ClOk (k : Nat) (fs : List Fi) (ops ct : Int) (w : ClX) : Prop where
  sort : SortF w.z.y.fs
  used : used w.z.y.fs ≤ Go.Proofs.YtdldgbbhagpofaaGreatDoor.used fs
  len : w.z.y.fs.length ≤ fs.length
  mem : ∀ x ∈ w.z.y.fs, x ∈ fs
  at_ : ∃ m, k ≤ m ∧ (∀ a, a < 100 → fdat w.z.y.fs (nmB a) = if m ≤ a then none else fdat fs (nmB a)) ∧ (w.b = false → m = k)
  off : w.b = true → ct ≠ 0
  ops : ops ≤ w.z.ops ∧ w.z.ops ≤ ops + 301
  ct : 0 ≤ w.z.ct ∧ w.z.ct ≤ ct ∧ (ct ≠ 0 → w.z.ct ≠ 0)
theorem asc_drop {zs : List Nat} (h : zs.Pairwise fun a b => a < b) {i : Nat} (hi : i < zs.length) (a : Nat) (ha : a ∈ zs) : a ∈ zs.drop (i + 1) ↔ zs[i] < a := by
  obtain ⟨j, hj, rfl⟩ := List.mem_iff_getElem.1 ha
  constructor
  · intro hm
    obtain ⟨t, ht, e⟩ := List.mem_iff_getElem.1 hm
    rw [List.getElem_drop] at e
    rw [← e]
    rw [List.length_drop] at ht
    exact List.pairwise_iff_getElem.1 h i (i + 1 + t) hi (by omega) (by omega)
  · intro hlt
    have hij : i < j := by
      rcases Nat.lt_trichotomy i j with h1 | h1 | h1
      · exact h1
      · subst h1; omega
      · have := List.pairwise_iff_getElem.1 h j i hj hi h1; omega
    refine List.mem_iff_getElem.2 ⟨j - (i + 1), by rw [List.length_drop]; omega, ?_⟩
    rw [List.getElem_drop]
    congr 1
    omega
theorem CyOk.gone {k : Nat} {fs : List Fi} {ops ct : Int} {n : Nat} {zs : List Nat} {z : CyX} (hs : SoIs k fs zs) (h : CyOk fs ops ct n zs z) (hn : n ≤ 301) : ClOk k fs ops ct ⟨false, z⟩ := by
  refine ⟨h.sort, h.used, h.len, h.mem, ⟨k, Nat.le_refl _, fun a ha => ?_, fun _ => rfl⟩, fun h => (by cases h), ⟨h.ops.1, by have := h.ops.2; show z.ops ≤ _; omega⟩, h.ct⟩
  rw [h.at_ a ha]
  by_cases hk : k ≤ a
  · rw [if_pos hk]
    split
    · rfl
    · rename_i hm
      cases hf : fdat fs (nmB a) with
      | none => rfl
      | some y => exact (hm ((hs.mem a).2 (junk_mem ha hk hf))).elim
  · rw [if_neg hk, if_neg]
    intro hm
    have := (List.mem_filter.1 ((hs.mem a).1 hm)).2
    simp at this; omega
theorem CyOk.left {k : Nat} {fs : List Fi} {ops ct : Int} {n i : Nat} {zs : List Nat} {z : CyX} (hs : SoIs k fs zs) (hi : i < zs.length) (h : CyOk fs ops ct n (zs.drop (i + 1)) z) (hn : n ≤ 301) (hc : ct ≠ 0) : ClOk k fs ops ct ⟨true, z⟩ := by
  have hkz : k ≤ zs[i] := by
    have := (List.mem_filter.1 ((hs.mem _).1 (List.getElem_mem hi))).2
    simpa using this
  refine ⟨h.sort, h.used, h.len, h.mem, ⟨zs[i] + 1, by omega, fun a ha => ?_, fun h => (by cases h)⟩, fun _ => hc, ⟨h.ops.1, by have := h.ops.2; show z.ops ≤ _; omega⟩, h.ct⟩
  rw [h.at_ a ha]
  by_cases hk : zs[i] + 1 ≤ a
  · rw [if_pos hk]
    split
    · rfl
    · rename_i hm
      cases hf : fdat fs (nmB a) with
      | none => rfl
      | some y =>
        have ham := (hs.mem a).2 (junk_mem ha (by omega) hf)
        exact (hm ((asc_drop hs.asc hi a ham).2 (by omega))).elim
  · rw [if_neg hk, if_neg]
    intro hm
    have := (asc_drop hs.asc hi a (List.mem_of_mem_drop hm)).1 hm
    omega
structure JkX where
  i : Nat
  q : Option Addr
  c : Nat
abbrev zsI (zs : List Nat) : List Int := zs.map (fun i : Nat => (i : Int))
theorem so_sort {k : Nat} {fs : List Fi} (h : FsN fs) : ∃ zs, sortZ (zsI (junkL k fs)) = zsI zs ∧ SoIs k fs zs := by
  have hp : (sortZ (zsI (junkL k fs))).Perm (zsI (junkL k fs)) := List.mergeSort_perm _ _
  have hs : (sortZ (zsI (junkL k fs))).Pairwise fun x y => decide (x ≤ y) = true :=
    List.pairwise_mergeSort (fun a b c h1 h2 => by simp only [decide_eq_true_eq] at *; exact Int.le_trans h1 h2) (fun a b => by simp only [Bool.or_eq_true, decide_eq_true_eq]; exact Int.le_total a b) _
  generalize sortZ (zsI (junkL k fs)) = L at hp hs ⊢
  have hpos : ∀ x ∈ L, 0 ≤ x := fun x hx => by
    obtain ⟨i, _, rfl⟩ := List.mem_map.1 (hp.mem_iff.1 hx)
    omega
  have e1 : L = (L.map Int.toNat).map (fun i : Nat => (i : Int)) := by
    rw [List.map_map]
    conv => lhs; rw [← List.map_id L]
    exact List.map_congr_left fun x hx => by have := hpos x hx; simp only [Function.comp, id]; omega
  have hp2 : (L.map Int.toNat).Perm (junkL k fs) := by
    have := hp.map Int.toNat
    rw [List.map_map] at this
    have e2 : (Int.toNat ∘ fun i : Nat => (i : Int)) = id := by funext i; simp
    rw [e2, List.map_id] at this
    exact this
  refine ⟨L.map Int.toNat, e1, ⟨fun i => hp2.mem_iff, ?_⟩⟩
  have hnd : (L.map Int.toNat).Nodup := hp2.nodup_iff.2 (junk_nodup h)
  have h3 : (L.map Int.toNat).Pairwise fun a b => a ≤ b := by
    rw [List.pairwise_map]
    exact hs.imp fun {a b} h => by simp only [decide_eq_true_eq] at h; omega
  exact (h3.and hnd).imp fun {a b} ⟨p, q⟩ => Nat.lt_of_le_of_ne p q
end Go.Proofs.YtdldgbbhagpofaaGreatDoor

/-
  DERIVED: THE SHELF's CONTRACTS AT THIS DUMP, IN PLAIN WORDS (tools/lay-plain.mjs out of 'TryzShelJ.lean', which tools/lay-shelf.mjs wrote): THE SAME DECLARATIONS UNDER THE SAME NAMES: 'import', 'namespace', 'open', 'def', 'theorem' AND NOTHING ELSE: no command of the shelf's: FOR A HAND-IN. Each laying: the table of numbers ('.._ren') and one theorem, a field a fact of the dump's own or the kernel's comparison; each contract: ONE APPLICATION.
-/
namespace Go.Proofs
open Go.Shelf
def Tryz.laysCNm172_ren : Go.Shelf.Ren := ⟨fun | 172 => 57 | 244 => 75 | 245 => 76 | 247 => 88 | 279 => 89 | 280 => 90 | 281 => 91 | 282 => 92 | 287 => 110 | 316 => 111 | 171 => 53 | 205 => 112 | 321 => 124 | 322 => 125 | 243 => 73 | 246 => 86 | 283 => 106 | 284 => 107 | 285 => 108 | 286 => 109 | 129 => 104 | 317 => 120 | 318 => 121 | 319 => 122 | 320 => 123 | 337 => 127 | 338 => 128 | n => n, fun | 9 => 9 | 3 => 3 | 75 => 106 | 76 => 107 | 4 => 4 | 5 => 5 | 167 => 135 | 37 => 28 | 0 => 0 | 85 => 136 | 2 => 2 | 168 => 138 | 53 => 94 | 175 => 155 | 46 => 119 | 210 => 159 | 127 => 173 | 145 => 176 | 143 => 174 | 21 => 21 | 171 => 151 | 173 => 153 | 212 => 170 | 51 => 117 | 20 => 20 | 213 => 171 | 232 => 180 | 233 => 181 | 80 => 182 | n => n, fun | 15 => 0 | 16 => 1 | 17 => 2 | 18 => 3 | 19 => 4 | n => n⟩
theorem Tryz.laysCNm172 : Go.Proofs.LaysC.n172 Tryz.prog Tryz.laysCNm172_ren := {
  mixed := by kernel_rfl
  f129 := Tryz.func104.trans (congrArg some (by kernel_rfl))
  f171 := Tryz.func53.trans (congrArg some (by kernel_rfl))
  f172 := Tryz.func57.trans (congrArg some (by kernel_rfl))
  f205 := Tryz.func112.trans (congrArg some (by kernel_rfl))
  f243 := Tryz.func73.trans (congrArg some (by kernel_rfl))
  f244 := Tryz.func75.trans (congrArg some (by kernel_rfl))
  f245 := Tryz.func76.trans (congrArg some (by kernel_rfl))
  f246 := Tryz.func86.trans (congrArg some (by kernel_rfl))
  f247 := Tryz.func88.trans (congrArg some (by kernel_rfl))
  f279 := Tryz.func89.trans (congrArg some (by kernel_rfl))
  f280 := Tryz.func90.trans (congrArg some (by kernel_rfl))
  f281 := Tryz.func91.trans (congrArg some (by kernel_rfl))
  f282 := Tryz.func92.trans (congrArg some (by kernel_rfl))
  f283 := Tryz.func106.trans (congrArg some (by kernel_rfl))
  f284 := Tryz.func107.trans (congrArg some (by kernel_rfl))
  f285 := Tryz.func108.trans (congrArg some (by kernel_rfl))
  f286 := Tryz.func109.trans (congrArg some (by kernel_rfl))
  f287 := Tryz.func110.trans (congrArg some (by kernel_rfl))
  f316 := Tryz.func111.trans (congrArg some (by kernel_rfl))
  f317 := Tryz.func120.trans (congrArg some (by kernel_rfl))
  f318 := Tryz.func121.trans (congrArg some (by kernel_rfl))
  f319 := Tryz.func122.trans (congrArg some (by kernel_rfl))
  f320 := Tryz.func123.trans (congrArg some (by kernel_rfl))
  f321 := Tryz.func124.trans (congrArg some (by kernel_rfl))
  f322 := Tryz.func125.trans (congrArg some (by kernel_rfl))
  f337 := Tryz.func127.trans (congrArg some (by kernel_rfl))
  f338 := Tryz.func128.trans (congrArg some (by kernel_rfl))
  t0 := Tryz.underlying0
  a0 := Tryz.isAgg0
  z0 := Tryz.sizeOf0
  v0 := Tryz.zeroValue0
  t2 := Tryz.underlying2
  a2 := Tryz.isAgg2
  z2 := Tryz.sizeOf2
  v2 := Tryz.zeroValue2
  t3 := Tryz.underlying3
  a3 := Tryz.isAgg3
  z3 := Tryz.sizeOf3
  v3 := Tryz.zeroValue3
  t4 := Tryz.underlying4
  a4 := Tryz.isAgg4
  z4 := Tryz.sizeOf4
  v4 := Tryz.zeroValue4
  t5 := Tryz.underlying5
  a5 := Tryz.isAgg5
  z5 := Tryz.sizeOf5
  v5 := Tryz.zeroValue5
  t9 := Tryz.underlying9
  a9 := Tryz.isAgg9
  z9 := Tryz.sizeOf9
  v9 := Tryz.zeroValue9
  t20 := Tryz.underlying20
  a20 := Tryz.isAgg20
  z20 := Tryz.sizeOf20
  v20 := Tryz.zeroValue20
  t21 := Tryz.underlying21
  a21 := Tryz.isAgg21
  z21 := Tryz.sizeOf21
  v21 := Tryz.zeroValue21
  t37 := Tryz.underlying28
  a37 := Tryz.isAgg28
  z37 := Tryz.sizeOf28
  v37 := Tryz.zeroValue28
  t46 := Tryz.underlying119
  a46 := Tryz.isAgg119
  z46 := Tryz.sizeOf119
  v46 := Tryz.zeroValue119
  t51 := Tryz.underlying117
  a51 := Tryz.isAgg117
  z51 := Tryz.sizeOf117
  v51 := Tryz.zeroValue117
  t53 := Tryz.underlying94
  a53 := Tryz.isAgg94
  z53 := Tryz.sizeOf94
  v53 := Tryz.zeroValue94
  t75 := Tryz.underlying106
  a75 := Tryz.isAgg106
  z75 := Tryz.sizeOf106
  v75 := Tryz.zeroValue106
  t76 := Tryz.underlying107
  a76 := Tryz.isAgg107
  z76 := Tryz.sizeOf107
  v76 := Tryz.zeroValue107
  t85 := Tryz.underlying136
  a85 := Tryz.isAgg136
  z85 := Tryz.sizeOf136
  v85 := Tryz.zeroValue136
  t127 := Tryz.underlying173
  a127 := Tryz.isAgg173
  z127 := Tryz.sizeOf173
  v127 := Tryz.zeroValue173
  t143 := Tryz.underlying174
  a143 := Tryz.isAgg174
  z143 := Tryz.sizeOf174
  v143 := Tryz.zeroValue174
  t145 := Tryz.underlying176
  a145 := Tryz.isAgg176
  z145 := Tryz.sizeOf176
  v145 := Tryz.zeroValue176
  t167 := Tryz.underlying135
  a167 := Tryz.isAgg135
  z167 := Tryz.sizeOf135
  v167 := Tryz.zeroValue135
  t168 := Tryz.underlying138
  a168 := Tryz.isAgg138
  z168 := Tryz.sizeOf138
  v168 := Tryz.zeroValue138
  t171 := Tryz.underlying151
  a171 := Tryz.isAgg151
  z171 := Tryz.sizeOf151
  v171 := Tryz.zeroValue151
  t173 := Tryz.underlying153
  a173 := Tryz.isAgg153
  z173 := Tryz.sizeOf153
  v173 := Tryz.zeroValue153
  t175 := Tryz.underlying155
  a175 := Tryz.isAgg155
  z175 := Tryz.sizeOf155
  v175 := Tryz.zeroValue155
  t210 := Tryz.underlying159
  a210 := Tryz.isAgg159
  z210 := Tryz.sizeOf159
  v210 := Tryz.zeroValue159
  t212 := Tryz.underlying170
  a212 := Tryz.isAgg170
  z212 := Tryz.sizeOf170
  v212 := Tryz.zeroValue170
  t213 := Tryz.underlying171
  a213 := Tryz.isAgg171
  z213 := Tryz.sizeOf171
  t232 := Tryz.underlying180
  a232 := Tryz.isAgg180
  z232 := Tryz.sizeOf180
  v232 := Tryz.zeroValue180
  t233 := Tryz.underlying181
  a233 := Tryz.isAgg181
  z233 := Tryz.sizeOf181
  v233 := Tryz.zeroValue181
  g15 := by kernel_rfl
  g16 := by kernel_rfl
  g17 := by kernel_rfl
  g18 := by kernel_rfl
  g19 := by kernel_rfl
  t80 := Tryz.underlying182
  a80 := Tryz.isAgg182
  z80 := Tryz.sizeOf182
  v80 := Tryz.zeroValue182
  i0 := by kernel_rfl
  i2 := by kernel_rfl
  i3 := by kernel_rfl
  i4 := by kernel_rfl
  i5 := by kernel_rfl
  i9 := by kernel_rfl
  i20 := by kernel_rfl
  i21 := by kernel_rfl
  i37 := by kernel_rfl
  i46 := by kernel_rfl
  i51 := by kernel_rfl
  i53 := by kernel_rfl
  i75 := by kernel_rfl
  i76 := by kernel_rfl
  i80 := by kernel_rfl
  i85 := by kernel_rfl
  i127 := by kernel_rfl
  i143 := by kernel_rfl
  i145 := by kernel_rfl
  i167 := by kernel_rfl
  i168 := by kernel_rfl
  i171 := by kernel_rfl
  i173 := by kernel_rfl
  i175 := by kernel_rfl
  i210 := by kernel_rfl
  i212 := by kernel_rfl
  i232 := by kernel_rfl
  i233 := by kernel_rfl
  m15 := by kernel_rfl
  m16 := by kernel_rfl
  m17 := by kernel_rfl
  m18 := by kernel_rfl
  m19 := by kernel_rfl
  c0 := by kernel_rfl
  c2 := by kernel_rfl
  c3 := by kernel_rfl
  c4 := by kernel_rfl
  c5 := by kernel_rfl
  c9 := by kernel_rfl
  c20 := by kernel_rfl
  c21 := by kernel_rfl
  c37 := by kernel_rfl
  c46 := by kernel_rfl
  c51 := by kernel_rfl
  c53 := by kernel_rfl
  c75 := by kernel_rfl
  c76 := by kernel_rfl
  c80 := by kernel_rfl
  c85 := by kernel_rfl
  c127 := by kernel_rfl
  c143 := by kernel_rfl
  c145 := by kernel_rfl
  c167 := by kernel_rfl
  c168 := by kernel_rfl
  c171 := by kernel_rfl
  c173 := by kernel_rfl
  c175 := by kernel_rfl
  c210 := by kernel_rfl
  c212 := by kernel_rfl
  c213 := by kernel_rfl
  c232 := by kernel_rfl
  c233 := by kernel_rfl }
def Tryz.laysNm189_ren : Go.Shelf.Ren := ⟨fun | 189 => 59 | 125 => 79 | 257 => 78 | 128 => 103 | 129 => 104 | 294 => 94 | 295 => 95 | 296 => 96 | 297 => 97 | 298 => 98 | 299 => 99 | 216 => 100 | 300 => 101 | 301 => 102 | 328 => 113 | 329 => 114 | 330 => 115 | 331 => 116 | 332 => 117 | 215 => 118 | 343 => 126 | n => n, fun | 28 => 47 | 3 => 3 | 46 => 119 | 0 => 0 | 51 => 117 | 53 => 94 | 4 => 4 | 183 => 144 | 182 => 143 | 131 => 97 | 5 => 5 | 9 => 9 | 218 => 161 | 222 => 165 | 228 => 177 | 229 => 178 | n => n, fun | n => n⟩
theorem Tryz.laysNm189 : Go.Proofs.Lays.n189 Tryz.prog Tryz.laysNm189_ren := {
  mixed := by kernel_rfl
  f125 := Tryz.func79.trans (congrArg some (by kernel_rfl))
  f128 := Tryz.func103.trans (congrArg some (by kernel_rfl))
  f129 := Tryz.func104.trans (congrArg some (by kernel_rfl))
  f189 := Tryz.func59.trans (congrArg some (by kernel_rfl))
  f215 := Tryz.func118.trans (congrArg some (by kernel_rfl))
  f216 := Tryz.func100.trans (congrArg some (by kernel_rfl))
  f257 := Tryz.func78.trans (congrArg some (by kernel_rfl))
  f294 := Tryz.func94.trans (congrArg some (by kernel_rfl))
  f295 := Tryz.func95.trans (congrArg some (by kernel_rfl))
  f296 := Tryz.func96.trans (congrArg some (by kernel_rfl))
  f297 := Tryz.func97.trans (congrArg some (by kernel_rfl))
  f298 := Tryz.func98.trans (congrArg some (by kernel_rfl))
  f299 := Tryz.func99.trans (congrArg some (by kernel_rfl))
  f300 := Tryz.func101.trans (congrArg some (by kernel_rfl))
  f301 := Tryz.func102.trans (congrArg some (by kernel_rfl))
  f328 := Tryz.func113.trans (congrArg some (by kernel_rfl))
  f329 := Tryz.func114.trans (congrArg some (by kernel_rfl))
  f330 := Tryz.func115.trans (congrArg some (by kernel_rfl))
  f331 := Tryz.func116.trans (congrArg some (by kernel_rfl))
  f332 := Tryz.func117.trans (congrArg some (by kernel_rfl))
  f343 := Tryz.func126.trans (congrArg some (by kernel_rfl))
  t0 := Tryz.underlying0
  a0 := Tryz.isAgg0
  z0 := Tryz.sizeOf0
  v0 := Tryz.zeroValue0
  t3 := Tryz.underlying3
  a3 := Tryz.isAgg3
  z3 := Tryz.sizeOf3
  v3 := Tryz.zeroValue3
  t4 := Tryz.underlying4
  a4 := Tryz.isAgg4
  z4 := Tryz.sizeOf4
  v4 := Tryz.zeroValue4
  t5 := Tryz.underlying5
  a5 := Tryz.isAgg5
  z5 := Tryz.sizeOf5
  v5 := Tryz.zeroValue5
  t9 := Tryz.underlying9
  a9 := Tryz.isAgg9
  z9 := Tryz.sizeOf9
  v9 := Tryz.zeroValue9
  t28 := Tryz.underlying47
  a28 := Tryz.isAgg47
  z28 := Tryz.sizeOf47
  v28 := Tryz.zeroValue47
  t46 := Tryz.underlying119
  a46 := Tryz.isAgg119
  z46 := Tryz.sizeOf119
  v46 := Tryz.zeroValue119
  t51 := Tryz.underlying117
  a51 := Tryz.isAgg117
  z51 := Tryz.sizeOf117
  v51 := Tryz.zeroValue117
  t53 := Tryz.underlying94
  a53 := Tryz.isAgg94
  z53 := Tryz.sizeOf94
  v53 := Tryz.zeroValue94
  t131 := Tryz.underlying97
  a131 := Tryz.isAgg97
  z131 := Tryz.sizeOf97
  v131 := Tryz.zeroValue97
  t182 := Tryz.underlying143
  a182 := Tryz.isAgg143
  z182 := Tryz.sizeOf143
  v182 := Tryz.zeroValue143
  t183 := Tryz.underlying144
  a183 := Tryz.isAgg144
  z183 := Tryz.sizeOf144
  v183 := Tryz.zeroValue144
  t218 := Tryz.underlying161
  a218 := Tryz.isAgg161
  z218 := Tryz.sizeOf161
  v218 := Tryz.zeroValue161
  t222 := Tryz.underlying165
  a222 := Tryz.isAgg165
  z222 := Tryz.sizeOf165
  v222 := Tryz.zeroValue165
  t228 := Tryz.underlying177
  a228 := Tryz.isAgg177
  z228 := Tryz.sizeOf177
  v228 := Tryz.zeroValue177
  t229 := Tryz.underlying178
  a229 := Tryz.isAgg178
  z229 := Tryz.sizeOf178
  v229 := Tryz.zeroValue178 }
end Go.Proofs

namespace Go.Proofs.YtdldgbbhagpofaaGreatDoor
open Go.Sl facts
theorem sortA {q : Option Addr} {c : Nat} {zs : List Int} (hn : zs = [] → q = none ∧ c = 0) (hb : 0 < zs.length → ∃ b, q = some ⟨b, 0, none⟩) (hs : zs.length ≤ 1000000000) :
    Does Tryz.prog 59 [.slice q zs.length c] [.own q zs.length c 1 (zs.map int) 3] (X := Unit) (fun _ => .tuple #[]) (fun _ => [.own q zs.length c 1 ((sortZ zs).map int) 3]) (fun _ => True) := by
  cases zs with
  | nil =>
    obtain ⟨rfl, rfl⟩ := hn rfl
    have := Does.frame sort0 [.own none 0 0 1 [] 3]
    simpa using this
  | cons z zs =>
    obtain ⟨b, rfl⟩ := hb (by simp)
    exact does_sortI rfl (by simp) hs fun w hH hb => Any.slices_Sort_int Tryz.laysNm189 b 0 c (z :: zs) w hH hb (by omega)
theorem atoi_fin : ∀ i : Fin 100, Lib.atoiAll (Lib.decDigits i) = .ok (i.val : Int) := by decide +kernel
theorem atoiS (i : Nat) (h : i < 100) : Does1 Tryz.prog 57 [.string (txt (Lib.decDigits i))] [] (.tuple #[int i, .nilIface]) := fun Γ w hh => by
  have hd := dec_len i h
  refine (Any.strconv_Atoi_ok Tryz.laysCNm172 (txt (Lib.decDigits i)) (by rw [txt_size]; omega) (i : Int) (by simpa [txt] using atoi_fin ⟨i, h⟩) w).mono ?_
  rintro e w' ⟨rfl, hW⟩
  refine ⟨(), trivial, rfl, ?_⟩
  rcases hW with rfl | ⟨t, rfl⟩
  · exact hh
  · have hB := Lib.bytesWorld_below w 5 t
    exact hh.later hB.os hB.tape hB.output hB.size (fun c hc => hB.block c hc)
instance : Callable Tryz.prog 93 := callable (by kernel_rfl)
instance : Callable Tryz.prog 77 := callable (by kernel_rfl)
attribute [local irreducible] Code.wp wpList Exit.then Exit.inBlock bodyPost Back MidQ G GP QStep VStep CStep SStep Does Post Reads
theorem nm_ext (i : Nat) (h : i < 100) : (nmB i).extract 0 3 = ⟨#[115, 101, 103]⟩ ∧ (nmB i).extract 3 (nmB i).size = txt (Lib.decDigits i) ∧ 3 ≤ (nmB i).size := by
  have e : (nmB i).size = 3 + (Lib.decDigits i).length := by unfold nmB; rw [ByteArray.size_append, txt_size]; rfl
  refine ⟨?_, ?_, by omega⟩
  · apply ByteArray.ext
    unfold nmB txt
    simp [ByteArray.data_append]
  · rw [e]
    apply ByteArray.ext
    unfold nmB txt
    simp [ByteArray.data_append]
abbrev segP : ByteArray := ⟨#[115, 101, 103]⟩
theorem hasP (i : Nat) (h : i < 100) : Does1 Tryz.prog 93 [.string (nmB i), .string segP] [] (.bool true) := by
  obtain ⟨e1, _, e3⟩ := nm_ext i h
  have hz : ByteArray.size segP = 3 := rfl
  refine fn_intro Tryz.func93 rfl Tryz.ntmps93 rfl (by simp only [argFr, Nat.zero_add, Nat.reduceAdd]; rfl) (fun Γ => ?_)
  repeat ((fail_if_success refine s_at 10 ?_); first
    | (refine g_ops ?_; first | refine sO ?_ | refine s_n (fun _ => ?_) | refine s_appB (fun _ _ => ?_) | refine s_app (fun _ _ => ?_) | refine s_b0 (fun _ => ?_) | ((fail_if_success refine g_lit rfl rfl rfl ?_); first | apply g_partM rfl rfl rfl | apply g_partMB rfl rfl rfl | fail))
    | refine gS ?_ | exact s_m | intro _)
  first
    | (refine g_ops ?_; first | refine sO ?_ | refine s_n (fun _ => ?_) | refine s_appB (fun _ _ => ?_) | refine s_app (fun _ _ => ?_) | refine s_b0 (fun _ => ?_) | ((fail_if_success refine g_lit rfl rfl rfl ?_); first | apply g_partM rfl rfl rfl | apply g_partMB rfl rfl rfl | fail))
    | refine gS ?_ | exact s_m | intro _
  refine g_as 10 (v' := .bool true) rfl (congrArg Value.bool (decide_eq_true (by rw [hz]; omega))) ?_
  repeat (first
    | (refine g_ops ?_; first | refine sO ?_ | refine s_n (fun _ => ?_) | refine s_appB (fun _ _ => ?_) | refine s_app (fun _ _ => ?_) | refine s_b0 (fun _ => ?_) | ((fail_if_success refine g_lit rfl rfl rfl ?_); first | apply g_partM rfl rfl rfl | apply g_partMB rfl rfl rfl | fail))
    | refine gS ?_ | exact s_m | intro _)
  refine s_q (q := by exact qs_sliceStr (l := 0) (h := 3) inferInstance rfl .none (.some rfl rfl) (by omega) e3) ?_
  rw [e1]
  repeat (first
    | (refine g_ops ?_; first | refine sO ?_ | refine s_n (fun _ => ?_) | refine s_appB (fun _ _ => ?_) | refine s_app (fun _ _ => ?_) | refine s_b0 (fun _ => ?_) | ((fail_if_success refine g_lit rfl rfl rfl ?_); first | apply g_partM rfl rfl rfl | apply g_partMB rfl rfl rfl | fail))
    | refine gS ?_ | exact s_m | intro _)
  refine g_as 4 (v' := .bool true) rfl (congrArg Value.bool (by simp)) ?_
  exact s_r ()
theorem trimI (i : Nat) (h : i < 100) : Does1 Tryz.prog 77 [.string (nmB i), .string segP] [] (.string (txt (Lib.decDigits i))) := by
  obtain ⟨_, e2, e3⟩ := nm_ext i h
  have hp := hasP i h
  refine fn_intro Tryz.func77 rfl Tryz.ntmps77 rfl (by simp only [argFr, Nat.zero_add, Nat.reduceAdd]; rfl) (fun Γ => ?_)
  repeat (first
    | (refine g_ops ?_; first | refine sO ?_ | refine s_n (fun _ => ?_) | refine s_appB (fun _ _ => ?_) | refine s_app (fun _ _ => ?_) | refine s_b0 (fun _ => ?_) | ((fail_if_success refine g_lit rfl rfl rfl ?_); first | apply g_partM rfl rfl rfl | apply g_partMB rfl rfl rfl | fail) | refine s_p (hp) ?_)
    | refine gS ?_ | exact s_m | intro _)
  refine s_q (q := by exact qs_sliceStr (l := 3) (h := (nmB i).size) inferInstance rfl (.some rfl rfl) .none e3 (Nat.le_refl _)) ?_
  rw [e2]
  repeat (first
    | (refine g_ops ?_; first | refine sO ?_ | refine s_n (fun _ => ?_) | refine s_appB (fun _ _ => ?_) | refine s_app (fun _ _ => ?_) | refine s_b0 (fun _ => ?_) | ((fail_if_success refine g_lit rfl rfl rfl ?_); first | apply g_partM rfl rfl rfl | apply g_partMB rfl rfl rfl | fail))
    | refine gS ?_ | exact s_m | intro _)
  exact s_r ()
theorem trimS (i : Nat) (h : i < 100) : Does1 Tryz.prog 58 [.string (nmB i), .string segP] [] (.string (txt (Lib.decDigits i))) := by
  have hp := trimI i h
  refine fn_intro Tryz.func58 rfl Tryz.ntmps58 rfl (by simp only [argFr, Nat.zero_add, Nat.reduceAdd]; rfl) (fun Γ => ?_)
  repeat (first
    | (refine g_ops ?_; first | refine sO ?_ | refine s_n (fun _ => ?_) | refine s_appB (fun _ _ => ?_) | refine s_app (fun _ _ => ?_) | refine s_b0 (fun _ => ?_) | ((fail_if_success refine g_lit rfl rfl rfl ?_); first | apply g_partM rfl rfl rfl | apply g_partMB rfl rfl rfl | fail) | refine s_p (hp) ?_)
    | refine gS ?_ | exact s_m | intro _)
  exact s_r ()
end Go.Proofs.YtdldgbbhagpofaaGreatDoor

namespace Go.Proofs.YtdldgbbhagpofaaGreatDoor
open Go.Sl facts
abbrev clM (b1 b2 lg d : Nat) (room : Int) (lr : Chunk) (zs : List Nat) (jq : Option Addr) (jc : Nat) (e : Int) (_ : Nat) (z : CyX) : List Chunk :=
  [.own jq zs.length jc 1 ((zsI zs).map int) 3, .row b1 [ptr lg] 24, .row b2 [int e] 29, lr, drow d room (.slice z.y.q z.y.fs.length z.y.c) z.ops z.ct, .own z.y.q z.y.fs.length z.y.c 1 (ptrs z.y.fs) 80, Bag z.y.fs]
theorem CyOk.next {fs : List Fi} {ops0 ct0 : Int} {n i : Nat} {zs : List Nat} {z : CyX} (h : CyOk fs ops0 ct0 n (zs.drop (i + 1)) z) (hi : i < zs.length) (hz : zs[i] < 100) {y : DkX} (hr : Rm1 (nmB zs[i]) z.y.fs y.fs) (hc : z.ct ≠ 1) (hall : ∀ a ∈ zs, a < 100) : CyOk fs ops0 ct0 (n + 1) (zs.drop i) ⟨y, z.ops + 1, cutN z.ct⟩ := by
  have hc2 := h.ct
  have ho2 := h.ops
  refine ⟨hr.sort, Nat.le_trans hr.used h.used, Nat.le_trans hr.len h.len, fun x hx => h.mem x (hr.mem x hx), fun a ha => ?_, ⟨by show _ ≤ z.ops + 1; omega, by show z.ops + 1 ≤ _; push_cast; omega⟩, ?_⟩
  · show fdat y.fs (nmB a) = _
    rw [List.drop_eq_getElem_cons hi]
    by_cases e : a = zs[i]
    · rw [e, hr.at_, if_pos List.mem_cons_self]
    · rw [hr.else_ _ (fun e2 => e (nm_inj ha hz e2)), h.at_ a ha]
      simp only [List.mem_cons, e, false_or]
  · show 0 ≤ cutN z.ct ∧ cutN z.ct ≤ ct0 ∧ (ct0 ≠ 0 → cutN z.ct ≠ 0)
    unfold cutN
    split <;> omega
theorem strs_at (fs : List Fi) (i : Nat) (h : i < fs.length) : (fs.map fun y => Value.string y.nm)[i]? = some (.string fs[i].nm) := by simp [h]
attribute [local irreducible] Code.wp wpList Exit.then Exit.inBlock bodyPost Back MidQ G GP QStep VStep CStep SStep Does Post Reads
attribute [local irreducible] Begin RPost MPost frameB frB
theorem clean_ (lg d : Nat) (x : LG) (off : Bool) (room : Int) (q : Option Addr) (c : Nat) (ops ct : Int) (hc0 : 0 ≤ ops ∧ ops ≤ 100000000) (hc1 : 0 ≤ ct ∧ ct ≤ 1000000) (fs : List Fi) (hF : FsN fs) (hk : x.fs.length ≤ 1000000) :
    Does Tryz.prog 38 [ptr lg] (x.row lg d off :: bagL d room ops ct q c fs []) (X := ClX) (fun w => int (if w.b then 9 else 0)) (fun w => x.row lg d off :: bagL d room w.z.ops w.z.ct w.z.y.q w.z.y.c w.z.y.fs []) (ClOk x.fs.length fs ops ct) := by
  have hfl := hF.len
  have hnm := names_g d room q c ops ct fs (by omega)
  obtain ⟨rq, rc, xs, fq, fc, fs', size, sl⟩ := x
  dsimp only [LG.row] at hk ⊢
  generalize hkk : fs'.length = k at *
  refine fn_introM Tryz.func38 rfl Tryz.ntmps38 rfl (by simp only [argFr, Nat.zero_add, Nat.reduceAdd]; rfl) (fun Γ => ?_)
  repeat (first
    | (refine g_ops ?_; first | refine sO ?_ | refine s_n (fun _ => ?_) | refine s_appB (fun _ _ => ?_) | refine s_app (fun _ _ => ?_) | refine s_b0 (fun _ => ?_) | ((fail_if_success refine g_lit rfl rfl rfl ?_); first | apply g_partM rfl rfl rfl | apply g_partMB rfl rfl rfl | fail) | refine s_c (hnm) (fun _ _ => ?_))
    | refine gS ?_ | exact s_m | intro _ | refine r_seq ?_ | refine r_region ?_ | refine r_block ?_ | refine r_retc ?_ | refine r_exit ?_ | refine r_skip ?_
    | refine r_label ?_ | refine r_cond_true rfl ?_ | refine r_cond_false rfl ?_)
  rename_i b1 b2 yn _
  obtain ⟨np, nc⟩ := yn
  dsimp only [List.cons_append, List.nil_append]
  refine g_own_nil none 1 3 ?_
  refine g_as 17 (v' := int ((0 : Nat) : Int)) rfl rfl ?_
  refine g_loop (X := JkX) (fun z => [(1, ptr b1), (2, ptr b2), (3, .slice z.q (zsI (junkL k (fs.take z.i))).length z.c), (15, .slice np fs.length nc), (16, int fs.length), (17, int z.i)])
    (fun z => .row b1 [ptr lg] 24 :: .row b2 [int 0] 29 :: .own z.q (zsI (junkL k (fs.take z.i))).length z.c 1 ((zsI (junkL k (fs.take z.i))).map int) 3 :: .own np fs.length nc 1 (fs.map fun y => .string y.nm) 9 :: lrow lg d (.slice rq xs.length rc) (.slice fq k fc) size sl off :: bagL d room ops ct q c fs [])
    (fun z => z.i ≤ fs.length ∧ (junkL k (fs.take z.i) = [] → z.q = none ∧ z.c = 0)) (fun z => fs.length - z.i) ⟨0, none, 0⟩ ⟨Nat.zero_le _, fun _ => ⟨rfl, rfl⟩⟩ (by (repeat (first | exact FrSub.nil | refine FrSub.cons rfl ?_)); first | done | fail) (by (repeat (first | exact Take.nil | apply Take.cons | exact Sel.here | apply Sel.there)); first | done | fail) (fun z hz => ?_)
  obtain ⟨i, jq, jc⟩ := z
  obtain ⟨hi, hjn⟩ := hz
  dsimp only at hi hjn ⊢
  repeat (first
    | (refine g_ops ?_; first | refine sO ?_ | refine s_n (fun _ => ?_) | refine s_appB (fun _ _ => ?_) | refine s_app (fun _ _ => ?_) | refine s_b0 (fun _ => ?_) | ((fail_if_success refine g_lit rfl rfl rfl ?_); first | apply g_partM rfl rfl rfl | apply g_partMB rfl rfl rfl | fail))
    | refine gS ?_ | exact s_m | intro _ | refine r_seq ?_ | refine r_region ?_ | refine r_block ?_ | refine r_retc ?_ | refine r_exit ?_ | refine r_skip ?_
    | refine r_label ?_ | refine r_cond_true rfl ?_ | refine r_cond_false rfl ?_)
  refine g_cond_dec rfl (fun h => ?_) (fun h => ?_)
  · have hi' : i < fs.length := by omega
    refine g_own (p := np) (len := fs.length) (cap := nc) (n := 1) (xs := fs.map fun y => .string y.nm) (e := 9) (by (repeat (first | exact Sel.here | apply Sel.there)); first | done | fail) (fun _ _ hq => ?_)
    obtain ⟨nb, rfl⟩ := hq (by omega)
    have hrow := reads_own (b := nb) (len := fs.length) (cap := nc) (n := 1) (e := 9) (strs_at fs i hi')
    have hr : ∀ j, j = i → Reads (.own (some ⟨nb, 0, none⟩) fs.length nc 1 (fs.map fun y => .string y.nm) 9) ⟨nb, 0 + j, none⟩ (.string fs[i].nm) := fun j e => by rw [e, Nat.zero_add]; exact hrow
    obtain ⟨hx1, hx2⟩ := ix_nm (hF.nms fs[i] (List.getElem_mem hi'))
    have hsn := junk_snoc k fs i hi'
    generalize fs[i].nm = nm at hr hx1 hx2 hsn
    generalize ixOf nm = j at hx1 hx2 hsn
    subst hx2
    have htr := trimS j hx1
    have hat := atoiS j hx1
    have hsm := sname j hx1
    repeat (first
      | (refine g_ops ?_; first | refine sO ?_ | refine s_n (fun _ => ?_) | refine s_appB (fun _ _ => ?_) | refine s_app (fun _ _ => ?_) | refine s_b0 (fun _ => ?_) | ((fail_if_success refine g_lit rfl rfl rfl ?_); first | apply g_partM rfl rfl rfl | apply g_partMB rfl rfl rfl | fail) | refine s_p (htr) ?_ | refine s_p (hat) ?_)
      | refine gS ?_ | exact s_m | intro _ | refine r_seq ?_ | refine r_region ?_ | refine r_block ?_ | refine r_retc ?_ | refine r_exit ?_ | refine r_skip ?_
      | refine r_label ?_ | refine r_cond_true rfl ?_ | refine r_cond_false rfl ?_)
    repeat ((fail_if_success refine s_at 35 ?_); first
      | (refine g_ops ?_; first | refine sO ?_ | refine s_n (fun _ => ?_) | refine s_appB (fun _ _ => ?_) | refine s_app (fun _ _ => ?_) | refine s_b0 (fun _ => ?_) | ((fail_if_success refine g_lit rfl rfl rfl ?_); first | apply g_partM rfl rfl rfl | apply g_partMB rfl rfl rfl | fail) | refine s_p (hsm) ?_)
      | refine gS ?_ | exact s_m | intro _ | refine r_seq ?_ | refine r_region ?_ | refine r_block ?_ | refine r_retc ?_ | refine r_exit ?_ | refine r_skip ?_
      | refine r_label ?_ | refine r_cond_true rfl ?_ | refine r_cond_false rfl ?_)
    first
      | (refine g_ops ?_; first | refine sO ?_ | refine s_n (fun _ => ?_) | refine s_appB (fun _ _ => ?_) | refine s_app (fun _ _ => ?_) | refine s_b0 (fun _ => ?_) | ((fail_if_success refine g_lit rfl rfl rfl ?_); first | apply g_partM rfl rfl rfl | apply g_partMB rfl rfl rfl | fail))
      | refine gS ?_ | exact s_m | intro _ | refine r_seq ?_ | refine r_region ?_ | refine r_block ?_ | refine r_retc ?_ | refine r_exit ?_ | refine r_skip ?_
      | refine r_label ?_ | refine r_cond_true rfl ?_ | refine r_cond_false rfl ?_
    refine g_as 35 (v' := .bool true) rfl (congrArg Value.bool (by simp)) ?_
    repeat (first
      | (refine g_ops ?_; first | refine sO ?_ | refine s_n (fun _ => ?_) | refine s_appB (fun _ _ => ?_) | refine s_app (fun _ _ => ?_) | refine s_b0 (fun _ => ?_) | ((fail_if_success refine g_lit rfl rfl rfl ?_); first | apply g_partM rfl rfl rfl | apply g_partMB rfl rfl rfl | fail))
      | refine gS ?_ | exact s_m | intro _ | refine r_seq ?_ | refine r_region ?_ | refine r_block ?_ | refine r_retc ?_ | refine r_exit ?_ | refine r_skip ?_
      | refine r_label ?_ | refine r_cond_true rfl ?_ | refine r_cond_false rfl ?_)
    refine g_cond_dec rfl (fun h3 => ?_) (fun h3 => ?_)
    · have hjl : (zsI (junkL k (fs.take i))).length ≤ 300 := by
        have h6 := List.length_filter_le (fun i => decide (k ≤ i)) ((fs.take i).map fun x => ixOf x.nm)
        have h7 : (zsI (junkL k (fs.take i))).length = (junkL k (fs.take i)).length := by simp [zsI]
        rw [h7]; unfold junkL
        rw [List.length_map, List.length_take] at h6
        omega
      rw [if_pos (by omega)] at hsn
      have hz : zsI (junkL k (fs.take (i + 1))) = zsI (junkL k (fs.take i)) ++ [(j : Int)] := by rw [hsn]; simp [zsI]
      generalize zsI (junkL k (fs.take i)) = zs at hz hjl ⊢
      repeat (first
        | (refine g_ops ?_; first | refine sO ?_ | refine s_n (fun _ => ?_) | refine s_appB (fun _ _ => ?_) | refine s_app (fun _ _ => ?_) | refine s_b0 (fun _ => ?_) | ((fail_if_success refine g_lit rfl rfl rfl ?_); first | apply g_partM rfl rfl rfl | apply g_partMB rfl rfl rfl | fail))
        | refine gS ?_ | exact s_m | intro _ | refine r_seq ?_ | refine r_region ?_ | refine r_block ?_ | refine r_retc ?_ | refine r_exit ?_ | refine r_skip ?_
        | refine r_label ?_ | refine r_cond_true rfl ?_ | refine r_cond_false rfl ?_)
      rename_i nb2 q' c'
      have hlr : (zs ++ [(j : Int)]).length = zs.length + 1 := by simp
      have hmr : (zs ++ [(j : Int)]).map int = zs.map int ++ [int j] := by simp
      refine g_as 17 (v' := int ((i + 1 : Nat) : Int)) rfl (congrArg (Value.int .i64) (by push_cast; rfl)) ?_
      rw [← hmr, ← hlr, ← hz]
      exact gA (⟨i + 1, q', c'⟩ : JkX) (by simp only; omega) ⟨hi', fun h0 => by dsimp only at h0; rw [hsn] at h0; simp at h0⟩
    · rw [if_neg (by omega)] at hsn
      repeat (first
        | (refine g_ops ?_; first | refine sO ?_ | refine s_n (fun _ => ?_) | refine s_appB (fun _ _ => ?_) | refine s_app (fun _ _ => ?_) | refine s_b0 (fun _ => ?_) | ((fail_if_success refine g_lit rfl rfl rfl ?_); first | apply g_partM rfl rfl rfl | apply g_partMB rfl rfl rfl | fail))
        | refine gS ?_ | exact s_m | intro _ | refine r_seq ?_ | refine r_region ?_ | refine r_block ?_ | refine r_retc ?_ | refine r_exit ?_ | refine r_skip ?_
        | refine r_label ?_ | refine r_cond_true rfl ?_ | refine r_cond_false rfl ?_)
      refine g_as 17 (v' := int ((i + 1 : Nat) : Int)) rfl (congrArg (Value.int .i64) (by push_cast; rfl)) ?_
      rw [← hsn] at hjn ⊢
      exact gA (⟨i + 1, jq, jc⟩ : JkX) (by simp only; omega) ⟨hi', hjn⟩
  · obtain rfl : i = fs.length := by omega
    rw [List.take_length] at hjn ⊢
    obtain ⟨zs, hz1, hz2⟩ := so_sort (k := k) hF
    have hzl : (zsI (junkL k fs)).length = zs.length := by
      have := congrArg List.length hz1
      rw [(List.mergeSort_perm _ _).length_eq] at this
      rw [this]; simp [zsI]
    have hzm : zs.length ≤ 300 := by
      have h6 := List.length_filter_le (fun i => decide (k ≤ i)) (fs.map fun x => ixOf x.nm)
      have h7 : (zsI (junkL k fs)).length = (junkL k fs).length := by simp [zsI]
      rw [← hzl, h7]; unfold junkL
      rw [List.length_map] at h6
      omega
    refine g_own (p := jq) (len := (zsI (junkL k fs)).length) (cap := jc) (n := 1) (xs := (zsI (junkL k fs)).map int) (e := 3) (by (repeat (first | exact Sel.here | apply Sel.there)); first | done | fail) (fun _ _ hqq => ?_)
    have hso := sortA (q := jq) (c := jc) (zs := zsI (junkL k fs)) (fun h0 => hjn (by simpa [zsI] using h0)) hqq (by omega)
    rw [hz1, hzl] at hso
    rw [hzl] at hqq ⊢
    have hdat : ∀ i, i < zs.length → ∃ y, fdat fs (nmB (zs.getD i 0)) = some y ∧ zs.getD i 0 < 100 := fun i hi => by
      have hm : zs.getD i 0 ∈ zs := by rw [List.getD_eq_getElem?_getD, List.getElem?_eq_getElem hi]; exact List.getElem_mem hi
      obtain ⟨g1, g2, x, hx, g3⟩ := junk_lt hF _ ((hz2.mem _).1 hm)
      obtain ⟨y, hy⟩ := fdat_mem hx
      exact ⟨y, by rw [← g3]; exact hy, g1⟩
    generalize hjs : zsI (junkL k fs) = js at *
    repeat (first
      | (refine g_ops ?_; first | refine sO ?_ | refine s_n (fun _ => ?_) | refine s_appB (fun _ _ => ?_) | refine s_app (fun _ _ => ?_) | refine s_b0 (fun _ => ?_) | ((fail_if_success refine g_lit rfl rfl rfl ?_); first | apply g_partM rfl rfl rfl | apply g_partMB rfl rfl rfl | fail) | refine s_c (hso) (fun _ _ => ?_) | refine s_c (backI jq zs.length jc) (fun _ _ => ?_))
      | refine gS ?_ | exact s_m | intro _ | refine r_seq ?_ | refine r_region ?_ | refine r_block ?_ | refine r_retc ?_ | refine r_exit ?_ | refine r_skip ?_
      | refine r_label ?_ | refine r_cond_true rfl ?_ | refine r_cond_false rfl ?_)
    rename_i bb _
    dsimp only [List.cons_append, List.nil_append]
    have hall : ∀ a ∈ zs, a < 100 := fun a ha => (junk_lt hF a ((hz2.mem a).1 ha)).1
    refine g_range (f := 80) (caps := [ptr bb]) (X := Bool × Nat × CyX) (pd := fun z => z.1) (ret := fun _ => .tuple #[])
      (A := .row bb [.slice jq zs.length jc] 47 :: clM b1 b2 lg d room (lrow lg d (.slice rq xs.length rc) (.slice fq k fc) size sl off) zs jq jc 0 zs.length ⟨⟨q, c, fs⟩, ops, ct⟩)
      (B := fun z => .row bb [.slice jq zs.length jc] 47 :: (if z.1 then clM b1 b2 lg d room (lrow lg d (.slice rq xs.length rc) (.slice fq k fc) size sl off) zs jq jc 9 z.2.1 z.2.2 else clM b1 b2 lg d room (lrow lg d (.slice rq xs.length rc) (.slice fq k fc) size sl off) zs jq jc 0 0 z.2.2))
      (φ := fun z => if z.1 then (CyOk fs ops ct (zs.length - z.2.1) (zs.drop (z.2.1 + 1)) z.2.2 ∧ ct ≠ 0) ∧ z.2.1 < zs.length else CyOk fs ops ct (zs.length - 0) (zs.drop 0) z.2.2) rfl (by dsimp only [clM]; exact (by (repeat (first | exact Take.nil | apply Take.cons | exact Sel.here | apply Sel.there)); first | done | fail)) (fun l r hp ha hb hN hf => ?_) (fun D z hz hpd => ?_) (fun D z hz hpd => ?_)
    · refine back80 (l := l) (r := r) (bx := bb) (p := jq) (n := zs.length) (c := jc) (M := clM b1 b2 lg d room (lrow lg d (.slice rq xs.length rc) (.slice fq k fc) size sl off) zs jq jc 0) (F := clM b1 b2 lg d room (lrow lg d (.slice rq xs.length rc) (.slice fq k fc) size sl off) zs jq jc 9) (φ := fun i y => CyOk fs ops ct (zs.length - i) (zs.drop i) y) (ψ := fun i y => CyOk fs ops ct (zs.length - i) (zs.drop (i + 1)) y ∧ ct ≠ 0) (el := fun i => ((zs.getD i 0 : Nat) : Int)) (by omega) (fun i y hi hw => ?_) (fun i y hi hw => ?_) ⟨⟨q, c, fs⟩, ops, ct⟩ ?_
      · obtain ⟨ob, rfl⟩ := hqq (by omega)
        refine ⟨ob, 0, _, _, rfl, .here, ?_⟩
        rw [Nat.zero_add, Nat.mul_one]
        exact reads_own (by simp [zsI, hi])
      · obtain ⟨yv, hyv, hlt⟩ := hdat i hi
        have hge : zs.getD i 0 = zs[i] := by rw [List.getD_eq_getElem?_getD, List.getElem?_eq_getElem hi]; rfl
        have hnx := fun y' h1 h2 => hw.next hi (by rw [← hge]; exact hlt) (y := y') h1 h2 hall
        rw [← hge] at hnx
        have hfd : fdat y.y.fs (nmB (zs.getD i 0)) = some yv := by
          rw [hw.at_ _ hlt, if_neg, hyv]
          intro hm
          have := (asc_drop hz2.asc hi _ (by rw [hge]; exact List.getElem_mem hi)).1 hm
          rw [hge] at this; omega
        have hsm := sname (zs.getD i 0) hlt
        generalize zs.getD i 0 = j at *
        have hcw := hw.ct
        have how := hw.ops
        have hlw := hw.len
        obtain ⟨⟨yq, yc, ys⟩, yo, yt⟩ := y
        dsimp only at hfd hcw how hlw hnx ⊢
        by_cases hct : yt = 1
        · have hrm := remove_off d room (.slice yq ys.length yc) yo yt ⟨by omega, by omega, by omega, by omega⟩ hct (nmB j)
          refine y_intro (ps := [53, 54]) hp rfl hN (by decide) hf rfl (fun Γ => ?_)
          rw [ha, hb]
          dsimp only [clM]
          repeat (first
            | (refine g_ops ?_; first | refine sO ?_ | refine s_n (fun _ => ?_) | refine s_appB (fun _ _ => ?_) | refine s_app (fun _ _ => ?_) | refine s_b0 (fun _ => ?_) | ((fail_if_success refine g_lit rfl rfl rfl ?_); first | apply g_partM rfl rfl rfl | apply g_partMB rfl rfl rfl | fail))
            | refine gS ?_ | exact s_m | intro _ | refine r_seq ?_ | refine r_region ?_ | refine r_block ?_ | refine r_retc ?_ | refine r_exit ?_ | refine r_skip ?_
            | refine r_label ?_ | refine r_cond_true rfl ?_ | refine r_cond_false rfl ?_)
          refine r_begin (by (repeat (first | exact Sel.here | apply Sel.there)); first | done | fail) ?_
          repeat (first | refine r_block ?_ | refine r_seq ?_)
          refine r_draw (id := 12) (C := [.row b1 [ptr lg] 24, lrow lg d (.slice rq xs.length rc) (.slice fq k fc) size sl off]) (.see 0 [1,2,3,6,7] (.take 1 (.take 2 (.see 3 [6,7] (.take 4 (.see 5 [6,7] (.thaw 6 (.take 7 .done)))))))) (by kernel_rfl) (by (repeat (first | exact Take.nil | apply Take.cons | exact Sel.here | apply Sel.there)); first | done | fail) (fun m hd hk => ?_)
          repeat (first
            | (refine gp_take ?_; first | refine pT ?_ | ((fail_if_success refine gp_lit rfl rfl rfl rfl ?_); first | apply gp_guard_dec rfl rfl rfl rfl | apply gp_guard rfl rfl rfl rfl | fail) | refine p_p (hsm) ?_)
            | (refine gp_see ?_; first | refine p_f ?_ | refine pS ?_ | ((fail_if_success refine gp_lit rfl rfl rfl rfl ?_); first | apply gp_guard_dec rfl rfl rfl rfl | apply gp_guard rfl rfl rfl rfl | fail) | refine p_sp (hsm) ?_)
            | (refine gp_one ?_; first | refine pO ?_ | refine p_n (fun _ => ?_) | refine p_appB (fun _ _ => ?_) | refine p_app (fun _ _ => ?_) | refine p_b0 (fun _ => ?_) | ((fail_if_success refine gp_lit rfl rfl rfl rfl ?_); first | apply gp_guard_dec rfl rfl rfl rfl | apply gp_guard rfl rfl rfl rfl | fail))
            | refine gp_two ?_ ?_ | refine gp_done hd hk ?_ | intro _ | refine p_tc (hrm) hd hk (fun _ _ _ hd hk => ?_) | refine p_ta hd hk (fun _ _ _ hd hk => ?_) | refine p_ts hd hk (fun _ hd hk => ?_))
          repeat (first
            | (refine g_ops ?_; first | refine sO ?_ | refine s_n (fun _ => ?_) | refine s_appB (fun _ _ => ?_) | refine s_app (fun _ _ => ?_) | refine s_b0 (fun _ => ?_) | ((fail_if_success refine g_lit rfl rfl rfl ?_); first | apply g_partM rfl rfl rfl | apply g_partMB rfl rfl rfl | fail))
            | refine gS ?_ | exact s_m | intro _ | refine r_seq ?_ | refine r_region ?_ | refine r_block ?_ | refine r_retc ?_ | refine r_exit ?_ | refine r_skip ?_
            | refine r_label ?_ | refine r_cond_true rfl ?_ | refine r_cond_false rfl ?_)
          dsimp only [List.append]
          refine r_leave (r := r) (⟨⟨yq, yc, ys⟩, yo + 1, yt⟩ : CyX) (by (repeat (first | exact Sel.here | apply Sel.there)); first | done | fail) (by simp only [Bool.not_false, Bool.false_eq_true, if_false, if_true]; exact (by (repeat (first | exact Take.nil | apply Take.cons | exact Sel.here | apply Sel.there)); first | done | fail)) ?_
          rw [if_neg (by decide)]
          refine ⟨⟨hw.sort, hw.used, hw.len, hw.mem, hw.at_, ?_, hcw⟩, by omega⟩
          dsimp only; omega
        · have hrm := removeS d room yq yc yo yt ⟨by omega, by omega, by omega, by omega⟩ hct ys hw.sort (nmB j) (by omega) yv hfd
          refine y_intro (ps := [53, 54]) hp rfl hN (by decide) hf rfl (fun Γ => ?_)
          rw [ha, hb]
          dsimp only [clM]
          repeat (first
            | (refine g_ops ?_; first | refine sO ?_ | refine s_n (fun _ => ?_) | refine s_appB (fun _ _ => ?_) | refine s_app (fun _ _ => ?_) | refine s_b0 (fun _ => ?_) | ((fail_if_success refine g_lit rfl rfl rfl ?_); first | apply g_partM rfl rfl rfl | apply g_partMB rfl rfl rfl | fail))
            | refine gS ?_ | exact s_m | intro _ | refine r_seq ?_ | refine r_region ?_ | refine r_block ?_ | refine r_retc ?_ | refine r_exit ?_ | refine r_skip ?_
            | refine r_label ?_ | refine r_cond_true rfl ?_ | refine r_cond_false rfl ?_)
          refine r_begin (by (repeat (first | exact Sel.here | apply Sel.there)); first | done | fail) ?_
          repeat (first | refine r_block ?_ | refine r_seq ?_)
          refine r_draw (id := 12) (C := [.row b1 [ptr lg] 24, lrow lg d (.slice rq xs.length rc) (.slice fq k fc) size sl off]) (.see 0 [1,2,3,6,7] (.take 1 (.take 2 (.see 3 [6,7] (.take 4 (.see 5 [6,7] (.thaw 6 (.take 7 .done)))))))) (by kernel_rfl) (by (repeat (first | exact Take.nil | apply Take.cons | exact Sel.here | apply Sel.there)); first | done | fail) (fun m hd hk => ?_)
          repeat (first
            | (refine gp_take ?_; first | refine pT ?_ | ((fail_if_success refine gp_lit rfl rfl rfl rfl ?_); first | apply gp_guard_dec rfl rfl rfl rfl | apply gp_guard rfl rfl rfl rfl | fail) | refine p_p (hsm) ?_)
            | (refine gp_see ?_; first | refine p_f ?_ | refine pS ?_ | ((fail_if_success refine gp_lit rfl rfl rfl rfl ?_); first | apply gp_guard_dec rfl rfl rfl rfl | apply gp_guard rfl rfl rfl rfl | fail) | refine p_sp (hsm) ?_)
            | (refine gp_one ?_; first | refine pO ?_ | refine p_n (fun _ => ?_) | refine p_appB (fun _ _ => ?_) | refine p_app (fun _ _ => ?_) | refine p_b0 (fun _ => ?_) | ((fail_if_success refine gp_lit rfl rfl rfl rfl ?_); first | apply gp_guard_dec rfl rfl rfl rfl | apply gp_guard rfl rfl rfl rfl | fail))
            | refine gp_two ?_ ?_ | refine gp_done hd hk ?_ | intro _ | refine p_tc (hrm) hd hk (fun _ _ _ hd hk => ?_) | refine p_ta hd hk (fun _ _ _ hd hk => ?_) | refine p_ts hd hk (fun _ hd hk => ?_))
          rename_i y1 m1 hy1
          obtain ⟨yq1, yc1, ys1⟩ := y1
          repeat (first
            | (refine g_ops ?_; first | refine sO ?_ | refine s_n (fun _ => ?_) | refine s_appB (fun _ _ => ?_) | refine s_app (fun _ _ => ?_) | refine s_b0 (fun _ => ?_) | ((fail_if_success refine g_lit rfl rfl rfl ?_); first | apply g_partM rfl rfl rfl | apply g_partMB rfl rfl rfl | fail))
            | refine gS ?_ | exact s_m | intro _ | refine r_seq ?_ | refine r_region ?_ | refine r_block ?_ | refine r_retc ?_ | refine r_exit ?_ | refine r_skip ?_
            | refine r_label ?_ | refine r_cond_true rfl ?_ | refine r_cond_false rfl ?_)
          dsimp only [List.append]
          have hnn := hnx ⟨yq1, yc1, ys1⟩ hy1 hct
          refine r_next (r := r) (⟨⟨yq1, yc1, ys1⟩, yo + 1, cutN yt⟩ : CyX) (by (repeat (first | exact Sel.here | apply Sel.there)); first | done | fail) (by simp only [Bool.not_true, Bool.false_eq_true, if_false, if_true]; exact (by (repeat (first | exact Take.nil | apply Take.cons | exact Sel.here | apply Sel.there)); first | done | fail)) ?_
          rw [if_pos rfl]
          rw [show zs.length - (i + 1) + 1 = zs.length - i by omega] at hnn
          exact hnn
      · rw [List.drop_length, Nat.sub_self]
        exact ⟨hF.sort, Nat.le_refl _, Nat.le_refl _, fun _ h => h, fun a _ => by simp, ⟨Int.le_refl _, by simp⟩, ⟨hc1.1, Int.le_refl _, fun h => h⟩⟩
    · obtain ⟨zb, zi, z⟩ := z
      dsimp only at hpd
      subst hpd
      simp only [Bool.false_eq_true, if_false] at hz ⊢
      dsimp only [clM, List.cons_append, List.nil_append]
      rw [List.drop_zero] at hz
      repeat (first
        | (refine g_ops ?_; first | refine sO ?_ | refine s_n (fun _ => ?_) | refine s_appB (fun _ _ => ?_) | refine s_app (fun _ _ => ?_) | refine s_b0 (fun _ => ?_) | ((fail_if_success refine g_lit rfl rfl rfl ?_); first | apply g_partM rfl rfl rfl | apply g_partMB rfl rfl rfl | fail))
        | refine gS ?_ | exact s_m | intro _ | refine r_seq ?_ | refine r_region ?_ | refine r_block ?_ | refine r_retc ?_ | refine r_exit ?_ | refine r_skip ?_
        | refine r_label ?_ | refine r_cond_true rfl ?_ | refine r_cond_false rfl ?_)
      exact g_retM D (⟨false, z⟩ : ClX) (s := (by (repeat (first | exact Sel.here | apply Sel.there)); first | done | fail)) (hr := rfl) (h := .cell1 (v := int 0) rfl (by (repeat (first | exact Sel.here | apply Sel.there)); first | done | fail) rfl .nil) (tk := (by (repeat (first | exact Take.nil | apply Take.cons | exact Sel.here | apply Sel.there)); first | done | fail)) (hp := rfl) (hx := hz.gone hz2 (by omega))
    · obtain ⟨zb, zi, z⟩ := z
      dsimp only at hpd
      subst hpd
      simp only [if_true] at hz ⊢
      dsimp only [clM, List.cons_append, List.nil_append]
      obtain ⟨⟨hz3, hz4⟩, hz5⟩ := hz
      repeat (first
        | (refine g_ops ?_; first | refine sO ?_ | refine s_n (fun _ => ?_) | refine s_appB (fun _ _ => ?_) | refine s_app (fun _ _ => ?_) | refine s_b0 (fun _ => ?_) | ((fail_if_success refine g_lit rfl rfl rfl ?_); first | apply g_partM rfl rfl rfl | apply g_partMB rfl rfl rfl | fail))
        | refine gS ?_ | exact s_m | intro _ | refine r_seq ?_ | refine r_region ?_ | refine r_block ?_ | refine r_retc ?_ | refine r_exit ?_ | refine r_skip ?_
        | refine r_label ?_ | refine r_cond_true rfl ?_ | refine r_cond_false rfl ?_)
      exact g_retM D (⟨true, z⟩ : ClX) (s := (by (repeat (first | exact Sel.here | apply Sel.there)); first | done | fail)) (hr := rfl) (h := .cell1 (v := int 9) rfl (by (repeat (first | exact Sel.here | apply Sel.there)); first | done | fail) rfl .nil) (tk := (by (repeat (first | exact Take.nil | apply Take.cons | exact Sel.here | apply Sel.there)); first | done | fail)) (hp := rfl) (hx := hz3.left hz2 hz5 (by omega) hz4)
end Go.Proofs.YtdldgbbhagpofaaGreatDoor
