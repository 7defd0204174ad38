/- What slices.Sorted(maps.Keys(m)) does, out of the shelf's contract: texts. -/
import Derived.Test.YtfachckbjmofgaaSlz
import Derived.Maps.Own
import Derived.Sort.KeysCollected
import Derived.Sort.Walk0
set_option linter.unusedSimpArgs false
set_option linter.unusedVariables false
namespace Go.Sl
open Go.WideElems (Fit rd rg)
theorem insert_perm {H : Type} (x : Lit × DataW H) : ∀ l : List (Lit × DataW H), (DataW.insert x l).Perm (x :: l)
  | [] => by simp [DataW.insert]
  | y :: r => by
    unfold DataW.insert
    split
    · exact .refl _
    · exact ((insert_perm x r).cons y).trans (.swap x y r)
theorem inserts_perm {H : Type} : ∀ l : List (Lit × DataW H), (l.foldr DataW.insert []).Perm l
  | [] => .refl _
  | x :: l => (insert_perm x _).trans ((inserts_perm l).cons x)
def strB : Value → List UInt8
  | .string s => s.data.toList
  | _ => []
/-- Nothing is read of the values. -/
def noR : Value → Option (DataW Unit × List MemPlace) := fun _ => some (.nil, [])
theorem owns_of {P : Program} {kt : TypeId} (hk : P.underlying kt = some .string) {w : World} {m : Nat} {es : Array MapEntry} {clock : Nat} {M : List (ByteArray × Value)} (hb : w.heap[m]? = some (.map es clock)) (hm : mapsTo M es.toList) (hst : MapKept.Stamped es clock)
    (hl : M.length ≤ 1000000000) (hs : ∀ x ∈ M, x.1.size ≤ maxLen) :
    ∃ D : DataW Unit, w.ownsMap P kt noR m M.length D ∧ Maps.size D = M.length ∧ (strKeys D).Perm (M.map fun x => x.1.data.toList) := by
  have hlen : es.toList.length = M.length := by
    have := congrArg List.length hm
    simpa using this
  have hkey : ∀ x ∈ es.toList, ∃ a, (∃ v, (a, v) ∈ M) ∧ x.key = .string a := fun x hx => by
    have h1 : (x.key, x.val) ∈ es.toList.map (fun e => (e.key, e.val)) := List.mem_map.2 ⟨x, hx, rfl⟩
    rw [hm] at h1
    obtain ⟨y, hy, e⟩ := List.mem_map.1 h1
    exact ⟨y.1, ⟨y.2, hy⟩, by have := congrArg Prod.fst e; exact this.symm⟩
  have hrg : ∀ x ∈ es.toList, rd P kt noR x = some (.string (strB x.key), .nil) := fun x hx => by
    obtain ⟨a, ⟨v, hv⟩, e⟩ := hkey x hx
    simp only [rd, e, WideMaps.keyOf_string_mk hk (hs _ hv), noR, strB]
    rfl
  have hperm := inserts_perm (es.toList.map (rg P kt noR))
  have hkeys : es.toList.map (fun x => strB x.key) = M.map fun x => x.1.data.toList := by
    have := congrArg (List.map fun y : Value × Value => strB y.1) hm
    simpa [List.map_map, Function.comp_def, MapKey.v, strB] using this
  refine ⟨_, ⟨es, clock, hb, ⟨?_, hst, fun x hx => ⟨_, hrg x hx⟩⟩, ?_, rfl⟩, ?_, ?_⟩
  · have : es.size = M.length := by simpa using hlen
    rw [this]; unfold maxLen; omega
  · have : es.size = M.length := by simpa using hlen
    omega
  · show (List.foldr DataW.insert [] (es.toList.map (rg P kt noR))).length = _
    rw [hperm.length_eq, List.length_map, hlen]
  · show ((List.foldr DataW.insert [] (es.toList.map (rg P kt noR))).map fun p => strOf p.1).Perm _
    refine (hperm.map _).trans ?_
    rw [← hkeys, List.map_map]
    refine .of_eq (List.map_congr_left fun x hx => ?_)
    simp only [Function.comp_def, rg, hrg x hx, Option.getD_some, strOf]
theorem Holds.laterNew {Γ : Ctx} {L : List Chunk} {w w' : World} {g : Nat} {o : Obj} (hh : Holds Γ L w) (hB : Go.RowKit.Below w.heap.size w w') (hg : w.heap.size ≤ g) (ho : w'.heap[g]? = some o) : Holds Γ (.pt g o :: L) w' := by
  have h2 := hh.later hB.os hB.tape hB.output hB.size (fun c hc => hB.block c hc)
  obtain ⟨h, d, s, a⟩ := hh.own
  have hno : ∀ {k : HP}, HP.sub k (wheap w) → k g = none := fun {k} hk => by
    cases hx : k g with
    | none => rfl
    | some x =>
      have : w.heap[g]? = some x := hk _ _ hx
      have := (Array.getElem?_eq_some_iff.1 this).1
      omega
  have hsub : ∀ {k : HP}, HP.sub k (wheap w) → HP.sub k (wheap w') := fun {k} hk c x hx => by
    have h1 : w.heap[c]? = some x := hk c x hx
    have h2 : c < w.heap.size := (Array.getElem?_eq_some_iff.1 h1).1
    show w'.heap[c]? = some x
    rw [hB.block c h2]; exact h1
  refine ⟨h2.os, h2.tape, h2.output, h2.frz, h2.frame, HP.union (HP.one g o) h, ?_, HP.union_sub ?_ (hsub s), HP.one g o, h, ?_, HP.sub_union_left _ _, HP.sub_union_right ?_, ?_, a⟩
  · intro c
    by_cases e : c = g
    · left; rw [e]; exact hno hh.frame
    · rcases d c with p | p
      · exact .inl p
      · right; simp [HP.union, HP.one, e, p]
  · intro c x hx
    by_cases e : c = g
    · subst e; simp [HP.one] at hx; subst hx; exact ho
    · simp [HP.one, e] at hx
  · intro c
    by_cases e : c = g
    · right; rw [e]; exact hno s
    · left; simp [HP.one, e]
  · intro c
    by_cases e : c = g
    · right; rw [e]; exact hno s
    · left; simp [HP.one, e]
  · simp [Chunk.sat, HP.one]
/-- A row that is new: it is one's own. -/
theorem Holds.ownRowNew {Γ : Ctx} {L : List Chunk} {w w' : World} {e : TypeId} {n : Nat} {v : Value} {xs : List Value} (hh : Holds Γ L w) (hB : Go.RowKit.Below w.heap.size w w') (hr : w'.ownsRow w.heap.size e 1 v n xs) (ho : xs.all (·.oneCell') = true) :
    ∃ p c, v = .slice p n c ∧ xs.length = n ∧ Holds Γ (.own p n c 1 xs e :: L) w' := by
  obtain ⟨hl, ⟨rfl, rfl⟩ | ⟨g, cap, cur, rfl, hg, hcur, hn, hm, hsz, htk⟩⟩ := hr
  · obtain rfl : xs = [] := List.eq_nil_of_length_eq_zero (by omega)
    refine ⟨none, 0, rfl, rfl, ?_⟩
    have h2 := hh.later hB.os hB.tape hB.output hB.size (fun c hc => hB.block c hc)
    exact h2.mono fun h al => ⟨fun _ => none, h, fun _ => .inl rfl, (fun _ _ q => by cases q), HP.sub.refl _, ⟨⟨rfl, rfl⟩, .inl ⟨rfl, rfl⟩⟩, al⟩
  · refine ⟨some ⟨g, 0, none⟩, cap, rfl, by omega, ?_⟩
    have h2 := hh.laterNew hB hg hcur
    refine h2.mono fun h ⟨h1, h2, dj, s1, s2, hc, hr⟩ => ⟨h1, h2, dj, s1, s2, ⟨⟨hl, ho⟩, .inr ⟨g, cur.toList.drop n, rfl, ?_, hn, ?_⟩⟩, hr⟩
    · simp; omega
    · have hc' : h1 g = some (.cells cur e (0, 0)) := hc
      rw [hc', ← htk, Nat.mul_one, List.take_append_drop]
structure SkX where
  p : Option Addr
  c : Nat
  ys : List ByteArray
def ltB (a b : ByteArray) : Bool := Op.bytesLess a.toList b.toList
theorem does_sortedS {P : Program} {f g : FuncId} {Bm m : Nat} {T kt : TypeId} {M : List (ByteArray × Value)} (hk : P.underlying kt = some .string) (hl : M.length ≤ 1000000000) (hs : ∀ x ∈ M, x.1.size ≤ maxLen)
    (hC : ∀ (w : World) (b nn : Nat) (D0 : DataW Unit), w.cell? ⟨Bm, 0, none⟩ = some (.map (some b)) → Bm < w.heap.size → w.ownsMap P kt noR b nn D0 → Maps.size D0 ≤ maxLen → Maps.size D0 * 16 ≤ 140737488355328 →
      Calls P f #[.func (.func g) #[] #[.pointer (some ⟨Bm, 0, none⟩)]] w fun e w' => ∃ (v : Value) (ss : List (List UInt8)), e = .returned v ∧ ss.Perm (strKeys D0) ∧ w'.ownsRow w.heap.size kt 1 v ss.length ((ss.mergeSort fun x y => decide (x ≤ y)).map Go.Proofs.encStr) ∧ (v = .slice none 0 0 ↔ ss = []) ∧ Go.RowKit.Below w.heap.size w w') :
    Does P f [.func (.func g) #[] #[.pointer (some ⟨Bm, 0, none⟩)]] [.row Bm [.map (some m)] T, .map m M] (X := SkX) (fun x => .slice x.p x.ys.length x.c) (fun x => [.own x.p x.ys.length x.c 1 (x.ys.map .string) kt, .row Bm [.map (some m)] T, .map m M])
      (fun x => x.ys.Perm (M.map (·.1)) ∧ x.ys.Pairwise fun a b => ltB a b = true) := fun Γ w hh => by
  have hB := hh.block .here
  have hlt := (Array.getElem?_eq_some_iff.1 hB).1
  obtain ⟨es, clock, hb, hm, hst, _⟩ := hh.mapAt (.there .here)
  obtain ⟨D, h1, h2, h3⟩ := owns_of hk hb hm hst hl hs
  refine (hC w m M.length D (by simp [World.cell?, hB]) hlt h1 (by rw [h2]; unfold maxLen; omega) (by rw [h2]; omega)).mono ?_
  rintro e w' ⟨v, ss, rfl, hp, hr, _, hBl⟩
  obtain ⟨zs, hz⟩ : ∃ zs, zs = ss.mergeSort fun x y => decide (x ≤ y) := ⟨_, rfl⟩
  have hzp : zs.Perm ss := by rw [hz]; exact List.mergeSort_perm _ _
  have hzs : zs.Pairwise fun x y => decide (x ≤ y) = true := by
    rw [hz]
    exact List.pairwise_mergeSort (fun a b c h1 h2 => by simp only [decide_eq_true_eq] at *; exact List.le_trans h1 h2) (fun a b => by simp only [Bool.or_eq_true, decide_eq_true_eq]; exact List.le_total a b) ss
  rw [← hz] at hr
  have hone : (zs.map Go.Proofs.encStr).all (·.oneCell') = true := by
    rw [List.all_eq_true]
    intro v hv
    obtain ⟨z, _, rfl⟩ := List.mem_map.1 hv
    rfl
  obtain ⟨p, c, rfl, hlen, hH⟩ := hh.ownRowNew hBl hr hone
  have hnd := stamped_nodup hm hst.2.2
  have hall : zs.Perm (M.map fun x => x.1.data.toList) := (hzp.trans hp).trans h3
  have hinj : ∀ a b : ByteArray, a.data.toList = b.data.toList → a = b := fun a b e => ByteArray.ext (Array.ext' e)
  have hznd : zs.Nodup := by
    refine hall.nodup_iff.2 ?_
    rw [show (M.map fun x => x.1.data.toList) = (M.map (·.1)).map fun a => a.data.toList by simp [List.map_map, Function.comp_def]]
    exact List.pairwise_map.2 (hnd.imp fun hne e => hne (hinj _ _ e))
  refine ⟨⟨p, c, zs.map fun z => ⟨z.toArray⟩⟩, ⟨?_, ?_⟩, ?_, ?_⟩
  · have := hall.map fun z : List UInt8 => (⟨z.toArray⟩ : ByteArray)
    refine this.trans (.of_eq ?_)
    rw [List.map_map]
    exact List.map_congr_left fun x _ => by simp
  · refine List.pairwise_map.2 ((hzs.and hznd).imp fun {a b} h => ?_)
    obtain ⟨h4, h5⟩ := h
    simp only [decide_eq_true_eq] at h4
    unfold ltB
    rw [Go.Proofs.bytesLess_eq, decide_eq_true_eq, ByteArray.toList_eq, ByteArray.toList_eq]
    simp only [List.toList_toArray]
    exact Std.lt_of_le_of_ne h4 h5
  · simp only [List.length_map]
    congr 1
    rw [← hlen]; simp
  · have e1 : (zs.map fun z => (⟨z.toArray⟩ : ByteArray)).map Value.string = zs.map Go.Proofs.encStr := by
      rw [List.map_map]; rfl
    have e2 : (zs.map fun z => (⟨z.toArray⟩ : ByteArray)).length = ss.length := by rw [List.length_map, ← hlen, List.length_map]
    dsimp only
    rw [e1, e2]
    exact hH
end Go.Sl
