/- What slices.Sorted(maps.Keys(m)) does, out of the shelf's contract: ints. -/
import Derived.Test.YtfachckbjmofgaaKeyS
import Derived.Lib.SlKeysI
set_option linter.unusedSimpArgs false
set_option linter.unusedVariables false
namespace Go.Sl
open Go.WideElems (Fit rd rg)
def intB : Value → Int
  | .int _ a => a
  | _ => 0
theorem wf_inI {a : Int} (h : inI a) : (Lit.int .i64 a).wf = true := by
  obtain ⟨h1, h2⟩ := h
  simp only [Lit.wf, Bool.and_eq_true, decide_eq_true_eq]
  have e1 : IntKind.i64.min = -9223372036854775808 := by decide
  have e2 : IntKind.i64.max = 9223372036854775807 := by decide
  rw [e1, e2]
  exact ⟨h1, h2⟩
theorem owns_ofI {P : Program} {kt : TypeId} (hk : P.underlying kt = some (.int .i64)) {w : World} {m : Nat} {es : Array MapEntry} {clock : Nat} {M : List (Int × Value)} (hb : w.heap[m]? = some (.map es clock)) (hm : mapsTo M es.toList) (hst : MapKept.Stamped es clock)
    (hl : M.length ≤ 1000000000) (hs : ∀ x ∈ M, inI x.1) :
    ∃ D : DataW Unit, w.ownsMap P kt noR m M.length D ∧ Maps.size D = M.length ∧ (intKeys D).Perm (M.map fun x => x.1) := by
  have hlen : es.toList.length = M.length := by
    have := congrArg List.length hm
    simpa using this
  have hkey : ∀ x ∈ es.toList, ∃ a, (∃ v, (a, v) ∈ M) ∧ x.key = .int .i64 a := fun x hx => by
    have h1 : (x.key, x.val) ∈ es.toList.map (fun e => (e.key, e.val)) := List.mem_map.2 ⟨x, hx, rfl⟩
    rw [hm] at h1
    obtain ⟨y, hy, e⟩ := List.mem_map.1 h1
    exact ⟨y.1, ⟨y.2, hy⟩, by have := congrArg Prod.fst e; exact this.symm⟩
  have hrg : ∀ x ∈ es.toList, rd P kt noR x = some (.int .i64 (intB x.key), .nil) := fun x hx => by
    obtain ⟨a, ⟨v, hv⟩, e⟩ := hkey x hx
    simp only [rd, e, Maps.keyOf_int_mk hk (wf_inI (hs _ hv)), noR, intB]
    rfl
  have hperm := inserts_perm (es.toList.map (rg P kt noR))
  have hkeys : es.toList.map (fun x => intB x.key) = M.map fun x => x.1 := by
    have := congrArg (List.map fun y : Value × Value => intB y.1) hm
    simpa [List.map_map, Function.comp_def, MapKey.v, intB] using this
  refine ⟨_, ⟨es, clock, hb, ⟨?_, hst, fun x hx => ⟨_, hrg x hx⟩⟩, ?_, rfl⟩, ?_, ?_⟩
  · have : es.size = M.length := by simpa using hlen
    rw [this]; unfold maxLen; omega
  · have : es.size = M.length := by simpa using hlen
    omega
  · show (List.foldr DataW.insert [] (es.toList.map (rg P kt noR))).length = _
    rw [hperm.length_eq, List.length_map, hlen]
  · show ((List.foldr DataW.insert [] (es.toList.map (rg P kt noR))).map fun p => intOf p.1).Perm _
    refine (hperm.map _).trans ?_
    rw [← hkeys, List.map_map]
    refine .of_eq (List.map_congr_left fun x hx => ?_)
    simp only [Function.comp_def, rg, hrg x hx, Option.getD_some, intOf]
structure SiX where
  p : Option Addr
  c : Nat
  ys : List Int
theorem does_sortedI {P : Program} {f g : FuncId} {Bm m : Nat} {T kt : TypeId} {M : List (Int × Value)} (hk : P.underlying kt = some (.int .i64)) (hl : M.length ≤ 1000000000) (hs : ∀ x ∈ M, inI x.1)
    (hC : ∀ (w : World) (b nn : Nat) (D0 : DataW Unit), w.cell? ⟨Bm, 0, none⟩ = some (.map (some b)) → Bm < w.heap.size → w.ownsMap P kt noR b nn D0 → Maps.size D0 ≤ maxLen → Maps.size D0 * 8 ≤ 140737488355328 →
      Calls P f #[.func (.func g) #[] #[.pointer (some ⟨Bm, 0, none⟩)]] w fun e w' => ∃ (v : Value) (ss : List Int), e = .returned v ∧ ss.Perm (intKeys D0) ∧ w'.ownsRow w.heap.size kt 1 v ss.length ((ss.mergeSort fun x y => decide (x ≤ y)).map encZ) ∧ (v = .slice none 0 0 ↔ ss = []) ∧ Go.RowKit.Below w.heap.size w w') :
    Does P f [.func (.func g) #[] #[.pointer (some ⟨Bm, 0, none⟩)]] [.row Bm [.map (some m)] T, .map m M] (X := SiX) (fun x => .slice x.p x.ys.length x.c) (fun x => [.own x.p x.ys.length x.c 1 (x.ys.map (.int .i64 ·)) kt, .row Bm [.map (some m)] T, .map m M])
      (fun x => x.ys.Perm (M.map (·.1)) ∧ x.ys.Pairwise fun a b => a < b) := fun Γ w hh => by
  have hB := hh.block .here
  have hlt := (Array.getElem?_eq_some_iff.1 hB).1
  obtain ⟨es, clock, hb, hm, hst, _⟩ := hh.mapAt (.there .here)
  obtain ⟨D, h1, h2, h3⟩ := owns_ofI hk hb hm hst hl hs
  refine (hC w m M.length D (by simp [World.cell?, hB]) hlt h1 (by rw [h2]; unfold maxLen; omega) (by rw [h2]; omega)).mono ?_
  rintro e w' ⟨v, ss, rfl, hp, hr, _, hBl⟩
  obtain ⟨zs, hz⟩ : ∃ zs, zs = ss.mergeSort fun x y => decide (x ≤ y) := ⟨_, rfl⟩
  have hzp : zs.Perm ss := by rw [hz]; exact List.mergeSort_perm _ _
  have hzs : zs.Pairwise fun x y => decide (x ≤ y) = true := by
    rw [hz]
    exact List.pairwise_mergeSort (fun a b c h1 h2 => by simp only [decide_eq_true_eq] at *; exact Int.le_trans h1 h2) (fun a b => by simp only [Bool.or_eq_true, decide_eq_true_eq]; exact Int.le_total a b) ss
  rw [← hz] at hr
  have hone : (zs.map encZ).all (·.oneCell') = true := by
    rw [List.all_eq_true]
    intro v hv
    obtain ⟨z, _, rfl⟩ := List.mem_map.1 hv
    rfl
  obtain ⟨p, c, rfl, hlen, hH⟩ := hh.ownRowNew hBl hr hone
  have hnd := stamped_nodup hm hst.2.2
  have hall : zs.Perm (M.map fun x => x.1) := (hzp.trans hp).trans h3
  have hznd : zs.Nodup := hall.nodup_iff.2 hnd
  have hzl : zs.length = ss.length := hzp.length_eq
  refine ⟨⟨p, c, zs⟩, ⟨hall, (hzs.and hznd).imp fun {a b} h => ?_⟩, ?_, ?_⟩
  · obtain ⟨h4, h5⟩ := h
    simp only [decide_eq_true_eq] at h4
    omega
  · simp only [hzl]
  · dsimp only
    rw [hzl]
    exact hH
end Go.Sl
