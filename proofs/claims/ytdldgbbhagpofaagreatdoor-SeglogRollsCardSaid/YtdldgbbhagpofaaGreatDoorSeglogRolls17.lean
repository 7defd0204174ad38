/- Contracts and laws that the proof stands on. -/
import Derived.Test.YtdldgbbhagpofaaGreatDoorSeglogRolls16
import Derived.Test.YtdldgbbhagpofaaGreatDoorRows
import Derived.LaidLaws
import Derived.LaidMore
import Derived.OpenShut
import Derived.Stop.Joined
import Derived.Stop.LaidErr
set_option linter.unusedSimpArgs false
set_option linter.unusedVariables false
namespace Go.Proofs.YtdldgbbhagpofaaGreatDoor
open Go.Sl facts
def paB (a : PA) : Nat := (if a.fresh then 18 else 0) + sumL a.l + 8 * a.l.length
def paS (l : List PA) : Nat := (l.map paB).sum
theorem sumL_snoc (l : List BV) (r : BV) : sumL (l ++ [r]) = sumL l + r.l.length := by unfold sumL; simp
theorem addLast_mem (r : BV) : ∀ (l : List PA) (z : PA), z ∈ addLast r l → z ∈ l ∨ ∃ a ∈ l, z = { a with l := a.l ++ [r] }
  | [], z, h => by simp [addLast] at h
  | [a], z, h => by
    simp only [addLast, List.mem_singleton] at h
    exact .inr ⟨a, by simp, h⟩
  | a :: b :: t, z, h => by
    simp only [addLast, List.mem_cons] at h
    rcases h with h | h
    · exact .inl (by simp [h])
    · rcases addLast_mem r (b :: t) z h with h | ⟨c, hc, e⟩
      · exact .inl (List.mem_cons_of_mem _ h)
      · exact .inr ⟨c, List.mem_cons_of_mem _ hc, e⟩
theorem addLast_len (r : BV) : ∀ l : List PA, (addLast r l).length = l.length
  | [] => rfl
  | [a] => rfl
  | a :: b :: t => by
    have := addLast_len r (b :: t)
    simp only [addLast, List.length_cons] at this ⊢
    omega
theorem addLast_paS (r : BV) : ∀ l : List PA, paS (addLast r l) ≤ paS l + r.l.length + 8
  | [] => by simp [addLast, paS]
  | [a] => by
    have := sumL_snoc a.l r
    simp only [addLast, paS, paB, List.map_cons, List.map_nil, List.sum_cons, List.sum_nil, List.length_append, List.length_cons, List.length_nil, this]
    omega
  | a :: b :: t => by
    have := addLast_paS r (b :: t)
    simp only [addLast, paS, List.map_cons, List.sum_cons] at this ⊢
    omega
structure PI (segs f0 size0 i : Nat) (pre : List BV) (s : St) : Prop where
  file : ∀ z ∈ s.out, z.file < s.next
  fst : ∀ z ∈ s.out, z.first ≤ f0 + i
  mem : ∀ z ∈ s.out, ∀ r ∈ z.l, r ∈ pre
  pl : ∀ z ∈ s.out, z.l.length ≤ i
  next : s.next ≤ segs + i
  len : s.out.length ≤ i + 1
  byt : paS s.out ≤ sumL pre + 26 * i
  size : s.size ≤ size0 + sumL pre
theorem PI.step {segs f0 size0 i : Nat} {pre : List BV} {s : St} (h : PI segs f0 size0 i pre s) (r : BV) : PI segs f0 size0 (i + 1) (pre ++ [r]) (St.step f0 i r s) := by
  have hn := h.next
  have hl := h.len
  have hb := h.byt
  have hz := h.size
  have hs := sumL_snoc pre r
  unfold St.step
  split
  · refine ⟨fun z hz => ?_, fun z hz => ?_, fun z hz q hq => ?_, fun z hz => ?_, ?_, ?_, ?_, ?_⟩
    · rcases List.mem_append.1 hz with h1 | h1
      · have := h.file z h1; show z.file < s.next + 1; omega
      · rw [List.mem_singleton.1 h1]; exact Nat.lt_succ_self _
    · rcases List.mem_append.1 hz with h1 | h1
      · have := h.fst z h1; omega
      · rw [List.mem_singleton.1 h1]; exact Nat.le_succ _
    · rcases List.mem_append.1 hz with h1 | h1
      · exact List.mem_append_left _ (h.mem z h1 q hq)
      · rw [List.mem_singleton.1 h1] at hq; exact List.mem_append_right _ hq
    · rcases List.mem_append.1 hz with h1 | h1
      · have := h.pl z h1; omega
      · rw [List.mem_singleton.1 h1]; simp
    · show s.next + 1 ≤ _; omega
    · rw [List.length_append]; simp; omega
    · have e : paS (s.out ++ [⟨s.next, f0 + i, true, [r]⟩]) = paS s.out + (18 + r.l.length + 8) := by unfold paS; simp [paB, sumL]
      rw [e]; omega
    · show r.l.length ≤ _; omega
  · refine ⟨fun z hz => ?_, fun z hz => ?_, fun z hz q hq => ?_, fun z hz => ?_, ?_, ?_, ?_, ?_⟩
    · rcases addLast_mem r _ z hz with h1 | ⟨a, h1, rfl⟩
      · exact h.file z h1
      · exact h.file a h1
    · rcases addLast_mem r _ z hz with h1 | ⟨a, h1, rfl⟩
      · have := h.fst z h1; omega
      · have := h.fst a h1; show a.first ≤ _; omega
    · rcases addLast_mem r _ z hz with h1 | ⟨a, h1, rfl⟩
      · exact List.mem_append_left _ (h.mem z h1 q hq)
      · rcases List.mem_append.1 hq with h2 | h2
        · exact List.mem_append_left _ (h.mem a h1 q h2)
        · exact List.mem_append_right _ h2
    · rcases addLast_mem r _ z hz with h1 | ⟨a, h1, rfl⟩
      · have := h.pl z h1; omega
      · have := h.pl a h1; show (a.l ++ [r]).length ≤ _; rw [List.length_append]; simp; omega
    · show s.next ≤ _; omega
    · show (addLast r s.out).length ≤ _; rw [addLast_len]; omega
    · have := addLast_paS r s.out; show paS (addLast r s.out) ≤ _; omega
    · show s.size + r.l.length ≤ _; omega
theorem PI.go {segs f0 size0 : Nat} : ∀ (t : List BV) {i : Nat} {pre : List BV} {s : St}, PI segs f0 size0 i pre s → PI segs f0 size0 (i + t.length) (pre ++ t) (pgo f0 i t s)
  | [], i, pre, s, h => by simpa [pgo] using h
  | r :: t, i, pre, s, h => by
    have := PI.go t (h.step r)
    simp only [pgo, List.length_cons]
    rw [show i + (t.length + 1) = i + 1 + t.length by omega, show pre ++ r :: t = (pre ++ [r]) ++ t by simp]
    exact this
theorem PI.start (segs size : Nat) (sl : Bool) (f0 : Nat) : PI segs f0 size 0 [] (st0 segs size sl f0) := by
  unfold st0
  split
  · rename_i hc
    refine ⟨fun z hz => ?_, fun z hz => ?_, fun z hz q hq => ?_, fun z hz => ?_, by simp, by simp, by simp [paS, paB, sumL], by simp [sumL]⟩ <;> (rw [List.mem_singleton.1 hz] at *)
    · show segs - 1 < segs; omega
    · exact Nat.le_refl _
    · simp at hq
    · exact Nat.le_refl _
  · exact ⟨by simp, by simp, by simp, by simp, by simp, by simp, by simp [paS], by simp [sumL]⟩
theorem pok (segs size : Nat) (sl : Bool) (f0 : Nat) (rs : List BV) (h1 : segs + rs.length ≤ 100) (h2 : f0 ≤ 100000000) (h3 : size + sumL rs ≤ 1000000000) : POk rs (partsL segs size sl f0 rs) (sumL rs + 26 * rs.length) := by
  have h := PI.go rs (PI.start segs size sl f0)
  simp only [Nat.zero_add, List.nil_append] at h
  show POk rs (pgo f0 0 rs (st0 segs size sl f0)) _
  generalize pgo f0 0 rs (st0 segs size sl f0) = s at h
  have hn := h.next
  have hz := h.size
  refine ⟨fun z hz => ⟨?_, ?_⟩, h.mem, by have := h.len; omega, fun z hz => by have := h.pl z hz; omega, by omega, fun ps hps => ?_⟩
  · have := h.file z hz; omega
  · have := h.fst z hz; omega
  · have hb := h.byt
    have hle : pbytes ps ≤ paS s.out := by
      rw [← hps]
      have hf : ∀ z ∈ ps, z.first ≤ 1000000000 := fun z hz => by
        have := h.fst z.a (by rw [← hps]; exact List.mem_map.2 ⟨z, hz, rfl⟩)
        dsimp only [PV.a] at this
        omega
      clear hps hb
      induction ps with
      | nil => simp [pbytes, paS]
      | cons z ps ih =>
        have ih' := ih (fun y hy => hf y (List.mem_cons_of_mem _ hy))
        have hz1 := hf z (by simp)
        have hv := vb_len10 z.first (by omega)
        have e1 : (partB z).length ≤ paB z.a := by
          unfold partB paB
          rw [List.length_append, recB_len]
          cases hfr : z.fresh <;> simp [PV.a, hfr, frameB_len] <;> omega
        unfold pbytes paS at *
        simp only [List.map_cons, List.sum_cons] at ih' ⊢
        omega
    omega
end Go.Proofs.YtdldgbbhagpofaaGreatDoor

namespace Go.Sl
variable {Γ : Ctx} {L R : List Chunk} {N : Nat} {fr : Fr} {φ : Act → World → Prop}
theorem g_pileN (g : G Γ N fr (Pile (fun _ => none) :: L) φ) : G Γ N fr L φ := fun a w hN hd hf hh => g a w hN hd hf (hh.mono fun h al => ⟨fun _ => none, h, fun _ => .inl rfl, (fun _ _ q => by cases q), HP.sub.refl _, rfl, al⟩)
theorem g_pileC {c : Chunk} {H : HP} {R1 : List Chunk} (s1 : Sel L c R1) (s2 : Sel R1 (Pile H) R)
    (g : ∀ H', HP.sub H H' → (∀ p v, Reads c p v → Reads (Pile H') p v) → G Γ N fr (Pile H' :: R) φ) : G Γ N fr L φ := fun a w hN hd hf hh => by
  have hs := hh.take (Take.cons s1 (Take.cons s2 .nil))
  obtain ⟨hp, hdj, hsub, h1, r1, dj1, a1, a2, hc1, h2, r2, dj2, b1, b2, hc2, hr⟩ := hs.own
  have hH : h2 = H := hc2
  subst hH
  have hd12 : HP.disj h1 h2 := (HP.disj_sub dj1.symm b1).symm
  have hd1r : HP.disj h1 r2 := (HP.disj_sub dj1.symm b2).symm
  refine g (HP.union h1 h2) (HP.sub_union_right hd12) (fun p v hrd h' hc' => ?_) a w hN hd hf ⟨hs.os, hs.tape, hs.output, hs.frz, hs.frame, hp, hdj, hsub, HP.union h1 h2, r2, HP.disj_union hd1r dj2, HP.union_sub a1 (b1.trans a2), b2.trans a2, rfl, hr⟩
  have hc'' : h' = HP.union h1 h2 := hc'
  subst hc''
  obtain ⟨xs, e, fz, h3, h4, h5⟩ := hrd h1 hc1
  exact ⟨xs, e, fz, HP.sub_union_left _ _ _ _ h3, h4, h5⟩
theorem vs_bytesAt {P : Program} {d : Nat} {ty : TypeId} {pos : String} {aft : Array Edge} {gd : Option (Nat × Bool)} {x : Operand} {t t2 : TypeId} {C : Chunk} {p : Option Addr} {cap : Nat} {l : List UInt8} {e : TypeId} (D : TDesc P t (.slice e)) (E : TDesc P e (.int .u8)) (D2 : TDesc P t2 .string) (hx : ev fr x = some (.slice p l.length cap)) (s : Sel L C R) (h : BtAt C p l) (hl : 0 < l.length) :
    VStep P Γ fr L ⟨some d, .convert t t2 x, ty, pos, aft, gd⟩ (.string ⟨l.toArray⟩) :=
  vs_of (fun a w hf hh => by
    obtain ⟨b, o, rfl, _⟩ := h 0 hl
    have := run_convert_bytes_back (P := P) w t t2 e ⟨b, o, none⟩ cap l D.desc E.desc D2.desc (fun j hj => by
      obtain ⟨b', o', e1, hr⟩ := h j hj
      cases e1
      rw [Addr.add_lit]
      exact hh.cell s (by simpa [List.getD_eq_getElem?_getD, List.getElem?_eq_getElem hj] using hr))
    simp only [execOp, hf.ev hx, Sem.run_bind, this]
    rfl)
end Go.Sl
namespace Go.Proofs.YtdldgbbhagpofaaGreatDoor
open Go.Sl facts
attribute [local irreducible] Code.wp wpList Exit.then Exit.inBlock bodyPost Back MidQ G GP QStep VStep CStep SStep Does Post Reads
attribute [local irreducible] Begin RPost MPost frameB recB partB pbytes
theorem awake_ : Does1 Tryz.prog 8 [] [] (.bool true) := by
  refine fn_intro Tryz.func8 rfl Tryz.ntmps8 rfl (by simp only [argFr, Nat.zero_add, Nat.reduceAdd]; rfl) (fun Γ => ?_)
  repeat (first
    | (refine g_ops ?_; first | refine sO ?_ | refine s_bl (fun _ => ?_) | refine s_n (fun _ => ?_) | refine s_appB (fun _ _ => ?_) | refine s_app (fun _ _ => ?_) | refine s_b0 (fun _ => ?_) | ((fail_if_success refine g_lit rfl rfl rfl ?_); first | apply g_partM rfl rfl rfl | apply g_partMB rfl rfl rfl | fail) | refine s_c (fresh0) (fun _ _ => ?_))
    | refine gS ?_ | exact s_m | intro _)
  rename_i y _ ba bb bl
  obtain ⟨d, lg⟩ := y
  dsimp only [List.cons_append, List.nil_append, List.append_nil]
  refine g_pileN ?_
  refine g_pileC (c := .row ba [.int .u8 97] 5 (1, 2)) (by (repeat (first | exact Sel.here | apply Sel.there)); first | done | fail) (by (repeat (first | exact Sel.here | apply Sel.there)); first | done | fail) (fun H1 h1 hr1 => ?_)
  refine g_pileC (c := .row bb [.int .u8 98] 5 (1, 2)) (by (repeat (first | exact Sel.here | apply Sel.there)); first | done | fail) (by (repeat (first | exact Sel.here | apply Sel.there)); first | done | fail) (fun H2 h2 hr2 => ?_)
  refine g_toOwn (b := bl) (len := 2) (n := 1) (xs := [.slice (some ⟨ba, 0, none⟩) 1 1, .slice (some ⟨bb, 0, none⟩) 1 1]) (e := 28) (by (repeat (first | exact Sel.here | apply Sel.there)); first | done | fail) rfl rfl ?_
  refine g_pile (p := some ⟨bl, 0, none⟩) (m := 2) (c := 2) (n := 1) (xs := [.slice (some ⟨ba, 0, none⟩) 1 1, .slice (some ⟨bb, 0, none⟩) 1 1]) (e := 28) (by (repeat (first | exact Sel.here | apply Sel.there)); first | done | fail) (by (repeat (first | exact Sel.here | apply Sel.there)); first | done | fail) (fun H3 h3 hA => ?_)
  have hR : RecsAt H3 (some ⟨bl, 0, none⟩) [⟨some ⟨ba, 0, none⟩, [97], 1⟩, ⟨some ⟨bb, 0, none⟩, [98], 1⟩] := by
    refine ⟨hA, fun r hr => ?_⟩
    rcases List.mem_cons.1 hr with rfl | hr
    · intro j hj
      obtain rfl : j = 0 := by simp at hj; exact hj
      exact ⟨ba, 0, rfl, reads_grow (h2.trans h3) (hr1 _ _ (reads_row rfl))⟩
    · rw [List.mem_singleton.1 hr]
      intro j hj
      obtain rfl : j = 0 := by simp at hj; exact hj
      exact ⟨bb, 0, rfl, reads_grow h3 (hr2 _ _ (reads_row rfl))⟩
  have hap := append_ (H := H3) lg d lg0 1048576 none 0 0 (by decide) [] (by simp [SortF]) (by simp) (by decide) (by decide) (some ⟨bl, 0, none⟩) 2 [⟨some ⟨ba, 0, none⟩, [97], 1⟩, ⟨some ⟨bb, 0, none⟩, [98], 1⟩] hR (by simp) (by simp) (fun r hr => by
    rcases List.mem_cons.1 hr with rfl | hr
    · simp
    · rw [List.mem_singleton.1 hr]; simp) (by simp [sumL]) 0 rfl (by decide) (fun r hr => by simp at hr) (by simp) (by simp) _ (by simp [sumL]) (by simp [sumL, used]) (pok 0 0 false 0 _ (by simp) (by decide) (by simp [sumL]))
  dsimp only [List.length_cons, List.length_nil, Nat.zero_add] at hap
  repeat (first
    | (refine g_ops ?_; first | refine sO ?_ | refine s_bl (fun _ => ?_) | refine s_n (fun _ => ?_) | refine s_appB (fun _ _ => ?_) | refine s_app (fun _ _ => ?_) | refine s_b0 (fun _ => ?_) | ((fail_if_success refine g_lit rfl rfl rfl ?_); first | apply g_partM rfl rfl rfl | apply g_partMB rfl rfl rfl | fail) | refine s_c (hap) (fun _ _ => ?_))
    | refine gS ?_ | exact s_m | intro _)
  rename_i z hz
  obtain ⟨x1, ⟨q1, c1, fs1⟩, H4⟩ := z
  have hrc : bts x1.rs = [[97], [98]] := hz.recs
  have hat := hz.at_
  have hln : x1.rs.length = 2 := by have := congrArg List.length hrc; simpa using this
  have hrd := read_ (H := H4) lg d x1 false 1 9 (by omega) hat (by omega) (fun r hr => by
    have : r.l ∈ bts x1.rs := List.mem_map.2 ⟨r, hr, rfl⟩
    rw [hrc] at this
    rcases List.mem_cons.1 this with h | h
    · rw [h]; simp
    · rw [List.mem_singleton.1 h]; simp)
  dsimp only [LG.L, LG.own, List.cons_append, List.nil_append, List.append_nil] at hrd ⊢
  refine g_as 4 (v' := int 0) rfl rfl ?_
  repeat (first
    | (refine g_ops ?_; first | refine sO ?_ | refine s_bl (fun _ => ?_) | refine s_n (fun _ => ?_) | refine s_appB (fun _ _ => ?_) | refine s_app (fun _ _ => ?_) | refine s_b0 (fun _ => ?_) | ((fail_if_success refine g_lit rfl rfl rfl ?_); first | apply g_partM rfl rfl rfl | apply g_partMB rfl rfl rfl | fail) | refine s_c (hrd) (fun _ _ => ?_))
    | refine gS ?_ | exact s_m | intro _)
  rename_i z2 hz2
  obtain ⟨rq2, rc2, ws, H5⟩ := z2
  obtain ⟨g1, g2, g3⟩ := hz2
  dsimp only at g1 g2 g3 ⊢
  have hws : bts ws = [[98]] := by
    rw [g3]
    show ((x1.rs.drop 1).take _).map _ = _
    rw [List.map_take, List.map_drop]
    show (List.drop 1 (bts x1.rs)).take _ = _
    rw [hrc]; rfl
  obtain ⟨w, rfl⟩ : ∃ w, ws = [w] := by
    have := congrArg List.length hws
    match ws, this with
    | [w], _ => exact ⟨w, rfl⟩
  have hwl : w.l = [98] := by simpa using hws
  dsimp only [List.cons_append, List.nil_append, List.length_cons, List.length_nil, Nat.zero_add]
  refine g_own (p := rq2) (len := 1) (cap := rc2) (n := 1) (xs := [w].map BV.v) (e := 28) (by (repeat (first | exact Sel.here | apply Sel.there)); first | done | fail) (fun _ _ hq => ?_)
  obtain ⟨ob, rfl⟩ := hq (by decide)
  refine g_as 45 (v' := .bool true) rfl rfl ?_
  repeat (first
    | (refine g_ops ?_; first | refine sO ?_ | refine s_bl (fun _ => ?_) | refine s_n (fun _ => ?_) | refine s_appB (fun _ _ => ?_) | refine s_app (fun _ _ => ?_) | refine s_b0 (fun _ => ?_) | ((fail_if_success refine g_lit rfl rfl rfl ?_); first | apply g_partM rfl rfl rfl | apply g_partMB rfl rfl rfl | fail))
    | refine gS ?_ | exact s_m | intro _)
  refine g_as 47 (v' := ptr ob) rfl rfl ?_
  have hrow := reads_own (b := ob) (len := 1) (cap := rc2) (n := 1) (e := 28) (xs := [w].map BV.v) (j := 0) (v := w.v) rfl
  have hr : ∀ k, k = 0 → Reads (.own (some ⟨ob, 0, none⟩) 1 rc2 1 ([w].map BV.v) 28) ⟨ob, k, none⟩ w.v := fun k hk => by rw [hk]; exact hrow
  repeat (first
    | (refine g_ops ?_; first | refine sO ?_ | refine s_bl (fun _ => ?_) | refine s_n (fun _ => ?_) | refine s_appB (fun _ _ => ?_) | refine s_app (fun _ _ => ?_) | refine s_b0 (fun _ => ?_) | ((fail_if_success refine g_lit rfl rfl rfl ?_); first | apply g_partM rfl rfl rfl | apply g_partMB rfl rfl rfl | fail))
    | refine gS ?_ | exact s_m | intro _)
  have hbw := g2 w (by simp)
  refine g_v (vs_bytesAt (l := w.l) inferInstance inferInstance inferInstance rfl (by (repeat (first | exact Sel.here | apply Sel.there)); first | done | fail) hbw (by rw [hwl]; decide)) rfl rfl ?_
  rw [hwl]
  repeat (first
    | (refine g_ops ?_; first | refine sO ?_ | refine s_bl (fun _ => ?_) | refine s_n (fun _ => ?_) | refine s_appB (fun _ _ => ?_) | refine s_app (fun _ _ => ?_) | refine s_b0 (fun _ => ?_) | ((fail_if_success refine g_lit rfl rfl rfl ?_); first | apply g_partM rfl rfl rfl | apply g_partMB rfl rfl rfl | fail))
    | refine gS ?_ | exact s_m | intro _)
  exact g_ret () rfl (by (repeat (first | exact RVs.nil | apply RVs.tmp rfl | apply RVs.cellA rfl (by (repeat (first | exact Sel.here | apply Sel.there)); first | done | fail) (by (repeat (first | exact Cut.zero | apply Cut.take | apply Cut.skip)); first | done | fail) | apply RVs.cell1 rfl (by (repeat (first | exact Sel.here | apply Sel.there)); first | done | fail) rfl)); first | done | fail) (by (repeat (first | exact Take.nil | apply Take.cons | exact Sel.here | apply Sel.there)); first | done | fail) (by simp [pack]) trivial
end Go.Proofs.YtdldgbbhagpofaaGreatDoor



namespace Go.Proofs.YtdldgbbhagpofaaGreatDoor
open Go Go.ChangeShapes Go.WideShapes Go.ChangeAt Go.RowKit Go.Sl facts
theorem own : ownKnob Tryz.prog.godebug = none := by kernel_rfl
theorem laidOut : laidOutB Tryz.prog = true := by kernel_rfl
def lst : List (String × DataW Unit) := [("math/bits.deBruijn32tab", Rows.laid_math_bits_deBruijn32tab), ("math/bits.deBruijn64tab", Rows.laid_math_bits_deBruijn64tab), ("internal/strconv.uint64pow10", Rows.laid_internal_strconv_uint64pow10), ("strconv.ErrRange", Rows.laid_strconv_ErrRange), ("strconv.ErrSyntax", Rows.laid_strconv_ErrSyntax)]
noncomputable def doorW (os : Os) : World := World.doorLaid Tryz.prog 400 os
theorem door_met (os : Os) (args : Array Value) : laidMetH Tryz.prog lst ((doorW os).forCall (fun _ _ => 0) ⟨#[], args, []⟩).memory :=
  laidMetH_of_parts3 (fuel := 8) (laidMet_of_run' 8 (by kernel_rfl) (by kernel_rfl)) (by kernel_rfl) (by kernel_rfl)
end Go.Proofs.YtdldgbbhagpofaaGreatDoor


namespace Go.Sl
variable {P : Program} {Γ : Ctx} {L R : List Chunk} {N : Nat} {fr : Fr} {Q : Exit → Act → World → Prop} {ops : Array Oper} {rest : List Oper}
variable {d : Nat} {ty : TypeId} {pos : String} {aft : Array Edge} {gd : Option (Nat × Bool)} {x y : Operand} {v u : Value} {t t2 tx : TypeId}
theorem setCell_rowF {w : World} {b o : Nat} {xs : List Value} {e : TypeId} {fz : Nat × Nat} {v : Value} (hb : w.heap[b]? = some (.cells xs.toArray e fz)) : w.setCell ⟨b, o, none⟩ v = w.setRow b (xs.set o v).toArray := by
  unfold World.setCell World.setRow
  congr 1
  apply Array.ext
  · simp
  · intro i h1 h2
    simp only [Array.getElem_modify]
    split
    · rename_i h
      have h' : b = i := h
      subst h'
      have hlt := (Array.getElem?_eq_some_iff.1 hb).1
      have hv : w.heap[b] = _ := (Array.getElem?_eq_some_iff.1 hb).2
      rw [hv]; simp
    · rfl
def rowS (b : Nat) (xs : List Value) : HP → Prop := fun h => ∃ junk e fz, h b = some (.cells (xs ++ junk).toArray e fz)
theorem reads_rowS {b j : Nat} {xs : List Value} (h : xs[j]? = some v) : Reads (.asn (rowS b xs)) ⟨b, j, none⟩ v := fun hp hc => by
  obtain ⟨junk, e, fz, hb⟩ := hc
  refine ⟨_, _, _, hb, rfl, ?_⟩
  have hj := (List.getElem?_eq_some_iff.1 h).1
  simp only [List.getElem?_toArray]
  rw [List.getElem?_append_left hj]
  exact h
theorem cs_appendStr {e e' len cap k b : Nat} {z : Value} {xs junk : List Value} {fz : Nat × Nat} (D : TDesc P t (.slice e)) (S : TSize P e 1) (Z : TZero P e z) (B : TBytes P e k) (hx : ev fr x = some (.slice (some ⟨b, 0, none⟩) len cap)) (hy : ev fr y = some u)
    (s : Sel L (.row b (xs ++ junk) e' fz) R) (hl : xs.length = len) (hj : (xs ++ junk).length = cap) (hfz : cap ≤ fz.1) (h1 : xs.all (·.oneCell') = true) (src : SrcIs P Γ L 1 tx u 1 [v]) (hzn : z.cells.size = 1) (hb : (len + 1) * k ≤ 140737488355328) (hb2 : len + 1 ≤ 140737488355328) :
    CStep P Γ fr L ⟨some d, .call ⟨.builtin .append, [x, y].toArray, [t, tx].toArray⟩, ty, pos, aft, gd⟩ (X := Nat × Nat) (fun q => .slice (some ⟨q.1, 0, none⟩) (len + 1) q.2) (fun q => .asn (rowS q.1 (xs ++ [v])) :: R) (fun _ => True) :=
  cs_of (fun a w hf hh => by
    have hs2 := hh.sel s
    cases hi : P.info? e with
    | none => have := S.size; simp [hi] at this
    | some i =>
      have hsz : i.size = 1 := by have := S.size; simpa [hi] using this
      have hs : Src P i.size tx u 1 [v] w := by rw [hsz]; exact src w hh
      have hz : i.zero = some z := by have := Z.zero; simpa [hi] using this
      have hk : i.bytes = k := by have := B.bytes; simpa [hi] using this
      subst hk
      have hop : ∀ {w' : World} {q : Value}, (Builtin.append_ #[t, tx] ty #[.slice (some ⟨b, 0, none⟩) len cap, u]).run P w = .ok q w' → (execOp a.eval ⟨some d, .call ⟨.builtin .append, [x, y].toArray, [t, tx].toArray⟩, ty, pos, aft, gd⟩).run P w = .ok (.value q) w' := by
        intro w' q hq
        simp [execOp, resolve, hf.ev hx, hf.ev hy, invoke, builtin_append', hq]
      have hbw : w.heap[b]? = some (.cells (xs ++ junk).toArray e' fz) := hh.block s
      by_cases hroom : len + 1 ≤ cap
      · have hg := run_append_room_src (P := P) w t tx ty e i D.desc hi b 0 len cap u 1 [v] hs hroom (fun j hj' => by
            obtain rfl : j = 0 := by simpa using hj'
            have : len < (xs ++ junk).length := by omega
            rw [hsz, Nat.mul_one, Nat.zero_add, Nat.add_zero]
            simp [World.cell?, hbw, List.getElem?_eq_getElem this]) (fun j hj' => by
            obtain rfl : j = 0 := by simpa using hj'
            rw [hsz, Nat.mul_one, Nat.zero_add, Nat.add_zero]
            simp [World.frozen?, hbw]
            omega)
        rw [hsz, Nat.mul_one, Nat.zero_add] at hg
        have e1 : w.setCells b len [v] = w.setRow b ((xs ++ junk).set len v).toArray := setCell_rowF hbw
        rw [e1] at hg
        refine ⟨(b, cap), _, trivial, hop hg, ?_⟩
        have hset := hh.setRow (ys := (xs ++ junk).set len v) s
        refine hset.mono fun h ⟨k1, k2, dj', t1, t2, hc', hr'⟩ => ⟨k1, k2, dj', t1, t2, ⟨junk.drop 1, e', fz, ?_⟩, hr'⟩
        have hc'' : k1 b = some (.cells ((xs ++ junk).set len v).toArray e' fz) := hc'
        rw [hc'']
        congr 2
        congr 1
        have hjl : 0 < junk.length := by rw [List.length_append] at hj; omega
        cases junk with
        | nil => simp at hjl
        | cons j0 junk => rw [List.set_append_right _ _ (by omega), hl, Nat.sub_self]; simp
      · have hg := run_append_grow_src (P := P) w t tx ty e i z D.desc hi hz (some ⟨b, 0, none⟩) len cap xs (by
          exact run_firstCells_some w.drew i.size len ⟨b, 0, none⟩ len cap xs (by rw [hsz, Nat.mul_one]; exact hl) (fun j v hv => by
            have hj := (List.getElem?_eq_some_iff.1 hv).1
            have : w.drew.heap[b]? = some (.cells (xs ++ junk).toArray e' fz) := hbw
            rw [Addr.add_lit, Nat.zero_add]
            simp only [World.cell?, this, List.getElem?_toArray]
            rw [List.getElem?_append_left hj, hv]
            rfl)) u 1 [v] hs (by omega) (by omega) (growslice_fits (by omega) hb)
        refine ⟨(w.heap.size, grownCap w (len + 1) cap e), _, trivial, hop hg, ?_⟩
        have hnew := (show Holds Γ R w.drew from Holds.drew (hs2.mono fun _ ⟨_, _, _, _, q2, _, qr⟩ => qr.mono q2) _).newRow (e := e) (xs := (xs ++ [v]).toArray ++ Builtin.zeroCells z.cells (grownCap w (len + 1) cap e - (len + 1)))
        refine hnew.mono fun h ⟨k1, k2, dj', t1, t2, hc', hr'⟩ => ⟨k1, k2, dj', t1, t2, ⟨(Builtin.zeroCells z.cells (grownCap w (len + 1) cap e - (len + 1))).toList, e, (0, 0), ?_⟩, hr'⟩
        have hc'' : k1 w.drew.heap.size = some (.cells ((xs ++ [v]).toArray ++ Builtin.zeroCells z.cells (grownCap w (len + 1) cap e - (len + 1))) e (0, 0)) := hc'
        rw [show w.drew.heap.size = w.heap.size from rfl] at hc''
        rw [hc'']
        congr 2
        apply Array.ext'
        simp)
theorem qs_bytesF {C : List Chunk} {k : HP} {R0 : List Chunk} {c : Chunk} {p : Option Addr} {cap : Nat} {l : List UInt8} {e : TypeId} (hd : HP.disj Γ.hf k) (hk : All C k) (D : TDesc P t (.slice e)) (E : TDesc P e (.int .u8)) (D2 : TDesc P t2 .string) (hx : ev fr x = some (.slice p l.length cap)) (s : Sel C c R0) (h : ∀ j, j < l.length → ∃ b o, p = some ⟨b, o, none⟩ ∧ Reads c ⟨b, o + j, none⟩ (.int .u8 ((l.getD j 0).toNat : Int))) (hl : 0 < l.length) :
    QStep P (Γ.add k) fr ⟨some d, .convert t t2 x, ty, pos, aft, gd⟩ (.string ⟨l.toArray⟩) := fun a hf L w hh => by
  obtain ⟨b, o, rfl, _⟩ := h 0 hl
  have hrun := run_convert_bytes_back (P := P) w t t2 e ⟨b, o, none⟩ cap l D.desc E.desc D2.desc (fun j hj => by
    obtain ⟨b', o', e1, hr⟩ := h j hj
    cases e1
    rw [Addr.add_lit]
    exact frozen_cell hk s (by simpa [List.getD_eq_getElem?_getD, List.getElem?_eq_getElem hj] using hr) hh hd)
  unfold opRes
  have : (execOp a.eval (⟨some d, .convert t t2 x, ty, pos, aft, gd⟩ : Oper)).run P w = .ok (.value (.string ⟨l.toArray⟩)) w := by
    simp only [execOp, hf.ev hx, Sem.run_bind, hrun]
    rfl
  rw [this]; exact ⟨rfl, hh⟩
end Go.Sl
namespace Go.Proofs.YtdldgbbhagpofaaGreatDoor
open Go.Sl facts
def letAt (j : Int) (i : Nat) : UInt8 := UInt8.ofNat (97 + lf ((i : Int) * i + j) 26).toNat
def lettersL (n : Nat) (j : Int) : List UInt8 := (List.range n).map (letAt j)
theorem lettersL_len (n : Nat) (j : Int) : (lettersL n j).length = n := by simp [lettersL]
theorem letters_next (n i : Nat) (j : Int) (h : i < n) : (lettersL i j ++ List.replicate (n - i) 0).set i (letAt j i) = lettersL (i + 1) j ++ List.replicate (n - (i + 1)) 0 := by
  have e : n - i = (n - (i + 1)) + 1 := by omega
  rw [e, List.replicate_succ, List.set_append_right _ _ (by rw [lettersL_len]; exact Nat.le_refl _), lettersL_len, Nat.sub_self, List.set_cons_zero]
  simp only [lettersL, List.range_succ, List.map_append, List.map_cons, List.map_nil, List.append_assoc, List.cons_append, List.nil_append]
theorem parts_one (segs z f0 : Nat) (r : BV) : partsL segs z false f0 [r] = if 0 < segs ∧ z < 2000 then ⟨[⟨segs - 1, f0, false, [r]⟩], segs, z + r.l.length, true⟩ else ⟨[⟨segs, f0, true, [r]⟩], segs + 1, r.l.length, true⟩ := by
  by_cases h : 0 < segs ∧ z < 2000
  · have e0 : st0 segs z false f0 = ⟨[⟨segs - 1, f0, false, []⟩], segs, z, true⟩ := by unfold st0; rw [if_pos ⟨h.1, rfl, h.2⟩]
    rw [if_pos h]
    unfold partsL
    rw [e0]
    show pgo f0 1 [] (St.step f0 0 r _) = _
    unfold St.step
    rw [if_neg (by simp; omega)]
    rfl
  · have e0 : st0 segs z false f0 = ⟨[], segs, z, false⟩ := by unfold st0; rw [if_neg (fun h' => h ⟨h'.1, h'.2.2⟩)]
    rw [if_neg h]
    unfold partsL
    rw [e0]
    show pgo f0 1 [] (St.step f0 0 r _) = _
    unfold St.step
    rw [if_pos (.inl rfl)]
    rfl
attribute [local irreducible] Code.wp wpList Exit.then Exit.inBlock bodyPost Back MidQ G GP QStep VStep CStep SStep Does Post Reads
theorem round11 (p n : Int) (h : 0 < n) (hn : n ≤ 1000000000) : Does1 Tryz.prog 15 [int p, int n] [] (int (lf p n)) := by
  have hb := lf_in p n h
  refine fn_intro Tryz.func15 rfl Tryz.ntmps15 rfl (by simp only [argFr, Nat.zero_add, Nat.reduceAdd]; rfl) (fun Γ => ?_)
  repeat (first
    | (refine g_ops ?_; first | refine sO ?_ | refine s_n (fun _ => ?_) | refine s_appB (fun _ _ => ?_) | refine s_app (fun _ _ => ?_) | refine s_b0 (fun _ => ?_) | ((fail_if_success refine g_lit rfl rfl rfl ?_); first | apply g_partM rfl rfl rfl | apply g_partMB rfl rfl rfl | fail))
    | refine gS ?_ | exact s_m | intro _)
  refine s_q (q := by exact qs_rem rfl rfl (by omega)) ?_
  repeat (first
    | (refine g_ops ?_; first | refine sO ?_ | refine s_n (fun _ => ?_) | refine s_appB (fun _ _ => ?_) | refine s_app (fun _ _ => ?_) | refine s_b0 (fun _ => ?_) | ((fail_if_success refine g_lit rfl rfl rfl ?_); first | apply g_partM rfl rfl rfl | apply g_partMB rfl rfl rfl | fail))
    | refine gS ?_ | exact s_m | intro _)
  refine g_cond_dec rfl (fun h2 => ?_) (fun h2 => ?_)
  · have e : lf p n = p.tmod n + n := if_pos h2
    rw [e] at hb
    repeat (first
      | (refine g_ops ?_; first | refine sO ?_ | refine s_n (fun _ => ?_) | refine s_appB (fun _ _ => ?_) | refine s_app (fun _ _ => ?_) | refine s_b0 (fun _ => ?_) | ((fail_if_success refine g_lit rfl rfl rfl ?_); first | apply g_partM rfl rfl rfl | apply g_partMB rfl rfl rfl | fail))
      | refine gS ?_ | exact s_m | intro _)
    exact g_ret () rfl (by (repeat (first | exact RVs.nil | apply RVs.tmp rfl | apply RVs.cellA rfl (by (repeat (first | exact Sel.here | apply Sel.there)); first | done | fail) (by (repeat (first | exact Cut.zero | apply Cut.take | apply Cut.skip)); first | done | fail) | apply RVs.cell1 rfl (by (repeat (first | exact Sel.here | apply Sel.there)); first | done | fail) rfl)); first | done | fail) (by (repeat (first | exact Take.nil | apply Take.cons | exact Sel.here | apply Sel.there)); first | done | fail) (by simp [pack, e]) trivial
  · have e : lf p n = p.tmod n := if_neg h2
    repeat (first
      | (refine g_ops ?_; first | refine sO ?_ | refine s_n (fun _ => ?_) | refine s_appB (fun _ _ => ?_) | refine s_app (fun _ _ => ?_) | refine s_b0 (fun _ => ?_) | ((fail_if_success refine g_lit rfl rfl rfl ?_); first | apply g_partM rfl rfl rfl | apply g_partMB rfl rfl rfl | fail))
      | refine gS ?_ | exact s_m | intro _)
    exact g_ret () rfl (by (repeat (first | exact RVs.nil | apply RVs.tmp rfl | apply RVs.cellA rfl (by (repeat (first | exact Sel.here | apply Sel.there)); first | done | fail) (by (repeat (first | exact Cut.zero | apply Cut.take | apply Cut.skip)); first | done | fail) | apply RVs.cell1 rfl (by (repeat (first | exact Sel.here | apply Sel.there)); first | done | fail) rfl)); first | done | fail) (by (repeat (first | exact Take.nil | apply Take.cons | exact Sel.here | apply Sel.there)); first | done | fail) (by simp [pack, e]) trivial
theorem letters11 (n : Nat) (j : Int) (hn2 : n ≤ 100000) (hj : 0 ≤ j ∧ j ≤ 1000000) : Does1 Tryz.prog 14 [int n, int j] [] (.string ⟨(lettersL n j).toArray⟩) := by
  refine fn_intro Tryz.func14 rfl Tryz.ntmps14 rfl (by simp only [argFr, Nat.zero_add, Nat.reduceAdd]; rfl) (fun Γ => ?_)
  repeat (first
    | (refine g_ops ?_; first | refine sO ?_ | refine s_n (fun _ => ?_) | refine s_appB (fun _ _ => ?_) | refine s_app (fun _ _ => ?_) | refine s_b0 (fun _ => ?_) | ((fail_if_success refine g_lit rfl rfl rfl ?_); first | apply g_partM rfl rfl rfl | apply g_partMB rfl rfl rfl | fail))
    | refine gS ?_ | exact s_m | intro _)
  refine s_q (q := by exact qs_max rfl rfl) ?_
  refine g_as 8 (v' := int (n : Int)) rfl (congrArg (Value.int .i64) (by split <;> omega)) ?_
  refine g_c (cs_make8 (m := n) inferInstance inferInstance inferInstance inferInstance rfl rfl (by omega) (by decide)) rfl rfl (fun b _ => ?_)
  repeat (first
    | (refine g_ops ?_; first | refine sO ?_ | refine s_n (fun _ => ?_) | refine s_appB (fun _ _ => ?_) | refine s_app (fun _ _ => ?_) | refine s_b0 (fun _ => ?_) | ((fail_if_success refine g_lit rfl rfl rfl ?_); first | apply g_partM rfl rfl rfl | apply g_partMB rfl rfl rfl | fail))
    | refine gS ?_ | exact s_m | intro _)
  refine g_loop (X := Nat) (fun i => [(1, int j), (5, .slice (some ⟨b, 0, none⟩) n n), (6, int i)]) (fun i => [.own (some ⟨b, 0, none⟩) n n 1 (cells8 (lettersL i j ++ List.replicate (n - i) 0)) 5]) (fun i => i ≤ n) (fun i => n - i) 0 (Nat.zero_le _) (by (repeat (first | exact FrSub.nil | refine FrSub.cons rfl ?_)); first | done | fail) (by (repeat (first | exact Take.nil | apply Take.cons | exact Sel.here | apply Sel.there)); first | done | fail) (fun i hi => ?_)
  have hl : (lettersL i j ++ List.replicate (n - i) 0).length = n := by rw [List.length_append, lettersL_len, List.length_replicate]; omega
  repeat (first
    | (refine g_ops ?_; first | refine sO ?_ | refine s_n (fun _ => ?_) | refine s_appB (fun _ _ => ?_) | refine s_app (fun _ _ => ?_) | refine s_b0 (fun _ => ?_) | ((fail_if_success refine g_lit rfl rfl rfl ?_); first | apply g_partM rfl rfl rfl | apply g_partMB rfl rfl rfl | fail))
    | refine gS ?_ | exact s_m | intro _)
  refine g_cond_dec rfl (fun h => ?_) (fun h => ?_)
  · have hi2 : i < n := by omega
    have hsq : (i : Int) * i ≤ 10000000000 := by
      have := Int.mul_le_mul (show (i : Int) ≤ 100000 by omega) (show (i : Int) ≤ 100000 by omega) (by omega) (by omega)
      omega
    have hsq0 : 0 ≤ (i : Int) * i := Int.mul_nonneg (by omega) (by omega)
    have hlf := lf_in ((i : Int) * i + j) 26 (by decide)
    have hnx := letters_next n i j hi2
    have hbt : letAt j i = UInt8.ofNat (97 + lf ((i : Int) * i + j) 26).toNat := rfl
    generalize letAt j i = bt at hnx hbt
    generalize hsqv : (i : Int) * i = sq at hsq hsq0 hlf hbt
    generalize lettersL i j ++ List.replicate (n - i) 0 = l at hl hnx ⊢
    repeat ((fail_if_success refine s_at 20 ?_); first
      | (refine g_ops ?_; first | refine sO ?_ | refine s_n (fun _ => ?_) | refine s_appB (fun _ _ => ?_) | refine s_app (fun _ _ => ?_) | refine s_b0 (fun _ => ?_) | ((fail_if_success refine g_lit rfl rfl rfl ?_); first | apply g_partM rfl rfl rfl | apply g_partMB rfl rfl rfl | fail))
      | refine gS ?_ | exact s_m | intro _)
    refine s_q (q := by exact qs_mulI rfl rfl ⟨by omega, by omega⟩) ?_
    refine g_as 20 (v' := int sq) rfl (congrArg (Value.int .i64) hsqv) ?_
    repeat (first
      | (refine g_ops ?_; first | refine sO ?_ | refine s_n (fun _ => ?_) | refine s_appB (fun _ _ => ?_) | refine s_app (fun _ _ => ?_) | refine s_b0 (fun _ => ?_) | ((fail_if_success refine g_lit rfl rfl rfl ?_); first | apply g_partM rfl rfl rfl | apply g_partMB rfl rfl rfl | fail) | refine s_p (round11 (sq + j) 26 (by decide) (by decide)) ?_)
      | refine gS ?_ | exact s_m | intro _)
    refine s_q (q := by exact qs_convInt rfl) ?_
    refine g_as 25 (v' := .int .u8 (bt.toNat : Int)) rfl (congrArg (Value.int .u8) (by
      rw [wrap_u8 ⟨by omega, by omega⟩, hbt]
      simp
      omega)) ?_
    refine s_q (q := by exact qs_indexSlice1 rfl rfl hi2) ?_
    refine g_s (ss_storeOwn inferInstance rfl rfl rfl (by (repeat (first | exact Sel.here | apply Sel.there)); first | done | fail) (by rw [cells8_len]; omega)) rfl ?_
    rw [Nat.zero_add, cells8_set, hnx]
    repeat (first
      | (refine g_ops ?_; first | refine sO ?_ | refine s_n (fun _ => ?_) | refine s_appB (fun _ _ => ?_) | refine s_app (fun _ _ => ?_) | refine s_b0 (fun _ => ?_) | ((fail_if_success refine g_lit rfl rfl rfl ?_); first | apply g_partM rfl rfl rfl | apply g_partMB rfl rfl rfl | fail))
      | refine gS ?_ | exact s_m | intro _)
    exact gA (i + 1) (by omega) (by omega)
  · obtain rfl : i = n := by omega
    rw [Nat.sub_self, List.replicate_zero, List.append_nil] at hl ⊢
    generalize lettersL i j = l at hl ⊢
    subst hl
    repeat (first
      | (refine g_ops ?_; first | refine sO ?_ | refine s_n (fun _ => ?_) | refine s_appB (fun _ _ => ?_) | refine s_app (fun _ _ => ?_) | refine s_b0 (fun _ => ?_) | ((fail_if_success refine g_lit rfl rfl rfl ?_); first | apply g_partM rfl rfl rfl | apply g_partMB rfl rfl rfl | fail))
      | refine gS ?_ | exact s_m | intro _)
    refine g_v (vs_bytesStr inferInstance inferInstance inferInstance rfl (by (repeat (first | exact Sel.here | apply Sel.there)); first | done | fail)) rfl rfl ?_
    repeat (first
      | (refine g_ops ?_; first | refine sO ?_ | refine s_n (fun _ => ?_) | refine s_appB (fun _ _ => ?_) | refine s_app (fun _ _ => ?_) | refine s_b0 (fun _ => ?_) | ((fail_if_success refine g_lit rfl rfl rfl ?_); first | apply g_partM rfl rfl rfl | apply g_partMB rfl rfl rfl | fail))
      | refine gS ?_ | exact s_m | intro _)
    exact gR () trivial
end Go.Proofs.YtdldgbbhagpofaaGreatDoor
