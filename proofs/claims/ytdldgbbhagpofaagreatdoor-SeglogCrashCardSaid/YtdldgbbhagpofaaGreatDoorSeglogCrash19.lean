/- Contracts and laws that the proof stands on. -/
import Derived.Test.YtdldgbbhagpofaaGreatDoorSeglogCrash18
import Derived.Test.YtdldgbbhagpofaaGreatDoorRows
import Derived.LaidLaws
import Derived.LaidMore
import Derived.OpenShut
import Derived.Stop.Joined
import Derived.Stop.LaidErr
import Derived.Test.YtdldgbbhagpofaaGreatDoorSeglogCrash8
import Derived.OrdersIn
import Derived.Test.YtdldgbbhagpofaaGreatDoorSeglogCrash16
set_option linter.unusedSimpArgs false
set_option linter.unusedVariables false
namespace Go.Proofs.YtdldgbbhagpofaaGreatDoor
open Go.Sl facts
def paB (a : PA) : Nat := (if a.fresh then 18 else 0) + sumL a.l + 8 * a.l.length
def paS (l : List PA) : Nat := (l.map paB).sum
theorem sumL_snoc (l : List BV) (r : BV) : sumL (l ++ [r]) = sumL l + r.l.length := by unfold sumL; simp
theorem addLast_mem (r : BV) : ∀ (l : List PA) (z : PA), z ∈ addLast r l → z ∈ l ∨ ∃ a ∈ l, z = { a with l := a.l ++ [r] }
  | [], z, h => by simp [addLast] at h
  | [a], z, h => by
    simp only [addLast, List.mem_singleton] at h
    exact .inr ⟨a, by simp, h⟩
  | a :: b :: t, z, h => by
    simp only [addLast, List.mem_cons] at h
    rcases h with h | h
    · exact .inl (by simp [h])
    · rcases addLast_mem r (b :: t) z h with h | ⟨c, hc, e⟩
      · exact .inl (List.mem_cons_of_mem _ h)
      · exact .inr ⟨c, List.mem_cons_of_mem _ hc, e⟩
theorem addLast_len (r : BV) : ∀ l : List PA, (addLast r l).length = l.length
  | [] => rfl
  | [a] => rfl
  | a :: b :: t => by
    have := addLast_len r (b :: t)
    simp only [addLast, List.length_cons] at this ⊢
    omega
theorem addLast_paS (r : BV) : ∀ l : List PA, paS (addLast r l) ≤ paS l + r.l.length + 8
  | [] => by simp [addLast, paS]
  | [a] => by
    have := sumL_snoc a.l r
    simp only [addLast, paS, paB, List.map_cons, List.map_nil, List.sum_cons, List.sum_nil, List.length_append, List.length_cons, List.length_nil, this]
    omega
  | a :: b :: t => by
    have := addLast_paS r (b :: t)
    simp only [addLast, paS, List.map_cons, List.sum_cons] at this ⊢
    omega
structure PI (segs f0 size0 i : Nat) (pre : List BV) (s : St) : Prop where
  file : ∀ z ∈ s.out, z.file < s.next
  fst : ∀ z ∈ s.out, z.first ≤ f0 + i
  mem : ∀ z ∈ s.out, ∀ r ∈ z.l, r ∈ pre
  pl : ∀ z ∈ s.out, z.l.length ≤ i
  next : s.next ≤ segs + i
  len : s.out.length ≤ i + 1
  byt : paS s.out ≤ sumL pre + 26 * i
  size : s.size ≤ size0 + sumL pre
theorem PI.step {segs f0 size0 i : Nat} {pre : List BV} {s : St} (h : PI segs f0 size0 i pre s) (r : BV) : PI segs f0 size0 (i + 1) (pre ++ [r]) (St.step f0 i r s) := by
  have hn := h.next
  have hl := h.len
  have hb := h.byt
  have hz := h.size
  have hs := sumL_snoc pre r
  unfold St.step
  split
  · refine ⟨fun z hz => ?_, fun z hz => ?_, fun z hz q hq => ?_, fun z hz => ?_, ?_, ?_, ?_, ?_⟩
    · rcases List.mem_append.1 hz with h1 | h1
      · have := h.file z h1; show z.file < s.next + 1; omega
      · rw [List.mem_singleton.1 h1]; exact Nat.lt_succ_self _
    · rcases List.mem_append.1 hz with h1 | h1
      · have := h.fst z h1; omega
      · rw [List.mem_singleton.1 h1]; exact Nat.le_succ _
    · rcases List.mem_append.1 hz with h1 | h1
      · exact List.mem_append_left _ (h.mem z h1 q hq)
      · rw [List.mem_singleton.1 h1] at hq; exact List.mem_append_right _ hq
    · rcases List.mem_append.1 hz with h1 | h1
      · have := h.pl z h1; omega
      · rw [List.mem_singleton.1 h1]; simp
    · show s.next + 1 ≤ _; omega
    · rw [List.length_append]; simp; omega
    · have e : paS (s.out ++ [⟨s.next, f0 + i, true, [r]⟩]) = paS s.out + (18 + r.l.length + 8) := by unfold paS; simp [paB, sumL]
      rw [e]; omega
    · show r.l.length ≤ _; omega
  · refine ⟨fun z hz => ?_, fun z hz => ?_, fun z hz q hq => ?_, fun z hz => ?_, ?_, ?_, ?_, ?_⟩
    · rcases addLast_mem r _ z hz with h1 | ⟨a, h1, rfl⟩
      · exact h.file z h1
      · exact h.file a h1
    · rcases addLast_mem r _ z hz with h1 | ⟨a, h1, rfl⟩
      · have := h.fst z h1; omega
      · have := h.fst a h1; show a.first ≤ _; omega
    · rcases addLast_mem r _ z hz with h1 | ⟨a, h1, rfl⟩
      · exact List.mem_append_left _ (h.mem z h1 q hq)
      · rcases List.mem_append.1 hq with h2 | h2
        · exact List.mem_append_left _ (h.mem a h1 q h2)
        · exact List.mem_append_right _ h2
    · rcases addLast_mem r _ z hz with h1 | ⟨a, h1, rfl⟩
      · have := h.pl z h1; omega
      · have := h.pl a h1; show (a.l ++ [r]).length ≤ _; rw [List.length_append]; simp; omega
    · show s.next ≤ _; omega
    · show (addLast r s.out).length ≤ _; rw [addLast_len]; omega
    · have := addLast_paS r s.out; show paS (addLast r s.out) ≤ _; omega
    · show s.size + r.l.length ≤ _; omega
theorem PI.go {segs f0 size0 : Nat} : ∀ (t : List BV) {i : Nat} {pre : List BV} {s : St}, PI segs f0 size0 i pre s → PI segs f0 size0 (i + t.length) (pre ++ t) (pgo f0 i t s)
  | [], i, pre, s, h => by simpa [pgo] using h
  | r :: t, i, pre, s, h => by
    have := PI.go t (h.step r)
    simp only [pgo, List.length_cons]
    rw [show i + (t.length + 1) = i + 1 + t.length by omega, show pre ++ r :: t = (pre ++ [r]) ++ t by simp]
    exact this
theorem PI.start (segs size : Nat) (sl : Bool) (f0 : Nat) : PI segs f0 size 0 [] (st0 segs size sl f0) := by
  unfold st0
  split
  · rename_i hc
    refine ⟨fun z hz => ?_, fun z hz => ?_, fun z hz q hq => ?_, fun z hz => ?_, by simp, by simp, by simp [paS, paB, sumL], by simp [sumL]⟩ <;> (rw [List.mem_singleton.1 hz] at *)
    · show segs - 1 < segs; omega
    · exact Nat.le_refl _
    · simp at hq
    · exact Nat.le_refl _
  · exact ⟨by simp, by simp, by simp, by simp, by simp, by simp, by simp [paS], by simp [sumL]⟩
theorem pok (segs size : Nat) (sl : Bool) (f0 : Nat) (rs : List BV) (h1 : segs + rs.length ≤ 100) (h2 : f0 ≤ 100000000) (h3 : size + sumL rs ≤ 1000000000) : POk rs (partsL segs size sl f0 rs) (sumL rs + 26 * rs.length) := by
  have h := PI.go rs (PI.start segs size sl f0)
  simp only [Nat.zero_add, List.nil_append] at h
  show POk rs (pgo f0 0 rs (st0 segs size sl f0)) _
  generalize pgo f0 0 rs (st0 segs size sl f0) = s at h
  have hn := h.next
  have hz := h.size
  refine ⟨fun z hz => ⟨?_, ?_⟩, h.mem, by have := h.len; omega, fun z hz => by have := h.pl z hz; omega, by omega, fun ps hps => ?_⟩
  · have := h.file z hz; omega
  · have := h.fst z hz; omega
  · have hb := h.byt
    have hle : pbytes ps ≤ paS s.out := by
      rw [← hps]
      have hf : ∀ z ∈ ps, z.first ≤ 1000000000 := fun z hz => by
        have := h.fst z.a (by rw [← hps]; exact List.mem_map.2 ⟨z, hz, rfl⟩)
        dsimp only [PV.a] at this
        omega
      clear hps hb
      induction ps with
      | nil => simp [pbytes, paS]
      | cons z ps ih =>
        have ih' := ih (fun y hy => hf y (List.mem_cons_of_mem _ hy))
        have hz1 := hf z (by simp)
        have hv := vb_len10 z.first (by omega)
        have e1 : (partB z).length ≤ paB z.a := by
          unfold partB paB
          rw [List.length_append, recB_len]
          cases hfr : z.fresh <;> simp [PV.a, hfr, frameB_len] <;> omega
        unfold pbytes paS at *
        simp only [List.map_cons, List.sum_cons] at ih' ⊢
        omega
    omega
end Go.Proofs.YtdldgbbhagpofaaGreatDoor

namespace Go.Sl
variable {Γ : Ctx} {L R : List Chunk} {N : Nat} {fr : Fr} {φ : Act → World → Prop}
theorem g_pileN (g : G Γ N fr (Pile (fun _ => none) :: L) φ) : G Γ N fr L φ := fun a w hN hd hf hh => g a w hN hd hf (hh.mono fun h al => ⟨fun _ => none, h, fun _ => .inl rfl, (fun _ _ q => by cases q), HP.sub.refl _, rfl, al⟩)
theorem g_pileC {c : Chunk} {H : HP} {R1 : List Chunk} (s1 : Sel L c R1) (s2 : Sel R1 (Pile H) R)
    (g : ∀ H', HP.sub H H' → (∀ p v, Reads c p v → Reads (Pile H') p v) → G Γ N fr (Pile H' :: R) φ) : G Γ N fr L φ := fun a w hN hd hf hh => by
  have hs := hh.take (Take.cons s1 (Take.cons s2 .nil))
  obtain ⟨hp, hdj, hsub, h1, r1, dj1, a1, a2, hc1, h2, r2, dj2, b1, b2, hc2, hr⟩ := hs.own
  have hH : h2 = H := hc2
  subst hH
  have hd12 : HP.disj h1 h2 := (HP.disj_sub dj1.symm b1).symm
  have hd1r : HP.disj h1 r2 := (HP.disj_sub dj1.symm b2).symm
  refine g (HP.union h1 h2) (HP.sub_union_right hd12) (fun p v hrd h' hc' => ?_) a w hN hd hf ⟨hs.os, hs.tape, hs.output, hs.frz, hs.frame, hp, hdj, hsub, HP.union h1 h2, r2, HP.disj_union hd1r dj2, HP.union_sub a1 (b1.trans a2), b2.trans a2, rfl, hr⟩
  have hc'' : h' = HP.union h1 h2 := hc'
  subst hc''
  obtain ⟨xs, e, fz, h3, h4, h5⟩ := hrd h1 hc1
  exact ⟨xs, e, fz, HP.sub_union_left _ _ _ _ h3, h4, h5⟩
theorem vs_bytesAt {P : Program} {d : Nat} {ty : TypeId} {pos : String} {aft : Array Edge} {gd : Option (Nat × Bool)} {x : Operand} {t t2 : TypeId} {C : Chunk} {p : Option Addr} {cap : Nat} {l : List UInt8} {e : TypeId} (D : TDesc P t (.slice e)) (E : TDesc P e (.int .u8)) (D2 : TDesc P t2 .string) (hx : ev fr x = some (.slice p l.length cap)) (s : Sel L C R) (h : BtAt C p l) (hl : 0 < l.length) :
    VStep P Γ fr L ⟨some d, .convert t t2 x, ty, pos, aft, gd⟩ (.string ⟨l.toArray⟩) :=
  vs_of (fun a w hf hh => by
    obtain ⟨b, o, rfl, _⟩ := h 0 hl
    have := run_convert_bytes_back (P := P) w t t2 e ⟨b, o, none⟩ cap l D.desc E.desc D2.desc (fun j hj => by
      obtain ⟨b', o', e1, hr⟩ := h j hj
      cases e1
      rw [Addr.add_lit]
      exact hh.cell s (by simpa [List.getD_eq_getElem?_getD, List.getElem?_eq_getElem hj] using hr))
    simp only [execOp, hf.ev hx, Sem.run_bind, this]
    rfl)
end Go.Sl
namespace Go.Proofs.YtdldgbbhagpofaaGreatDoor
open Go.Sl facts
attribute [local irreducible] Code.wp wpList Exit.then Exit.inBlock bodyPost Back MidQ G GP QStep VStep CStep SStep Does Post Reads
attribute [local irreducible] Begin RPost MPost frameB recB partB pbytes
theorem awake_ : Does1 Tryz.prog 8 [] [] (.bool true) := by
  refine fn_intro Tryz.func8 rfl Tryz.ntmps8 rfl (by simp only [argFr, Nat.zero_add, Nat.reduceAdd]; rfl) (fun Γ => ?_)
  repeat (first
    | (refine g_ops ?_; first | refine sO ?_ | refine s_bl (fun _ => ?_) | refine s_n (fun _ => ?_) | refine s_appB (fun _ _ => ?_) | refine s_app (fun _ _ => ?_) | refine s_b0 (fun _ => ?_) | ((fail_if_success refine g_lit rfl rfl rfl ?_); first | apply g_partM rfl rfl rfl | apply g_partMB rfl rfl rfl | fail) | refine s_c (fresh0) (fun _ _ => ?_))
    | refine gS ?_ | exact s_m | intro _)
  rename_i y _ ba bb bl
  obtain ⟨d, lg⟩ := y
  dsimp only [List.cons_append, List.nil_append, List.append_nil]
  refine g_pileN ?_
  refine g_pileC (c := .row ba [.int .u8 97] 5 (1, 2)) (by (repeat (first | exact Sel.here | apply Sel.there)); first | done | fail) (by (repeat (first | exact Sel.here | apply Sel.there)); first | done | fail) (fun H1 h1 hr1 => ?_)
  refine g_pileC (c := .row bb [.int .u8 98] 5 (1, 2)) (by (repeat (first | exact Sel.here | apply Sel.there)); first | done | fail) (by (repeat (first | exact Sel.here | apply Sel.there)); first | done | fail) (fun H2 h2 hr2 => ?_)
  refine g_toOwn (b := bl) (len := 2) (n := 1) (xs := [.slice (some ⟨ba, 0, none⟩) 1 1, .slice (some ⟨bb, 0, none⟩) 1 1]) (e := 28) (by (repeat (first | exact Sel.here | apply Sel.there)); first | done | fail) rfl rfl ?_
  refine g_pile (p := some ⟨bl, 0, none⟩) (m := 2) (c := 2) (n := 1) (xs := [.slice (some ⟨ba, 0, none⟩) 1 1, .slice (some ⟨bb, 0, none⟩) 1 1]) (e := 28) (by (repeat (first | exact Sel.here | apply Sel.there)); first | done | fail) (by (repeat (first | exact Sel.here | apply Sel.there)); first | done | fail) (fun H3 h3 hA => ?_)
  have hR : RecsAt H3 (some ⟨bl, 0, none⟩) [⟨some ⟨ba, 0, none⟩, [97], 1⟩, ⟨some ⟨bb, 0, none⟩, [98], 1⟩] := by
    refine ⟨hA, fun r hr => ?_⟩
    rcases List.mem_cons.1 hr with rfl | hr
    · intro j hj
      obtain rfl : j = 0 := by simp at hj; exact hj
      exact ⟨ba, 0, rfl, reads_grow (h2.trans h3) (hr1 _ _ (reads_row rfl))⟩
    · rw [List.mem_singleton.1 hr]
      intro j hj
      obtain rfl : j = 0 := by simp at hj; exact hj
      exact ⟨bb, 0, rfl, reads_grow h3 (hr2 _ _ (reads_row rfl))⟩
  have hap := append_ (H := H3) lg d lg0 1048576 none 0 0 (by decide) [] (by simp [SortF]) (by simp) (by decide) (by decide) (some ⟨bl, 0, none⟩) 2 [⟨some ⟨ba, 0, none⟩, [97], 1⟩, ⟨some ⟨bb, 0, none⟩, [98], 1⟩] hR (by simp) (by simp) (fun r hr => by
    rcases List.mem_cons.1 hr with rfl | hr
    · simp
    · rw [List.mem_singleton.1 hr]; simp) (by simp [sumL]) 0 rfl (by decide) (fun r hr => by simp at hr) (by simp) (by simp) _ (by simp [sumL]) (by simp [sumL, used]) (pok 0 0 false 0 _ (by simp) (by decide) (by simp [sumL]))
  dsimp only [List.length_cons, List.length_nil, Nat.zero_add] at hap
  repeat (first
    | (refine g_ops ?_; first | refine sO ?_ | refine s_bl (fun _ => ?_) | refine s_n (fun _ => ?_) | refine s_appB (fun _ _ => ?_) | refine s_app (fun _ _ => ?_) | refine s_b0 (fun _ => ?_) | ((fail_if_success refine g_lit rfl rfl rfl ?_); first | apply g_partM rfl rfl rfl | apply g_partMB rfl rfl rfl | fail) | refine s_c (hap) (fun _ _ => ?_))
    | refine gS ?_ | exact s_m | intro _)
  rename_i z hz
  obtain ⟨x1, ⟨q1, c1, fs1⟩, H4⟩ := z
  have hrc : bts x1.rs = [[97], [98]] := hz.recs
  have hat := hz.at_
  have hln : x1.rs.length = 2 := by have := congrArg List.length hrc; simpa using this
  have hrd := read_ (H := H4) lg d x1 false 1 9 (by omega) hat (by omega) (fun r hr => by
    have : r.l ∈ bts x1.rs := List.mem_map.2 ⟨r, hr, rfl⟩
    rw [hrc] at this
    rcases List.mem_cons.1 this with h | h
    · rw [h]; simp
    · rw [List.mem_singleton.1 h]; simp)
  dsimp only [LG.L, LG.own, List.cons_append, List.nil_append, List.append_nil] at hrd ⊢
  refine g_as 4 (v' := int 0) rfl rfl ?_
  repeat (first
    | (refine g_ops ?_; first | refine sO ?_ | refine s_bl (fun _ => ?_) | refine s_n (fun _ => ?_) | refine s_appB (fun _ _ => ?_) | refine s_app (fun _ _ => ?_) | refine s_b0 (fun _ => ?_) | ((fail_if_success refine g_lit rfl rfl rfl ?_); first | apply g_partM rfl rfl rfl | apply g_partMB rfl rfl rfl | fail) | refine s_c (hrd) (fun _ _ => ?_))
    | refine gS ?_ | exact s_m | intro _)
  rename_i z2 hz2
  obtain ⟨rq2, rc2, ws, H5⟩ := z2
  obtain ⟨g1, g2, g3⟩ := hz2
  dsimp only at g1 g2 g3 ⊢
  have hws : bts ws = [[98]] := by
    rw [g3]
    show ((x1.rs.drop 1).take _).map _ = _
    rw [List.map_take, List.map_drop]
    show (List.drop 1 (bts x1.rs)).take _ = _
    rw [hrc]; rfl
  obtain ⟨w, rfl⟩ : ∃ w, ws = [w] := by
    have := congrArg List.length hws
    match ws, this with
    | [w], _ => exact ⟨w, rfl⟩
  have hwl : w.l = [98] := by simpa using hws
  dsimp only [List.cons_append, List.nil_append, List.length_cons, List.length_nil, Nat.zero_add]
  refine g_own (p := rq2) (len := 1) (cap := rc2) (n := 1) (xs := [w].map BV.v) (e := 28) (by (repeat (first | exact Sel.here | apply Sel.there)); first | done | fail) (fun _ _ hq => ?_)
  obtain ⟨ob, rfl⟩ := hq (by decide)
  refine g_as 45 (v' := .bool true) rfl rfl ?_
  repeat (first
    | (refine g_ops ?_; first | refine sO ?_ | refine s_bl (fun _ => ?_) | refine s_n (fun _ => ?_) | refine s_appB (fun _ _ => ?_) | refine s_app (fun _ _ => ?_) | refine s_b0 (fun _ => ?_) | ((fail_if_success refine g_lit rfl rfl rfl ?_); first | apply g_partM rfl rfl rfl | apply g_partMB rfl rfl rfl | fail))
    | refine gS ?_ | exact s_m | intro _)
  refine g_as 47 (v' := ptr ob) rfl rfl ?_
  have hrow := reads_own (b := ob) (len := 1) (cap := rc2) (n := 1) (e := 28) (xs := [w].map BV.v) (j := 0) (v := w.v) rfl
  have hr : ∀ k, k = 0 → Reads (.own (some ⟨ob, 0, none⟩) 1 rc2 1 ([w].map BV.v) 28) ⟨ob, k, none⟩ w.v := fun k hk => by rw [hk]; exact hrow
  repeat (first
    | (refine g_ops ?_; first | refine sO ?_ | refine s_bl (fun _ => ?_) | refine s_n (fun _ => ?_) | refine s_appB (fun _ _ => ?_) | refine s_app (fun _ _ => ?_) | refine s_b0 (fun _ => ?_) | ((fail_if_success refine g_lit rfl rfl rfl ?_); first | apply g_partM rfl rfl rfl | apply g_partMB rfl rfl rfl | fail))
    | refine gS ?_ | exact s_m | intro _)
  have hbw := g2 w (by simp)
  refine g_v (vs_bytesAt (l := w.l) inferInstance inferInstance inferInstance rfl (by (repeat (first | exact Sel.here | apply Sel.there)); first | done | fail) hbw (by rw [hwl]; decide)) rfl rfl ?_
  rw [hwl]
  repeat (first
    | (refine g_ops ?_; first | refine sO ?_ | refine s_bl (fun _ => ?_) | refine s_n (fun _ => ?_) | refine s_appB (fun _ _ => ?_) | refine s_app (fun _ _ => ?_) | refine s_b0 (fun _ => ?_) | ((fail_if_success refine g_lit rfl rfl rfl ?_); first | apply g_partM rfl rfl rfl | apply g_partMB rfl rfl rfl | fail))
    | refine gS ?_ | exact s_m | intro _)
  exact g_ret () rfl (by (repeat (first | exact RVs.nil | apply RVs.tmp rfl | apply RVs.cellA rfl (by (repeat (first | exact Sel.here | apply Sel.there)); first | done | fail) (by (repeat (first | exact Cut.zero | apply Cut.take | apply Cut.skip)); first | done | fail) | apply RVs.cell1 rfl (by (repeat (first | exact Sel.here | apply Sel.there)); first | done | fail) rfl)); first | done | fail) (by (repeat (first | exact Take.nil | apply Take.cons | exact Sel.here | apply Sel.there)); first | done | fail) (by simp [pack]) trivial
end Go.Proofs.YtdldgbbhagpofaaGreatDoor



namespace Go.Proofs.YtdldgbbhagpofaaGreatDoor
open Go Go.ChangeShapes Go.WideShapes Go.ChangeAt Go.RowKit Go.Sl facts
theorem own : ownKnob Tryz.prog.godebug = none := by kernel_rfl
theorem laidOut : laidOutB Tryz.prog = true := by kernel_rfl
def lst : List (String × DataW Unit) := [("math/bits.deBruijn32tab", Rows.laid_math_bits_deBruijn32tab), ("math/bits.deBruijn64tab", Rows.laid_math_bits_deBruijn64tab), ("internal/strconv.uint64pow10", Rows.laid_internal_strconv_uint64pow10), ("strconv.ErrRange", Rows.laid_strconv_ErrRange), ("strconv.ErrSyntax", Rows.laid_strconv_ErrSyntax)]
noncomputable def doorW (os : Os) : World := World.doorLaid Tryz.prog 400 os
theorem door_met (os : Os) (args : Array Value) : laidMetH Tryz.prog lst ((doorW os).forCall (fun _ _ => 0) ⟨#[], args, []⟩).memory :=
  laidMetH_of_parts3 (fuel := 8) (laidMet_of_run' 8 (by kernel_rfl) (by kernel_rfl)) (by kernel_rfl) (by kernel_rfl)
end Go.Proofs.YtdldgbbhagpofaaGreatDoor

namespace Go.Sl
variable {P : Program} {Γ : Ctx} {L R : List Chunk} {N : Nat} {fr : Fr} {Q : Exit → Act → World → Prop} {ops : Array Oper} {rest : List Oper}
theorem any_in {r : Option Nat} {n : Nat} (hQ : NoOut Q) (hd : ∀ (i : Nat) (o : Oper), ops[i]? = some o → isDef o.op = false) : ∀ (fuel : Nat) (listed : Array Bool) (a : Act) (w : World), wpAny P .any ops Q fuel listed a w → wpAnyIn (FW r) n P .any ops Q fuel listed a w
  | 0, _, _, _, h => h
  | fuel + 1, listed, a, w, h => by
    refine ⟨h.1, fun i hi => ?_⟩
    have h2 := h.2 i hi
    unfold wpOp at h2
    unfold wpOpIn
    cases ho : ops[i]? with
    | none => rw [ho] at h2; exact any_in hQ hd fuel _ _ _ h2
    | some o =>
      rw [ho] at h2
      dsimp only at h2 ⊢
      split at h2
      · rename_i hw
        rw [if_pos hw]
        rcases h2 with h2 | ⟨_, a', w', h2⟩
        · exact oper_in (hd i o ho) (fun a w h => any_in hQ hd fuel _ a w h) (fun _ _ _ h => h) (fun _ _ h => h) h2
        · exact (hQ _ _ h2).elim
      · rename_i hw
        rw [if_neg hw]
        exact ⟨fun _ _ => trivial, any_in hQ hd fuel _ _ _ h2⟩
theorem noDef_at {l : List Oper} (hn : noDef l = true) (i : Nat) (o : Oper) (h : l.toArray[i]? = some o) : isDef o.op = false := by
  have h1 : l[i]? = some o := by simpa using h
  have := List.all_eq_true.1 hn o (List.mem_of_getElem? h1)
  simpa using this
theorem r_draw {r : Option Nat} {id : Nat} {l : List Oper} {C : List Chunk} [M : Mixed P] (plan : Plan) (hp : planOk l plan = true) (t : Take L C R)
    (h : ∀ k, HP.disj Γ.hf k → All C k → GP P l.toArray Q (Γ.add k) N fr R plan) (hn : noDef l = true := by rfl) (hQ : NoOut Q := by repeat (first | exact no_body | exact no_M | exact no_R | exact no_begin | exact no_mid | apply no_then | apply no_in)) : G Γ N fr L ((Code.region id l.toArray true).wpIn (FW r) 0 P Q) := by
  intro a w hN hd hf hh
  have hh1 := hh.take t
  simp only [planOk, Bool.and_eq_true] at hp
  have hh2 : Holds Γ (R ++ C) w := hh1.mono fun h' al => by
    obtain ⟨h1, h2, d, s1, s2, p1, p2⟩ := all_append.1 al
    exact all_append.2 ⟨h2, h1, d.symm, s2, s1, p2, p1⟩
  obtain ⟨k, dk, hk, hr⟩ := hh2.split
  refine wpIn_region_any M.mixed (any_in hQ (noDef_at hn) _ _ _ _ ?_)
  have := ap_any hp.1 plan _ _ a _ R hp.2 (h k dk hk a hN hd hf)
  exact any_wp _ _ a _ R (by simpa using this) _ (hr.drew _)
end Go.Sl

namespace Go.Proofs.YtdldgbbhagpofaaGreatDoor
open Go.Sl facts
theorem vb_len8 (v : Nat) (h : v ≤ 1125899906842624) : (vb v).length ≤ 8 := vb_len 7 v (Nat.lt_of_le_of_lt h (by decide))
theorem vb_pos (v : Nat) : 0 < (vb v).length := by
  by_cases h : v < 128
  · rw [vb_small h]; simp
  · rw [vb_big h]; simp
def uvF : List UInt8 → Nat → Nat → Nat × Nat
  | [], _, _ => (0, 0)
  | x :: l, i, v =>
    if 10 ≤ i then (0, 0)
    else if 128 ≤ x.toNat then uvF l (i + 1) (v + x.toNat % 128 * 2 ^ (7 * i))
    else if i = 9 ∧ 1 < x.toNat ∨ 0 < i ∧ x.toNat = 0 then (0, 0)
    else (v + x.toNat * 2 ^ (7 * i), i + 1)
def uv (l : List UInt8) : Nat × Nat := uvF l 0 0
theorem uvF_10 (l : List UInt8) (v : Nat) : uvF l 10 v = (0, 0) := by cases l <;> simp [uvF]
theorem uvF_vb (r : List UInt8) (v : Nat) : ∀ (i a : Nat), i + (vb v).length ≤ 9 → (0 < v ∨ i = 0) → uvF (vb v ++ r) i a = (a + v * 2 ^ (7 * i), i + (vb v).length) := by
  induction v using Nat.strongRecOn with
  | _ v ih =>
    intro i a h0 h1
    by_cases hv : v < 128
    · rw [vb_small hv] at h0 ⊢
      have e := byte_of v (by omega)
      simp only [List.cons_append, List.nil_append, uvF, e, List.length_singleton] at h0 ⊢
      rw [if_neg (by omega), if_neg (by omega), if_neg (by omega)]
    · rw [vb_big hv] at h0 ⊢
      have e := byte_of (v % 128 + 128) (by omega)
      simp only [List.cons_append, uvF, e, List.length_cons] at h0 ⊢
      rw [if_neg (by omega), if_pos (by omega), ih (v / 128) (by omega) (i + 1) _ (by omega) (.inl (by omega))]
      have e2 : 2 ^ (7 * (i + 1)) = 2 ^ (7 * i) * 128 := by rw [Nat.mul_add, Nat.pow_add]
      rw [e2]
      simp only [Prod.mk.injEq]
      refine ⟨?_, by omega⟩
      rw [show (v % 128 + 128) % 128 = v % 128 by omega, ← Nat.mul_assoc, Nat.mul_right_comm, Nat.add_assoc, ← Nat.add_mul]
      congr 2
      omega
theorem uv_vb (v : Nat) (r : List UInt8) (h : v ≤ 1125899906842624) : uv (vb v ++ r) = (v, (vb v).length) := by
  have := uvF_vb r v 0 0 (by have := vb_len8 v h; omega) (.inr rfl)
  simpa [uv] using this
attribute [local irreducible] Code.wp wpList Exit.then Exit.inBlock bodyPost Back MidQ G GP QStep VStep CStep SStep Does Post Reads
theorem uv_step (l : List UInt8) (i v : Nat) (hi : i < 10) (hl : i < l.length) (h : uv l = uvF (l.drop i) i v) :
    uv l = if 128 ≤ (l.getD i 0).toNat then uvF (l.drop (i + 1)) (i + 1) (v + (l.getD i 0).toNat % 128 * 2 ^ (7 * i)) else if i = 9 ∧ 1 < (l.getD i 0).toNat ∨ 0 < i ∧ (l.getD i 0).toNat = 0 then (0, 0) else (v + (l.getD i 0).toNat * 2 ^ (7 * i), i + 1) := by
  rw [h, List.drop_eq_getElem_cons hl]
  have e : l.getD i 0 = l[i] := by simp [hl]
  rw [e]
  simp only [uvF]
  rw [if_neg (by omega)]
theorem pow7 (i : Nat) (h : i ≤ 8) : 2 ^ (7 * i) ≤ 72057594037927936 := Nat.le_trans (Nat.pow_le_pow_right (by decide) (show 7 * i ≤ 56 by omega)) (by decide)
theorem or_shift (v y i : Nat) (hv : v < 2 ^ (7 * i)) (hy : y < 128) (h : i ≤ 8 ∨ (i = 9 ∧ y ≤ 1)) : v ||| (y * 2 ^ (7 * i) % 18446744073709551616) = v + y * 2 ^ (7 * i) := by
  have hlt : y * 2 ^ (7 * i) < 18446744073709551616 := by
    rcases h with h | ⟨rfl, h⟩
    · have h1 := pow7 i h
      have h2 := Nat.mul_le_mul (show y ≤ 127 by omega) h1
      omega
    · have h2 := Nat.mul_le_mul_right (2 ^ (7 * 9)) h
      rw [Nat.one_mul] at h2
      exact Nat.lt_of_le_of_lt h2 (by decide)
  rw [Nat.mod_eq_of_lt hlt, Nat.or_comm, Nat.mul_comm, ← Nat.two_pow_add_eq_or_of_lt hv, Nat.add_comm]
theorem shift_lt (v y i : Nat) (hv : v < 2 ^ (7 * i)) (hy : y < 128) : v + y * 2 ^ (7 * i) < 2 ^ (7 * (i + 1)) := by
  have e2 : 2 ^ (7 * (i + 1)) = 2 ^ (7 * i) * 128 := by rw [Nat.mul_add, Nat.pow_add]
  rw [e2]
  have := Nat.mul_le_mul_right (2 ^ (7 * i)) (show y ≤ 127 by omega)
  omega
structure UvI (l : List UInt8) (i v : Nat) : Prop where
  le : i ≤ l.length
  ten : i ≤ 10
  big : v < 18446744073709551616
  small : i ≤ 9 → v < 2 ^ (7 * i) ∧ uv l = uvF (l.drop i) i v
  over : i = 10 → uv l = (0, 0)
theorem UvI.init (l : List UInt8) : UvI l 0 0 := ⟨Nat.zero_le _, by decide, by decide, fun _ => ⟨by decide, rfl⟩, fun h => by cases h⟩
theorem UvI.next {l : List UInt8} {i v w : Nat} (h : UvI l i v) (hi : i < 10) (hl : i < l.length) (hx : 128 ≤ (l.getD i 0).toNat) (hw : w < 18446744073709551616) (he : i ≤ 8 → w = v + (l.getD i 0).toNat % 128 * 2 ^ (7 * i)) : UvI l (i + 1) w := by
  obtain ⟨h1, h2⟩ := h.small (by omega)
  have hs := uv_step l i v hi hl h2
  rw [if_pos hx] at hs
  refine ⟨hl, by omega, hw, fun h9 => ?_, fun h10 => ?_⟩
  · rw [he (by omega)]
    exact ⟨shift_lt v _ i h1 (Nat.mod_lt _ (by decide)), hs⟩
  · rw [hs, h10, uvF_10]
theorem UvI.none {l : List UInt8} {i v : Nat} (h : UvI l i v) (hi : ¬ (i < l.length ∧ i < 10)) : uv l = (0, 0) := by
  have h1 := h.le
  have h2 := h.ten
  rcases Nat.lt_or_ge i 10 with h3 | h3
  · rw [(h.small (by omega)).2, List.drop_of_length_le (by omega)]; rfl
  · exact h.over (by omega)
theorem UvI.bad {l : List UInt8} {i v : Nat} (h : UvI l i v) (hi : i < 10) (hl : i < l.length) (hx : (l.getD i 0).toNat < 128) (hb : i = 9 ∧ 1 < (l.getD i 0).toNat ∨ 0 < i ∧ (l.getD i 0).toNat = 0) : uv l = (0, 0) := by
  have hs := uv_step l i v hi hl (h.small (by omega)).2
  rw [if_neg (by omega), if_pos hb] at hs
  exact hs
theorem UvI.good {l : List UInt8} {i v : Nat} (h : UvI l i v) (hi : i < 10) (hl : i < l.length) (hx : (l.getD i 0).toNat < 128) (hb : ¬ (i = 9 ∧ 1 < (l.getD i 0).toNat ∨ 0 < i ∧ (l.getD i 0).toNat = 0)) : uv l = (v ||| ((l.getD i 0).toNat % 128 * 2 ^ (7 * i) % 18446744073709551616), i + 1) := by
  obtain ⟨h1, h2⟩ := h.small (by omega)
  have hs := uv_step l i v hi hl h2
  rw [if_neg (by omega), if_neg hb] at hs
  rw [hs, or_shift v _ i h1 (Nat.mod_lt _ (by decide)) (by
    rw [Nat.mod_eq_of_lt hx]
    omega), Nat.mod_eq_of_lt hx]
theorem bad_iff (i x : Nat) {r : Bool} (h : (bif decide ((i : Int) = 9) then (bif decide (1 < (x : Int)) then true else (bif decide (0 < (i : Int)) then decide ((x : Int) = 0) else false)) else (bif decide (0 < (i : Int)) then decide ((x : Int) = 0) else false)) = r) : r = true ↔ (i = 9 ∧ 1 < x ∨ 0 < i ∧ x = 0) := by
  subst h
  by_cases k1 : (i : Int) = 9 <;> by_cases k2 : 1 < (x : Int) <;> by_cases k3 : 0 < (i : Int) <;> by_cases k4 : (x : Int) = 0 <;> simp [k1, k2, k3, k4] <;> omega
def uvV (l : List UInt8) : Value := .tuple [.int .u64 ((uv l).1 : Int), .int .i64 ((uv l).2 : Int)].toArray
theorem unvarint (C : Chunk) (p : Option Addr) (cap : Nat) (l : List UInt8) (hl : l.length ≤ 9223372036854775807) (hB : BtAt C p l) : Does1 Tryz.prog 55 [.slice p l.length cap] [C] (uvV l) := by
  refine fn_intro Tryz.func55 rfl Tryz.ntmps55 rfl (by simp only [argFr, Nat.zero_add, Nat.reduceAdd]; rfl) (fun Γ => ?_)
  repeat (first
    | (refine g_ops ?_; first | refine s_q ?_ | refine s_v ?_ | refine s_s ?_ | refine s_n (fun _ => ?_) | refine s_x ?_ | refine s_y ?_ | refine s_mq ?_ | refine s_app (fun _ _ => ?_) | refine s_mv ?_ | refine s_ms ?_ | refine s_b0 (fun _ => ?_) | ((fail_if_success refine g_lit rfl rfl rfl ?_); first | apply g_partM rfl rfl rfl | apply g_partMB rfl rfl rfl | fail))
    | refine g_seq ?_ | refine g_region ?_ | refine g_nil ?_ | refine g_then_normal ?_ | refine g_block ?_ | refine g_in_normal ?_ | refine g_retc ?_ | refine g_then_ret ?_
    | refine g_in_ret ?_ | refine g_exit ?_ | refine g_then_exit ?_ | refine g_in_exit ?_ | refine g_in_other rfl ?_ | refine g_skip ?_ | refine g_label ?_
    | refine g_cond_true rfl ?_ | refine g_cond_false rfl ?_ | exact s_m | intro _)
  refine s_q (q := by exact qs_min rfl rfl) ?_
  refine g_as 8 (v' := .int .i64 ((min l.length 10 : Nat) : Int)) rfl (congrArg (Value.int .i64) (by split <;> omega)) ?_
  repeat (first
    | (refine g_ops ?_; first | refine s_q ?_ | refine s_v ?_ | refine s_s ?_ | refine s_n (fun _ => ?_) | refine s_x ?_ | refine s_y ?_ | refine s_mq ?_ | refine s_app (fun _ _ => ?_) | refine s_mv ?_ | refine s_ms ?_ | refine s_b0 (fun _ => ?_) | ((fail_if_success refine g_lit rfl rfl rfl ?_); first | apply g_partM rfl rfl rfl | apply g_partMB rfl rfl rfl | fail))
    | refine g_seq ?_ | refine g_region ?_ | refine g_nil ?_ | refine g_then_normal ?_ | refine g_block ?_ | refine g_in_normal ?_ | refine g_retc ?_ | refine g_then_ret ?_
    | refine g_in_ret ?_ | refine g_exit ?_ | refine g_then_exit ?_ | refine g_in_exit ?_ | refine g_in_other rfl ?_ | refine g_skip ?_ | refine g_label ?_
    | refine g_cond_true rfl ?_ | refine g_cond_false rfl ?_ | exact s_m | intro _)
  refine g_loop (X := Nat × Nat) (fun x => [(0, .slice p l.length cap), (2, .int .u64 x.2), (3, .int .i64 0), (8, .int .i64 ((min l.length 10 : Nat) : Int)), (9, .int .i64 x.1)]) (fun _ => [C]) (fun x => UvI l x.1 x.2) (fun x => 10 - x.1) (0, 0) (UvI.init l) (by (repeat (first | exact FrSub.nil | refine FrSub.cons rfl ?_)); first | done | fail) (by (repeat (first | exact Take.nil | apply Take.cons | exact Sel.here | apply Sel.there)); first | done | fail) (fun x hx => ?_)
  obtain ⟨i, v⟩ := x
  simp only at hx
  dsimp only
  repeat (first
    | (refine g_ops ?_; first | refine s_q ?_ | refine s_v ?_ | refine s_s ?_ | refine s_n (fun _ => ?_) | refine s_x ?_ | refine s_y ?_ | refine s_mq ?_ | refine s_app (fun _ _ => ?_) | refine s_mv ?_ | refine s_ms ?_ | refine s_b0 (fun _ => ?_) | ((fail_if_success refine g_lit rfl rfl rfl ?_); first | apply g_partM rfl rfl rfl | apply g_partMB rfl rfl rfl | fail))
    | refine g_seq ?_ | refine g_region ?_ | refine g_nil ?_ | refine g_then_normal ?_ | refine g_block ?_ | refine g_in_normal ?_ | refine g_retc ?_ | refine g_then_ret ?_
    | refine g_in_ret ?_ | refine g_exit ?_ | refine g_then_exit ?_ | refine g_in_exit ?_ | refine g_in_other rfl ?_ | refine g_skip ?_ | refine g_label ?_
    | refine g_cond_true rfl ?_ | refine g_cond_false rfl ?_ | exact s_m | intro _)
  refine g_cond_dec rfl (fun h => ?_) (fun h => ?_)
  · have hi : i < 10 := by omega
    have hil : i < l.length := by omega
    obtain ⟨b, o, rfl, hr0⟩ := hB i hil
    have hr : ∀ j, j = i → Reads C ⟨b, o + j, none⟩ (.int .u8 ((l.getD i 0).toNat : Int)) := fun j e => by rw [e]; exact hr0
    have hnext := fun w h1 => hx.next (w := w) hi hil h1
    have hbad := hx.bad hi hil
    have hgood := hx.good hi hil
    have h64 := hx.big
    have hsm := (hx.small (by omega)).1
    have hx8 : (l.getD i 0).toNat < 256 := (l.getD i 0).toNat_lt
    generalize (l.getD i 0).toNat = x at hr hnext hbad hgood hx8
    repeat (first
      | (refine g_ops ?_; first | refine s_q ?_ | refine s_v ?_ | refine s_s ?_ | refine s_n (fun _ => ?_) | refine s_x ?_ | refine s_y ?_ | refine s_mq ?_ | refine s_app (fun _ _ => ?_) | refine s_mv ?_ | refine s_ms ?_ | refine s_b0 (fun _ => ?_) | ((fail_if_success refine g_lit rfl rfl rfl ?_); first | apply g_partM rfl rfl rfl | apply g_partMB rfl rfl rfl | fail))
      | refine g_seq ?_ | refine g_region ?_ | refine g_nil ?_ | refine g_then_normal ?_ | refine g_block ?_ | refine g_in_normal ?_ | refine g_retc ?_
      | refine g_then_ret ?_ | refine g_in_ret ?_ | refine g_exit ?_ | refine g_then_exit ?_ | refine g_in_exit ?_ | refine g_in_other rfl ?_ | refine g_skip ?_
      | refine g_label ?_ | refine g_cond_true rfl ?_ | refine g_cond_false rfl ?_ | exact s_m | intro _)
    refine s_q (q := by exact qs_and8 (b := 127) rfl rfl hx8 (by decide)) ?_
    refine g_as 18 (v' := .int .u8 ((x % 128 : Nat) : Int)) rfl (congrArg (Value.int .u8) (by rw [and127])) ?_
    refine s_q (q := by exact qs_convInt rfl) ?_
    refine g_as 19 (v' := .int .u64 ((x % 128 : Nat) : Int)) rfl (congrArg (Value.int .u64) (by rw [u64_mod]; omega)) ?_
    repeat (first
      | (refine g_ops ?_; first | refine s_q ?_ | refine s_v ?_ | refine s_s ?_ | refine s_n (fun _ => ?_) | refine s_x ?_ | refine s_y ?_ | refine s_mq ?_ | refine s_app (fun _ _ => ?_) | refine s_mv ?_ | refine s_ms ?_ | refine s_b0 (fun _ => ?_) | ((fail_if_success refine g_lit rfl rfl rfl ?_); first | apply g_partM rfl rfl rfl | apply g_partMB rfl rfl rfl | fail))
      | refine g_seq ?_ | refine g_region ?_ | refine g_nil ?_ | refine g_then_normal ?_ | refine g_block ?_ | refine g_in_normal ?_ | refine g_retc ?_
      | refine g_then_ret ?_ | refine g_in_ret ?_ | refine g_exit ?_ | refine g_then_exit ?_ | refine g_in_exit ?_ | refine g_in_other rfl ?_ | refine g_skip ?_
      | refine g_label ?_ | refine g_cond_true rfl ?_ | refine g_cond_false rfl ?_ | exact s_m | intro _)
    refine g_as 21 (v' := .int .i64 ((7 * i : Nat) : Int)) rfl (congrArg (Value.int .i64) (by omega)) ?_
    refine s_q (q := by exact qs_shl64 (n := 7 * i) rfl rfl (by omega)) ?_
    refine s_q (q := by exact qs_or64 rfl rfl h64 (Nat.mod_lt _ (by decide))) ?_
    have hw64 : (v ||| (x % 128 * 2 ^ (7 * i) % 18446744073709551616)) < 18446744073709551616 := Nat.or_lt_two_pow (n := 64) h64 (Nat.mod_lt _ (by decide))
    have hweq : i ≤ 8 → (v ||| (x % 128 * 2 ^ (7 * i) % 18446744073709551616)) = v + x % 128 * 2 ^ (7 * i) := fun h8 => or_shift v _ i hsm (Nat.mod_lt _ (by decide)) (.inl h8)
    generalize hw : (v ||| (x % 128 * 2 ^ (7 * i) % 18446744073709551616)) = w at hw64 hweq hgood ⊢
    repeat (first
      | (refine g_ops ?_; first | refine s_q ?_ | refine s_v ?_ | refine s_s ?_ | refine s_n (fun _ => ?_) | refine s_x ?_ | refine s_y ?_ | refine s_mq ?_ | refine s_app (fun _ _ => ?_) | refine s_mv ?_ | refine s_ms ?_ | refine s_b0 (fun _ => ?_) | ((fail_if_success refine g_lit rfl rfl rfl ?_); first | apply g_partM rfl rfl rfl | apply g_partMB rfl rfl rfl | fail))
      | refine g_seq ?_ | refine g_region ?_ | refine g_nil ?_ | refine g_then_normal ?_ | refine g_block ?_ | refine g_in_normal ?_ | refine g_retc ?_
      | refine g_then_ret ?_ | refine g_in_ret ?_ | refine g_exit ?_ | refine g_then_exit ?_ | refine g_in_exit ?_ | refine g_in_other rfl ?_ | refine g_skip ?_
      | refine g_label ?_ | refine g_cond_true rfl ?_ | refine g_cond_false rfl ?_ | exact s_m | intro _)
    refine g_cond_dec rfl (fun h2 => ?_) (fun h2 => ?_)
    · repeat (first
        | (refine g_ops ?_; first | refine s_q ?_ | refine s_v ?_ | refine s_s ?_ | refine s_n (fun _ => ?_) | refine s_x ?_ | refine s_y ?_ | refine s_mq ?_ | refine s_app (fun _ _ => ?_) | refine s_mv ?_ | refine s_ms ?_ | refine s_b0 (fun _ => ?_) | ((fail_if_success refine g_lit rfl rfl rfl ?_); first | apply g_partM rfl rfl rfl | apply g_partMB rfl rfl rfl | fail))
        | refine g_seq ?_ | refine g_region ?_ | refine g_nil ?_ | refine g_then_normal ?_ | refine g_block ?_ | refine g_in_normal ?_ | refine g_retc ?_
        | refine g_then_ret ?_ | refine g_in_ret ?_ | refine g_exit ?_ | refine g_then_exit ?_ | refine g_in_exit ?_ | refine g_in_other rfl ?_ | refine g_skip ?_
        | refine g_label ?_ | refine g_cond_true rfl ?_ | refine g_cond_false rfl ?_ | exact s_m | intro _)
      exact g_again (i + 1, w) (by simp only; omega) (hnext w (by omega) hw64 hweq) (by (repeat (first | exact FrSub.nil | refine FrSub.cons rfl ?_)); first | done | fail) (by (repeat (first | exact Take.nil | apply Take.cons | exact Sel.here | apply Sel.there)); first | done | fail)
    · repeat (first
        | (refine g_ops ?_; first | refine s_q ?_ | refine s_v ?_ | refine s_s ?_ | refine s_n (fun _ => ?_) | refine s_x ?_ | refine s_y ?_ | refine s_mq ?_ | refine s_app (fun _ _ => ?_) | refine s_mv ?_ | refine s_ms ?_ | refine s_b0 (fun _ => ?_) | ((fail_if_success refine g_lit rfl rfl rfl ?_); first | apply g_partM rfl rfl rfl | apply g_partMB rfl rfl rfl | fail))
        | apply g_regB (id := 7) 39 | refine g_seq ?_ | refine g_region ?_ | refine g_nil ?_ | refine g_then_normal ?_ | refine g_block ?_ | refine g_in_normal ?_
        | refine g_retc ?_ | refine g_then_ret ?_ | refine g_in_ret ?_ | refine g_exit ?_ | refine g_then_exit ?_ | refine g_in_exit ?_ | refine g_in_other rfl ?_
        | refine g_skip ?_ | refine g_label ?_ | refine g_cond_true rfl ?_ | refine g_cond_false rfl ?_ | exact s_m | intro _ | (refine gp_take ?_; first | refine p_q ?_ | refine p_x ?_ | refine p_mq ?_ | ((fail_if_success refine gp_lit rfl rfl rfl rfl ?_); first | apply gp_guard_dec rfl rfl rfl rfl | apply gp_guard rfl rfl rfl rfl | fail))
        | (refine gp_see ?_; first | refine p_f ?_ | refine p_sx ?_ | ((fail_if_success refine gp_lit rfl rfl rfl rfl ?_); first | apply gp_guard_dec rfl rfl rfl rfl | apply gp_guard rfl rfl rfl rfl | fail) | refine p_sq ?_)
        | (refine gp_one ?_; first | refine p_v ?_ | refine p_s ?_ | refine p_n (fun _ => ?_) | refine p_y ?_ | refine p_app (fun _ _ => ?_) | refine p_mv ?_ | refine p_ms ?_ | refine p_b0 (fun _ => ?_) | ((fail_if_success refine gp_lit rfl rfl rfl rfl ?_); first | apply gp_guard_dec rfl rfl rfl rfl | apply gp_guard rfl rfl rfl rfl | fail))
        | refine gp_two ?_ ?_ | refine gp_done hd hk ?_ | intro _ | refine p_ta hd hk (fun _ _ _ hd hk => ?_) | refine p_ts hd hk (fun _ hd hk => ?_))
      refine g_cond rfl (fun h3 => ?_) (fun h3 => ?_)
      · have e := hbad (by omega) ((bad_iff i x h3).1 rfl)
        repeat (first
          | (refine g_ops ?_; first | refine s_q ?_ | refine s_v ?_ | refine s_s ?_ | refine s_n (fun _ => ?_) | refine s_x ?_ | refine s_y ?_ | refine s_mq ?_ | refine s_app (fun _ _ => ?_) | refine s_mv ?_ | refine s_ms ?_ | refine s_b0 (fun _ => ?_) | ((fail_if_success refine g_lit rfl rfl rfl ?_); first | apply g_partM rfl rfl rfl | apply g_partMB rfl rfl rfl | fail))
          | refine g_seq ?_ | refine g_region ?_ | refine g_nil ?_ | refine g_then_normal ?_ | refine g_block ?_ | refine g_in_normal ?_ | refine g_retc ?_
          | refine g_then_ret ?_ | refine g_in_ret ?_ | refine g_exit ?_ | refine g_then_exit ?_ | refine g_in_exit ?_ | refine g_in_other rfl ?_ | refine g_skip ?_
          | refine g_label ?_ | refine g_cond_true rfl ?_ | refine g_cond_false rfl ?_ | exact s_m | intro _)
        exact g_ret () rfl (by (repeat (first | exact RVs.nil | apply RVs.tmp rfl | apply RVs.cellA rfl (by (repeat (first | exact Sel.here | apply Sel.there)); first | done | fail) (by (repeat (first | exact Cut.zero | apply Cut.take | apply Cut.skip)); first | done | fail) | apply RVs.cell1 rfl (by (repeat (first | exact Sel.here | apply Sel.there)); first | done | fail) rfl)); first | done | fail) (by (repeat (first | exact Take.nil | apply Take.cons | exact Sel.here | apply Sel.there)); first | done | fail) (by simp only [pack, uvV, e]; rfl) trivial
      · have e := hgood (by omega) (fun hc => by have := (bad_iff i x h3).2 hc; cases this)
        repeat (first
          | (refine g_ops ?_; first | refine s_q ?_ | refine s_v ?_ | refine s_s ?_ | refine s_n (fun _ => ?_) | refine s_x ?_ | refine s_y ?_ | refine s_mq ?_ | refine s_app (fun _ _ => ?_) | refine s_mv ?_ | refine s_ms ?_ | refine s_b0 (fun _ => ?_) | ((fail_if_success refine g_lit rfl rfl rfl ?_); first | apply g_partM rfl rfl rfl | apply g_partMB rfl rfl rfl | fail))
          | refine g_seq ?_ | refine g_region ?_ | refine g_nil ?_ | refine g_then_normal ?_ | refine g_block ?_ | refine g_in_normal ?_ | refine g_retc ?_
          | refine g_then_ret ?_ | refine g_in_ret ?_ | refine g_exit ?_ | refine g_then_exit ?_ | refine g_in_exit ?_ | refine g_in_other rfl ?_ | refine g_skip ?_
          | refine g_label ?_ | refine g_cond_true rfl ?_ | refine g_cond_false rfl ?_ | exact s_m | intro _)
        exact g_ret () rfl (by (repeat (first | exact RVs.nil | apply RVs.tmp rfl | apply RVs.cellA rfl (by (repeat (first | exact Sel.here | apply Sel.there)); first | done | fail) (by (repeat (first | exact Cut.zero | apply Cut.take | apply Cut.skip)); first | done | fail) | apply RVs.cell1 rfl (by (repeat (first | exact Sel.here | apply Sel.there)); first | done | fail) rfl)); first | done | fail) (by (repeat (first | exact Take.nil | apply Take.cons | exact Sel.here | apply Sel.there)); first | done | fail) (by simp only [pack, uvV, e]; rfl) trivial
  · have e := hx.none (by omega)
    repeat (first
      | (refine g_ops ?_; first | refine s_q ?_ | refine s_v ?_ | refine s_s ?_ | refine s_n (fun _ => ?_) | refine s_x ?_ | refine s_y ?_ | refine s_mq ?_ | refine s_app (fun _ _ => ?_) | refine s_mv ?_ | refine s_ms ?_ | refine s_b0 (fun _ => ?_) | ((fail_if_success refine g_lit rfl rfl rfl ?_); first | apply g_partM rfl rfl rfl | apply g_partMB rfl rfl rfl | fail))
      | refine g_seq ?_ | refine g_region ?_ | refine g_nil ?_ | refine g_then_normal ?_ | refine g_block ?_ | refine g_in_normal ?_ | refine g_retc ?_
      | refine g_then_ret ?_ | refine g_in_ret ?_ | refine g_exit ?_ | refine g_then_exit ?_ | refine g_in_exit ?_ | refine g_in_other rfl ?_ | refine g_skip ?_
      | refine g_label ?_ | refine g_cond_true rfl ?_ | refine g_cond_false rfl ?_ | exact s_m | intro _)
    exact g_ret () rfl (by (repeat (first | exact RVs.nil | apply RVs.tmp rfl | apply RVs.cellA rfl (by (repeat (first | exact Sel.here | apply Sel.there)); first | done | fail) (by (repeat (first | exact Cut.zero | apply Cut.take | apply Cut.skip)); first | done | fail) | apply RVs.cell1 rfl (by (repeat (first | exact Sel.here | apply Sel.there)); first | done | fail) rfl)); first | done | fail) (by (repeat (first | exact Take.nil | apply Take.cons | exact Sel.here | apply Sel.there)); first | done | fail) (by simp only [pack, uvV, e]; rfl) trivial
end Go.Proofs.YtdldgbbhagpofaaGreatDoor

namespace Go.Proofs.YtdldgbbhagpofaaGreatDoor
open Go.Sl facts
attribute [local irreducible] Code.wp wpList Exit.then Exit.inBlock bodyPost Back MidQ G GP QStep VStep CStep SStep Does Post Reads
attribute [local irreducible] Begin RPost MPost frameB recB partB pbytes
theorem bytes_ {H : HP} (p p' : Option Addr) (c c' : Nat) (l : List UInt8) (hS : BtAt (Pile H) p l) (hS' : BtAt (Pile H) p' l) (hl : l.length ≤ 1000000000) : Does1 Tryz.prog 51 [.slice p l.length c, .slice p' l.length c'] [Pile H] (.bool true) := by
  refine fn_intro Tryz.func51 rfl Tryz.ntmps51 rfl (by simp only [argFr, Nat.zero_add, Nat.reduceAdd]; rfl) (fun Γ => ?_)
  repeat (first
    | (refine g_ops ?_; first | refine sO ?_ | refine s_n (fun _ => ?_) | refine s_appB (fun _ _ => ?_) | refine s_app (fun _ _ => ?_) | refine s_b0 (fun _ => ?_) | ((fail_if_success refine g_lit rfl rfl rfl ?_); first | apply g_partM rfl rfl rfl | apply g_partMB rfl rfl rfl | fail))
    | refine gS ?_ | exact s_m | intro _)
  refine g_as 10 (v' := .bool false) rfl (congrArg Value.bool (by simp)) ?_
  repeat (first
    | (refine g_ops ?_; first | refine sO ?_ | refine s_n (fun _ => ?_) | refine s_appB (fun _ _ => ?_) | refine s_app (fun _ _ => ?_) | refine s_b0 (fun _ => ?_) | ((fail_if_success refine g_lit rfl rfl rfl ?_); first | apply g_partM rfl rfl rfl | apply g_partMB rfl rfl rfl | fail))
    | refine gS ?_ | exact s_m | intro _)
  refine g_loop (X := Nat) (fun i => [(0, .slice p l.length c), (1, .slice p' l.length c'), (5, int i)]) (fun _ => [Pile H]) (fun i => i ≤ l.length) (fun i => l.length - i) 0 (Nat.zero_le _) (by (repeat (first | exact FrSub.nil | refine FrSub.cons rfl ?_)); first | done | fail) (by (repeat (first | exact Take.nil | apply Take.cons | exact Sel.here | apply Sel.there)); first | done | fail) (fun i hi => ?_)
  repeat (first
    | (refine g_ops ?_; first | refine sO ?_ | refine s_n (fun _ => ?_) | refine s_appB (fun _ _ => ?_) | refine s_app (fun _ _ => ?_) | refine s_b0 (fun _ => ?_) | ((fail_if_success refine g_lit rfl rfl rfl ?_); first | apply g_partM rfl rfl rfl | apply g_partMB rfl rfl rfl | fail))
    | refine gS ?_ | exact s_m | intro _)
  refine g_cond_dec rfl (fun h => ?_) (fun h => ?_)
  · have hi' : i < l.length := by omega
    obtain ⟨pb, po, rfl, hr0⟩ := hS i hi'
    obtain ⟨pb', po', rfl, hr0'⟩ := hS' i hi'
    have hr : ∀ k, k = i → Reads (Pile H) ⟨pb, po + k, none⟩ (.int .u8 ((l.getD i 0).toNat : Int)) := fun _ e => e ▸ hr0
    have hr2 : ∀ k, k = i → Reads (Pile H) ⟨pb', po' + k, none⟩ (.int .u8 ((l.getD i 0).toNat : Int)) := fun _ e => e ▸ hr0'
    generalize l.getD i 0 = v at hr hr2
    repeat (first
      | (refine g_ops ?_; first | refine sO ?_ | refine s_n (fun _ => ?_) | refine s_appB (fun _ _ => ?_) | refine s_app (fun _ _ => ?_) | refine s_b0 (fun _ => ?_) | ((fail_if_success refine g_lit rfl rfl rfl ?_); first | apply g_partM rfl rfl rfl | apply g_partMB rfl rfl rfl | fail))
      | refine g_draw (id := 6) (.take 0 (.take 1 (.take 2 (.see 3 [] (.take 4 (.take 5 (.take 6 (.see 7 [] (.take 8 .done))))))))) (by kernel_rfl) (take_all _) (fun k hd hk => ?_)
      | refine gS ?_ | exact s_m | intro _ | (refine gp_take ?_; first | refine pT ?_ | ((fail_if_success refine gp_lit rfl rfl rfl rfl ?_); first | apply gp_guard_dec rfl rfl rfl rfl | apply gp_guard rfl rfl rfl rfl | fail))
      | (refine gp_see ?_; first | refine p_f ?_ | refine pS ?_ | ((fail_if_success refine gp_lit rfl rfl rfl rfl ?_); first | apply gp_guard_dec rfl rfl rfl rfl | apply gp_guard rfl rfl rfl rfl | fail))
      | (refine gp_one ?_; first | refine pO ?_ | refine p_n (fun _ => ?_) | refine p_appB (fun _ _ => ?_) | refine p_app (fun _ _ => ?_) | refine p_b0 (fun _ => ?_) | ((fail_if_success refine gp_lit rfl rfl rfl rfl ?_); first | apply gp_guard_dec rfl rfl rfl rfl | apply gp_guard rfl rfl rfl rfl | fail))
      | refine gp_two ?_ ?_ | refine gp_done hd hk ?_ | intro _ | refine p_ta hd hk (fun _ _ _ hd hk => ?_) | refine p_ts hd hk (fun _ hd hk => ?_))
    dsimp only [List.cons_append, List.nil_append]
    refine g_as 25 (v' := .bool false) rfl (congrArg Value.bool (by simp)) ?_
    repeat (first
      | (refine g_ops ?_; first | refine sO ?_ | refine s_n (fun _ => ?_) | refine s_appB (fun _ _ => ?_) | refine s_app (fun _ _ => ?_) | refine s_b0 (fun _ => ?_) | ((fail_if_success refine g_lit rfl rfl rfl ?_); first | apply g_partM rfl rfl rfl | apply g_partMB rfl rfl rfl | fail))
      | refine gS ?_ | exact s_m | intro _)
    refine g_as 5 (v' := int ((i + 1 : Nat) : Int)) rfl (congrArg (Value.int .i64) (by push_cast; rfl)) ?_
    exact gA (i + 1) (by omega) hi'
  · repeat (first
      | (refine g_ops ?_; first | refine sO ?_ | refine s_n (fun _ => ?_) | refine s_appB (fun _ _ => ?_) | refine s_app (fun _ _ => ?_) | refine s_b0 (fun _ => ?_) | ((fail_if_success refine g_lit rfl rfl rfl ?_); first | apply g_partM rfl rfl rfl | apply g_partMB rfl rfl rfl | fail))
      | refine gS ?_ | exact s_m | intro _)
    exact gR () trivial
theorem bts_len {a b : List BV} (h : bts a = bts b) : a.length = b.length := by have := congrArg List.length h; simpa using this
theorem bts_at {a b : List BV} (h : bts a = bts b) {i : Nat} (ha : i < a.length) (hb : i < b.length) : a[i].l = b[i].l := by
  have h1 : (bts a)[i]? = (bts b)[i]? := by rw [h]
  simpa [List.getElem?_map, List.getElem?_eq_getElem ha, List.getElem?_eq_getElem hb] using h1
theorem rows_ {H : HP} (p p' : Option Addr) (c c' : Nat) (a b : List BV) (hS : RecsAt H p a) (hS' : RecsAt H p' b) (he : bts a = bts b) (hl : a.length ≤ 1000000000) (hb : ∀ r ∈ a, r.l.length ≤ 1000000000) : Does1 Tryz.prog 32 [.slice p a.length c, .slice p' b.length c'] [Pile H] (.bool true) := by
  have hlen := bts_len he
  refine fn_intro Tryz.func32 rfl Tryz.ntmps32 rfl (by simp only [argFr, Nat.zero_add, Nat.reduceAdd]; rfl) (fun Γ => ?_)
  repeat (first
    | (refine g_ops ?_; first | refine sO ?_ | refine s_n (fun _ => ?_) | refine s_appB (fun _ _ => ?_) | refine s_app (fun _ _ => ?_) | refine s_b0 (fun _ => ?_) | ((fail_if_success refine g_lit rfl rfl rfl ?_); first | apply g_partM rfl rfl rfl | apply g_partMB rfl rfl rfl | fail))
    | refine gS ?_ | exact s_m | intro _)
  refine g_as 10 (v' := .bool false) rfl (congrArg Value.bool (by simp [hlen])) ?_
  repeat (first
    | (refine g_ops ?_; first | refine sO ?_ | refine s_n (fun _ => ?_) | refine s_appB (fun _ _ => ?_) | refine s_app (fun _ _ => ?_) | refine s_b0 (fun _ => ?_) | ((fail_if_success refine g_lit rfl rfl rfl ?_); first | apply g_partM rfl rfl rfl | apply g_partMB rfl rfl rfl | fail))
    | refine gS ?_ | exact s_m | intro _)
  refine g_loop (X := Nat) (fun i => [(0, .slice p a.length c), (1, .slice p' b.length c'), (5, int i)]) (fun _ => [Pile H]) (fun i => i ≤ a.length) (fun i => a.length - i) 0 (Nat.zero_le _) (by (repeat (first | exact FrSub.nil | refine FrSub.cons rfl ?_)); first | done | fail) (by (repeat (first | exact Take.nil | apply Take.cons | exact Sel.here | apply Sel.there)); first | done | fail) (fun i hi => ?_)
  repeat (first
    | (refine g_ops ?_; first | refine sO ?_ | refine s_n (fun _ => ?_) | refine s_appB (fun _ _ => ?_) | refine s_app (fun _ _ => ?_) | refine s_b0 (fun _ => ?_) | ((fail_if_success refine g_lit rfl rfl rfl ?_); first | apply g_partM rfl rfl rfl | apply g_partMB rfl rfl rfl | fail))
    | refine gS ?_ | exact s_m | intro _)
  refine g_cond_dec rfl (fun h => ?_) (fun h => ?_)
  · have hi' : i < a.length := by omega
    have hi2 : i < b.length := by omega
    obtain ⟨pb, po, rfl, hr0⟩ := slAt_cell hS.sl (i := i) (v := (a[i]).v) (by simp [hi'])
    obtain ⟨pb', po', rfl, hr0'⟩ := slAt_cell hS'.sl (i := i) (v := (b[i]).v) (by simp [hi2])
    have hb1 := hS.at_ a[i] (List.getElem_mem hi')
    have hb2 := hS'.at_ b[i] (List.getElem_mem hi2)
    have hbl := hb a[i] (List.getElem_mem hi')
    have hee := bts_at he hi' hi2
    generalize a[i] = x at hr0 hb1 hbl hee
    generalize b[i] = y at hr0' hb2 hee
    obtain ⟨xp, xl, xc⟩ := x
    obtain ⟨yp, yl, yc⟩ := y
    dsimp only at hee hb1 hb2 hbl
    subst hee
    have hr : ∀ k, k = i → Reads (Pile H) ⟨pb, po + k, none⟩ (.slice xp xl.length xc) := fun _ e => e ▸ hr0
    have hr2 : ∀ k, k = i → Reads (Pile H) ⟨pb', po' + k, none⟩ (.slice yp xl.length yc) := fun _ e => e ▸ hr0'
    have hbb := bytes_ xp yp xc yc xl hb1 hb2 hbl
    repeat (first
      | (refine g_ops ?_; first | refine sO ?_ | refine s_n (fun _ => ?_) | refine s_appB (fun _ _ => ?_) | refine s_app (fun _ _ => ?_) | refine s_b0 (fun _ => ?_) | ((fail_if_success refine g_lit rfl rfl rfl ?_); first | apply g_partM rfl rfl rfl | apply g_partMB rfl rfl rfl | fail))
      | refine g_draw (id := 6) (.take 0 (.take 1 (.take 2 (.see 3 [] (.take 4 (.take 5 (.take 6 (.see 7 [] (.one 8 (.take 9 .done)))))))))) (by kernel_rfl) (take_all _) (fun k hd hk => ?_)
      | refine gS ?_ | exact s_m | intro _ | (refine gp_take ?_; first | refine pT ?_ | ((fail_if_success refine gp_lit rfl rfl rfl rfl ?_); first | apply gp_guard_dec rfl rfl rfl rfl | apply gp_guard rfl rfl rfl rfl | fail))
      | (refine gp_see ?_; first | refine p_f ?_ | refine pS ?_ | ((fail_if_success refine gp_lit rfl rfl rfl rfl ?_); first | apply gp_guard_dec rfl rfl rfl rfl | apply gp_guard rfl rfl rfl rfl | fail))
      | (refine gp_one ?_; first | refine pO ?_ | refine p_n (fun _ => ?_) | refine p_appB (fun _ _ => ?_) | refine p_app (fun _ _ => ?_) | refine p_b0 (fun _ => ?_) | ((fail_if_success refine gp_lit rfl rfl rfl rfl ?_); first | apply gp_guard_dec rfl rfl rfl rfl | apply gp_guard rfl rfl rfl rfl | fail) | refine p_cP (hbb) hd hk (fun _ _ => ?_))
      | refine gp_two ?_ ?_ | refine gp_done hd hk ?_ | intro _ | refine p_ta hd hk (fun _ _ _ hd hk => ?_) | refine p_ts hd hk (fun _ hd hk => ?_))
    refine g_as 5 (v' := int ((i + 1 : Nat) : Int)) rfl (congrArg (Value.int .i64) (by push_cast; rfl)) ?_
    exact gA (i + 1) (by omega) hi'
  · repeat (first
      | (refine g_ops ?_; first | refine sO ?_ | refine s_n (fun _ => ?_) | refine s_appB (fun _ _ => ?_) | refine s_app (fun _ _ => ?_) | refine s_b0 (fun _ => ?_) | ((fail_if_success refine g_lit rfl rfl rfl ?_); first | apply g_partM rfl rfl rfl | apply g_partMB rfl rfl rfl | fail))
      | refine gS ?_ | exact s_m | intro _)
    exact gR () trivial
theorem bts_rd0 (rs : List BV) (m : Int) (h : (rs.length : Int) ≤ m) : rdL rs 0 m = rs := by
  unfold rdL
  rw [List.drop_zero, List.take_of_length_le (by omega)]
theorem has_ {H : HP} (lg d : Nat) (x : LG) (off : Bool) (p : Option Addr) (c : Nat) (ls : List BV) (hL : RecsAt H p ls) (hR : BtsAt H x.rs) (he : bts x.rs = bts ls) (hn : x.rs.length ≤ 1000000) (hb : ∀ r ∈ x.rs, r.l.length ≤ 1000000) :
    Does Tryz.prog 12 [ptr lg, .slice p ls.length c] (x.L lg d off ++ [Pile H]) (X := HP) (fun _ => .bool true) (fun H' => x.L lg d off ++ [Pile H']) (fun H' => HP.sub H H') := by
  have hlen := bts_len he
  have hrd := read_ (H := H) lg d x off 0 ((ls.length : Int) + 5) (Nat.zero_le _) hR hn hb
  have hb1 := read_bad lg d x off ((ls.length : Int) + 1) 1 (.inr (by omega))
  have hb2 := read_bad lg d x off (-1) 1 (.inl (by decide))
  rw [bts_rd0 _ _ (by omega)] at hrd
  obtain ⟨rq, rc, xs, fq, fc, fs, size, sl⟩ := x
  dsimp only [LG.L, LG.row, LG.own] at he hlen hn hb hrd hb1 hb2 ⊢
  have hln := len_ lg d rq xs.length rc (.slice fq fs.length fc) size sl off
  dsimp only [List.cons_append, List.nil_append] at hrd ⊢
  refine fn_intro Tryz.func12 rfl Tryz.ntmps12 rfl (by simp only [argFr, Nat.zero_add, Nat.reduceAdd]; rfl) (fun Γ => ?_)
  repeat (first
    | (refine g_ops ?_; first | refine sO ?_ | refine s_n (fun _ => ?_) | refine s_appB (fun _ _ => ?_) | refine s_app (fun _ _ => ?_) | refine s_b0 (fun _ => ?_) | ((fail_if_success refine g_lit rfl rfl rfl ?_); first | apply g_partM rfl rfl rfl | apply g_partMB rfl rfl rfl | fail) | refine s_c (hrd) (fun _ _ => ?_))
    | apply g_regB (id := 6) 4 | refine gS ?_ | exact s_m | intro _ | (refine gp_take ?_; first | refine pT ?_ | ((fail_if_success refine gp_lit rfl rfl rfl rfl ?_); first | apply gp_guard_dec rfl rfl rfl rfl | apply gp_guard rfl rfl rfl rfl | fail))
    | (refine gp_see ?_; first | refine p_f ?_ | refine pS ?_ | ((fail_if_success refine gp_lit rfl rfl rfl rfl ?_); first | apply gp_guard_dec rfl rfl rfl rfl | apply gp_guard rfl rfl rfl rfl | fail))
    | (refine gp_one ?_; first | refine pO ?_ | refine p_n (fun _ => ?_) | refine p_appB (fun _ _ => ?_) | refine p_app (fun _ _ => ?_) | refine p_b0 (fun _ => ?_) | ((fail_if_success refine gp_lit rfl rfl rfl rfl ?_); first | apply gp_guard_dec rfl rfl rfl rfl | apply gp_guard rfl rfl rfl rfl | fail) | refine p_c (hrd) (fun _ _ => ?_))
    | refine gp_two ?_ ?_ | refine gp_done hd hk ?_ | intro _ | refine p_ta hd hk (fun _ _ _ hd hk => ?_) | refine p_ts hd hk (fun _ hd hk => ?_))
  rename_i y hy
  obtain ⟨yq, yc, ws, H1⟩ := y
  obtain ⟨h1, h2, h3⟩ := hy
  dsimp only [List.cons_append, List.nil_append] at h1 h2 h3 ⊢
  have hwl := bts_len h3
  refine g_pile (p := yq) (m := ws.length) (c := yc) (n := 1) (xs := ws.map BV.v) (e := 28) (by (repeat (first | exact Sel.here | apply Sel.there)); first | done | fail) (by (repeat (first | exact Sel.here | apply Sel.there)); first | done | fail) (fun H2 hs2 hA2 => ?_)
  have hrr := rows_ (H := H2) yq p yc c ws ls ⟨hA2, fun r hr => BtAt.grow (h2 r hr) hs2⟩ (hL.grow (h1.trans hs2)) (h3.trans he) (by omega) (fun r hr => by
    have : r.l ∈ bts xs := by rw [← h3]; exact List.mem_map.2 ⟨r, hr, rfl⟩
    obtain ⟨r', hr', e⟩ := List.mem_map.1 this
    have := hb r' hr'
    rw [← e]; omega)
  repeat ((fail_if_success refine s_at 24 ?_); first
    | (refine g_ops ?_; first | refine sO ?_ | refine s_n (fun _ => ?_) | refine s_appB (fun _ _ => ?_) | refine s_app (fun _ _ => ?_) | refine s_b0 (fun _ => ?_) | ((fail_if_success refine g_lit rfl rfl rfl ?_); first | apply g_partM rfl rfl rfl | apply g_partMB rfl rfl rfl | fail) | refine s_k (hln) ?_)
    | apply g_regB (id := 2) 33 | apply g_regB (id := 6) 4 | refine gS ?_ | exact s_m | intro _ | (refine gp_take ?_; first | refine pT ?_ | ((fail_if_success refine gp_lit rfl rfl rfl rfl ?_); first | apply gp_guard_dec rfl rfl rfl rfl | apply gp_guard rfl rfl rfl rfl | fail))
    | (refine gp_see ?_; first | refine p_f ?_ | refine pS ?_ | ((fail_if_success refine gp_lit rfl rfl rfl rfl ?_); first | apply gp_guard_dec rfl rfl rfl rfl | apply gp_guard rfl rfl rfl rfl | fail) | refine p_h (hln) hd hk ?_)
    | (refine gp_one ?_; first | refine pO ?_ | refine p_n (fun _ => ?_) | refine p_appB (fun _ _ => ?_) | refine p_app (fun _ _ => ?_) | refine p_b0 (fun _ => ?_) | ((fail_if_success refine gp_lit rfl rfl rfl rfl ?_); first | apply gp_guard_dec rfl rfl rfl rfl | apply gp_guard rfl rfl rfl rfl | fail) | refine p_k (hln) ?_)
    | refine gp_two ?_ ?_ | refine gp_done hd hk ?_ | intro _ | refine p_ta hd hk (fun _ _ _ hd hk => ?_) | refine p_ts hd hk (fun _ hd hk => ?_))
  first
    | (refine g_ops ?_; first | refine sO ?_ | refine s_n (fun _ => ?_) | refine s_appB (fun _ _ => ?_) | refine s_app (fun _ _ => ?_) | refine s_b0 (fun _ => ?_) | ((fail_if_success refine g_lit rfl rfl rfl ?_); first | apply g_partM rfl rfl rfl | apply g_partMB rfl rfl rfl | fail))
    | refine gS ?_ | exact s_m | intro _
  refine g_as 24 (v' := .bool false) rfl (congrArg Value.bool (by simp [hlen])) ?_
  repeat (first
    | (refine g_ops ?_; first | refine sO ?_ | refine s_n (fun _ => ?_) | refine s_appB (fun _ _ => ?_) | refine s_app (fun _ _ => ?_) | refine s_b0 (fun _ => ?_) | ((fail_if_success refine g_lit rfl rfl rfl ?_); first | apply g_partM rfl rfl rfl | apply g_partMB rfl rfl rfl | fail) | refine s_k (hln) ?_ | refine s_k (hrr) ?_ | refine s_k (hb1) ?_ | refine s_k (hb2) ?_)
    | apply g_regB (id := 2) 33 | apply g_regB (id := 6) 4 | refine gS ?_ | exact s_m | intro _ | (refine gp_take ?_; first | refine pT ?_ | ((fail_if_success refine gp_lit rfl rfl rfl rfl ?_); first | apply gp_guard_dec rfl rfl rfl rfl | apply gp_guard rfl rfl rfl rfl | fail))
    | (refine gp_see ?_; first | refine p_f ?_ | refine pS ?_ | ((fail_if_success refine gp_lit rfl rfl rfl rfl ?_); first | apply gp_guard_dec rfl rfl rfl rfl | apply gp_guard rfl rfl rfl rfl | fail) | refine p_h (hln) hd hk ?_ | refine p_h (hrr) hd hk ?_ | refine p_h (hb1) hd hk ?_ | refine p_h (hb2) hd hk ?_)
    | (refine gp_one ?_; first | refine pO ?_ | refine p_n (fun _ => ?_) | refine p_appB (fun _ _ => ?_) | refine p_app (fun _ _ => ?_) | refine p_b0 (fun _ => ?_) | ((fail_if_success refine gp_lit rfl rfl rfl rfl ?_); first | apply gp_guard_dec rfl rfl rfl rfl | apply gp_guard rfl rfl rfl rfl | fail) | refine p_k (hln) ?_ | refine p_k (hrr) ?_ | refine p_k (hb1) ?_ | refine p_k (hb2) ?_)
    | refine gp_two ?_ ?_ | refine gp_done hd hk ?_ | intro _ | refine p_ta hd hk (fun _ _ _ hd hk => ?_) | refine p_ts hd hk (fun _ hd hk => ?_))
  exact gR H2 (h1.trans hs2)
end Go.Proofs.YtdldgbbhagpofaaGreatDoor
