/- Contracts and laws that the proof stands on. -/
import Derived.Test.YtdldgbbhagpofaaGreatDoorSeglogCrash24
import Derived.Test.YtdldgbbhagpofaaGreatDoorSeglogCrash23
import Derived.Test.YtdldgbbhagpofaaGreatDoorSeglogCrash19
import Derived.Test.YtdldgbbhagpofaaGreatDoorSeglogCrash8
import Derived.Test.YtdldgbbhagpofaaGreatDoorSeglogCrash5
set_option linter.unusedSimpArgs false
set_option linter.unusedVariables false
namespace Go.Proofs.YtdldgbbhagpofaaGreatDoor
open Go.Sl facts
structure PF (S : List Sg) (out : List PA) (T : List Sg) (p : Nat) (g : Bool) : Prop where
  file : ∀ j z, out[j]? = some z → z.file = p + j
  new_ : ∀ j z, out[j]? = some z → (0 < j ∨ g = true) → ∃ s, T[p + j]? = some s ∧ sgB s = partA z
  old_ : g = false → ∃ z s, out[0]? = some z ∧ S[p]? = some s ∧ z.fresh = false ∧ T[p]? = some (s.1, s.2 ++ bts z.l) ∧ sgB (s.1, s.2 ++ bts z.l) = sgB s ++ partA z
  low : ∀ a, a < p → T[a]? = S[a]?
  len : T.length = p + out.length
  slen : S.length = p + (if g then 0 else 1)
theorem FilesOk.pf {S : List Sg} {out : List PA} (h : FilesOk S.length out) : ∃ p g, PF S out (addP S out) p g := by
  rcases h.len with ⟨h1, h2⟩ | ⟨w, t, rfl, h1, h2, h3, h4⟩
  · refine ⟨S.length, true, ⟨fun j z hz => fileSeq_idx h1 hz, fun j z hz _ => ?_, fun h => (by cases h), fun a ha => ?_, h2, by simp⟩⟩
    · have hf := (fileSeq_mem h1 z (List.mem_of_getElem? hz)).2.2.2
      refine ⟨_, ?_, (partA_new hf).symm⟩
      rw [fileSeq_get S h1 rfl, if_neg (by omega), Nat.add_sub_cancel_left, hz]
      rfl
    · rw [fileSeq_get S h1 rfl, if_pos ha]
  · have hS0 : S ≠ [] := fun h0 => by rw [h0] at h2; simp at h2
    obtain ⟨S', s, rfl⟩ := snoc_of hS0
    have e1 : addP (S' ++ [s]) (w :: t) = addP (S' ++ [(s.1, s.2 ++ bts w.l)]) t := by
      show addP (add1 _ w) t = _
      unfold add1
      rw [if_neg (by rw [h1]; decide), modLast_snoc]
    have hl : (S' ++ [s]).length = S'.length + 1 := by simp
    have hwf : w.file = S'.length := by omega
    rw [hl] at h3 h4
    refine ⟨S'.length, false, ⟨fun j z hz => ?_, fun j z hz hj => ?_, fun _ => ⟨w, s, rfl, by simp, h1, ?_, (partA_old h1 s).symm⟩, fun a ha => ?_, by rw [h4, List.length_cons]; omega, by simp⟩⟩
    · cases j with
      | zero => simp at hz; rw [← hz]; omega
      | succ j => have := fileSeq_idx h3 (i := j) (z := z) (by simpa using hz); omega
    · obtain ⟨j, rfl⟩ : ∃ j', j = j' + 1 := ⟨j - 1, by rcases hj with h | h; omega; cases h⟩
      have hz' : t[j]? = some z := by simpa using hz
      have hf := (fileSeq_mem h3 z (List.mem_of_getElem? hz')).2.2.2
      refine ⟨_, ?_, (partA_new hf).symm⟩
      rw [e1, fileSeq_get _ h3 (by simp), if_neg (by omega), show S'.length + (j + 1) - (S'.length + 1) = j by omega, hz']
      rfl
    · rw [e1, fileSeq_get _ h3 (by simp), if_pos (by omega)]
      simp
    · rw [e1, fileSeq_get _ h3 (by simp), if_pos (by omega), List.getElem?_append_left ha, List.getElem?_append_left ha]
theorem InvC.of_off {S : List Sg} {x : LG} {fs : List Fi} {B U : Nat} (h : JL S x fs B U) {rs : List BV} (h0 : 0 < rs.length) (hn : rs.length ≤ 100) (hr : ∀ r ∈ rs, r.l.length ≤ 65536) (hB : B + sumL rs ≤ 190000) (hU : U + (sumL rs + 26 * rs.length) ≤ 900000) (hnum : (flatS S).length + rs.length ≤ 100000) {ps : List PV} {i : Nat} {z : AcY} {ops ct : Int} (hps : ps.map PV.a = (partsL S.length (lastB S) false (flatS S).length rs).out) (hi : i < ps.length) (ho : AyOff ps fs ops ct i z) :
    ∃ T p c0 g, InvC T p c0 g z.y.fs ∧ (∀ s, T[p]? = some s → s.1 + c0 = (flatS S).length) ∧ flatS T = flatS S ++ bts rs := by
  have hp := parts_lay h.cons h.clo rs
  have hpk := h.pok hn (by omega) (by omega)
  have hne := parts_ne S.length (lastB S) false (flatS S).length rs (fun e => by rw [e] at h0; simp at h0)
  generalize partsL S.length (lastB S) false (flatS S).length rs = st at *
  obtain ⟨p, g, hf⟩ := hp.files.pf
  have hflat := hp.flat
  have hcons := hp.cons
  have hclo := clo_len hp.clo
  have hby := h.byt
  rw [hflat, sumB_append, sumB_bts] at hclo
  generalize addP S st.out = T at hf hflat hcons hclo
  obtain ⟨⟨gs, hw, hput⟩, _, _, _⟩ := ho
  have hpl : ps.length = st.out.length := by rw [← hps, List.length_map]
  have hpo : ∀ (j : Nat) (v : PV), ps[j]? = some v → st.out[j]? = some v.a := fun j v hv => by rw [← hps, List.getElem?_map, hv]; rfl
  have hfile : ∀ (j : Nat) (v : PV), ps[j]? = some v → v.file = p + j := fun j v hv => hf.file j v.a (hpo j v hv)
  have hTl : T.length ≤ 98 := by omega
  have hlt : ∀ v ∈ ps, v.file < 100 := fun v hv => by
    obtain ⟨j, hj, rfl⟩ := List.mem_iff_getElem.1 hv
    have := hfile j ps[j] (List.getElem?_eq_getElem hj)
    have := hf.len
    omega
  have hnd : (ps.map PV.file).Nodup := by rw [ps_files hps]; exact hp.files.nodup
  have hdat := hw.dat (by rw [List.map_drop]; exact hnd.sublist (List.drop_sublist _ _)) (fun v hv => hlt v (List.mem_of_mem_drop hv))
  have hpb : pbytes (ps.drop (i + 1)) + (partB ps[i]).length ≤ sumL rs + 26 * rs.length := by
    have h1 := hpk.byt ps hps
    have h2 := pbytes_drop ps i hi
    have h3 := pbytes_le ps i
    omega
  have hbehind : ∀ (j : Nat) (v : PV), i < j → ps[j]? = some v → fdat gs (nmB (p + j)) = some (fall fs (nmB (p + j)) ++ partA v.a, []) := fun j v hj hv => by
    have hjl := (List.getElem?_eq_some_iff.1 hv).1
    have hlen := hf.len
    have hvd : v ∈ ps.drop (i + 1) := by
      refine List.mem_iff_getElem?.2 ⟨j - (i + 1), ?_⟩
      rw [List.getElem?_drop, show i + 1 + (j - (i + 1)) = j by omega]
      exact hv
    rcases hdat (p + j) (by omega) with ⟨u, hu, hue, h1⟩ | ⟨h1, _⟩
    · obtain ⟨k, hk⟩ := List.mem_iff_getElem?.1 hu
      rw [List.getElem?_drop] at hk
      have := hfile _ u hk
      obtain rfl : i + 1 + k = j := by omega
      rw [hv] at hk
      rw [← Option.some.inj hk] at h1
      exact h1
    · exact (h1 v hvd (hfile j v hv)).elim
  have helse : ∀ a, a < 100 → (∀ j, i < j → j < ps.length → a ≠ p + j) → fdat gs (nmB a) = fdat fs (nmB a) := fun a ha hno => by
    rcases hdat a ha with ⟨u, hu, hue, _⟩ | ⟨_, h1⟩
    · obtain ⟨k, hk⟩ := List.mem_iff_getElem?.1 hu
      rw [List.getElem?_drop] at hk
      have := hfile _ u hk
      exact (hno (i + 1 + k) (by omega) (List.getElem?_eq_some_iff.1 hk).1 (by omega)).elim
    · exact h1
  have hwi : ps[i]? = some ps[i] := List.getElem?_eq_getElem hi
  have hpi : ps[i].file = p + i := hfile i _ hwi
  have hlen := hf.len
  have hsl := hf.slen
  have hother : ∀ a, a < 100 → a ≠ p + i → fdat z.y.fs (nmB a) = fdat gs (nmB a) := fun a ha hai => by
    rcases hput with e | ⟨w, hw2, hpt⟩
    · rw [e]
    · rw [hwi] at hw2
      obtain rfl := Option.some.inj hw2
      exact hpt.else_ _ (fun e => hai (by rw [← hpi]; exact nm_inj ha (by omega) e))
  have hnoneS : ∀ j, j < st.out.length → (0 < j ∨ g = true) → fdat fs (nmB (p + j)) = none := fun j hj hjg => h.dlay.none (by omega) (by
    rw [hsl]
    rcases hjg with h1 | h1
    · split <;> omega
    · rw [if_pos h1]; omega)
  have hthis : fdat z.y.fs (nmB (p + i)) = fdat fs (nmB (p + i)) ∨ fdat z.y.fs (nmB (p + i)) = some (match fdat fs (nmB (p + i)) with | some (a, b) => (a, b ++ partB ps[i]) | none => ([], partB ps[i])) := by
    have e0 := helse (p + i) (by omega) (fun j hj _ => by omega)
    rcases hput with e | ⟨w, hw2, hpt⟩
    · left; rw [e, e0]
    · rw [hwi] at hw2
      obtain rfl := Option.some.inj hw2
      right
      have := hpt.at_
      rw [hpi, e0] at this
      exact this
  have hold : g = false → ∃ s, S[p]? = some s ∧ T[p]? = some (s.1, s.2 ++ bts (ps[0]'(by omega)).l) ∧ sgB (s.1, s.2 ++ bts (ps[0]'(by omega)).l) = sgB s ++ partA (ps[0]'(by omega)).a ∧ fdat fs (nmB p) = some (sgB s, []) := fun hg => by
    obtain ⟨v, s, h1, h2, _, h3, h4⟩ := hf.old_ hg
    have h5 := hpo 0 (ps[0]'(by omega)) (List.getElem?_eq_getElem _)
    rw [h1] at h5
    obtain rfl := Option.some.inj h5
    exact ⟨s, h2, h3, h4, h.dlay.some (by omega) h2⟩
  have hsorted : SortF z.y.fs ∧ (∀ x ∈ z.y.fs, ∃ i, i < 100 ∧ x.nm = nmB i) ∧ Go.Proofs.YtdldgbbhagpofaaGreatDoor.used z.y.fs ≤ 900000 := by
    have hs1 := hw.sort h.sort
    have hn1 := hw.nms (fun v hv => hlt v (List.mem_of_mem_drop hv)) h.nms
    have hu1 := hw.used
    have hu2 := h.used
    rcases hput with e | ⟨w, hw2, hpt⟩
    · rw [e]; exact ⟨hs1, hn1, by omega⟩
    · rw [hwi] at hw2
      obtain rfl := Option.some.inj hw2
      exact ⟨hpt.sort, nms_of ⟨ps[i].file, by omega, rfl⟩ hn1 hpt.else_, by rw [hpt.used]; omega⟩
  have hnew : ∀ j s, T[p + j]? = some s → (0 < j ∨ g = true) → ∃ v, ps[j]? = some v ∧ sgB s = partA v.a := fun j s hs hjg => by
    have hjl : j < ps.length := by have := (List.getElem?_eq_some_iff.1 hs).1; omega
    obtain ⟨s', h1, h2⟩ := hf.new_ j _ (hpo j ps[j] (List.getElem?_eq_getElem hjl)) hjg
    rw [hs] at h1
    obtain rfl := Option.some.inj h1
    exact ⟨ps[j], List.getElem?_eq_getElem hjl, h2⟩
  have hbeh2 : ∀ j s, i < j → T[p + j]? = some s → fdat z.y.fs (nmB (p + j)) = some (sgB s, []) := fun j s hj hs => by
    obtain ⟨v, hv, he⟩ := hnew j s hs (.inl (by omega))
    have hjl := (List.getElem?_eq_some_iff.1 hv).1
    rw [hother _ (by omega) (by omega), hbehind j v hj hv]
    have := hnoneS j (by omega) (.inl (by omega))
    have hfa : fall fs (nmB (p + j)) = [] := by unfold fall; rw [this]
    rw [hfa, List.nil_append, he]
  have hahead : ∀ j, 0 < j → j < i → fdat z.y.fs (nmB (p + j)) = none := fun j hj hji => by
    rw [hother _ (by omega) (by omega), helse _ (by omega) (fun k hk _ => by omega)]
    exact hnoneS j (by omega) (.inl hj)
  have hlow : ∀ a s, T[a]? = some s → a < p → fdat z.y.fs (nmB a) = some (sgB s, []) := fun a s hs ha => by
    rw [hother a (by omega) (by omega), helse a (by omega) (fun j _ _ => by omega)]
    rw [hf.low a ha] at hs
    exact h.dlay.some (by omega) hs
  refine ⟨T, p, if g then 0 else ((S[p]?).map fun s => s.2.length).getD 0, g, ⟨hcons, by omega, by omega, fun s hs => ?_, fun hg => by rw [hg]; rfl, ?_, ?_, hsorted.1, hsorted.2.1, hsorted.2.2, hlow, fun s hs => ?_, fun a s hs ha => ?_, fun a ha h1 => ?_, fun s x y hs hx hxy a s' hs' ha => ?_⟩, fun s hs => ?_, hflat⟩
  · cases hg : g with
    | true => exact Nat.zero_le _
    | false =>
      obtain ⟨s0, h1, h2, _⟩ := hold hg
      rw [h2] at hs
      rw [← Option.some.inj hs, h1]
      simp
  · rw [hflat]
    intro r hr'
    rcases List.mem_append.1 hr' with h1 | h1
    · exact h.rec_ r h1
    · obtain ⟨b, hb, rfl⟩ := List.mem_map.1 h1
      exact hr b hb
  · rw [hflat, List.length_append, List.length_map]; exact hnum
  · by_cases hi0 : i = 0
    · subst hi0
      rw [Nat.add_zero] at hthis
      cases hg : g with
      | true =>
        obtain ⟨v, hv, he⟩ := hnew 0 s (by rw [Nat.add_zero]; exact hs) (.inr hg)
        rw [hwi] at hv
        obtain rfl := Option.some.inj hv
        have hno := hnoneS 0 (by omega) (.inr hg)
        rw [Nat.add_zero] at hno
        rw [hno] at hthis
        rcases hthis with h1 | h1
        · exact .inl ⟨h1, rfl⟩
        · exact .inr ⟨[], partB ps[0], (sgB s).length, h1, by rw [List.take_length, List.nil_append, partB_a, he], fun h => (by cases h)⟩
      | false =>
        obtain ⟨s0, h1, h2, h3, h4⟩ := hold hg
        rw [h2] at hs
        obtain rfl := Option.some.inj hs
        rw [h4] at hthis
        right
        simp only [Bool.false_eq_true, if_false, h1, Option.map_some, Option.getD_some]
        have hk : sgB (s0.1, (s0.2 ++ bts ps[0].l).take s0.2.length) = sgB s0 := by rw [List.take_left]
        rcases hthis with h5 | h5
        · exact ⟨sgB s0, [], (sgB s0).length, h5, by rw [List.append_nil, h3, List.take_left], fun _ => by rw [hk]; exact Nat.le_refl _⟩
        · exact ⟨sgB s0, [] ++ partB ps[0], (sgB s0 ++ partA ps[0].a).length, h5, by rw [h3, List.take_length, List.nil_append, partB_a], fun _ => by rw [hk]; exact Nat.le_refl _⟩
    · have hpf : fdat z.y.fs (nmB p) = fdat fs (nmB p) := by rw [hother p (by omega) (by omega), helse p (by omega) (fun j _ _ => by omega)]
      cases hg : g with
      | true =>
        have hno := hnoneS 0 (by omega) (.inr hg)
        rw [Nat.add_zero] at hno
        exact .inl ⟨by rw [hpf, hno], rfl⟩
      | false =>
        obtain ⟨s0, h1, h2, h3, h4⟩ := hold hg
        rw [h2] at hs
        obtain rfl := Option.some.inj hs
        right
        simp only [Bool.false_eq_true, if_false, h1, Option.map_some, Option.getD_some]
        have hk : sgB (s0.1, (s0.2 ++ bts (ps[0]'(by omega)).l).take s0.2.length) = sgB s0 := by rw [List.take_left]
        exact ⟨sgB s0, [], (sgB s0).length, by rw [hpf, h4], by rw [List.append_nil, h3, List.take_left], fun _ => by rw [hk]; exact Nat.le_refl _⟩
  · obtain ⟨j, rfl⟩ : ∃ j, a = p + j := ⟨a - p, by omega⟩
    rcases Nat.lt_trichotomy j i with h1 | h1 | h1
    · exact .inl (hahead j (by omega) h1)
    · subst h1
      obtain ⟨v, hv, he⟩ := hnew j s hs (.inl (by omega))
      rw [hwi] at hv
      obtain rfl := Option.some.inj hv
      have hno := hnoneS j (by omega) (.inl (by omega))
      rw [hno] at hthis
      rcases hthis with h2 | h2
      · exact .inl h2
      · exact .inr ⟨[], partB ps[j], (sgB s).length, h2, by rw [List.take_length, List.nil_append, partB_a, he]⟩
    · exact .inr ⟨sgB s, [], (sgB s).length, hbeh2 j s h1 hs, by rw [List.append_nil, List.take_length]⟩
  · rw [hother a h1 (by omega), helse a h1 (fun j _ hj => by omega)]
    exact h.dlay.none h1 (by rw [hsl]; split <;> omega)
  · have hi0 : i = 0 := by
      refine Decidable.byContradiction fun hi0 => ?_
      have hpf : fdat z.y.fs (nmB p) = fdat fs (nmB p) := by rw [hother p (by omega) (by omega), helse p (by omega) (fun j _ _ => by omega)]
      cases hg : g with
      | true =>
        have hno := hnoneS 0 (by omega) (.inr hg)
        rw [Nat.add_zero] at hno
        rw [hpf, hno] at hx
        cases hx
      | false =>
        obtain ⟨s0, h1, h2, h3, h4⟩ := hold hg
        rw [h2] at hs
        obtain rfl := Option.some.inj hs
        rw [hpf, h4] at hx
        obtain ⟨rfl, rfl⟩ := Prod.mk.inj (Option.some.inj hx)
        rw [h3, List.append_nil] at hxy
        have h5 : partA (ps[0]'(by omega)).a = [] := by
          have := congrArg List.length hxy
          rw [List.length_append] at this
          exact List.eq_nil_of_length_eq_zero (by omega)
        have h6 := hne (ps[0]'(by omega)).a (by rw [← hps]; exact List.mem_map.2 ⟨_, List.getElem_mem _, rfl⟩)
        have h7 := congrArg List.length h5
        unfold partA at h7
        rw [List.length_append, recB_len, List.length_nil] at h7
        cases hl : (ps[0]'(by omega)).a.l with
        | nil => exact h6 hl
        | cons r t => rw [hl] at h7; simp at h7
    subst hi0
    obtain ⟨j, rfl⟩ : ∃ j, a = p + j := ⟨a - p, by omega⟩
    exact hbeh2 j s' (by omega) hs'
  · cases hg : g with
    | true =>
      have hT := hcons p (by omega)
      have hs2 := (List.getElem?_eq_some_iff.1 hs).2
      rw [hs2] at hT
      rw [hT]
      simp only [if_true, Nat.add_zero]
      have hp0 : S.length = p := by rw [hsl, hg]; rfl
      have e : T.take p = S := by
        apply List.ext_getElem?
        intro k
        rw [List.getElem?_take]
        by_cases hk : k < p
        · rw [if_pos hk, hf.low k hk]
        · rw [if_neg hk, List.getElem?_eq_none (by omega)]
      rw [e]
    | false =>
      obtain ⟨s0, h1, h2, _⟩ := hold hg
      rw [h2] at hs
      obtain rfl := Option.some.inj hs
      simp only [Bool.false_eq_true, if_false, h1, Option.map_some, Option.getD_some]
      have hp1 : S.length = p + 1 := by rw [hsl, hg]; rfl
      have hc1 := h.cons p (by omega)
      have h3 : S[p]'(by omega) = s0 := (List.getElem?_eq_some_iff.1 h1).2
      rw [h3] at hc1
      have e : S = S.take p ++ [s0] := by
        conv => lhs; rw [← List.take_append_drop p S]
        rw [List.drop_eq_getElem_cons (by omega), h3, List.drop_of_length_le (by omega)]
      rw [hc1]
      conv => rhs; rw [e]
      rw [flatS_snoc, List.length_append]
end Go.Proofs.YtdldgbbhagpofaaGreatDoor

namespace Go.Proofs.YtdldgbbhagpofaaGreatDoor
open Go.Sl facts
structure VOf (T : List Sg) (fs : List Fi) (V : Vw) : Prop where
  at_ : ∀ a, a < 100 → (fdat fs (nmB a) = none ∧ V a = none) ∨ ∃ s sg t x y, T[a]? = some s ∧ V a = some (sg, t) ∧ fdat fs (nmB a) = some (x, y) ∧ Dec s (x ++ y) sg t
  big : ∀ a, 100 ≤ a → V a = none
theorem InvC.fst {T : List Sg} {p c0 : Nat} {g : Bool} {fs : List Fi} (h : InvC T p c0 g fs) {a : Nat} {s : Sg} (hs : T[a]? = some s) : s.1 = (flatS (T.take a)).length ∧ s.1 + s.2.length ≤ (flatS T).length ∧ s.1 + s.2.length = (flatS (T.take (a + 1))).length := by
  obtain ⟨hl, he⟩ := List.getElem?_eq_some_iff.1 hs
  have h1 := h.cons a hl
  rw [he] at h1
  have h2 := take_snocS hl
  rw [he] at h2
  have h3 : (flatS (T.take (a + 1))).length = s.1 + s.2.length := by rw [h2, flatS_snoc, List.length_append, h1]
  have h4 := flat_le (S := T) (a + 1)
  exact ⟨h1, by omega, h3.symm⟩
theorem InvC.vof {T : List Sg} {p c0 : Nat} {g : Bool} {fs : List Fi} (h : InvC T p c0 g fs) : ∃ V, VOf T fs V := by
  have this : ∀ a : Nat, ∃ o : Option (SgC × List UInt8), (a < 100 → (fdat fs (nmB a) = none ∧ o = none) ∨ ∃ s sg t x y, T[a]? = some s ∧ o = some (sg, t) ∧ fdat fs (nmB a) = some (x, y) ∧ Dec s (x ++ y) sg t) ∧ (100 ≤ a → o = none) := fun a => by
    by_cases ha : a < 100
    · by_cases hT : a < T.length
      · obtain ⟨s, hs⟩ : ∃ s, T[a]? = some s := ⟨T[a], List.getElem?_eq_getElem hT⟩
        have hn := h.num
        have hb := h.fst hs
        have hk : fdat fs (nmB a) = none ∨ ∃ x y n, fdat fs (nmB a) = some (x, y) ∧ x ++ y = (sgB s).take n := by
          rcases Nat.lt_trichotomy a p with h1 | h1 | h1
          · exact .inr ⟨sgB s, [], (sgB s).length, h.lo a s hs h1, by rw [List.append_nil, List.take_length]⟩
          · subst h1
            rcases h.mid s hs with ⟨h2, _⟩ | ⟨x, y, n, h2, h3, _⟩
            · exact .inl h2
            · exact .inr ⟨x, y, n, h2, h3⟩
          · exact h.hi a s hs h1
        rcases hk with h1 | ⟨x, y, n, h1, h2⟩
        · exact ⟨none, fun _ => .inl ⟨h1, rfl⟩, fun _ => rfl⟩
        · obtain ⟨sg, t, hd⟩ := dec_ex s n (by omega) (fun r hr => by have := h.rec_ r (flat_mem (List.mem_of_getElem? hs) r hr); omega)
          rw [← h2] at hd
          exact ⟨some (sg, t), fun _ => .inr ⟨s, sg, t, x, y, hs, rfl, h1, hd⟩, fun h => by omega⟩
      · exact ⟨none, fun _ => .inl ⟨h.top a (by omega) ha, rfl⟩, fun _ => rfl⟩
    · exact ⟨none, fun h => absurd h ha, fun _ => rfl⟩
  obtain ⟨V, hV⟩ := Classical.axiomOfChoice this
  exact ⟨V, fun a ha => (hV a).1 ha, fun a ha => (hV a).2 ha⟩
theorem InvC.whole {T : List Sg} {p c0 : Nat} {g : Bool} {fs : List Fi} (h : InvC T p c0 g fs) {V : Vw} (hV : VOf T fs V) {s0 : Sg} {x y : List UInt8} (hT : T[p]? = some s0) (hf : fdat fs (nmB p) = some (x, y)) (he : x ++ y = sgB s0) : V = vwS T := by
  have hall : ∀ a s, T[a]? = some s → ∃ x y, fdat fs (nmB a) = some (x, y) ∧ x ++ y = sgB s := fun a s hs => by
    rcases Nat.lt_trichotomy a p with h1 | h1 | h1
    · exact ⟨_, _, h.lo a s hs h1, List.append_nil _⟩
    · subst h1
      rw [hT] at hs
      obtain rfl := Option.some.inj hs
      exact ⟨x, y, hf, he⟩
    · exact ⟨_, _, h.full s0 x y hT hf he a s hs h1, List.append_nil _⟩
  have htl := h.tl
  funext a
  unfold vwS
  by_cases ha : a < 100
  · rcases hV.at_ a ha with ⟨h1, h2⟩ | ⟨s, sg, t, x', y', h1, h2, h3, h4⟩
    · rw [h2]
      cases hs : T[a]? with
      | none => rfl
      | some s =>
        obtain ⟨x', y', h3, _⟩ := hall a s hs
        rw [h1] at h3; cases h3
    · obtain ⟨x2, y2, h5, h6⟩ := hall a s h1
      rw [h3] at h5
      obtain ⟨rfl, rfl⟩ := Prod.mk.inj (Option.some.inj h5)
      obtain ⟨rfl, rfl⟩ := h4.whole h6
      rw [h1, h2]; rfl
  · rw [hV.big a (by omega), List.getElem?_eq_none (by omega)]; rfl
def ldX (T : List Sg) (p : Nat) (s0 : Sg) (m : Nat) (t : List UInt8) : Ld := ⟨flatS (T.take p) ++ s0.2.take m, (T.take p).map (fun s => s.1) ++ [s0.1], sumB (s0.2.take m), decide (t ≠ [])⟩
theorem InvC.run {T : List Sg} {p c0 : Nat} {g : Bool} {fs : List Fi} (h : InvC T p c0 g fs) {V : Vw} (hV : VOf T fs V) {s : Ld} (hr : Run V s) : (∃ i, i ≤ p ∧ s = sI T i) ∨ (∃ s0 m t, T[p]? = some s0 ∧ V p = some (some (s0.1, s0.2.take m), t) ∧ m < s0.2.length ∧ s = ldX T p s0 m t) ∨ (V = vwS T ∧ ∃ i, p < i ∧ i ≤ T.length ∧ s = sI T i) := by
  have htl := h.tl
  have hpl := h.pl
  induction hr with
  | zero => exact .inl ⟨0, Nat.zero_le _, rfl⟩
  | @next s s' _ hs ih =>
    have hne := (ldStep_len hs).2
    rcases ih with ⟨i, hi, rfl⟩ | ⟨s0, m, t, hT, hVp, hm, rfl⟩ | ⟨hVw, i, hpi, hi, rfl⟩
    · rw [sI_len T i (by omega)] at hne
      rcases hV.at_ i (by omega) with ⟨_, h2⟩ | ⟨s0, sg, t, x, y, h1, h2, h3, h4⟩
      · exact (hne h2).elim
      · obtain ⟨hl, he⟩ := List.getElem?_eq_some_iff.1 h1
        by_cases hip : i < p
        · have h5 := h.lo i s0 h1 hip
          rw [h3] at h5
          obtain ⟨rfl, rfl⟩ := Prod.mk.inj (Option.some.inj h5)
          obtain ⟨rfl, rfl⟩ := h4.whole (List.append_nil _)
          rw [sI_step h.cons hl (by rw [he]; exact h2)] at hs
          exact .inl ⟨i + 1, hip, (Option.some.inj hs).symm⟩
        · obtain rfl : i = p := by omega
          have e : ∀ v rs, sg = some (v, rs) → ldStep V (sI T i) = if v = (sI T i).recs.length then some ⟨(sI T i).recs ++ rs, (sI T i).firsts ++ [v], sumB rs, decide (t ≠ [])⟩ else none := fun v rs e => by
            unfold ldStep
            rw [sI_len T i (by omega), h2, e]
          rcases h4.how with rfl | ⟨m, hm, rfl⟩
          · unfold ldStep at hs
            rw [sI_len T i (by omega), h2] at hs
            cases hs
          · by_cases hml : m = s0.2.length
            · have e2 : (some (s0.1, s0.2.take m) : SgC) = some s0 := by rw [hml, List.take_length]
              obtain ⟨rfl, hw⟩ := h4.all e2
              rw [sI_step h.cons hl (by rw [he, ← e2]; exact h2)] at hs
              exact .inr (.inr ⟨h.whole hV h1 h3 hw, i + 1, by omega, hl, (Option.some.inj hs).symm⟩)
            · rw [e _ _ rfl, if_pos (show s0.1 = (sI T i).recs.length from (h.fst h1).1)] at hs
              exact .inr (.inl ⟨s0, m, t, h1, h2, by omega, (Option.some.inj hs).symm⟩)
    · exfalso
      have hlen : (ldX T p s0 m t).firsts.length = p + 1 := by unfold ldX; simp; omega
      have hf0 := h.fst hT
      have hrl : (ldX T p s0 m t).recs.length < (flatS (T.take (p + 1))).length := by
        show (flatS (T.take p) ++ s0.2.take m).length < _
        rw [List.length_append, List.length_take]
        omega
      unfold ldStep at hs
      rw [hlen] at hs
      rcases hV.at_ (p + 1) (by omega) with ⟨_, h2⟩ | ⟨s1, sg, t1, x, y, h1, h2, h3, h4⟩
      · rw [h2] at hs; cases hs
      · have hf1 := (h.fst h1).1
        rw [h2] at hs
        rcases h4.how with rfl | ⟨m1, _, rfl⟩
        · cases hs
        · dsimp only at hs
          rw [if_neg (by omega)] at hs
          cases hs
    · rw [sI_len T i hi, hVw] at hne
      have hl : i < T.length := by
        rcases Nat.lt_or_ge i T.length with h3 | h3
        · exact h3
        · exact (hne (by unfold vwS; rw [List.getElem?_eq_none h3]; rfl)).elim
      rw [sI_step h.cons hl (by rw [hVw]; unfold vwS; rw [List.getElem?_eq_getElem hl]; rfl)] at hs
      exact .inr (.inr ⟨hVw, i + 1, by omega, hl, (Option.some.inj hs).symm⟩)
theorem flat_split {T : List Sg} {p : Nat} {s0 : Sg} (hT : T[p]? = some s0) : flatS T = flatS (T.take p) ++ (s0.2 ++ flatS (T.drop (p + 1))) := by
  obtain ⟨hl, he⟩ := List.getElem?_eq_some_iff.1 hT
  conv => lhs; rw [← List.take_append_drop p T]
  rw [List.drop_eq_getElem_cons hl, he, flatS_append]
  simp [flatS]
theorem InvC.view {T : List Sg} {p c0 : Nat} {g : Bool} {fs : List Fi} (h : InvC T p c0 g fs) {V : Vw} (hV : VOf T fs V) : View fs V T.length := by
  have htl := h.tl
  have hn := h.num
  refine ⟨htl, fun a ha h1 => ?_, fun a ha sg t h1 => ?_, ?_, fun s hs => ?_⟩
  · rcases hV.at_ a ha with ⟨h2, _⟩ | ⟨s, sg, t, x, y, _, h2, _⟩
    · exact h2
    · rw [h1] at h2; cases h2
  · rcases hV.at_ a ha with ⟨_, h2⟩ | ⟨s, sg', t', x, y, hs, h2, h3, h4⟩
    · rw [h1] at h2; cases h2
    · rw [h1] at h2
      obtain ⟨rfl, rfl⟩ := Prod.mk.inj (Option.some.inj h2)
      have hf := h.fst hs
      refine ⟨⟨_, h3, h4.eq⟩, h4.torn, fun r hr => ?_, ?_, fun v rs e => ?_⟩
      · rcases h4.how with rfl | ⟨m, _, rfl⟩
        · cases hr
        · rcases List.mem_cons.1 (show r ∈ vb s.1 :: s.2.take m from hr) with rfl | h5
          · exact vb_short _ (by omega)
          · have := h.rec_ r (flat_mem (List.mem_of_getElem? hs) r (List.mem_of_mem_take h5)); omega
      · rcases h4.how with rfl | ⟨m, _, rfl⟩
        · show ([] : List (List UInt8)).length ≤ _
          simp
        · show (vb s.1 :: s.2.take m).length ≤ _
          rw [List.length_cons, List.length_take]; omega
      · rcases h4.how with rfl | ⟨m, _, rfl⟩
        · cases e
        · have := congrArg Prod.fst (Option.some.inj e)
          dsimp only at this; omega
  · rcases hV.at_ T.length htl with ⟨_, h2⟩ | ⟨s, sg, t, x, y, h2, _⟩
    · exact h2
    · rw [List.getElem?_eq_none (Nat.le_refl _)] at h2; cases h2
  · rcases h.run hV hs with ⟨i, _, rfl⟩ | ⟨s0, m, t, hT, _, hm, rfl⟩ | ⟨_, i, _, _, rfl⟩
    · have := flat_le (S := T) i
      show (flatS (T.take i)).length ≤ _
      omega
    · have hf := h.fst hT
      show (flatS (T.take p) ++ s0.2.take m).length ≤ _
      rw [List.length_append, List.length_take]; omega
    · have := flat_le (S := T) i
      show (flatS (T.take i)).length ≤ _
      omega
structure FinC (T : List Sg) (p c0 : Nat) (g : Bool) (fs : List Fi) (s : Ld) : Prop where
  pre : ∃ L, s.recs = (flatS T).take L ∧ L ≤ (flatS T).length ∧ ∀ s0, T[p]? = some s0 → s0.1 + c0 ≤ L
  ge : p ≤ s.firsts.length
  le : s.firsts.length ≤ T.length
  new_ : s.firsts.length = p → g = true
  whole : ∀ s0 x y, T[p]? = some s0 → fdat fs (nmB p) = some (x, y) → x ++ y = sgB s0 → s.firsts.length = T.length
theorem InvC.fin {T : List Sg} {p c0 : Nat} {g : Bool} {fs : List Fi} (h : InvC T p c0 g fs) {V : Vw} (hV : VOf T fs V) {s : Ld} (hr : Run V s) (hf : ldStep V s = none) : FinC T p c0 g fs s := by
  have htl := h.tl
  have hpl := h.pl
  have hw : V = vwS T → s = sI T T.length := fun e => by subst e; exact run_fin h.cons hr hf
  have hwh : ∀ s0 x y, T[p]? = some s0 → fdat fs (nmB p) = some (x, y) → x ++ y = sgB s0 → s.firsts.length = T.length := fun s0 x y h1 h2 h3 => by
    rw [hw (h.whole hV h1 h2 h3)]
    exact sI_len T _ (Nat.le_refl _)
  rcases h.run hV hr with ⟨i, hi, rfl⟩ | ⟨s0, m, t, hT, hVp, hm, rfl⟩ | ⟨hVw, i, hpi, hi, rfl⟩
  · have hil := sI_len T i (by omega)
    have hip : i = p := by
      rcases Nat.lt_or_ge i p with h1 | h1
      · exfalso
        have hl : i < T.length := by omega
        have hT : T[i]? = some T[i] := List.getElem?_eq_getElem hl
        have h5 := h.lo i _ hT h1
        rcases hV.at_ i (by omega) with ⟨h2, _⟩ | ⟨s1, sg, t, x, y, h2, h3, h4, hd⟩
        · rw [h5] at h2; cases h2
        · rw [hT] at h2
          obtain rfl := Option.some.inj h2
          rw [h5] at h4
          obtain ⟨rfl, rfl⟩ := Prod.mk.inj (Option.some.inj h4)
          obtain ⟨rfl, rfl⟩ := hd.whole (List.append_nil _)
          rw [sI_step h.cons hl h3] at hf
          cases hf
      · omega
    subst hip
    have hT : T[i]? = some T[i] := List.getElem?_eq_getElem hpl
    have hff := h.fst hT
    have hg : g = true := by
      cases hg : g with
      | true => rfl
      | false =>
        exfalso
        rcases h.mid _ hT with ⟨_, h2⟩ | ⟨x, y, n, h2, h3, h4⟩
        · rw [hg] at h2; cases h2
        · rcases hV.at_ i (by omega) with ⟨h5, _⟩ | ⟨s1, sg, t, x', y', h5, h6, h7, hd⟩
          · rw [h2] at h5; cases h5
          · rw [hT] at h5
            obtain rfl := Option.some.inj h5
            rw [h2] at h7
            obtain ⟨rfl, rfl⟩ := Prod.mk.inj (Option.some.inj h7)
            obtain ⟨m', _, _, rfl⟩ := hd.keep c0 (h.cl _ hT) (by have := h4 hg; rw [List.length_append]; omega)
            unfold ldStep at hf
            rw [hil, h6] at hf
            dsimp only at hf
            rw [if_pos (show T[i].1 = (sI T i).recs.length from hff.1)] at hf
            cases hf
    refine ⟨⟨T[i].1, ?_, by omega, fun s0 h0 => ?_⟩, by omega, by omega, fun _ => hg, hwh⟩
    · show flatS (T.take i) = _
      rw [flat_split hT, hff.1, List.take_left]
    · rw [hT] at h0
      obtain rfl := Option.some.inj h0
      have := h.gc hg
      omega
  · have hff := h.fst hT
    have hlen : (ldX T p s0 m t).firsts.length = p + 1 := by unfold ldX; simp; omega
    refine ⟨⟨s0.1 + m, ?_, by omega, fun s1 h1 => ?_⟩, by omega, by omega, fun h1 => by omega, hwh⟩
    · show flatS (T.take p) ++ s0.2.take m = _
      rw [flat_split hT, hff.1, List.take_length_add_append, List.take_append_of_le_length (by omega)]
    · rw [hT] at h1
      obtain rfl := Option.some.inj h1
      have : c0 ≤ m := by
        cases hg : g with
        | true => rw [h.gc hg]; exact Nat.zero_le _
        | false =>
          rcases hV.at_ p (by omega) with ⟨_, h5⟩ | ⟨s1, sg, t', x', y', h5, h6, h7, hd⟩
          · rw [hVp] at h5; cases h5
          · rw [hT] at h5
            obtain rfl := Option.some.inj h5
            rw [hVp] at h6
            obtain ⟨rfl, rfl⟩ := Prod.mk.inj (Option.some.inj h6)
            rcases h.mid _ hT with ⟨h8, _⟩ | ⟨x, y, n, h8, h9, h10⟩
            · rw [h7] at h8; cases h8
            · rw [h7] at h8
              obtain ⟨rfl, rfl⟩ := Prod.mk.inj (Option.some.inj h8)
              obtain ⟨m', h11, h12, h13⟩ := hd.keep c0 (h.cl _ hT) (by have := h10 hg; rw [List.length_append]; omega)
              have h14 := congrArg List.length (congrArg Prod.snd (Option.some.inj h13))
              simp only [List.length_take] at h14
              omega
      omega
  · have hse := hw hVw
    have hil : i = T.length := by
      have := congrArg (fun s : Ld => s.firsts.length) hse
      rw [sI_len T i hi, sI_len T _ (Nat.le_refl _)] at this
      exact this
    subst hil
    have hk := sI_len T T.length (Nat.le_refl _)
    refine ⟨⟨(flatS T).length, ?_, Nat.le_refl _, fun s0 h0 => ?_⟩, by omega, by omega, fun h1 => by omega, hwh⟩
    · rw [sI_all, List.take_length]
    · have := h.fst h0
      have := h.cl s0 h0
      omega
theorem fall_some {fs : List Fi} {nm : ByteArray} {x y : List UInt8} (h : fdat fs nm = some (x, y)) : fall fs nm = x ++ y := by unfold fall; rw [h]
theorem InvC.keep {T : List Sg} {p c0 : Nat} {g : Bool} {fs gs : List Fi} (h : InvC T p c0 g fs) {s : Ld} (hF : FinC T p c0 g fs s) (hs : SortF gs) (hn : ∀ x ∈ gs, ∃ i, i < 100 ∧ x.nm = nmB i) (hu : Go.Proofs.YtdldgbbhagpofaaGreatDoor.used gs ≤ Go.Proofs.YtdldgbbhagpofaaGreatDoor.used fs)
    (hlo : ∀ a, a < 100 → a < s.firsts.length → fdat gs (nmB a) = fdat fs (nmB a) ∨ fdat gs (nmB a) = some (fall fs (nmB a), [])) (hhi : ∀ a, a < 100 → s.firsts.length ≤ a → fdat gs (nmB a) = fdat fs (nmB a) ∨ fdat gs (nmB a) = none) : InvC T p c0 g gs := by
  have htl := h.tl
  have hpl := h.pl
  have hge := hF.ge
  have hle := hF.le
  have hsafe : ∀ a x, a < 100 → a < s.firsts.length → fdat fs (nmB a) = some (x, []) → fdat gs (nmB a) = some (x, []) := fun a x ha hak hx => by
    rcases hlo a ha hak with h1 | h1
    · rw [h1, hx]
    · rw [h1, fall_some hx, List.append_nil]
  refine ⟨h.cons, h.tl, h.pl, h.cl, h.gc, h.rec_, h.num, hs, hn, Nat.le_trans hu h.used, fun a s1 hs1 ha => hsafe a _ (by omega) (by omega) (h.lo a s1 hs1 ha), fun s1 hs1 => ?_, fun a s1 hs1 ha => ?_, fun a ha h1 => ?_, fun s1 x y hs1 hx hf a s' hs' ha => ?_⟩
  · by_cases hk : p < s.firsts.length
    · rcases h.mid s1 hs1 with ⟨h1, h2⟩ | ⟨x, y, n, h1, h2, h3⟩
      · rcases hlo p (by omega) hk with h4 | h4
        · exact .inl ⟨by rw [h4, h1], h2⟩
        · refine .inr ⟨_, _, 0, h4, ?_, fun h5 => by rw [h2] at h5; cases h5⟩
          unfold fall; rw [h1]; simp
      · rcases hlo p (by omega) hk with h4 | h4
        · exact .inr ⟨x, y, n, by rw [h4, h1], h2, h3⟩
        · rw [fall_some h1] at h4
          exact .inr ⟨x ++ y, [], n, h4, by rw [List.append_nil, h2], fun h5 => by have := h3 h5; rw [List.length_append]; omega⟩
    · have hg := hF.new_ (by omega)
      rcases hhi p (by omega) (by omega) with h4 | h4
      · rw [h4]; exact h.mid s1 hs1
      · exact .inl ⟨h4, hg⟩
  · have hal := (List.getElem?_eq_some_iff.1 hs1).1
    by_cases hk : a < s.firsts.length
    · rcases hlo a (by omega) hk with h4 | h4
      · rw [h4]; exact h.hi a s1 hs1 ha
      · rcases h.hi a s1 hs1 ha with h1 | ⟨x, y, n, h1, h2⟩
        · refine .inr ⟨_, _, 0, h4, ?_⟩
          unfold fall; rw [h1]; simp
        · rw [fall_some h1] at h4
          exact .inr ⟨x ++ y, [], n, h4, by rw [List.append_nil, h2]⟩
    · rcases hhi a (by omega) (by omega) with h4 | h4
      · rw [h4]; exact h.hi a s1 hs1 ha
      · exact .inl h4
  · rcases hhi a h1 (by omega) with h4 | h4
    · rw [h4]; exact h.top a ha h1
    · exact h4
  · have hal := (List.getElem?_eq_some_iff.1 hs').1
    have hne : 0 < (sgB s1).length := by
      unfold sgB
      rw [frB_cons, List.length_append, frameB_len]; omega
    have hold : ∃ x' y', fdat fs (nmB p) = some (x', y') ∧ x' ++ y' = sgB s1 := by
      have hsame : fdat gs (nmB p) = fdat fs (nmB p) → ∃ x' y', fdat fs (nmB p) = some (x', y') ∧ x' ++ y' = sgB s1 := fun e => ⟨x, y, by rw [← e, hx], hf⟩
      by_cases hk : p < s.firsts.length
      · rcases hlo p (by omega) hk with h4 | h4
        · exact hsame h4
        · rw [hx] at h4
          obtain ⟨rfl, rfl⟩ := Prod.mk.inj (Option.some.inj h4)
          rw [List.append_nil] at hf
          cases hfd : fdat fs (nmB p) with
          | none =>
            have : fall fs (nmB p) = [] := by unfold fall; rw [hfd]
            rw [this] at hf
            rw [← hf] at hne
            simp at hne
          | some w =>
            obtain ⟨x', y'⟩ := w
            exact ⟨x', y', rfl, by rw [← fall_some hfd]; exact hf⟩
      · rcases hhi p (by omega) (by omega) with h4 | h4
        · exact hsame h4
        · rw [hx] at h4; cases h4
    obtain ⟨x', y', h1, h2⟩ := hold
    have hkl := hF.whole s1 x' y' hs1 h1 h2
    exact hsafe a _ (by omega) (by omega) (h.full s1 x' y' hs1 h1 h2 a s' hs' ha)
theorem run_prefix {V : Vw} {s : Ld} (h : Run V s) : ∀ j, j < s.firsts.length → ∃ u u', Run V u ∧ u.firsts.length = j ∧ ldStep V u = some u' := by
  induction h with
  | zero => intro j hj; simp at hj
  | @next s s' h0 hs ih =>
    obtain ⟨h1, _⟩ := ldStep_len hs
    intro j hj
    rcases Nat.lt_or_ge j s.firsts.length with h2 | h2
    · exact ih j h2
    · exact ⟨s, s', h0, by omega, hs⟩
theorem run_unique {V : Vw} {s : Ld} (h : Run V s) : ∀ {u : Ld}, Run V u → u.firsts.length = s.firsts.length → u = s := by
  induction h with
  | zero =>
    intro u hu he
    cases hu with
    | zero => rfl
    | next _ hs => have := (ldStep_len hs).1; change _ = 0 at he; omega
  | @next s s' h0 hs ih =>
    intro u hu he
    have h1 := (ldStep_len hs).1
    cases hu with
    | zero => change 0 = _ at he; omega
    | @next v _ hv hs2 =>
      have h2 := (ldStep_len hs2).1
      have := ih hv (by omega)
      subst this
      rw [hs] at hs2
      exact (Option.some.inj hs2).symm
def vwK (V : Vw) (k : Nat) : Vw := fun a => if a < k then V a else none
theorem run_vwK {V : Vw} {k : Nat} {s : Ld} (h : Run (vwK V k) s) : Run V s := by
  induction h with
  | zero => exact .zero
  | @next s s' _ hs ih =>
    refine .next ih ?_
    have hne := (ldStep_len hs).2
    have hk : s.firsts.length < k := by
      refine Decidable.byContradiction fun h => hne ?_
      unfold vwK; rw [if_neg h]
    unfold ldStep at hs ⊢
    unfold vwK at hs
    rw [if_pos hk] at hs
    exact hs
theorem fin_vwK {V : Vw} {s u : Ld} (hs : Run V s) (hu : Run (vwK V s.firsts.length) u) (hf : ldStep (vwK V s.firsts.length) u = none) : u = s := by
  have hle := hu.le (T := s.firsts.length) (by unfold vwK; rw [if_neg (by omega)])
  have hu' := run_vwK hu
  rcases Nat.lt_or_ge u.firsts.length s.firsts.length with h1 | h1
  · exfalso
    obtain ⟨v, v', h2, h3, h4⟩ := run_prefix hs _ h1
    obtain rfl := run_unique hu' h2 h3
    have : ldStep (vwK V s.firsts.length) v = ldStep V v := by
      unfold ldStep vwK
      rw [if_pos h1]
    rw [this, h4] at hf
    cases hf
  · exact run_unique hs hu' (by omega)
theorem view_again {fs fs1 gs : List Fi} {V : Vw} {T : Nat} (hV : View fs V T) {s : Ld} (hr : Run V s) (hat : ∀ a, a < 100 → fdat fs1 (nmB a) = if a < s.firsts.length then some (fall fs (nmB a), []) else none) (hc : Cr1 fs1 gs) : View gs (vwK V s.firsts.length) s.firsts.length := by
  have hle := hr.le hV.end_
  have htop := hV.top
  refine ⟨by omega, fun a ha h1 => ?_, fun a ha sg t h1 => ?_, by unfold vwK; rw [if_neg (by omega)], fun u hu => hV.recs u (run_vwK hu)⟩
  · unfold vwK at h1
    by_cases hk : a < s.firsts.length
    · rw [if_pos hk] at h1
      exact (hr.has a hk h1).elim
    · have := hat a ha
      rw [if_neg hk] at this
      exact cr_none hc this
  · unfold vwK at h1
    by_cases hk : a < s.firsts.length
    · rw [if_pos hk] at h1
      have hv := hV.yes a ha sg t h1
      obtain ⟨⟨x, y⟩, h2, h3⟩ := hv.at_
      have h4 := hat a ha
      rw [if_pos hk, fall_some h2] at h4
      exact ⟨⟨_, cr_safe hc h4, by rw [List.append_nil]; exact h3⟩, hv.torn, hv.len, hv.num, hv.fst⟩
    · rw [if_neg hk] at h1; cases h1
theorem run_size {fs : List Fi} {V : Vw} {T : Nat} (hV : View fs V T) {s : Ld} (hr : Run V s) : s.size ≤ used fs := by
  cases hr with
  | zero => exact Nat.zero_le _
  | @next s _ h0 hs =>
    have hle := (Run.next h0 hs).le hV.end_
    have h1 := ldStep_len hs
    have htop := hV.top
    unfold ldStep at hs
    split at hs
    · rename_i v rs t hv
      split at hs
      · obtain rfl := Option.some.inj hs
        obtain ⟨y, h2, h3⟩ := (hV.yes s.firsts.length (by omega) _ _ hv).at_
        have h4 := fdat_used h2
        have h5 := congrArg List.length h3
        rw [List.length_append, List.length_append, frB_len] at h5
        have h6 : sumB (sgL (some (v, rs))) = (vb v).length + sumB rs := by unfold sumB sgL; simp
        show sumB rs ≤ _
        omega
      · cases hs
    · cases hs
end Go.Proofs.YtdldgbbhagpofaaGreatDoor

namespace Go.Proofs.YtdldgbbhagpofaaGreatDoor
open Go.Sl facts
theorem JL.mono {S : List Sg} {x : LG} {fs : List Fi} {B U B' U' : Nat} (h : JL S x fs B U) (hB : B ≤ B') (hU : U ≤ U') : JL S x fs B' U' :=
  ⟨h.cons, h.clo, h.is_, h.dlay, h.sort, h.nms, Nat.le_trans h.byt hB, Nat.le_trans h.used hU, h.rec_, Nat.le_trans h.num hU⟩
structure JX where
  x : LG
  y : DkX
  ops : Int
  H : HP
structure JOk (H : HP) (S : List Sg) (rs : List BV) (B U : Nat) (ops : Int) (z : JX) : Prop where
  sub : HP.sub H z.H
  at_ : BtsAt z.H z.x.rs
  jl : ∃ T, JL T z.x z.y.fs (B + sumL rs) (U + (sumL rs + 26 * rs.length)) ∧ flatS T = flatS S ++ bts rs
  ops : ops ≤ z.ops ∧ z.ops ≤ ops + 202
attribute [local irreducible] Code.wp wpList Exit.then Exit.inBlock bodyPost Back MidQ G GP QStep VStep CStep SStep Does Post Reads
attribute [local irreducible] Begin RPost MPost frameB recB partB pbytes frB
end Go.Proofs.YtdldgbbhagpofaaGreatDoor

namespace Go.Proofs.YtdldgbbhagpofaaGreatDoor
open Go.Sl facts
attribute [local irreducible] Code.wp wpList Exit.then Exit.inBlock bodyPost Back MidQ G GP QStep VStep CStep SStep Does Post Reads
theorem round11 (p n : Int) (h : 0 < n) (hn : n ≤ 1000000000) : Does1 Tryz.prog 15 [int p, int n] [] (int (lf p n)) := by
  have hb := lf_in p n h
  refine fn_intro Tryz.func15 rfl Tryz.ntmps15 rfl (by simp only [argFr, Nat.zero_add, Nat.reduceAdd]; rfl) (fun Γ => ?_)
  repeat (first
    | (refine g_ops ?_; first | refine sO ?_ | refine s_n (fun _ => ?_) | refine s_appB (fun _ _ => ?_) | refine s_app (fun _ _ => ?_) | refine s_b0 (fun _ => ?_) | ((fail_if_success refine g_lit rfl rfl rfl ?_); first | apply g_partM rfl rfl rfl | apply g_partMB rfl rfl rfl | fail))
    | refine gS ?_ | exact s_m | intro _)
  refine s_q (q := by exact qs_rem rfl rfl (by omega)) ?_
  repeat (first
    | (refine g_ops ?_; first | refine sO ?_ | refine s_n (fun _ => ?_) | refine s_appB (fun _ _ => ?_) | refine s_app (fun _ _ => ?_) | refine s_b0 (fun _ => ?_) | ((fail_if_success refine g_lit rfl rfl rfl ?_); first | apply g_partM rfl rfl rfl | apply g_partMB rfl rfl rfl | fail))
    | refine gS ?_ | exact s_m | intro _)
  refine g_cond_dec rfl (fun h2 => ?_) (fun h2 => ?_)
  · have e : lf p n = p.tmod n + n := if_pos h2
    rw [e] at hb
    repeat (first
      | (refine g_ops ?_; first | refine sO ?_ | refine s_n (fun _ => ?_) | refine s_appB (fun _ _ => ?_) | refine s_app (fun _ _ => ?_) | refine s_b0 (fun _ => ?_) | ((fail_if_success refine g_lit rfl rfl rfl ?_); first | apply g_partM rfl rfl rfl | apply g_partMB rfl rfl rfl | fail))
      | refine gS ?_ | exact s_m | intro _)
    exact g_ret () rfl (by (repeat (first | exact RVs.nil | apply RVs.tmp rfl | apply RVs.cellA rfl (by (repeat (first | exact Sel.here | apply Sel.there)); first | done | fail) (by (repeat (first | exact Cut.zero | apply Cut.take | apply Cut.skip)); first | done | fail) | apply RVs.cell1 rfl (by (repeat (first | exact Sel.here | apply Sel.there)); first | done | fail) rfl)); first | done | fail) (by (repeat (first | exact Take.nil | apply Take.cons | exact Sel.here | apply Sel.there)); first | done | fail) (by simp [pack, e]) trivial
  · have e : lf p n = p.tmod n := if_neg h2
    repeat (first
      | (refine g_ops ?_; first | refine sO ?_ | refine s_n (fun _ => ?_) | refine s_appB (fun _ _ => ?_) | refine s_app (fun _ _ => ?_) | refine s_b0 (fun _ => ?_) | ((fail_if_success refine g_lit rfl rfl rfl ?_); first | apply g_partM rfl rfl rfl | apply g_partMB rfl rfl rfl | fail))
      | refine gS ?_ | exact s_m | intro _)
    exact g_ret () rfl (by (repeat (first | exact RVs.nil | apply RVs.tmp rfl | apply RVs.cellA rfl (by (repeat (first | exact Sel.here | apply Sel.there)); first | done | fail) (by (repeat (first | exact Cut.zero | apply Cut.take | apply Cut.skip)); first | done | fail) | apply RVs.cell1 rfl (by (repeat (first | exact Sel.here | apply Sel.there)); first | done | fail) rfl)); first | done | fail) (by (repeat (first | exact Take.nil | apply Take.cons | exact Sel.here | apply Sel.there)); first | done | fail) (by simp [pack, e]) trivial
end Go.Proofs.YtdldgbbhagpofaaGreatDoor

namespace Go.Proofs.YtdldgbbhagpofaaGreatDoor
open Go.Sl facts
theorem cs_le (g : GV) : sumL g.rs ≤ cs g ∧ sumL g.rs + 26 * g.rs.length ≤ 13 * cs g := by unfold cs; omega
theorem csL_le (gs : List GV) (i : Nat) : csL (gs.take i) ≤ csL gs := by
  unfold csL
  conv => rhs; rw [← List.take_append_drop i gs]
  simp only [List.map_append, List.sum_append]
  omega
theorem sumL_mem {rs : List BV} {r : BV} (h : r ∈ rs) : r.l.length ≤ sumL rs := by
  obtain ⟨A, B, rfl⟩ := List.append_of_mem h
  unfold sumL
  simp; omega
structure ApaX where
  i : Nat
  S : List Sg
  x : LG
  y : DkX
  ops : Int
  aq : Option Addr
  ac : Nat
  ws : List BV
  H : HP
structure ApaOk (gs : List GV) (m : Nat) (H0 : HP) (z : ApaX) : Prop where
  le : z.i ≤ m
  sub : HP.sub H0 z.H
  jl : JL z.S z.x z.y.fs (csL (gs.take z.i)) (13 * csL (gs.take z.i))
  at_ : BtsAt z.H z.x.rs
  ats : BtsAt z.H z.ws
  all : bts z.ws = flatS z.S
  ops : 0 ≤ z.ops ∧ z.ops ≤ 202 * z.i
  num : z.ws.length ≤ csL (gs.take z.i)
theorem ApaOk.next {gs : List GV} {m : Nat} {H0 : HP} {z : ApaX} (h : ApaOk gs m H0 z) (hi : z.i < gs.length) (hm : z.i < m) {w : JX} (hR : BtsAt z.H gs[z.i].rs) (hw : JOk z.H z.S gs[z.i].rs (csL (gs.take z.i)) (13 * csL (gs.take z.i)) z.ops w) (q : Option Addr) (c : Nat) : ∃ T, ApaOk gs m H0 ⟨z.i + 1, T, w.x, w.y, w.ops, q, c, z.ws ++ gs[z.i].rs, w.H⟩ := by
  obtain ⟨T, hT, hf⟩ := hw.jl
  have hst := csL_take gs z.i hi
  obtain ⟨h1, h2⟩ := cs_le gs[z.i]
  have ho := h.ops
  have hwo := hw.ops
  refine ⟨T, hm, h.sub.trans hw.sub, hT.mono (by dsimp only; omega) (by dsimp only; omega), hw.at_, fun r hr => ?_, ?_, by dsimp only; push_cast; omega, ?_⟩
  · rcases List.mem_append.1 hr with h3 | h3
    · exact BtAt.grow (h.ats r h3) hw.sub
    · exact BtAt.grow (hR r h3) hw.sub
  · dsimp only
    rw [hf, ← h.all]
    exact List.map_append
  · have := h.num
    dsimp only
    rw [List.length_append, hst]
    unfold cs; omega
theorem ApaOk.skip {gs : List GV} {m : Nat} {H0 : HP} {z : ApaX} (h : ApaOk gs m H0 z) (hi : z.i < gs.length) (hm : z.i < m) : ApaOk gs m H0 { z with i := z.i + 1 } := by
  have hst := csL_take gs z.i hi
  have ho := h.ops
  exact ⟨hm, h.sub, h.jl.mono (by dsimp only; omega) (by dsimp only; omega), h.at_, h.ats, h.all, by dsimp only; push_cast; omega, by have := h.num; dsimp only; omega⟩
attribute [local irreducible] Code.wp wpList Exit.then Exit.inBlock bodyPost Back MidQ G GP QStep VStep CStep SStep Does Post Reads
attribute [local irreducible] Begin RPost MPost frameB recB partB pbytes frB
theorem open0_ {H : HP} (d : Nat) (room : Int) (q : Option Addr) (c : Nat) (ops : Int) (hc0 : 0 ≤ ops ∧ ops ≤ 10000000) (fs : List Fi) (hF : FsN fs) (hu : used fs ≤ 1000000) (V : Vw) (T : Nat) (hV : View fs V T) :
    Does Tryz.prog 19 [ptr d] (bagL d room ops 0 q c fs [Pile H]) (X := OpX) (fun y => .tuple #[ptr y.lg, int 0]) (fun y => y.x.L y.lg d false ++ bagL d room y.z.ops 0 y.z.y.q y.z.y.c y.z.y.fs [Pile y.H]) (fun y => y.ok = true ∧ ∃ s, OpOk V fs H ops 0 s y) := by
  have hok : ∀ y : OpX, (∃ s, OpOk V fs H ops 0 s y) → y.ok = true ∧ y.z.ct = 0 := fun y ⟨s, h⟩ => by
    refine ⟨?_, by have := h.ctb; omega⟩
    cases ho : y.ok with
    | true => rfl
    | false => exact ((h.no ho).1 rfl).elim
  refine does_map (fun y => y) (take_all _) (fun y hy => ?_) (fun Γ y w hy h => ?_) (fun y hy => ⟨(hok y hy).1, hy⟩) (open_ d room q c ops 0 hc0 ⟨Int.le_refl _, by decide⟩ fs hF hu V T hV)
  · rw [(hok y hy).1]; rfl
  · obtain ⟨h1, h2⟩ := hok y hy
    rw [h1, h2] at h
    exact h
end Go.Proofs.YtdldgbbhagpofaaGreatDoor

namespace Go.Sl
open Go
theorem slAt_of {W : World} {α : Type} {A : World → α → List Value → Prop} {n : Nat} {p : Option Addr} {xs : List α} {g : α → List Value} (hn : 0 < n) (hnil : p = none → xs = [])
    (h : ∀ (i : Nat) (x : α), xs[i]? = some x → ∃ b o c, p = some ⟨b, o, none⟩ ∧ A W x c ∧ c.length = n ∧ CellsAt W b (o + i * n) c) (hg : ∀ x c, A W x c → c.length = n → c = g x) (h1 : ∀ x, (g x).all (·.oneCell') = true) (hl : ∀ x, (g x).length = n) :
    SlAt (Init W) n p xs.length (xs.flatMap g) := by
  refine ⟨flat_len hl xs, ?_, fun e => by rw [hnil e]; rfl, fun j v hv => ?_⟩
  · rw [List.all_eq_true]
    intro v hv
    obtain ⟨x, _, hv⟩ := List.mem_flatMap.1 hv
    exact List.all_eq_true.1 (h1 x) v hv
  · have hj := (List.getElem?_eq_some_iff.1 hv).1
    rw [flat_len hl] at hj
    have hi : j / n < xs.length := Nat.div_lt_of_lt_mul (by rw [Nat.mul_comm]; exact hj)
    obtain ⟨b, o, c, rfl, ha, hc, hr⟩ := h (j / n) xs[j / n] (by simp [hi])
    refine ⟨b, o, rfl, reads_init' ?_⟩
    have e := hg _ _ ha hc
    have hd := Nat.div_add_mod j n
    have hv2 : c[j % n]? = some v := by
      rw [e]
      have h2 := Nat.mod_lt j hn
      have h3 : (g xs[j / n])[j % n]? = some ((g xs[j / n])[j % n]'(by rw [hl]; exact h2)) := List.getElem?_eq_getElem _
      have h4 := flat_get hl xs (j / n) xs[j / n] (by simp [hi]) (j % n) _ h3
      rw [show j / n * n + j % n = j by rw [Nat.mul_comm]; exact hd] at h4
      rw [h3, ← h4]; exact hv
    have := hr (j % n) v hv2
    rwa [Nat.add_assoc, show j / n * n + j % n = j by rw [Nat.mul_comm]; exact hd] at this
theorem sl_in {W : World} {α β : Type} {A : World → α → List Value → Prop} {n : Nat} {s : SliceOf α} {f : α → β} {g : β → List Value} {R : β → Prop} (hn : 0 < n)
    (h : s.xs.length ≤ s.cap ∧ s.cap ≤ maxLen ∧ (s.place = none → s.xs = [] ∧ s.cap = 0) ∧ (∀ (i : Nat) (x : α), s.xs[i]? = some x → ∃ b o c, s.place = some ⟨b, o, none⟩ ∧ A W x c ∧ c.length = n ∧ CellsAt W b (o + i * n) c))
    (hg : ∀ x c, A W x c → c = g (f x) ∧ R (f x)) (h1 : ∀ x, (g x).all (·.oneCell') = true) (hl : ∀ x, (g x).length = n) :
    SlAt (Init W) n s.place (s.xs.map f).length ((s.xs.map f).flatMap g) ∧ s.xs.length ≤ 9223372036854775807 ∧ ∀ y ∈ s.xs.map f, R y := by
  obtain ⟨g1, g2, g3, g4⟩ := h
  refine ⟨?_, ?_, fun y hy => ?_⟩
  · rw [List.length_map, List.flatMap_map]
    exact slAt_of (g := fun x => g (f x)) hn (fun e => (g3 e).1) g4 (fun x c hx _ => (hg x c hx).1) (fun x => h1 _) (fun x => hl _)
  · unfold maxLen at g2; omega
  · obtain ⟨x, hx, rfl⟩ := List.mem_map.1 hy
    obtain ⟨i, hi, rfl⟩ := List.mem_iff_getElem.1 hx
    obtain ⟨_, _, c, _, ha, _⟩ := g4 i _ (List.getElem?_eq_getElem hi)
    exact (hg _ _ ha).2
theorem does_less {P : Program} {f : FuncId} {args : List Value} {v : Value} {H : HP} (d : Does P f args [Pile H] (X := HP) (fun _ => v) (fun H' => [Pile H']) (fun H' => HP.sub H H')) : Does1 P f args [Pile H] v := fun Γ w hh =>
  (d Γ w hh).mono fun e w' ⟨H', hs, he, hb⟩ => ⟨(), trivial, he, hb.mono fun h ⟨h1, h2, dj, s1, s2, hc, hr⟩ => by
    have hc' : h1 = H' := hc
    subst hc'
    exact ⟨H, h2, HP.disj_sub dj hs, hs.trans s1, s2, rfl, hr⟩⟩
end Go.Sl
namespace Go.Proofs.YtdldgbbhagpofaaGreatDoor
open Go Go.Sl facts
def u8 (n : Int) : UInt8 := UInt8.ofNat n.toNat
theorem u8_nat {n : Int} (h : (Lit.int .u8 n).wf = true) : ((u8 n).toNat : Int) = n := by
  simp only [Lit.wf, Bool.and_eq_true, decide_eq_true_eq] at h
  have h1 : IntKind.u8.min = 0 := by decide
  have h2 : IntKind.u8.max = 255 := by decide
  rw [h1, h2] at h
  unfold u8
  rw [UInt8.toNat_ofNat']
  omega
theorem btAt_in {W : World} {p : Option Addr} {xs : List Int}
    (h : ∀ (i : Nat) (x : Int), xs[i]? = some x → ∃ b o c, p = some ⟨b, o, none⟩ ∧ Opens.is (P := Tryz.prog) (t := 5) W x c ∧ c.length = 1 ∧ CellsAt W b (o + i * 1) c) : BtAt (Init W) p (xs.map u8) := fun j hj => by
  have hj' : j < xs.length := by simpa using hj
  obtain ⟨b, o, c, rfl, ⟨hc, hw⟩, hl, hr⟩ := h j xs[j] (by simp [hj'])
  refine ⟨b, o, rfl, ?_⟩
  subst hc
  have e : (((xs.map u8).getD j 0).toNat : Int) = xs[j] := by
    rw [show (xs.map u8).getD j 0 = u8 xs[j] by simp [hj']]
    exact u8_nat hw
  rw [e]
  have := hr 0 _ rfl
  rw [Nat.mul_one, Nat.add_zero] at this
  exact reads_init' this
abbrev BsT := SliceOf Int
abbrev RsT := SliceOf BsT
abbrev GsT := SliceOf RsT
def bvOf (z : BsT) : BV := ⟨z.place, z.xs.map u8, z.cap⟩
def gvOf (y : RsT) : GV := ⟨y.place, y.xs.map bvOf, y.cap⟩
theorem bv_of {W : World} {z : BsT} {c : List Value} (h : Opens.is (P := Tryz.prog) (t := 28) W z c) : c = [(bvOf z).v] ∧ BtAt (Init W) (bvOf z).p (bvOf z).l ∧ (bvOf z).l.length ≤ 9223372036854775807 := by
  obtain ⟨h0, h1, h2, h3, h4⟩ := h
  refine ⟨by rw [h0]; simp [SliceOf.val, bvOf], btAt_in h4, ?_⟩
  show (z.xs.map u8).length ≤ _
  rw [List.length_map]
  unfold maxLen at h2; omega
theorem flat_bv (l : List BV) : l.flatMap (fun r => [r.v]) = l.map BV.v := by
  induction l with
  | nil => rfl
  | cons a l ih => simp only [List.flatMap_cons, List.map_cons, ih]; rfl
theorem flat_gv (l : List GV) : l.flatMap (fun r => [r.v]) = l.map GV.v := by
  induction l with
  | nil => rfl
  | cons a l ih => simp only [List.flatMap_cons, List.map_cons, ih]; rfl
theorem gv_of {W : World} {y : RsT} {c : List Value} (h : Opens.is (P := Tryz.prog) (t := 27) W y c) : c = [(gvOf y).v] ∧ RecsAt (wheap W) (gvOf y).p (gvOf y).rs ∧ (gvOf y).rs.length ≤ 9223372036854775807 ∧ ∀ r ∈ (gvOf y).rs, r.l.length ≤ 9223372036854775807 := by
  obtain ⟨h0, h5⟩ := h
  obtain ⟨k1, k2, k3⟩ := sl_in (f := bvOf) (g := fun r : BV => [r.v]) (R := fun r => BtAt (Init W) r.p r.l ∧ r.l.length ≤ 9223372036854775807) (by decide) h5 (fun x c hx => ⟨(bv_of hx).1, (bv_of hx).2⟩) (fun _ => rfl) (fun _ => rfl)
  rw [flat_bv] at k1
  refine ⟨by rw [h0]; simp [SliceOf.val, gvOf], ⟨k1, fun r hr => (k3 r hr).1⟩, ?_, fun r hr => (k3 r hr).2⟩
  show (y.xs.map bvOf).length ≤ _
  rw [List.length_map]
  exact k2
theorem gs_of {W : World} {x : GsT}
    (h : x.xs.length ≤ x.cap ∧ x.cap ≤ maxLen ∧ (x.place = none → x.xs = [] ∧ x.cap = 0) ∧ ∀ (i : Nat) (y : RsT), x.xs[i]? = some y → ∃ b o c, x.place = some ⟨b, o, none⟩ ∧ Opens.is (P := Tryz.prog) (t := 27) W y c ∧ c.length = 1 ∧ CellsAt W b (o + i * 1) c) : x.val = .slice x.place (x.xs.map gvOf).length x.cap ∧ GsAt (wheap W) x.place (x.xs.map gvOf) := by
  obtain ⟨k1, k2, k3⟩ := sl_in (f := gvOf) (g := fun r : GV => [r.v]) (R := fun g => RecsAt (wheap W) g.p g.rs ∧ g.rs.length ≤ 9223372036854775807 ∧ ∀ r ∈ g.rs, r.l.length ≤ 9223372036854775807) (by decide) h (fun x c hx => ⟨(gv_of hx).1, (gv_of hx).2⟩) (fun _ => rfl) (fun _ => rfl)
  rw [flat_gv] at k1
  exact ⟨by simp [SliceOf.val], k1, fun g hg => (k3 g hg).1, by rw [List.length_map]; exact k2, fun g hg => (k3 g hg).2⟩
end Go.Proofs.YtdldgbbhagpofaaGreatDoor
