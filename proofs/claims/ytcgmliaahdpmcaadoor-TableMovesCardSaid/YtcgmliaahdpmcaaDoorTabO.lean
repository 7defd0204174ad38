/- Steps that came in, as lists. -/
import Derived.Test.YtcgmliaahdpmcaaDoorTabL
import Derived.Test.YtcgmliaahdpmcaaDoorTabS
import Derived.Test.YtcgmliaahdpmcaaDoorSli
set_option linter.unusedSimpArgs false
set_option linter.unusedVariables false
namespace Go.Sl
open Go
/-- A slice that came in. -/
theorem slAt_of {W : World} {α : Type} {A : World → α → List Value → Prop} {n : Nat} {p : Option Addr} {xs : List α} {g : α → List Value} (hn : 0 < n) (hnil : p = none → xs = [])
    (h : ∀ (i : Nat) (x : α), xs[i]? = some x → ∃ b o c, p = some ⟨b, o, none⟩ ∧ A W x c ∧ c.length = n ∧ CellsAt W b (o + i * n) c) (hg : ∀ x c, A W x c → c.length = n → c = g x) (h1 : ∀ x, (g x).all (·.oneCell') = true) (hl : ∀ x, (g x).length = n) :
    SlAt (Init W) n p xs.length (xs.flatMap g) := by
  refine ⟨flat_len hl xs, ?_, fun e => by rw [hnil e]; rfl, fun j v hv => ?_⟩
  · rw [List.all_eq_true]
    intro v hv
    obtain ⟨x, _, hv⟩ := List.mem_flatMap.1 hv
    exact List.all_eq_true.1 (h1 x) v hv
  · have hj := (List.getElem?_eq_some_iff.1 hv).1
    rw [flat_len hl] at hj
    have hi : j / n < xs.length := Nat.div_lt_of_lt_mul (by rw [Nat.mul_comm]; exact hj)
    obtain ⟨b, o, c, rfl, ha, hc, hr⟩ := h (j / n) xs[j / n] (by simp [hi])
    refine ⟨b, o, rfl, reads_init' ?_⟩
    have e := hg _ _ ha hc
    have hd := Nat.div_add_mod j n
    have hv2 : c[j % n]? = some v := by
      rw [e]
      have h2 := Nat.mod_lt j hn
      have h3 : (g xs[j / n])[j % n]? = some ((g xs[j / n])[j % n]'(by rw [hl]; exact h2)) := List.getElem?_eq_getElem _
      have h4 := flat_get hl xs (j / n) xs[j / n] (by simp [hi]) (j % n) _ h3
      rw [show j / n * n + j % n = j by rw [Nat.mul_comm]; exact hd] at h4
      rw [h3, ← h4]; exact hv
    have := hr (j % n) v hv2
    rwa [Nat.add_assoc, show j / n * n + j % n = j by rw [Nat.mul_comm]; exact hd] at this
/-- What a slice's facts say of its cells and of each one of it. -/
theorem sl_in {W : World} {α β : Type} {A : World → α → List Value → Prop} {n : Nat} {s : SliceOf α} {f : α → β} {g : β → List Value} {R : β → Prop} (hn : 0 < n)
    (h : s.xs.length ≤ s.cap ∧ s.cap ≤ maxLen ∧ (s.place = none → s.xs = [] ∧ s.cap = 0) ∧ (∀ (i : Nat) (x : α), s.xs[i]? = some x → ∃ b o c, s.place = some ⟨b, o, none⟩ ∧ A W x c ∧ c.length = n ∧ CellsAt W b (o + i * n) c))
    (hg : ∀ x c, A W x c → c = g (f x) ∧ R (f x)) (h1 : ∀ x, (g x).all (·.oneCell') = true) (hl : ∀ x, (g x).length = n) :
    SlAt (Init W) n s.place (s.xs.map f).length ((s.xs.map f).flatMap g) ∧ s.xs.length ≤ 9223372036854775807 ∧ ∀ y ∈ s.xs.map f, R y := by
  obtain ⟨g1, g2, g3, g4⟩ := h
  refine ⟨?_, ?_, fun y hy => ?_⟩
  · rw [List.length_map, List.flatMap_map]
    exact slAt_of (g := fun x => g (f x)) hn (fun e => (g3 e).1) g4 (fun x c hx _ => (hg x c hx).1) (fun x => h1 _) (fun x => hl _)
  · unfold maxLen at g2; omega
  · obtain ⟨x, hx, rfl⟩ := List.mem_map.1 hy
    obtain ⟨i, hi, rfl⟩ := List.mem_iff_getElem.1 hx
    obtain ⟨_, _, c, _, ha, _⟩ := g4 i _ (List.getElem?_eq_getElem hi)
    exact (hg _ _ ha).2
end Go.Sl
namespace Go.Proofs.YtcgmliaahdpmcaaDoor
open Go Go.Sl facts
abbrev S3T := Int × Int × Int × Unit
abbrev EvT := ByteArray × Int × ByteArray × S3T × Int × Unit
abbrev KnT := ByteArray × Int × S3T × Unit
abbrev StrT := ByteArray × SliceOf EvT × SliceOf KnT × Unit
abbrev StpT := Int × ByteArray × SliceOf EvT × SliceOf StrT × (Int × Int × Int × Int × Unit) × Unit
def s3T (x : S3T) : S3 := ⟨x.1, x.2.1, x.2.2.1⟩
def evT (x : EvT) : Ev := ⟨x.1, x.2.1, x.2.2.1, s3T x.2.2.2.1, x.2.2.2.2.1⟩
def knT (x : KnT) : Kn := ⟨x.1, x.2.1, s3T x.2.2.1⟩
def strT (x : StrT) : StrV := ⟨x.1, x.2.1.place, x.2.1.cap, x.2.1.xs.map evT, x.2.2.1.place, x.2.2.1.cap, x.2.2.1.xs.map knT⟩
def stpT (x : StpT) : StV := ⟨x.1, x.2.1, x.2.2.1.place, x.2.2.1.cap, x.2.2.1.xs.map evT, x.2.2.2.1.place, x.2.2.2.1.cap, x.2.2.2.1.xs.map strT, x.2.2.2.2.1.1, x.2.2.2.2.1.2.1, x.2.2.2.2.1.2.2.1, x.2.2.2.2.1.2.2.2.1⟩
theorem evT_of {W : World} {x : EvT} {c : List Value} (h : Opens.is (P := Tryd.prog) (t := 30) W x c) : c = (evT x).cells ∧ x.1.size ≤ 9223372036854775807 ∧ x.2.2.1.size ≤ 9223372036854775807 := by
  obtain ⟨h0, ⟨h1, g1⟩, ⟨h2, g2⟩, ⟨h3, g3⟩, ⟨h4, ⟨h5, _⟩, ⟨h6, _⟩, ⟨h7, _⟩, _⟩, ⟨h8, _⟩, _⟩ := h
  match c, h0 with
  | [c0, c1, c2, c3, c4, c5, c6], _ =>
    simp at h1 h2 h3 h5 h6 h7 h8
    subst h1 h2 h3 h5 h6 h7 h8
    refine ⟨rfl, ?_, ?_⟩
    · unfold maxLen at g1; omega
    · unfold maxLen at g3; omega
theorem ml {n : Nat} (h : n ≤ maxLen) : n ≤ 9223372036854775807 := by unfold maxLen at h; omega
theorem knT_of {W : World} {x : KnT} {c : List Value} (h : Opens.is (P := Tryd.prog) (t := 32) W x c) : c = (knT x).cells ∧ (knT x).key.size ≤ 9223372036854775807 := by
  obtain ⟨h0, ⟨h1, g1⟩, ⟨h2, g2⟩, ⟨h4, ⟨h5, _⟩, ⟨h6, _⟩, ⟨h7, _⟩, _⟩, _⟩ := h
  match c, h0 with
  | [c0, c1, c2, c3, c4], _ =>
    simp at h1 h2 h5 h6 h7
    subst h1 h2 h5 h6 h7
    exact ⟨rfl, ml g1⟩
theorem evT_of' {W : World} {x : EvT} {c : List Value} (h : Opens.is (P := Tryd.prog) (t := 30) W x c) : c = (evT x).cells ∧ ((evT x).st.size ≤ 9223372036854775807 ∧ (evT x).data.size ≤ 9223372036854775807) := evT_of h
theorem strT_of {W : World} {x : StrT} {c : List Value} (h : Opens.is (P := Tryd.prog) (t := 60) W x c) : c = (strT x).cells ∧ StrAt (Init W) (strT x) := by
  obtain ⟨h0, ⟨h1, g1⟩, ⟨h2, ge⟩, ⟨h3, gk⟩, _⟩ := h
  match c, h0 with
  | [c0, c1, c2], _ =>
    simp [SliceOf.val] at h1 h2 h3
    subst h1 h2 h3
    obtain ⟨e1, e2, e3⟩ := sl_in (f := evT) (R := fun y => y.st.size ≤ 9223372036854775807 ∧ y.data.size ≤ 9223372036854775807) (by decide) ge (fun x c => evT_of') (fun _ => rfl) ev_len
    obtain ⟨k1, k2, k3⟩ := sl_in (f := knT) (R := fun y => y.key.size ≤ 9223372036854775807) (by decide) gk (fun x c => knT_of) (fun _ => rfl) kn_len
    exact ⟨by simp [StrV.cells, strT], ⟨e1, k1, by simpa [strT] using e2, by simpa [strT] using k2, ml g1, ⟨fun x hx => (e3 x hx).1, fun x hx => (e3 x hx).2⟩, k3⟩⟩
set_option synthInstance.maxHeartbeats 400000 in
set_option synthInstance.maxSize 1000 in
theorem stpT_of {W : World} {x : StpT} {c : List Value} (h : Opens.is (P := Tryd.prog) (t := 43) W x c) : c = (stpT x).cells ∧ StepAt (Init W) (stpT x) := by
  obtain ⟨h0, ⟨h1, _⟩, ⟨h2, g2⟩, ⟨h3, ge⟩, ⟨h4, gs⟩, ⟨h5, ⟨h6, _⟩, ⟨h7, _⟩, ⟨h8, _⟩, ⟨h9, _⟩, _⟩, _⟩ := h
  match c, h0 with
  | [c0, c1, c2, c3, c4, c5, c6, c7], _ =>
    simp [SliceOf.val] at h1 h2 h3 h4 h6 h7 h8 h9
    subst h1 h2 h3 h4 h6 h7 h8 h9
    obtain ⟨e1, e2, e3⟩ := sl_in (f := evT) (R := fun y => y.st.size ≤ 9223372036854775807 ∧ y.data.size ≤ 9223372036854775807) (by decide) ge (fun x c => evT_of') (fun _ => rfl) ev_len
    obtain ⟨k1, k2, k3⟩ := sl_in (f := strT) (R := StrAt (Init W)) (by decide) gs (fun x c => strT_of) (fun _ => rfl) str_len
    exact ⟨by simp [StV.cells, stpT], ⟨e1, k1, k3, by simpa [stpT] using e2, by simpa [stpT] using k2, ml g2, ⟨fun x hx => (e3 x hx).1, fun x hx => (e3 x hx).2⟩⟩⟩
set_option synthInstance.maxHeartbeats 400000 in
set_option synthInstance.maxSize 1000 in
theorem stepsAt_of {W : World} {x : SliceOf StpT} {c : List Value} (h : Opens.is (P := Tryd.prog) (t := 36) W x c) : StepsAt (Init W) x.place (x.xs.map stpT) ∧ x.xs.length ≤ 9223372036854775807 := by
  obtain ⟨_, g⟩ := h
  obtain ⟨k1, k2, k3⟩ := sl_in (f := stpT) (R := StepAt (Init W)) (by decide) g (fun x c => stpT_of) (fun _ => rfl) stv_len
  exact ⟨⟨k1, k3⟩, k2⟩
end Go.Proofs.YtcgmliaahdpmcaaDoor
