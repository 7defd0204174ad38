/- What came in, as lists; the walk of CoordParts. -/
import Derived.Test.YtfachckbjmofgaaCrdM
import Derived.Test.YtfachckbjmofgaaSli
set_option linter.unusedSimpArgs false
set_option linter.unusedVariables false
namespace Go.Sl
open Go
/-- A slice that came in. -/
theorem slAt_of {W : World} {α : Type} {A : World → α → List Value → Prop} {n : Nat} {p : Option Addr} {xs : List α} {g : α → List Value} (hn : 0 < n) (hnil : p = none → xs = [])
    (h : ∀ (i : Nat) (x : α), xs[i]? = some x → ∃ b o c, p = some ⟨b, o, none⟩ ∧ A W x c ∧ c.length = n ∧ CellsAt W b (o + i * n) c) (hg : ∀ x c, A W x c → c.length = n → c = g x) (h1 : ∀ x, (g x).all (·.oneCell') = true) (hl : ∀ x, (g x).length = n) :
    SlAt (Init W) n p xs.length (xs.flatMap g) := by
  refine ⟨flat_len hl xs, ?_, fun e => by rw [hnil e]; rfl, fun j v hv => ?_⟩
  · rw [List.all_eq_true]
    intro v hv
    obtain ⟨x, _, hv⟩ := List.mem_flatMap.1 hv
    exact List.all_eq_true.1 (h1 x) v hv
  · have hj := (List.getElem?_eq_some_iff.1 hv).1
    rw [flat_len hl] at hj
    have hi : j / n < xs.length := Nat.div_lt_of_lt_mul (by rw [Nat.mul_comm]; exact hj)
    obtain ⟨b, o, c, rfl, ha, hc, hr⟩ := h (j / n) xs[j / n] (by simp [hi])
    refine ⟨b, o, rfl, reads_init' ?_⟩
    have e := hg _ _ ha hc
    have hd := Nat.div_add_mod j n
    have hv2 : c[j % n]? = some v := by
      rw [e]
      have h2 := Nat.mod_lt j hn
      have h3 : (g xs[j / n])[j % n]? = some ((g xs[j / n])[j % n]'(by rw [hl]; exact h2)) := List.getElem?_eq_getElem _
      have h4 := flat_get hl xs (j / n) xs[j / n] (by simp [hi]) (j % n) _ h3
      rw [show j / n * n + j % n = j by rw [Nat.mul_comm]; exact hd] at h4
      rw [h3, ← h4]; exact hv
    have := hr (j % n) v hv2
    rwa [Nat.add_assoc, show j / n * n + j % n = j by rw [Nat.mul_comm]; exact hd] at this
/-- What a slice's facts say of its cells and of each one of it. -/
theorem sl_in {W : World} {α β : Type} {A : World → α → List Value → Prop} {n : Nat} {s : SliceOf α} {f : α → β} {g : β → List Value} {R : β → Prop} (hn : 0 < n)
    (h : s.xs.length ≤ s.cap ∧ s.cap ≤ maxLen ∧ (s.place = none → s.xs = [] ∧ s.cap = 0) ∧ (∀ (i : Nat) (x : α), s.xs[i]? = some x → ∃ b o c, s.place = some ⟨b, o, none⟩ ∧ A W x c ∧ c.length = n ∧ CellsAt W b (o + i * n) c))
    (hg : ∀ x c, A W x c → c = g (f x) ∧ R (f x)) (h1 : ∀ x, (g x).all (·.oneCell') = true) (hl : ∀ x, (g x).length = n) :
    SlAt (Init W) n s.place (s.xs.map f).length ((s.xs.map f).flatMap g) ∧ s.xs.length ≤ 9223372036854775807 ∧ ∀ y ∈ s.xs.map f, R y := by
  obtain ⟨g1, g2, g3, g4⟩ := h
  refine ⟨?_, ?_, fun y hy => ?_⟩
  · rw [List.length_map, List.flatMap_map]
    exact slAt_of (g := fun x => g (f x)) hn (fun e => (g3 e).1) g4 (fun x c hx _ => (hg x c hx).1) (fun x => h1 _) (fun x => hl _)
  · unfold maxLen at g2; omega
  · obtain ⟨x, hx, rfl⟩ := List.mem_map.1 hy
    obtain ⟨i, hi, rfl⟩ := List.mem_iff_getElem.1 hx
    obtain ⟨_, _, c, _, ha, _⟩ := g4 i _ (List.getElem?_eq_getElem hi)
    exact (hg _ _ ha).2
end Go.Sl
namespace Go.Proofs.Ytfachckbjmofgaa
open Go Go.Sl facts
abbrev RgT := Int × Int × Int × Int × Unit
abbrev PtT := ByteArray × Int × SliceOf ByteArray × Unit
abbrev BtT := ByteArray × SliceOf PtT × Unit
def rgT (x : RgT) : Rg := ⟨x.1, x.2.1, x.2.2.1, x.2.2.2.1⟩
def ptT (x : PtT) : Pt := ⟨x.1, x.2.1, x.2.2.1.place, x.2.2.1.cap, x.2.2.1.xs⟩
def btT (x : BtT) : Bt := ⟨x.1, x.2.1.place, x.2.1.cap, x.2.1.xs.map ptT⟩
theorem ml {n : Nat} (h : n ≤ maxLen) : n ≤ 9223372036854775807 := by unfold maxLen at h; omega
theorem stamp_of {W : World} {x : Int × Int × Int × Unit} {cs : List Value} (h : Opens.is (P := Try.prog) (t := 42) W x cs) : ∃ s : S3, cs = s.cells := by
  obtain ⟨hl, ⟨h1, _⟩, ⟨h2, _⟩, ⟨h3, _⟩, _⟩ := h
  match cs, hl with
  | [a, b, c], _ => exact ⟨⟨x.1, x.2.1, x.2.2.1⟩, by simp_all [S3.cells]⟩
theorem inI_wf {a : Int} (h : (Lit.int .i64 a).wf = true) : inI a := by
  simp only [Lit.wf, Bool.and_eq_true, decide_eq_true_eq] at h
  have e1 : IntKind.i64.min = -9223372036854775808 := by decide
  have e2 : IntKind.i64.max = 9223372036854775807 := by decide
  rw [e1, e2] at h
  exact h
theorem rgT_of {W : World} {x : RgT} {c : List Value} (h : Opens.is (P := Try.prog) (t := 90) W x c) : c = (rgT x).cells ∧ inI (rgT x).o := by
  obtain ⟨hl, ⟨h1, _⟩, ⟨h2, _⟩, ⟨h3, g3⟩, ⟨h4, _⟩, _⟩ := h
  match c, hl with
  | [c0, c1, c2, c3], _ =>
    simp at h1 h2 h3 h4
    subst h1 h2 h3 h4
    exact ⟨rfl, inI_wf g3⟩
theorem rgs_of {W : World} {x : SliceOf RgT} {c : List Value} (h : Opens.is (P := Try.prog) (t := 22) W x c) : SlAt (Init W) 4 x.place (x.xs.map rgT).length ((x.xs.map rgT).flatMap Rg.cells) ∧ x.xs.length ≤ 9223372036854775807 ∧ ∀ y ∈ x.xs.map rgT, inI y.o := by
  obtain ⟨_, g⟩ := h
  exact sl_in (f := rgT) (R := fun y => inI y.o) (by decide) g (fun x c => rgT_of) (fun _ => rfl) rg_len
theorem txt_of {W : World} {x : ByteArray} {c : List Value} (h : Opens.is (P := Try.prog) (t := 9) W x c) : c = [.string x] ∧ x.size ≤ 9223372036854775807 := by
  obtain ⟨h1, g1⟩ := h
  exact ⟨h1, ml g1⟩
theorem flat_one (l : List ByteArray) : l.flatMap (fun t => [Value.string t]) = l.map .string := by
  induction l with
  | nil => rfl
  | cons a l ih => simp only [List.flatMap_cons, List.map_cons, ih]; rfl
theorem one_of {W : World} {x : Int} {c : List Value} (h : Opens.is (P := Try.prog) (t := 3) W x c) : c = [.int .i64 x] ∧ inI x := by
  obtain ⟨h1, g1⟩ := h
  exact ⟨h1, inI_wf g1⟩
theorem flat_int (l : List Int) : l.flatMap (fun t => [Value.int .i64 t]) = l.map (.int .i64 ·) := by
  induction l with
  | nil => rfl
  | cons a l ih => simp only [List.flatMap_cons, List.map_cons, ih]; rfl
theorem ints_of {W : World} {x : SliceOf Int} {c : List Value} (h : Opens.is (P := Try.prog) (t := 28) W x c) : SlAt (Init W) 1 x.place x.xs.length (x.xs.map (.int .i64 ·)) ∧ x.xs.length ≤ 9223372036854775807 ∧ ∀ y ∈ x.xs, inI y := by
  obtain ⟨_, g⟩ := h
  obtain ⟨e1, e2, e3⟩ := sl_in (f := id) (g := fun t => [Value.int .i64 t]) (R := fun y => inI y) (by decide) g (fun x c => one_of) (fun _ => rfl) (fun _ => rfl)
  rw [List.map_id, flat_int] at e1
  rw [List.map_id] at e3
  exact ⟨e1, e2, e3⟩
theorem ptT_of {W : World} {x : PtT} {c : List Value} (h : Opens.is (P := Try.prog) (t := 34) W x c) : c = (ptT x).cells ∧ PtIn (Init W) (ptT x) := by
  obtain ⟨hl, ⟨h1, g1⟩, ⟨h2, _⟩, ⟨h3, g3⟩, _⟩ := h
  match c, hl with
  | [c0, c1, c2], _ =>
    simp [SliceOf.val] at h1 h2 h3
    subst h1 h2 h3
    obtain ⟨e1, e2, e3⟩ := sl_in (f := id) (g := fun t => [Value.string t]) (R := fun y => y.size ≤ 9223372036854775807) (by decide) g3 (fun x c => txt_of) (fun _ => rfl) (fun _ => rfl)
    rw [List.map_id, flat_one] at e1
    rw [List.map_id] at e3
    exact ⟨rfl, ⟨e1, e2, ml g1, e3⟩⟩
theorem btT_of {W : World} {x : BtT} {c : List Value} (h : Opens.is (P := Try.prog) (t := 25) W x c) : c = (btT x).cells ∧ BtIn (Init W) (btT x) := by
  obtain ⟨hl, ⟨h1, g1⟩, ⟨h2, g2⟩, _⟩ := h
  match c, hl with
  | [c0, c1], _ =>
    simp [SliceOf.val] at h1 h2
    subst h1 h2
    obtain ⟨e1, e2, e3⟩ := sl_in (f := ptT) (R := PtIn (Init W)) (by decide) g2 (fun x c => ptT_of) (fun _ => rfl) pt_len
    exact ⟨by simp [Bt.cells, btT], ⟨e1, e3, by simpa [btT] using e2, ml g1⟩⟩
end Go.Proofs.Ytfachckbjmofgaa
