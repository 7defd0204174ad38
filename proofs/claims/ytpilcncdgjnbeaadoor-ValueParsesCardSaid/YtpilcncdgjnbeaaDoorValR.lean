/- What the listed tables give; the door's own heap meets the condition. -/
import Derived.Test.YtpilcncdgjnbeaaDoorRows
import Derived.Test.YtpilcncdgjnbeaaDoorValO
import Derived.Test.YtpilcncdgjnbeaaDoorShelV
import Derived.LaidLaws
import Derived.LaidMore
import Derived.OpenShut
import Derived.Stop.Joined
import Derived.Stop.LaidErr
import Derived.Lib.LaidU8T
import Derived.Shelf.Unicode.ValidAny
import Derived.PinnedBridge
set_option linter.unusedSimpArgs false
set_option linter.unusedVariables false
namespace Go.Proofs.YtpilcncdgjnbeaaDoor
open Go Go.ChangeShapes Go.WideShapes Go.ChangeAt Go.RowKit Go.Sl facts
/-- What utf8 reads stands there. -/
def UtH (H : HP) : Prop := ∃ xs e fz ys e' fz', H 0 = some (.cells xs e fz) ∧ H 1 = some (.cells ys e' fz') ∧ (∀ c, c < 256 → xs[c]? = some (.int .u8 (Lib.firstT c))) ∧ (∀ i, i < 16 → ys[2 * i]? = some (.int .u8 (Lib.accLo i)) ∧ ys[2 * i + 1]? = some (.int .u8 (Lib.accHi i)))
def tabV : List Value := Lib.pow10Tab.map fun z => .int .u64 z
/-- The table stands there. -/
def TabH (H : HP) : Prop := ∃ (e : TypeId) (fz : Nat × Nat), H 5 = some (.cells tabV.toArray e fz)
theorem tabIs {H : HP} (h : TabH H) {w : World} (hw : ∀ b o, H b = some o → w.heap[b]? = some o) : Lib.TabIs Tryd.prog w "internal/strconv.uint64pow10" .u64 Lib.pow10Tab := by
  obtain ⟨e, fz, h⟩ := h
  have hg : Tryd.prog.globalNamed "internal/strconv.uint64pow10" = some 5 := by kernel_rfl
  unfold Lib.TabIs World.var?
  rw [hg]
  simp only [Option.bind_some, hw _ _ h]
  rfl
theorem tabs {H : HP} (h : UtH H) {w : World} (hw : ∀ b o, H b = some o → w.heap[b]? = some o) : Lib.Utf8Tabs 0 1 w := by
  obtain ⟨xs, e, fz, ys, e', fz', h1, h2, h3, h4⟩ := h
  refine ⟨fun c hc => ?_, fun i hi => ?_⟩
  · have := hw _ _ h1
    show w.cell? ⟨0, c, none⟩ = _
    simp [World.cell?, this, h3 c hc]
  · have := hw _ _ h2
    show w.cell? ⟨1, 2 * i, none⟩ = _ ∧ w.cell? ⟨1, 2 * i + 1, none⟩ = _
    simp [World.cell?, this, h4 i hi]
theorem tb_of {H : HP} (hU : UtH H) (hP : TabH H) : Tb H where
  vs := fun s hs => does_of_below fun w hw => Any.utf8_ValidString Tryd.laysNm196 s w hs (tabs hU hw)
  dec := fun s _ => does_of_below fun w hw => Any.utf8_DecodeRuneInString Tryd.laysNm197 s w (tabs hU hw)
  nd := fun u h1 h2 => does_of_calls fun w hw => (Any.internal_strconv_numDigits Tryd.laysMNm284 u h1 h2 w (tabIs hP hw)).mono fun e w' ⟨he, hw'⟩ => ⟨he, 0, #[], by subst hw'; simp [_root_.Go.Sort.grow, World.drewN]⟩
theorem own : ownKnob Tryd.prog.godebug = none := by kernel_rfl
theorem laidOut : laidOutB Tryd.prog = true := by kernel_rfl
def lst : List (String × DataW Unit) := [("math/bits.deBruijn32tab", Rows.laid_math_bits_deBruijn32tab), ("math/bits.deBruijn64tab", Rows.laid_math_bits_deBruijn64tab), ("internal/strconv.uint64pow10", Rows.laid_internal_strconv_uint64pow10), ("unicode/utf8.acceptRanges", Rows.laid_unicode_utf8_acceptRanges), ("unicode/utf8.first", Rows.laid_unicode_utf8_first)]
/-- The door's own heap, and utf8's first table laid in it. -/
noncomputable def doorW (os : Os) : World := { World.doorLaid Tryd.prog 400 os with heap := (World.doorLaid Tryd.prog 400 os).heap.modify 0 fun o => match o with
  | .cells _ e fz => .cells (Lib.firstTab.map (.int .u8)).toArray e fz
  | o => o }
theorem door_met (os : Os) (args : Array Value) : laidMetH Tryd.prog lst ((doorW os).forCall (fun _ _ => 0) ⟨#[], args, []⟩).memory :=
  laidMetH_of_parts3 (fuel := 8) (laidMet_of_run' 8 (by kernel_rfl) (by kernel_rfl)) (by kernel_rfl) (by kernel_rfl)
theorem u8x : U8Extra Tryd.prog Tryd.laysNm196_ren := ⟨by kernel_rfl, by kernel_rfl, by kernel_rfl, by kernel_rfl, by kernel_rfl, by kernel_rfl, by kernel_rfl⟩
theorem ut_of {W : World} {l : List (String × DataW Unit)} (h : laidMet Tryd.prog l W) (m1 : ("unicode/utf8.first", Rows.laid_unicode_utf8_first) ∈ l) (m2 : ("unicode/utf8.acceptRanges", Rows.laid_unicode_utf8_acceptRanges) ∈ l) : UtH (wheap W) := by
  have h3 := Lib.laidMet.reads h (n := "unicode/utf8.first") (d := Lib.firstData) (by rw [← Pinned.utf8First_eq]; exact m1)
  have h4 := Lib.laidMet.reads h (n := "unicode/utf8.acceptRanges") (d := Lib.acceptData) (by rw [show Lib.acceptData = Rows.laid_unicode_utf8_acceptRanges from rfl]; exact m2)
  have ht := utf8Tabs_of_readsT (U8Types.of196 Tryd.laysNm196) u8x h3 h4
  obtain ⟨t1, t2⟩ := ht
  have key : ∀ (g : Nat) (v : Value), W.cell? ⟨g, 0, none⟩ = some v → ∃ xs e fz, W.heap[g]? = some (.cells xs e fz) ∧ ∀ c u, W.cell? ⟨g, c, none⟩ = some u → xs[c]? = some u := fun g v hv => by
    unfold World.cell? at hv
    split at hv
    · rename_i xs e fz hb
      refine ⟨xs, e, fz, hb, fun c u hu => ?_⟩
      simpa [World.cell?, hb] using hu
    · cases hv
  obtain ⟨xs, e, fz, hb, hx⟩ := key _ _ (t1 0 (by decide))
  obtain ⟨ys, e', fz', hb', hy⟩ := key _ _ (t2 0 (by decide)).1
  exact ⟨xs, e, fz, ys, e', fz', hb, hb', fun c hc => hx c _ (t1 c hc), fun i hi => ⟨hy _ _ (t2 i hi).1, hy _ _ (t2 i hi).2⟩⟩
theorem tabH_of {W : World} {rest : List (String × DataW Unit)} (h3 : laidMet Tryd.prog (("internal/strconv.uint64pow10", Lib.tabData .u64 Lib.pow10Tab) :: rest) W) : TabH (wheap W) := by
  have hg : Tryd.prog.globalNamed "internal/strconv.uint64pow10" = some 5 := by kernel_rfl
  have ht := Lib.tabIs_of_head (g := 5) (t := 156) (e := 115) (n := 20) hg (by kernel_rfl) Tryd.underlying156 Tryd.underlying115 (by kernel_rfl) (by kernel_rfl) h3
  unfold Lib.TabIs World.var? at ht
  rw [hg] at ht
  simp only [Option.bind_some] at ht
  split at ht
  · rename_i cs e fz hb
    simp only [Option.some.injEq] at ht
    subst ht
    exact ⟨e, fz, hb⟩
  · cases ht
theorem tab_of {W : World} (h : laidMetH Tryd.prog lst W) : Tb (wheap W) := by
  rw [MakeChecks.laidMetH_plain _ _ _ (by kernel_rfl)] at h
  exact tb_of (ut_of h (.tail _ (.tail _ (.tail _ (.tail _ (.head _))))) (.tail _ (.tail _ (.tail _ (.head _))))) (tabH_of (laidMet.tail (laidMet.tail h)))
set_option maxRecDepth 100000 in
theorem argV {W : World} {H : Type} {enc : TypeId × Value → H} {b : Nat} {sp : Nat → Bool} {v : Value} {x : DataW H} {ps : List MemPlace} (hval : Value.okWide Tryd.prog W .any b 25 v) (h : DataW.Trod enc Tryd.prog W 0 sp true 25 v x ps) : ∃ w u, v = .agg u.cells.toArray ∧ VAt (Init W) w u :=
  arg_V (tI := 3) (tB := 4) (tS := 9) (tL := 22) (tK := 23) inferInstance inferInstance inferInstance inferInstance inferInstance inferInstance inferInstance inferInstance inferInstance inferInstance inferInstance inferInstance hval h
end Go.Proofs.YtpilcncdgjnbeaaDoor
