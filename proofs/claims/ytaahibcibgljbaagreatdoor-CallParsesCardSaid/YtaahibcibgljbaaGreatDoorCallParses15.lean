/-
  DERIVED: THE SHELF's CONTRACTS AT THIS DUMP, IN PLAIN WORDS (tools/lay-plain.mjs out of 'TryzShelV.lean', which tools/lay-shelf.mjs wrote): THE SAME DECLARATIONS UNDER THE SAME NAMES: 'import', 'namespace', 'open', 'def', 'theorem' AND NOTHING ELSE: no command of the shelf's: FOR A HAND-IN. Each laying: the table of numbers ('.._ren') and one theorem, a field a fact of the dump's own or the kernel's comparison; each contract: ONE APPLICATION.
-/
import Derived.Shelf.Unicode.ValidAny
import Derived.Shelf.Unicode.DecodeAny
import Derived.Shelf.Strconv.Itoa1
import Derived.Test.YtaahibcibgljbaaGreatDoorProg
import Derived.Test.YtaahibcibgljbaaGreatDoorRows
import Derived.Test.YtaahibcibgljbaaGreatDoorCallParses14
import Derived.LaidLaws
import Derived.LaidMore
import Derived.OpenShut
import Derived.Stop.Joined
import Derived.Stop.LaidErr
import Derived.Lib.LaidU8T
import Derived.PinnedBridge
set_option linter.unusedSimpArgs false
set_option linter.unusedVariables false
namespace Go.Proofs
open Go.Shelf
def Tryz.laysNm196_ren : Go.Shelf.Ren := ⟨fun | 196 => 102 | 259 => 115 | n => n, fun | 9 => 9 | 4 => 4 | 3 => 3 | 5 => 5 | 12 => 12 | 119 => 175 | 0 => 0 | 46 => 138 | 139 => 178 | 138 => 177 | 53 => 123 | n => n, fun | 3 => 3 | 4 => 4 | n => n⟩
theorem Tryz.laysNm196 : Go.Proofs.Lays.n196 Tryz.prog Tryz.laysNm196_ren := {
  mixed := by kernel_rfl
  f196 := Tryz.func102.trans (congrArg some (by kernel_rfl))
  f259 := Tryz.func115.trans (congrArg some (by kernel_rfl))
  t0 := Tryz.underlying0
  a0 := Tryz.isAgg0
  z0 := Tryz.sizeOf0
  v0 := Tryz.zeroValue0
  t3 := Tryz.underlying3
  a3 := Tryz.isAgg3
  z3 := Tryz.sizeOf3
  v3 := Tryz.zeroValue3
  t4 := Tryz.underlying4
  a4 := Tryz.isAgg4
  z4 := Tryz.sizeOf4
  v4 := Tryz.zeroValue4
  t5 := Tryz.underlying5
  a5 := Tryz.isAgg5
  z5 := Tryz.sizeOf5
  v5 := Tryz.zeroValue5
  t9 := Tryz.underlying9
  a9 := Tryz.isAgg9
  z9 := Tryz.sizeOf9
  v9 := Tryz.zeroValue9
  t12 := Tryz.underlying12
  a12 := Tryz.isAgg12
  z12 := Tryz.sizeOf12
  v12 := Tryz.zeroValue12
  t46 := Tryz.underlying138
  a46 := Tryz.isAgg138
  z46 := Tryz.sizeOf138
  v46 := Tryz.zeroValue138
  t53 := Tryz.underlying123
  a53 := Tryz.isAgg123
  z53 := Tryz.sizeOf123
  v53 := Tryz.zeroValue123
  t119 := Tryz.underlying175
  a119 := Tryz.isAgg175
  z119 := Tryz.sizeOf175
  t138 := Tryz.underlying177
  a138 := Tryz.isAgg177
  z138 := Tryz.sizeOf177
  v138 := Tryz.zeroValue177
  t139 := Tryz.underlying178
  a139 := Tryz.isAgg178
  z139 := Tryz.sizeOf178
  v139 := Tryz.zeroValue178
  g3 := by kernel_rfl
  g4 := by kernel_rfl }
def Tryz.laysNm197_ren : Go.Shelf.Ren := ⟨fun | 197 => 90 | 260 => 103 | n => n, fun | 9 => 9 | 21 => 21 | 3 => 3 | 4 => 4 | 5 => 5 | 105 => 149 | 119 => 175 | 0 => 0 | 46 => 138 | 139 => 178 | 138 => 177 | n => n, fun | 3 => 3 | 4 => 4 | n => n⟩
theorem Tryz.laysNm197 : Go.Proofs.Lays.n197 Tryz.prog Tryz.laysNm197_ren := {
  mixed := by kernel_rfl
  f197 := Tryz.func90.trans (congrArg some (by kernel_rfl))
  f260 := Tryz.func103.trans (congrArg some (by kernel_rfl))
  t0 := Tryz.underlying0
  a0 := Tryz.isAgg0
  z0 := Tryz.sizeOf0
  v0 := Tryz.zeroValue0
  t3 := Tryz.underlying3
  a3 := Tryz.isAgg3
  z3 := Tryz.sizeOf3
  v3 := Tryz.zeroValue3
  t4 := Tryz.underlying4
  a4 := Tryz.isAgg4
  z4 := Tryz.sizeOf4
  v4 := Tryz.zeroValue4
  t5 := Tryz.underlying5
  a5 := Tryz.isAgg5
  z5 := Tryz.sizeOf5
  v5 := Tryz.zeroValue5
  t9 := Tryz.underlying9
  a9 := Tryz.isAgg9
  z9 := Tryz.sizeOf9
  v9 := Tryz.zeroValue9
  t21 := Tryz.underlying21
  a21 := Tryz.isAgg21
  z21 := Tryz.sizeOf21
  v21 := Tryz.zeroValue21
  t46 := Tryz.underlying138
  a46 := Tryz.isAgg138
  z46 := Tryz.sizeOf138
  v46 := Tryz.zeroValue138
  t105 := Tryz.underlying149
  a105 := Tryz.isAgg149
  z105 := Tryz.sizeOf149
  v105 := Tryz.zeroValue149
  t119 := Tryz.underlying175
  a119 := Tryz.isAgg175
  z119 := Tryz.sizeOf175
  t138 := Tryz.underlying177
  a138 := Tryz.isAgg177
  z138 := Tryz.sizeOf177
  v138 := Tryz.zeroValue177
  t139 := Tryz.underlying178
  a139 := Tryz.isAgg178
  z139 := Tryz.sizeOf178
  v139 := Tryz.zeroValue178
  g3 := by kernel_rfl
  g4 := by kernel_rfl }
def Tryz.laysMNm284_ren : Go.Shelf.Ren := ⟨fun | 284 => 112 | 129 => 121 | 317 => 120 | 318 => 122 | n => n, fun | 53 => 123 | 3 => 3 | 212 => 187 | 0 => 0 | 4 => 4 | 46 => 138 | 5 => 5 | 9 => 9 | n => n, fun | 17 => 5 | n => n⟩
theorem Tryz.laysMNm284 : Go.Proofs.LaysM.n284 Tryz.prog Tryz.laysMNm284_ren := {
  mixed := by kernel_rfl
  f129 := Tryz.func121.trans (congrArg some (by kernel_rfl))
  f284 := Tryz.func112.trans (congrArg some (by kernel_rfl))
  f317 := Tryz.func120.trans (congrArg some (by kernel_rfl))
  f318 := Tryz.func122.trans (congrArg some (by kernel_rfl))
  t0 := Tryz.underlying0
  a0 := Tryz.isAgg0
  z0 := Tryz.sizeOf0
  v0 := Tryz.zeroValue0
  t3 := Tryz.underlying3
  a3 := Tryz.isAgg3
  z3 := Tryz.sizeOf3
  v3 := Tryz.zeroValue3
  t4 := Tryz.underlying4
  a4 := Tryz.isAgg4
  z4 := Tryz.sizeOf4
  v4 := Tryz.zeroValue4
  t5 := Tryz.underlying5
  a5 := Tryz.isAgg5
  z5 := Tryz.sizeOf5
  v5 := Tryz.zeroValue5
  t9 := Tryz.underlying9
  a9 := Tryz.isAgg9
  z9 := Tryz.sizeOf9
  v9 := Tryz.zeroValue9
  t46 := Tryz.underlying138
  a46 := Tryz.isAgg138
  z46 := Tryz.sizeOf138
  v46 := Tryz.zeroValue138
  t53 := Tryz.underlying123
  a53 := Tryz.isAgg123
  z53 := Tryz.sizeOf123
  v53 := Tryz.zeroValue123
  t212 := Tryz.underlying187
  a212 := Tryz.isAgg187
  z212 := Tryz.sizeOf187
  v212 := Tryz.zeroValue187
  g17 := by kernel_rfl
  i0 := by kernel_rfl
  i3 := by kernel_rfl
  i4 := by kernel_rfl
  i5 := by kernel_rfl
  i9 := by kernel_rfl
  i46 := by kernel_rfl
  i53 := by kernel_rfl
  i212 := by kernel_rfl
  m17 := by kernel_rfl }
end Go.Proofs

namespace Go.Proofs.YtaahibcibgljbaaGreatDoor
open Go Go.ChangeShapes Go.WideShapes Go.ChangeAt Go.RowKit Go.Sl facts
def UtH (H : HP) : Prop := ∃ xs e fz ys e' fz', H 3 = some (.cells xs e fz) ∧ H 4 = some (.cells ys e' fz') ∧ (∀ c, c < 256 → xs[c]? = some (.int .u8 (Lib.firstT c))) ∧ (∀ i, i < 16 → ys[2 * i]? = some (.int .u8 (Lib.accLo i)) ∧ ys[2 * i + 1]? = some (.int .u8 (Lib.accHi i)))
def tabV : List Value := Lib.pow10Tab.map fun z => .int .u64 z
def TabH (H : HP) : Prop := ∃ (e : TypeId) (fz : Nat × Nat), H 5 = some (.cells tabV.toArray e fz)
theorem tabIs {H : HP} (h : TabH H) {w : World} (hw : ∀ b o, H b = some o → w.heap[b]? = some o) : Lib.TabIs Tryz.prog w "internal/strconv.uint64pow10" .u64 Lib.pow10Tab := by
  obtain ⟨e, fz, h⟩ := h
  have hg : Tryz.prog.globalNamed "internal/strconv.uint64pow10" = some 5 := by kernel_rfl
  unfold Lib.TabIs World.var?
  rw [hg]
  simp only [Option.bind_some, hw _ _ h]
  rfl
theorem tabs {H : HP} (h : UtH H) {w : World} (hw : ∀ b o, H b = some o → w.heap[b]? = some o) : Lib.Utf8Tabs 3 4 w := by
  obtain ⟨xs, e, fz, ys, e', fz', h1, h2, h3, h4⟩ := h
  refine ⟨fun c hc => ?_, fun i hi => ?_⟩
  · have := hw _ _ h1
    show w.cell? ⟨3, c, none⟩ = _
    simp [World.cell?, this, h3 c hc]
  · have := hw _ _ h2
    show w.cell? ⟨4, 2 * i, none⟩ = _ ∧ w.cell? ⟨4, 2 * i + 1, none⟩ = _
    simp [World.cell?, this, h4 i hi]
theorem tb_of {H : HP} (hU : UtH H) (hP : TabH H) : Tb H where
  vs := fun s hs => does_of_below fun w hw => Any.utf8_ValidString Tryz.laysNm196 s w hs (tabs hU hw)
  dec := fun s _ => does_of_below fun w hw => Any.utf8_DecodeRuneInString Tryz.laysNm197 s w (tabs hU hw)
  nd := fun u h1 h2 => does_of_calls fun w hw => (Any.internal_strconv_numDigits Tryz.laysMNm284 u h1 h2 w (tabIs hP hw)).mono fun e w' ⟨he, hw'⟩ => ⟨he, 0, #[], by subst hw'; simp [_root_.Go.Sort.grow, World.drewN]⟩
theorem own : ownKnob Tryz.prog.godebug = none := by kernel_rfl
theorem laidOut : laidOutB Tryz.prog = true := by kernel_rfl
def lst : List (String × DataW Unit) := [("math/bits.deBruijn32tab", Rows.laid_math_bits_deBruijn32tab), ("math/bits.deBruijn64tab", Rows.laid_math_bits_deBruijn64tab), ("internal/strconv.uint64pow10", Rows.laid_internal_strconv_uint64pow10), ("unicode/utf8.acceptRanges", Rows.laid_unicode_utf8_acceptRanges), ("unicode/utf8.first", Rows.laid_unicode_utf8_first)]
noncomputable def doorW (os : Os) : World := { World.doorLaid Tryz.prog 400 os with heap := (World.doorLaid Tryz.prog 400 os).heap.modify 3 fun o => match o with
  | .cells _ e fz => .cells (Lib.firstTab.map (.int .u8)).toArray e fz
  | o => o }
theorem u8x : U8Extra Tryz.prog Tryz.laysNm196_ren := ⟨by kernel_rfl, by kernel_rfl, by kernel_rfl, by kernel_rfl, by kernel_rfl, by kernel_rfl, by kernel_rfl⟩
theorem ut_of {W : World} {l : List (String × DataW Unit)} (h : laidMet Tryz.prog l W) (m1 : ("unicode/utf8.first", Rows.laid_unicode_utf8_first) ∈ l) (m2 : ("unicode/utf8.acceptRanges", Rows.laid_unicode_utf8_acceptRanges) ∈ l) : UtH (wheap W) := by
  have h3 := Lib.laidMet.reads h (n := "unicode/utf8.first") (d := Lib.firstData) (by rw [← Pinned.utf8First_eq]; exact m1)
  have h4 := Lib.laidMet.reads h (n := "unicode/utf8.acceptRanges") (d := Lib.acceptData) (by rw [show Lib.acceptData = Rows.laid_unicode_utf8_acceptRanges from rfl]; exact m2)
  have ht := utf8Tabs_of_readsT (U8Types.of196 Tryz.laysNm196) u8x h3 h4
  obtain ⟨t1, t2⟩ := ht
  have key : ∀ (g : Nat) (v : Value), W.cell? ⟨g, 0, none⟩ = some v → ∃ xs e fz, W.heap[g]? = some (.cells xs e fz) ∧ ∀ c u, W.cell? ⟨g, c, none⟩ = some u → xs[c]? = some u := fun g v hv => by
    unfold World.cell? at hv
    split at hv
    · rename_i xs e fz hb
      refine ⟨xs, e, fz, hb, fun c u hu => ?_⟩
      simpa [World.cell?, hb] using hu
    · cases hv
  obtain ⟨xs, e, fz, hb, hx⟩ := key _ _ (t1 0 (by decide))
  obtain ⟨ys, e', fz', hb', hy⟩ := key _ _ (t2 0 (by decide)).1
  exact ⟨xs, e, fz, ys, e', fz', hb, hb', fun c hc => hx c _ (t1 c hc), fun i hi => ⟨hy _ _ (t2 i hi).1, hy _ _ (t2 i hi).2⟩⟩
theorem tabH_of {W : World} {rest : List (String × DataW Unit)} (h3 : laidMet Tryz.prog (("internal/strconv.uint64pow10", Lib.tabData .u64 Lib.pow10Tab) :: rest) W) : TabH (wheap W) := by
  have hg : Tryz.prog.globalNamed "internal/strconv.uint64pow10" = some 5 := by kernel_rfl
  have ht := Lib.tabIs_of_head (g := 5) (t := 187) (e := 123) (n := 20) hg (by kernel_rfl) Tryz.underlying187 Tryz.underlying123 (by kernel_rfl) (by kernel_rfl) h3
  unfold Lib.TabIs World.var? at ht
  rw [hg] at ht
  simp only [Option.bind_some] at ht
  split at ht
  · rename_i cs e fz hb
    simp only [Option.some.injEq] at ht
    subst ht
    exact ⟨e, fz, hb⟩
  · cases ht
end Go.Proofs.YtaahibcibgljbaaGreatDoor
