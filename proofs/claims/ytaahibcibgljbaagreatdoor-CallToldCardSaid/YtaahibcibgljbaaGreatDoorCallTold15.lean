/- Contracts and laws that the proof stands on. -/
import Derived.Test.YtaahibcibgljbaaGreatDoorCallTold14
import Derived.Shelf.Unicode.ValidAny
import Derived.Shelf.Unicode.DecodeAny
import Derived.Shelf.Strconv.Itoa1
import Derived.Test.YtaahibcibgljbaaGreatDoorProg
import Derived.Test.YtaahibcibgljbaaGreatDoorRows
import Derived.LaidLaws
import Derived.LaidMore
import Derived.OpenShut
import Derived.Stop.Joined
import Derived.Stop.LaidErr
import Derived.Lib.LaidU8T
import Derived.PinnedBridge
set_option linter.unusedSimpArgs false
set_option linter.unusedVariables false
namespace Go.Proofs.YtaahibcibgljbaaGreatDoor
open Go.Sl facts
inductive SmV : V → Prop where
  | mk {k y n s ks l} (h6 : k = 6 → ks.length = l.length) (h0 : k ≠ 6 → ks = []) (h5 : k < 5 → l = []) (h : ∀ x ∈ l, SmV x) : SmV (.mk k y n s ks l)
theorem VAt.ok {C : Chunk} {v : V} {u : Vc} (h : VAt C v u) : VOk v := by
  induction h with
  | mk us hk hn hs hkl hks hkS hl hu hS _ ih =>
    refine .mk hn fun x hx => ?_
    obtain ⟨i, hi, rfl⟩ := List.mem_iff_getElem.1 hx
    exact ih i _ _ (List.getElem?_eq_getElem hi) (List.getElem?_eq_getElem (by omega))
theorem szV_pos (v : V) : 1 ≤ szV v := by cases v; rw [szV_mk]; omega
theorem szK_len : ∀ l : List V, l.length ≤ szK l
  | [] => by simp
  | x :: l => by have := szK_len l; have := szV_pos x; rw [szK_cons, List.length_cons]; omega
theorem shape (deep k : Int) (a b : Nat) (h : (bif decide (40 < deep) then true
          else
            bif decide ((a : Int) ≠ (b : Int)) then
              bif decide (k = 6) then true
              else
                bif decide (k ≠ 6) then
                  bif decide (0 < (a : Int)) then true else bif decide (k < 5) then decide (0 < (b : Int)) else false
                else bif decide (k < 5) then decide (0 < (b : Int)) else false
            else
              bif decide (k ≠ 6) then
                bif decide (0 < (a : Int)) then true else bif decide (k < 5) then decide (0 < (b : Int)) else false
              else bif decide (k < 5) then decide (0 < (b : Int)) else false) = false) : deep ≤ 40 ∧ (k = 6 → a = b) ∧ (k ≠ 6 → a = 0) ∧ (k < 5 → b = 0) := by
  by_cases a1 : 40 < deep
  · simp only [decide_eq_true a1, cond_true] at h; cases h
  simp only [decide_eq_false a1, cond_false] at h
  by_cases a2 : (a : Int) ≠ (b : Int) <;> by_cases a3 : k = 6 <;> by_cases a4 : (0 : Int) < a <;> by_cases a5 : k < 5 <;> by_cases a6 : (0 : Int) < b <;>
    first | omega | (simp only [a2, a3, a4, a5, a6, ne_eq, not_true, not_false_eq_true, decide_true, decide_false, cond_true, cond_false] at h; cases h) | (simp [a2, a3, a4, a5, a6] at h; done) | omega
attribute [local irreducible] Code.wp wpList Exit.then Exit.inBlock bodyPost Back MidQ G GP QStep VStep CStep SStep Does Post Reads
attribute [local irreducible] sumF szV szK szS
structure IM where
  i : Nat
  m : Int
end Go.Proofs.YtaahibcibgljbaaGreatDoor
namespace Go.Sl
theorem nil_get {α : Type} {j : Nat} {w : α} (h : ([] : List α)[j]? = some w) : False := by simp at h
end Go.Sl
namespace Go.Proofs.YtaahibcibgljbaaGreatDoor
open Go.Sl facts
attribute [local irreducible] Code.wp wpList Exit.then Exit.inBlock bodyPost Back MidQ G GP QStep VStep CStep SStep Does Post Reads
structure MdX where
  i : Nat
  q : Option Addr
  c : Nat
  vs : List Value
  H : HP
structure MpX where
  i : Nat
  q : Option Addr
  c : Nat
  ps : List Pr
  H : HP
structure MqX where
  q : Option Addr
  c : Nat
  H : HP
  w : Value
theorem TAt.shape {H : HP} {v : V} {x : Value} (h : TAt H v x) : x = .nilIface ∨ ∃ t u, x = .iface t u := by cases h <;> first | exact .inl rfl | exact .inr ⟨_, _, rfl⟩
theorem TAt.one {H : HP} {v : V} {x : Value} (h : TAt H v x) : x.oneCell' = true := by cases h <;> rfl
end Go.Proofs.YtaahibcibgljbaaGreatDoor
namespace Go.Proofs.YtaahibcibgljbaaGreatDoor
open Go.Sl facts
attribute [local irreducible] Code.wp wpList Exit.then Exit.inBlock bodyPost Back MidQ G GP QStep VStep CStep SStep Does Post Reads
def Other (ty : TypeId) (x : Value) : Prop := x = .nilIface ∨ ∃ t v, x = .iface t v ∧ Nat.beq t ty = false
theorem int_yes (n : Int) : Does1 Tryz.prog 14 [.iface 3 (int n)] [] (.tuple #[int n, .bool true]) := by
  refine fn_intro Tryz.func14 rfl Tryz.ntmps14 rfl (by simp only [argFr, Nat.zero_add, Nat.reduceAdd]; rfl) (fun Γ => ?_)
  repeat (first
    | (refine g_ops ?_; first | refine sO ?_ | refine s_n (fun _ => ?_) | refine s_app (fun _ _ => ?_) | refine s_b0 (fun _ => ?_) | ((fail_if_success refine g_lit rfl rfl rfl ?_); first | apply g_partM rfl rfl rfl | apply g_partMB rfl rfl rfl | fail))
    | refine gS ?_ | exact s_m | intro _)
  exact s_r ()
theorem int_no {x : Value} (h : Other 3 x) : Does1 Tryz.prog 14 [x] [] (.tuple #[int 0, .bool false]) := by
  rcases h with rfl | ⟨t, v, rfl, ne⟩
  · refine fn_intro Tryz.func14 rfl Tryz.ntmps14 rfl (by simp only [argFr, Nat.zero_add, Nat.reduceAdd]; rfl) (fun Γ => ?_)
    repeat (first
      | (refine g_ops ?_; first | refine sO ?_ | refine s_n (fun _ => ?_) | refine s_app (fun _ _ => ?_) | refine s_b0 (fun _ => ?_) | ((fail_if_success refine g_lit rfl rfl rfl ?_); first | apply g_partM rfl rfl rfl | apply g_partMB rfl rfl rfl | fail))
      | refine gS ?_ | exact s_m | intro _)
    exact s_r ()
  · refine fn_intro Tryz.func14 rfl Tryz.ntmps14 rfl (by simp only [argFr, Nat.zero_add, Nat.reduceAdd]; rfl) (fun Γ => ?_)
    repeat (first
      | (refine g_ops ?_; first | refine sO ?_ | refine s_n (fun _ => ?_) | refine s_app (fun _ _ => ?_) | refine s_b0 (fun _ => ?_) | ((fail_if_success refine g_lit rfl rfl rfl ?_); first | apply g_partM rfl rfl rfl | apply g_partMB rfl rfl rfl | fail))
      | refine gS ?_ | exact s_m | intro _)
    exact s_r ()
end Go.Proofs.YtaahibcibgljbaaGreatDoor

/-
  DERIVED: THE SHELF's CONTRACTS AT THIS DUMP, IN PLAIN WORDS (tools/lay-plain.mjs out of 'TryzShelV.lean', which tools/lay-shelf.mjs wrote): THE SAME DECLARATIONS UNDER THE SAME NAMES: 'import', 'namespace', 'open', 'def', 'theorem' AND NOTHING ELSE: no command of the shelf's: FOR A HAND-IN. Each laying: the table of numbers ('.._ren') and one theorem, a field a fact of the dump's own or the kernel's comparison; each contract: ONE APPLICATION.
-/
namespace Go.Proofs
open Go.Shelf
def Tryz.laysNm196_ren : Go.Shelf.Ren := ⟨fun | 196 => 102 | 259 => 115 | n => n, fun | 9 => 9 | 4 => 4 | 3 => 3 | 5 => 5 | 12 => 12 | 119 => 175 | 0 => 0 | 46 => 138 | 139 => 178 | 138 => 177 | 53 => 123 | n => n, fun | 3 => 3 | 4 => 4 | n => n⟩
theorem Tryz.laysNm196 : Go.Proofs.Lays.n196 Tryz.prog Tryz.laysNm196_ren := {
  mixed := by kernel_rfl
  f196 := Tryz.func102.trans (congrArg some (by kernel_rfl))
  f259 := Tryz.func115.trans (congrArg some (by kernel_rfl))
  t0 := Tryz.underlying0
  a0 := Tryz.isAgg0
  z0 := Tryz.sizeOf0
  v0 := Tryz.zeroValue0
  t3 := Tryz.underlying3
  a3 := Tryz.isAgg3
  z3 := Tryz.sizeOf3
  v3 := Tryz.zeroValue3
  t4 := Tryz.underlying4
  a4 := Tryz.isAgg4
  z4 := Tryz.sizeOf4
  v4 := Tryz.zeroValue4
  t5 := Tryz.underlying5
  a5 := Tryz.isAgg5
  z5 := Tryz.sizeOf5
  v5 := Tryz.zeroValue5
  t9 := Tryz.underlying9
  a9 := Tryz.isAgg9
  z9 := Tryz.sizeOf9
  v9 := Tryz.zeroValue9
  t12 := Tryz.underlying12
  a12 := Tryz.isAgg12
  z12 := Tryz.sizeOf12
  v12 := Tryz.zeroValue12
  t46 := Tryz.underlying138
  a46 := Tryz.isAgg138
  z46 := Tryz.sizeOf138
  v46 := Tryz.zeroValue138
  t53 := Tryz.underlying123
  a53 := Tryz.isAgg123
  z53 := Tryz.sizeOf123
  v53 := Tryz.zeroValue123
  t119 := Tryz.underlying175
  a119 := Tryz.isAgg175
  z119 := Tryz.sizeOf175
  t138 := Tryz.underlying177
  a138 := Tryz.isAgg177
  z138 := Tryz.sizeOf177
  v138 := Tryz.zeroValue177
  t139 := Tryz.underlying178
  a139 := Tryz.isAgg178
  z139 := Tryz.sizeOf178
  v139 := Tryz.zeroValue178
  g3 := by kernel_rfl
  g4 := by kernel_rfl }
def Tryz.laysNm197_ren : Go.Shelf.Ren := ⟨fun | 197 => 90 | 260 => 103 | n => n, fun | 9 => 9 | 21 => 21 | 3 => 3 | 4 => 4 | 5 => 5 | 105 => 149 | 119 => 175 | 0 => 0 | 46 => 138 | 139 => 178 | 138 => 177 | n => n, fun | 3 => 3 | 4 => 4 | n => n⟩
theorem Tryz.laysNm197 : Go.Proofs.Lays.n197 Tryz.prog Tryz.laysNm197_ren := {
  mixed := by kernel_rfl
  f197 := Tryz.func90.trans (congrArg some (by kernel_rfl))
  f260 := Tryz.func103.trans (congrArg some (by kernel_rfl))
  t0 := Tryz.underlying0
  a0 := Tryz.isAgg0
  z0 := Tryz.sizeOf0
  v0 := Tryz.zeroValue0
  t3 := Tryz.underlying3
  a3 := Tryz.isAgg3
  z3 := Tryz.sizeOf3
  v3 := Tryz.zeroValue3
  t4 := Tryz.underlying4
  a4 := Tryz.isAgg4
  z4 := Tryz.sizeOf4
  v4 := Tryz.zeroValue4
  t5 := Tryz.underlying5
  a5 := Tryz.isAgg5
  z5 := Tryz.sizeOf5
  v5 := Tryz.zeroValue5
  t9 := Tryz.underlying9
  a9 := Tryz.isAgg9
  z9 := Tryz.sizeOf9
  v9 := Tryz.zeroValue9
  t21 := Tryz.underlying21
  a21 := Tryz.isAgg21
  z21 := Tryz.sizeOf21
  v21 := Tryz.zeroValue21
  t46 := Tryz.underlying138
  a46 := Tryz.isAgg138
  z46 := Tryz.sizeOf138
  v46 := Tryz.zeroValue138
  t105 := Tryz.underlying149
  a105 := Tryz.isAgg149
  z105 := Tryz.sizeOf149
  v105 := Tryz.zeroValue149
  t119 := Tryz.underlying175
  a119 := Tryz.isAgg175
  z119 := Tryz.sizeOf175
  t138 := Tryz.underlying177
  a138 := Tryz.isAgg177
  z138 := Tryz.sizeOf177
  v138 := Tryz.zeroValue177
  t139 := Tryz.underlying178
  a139 := Tryz.isAgg178
  z139 := Tryz.sizeOf178
  v139 := Tryz.zeroValue178
  g3 := by kernel_rfl
  g4 := by kernel_rfl }
def Tryz.laysMNm284_ren : Go.Shelf.Ren := ⟨fun | 284 => 112 | 129 => 121 | 317 => 120 | 318 => 122 | n => n, fun | 53 => 123 | 3 => 3 | 212 => 187 | 0 => 0 | 4 => 4 | 46 => 138 | 5 => 5 | 9 => 9 | n => n, fun | 17 => 5 | n => n⟩
theorem Tryz.laysMNm284 : Go.Proofs.LaysM.n284 Tryz.prog Tryz.laysMNm284_ren := {
  mixed := by kernel_rfl
  f129 := Tryz.func121.trans (congrArg some (by kernel_rfl))
  f284 := Tryz.func112.trans (congrArg some (by kernel_rfl))
  f317 := Tryz.func120.trans (congrArg some (by kernel_rfl))
  f318 := Tryz.func122.trans (congrArg some (by kernel_rfl))
  t0 := Tryz.underlying0
  a0 := Tryz.isAgg0
  z0 := Tryz.sizeOf0
  v0 := Tryz.zeroValue0
  t3 := Tryz.underlying3
  a3 := Tryz.isAgg3
  z3 := Tryz.sizeOf3
  v3 := Tryz.zeroValue3
  t4 := Tryz.underlying4
  a4 := Tryz.isAgg4
  z4 := Tryz.sizeOf4
  v4 := Tryz.zeroValue4
  t5 := Tryz.underlying5
  a5 := Tryz.isAgg5
  z5 := Tryz.sizeOf5
  v5 := Tryz.zeroValue5
  t9 := Tryz.underlying9
  a9 := Tryz.isAgg9
  z9 := Tryz.sizeOf9
  v9 := Tryz.zeroValue9
  t46 := Tryz.underlying138
  a46 := Tryz.isAgg138
  z46 := Tryz.sizeOf138
  v46 := Tryz.zeroValue138
  t53 := Tryz.underlying123
  a53 := Tryz.isAgg123
  z53 := Tryz.sizeOf123
  v53 := Tryz.zeroValue123
  t212 := Tryz.underlying187
  a212 := Tryz.isAgg187
  z212 := Tryz.sizeOf187
  v212 := Tryz.zeroValue187
  g17 := by kernel_rfl
  i0 := by kernel_rfl
  i3 := by kernel_rfl
  i4 := by kernel_rfl
  i5 := by kernel_rfl
  i9 := by kernel_rfl
  i46 := by kernel_rfl
  i53 := by kernel_rfl
  i212 := by kernel_rfl
  m17 := by kernel_rfl }
end Go.Proofs

namespace Go.Proofs.YtaahibcibgljbaaGreatDoor
open Go Go.ChangeShapes Go.WideShapes Go.ChangeAt Go.RowKit Go.Sl facts
def UtH (H : HP) : Prop := ∃ xs e fz ys e' fz', H 3 = some (.cells xs e fz) ∧ H 4 = some (.cells ys e' fz') ∧ (∀ c, c < 256 → xs[c]? = some (.int .u8 (Lib.firstT c))) ∧ (∀ i, i < 16 → ys[2 * i]? = some (.int .u8 (Lib.accLo i)) ∧ ys[2 * i + 1]? = some (.int .u8 (Lib.accHi i)))
def tabV : List Value := Lib.pow10Tab.map fun z => .int .u64 z
def TabH (H : HP) : Prop := ∃ (e : TypeId) (fz : Nat × Nat), H 5 = some (.cells tabV.toArray e fz)
theorem tabIs {H : HP} (h : TabH H) {w : World} (hw : ∀ b o, H b = some o → w.heap[b]? = some o) : Lib.TabIs Tryz.prog w "internal/strconv.uint64pow10" .u64 Lib.pow10Tab := by
  obtain ⟨e, fz, h⟩ := h
  have hg : Tryz.prog.globalNamed "internal/strconv.uint64pow10" = some 5 := by kernel_rfl
  unfold Lib.TabIs World.var?
  rw [hg]
  simp only [Option.bind_some, hw _ _ h]
  rfl
theorem tabs {H : HP} (h : UtH H) {w : World} (hw : ∀ b o, H b = some o → w.heap[b]? = some o) : Lib.Utf8Tabs 3 4 w := by
  obtain ⟨xs, e, fz, ys, e', fz', h1, h2, h3, h4⟩ := h
  refine ⟨fun c hc => ?_, fun i hi => ?_⟩
  · have := hw _ _ h1
    show w.cell? ⟨3, c, none⟩ = _
    simp [World.cell?, this, h3 c hc]
  · have := hw _ _ h2
    show w.cell? ⟨4, 2 * i, none⟩ = _ ∧ w.cell? ⟨4, 2 * i + 1, none⟩ = _
    simp [World.cell?, this, h4 i hi]
theorem tb_of {H : HP} (hU : UtH H) (hP : TabH H) : Tb H where
  vs := fun s hs => does_of_below fun w hw => Any.utf8_ValidString Tryz.laysNm196 s w hs (tabs hU hw)
  dec := fun s _ => does_of_below fun w hw => Any.utf8_DecodeRuneInString Tryz.laysNm197 s w (tabs hU hw)
  nd := fun u h1 h2 => does_of_calls fun w hw => (Any.internal_strconv_numDigits Tryz.laysMNm284 u h1 h2 w (tabIs hP hw)).mono fun e w' ⟨he, hw'⟩ => ⟨he, 0, #[], by subst hw'; simp [_root_.Go.Sort.grow, World.drewN]⟩
theorem own : ownKnob Tryz.prog.godebug = none := by kernel_rfl
theorem laidOut : laidOutB Tryz.prog = true := by kernel_rfl
def lst : List (String × DataW Unit) := [("math/bits.deBruijn32tab", Rows.laid_math_bits_deBruijn32tab), ("math/bits.deBruijn64tab", Rows.laid_math_bits_deBruijn64tab), ("internal/strconv.uint64pow10", Rows.laid_internal_strconv_uint64pow10), ("unicode/utf8.acceptRanges", Rows.laid_unicode_utf8_acceptRanges), ("unicode/utf8.first", Rows.laid_unicode_utf8_first)]
noncomputable def doorW (os : Os) : World := { World.doorLaid Tryz.prog 400 os with heap := (World.doorLaid Tryz.prog 400 os).heap.modify 3 fun o => match o with
  | .cells _ e fz => .cells (Lib.firstTab.map (.int .u8)).toArray e fz
  | o => o }
theorem u8x : U8Extra Tryz.prog Tryz.laysNm196_ren := ⟨by kernel_rfl, by kernel_rfl, by kernel_rfl, by kernel_rfl, by kernel_rfl, by kernel_rfl, by kernel_rfl⟩
theorem ut_of {W : World} {l : List (String × DataW Unit)} (h : laidMet Tryz.prog l W) (m1 : ("unicode/utf8.first", Rows.laid_unicode_utf8_first) ∈ l) (m2 : ("unicode/utf8.acceptRanges", Rows.laid_unicode_utf8_acceptRanges) ∈ l) : UtH (wheap W) := by
  have h3 := Lib.laidMet.reads h (n := "unicode/utf8.first") (d := Lib.firstData) (by rw [← Pinned.utf8First_eq]; exact m1)
  have h4 := Lib.laidMet.reads h (n := "unicode/utf8.acceptRanges") (d := Lib.acceptData) (by rw [show Lib.acceptData = Rows.laid_unicode_utf8_acceptRanges from rfl]; exact m2)
  have ht := utf8Tabs_of_readsT (U8Types.of196 Tryz.laysNm196) u8x h3 h4
  obtain ⟨t1, t2⟩ := ht
  have key : ∀ (g : Nat) (v : Value), W.cell? ⟨g, 0, none⟩ = some v → ∃ xs e fz, W.heap[g]? = some (.cells xs e fz) ∧ ∀ c u, W.cell? ⟨g, c, none⟩ = some u → xs[c]? = some u := fun g v hv => by
    unfold World.cell? at hv
    split at hv
    · rename_i xs e fz hb
      refine ⟨xs, e, fz, hb, fun c u hu => ?_⟩
      simpa [World.cell?, hb] using hu
    · cases hv
  obtain ⟨xs, e, fz, hb, hx⟩ := key _ _ (t1 0 (by decide))
  obtain ⟨ys, e', fz', hb', hy⟩ := key _ _ (t2 0 (by decide)).1
  exact ⟨xs, e, fz, ys, e', fz', hb, hb', fun c hc => hx c _ (t1 c hc), fun i hi => ⟨hy _ _ (t2 i hi).1, hy _ _ (t2 i hi).2⟩⟩
theorem tabH_of {W : World} {rest : List (String × DataW Unit)} (h3 : laidMet Tryz.prog (("internal/strconv.uint64pow10", Lib.tabData .u64 Lib.pow10Tab) :: rest) W) : TabH (wheap W) := by
  have hg : Tryz.prog.globalNamed "internal/strconv.uint64pow10" = some 5 := by kernel_rfl
  have ht := Lib.tabIs_of_head (g := 5) (t := 187) (e := 123) (n := 20) hg (by kernel_rfl) Tryz.underlying187 Tryz.underlying123 (by kernel_rfl) (by kernel_rfl) h3
  unfold Lib.TabIs World.var? at ht
  rw [hg] at ht
  simp only [Option.bind_some] at ht
  split at ht
  · rename_i cs e fz hb
    simp only [Option.some.injEq] at ht
    subst ht
    exact ⟨e, fz, hb⟩
  · cases ht
end Go.Proofs.YtaahibcibgljbaaGreatDoor

namespace Go.Proofs.YtaahibcibgljbaaGreatDoor
open Go.Sl
def posF (s : ByteArray) : Nat → Nat → List Nat
  | 0, _ => []
  | f + 1, k => if k < s.size then k :: posF s f (k + (Utf8.decode s k).2) else []
def pos (s : ByteArray) : List Nat := posF s s.size 0
structure Rn where
  r : Nat
  a : Nat
  e : Nat
  no : Bool
def Rn.cells (x : Rn) : List Value := [.int .i32 (x.r : Int), .int .i64 (x.a : Int), .int .i64 (x.e : Int), .bool x.no]
theorem Rn.len (x : Rn) : x.cells.length = 4 := rfl
end Go.Proofs.YtaahibcibgljbaaGreatDoor
namespace Go.Proofs.YtaahibcibgljbaaGreatDoor
open Go.Sl facts
attribute [local irreducible] Code.wp wpList Exit.then Exit.inBlock bodyPost Back MidQ G GP QStep VStep CStep SStep Does Post Reads
attribute [local irreducible] wrongB
structure AlX where
  k : Nat
  f : Nat
  ps : List Nat
  q : Option Addr
  c : Nat
structure AmX where
  i : Nat
theorem qR_doc (s : ByteArray) (k : Nat) (h : k < s.size) : qR s k = if (at8 s k).toNat = 34 then [92, 34] else if (at8 s k).toNat = 92 then [92, 92] else if (at8 s k).toNat = 10 then [92, 110]
    else if wrongB s k = true ∨ (at8 s k).toNat < 32 ∨ (at8 s k).toNat = 127 then [92, 120, hexB ((at8 s k).toNat / 16), hexB ((at8 s k).toNat % 16)] else (s.data.toList.drop k).take (Utf8.decode s k).2 := by
  unfold qR
  by_cases ha : (at8 s k).toNat < 128
  · have e := decode_at h ha
    rw [e]
    dsimp only
    by_cases h1 : (at8 s k).toNat = 34
    · rw [if_pos h1, if_pos (.inl h1), h1]; rfl
    rw [if_neg h1]
    by_cases h2 : (at8 s k).toNat = 92
    · rw [if_pos h2, if_pos (.inr h2), h2]; rfl
    rw [if_neg h2, if_neg (by omega)]
    by_cases h3 : (at8 s k).toNat = 10
    · rw [if_pos h3, if_pos h3]
    rw [if_neg h3, if_neg h3]
    have hi := ctlB_iff (at8 s k).toNat
    by_cases hc : ctlB (at8 s k).toNat = true ∨ wrongB s k = true
    · rw [if_pos hc, if_pos (hc.elim (fun h => .inr (hi.1 h)) .inl)]
    · rw [if_neg hc, if_neg (fun h => hc (h.elim .inr (fun h => .inl (hi.2 h))))]
  · have e := decode_big h ha
    have hc : ctlB (Utf8.decode s k).1 = false := by
      cases hc : ctlB (Utf8.decode s k).1 with
      | false => rfl
      | true => have := (ctlB_iff _).1 hc; omega
    rw [if_neg (by omega : ¬ ((Utf8.decode s k).1 = 34 ∨ (Utf8.decode s k).1 = 92)), if_neg (by omega : ¬ (Utf8.decode s k).1 = 10), if_neg (by omega : ¬ (at8 s k).toNat = 34), if_neg (by omega : ¬ (at8 s k).toNat = 92), if_neg (by omega : ¬ (at8 s k).toNat = 10)]
    by_cases hw : wrongB s k = true
    · rw [if_pos (.inr hw), if_pos (.inl hw)]
    · rw [if_neg (fun h => h.elim (fun h => by rw [hc] at h; cases h) hw), if_neg (fun h => h.elim hw (fun h => by omega))]
attribute [local irreducible] qR hexB at8
structure QdX where
  i : Nat
  bs : List UInt8
  q : Option Addr
  c : Nat
end Go.Proofs.YtaahibcibgljbaaGreatDoor
namespace Go.Proofs.YtaahibcibgljbaaGreatDoor
open Go.Sl facts
attribute [local irreducible] Code.wp wpList Exit.then Exit.inBlock bodyPost Back MidQ G GP QStep VStep CStep SStep Does Post Reads
attribute [local irreducible] decI
theorem dig_toNat (d : Nat) (h : d < 10) : (UInt8.ofNat (48 + d)).toNat = 48 + d := by
  rw [UInt8.toNat_ofNat']; omega
theorem decDigits_snoc {u : Nat} (h : ¬ u < 10) : Lib.decDigits u = Lib.decDigits (u / 10) ++ [UInt8.ofNat (48 + u % 10)] := by
  conv => lhs; rw [Lib.decDigits, dif_neg h]
structure DecX where
  u : Nat
  bs : List UInt8
  q : Option Addr
  c : Nat
theorem u64_mod (n : Int) : IntKind.u64.wrap n = n % 18446744073709551616 := rfl
theorem u8_mod (n : Int) : IntKind.u8.wrap n = n % 256 := rfl
def DecInv (u0 u : Nat) (bs : List UInt8) : Prop := (0 < u → Lib.decDigits u0 = Lib.decDigits u ++ bs.reverse) ∧ (u = 0 → Lib.decDigits u0 = bs.reverse)
theorem DecInv.step {u0 u : Nat} {bs : List UInt8} (h : DecInv u0 u bs) (hu : 0 < u) : DecInv u0 (u / 10) (bs ++ [UInt8.ofNat (48 + u % 10)]) := by
  have h1 := h.1 hu
  rcases Nat.lt_or_ge u 10 with h2 | h2
  · have e : u / 10 = 0 := by omega
    refine ⟨fun hp => by omega, fun _ => ?_⟩
    rw [h1, Lib.decDigits_one h2, List.reverse_append]
    have e2 : u % 10 = u := by omega
    rw [e2]; rfl
  · refine ⟨fun _ => ?_, fun hp => by omega⟩
    rw [h1, decDigits_snoc (Nat.not_lt.2 h2), List.reverse_append, List.append_assoc]
    rfl
theorem DecInv.len {u0 u : Nat} {bs : List UInt8} (h : DecInv u0 u bs) (h0 : u0 ≤ 9223372036854775808) : bs.length ≤ 20 := by
  have hd : (Lib.decDigits u0).length ≤ 20 := by
    rw [Lib.decDigits_length]
    exact nd20 u0 (by omega)
  rcases Nat.eq_zero_or_pos u with e | e
  · have := h.2 e
    rw [this] at hd
    simpa using hd
  · have := h.1 e
    rw [this] at hd
    simp at hd
    omega
theorem drop_rev (bs : List UInt8) (k : Nat) (hk : k < bs.length) : (bs.drop k).reverse = (bs.drop (k + 1)).reverse ++ [bs.getD k 0] := by
  rw [List.drop_eq_getElem_cons hk, List.reverse_cons]
  simp [hk]
theorem decimal (n : Int) (hn : inI n) : Does1 Tryz.prog 32 [.int .i64 n] [] (.string ⟨(decI n).toArray⟩) := by
  have hn1 := hn.1
  have hn2 := hn.2
  refine fn_intro Tryz.func32 rfl Tryz.ntmps32 rfl (by simp only [argFr, Nat.zero_add, Nat.reduceAdd]; rfl) (fun Γ => ?_)
  repeat (first
    | (refine g_ops ?_; first | refine sO ?_ | refine s_n (fun _ => ?_) | refine s_app (fun _ _ => ?_) | refine s_b0 (fun _ => ?_) | ((fail_if_success refine g_lit rfl rfl rfl ?_); first | apply g_partM rfl rfl rfl | apply g_partMB rfl rfl rfl | fail))
    | refine gS ?_ | exact s_m | intro _)
  refine g_cond_dec rfl (fun h => ?_) (fun h => ?_)
  · subst h
    repeat (first
      | (refine g_ops ?_; first | refine sO ?_ | refine s_n (fun _ => ?_) | refine s_app (fun _ _ => ?_) | refine s_b0 (fun _ => ?_) | ((fail_if_success refine g_lit rfl rfl rfl ?_); first | apply g_partM rfl rfl rfl | apply g_partMB rfl rfl rfl | fail))
      | refine gS ?_ | exact s_m | intro _)
    exact g_ret () rfl (by (repeat (first | exact RVs.nil | apply RVs.tmp rfl | apply RVs.cellA rfl (by (repeat (first | exact Sel.here | apply Sel.there)); first | done | fail) (by (repeat (first | exact Cut.zero | apply Cut.take | apply Cut.skip)); first | done | fail) | apply RVs.cell1 rfl (by (repeat (first | exact Sel.here | apply Sel.there)); first | done | fail) rfl)); first | done | fail) (by (repeat (first | exact Take.nil | apply Take.cons | exact Sel.here | apply Sel.there)); first | done | fail) (by simp only [pack]; rw [show decI 0 = [48] by decide +kernel]) trivial
  repeat (first
    | (refine g_ops ?_; first | refine sO ?_ | refine s_n (fun _ => ?_) | refine s_app (fun _ _ => ?_) | refine s_b0 (fun _ => ?_) | ((fail_if_success refine g_lit rfl rfl rfl ?_); first | apply g_partM rfl rfl rfl | apply g_partMB rfl rfl rfl | fail))
    | refine gS ?_ | exact s_m | intro _)
  refine s_q (q := by exact qs_convInt rfl) ?_
  repeat (first
    | (refine g_ops ?_; first | refine sO ?_ | refine s_n (fun _ => ?_) | refine s_app (fun _ _ => ?_) | refine s_b0 (fun _ => ?_) | ((fail_if_success refine g_lit rfl rfl rfl ?_); first | apply g_partM rfl rfl rfl | apply g_partMB rfl rfl rfl | fail))
    | refine gS ?_ | exact s_m | intro _)
  refine g_cutX (X := Unit) (fun _ => [(3, .int .u64 (n.natAbs : Nat)), (2, .string ⟨#[]⟩), (0, .int .i64 n)]) (fun _ => []) (fun _ => True) ?_ (fun _ _ => ?_)
  · refine g_cond_dec rfl (fun h2 => ?_) (fun h2 => ?_)
    · repeat (first
        | (refine g_ops ?_; first | refine sO ?_ | refine s_n (fun _ => ?_) | refine s_app (fun _ _ => ?_) | refine s_b0 (fun _ => ?_) | ((fail_if_success refine g_lit rfl rfl rfl ?_); first | apply g_partM rfl rfl rfl | apply g_partMB rfl rfl rfl | fail))
        | refine gS ?_ | exact s_m | intro _)
      refine s_q (q := by exact qs_neg rfl) ?_
      refine g_as 14 (v' := .int .u64 (n.natAbs : Nat)) rfl (congrArg (Value.int .u64) (by rw [u64_mod, u64_mod]; omega)) ?_
      repeat (first
        | (refine g_ops ?_; first | refine sO ?_ | refine s_n (fun _ => ?_) | refine s_app (fun _ _ => ?_) | refine s_b0 (fun _ => ?_) | ((fail_if_success refine g_lit rfl rfl rfl ?_); first | apply g_partM rfl rfl rfl | apply g_partMB rfl rfl rfl | fail))
        | refine gS ?_ | exact s_m | intro _)
      exact gM () trivial
    · refine g_as 3 (v' := .int .u64 (n.natAbs : Nat)) rfl (congrArg (Value.int .u64) (by rw [u64_mod]; omega)) ?_
      repeat (first
        | (refine g_ops ?_; first | refine sO ?_ | refine s_n (fun _ => ?_) | refine s_app (fun _ _ => ?_) | refine s_b0 (fun _ => ?_) | ((fail_if_success refine g_lit rfl rfl rfl ?_); first | apply g_partM rfl rfl rfl | apply g_partMB rfl rfl rfl | fail))
        | refine gS ?_ | exact s_m | intro _)
      exact gM () trivial
  have hu0 : n.natAbs ≤ 9223372036854775808 := by omega
  have hup : 0 < n.natAbs := by omega
  generalize hg : n.natAbs = u0 at hu0 hup ⊢
  repeat (first
    | (refine g_ops ?_; first | refine sO ?_ | refine s_n (fun _ => ?_) | refine s_app (fun _ _ => ?_) | refine s_b0 (fun _ => ?_) | ((fail_if_success refine g_lit rfl rfl rfl ?_); first | apply g_partM rfl rfl rfl | apply g_partMB rfl rfl rfl | fail))
    | refine gS ?_ | exact s_m | intro _)
  refine g_own_nil none 1 5 ?_
  refine g_loop (X := DecX) (fun x => [(4, .slice x.q x.bs.length x.c), (3, .int .u64 x.u), (2, .string ⟨#[]⟩), (0, .int .i64 n)]) (fun x => [.own x.q x.bs.length x.c 1 (cells8 x.bs) 5]) (fun x => x.u ≤ u0 ∧ DecInv u0 x.u x.bs) (fun x => x.u)
    ⟨u0, [], none, 0⟩ ⟨Nat.le_refl _, fun _ => by simp, fun h => by simp only at h; omega⟩ (by (repeat (first | exact FrSub.nil | refine FrSub.cons rfl ?_)); first | done | fail) (by (repeat (first | exact Take.nil | apply Take.cons | exact Sel.here | apply Sel.there)); first | done | fail) (fun x hx => ?_)
  obtain ⟨u, bs, q, c⟩ := x
  obtain ⟨hle, hinv⟩ := hx
  simp only at hle hinv
  have hbl := hinv.len hu0
  dsimp only
  repeat (first
    | (refine g_ops ?_; first | refine sO ?_ | refine s_n (fun _ => ?_) | refine s_app (fun _ _ => ?_) | refine s_b0 (fun _ => ?_) | ((fail_if_success refine g_lit rfl rfl rfl ?_); first | apply g_partM rfl rfl rfl | apply g_partMB rfl rfl rfl | fail))
    | refine gS ?_ | exact s_m | intro _)
  refine g_cond_dec rfl (fun h2 => ?_) (fun h2 => ?_)
  · have hu : 0 < u := by omega
    repeat (first
      | (refine g_ops ?_; first | refine sO ?_ | refine s_n (fun _ => ?_) | refine s_app (fun _ _ => ?_) | refine s_b0 (fun _ => ?_) | ((fail_if_success refine g_lit rfl rfl rfl ?_); first | apply g_partM rfl rfl rfl | apply g_partMB rfl rfl rfl | fail))
      | refine gS ?_ | exact s_m | intro _)
    refine s_q (q := by exact qs_rem rfl rfl (by decide)) ?_
    refine g_as 19 (v' := .int .u64 ((u % 10 : Nat) : Int)) rfl (congrArg (Value.int .u64) (by rw [Int.tmod_eq_emod_of_nonneg (by omega)]; omega)) ?_
    refine s_q (q := by exact qs_add rfl rfl) ?_
    refine g_as 20 (v' := .int .u64 ((48 + u % 10 : Nat) : Int)) rfl (congrArg (Value.int .u64) (by rw [u64_mod]; omega)) ?_
    refine s_q (q := by exact qs_convInt rfl) ?_
    refine g_as 21 (v' := .int .u8 ((UInt8.ofNat (48 + u % 10)).toNat : Int)) rfl (congrArg (Value.int .u8) (by rw [dig_toNat _ (Nat.mod_lt _ (by decide)), u8_mod]; omega)) ?_
    generalize hbb : UInt8.ofNat (48 + u % 10) = bb
    repeat (first
      | (refine g_ops ?_; first | refine sO ?_ | refine s_n (fun _ => ?_) | refine s_app (fun _ _ => ?_) | refine s_b0 (fun _ => ?_) | ((fail_if_success refine g_lit rfl rfl rfl ?_); first | apply g_partM rfl rfl rfl | apply g_partMB rfl rfl rfl | fail))
      | refine gS ?_ | exact s_m | intro _)
    refine s_q (q := by exact qs_quo rfl rfl (by decide)) ?_
    refine g_as 25 (v' := .int .u64 ((u / 10 : Nat) : Int)) rfl (congrArg (Value.int .u64) (by rw [u64_mod, Int.tdiv_eq_ediv_of_nonneg (by omega)]; omega)) ?_
    repeat (first
      | (refine g_ops ?_; first | refine sO ?_ | refine s_n (fun _ => ?_) | refine s_app (fun _ _ => ?_) | refine s_b0 (fun _ => ?_) | ((fail_if_success refine g_lit rfl rfl rfl ?_); first | apply g_partM rfl rfl rfl | apply g_partMB rfl rfl rfl | fail))
      | refine gS ?_ | exact s_m | intro _)
    rename_i q' c'
    have hst := hinv.step hu
    rw [hbb] at hst
    rw [cells8_snoc, show bs.length + 1 = (bs ++ [bb]).length by simp]
    exact gA ⟨u / 10, bs ++ [bb], q', c'⟩ (by simp only; omega) ⟨by simp only; omega, hst⟩
  have hdg := hinv.2 (by omega)
  repeat (first
    | (refine g_ops ?_; first | refine sO ?_ | refine s_n (fun _ => ?_) | refine s_app (fun _ _ => ?_) | refine s_b0 (fun _ => ?_) | ((fail_if_success refine g_lit rfl rfl rfl ?_); first | apply g_partM rfl rfl rfl | apply g_partMB rfl rfl rfl | fail))
    | refine gS ?_ | exact s_m | intro _)
  refine g_cutX (X := DecX) (fun x => [(4, .slice x.q x.bs.length x.c), (2, .string ⟨#[]⟩)]) (fun x => [.own x.q x.bs.length x.c 1 (cells8 x.bs) 5]) (fun x => decI n = x.bs.reverse ∧ x.bs.length ≤ 21) ?_ (fun x hx => ?_)
  · refine g_cond_dec rfl (fun h3 => ?_) (fun h3 => ?_)
    · repeat (first
        | (refine g_ops ?_; first | refine sO ?_ | refine s_n (fun _ => ?_) | refine s_app (fun _ _ => ?_) | refine s_b0 (fun _ => ?_) | ((fail_if_success refine g_lit rfl rfl rfl ?_); first | apply g_partM rfl rfl rfl | apply g_partMB rfl rfl rfl | fail))
        | refine gS ?_ | exact s_m | intro _)
      rename_i q' c'
      rw [show cells8 bs ++ [Value.int .u8 45] = cells8 (bs ++ [45]) from cells8_snoc bs 45, show bs.length + 1 = (bs ++ [(45 : UInt8)]).length by simp]
      exact gM ⟨0, bs ++ [45], q', c'⟩ ⟨by unfold decI; rw [if_pos h3, hg, hdg]; simp, by simp; omega⟩
    · repeat (first
        | (refine g_ops ?_; first | refine sO ?_ | refine s_n (fun _ => ?_) | refine s_app (fun _ _ => ?_) | refine s_b0 (fun _ => ?_) | ((fail_if_success refine g_lit rfl rfl rfl ?_); first | apply g_partM rfl rfl rfl | apply g_partMB rfl rfl rfl | fail))
        | refine gS ?_ | exact s_m | intro _)
      exact gM ⟨0, bs, q, c⟩ ⟨by unfold decI; rw [if_neg h3, show n.toNat = u0 by omega, hdg], by simp only; omega⟩
  obtain ⟨_, bs, q, c⟩ := x
  obtain ⟨hit, hbl⟩ := hx
  simp only at hit hbl
  dsimp only
  repeat (first
    | (refine g_ops ?_; first | refine sO ?_ | refine s_n (fun _ => ?_) | refine s_app (fun _ _ => ?_) | refine s_b0 (fun _ => ?_) | ((fail_if_success refine g_lit rfl rfl rfl ?_); first | apply g_partM rfl rfl rfl | apply g_partMB rfl rfl rfl | fail))
    | refine gS ?_ | exact s_m | intro _)
  refine g_own_nil none 1 5 ?_
  refine g_own (n := 1) (xs := cells8 bs) (by (repeat (first | exact Sel.here | apply Sel.there)); first | done | fail) (fun hol hoc hop => ?_)
  refine g_loop (X := DecX) (fun x => [(6, .int .i64 ((x.u : Int) - 1)), (5, .slice x.q x.bs.length x.c), (4, .slice q bs.length c), (2, .string ⟨#[]⟩)]) (fun x => [.own x.q x.bs.length x.c 1 (cells8 x.bs) 5, .own q bs.length c 1 (cells8 bs) 5]) (fun x => x.u ≤ bs.length ∧ x.bs = (bs.drop x.u).reverse) (fun x => x.u)
    ⟨bs.length, [], none, 0⟩ ⟨Nat.le_refl _, by simp⟩ (by (repeat (first | exact FrSub.nil | refine FrSub.cons rfl ?_)); first | done | fail) (by (repeat (first | exact Take.nil | apply Take.cons | exact Sel.here | apply Sel.there)); first | done | fail) (fun x hx => ?_)
  obtain ⟨k, out, q2, c2⟩ := x
  obtain ⟨hk, hout⟩ := hx
  simp only at hk hout
  have hol2 : out.length ≤ 21 := by rw [hout]; simp; omega
  dsimp only
  repeat (first
    | (refine g_ops ?_; first | refine sO ?_ | refine s_n (fun _ => ?_) | refine s_app (fun _ _ => ?_) | refine s_b0 (fun _ => ?_) | ((fail_if_success refine g_lit rfl rfl rfl ?_); first | apply g_partM rfl rfl rfl | apply g_partMB rfl rfl rfl | fail))
    | refine gS ?_ | exact s_m | intro _)
  refine g_cond_dec rfl (fun h3 => ?_) (fun h3 => ?_)
  · have hk1 : 0 < k := by omega
    obtain ⟨b, rfl⟩ := hop (by omega)
    have hr : ∀ j, j = k - 1 → Reads (.own (some ⟨b, 0, none⟩) bs.length c 1 (cells8 bs) 5) ⟨b, j, none⟩ (.int .u8 ((bs.getD (k - 1) 0).toNat : Int)) := fun j e => by
      subst e
      exact reads_own (cells8_get bs (k - 1) (by omega))
    generalize hbb : bs.getD (k - 1) 0 = bb at hr
    repeat (first
      | (refine g_ops ?_; first | refine sO ?_ | refine s_n (fun _ => ?_) | refine s_app (fun _ _ => ?_) | refine s_b0 (fun _ => ?_) | ((fail_if_success refine g_lit rfl rfl rfl ?_); first | apply g_partM rfl rfl rfl | apply g_partMB rfl rfl rfl | fail))
      | refine gS ?_ | exact s_m | intro _)
    rename_i q' c'
    refine g_as 6 (v' := .int .i64 (((k - 1 : Nat) : Int) - 1)) rfl (congrArg (Value.int .i64) (by omega)) ?_
    rw [cells8_snoc, show out.length + 1 = (out ++ [bb]).length by simp]
    refine gA ⟨k - 1, out ++ [bb], q', c'⟩ (by simp only; omega) ⟨by simp only; omega, ?_⟩
    simp only
    rw [drop_rev bs (k - 1) (by omega), show k - 1 + 1 = k by omega, ← hout, hbb]
  · obtain rfl : k = 0 := by omega
    rw [List.drop_zero] at hout
    rw [← hit] at hout
    subst hout
    repeat (first
      | (refine g_ops ?_; first | refine sO ?_ | refine s_n (fun _ => ?_) | refine s_app (fun _ _ => ?_) | refine s_b0 (fun _ => ?_) | ((fail_if_success refine g_lit rfl rfl rfl ?_); first | apply g_partM rfl rfl rfl | apply g_partMB rfl rfl rfl | fail))
      | refine gS ?_ | exact s_m | intro _)
    refine g_v (vs_bytesStr inferInstance inferInstance inferInstance rfl (by (repeat (first | exact Sel.here | apply Sel.there)); first | done | fail)) rfl rfl ?_
    repeat (first
      | (refine g_ops ?_; first | refine sO ?_ | refine s_n (fun _ => ?_) | refine s_app (fun _ _ => ?_) | refine s_b0 (fun _ => ?_) | ((fail_if_success refine g_lit rfl rfl rfl ?_); first | apply g_partM rfl rfl rfl | apply g_partMB rfl rfl rfl | fail))
      | refine gS ?_ | exact s_m | intro _)
    exact gR () trivial
end Go.Proofs.YtaahibcibgljbaaGreatDoor
namespace Go.Proofs.YtaahibcibgljbaaGreatDoor
open Go.Sl facts
attribute [local irreducible] Code.wp wpList Exit.then Exit.inBlock bodyPost Back MidQ G GP QStep VStep CStep SStep Does Post Reads
attribute [local irreducible] weigh weighL keyB validB
structure WgX where
  i : Nat
  m : Int
end Go.Proofs.YtaahibcibgljbaaGreatDoor
namespace Go.Proofs.YtaahibcibgljbaaGreatDoor
open Go.Sl facts
abbrev txt (l : List UInt8) : ByteArray := ⟨l.toArray⟩
theorem txt_append (a b : List UInt8) : txt a ++ txt b = txt (a ++ b) := by
  apply ByteArray.ext
  simp [ByteArray.data_append]
theorem txt_size (a : List UInt8) : (txt a).size = a.length := by simp [txt, ByteArray.size]
inductive KOk : V → Prop where
  | mk {k y n s ks l} (hk : 1 ≤ k ∧ k ≤ 6) (h : ∀ x ∈ l, KOk x) : KOk (.mk k y n s ks l)
theorem kokL {p : Bool} : ∀ (l : List V), (∀ x ∈ l, ∀ lv n, (weigh x lv n).1 = 0 → KOk x) → ∀ pr ks lv n, (weighL p pr ks l lv n).1 = 0 → ∀ x ∈ l, KOk x
  | [], _, _, _, _, _, _, x, hx => by cases hx
  | a :: l, h, pr, ks, lv, n, e, x, hx => by
    rw [weighL_cons] at e
    split at e
    · cases e
    · split at e
      · rename_i h2
        rcases List.mem_cons.1 hx with rfl | hx
        · exact h _ (List.mem_cons_self ..) _ _ h2
        · exact kokL l (fun y hy => h y (List.mem_cons_of_mem _ hy)) _ _ _ _ e x hx
      · rename_i h2
        exact absurd e h2
theorem kok (v : V) : SmV v → ∀ lv n, (weigh v lv n).1 = 0 → KOk v := by
  refine V.ind (Q := fun v => SmV v → ∀ lv n, (weigh v lv n).1 = 0 → KOk v) (fun k y m s ks l ih hsm lv n h => ?_) v
  obtain ⟨_, _, h5, hsk⟩ := hsm
  rw [weigh_mk] at h
  split at h
  · cases h
  rename_i h1
  refine .mk (by omega) ?_
  split at h
  · cases h
  split at h
  · cases h
  split at h
  · rename_i h4
    rw [h5 h4]
    intro x hx
    cases hx
  split at h
  · cases h
  exact kokL l (fun x hx lv n => ih x hx (hsk x hx) lv n) _ _ _ _ h
attribute [local irreducible] Code.wp wpList Exit.then Exit.inBlock bodyPost Back MidQ G GP QStep VStep CStep SStep Does Post Reads
attribute [local irreducible] weigh weighL textL textK szV szK szS quoteL decI
structure TxX where
  i : Nat
  bs : List UInt8
end Go.Proofs.YtaahibcibgljbaaGreatDoor
