/- What the listed tables give; the door's own heap meets the condition. -/
import Derived.Test.YtfgdpnmcpafkeaaDoorRows
import Derived.Test.YtfgdpnmcpafkeaaDoorStmG
import Derived.LaidLaws
import Derived.LaidMore
import Derived.OpenShut
import Derived.Stop.Joined
import Derived.Stop.LaidErr
set_option linter.unusedSimpArgs false
set_option linter.unusedVariables false
namespace Go.Proofs.YtfgdpnmcpafkeaaDoor
open Go Go.ChangeShapes Go.WideShapes Go.ChangeAt Go.RowKit Go.Sl facts
theorem own : ownKnob Tryd.prog.godebug = none := by kernel_rfl
theorem laidOut : laidOutB Tryd.prog = true := by kernel_rfl
def lst : List (String × DataW Unit) := [("math/bits.deBruijn32tab", Rows.laid_math_bits_deBruijn32tab), ("math/bits.deBruijn64tab", Rows.laid_math_bits_deBruijn64tab), ("internal/strconv.uint64pow10", Rows.laid_internal_strconv_uint64pow10)]
theorem door_met (os : Os) (args : Array Value) : laidMetH Tryd.prog lst ((World.doorLaid Tryd.prog 400 os).forCall (fun _ _ => 0) ⟨#[], args, []⟩).memory :=
  laidMetH_of_parts3 (fuel := 8) (laidMet_of_run' 8 (by kernel_rfl) (by kernel_rfl)) (by kernel_rfl) (by kernel_rfl)
theorem tab_of {W : World} (h : laidMetH Tryd.prog lst W) : TabH (wheap W) := by
  rw [MakeChecks.laidMetH_plain _ _ _ (by kernel_rfl)] at h
  have h3 : laidMet Tryd.prog [("internal/strconv.uint64pow10", Lib.tabData .u64 Lib.pow10Tab)] W := laidMet.tail (laidMet.tail h)
  have hg : Tryd.prog.globalNamed "internal/strconv.uint64pow10" = some 0 := by kernel_rfl
  have ht := Lib.tabIs_of_head (g := 0) (t := 88) (e := 67) (n := 20) hg (by kernel_rfl) Tryd.underlying88 Tryd.underlying67 (by kernel_rfl) (by kernel_rfl) h3
  unfold Lib.TabIs World.var? at ht
  rw [hg] at ht
  simp only [Option.bind_some] at ht
  split at ht
  · rename_i cs e fz hb
    simp only [Option.some.injEq] at ht
    subst ht
    exact ⟨e, fz, hb⟩
  · cases ht
theorem inI_of {n : Int} (h : (Lit.int .i64 n).wf = true) : inI n := by
  simp only [Lit.wf, Bool.and_eq_true, decide_eq_true_eq] at h
  have h1 : IntKind.i64.min = -9223372036854775808 := by decide
  have h2 : IntKind.i64.max = 9223372036854775807 := by decide
  exact ⟨by rw [← h1]; exact h.1, by rw [← h2]; exact h.2⟩
theorem stamp_of {W : World} {x : Int × Int × Int × Unit} {c : List Value} (h : Opens.is (P := Tryd.prog) (t := 23) W x c) :
    c = [.int .i64 x.1, .int .i64 x.2.1, .int .i64 x.2.2.1] ∧ inI x.1 ∧ inI x.2.1 ∧ inI x.2.2.1 := by
  obtain ⟨h0, ⟨h1, g1⟩, ⟨h2, g2⟩, ⟨h3, g3⟩, _⟩ := h
  match c, h0 with
  | [c0, c1, c2], _ =>
    simp at h1 h2 h3
    subst h1 h2 h3
    exact ⟨rfl, inI_of g1, inI_of g2, inI_of g3⟩
/-- A slice of stamps that came in. -/
theorem stAt_of {W : World} {p : Option Addr} {xs : List (Int × Int × Int × Unit)}
    (h : ∀ (i : Nat) (x : Int × Int × Int × Unit), xs[i]? = some x → ∃ b o c, p = some ⟨b, o, none⟩ ∧ Opens.is (P := Tryd.prog) (t := 23) W x c ∧ c.length = 3 ∧ CellsAt W b (o + i * 3) c) :
    StAt (Init W) p (xs.map fun x => ⟨x.1, x.2.1, x.2.2.1⟩) := fun k hk => by
  have hk' : k < xs.length := by simpa using hk
  obtain ⟨b, o, c, rfl, hc, hl, hr⟩ := h k xs[k] (by simp [hk'])
  refine ⟨b, o, rfl, fun j v hv => reads_init' (hr j v ?_)⟩
  rw [show (xs.map fun x => (⟨x.1, x.2.1, x.2.2.1⟩ : S3)).getD k S3.zero = ⟨xs[k].1, xs[k].2.1, xs[k].2.2.1⟩ by simp [hk']] at hv
  obtain ⟨h0, ⟨h1, _⟩, ⟨h2, _⟩, ⟨h3, _⟩, _⟩ := hc
  match c, hl with
  | [c0, c1, c2], _ =>
    simp at h1 h2 h3
    subst h1 h2 h3
    exact hv
end Go.Proofs.YtfgdpnmcpafkeaaDoor
