/- Numbers, read off an argument. -/
import Derived.Test.YtfjkfcfmbipfhaaDskJ
set_option linter.unusedSimpArgs false
set_option linter.unusedVariables false
namespace Go.Proofs.Ytfjkfcfmbipfhaa
open Go.Sl facts
theorem inI_of {n : Int} (h : (Lit.int .i64 n).wf = true) : inI n := by
  simp only [Lit.wf, Bool.and_eq_true, decide_eq_true_eq] at h
  have h1 : IntKind.i64.min = -9223372036854775808 := by decide
  have h2 : IntKind.i64.max = 9223372036854775807 := by decide
  exact ⟨by rw [← h1]; exact h.1, by rw [← h2]; exact h.2⟩
theorem ints_of {W : World} {x : SliceOf Int} (h : Opens.is (P := Try.prog) (t := 22) W x [x.val]) : IntsAt (Init W) x.place x.xs := by
  intro i y hy
  obtain ⟨b, o, c, e, hc, hl, g⟩ := h.2.2.2.2 i y hy
  have hw : (Lit.int .i64 y).wf = true := hc.2
  refine ⟨inI_of hw, b, o, e, reads_init' ?_⟩
  have hc1 : c = [Value.int .i64 y] := hc.1
  have := g 0 (Value.int .i64 y) (by rw [hc1]; rfl)
  simpa using this
theorem cap_of {W : World} {x : SliceOf Int} (h : Opens.is (P := Try.prog) (t := 22) W x [x.val]) : x.xs.length ≤ x.cap := h.2.1
end Go.Proofs.Ytfjkfcfmbipfhaa
