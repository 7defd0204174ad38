/- Numbers, read off an argument. -/
import Derived.Test.YtkejdilmdpgbpaaCliJ
set_option linter.unusedSimpArgs false
set_option linter.unusedVariables false
namespace Go.Proofs.Ytkejdilmdpgbpaa
open Go.Sl facts
theorem ints_of {W : World} {x : SliceOf Int} (h : Opens.is (P := Try.prog) (t := 43) W x [x.val]) : IntsAt (Init W) x.place x.xs := by
  intro i y hy
  obtain ⟨b, o, c, e, hc, hl, g⟩ := h.2.2.2.2 i y hy
  refine ⟨b, o, e, reads_init' ?_⟩
  have hc1 : c = [Value.int .i64 y] := hc.1
  have := g 0 (Value.int .i64 y) (by rw [hc1]; rfl)
  simpa using this
end Go.Proofs.Ytkejdilmdpgbpaa
