/- Stamps, read off an argument. -/
import Derived.Test.YtkejdilmdpgbpaaCliE
set_option linter.unusedSimpArgs false
set_option linter.unusedVariables false
namespace Go.Proofs.Ytkejdilmdpgbpaa
open Go.Sl facts
abbrev StT := Int × Int × Int × Unit
def toS3 (x : StT) : S3 := ⟨x.1, x.2.1, x.2.2.1⟩
theorem stamps_of {W : World} {x : SliceOf StT} (h : Opens.is (P := Try.prog) (t := 59) W x [x.val]) : StampsAt (Init W) x.place (x.xs.map toS3) := by
  intro i y hy
  simp only [List.getElem?_map, Option.map_eq_some_iff] at hy
  obtain ⟨z, hz, rfl⟩ := hy
  obtain ⟨b, o, c, e, hc, hl, g⟩ := h.2.2.2.2 i z hz
  refine ⟨b, o, e, fun j v hv => reads_init' (g j v ?_)⟩
  obtain ⟨hl, h0, h1, h2, _⟩ := hc
  match c, hl with
  | [c0, c1, c2], _ =>
    have e0 : [c0] = [Value.int .i64 z.1] := h0.1
    have e1 : [c1] = [Value.int .i64 z.2.1] := h1.1
    have e2 : [c2] = [Value.int .i64 z.2.2.1] := h2.1
    simp only [List.cons.injEq, and_true] at e0 e1 e2
    subst e0 e1 e2
    exact hv
theorem toS3_len (x : SliceOf StT) : (x.xs.map toS3).length = x.xs.length := by simp
end Go.Proofs.Ytkejdilmdpgbpaa
