/- Events and places that came in. -/
import Derived.Test.YtfgdpnmcpafkeaaDoorStmL
import Derived.Test.YtfgdpnmcpafkeaaDoorStmP
set_option linter.unusedSimpArgs false
set_option linter.unusedVariables false
namespace Go.Proofs.YtfgdpnmcpafkeaaDoor
open Go Go.Sl facts
abbrev EvT := ByteArray × Int × ByteArray × (Int × Int × Int × Unit) × Int × Unit
abbrev CuT := (Int × Int × Int × Unit) × Int × ByteArray × Unit
def toEv (x : EvT) : Ev := ⟨x.1, x.2.1, x.2.2.1, ⟨x.2.2.2.1.1, x.2.2.2.1.2.1, x.2.2.2.1.2.2.1⟩, x.2.2.2.2.1⟩
def toCu (x : CuT) : Cu := ⟨⟨x.1.1, x.1.2.1, x.1.2.2.1⟩, x.2.1, x.2.2.1⟩
theorem event_of {W : World} {x : EvT} {c : List Value} (h : Opens.is (P := Tryd.prog) (t := 30) W x c) :
    c = [.string (toEv x).st, .int .i64 (toEv x).ver, .string (toEv x).data, .int .i64 (toEv x).s.w, .int .i64 (toEv x).s.l, .int .i64 (toEv x).s.n, .int .i64 (toEv x).ix] ∧ (toEv x).st.size ≤ 9223372036854775807 := by
  obtain ⟨h0, ⟨h1, g1⟩, ⟨h2, g2⟩, ⟨h3, g3⟩, h4, ⟨h5, g5⟩, _⟩ := h
  match c, h0 with
  | [c0, c1, c2, c3, c4, c5, c6], _ =>
    obtain ⟨h4, _⟩ := stamp_of h4
    simp at h1 h2 h3 h4 h5
    obtain ⟨rfl, rfl, rfl⟩ := h4
    subst h1 h2 h3 h5
    exact ⟨rfl, by unfold maxLen at g1; exact g1⟩
theorem cursor_of {W : World} {x : CuT} {c : List Value} (h : Opens.is (P := Tryd.prog) (t := 32) W x c) :
    c = [.int .i64 (toCu x).s.w, .int .i64 (toCu x).s.l, .int .i64 (toCu x).s.n, .int .i64 (toCu x).ix, .string (toCu x).st] ∧ (toCu x).st.size ≤ 9223372036854775807 := by
  obtain ⟨h0, h4, ⟨h5, g5⟩, ⟨h1, g1⟩, _⟩ := h
  match c, h0 with
  | [c0, c1, c2, c3, c4], _ =>
    obtain ⟨h4, _⟩ := stamp_of h4
    simp at h1 h4 h5
    obtain ⟨rfl, rfl, rfl⟩ := h4
    subst h1 h5
    exact ⟨rfl, by unfold maxLen at g1; exact g1⟩
end Go.Proofs.YtfgdpnmcpafkeaaDoor
