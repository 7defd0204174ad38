/- Bytes that came in. -/
import Derived.Test.YtfgdpnmcpafkeaaDoorStmL
import Derived.Test.YtfgdpnmcpafkeaaDoorStmC2
set_option linter.unusedSimpArgs false
set_option linter.unusedVariables false
namespace Go.Proofs.YtfgdpnmcpafkeaaDoor
open Go Go.Sl facts
def u8 (n : Int) : UInt8 := UInt8.ofNat n.toNat
theorem u8_nat {n : Int} (h : (Lit.int .u8 n).wf = true) : ((u8 n).toNat : Int) = n := by
  simp only [Lit.wf, Bool.and_eq_true, decide_eq_true_eq] at h
  have h1 : IntKind.u8.min = 0 := by decide
  have h2 : IntKind.u8.max = 255 := by decide
  rw [h1, h2] at h
  unfold u8
  rw [UInt8.toNat_ofNat']
  omega
theorem btAt_of {W : World} {p : Option Addr} {xs : List Int}
    (h : ∀ (i : Nat) (x : Int), xs[i]? = some x → ∃ b o c, p = some ⟨b, o, none⟩ ∧ Opens.is (P := Tryd.prog) (t := 5) W x c ∧ c.length = 1 ∧ CellsAt W b (o + i * 1) c) : BtAt (Init W) p (xs.map u8) := fun j hj => by
  have hj' : j < xs.length := by simpa using hj
  obtain ⟨b, o, c, rfl, ⟨hc, hw⟩, hl, hr⟩ := h j xs[j] (by simp [hj'])
  refine ⟨b, o, rfl, ?_⟩
  subst hc
  have e : (((xs.map u8).getD j 0).toNat : Int) = xs[j] := by
    rw [show (xs.map u8).getD j 0 = u8 xs[j] by simp [hj']]
    exact u8_nat hw
  rw [e]
  have := hr 0 _ rfl
  rw [Nat.mul_one, Nat.add_zero] at this
  exact reads_init' this
end Go.Proofs.YtfgdpnmcpafkeaaDoor
