/- Contracts: slices.Insert of one file anywhere. -/
import Derived.Test.YtfjkfcfmbipfhaaDskO
import Derived.Test.YtfjkfcfmbipfhaaSlw
import Derived.Lib.Overlaps
import Derived.Laws.Externs
set_option linter.unusedSimpArgs false
set_option linter.unusedVariables false
namespace Go.Proofs.Ytfjkfcfmbipfhaa
open Go.Sl facts
section
variable {Γ : Ctx} {L R : List Chunk} {fr : Fr} {d : Nat} {ty : TypeId} {pos : String} {aft : Array Edge} {gd : Option (Nat × Bool)} {x y : Operand} {tys : Array TypeId}
set_option maxRecDepth 100000 in
theorem vs_overlaps {vb b o lb cb vc n cap : Nat} {v : Value} {xs : List Value} {e0 e1 : TypeId} (hx : ev fr x = some (.slice (some ⟨vb, 0, none⟩) 1 vc)) (hy : ev fr y = some (.slice (some ⟨b, o, none⟩) lb cb)) (hn : 0 < n)
    (t : Take L [.row vb [v] e0, .own (some ⟨b, 0, none⟩) n cap 1 xs e1] R) : VStep Try.prog Γ fr L ⟨some d, .call ⟨.value (.func 55), [x, y].toArray, tys⟩, ty, pos, aft, gd⟩ (.bool false) := vs_of (fun a w hf hh => by
  have hs := hh.take t
  have hva := hs.block .here
  have hxl : xs.length = n := by have := (own_place hs (.there .here)).1; rwa [Nat.mul_one] at this
  obtain ⟨junk, _, _, _, hrow⟩ := hs.ownRow (.there .here) (by omega)
  have hbb := hrow.block .here
  have hne : vb ≠ b := by
    obtain ⟨h, _, _, al⟩ := hrow.own
    obtain ⟨h1, h2, dj, s1, s2, hc, hr⟩ := al
    obtain ⟨h3, h4, dj2, s3, s4, hc2, _⟩ := hr
    rintro rfl
    have q1 : h1 vb = some _ := hc
    have q2 : h2 vb = some _ := s3 _ _ hc2
    rcases dj vb with q | q
    · rw [q] at q1; cases q1
    · rw [q] at q2; cases q2
  have hov := Lib.run_overlaps_apart w 59 4 67 Try.underlying59 1 (fun w => run_sizeOf' (P := Try.prog) (TSize.size (P := Try.prog) (t := 67)) w) ⟨vb, 0, none⟩ ⟨b, o, none⟩ 1 vc lb cb hne e0 e1 1 (xs ++ junk).length
    (by simp [World.shape?, hva]) (by simp [World.shape?, hbb]) (by rw [List.length_append]; omega) (by simp [World.frozen?, hva]) (by simp [World.frozen?, hva])
  have hcall : (callFunc 55 #[.slice (some ⟨vb, 0, none⟩) 1 vc, .slice (some ⟨b, o, none⟩) lb cb]).run Try.prog w = .ok (.value (.bool false)) w := by
    rw [run_callFunc_extern Try.func55 (by kernel_rfl) (by kernel_rfl) (by kernel_rfl) (e := Extern.SlicesOverlaps.overlaps #[59, 59] #[4]) (by kernel_rfl), hov]
    rfl
  have e1 : a.eval (.func 55) = .func (.func 55) #[] #[] := rfl
  simp [execOp, resolve, Deferred.ofValue, invoke, e1, hf.ev hx, hf.ev hy, hcall])
end
end Go.Proofs.Ytfjkfcfmbipfhaa
