/- Plain: two owners, two answers. -/
import Derived.Test.YtfachckbjmofgaaCrdV
set_option linter.unusedSimpArgs false
set_option linter.unusedVariables false
namespace Go.Proofs.Ytfachckbjmofgaa
open Go.Sl
theorem str_one : whose twoL (strN 1) = 1 := by decide +kernel
theorem str_two : whose twoL (strN 0) = 2 := by decide +kernel
theorem perm_12 {ns : List Int} (hp : ns.Perm [2, 1]) (hi : ns.Pairwise (· < ·)) : ns = [1, 2] :=
  List.Perm.eq_of_pairwise (le := fun a b => a < b) (fun a b _ _ h h' => by omega) hi (by decide) (hp.trans (List.Perm.swap _ _ _))
/-- Two puts of two owners: two parts. -/
theorem two_parts {C : Chunk} {ns : List Int} {T : List Pr} {ps : List Pt} {a b : PtD} (hp : PtsAt C ns T) (hps : ps.map Pt.d = [a, b]) (hD : T.map Pr.d = cutL [2, 1] ps) : ns = [1, 2] ∧ ∀ key, (btOf key T 1).puts.length = 1 ∧ (btOf key T 2).puts.length = 1 := by
  have h1 : cutL [2, 1] ps = [(2, [a]), (1, [b])] := by
    have : ∀ (ws : List Int) (ps : List Pt), cutL ws ps = cutD (ws.zip (ps.map Pt.d)) := fun ws ps => by
      unfold cutL
      rw [List.zip_map_right]
      rfl
    rw [this, hps]
    rfl
  rw [h1] at hD
  match T, hD, hp with
  | [z1, z2], hD, hp =>
    simp only [List.map_cons, List.map_nil, List.cons.injEq, Pr.d, Prod.mk.injEq, and_true] at hD
    obtain ⟨⟨e1, e2⟩, e3, e4⟩ := hD
    have h2 := hp.perm
    simp only [List.map_cons, List.map_nil, e1, e3] at h2
    refine ⟨perm_12 h2 hp.inc, fun key => ?_⟩
    have l1 : z1.puts.length = 1 := by rw [← List.length_map (f := Pt.d), e2]; rfl
    have l2 : z2.puts.length = 1 := by rw [← List.length_map (f := Pt.d), e4]; rfl
    simp [btOf, fndP, e1, e3, l1, l2]
  | [], hD, _ => simp at hD
  | [z], hD, _ => simp at hD
  | z1 :: z2 :: z3 :: T, hD, _ => simp at hD
theorem two_ans {M : List (Int × An)} {d0 d1 : AnD} (h : M.map (fun x => (x.1, x.2.d)) = [(1, d0), (2, d1)]) : M.length = 2 ∧ (anOf M 1).d = d0 ∧ (anOf M 2).d = d1 ∧ aget M 1 = some (anOf M 1) ∧ aget M 2 = some (anOf M 2) := by
  match M, h with
  | [(k1, a1), (k2, a2)], h =>
    simp only [List.map_cons, List.map_nil, List.cons.injEq, Prod.mk.injEq, and_true] at h
    obtain ⟨⟨rfl, e1⟩, rfl, e2⟩ := h
    simp [anOf, aget, e1, e2]
  | [], h => simp at h
  | [x], h => simp at h
  | x :: y :: z :: M, h => simp at h
theorem max_eq (w0 w1 : Int) : mostL 1 [⟨w0, 0, 1⟩, ⟨w1, 0, 2⟩] = max7 ⟨w0, 0, 1⟩ ⟨w1, 0, 2⟩ := by
  have h : mostL 1 [(⟨w0, 0, 1⟩ : S3), ⟨w1, 0, 2⟩] = if ordS ⟨w1, 0, 2⟩ ⟨w0, 0, 1⟩ * 1 > 0 then ⟨w1, 0, 2⟩ else ⟨w0, 0, 1⟩ := rfl
  rw [h, max7]
  have : ordS ⟨w1, 0, 2⟩ ⟨w0, 0, 1⟩ * 1 > 0 ↔ ltS ⟨w0, 0, 1⟩ ⟨w1, 0, 2⟩ := by
    simp only [ordS, ordI, orI, cmpI, ltS]
    rcases Int.lt_trichotomy w0 w1 with h | h | h
    · simp [h, show ¬ w1 < w0 by omega]
    · subst h; simp
    · simp [h, show ¬ w0 < w1 by omega, show ¬ w0 = w1 by omega]
  simp only [this]
end Go.Proofs.Ytfachckbjmofgaa
