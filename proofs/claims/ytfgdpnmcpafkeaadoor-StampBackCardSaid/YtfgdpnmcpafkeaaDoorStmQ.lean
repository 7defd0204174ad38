/- The order of stamps: plain laws; the greatest and the least of two. -/
import Derived.Test.YtfgdpnmcpafkeaaDoorStmG
import Derived.Test.YtfgdpnmcpafkeaaDoorSlr
set_option linter.unusedSimpArgs false
set_option linter.unusedVariables false
namespace Go.Proofs.YtfgdpnmcpafkeaaDoor
open Go.Sl facts
attribute [local irreducible] Code.wp wpList Exit.then Exit.inBlock bodyPost Back MidQ G GP QStep VStep CStep SStep Does Post Reads
theorem ltS_or (a b : S3) : ltS a b ∨ ltS b a ∨ a = b := by
  obtain ⟨a1, a2, a3⟩ := a
  obtain ⟨b1, b2, b3⟩ := b
  simp only [ltS, S3.mk.injEq]
  omega
theorem ltS_irr (a : S3) : ¬ ltS a a := by simp [ltS]
theorem ltS_asym {a b : S3} (h : ltS a b) : ¬ ltS b a := by unfold ltS at *; omega
theorem ltS_trans {a b c : S3} (h : ltS a b) (k : ltS b c) : ltS a c := by unfold ltS at *; omega
theorem ltS_ne {a b : S3} (h : ltS a b) : ¬ (a.w = b.w ∧ a.l = b.l ∧ a.n = b.n) := by unfold ltS at h; omega
theorem mx_comm (a b : S3) : mostL 1 [b, a] = mostL 1 [a, b] := by
  have e1 := mostL_max [b] a (by simp)
  have e2 := mostL_max [a] b (by simp)
  simp only [List.singleton_append] at e1 e2
  rw [e1, e2, show mostL 1 [b] = b from rfl, show mostL 1 [a] = a from rfl]
  rcases ltS_or a b with h | h | h
  · rw [if_pos h, if_neg (ltS_asym h)]
  · rw [if_pos h, if_neg (ltS_asym h)]
  · subst h; rfl
theorem mn_comm (a b : S3) : mostL (-1) [b, a] = mostL (-1) [a, b] := by
  have e1 := mostL_min [b] a (by simp)
  have e2 := mostL_min [a] b (by simp)
  simp only [List.singleton_append] at e1 e2
  rw [e1, e2, show mostL (-1) [b] = b from rfl, show mostL (-1) [a] = a from rfl]
  rcases ltS_or a b with h | h | h
  · rw [if_pos h, if_neg (ltS_asym h)]
  · rw [if_pos h, if_neg (ltS_asym h)]
  · subst h; rfl
theorem two_at (b : Nat) (e : TypeId) (x y : S3) : StAt (.row b [.int .i64 x.w, .int .i64 x.l, .int .i64 x.n, .int .i64 y.w, .int .i64 y.l, .int .i64 y.n] e) (some ⟨b, 0, none⟩) [x, y] := fun k hk => ⟨b, 0, rfl, fun j v hv => reads_row (by
    match k, hk, j, hv with
    | 0, _, 0, hv => simpa using hv
    | 0, _, 1, hv => simpa using hv
    | 0, _, 2, hv => simpa using hv
    | 1, _, 0, hv => simpa using hv
    | 1, _, 1, hv => simpa using hv
    | 1, _, 2, hv => simpa using hv
    | 0, _, j + 3, hv => simp at hv
    | 1, _, j + 3, hv => simp at hv)⟩
theorem mx1 (x y : S3) (b : Nat) (e : TypeId) : Does1 Tryd.prog 21 [.slice (some ⟨b, 0, none⟩) 2 2] [.row b [.int .i64 x.w, .int .i64 x.l, .int .i64 x.n, .int .i64 y.w, .int .i64 y.l, .int .i64 y.n] e] (mostL 1 [x, y]).v := max_at _ _ 2 [x, y] (by simp) (two_at b e x y)
theorem mx2 (x y : S3) (b : Nat) (e : TypeId) : Does1 Tryd.prog 21 [.slice (some ⟨b, 0, none⟩) 2 2] [.row b [.int .i64 y.w, .int .i64 y.l, .int .i64 y.n, .int .i64 x.w, .int .i64 x.l, .int .i64 x.n] e] (mostL 1 [x, y]).v := by rw [← mx_comm]; exact mx1 y x b e
theorem mn1 (x y : S3) (b : Nat) (e : TypeId) : Does1 Tryd.prog 23 [.slice (some ⟨b, 0, none⟩) 2 2] [.row b [.int .i64 x.w, .int .i64 x.l, .int .i64 x.n, .int .i64 y.w, .int .i64 y.l, .int .i64 y.n] e] (mostL (-1) [x, y]).v := min_at _ _ 2 [x, y] (by simp) (two_at b e x y)
theorem mn2 (x y : S3) (b : Nat) (e : TypeId) : Does1 Tryd.prog 23 [.slice (some ⟨b, 0, none⟩) 2 2] [.row b [.int .i64 y.w, .int .i64 y.l, .int .i64 y.n, .int .i64 x.w, .int .i64 x.l, .int .i64 x.n] e] (mostL (-1) [x, y]).v := by rw [← mn_comm]; exact mn1 y x b e
def S3.inI (a : S3) : Prop := Go.Sl.inI a.w ∧ Go.Sl.inI a.l ∧ Go.Sl.inI a.n
theorem textS {H : HP} (hT : TabH H) (a : S3) (h : a.inI) : Does1 Tryd.prog 13 [a.v] [Pile H] (.string (txt a.text)) := text hT a.w a.l a.n h.1 h.2.1 h.2.2
theorem txt_inj {a b : S3} : txt a.text = txt b.text ↔ a.w = b.w ∧ a.l = b.l ∧ a.n = b.n := by
  constructor
  · intro h
    have : a.text = b.text := by rw [← txt_list a.text, h, txt_list]
    exact text_inj this
  · rintro ⟨h1, h2, h3⟩
    simp only [S3.text, h1, h2, h3]
theorem eq3 (a b : S3) : (decide (a.w = b.w) && (decide (a.l = b.l) && (decide (a.n = b.n) && true))) = decide (a.w = b.w ∧ a.l = b.l ∧ a.n = b.n) := by simp
end Go.Proofs.YtfgdpnmcpafkeaaDoor
