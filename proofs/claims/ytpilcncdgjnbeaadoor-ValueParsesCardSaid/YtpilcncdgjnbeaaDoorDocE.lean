/- Plain law: what is written is read by the document as it was; it takes what the program takes. -/
import Derived.Test.YtpilcncdgjnbeaaDoorDocD
set_option linter.unusedSimpArgs false
set_option linter.unusedVariables false
namespace Go.Proofs.YtpilcncdgjnbeaaDoor
open Go.Sl
/-! ### Texts -/
def QD (L : List UInt8) (j : Nat) (R : Nat × Bool) : Prop := ∀ F, L.length < j + F → qd L F j = R
theorem drop_head {L : List UInt8} {j : Nat} {c : UInt8} {r : List UInt8} (h : L.drop j = c :: r) : j < L.length ∧ L.getD j 0 = c ∧ L.length = j + 1 + r.length := by
  have hl := congrArg List.length h
  rw [List.length_drop, List.length_cons] at hl
  have := drop_end L j (by omega)
  rw [h] at this
  exact ⟨by omega, this.symm, by omega⟩
theorem QD_end {L : List UInt8} {j : Nat} {r : List UInt8} (h : L.drop j = 34 :: r) : QD L j (j, false) := fun F hF => by
  obtain ⟨h1, h2, h3⟩ := drop_head h
  obtain ⟨F, rfl⟩ : ∃ F', F = F' + 1 := ⟨F - 1, by omega⟩
  rw [qd, if_pos ⟨h1, h2⟩]
theorem QD_esc {L : List UInt8} {j : Nat} {c d : UInt8} {r : List UInt8} {R : Nat × Bool} (h : L.drop j = 92 :: c :: d :: r) (k : QD L (j + 2) R) : QD L j R := fun F hF => by
  obtain ⟨h1, h2, h3⟩ := drop_head h
  simp only [List.length_cons] at h3
  obtain ⟨F, rfl⟩ : ∃ F', F = F' + 1 := ⟨F - 1, by omega⟩
  have hs : (if j < L.length ∧ L.getD j 0 = 92 then 2 else 1) = 2 := if_pos ⟨h1, h2⟩
  rw [qd, hs, if_neg (fun hh => by rw [h2] at hh; exact absurd hh.2 (by decide)), if_neg (by omega)]
  exact k F (by omega)
theorem QD_one {L : List UInt8} {j : Nat} {c d : UInt8} {r : List UInt8} {R : Nat × Bool} (h : L.drop j = c :: d :: r) (c1 : c.toNat ≠ 34) (c2 : c.toNat ≠ 92) (k : QD L (j + 1) R) : QD L j R := fun F hF => by
  obtain ⟨h1, h2, h3⟩ := drop_head h
  simp only [List.length_cons] at h3
  obtain ⟨F, rfl⟩ : ∃ F', F = F' + 1 := ⟨F - 1, by omega⟩
  have hs : (if j < L.length ∧ L.getD j 0 = 92 then 2 else 1) = 1 := if_neg (fun hh => c2 (by rw [← h2, hh.2]; rfl))
  rw [qd, hs, if_neg (fun hh => c1 (by rw [← h2, hh.2]; rfl)), if_neg (by omega)]
  exact k F (by omega)
theorem QD_all {L : List UInt8} {d : UInt8} {r : List UInt8} {R : Nat × Bool} : ∀ (m : List UInt8) (j : Nat), L.drop j = m ++ d :: r → (∀ c ∈ m, c.toNat ≠ 34 ∧ c.toNat ≠ 92) → QD L (j + m.length) R → QD L j R
  | [], j, _, _, k => k
  | c :: m, j, h, hc, k => by
    have h1 := hc c (List.mem_cons_self ..)
    have hd : L.drop (j + 1) = m ++ d :: r := drop_more (a := [c]) h
    have ih := QD_all m (j + 1) hd (fun x hx => hc x (List.mem_cons_of_mem _ hx)) (by rw [show j + 1 + m.length = j + (c :: m).length by simp; omega]; exact k)
    cases m with
    | nil => exact QD_one (L := L) (d := d) (r := r) h h1.1 h1.2 ih
    | cons e m => exact QD_one (L := L) (d := e) (r := m ++ d :: r) h h1.1 h1.2 ih
theorem QD_rune (s : ByteArray) (k : Nat) (h : k < s.size) {L : List UInt8} {j : Nat} {d : UInt8} {r : List UInt8} {R : Nat × Bool} (hd : L.drop j = qR s k ++ d :: r) (hk : QD L (j + (qR s k).length) R) : QD L j R := by
  have h8 := (at8 s k).toNat_lt
  have hone : (at8 s k).toNat < 128 → (s.data.toList.drop k).take (Utf8.decode s k).2 = [at8 s k] := fun ha => rune_one s k h (by rw [decode_at h ha])
  rw [qR_doc s k h] at hd hk
  split at hd
  · rename_i h1; rw [if_pos h1] at hk; exact QD_esc hd hk
  rename_i h1
  rw [if_neg h1] at hk
  split at hd
  · rename_i h2; rw [if_pos h2] at hk; exact QD_esc hd hk
  rename_i h2
  rw [if_neg h2] at hk
  split at hd
  · rename_i h3; rw [if_pos h3] at hk; exact QD_esc hd hk
  rename_i h3
  rw [if_neg h3] at hk
  split at hd
  · rename_i h4
    rw [if_pos h4] at hk
    have e1 := hex_ne ((at8 s k).toNat / 16) (by omega)
    have e2 := hex_ne ((at8 s k).toNat % 16) (by omega)
    have hd2 : L.drop (j + 2) = hexB ((at8 s k).toNat / 16) :: hexB ((at8 s k).toNat % 16) :: d :: r := drop_more (a := [92, 120]) hd
    have hd3 : L.drop (j + 2 + 1) = hexB ((at8 s k).toNat % 16) :: d :: r := drop_more (a := [_]) hd2
    exact QD_esc hd (QD_one hd2 e1.1 e1.2 (QD_one hd3 e2.1 e2.2 hk))
  · rename_i h4
    rw [if_neg h4] at hk
    refine QD_all _ j hd (fun c hc => ?_) hk
    by_cases ha : (at8 s k).toNat < 128
    · rw [hone ha, List.mem_singleton] at hc
      rw [hc]; exact ⟨h1, h2⟩
    · have := rune_bytes s k h ha c hc
      omega
theorem QD_run (s : ByteArray) (L : List UInt8) (r : List UInt8) : ∀ f k j, s.size ≤ k + f → k ≤ s.size → L.drop j = qF s f k ++ 34 :: r → QD L j (j + (qF s f k).length, false)
  | f, k, j, hf, hk, hd => by
    by_cases h : k < s.size
    · obtain ⟨f, rfl⟩ : ∃ f', f = f' + 1 := ⟨f - 1, by omega⟩
      have hw := Lib.decode_width_pos s k h
      have hin := decode_in s k h
      rw [qF_go s f k h] at hd ⊢
      rw [List.append_assoc] at hd
      have ih := QD_run s L r f _ _ (by omega) hin (drop_more hd)
      rw [List.length_append, ← Nat.add_assoc]
      cases hq : qF s f (k + (Utf8.decode s k).2) with
      | nil => rw [hq] at hd ih; exact QD_rune s k h hd ih
      | cons e m => rw [hq] at hd ih; exact QD_rune s k h (d := e) (r := m ++ 34 :: r) hd ih
    · rw [qF_end s f k h] at hd ⊢
      exact QD_end hd
theorem tk_yes {L : List UInt8} {i n : Nat} {c : UInt8} {r : List UInt8} (h : L.drop i = c :: r) : tk L c ⟨i, n, false⟩ = ⟨i + 1, n, false⟩ := by
  unfold tk
  rw [if_pos (by rw [isT_of h]; exact decide_eq_true rfl)]; rfl
theorem quotedT_quote {L : List UInt8} {s : ByteArray} {r : List UInt8} {i n : Nat} (h : L.drop i = quoteL s ++ r) : quotedT L ⟨i, n, false⟩ = (s, ⟨i + (quoteL s).length, n, false⟩) := by
  have e : L.drop i = 34 :: (qF s s.size 0 ++ 34 :: r) := by rw [h]; unfold quoteL; simp
  have el : (quoteL s).length = (qF s s.size 0).length + 2 := by unfold quoteL; simp
  have h1 : L.drop (i + 1) = qF s s.size 0 ++ 34 :: r := drop_more (a := [34]) e
  have h2 : L.drop (i + 1 + (qF s s.size 0).length) = 34 :: r := drop_more h1
  have hq := QD_run s L r s.size 0 (i + 1) (by omega) (Nat.zero_le _) h1 (L.length + 1) (by omega)
  have e1 : qt L ⟨i, n, false⟩ = ⟨i + 1 + (qF s s.size 0).length, n, false⟩ := by
    unfold qt
    rw [tk_yes e, if_neg Bool.false_ne_true]
    dsimp only
    rw [hq]
  unfold quotedT
  rw [e1, tk_yes h2, if_neg Bool.false_ne_true]
  dsimp only
  rw [h, show i + 1 + (qF s s.size 0).length + 1 - i = (quoteL s).length by omega, List.take_left' rfl, unqS_quote, show i + 1 + (qF s s.size 0).length + 1 = i + (quoteL s).length by omega]
  rfl
/-! ### Numbers -/
def digV (l : List UInt8) (a : Nat) : Nat := l.foldl (fun u c => (u * 10 + (c.toNat - 48)) % 18446744073709551616) a
theorem dgF_all : ∀ (m r : List UInt8) (f a : Nat), (∀ c ∈ m, 48 ≤ c.toNat ∧ c.toNat ≤ 57) → m.length ≤ f → stop r → dgF (m ++ r) f a = (m.length, digV m a)
  | [], r, f, a, _, _, hr => by
    rw [List.nil_append]
    cases r with
    | nil => rw [dgF]; rfl
    | cons c r =>
      cases f with
      | zero => rfl
      | succ f =>
        have hc := hr c rfl
        rw [dgF, if_neg (fun h => by unfold numC at hc; rw [decide_eq_true (.inr h)] at hc; cases hc)]; rfl
  | c :: m, r, f, a, h, hf, hr => by
    obtain ⟨f, rfl⟩ : ∃ f', f = f' + 1 := ⟨f - 1, by simp at hf; omega⟩
    rw [List.cons_append, dgF, if_pos (h c (List.mem_cons_self ..)), dgF_all m r f _ (fun d hd => h d (List.mem_cons_of_mem _ hd)) (by simp at hf; omega) hr, List.length_cons]; rfl
theorem digV_dec : ∀ u : Nat, u < 18446744073709551616 → digV (Lib.decDigits u) 0 = u := by
  intro u
  induction u using Nat.strongRecOn with
  | _ u ih =>
    intro hu
    by_cases h : u < 10
    · rw [Lib.decDigits_one h]
      unfold digV
      rw [List.foldl_cons, List.foldl_nil, dig_toNat u h]; omega
    · have := ih (u / 10) (by omega) (by omega)
      rw [decDigits_snoc h]
      unfold digV at this ⊢
      rw [List.foldl_append, this, List.foldl_cons, List.foldl_nil, dig_toNat _ (by omega)]; omega
theorem numberT_dec {L : List UInt8} {m : Int} {r : List UInt8} {i n : Nat} (hm : inI m) (h : L.drop i = decI m ++ r) (hr : stop r) : numberT L ⟨i, n, false⟩ = (m, ⟨i + (decI m).length, n, false⟩) := by
  have hl := decI_len20 m hm
  unfold inI at hm
  by_cases h0 : m < 0
  · have e : decI m = 45 :: Lib.decDigits m.natAbs := if_pos h0
    rw [e] at h hl ⊢
    obtain ⟨h1, h2, h3⟩ := drop_head (show L.drop i = 45 :: (Lib.decDigits m.natAbs ++ r) from h)
    have hd : L.drop (i + 1) = Lib.decDigits m.natAbs ++ r := drop_more (a := [45]) h
    have hs : sgn L i = 1 := if_pos h2
    have hv : numN true m.natAbs = m := by
      unfold numN
      rw [if_pos rfl, i64w, i64w]; omega
    unfold numberT
    dsimp only
    rw [hs, hd, dgF_all _ r 20 0 (dec_num _) (by simp at hl; omega) hr, digV_dec _ (by omega), h2, decide_eq_true rfl, hv, h, e]
    dsimp only
    rw [show 1 + (Lib.decDigits m.natAbs).length = (45 :: Lib.decDigits m.natAbs).length by simp; omega, List.take_left' rfl, show i + 1 + (Lib.decDigits m.natAbs).length = i + (45 :: Lib.decDigits m.natAbs).length by simp; omega]
    simp
  · have e : decI m = Lib.decDigits m.toNat := if_neg h0
    rw [e] at h hl ⊢
    have hn := dec_num m.toNat
    have hne : L.getD i 0 ≠ 45 := by
      cases hdd : Lib.decDigits m.toNat with
      | nil => exact absurd hdd (dec_ne _)
      | cons c r' =>
        rw [hdd] at h
        obtain ⟨_, h2, _⟩ := drop_head (show L.drop i = c :: (r' ++ r) from h)
        rw [h2]
        have := hn c (by rw [hdd]; exact List.mem_cons_self ..)
        exact fun h => by rw [h] at this; exact absurd this.1 (by decide)
    have hs : sgn L i = 0 := if_neg hne
    have hv : numN false m.toNat = m := by
      unfold numN
      rw [if_neg (by decide), i64w]; omega
    unfold numberT
    dsimp only
    rw [hs, Nat.add_zero, Nat.sub_zero, Nat.zero_add, h, dgF_all _ r 21 0 hn (by omega) hr, digV_dec _ (by omega), decide_eq_false hne, hv, e]
    dsimp only
    rw [List.take_left' rfl]
    simp
end Go.Proofs.YtpilcncdgjnbeaaDoor
