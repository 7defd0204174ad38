/- Plain law: numerals, a stamp's text, reading it. -/
import Derived.Lib.ItoaMem
import Derived.Test.YtfgdpnmcpafkeaaDoorStmpR
set_option linter.unusedSimpArgs false
set_option linter.unusedVariables false
namespace Go.Proofs.YtfgdpnmcpafkeaaDoor
open Go.Lib

/-! ### Reading -/
structure Rd where
  a : Nat
  b : Nat
  c : Nat
  «at» : Nat
  dg : Nat
deriving DecidableEq
def Rd.put (s : Rd) (v g : Nat) : Rd :=
  match s.at with
  | 0 => { s with a := v, dg := g }
  | 1 => { s with b := v, dg := g }
  | _ => { s with c := v, dg := g }
def Rd.cur (s : Rd) : Nat :=
  match s.at with
  | 0 => s.a
  | 1 => s.b
  | _ => s.c
theorem Rd.put_at (s : Rd) (v g : Nat) : (s.put v g).at = s.at := by unfold Rd.put; split <;> simp_all
theorem Rd.put_dg (s : Rd) (v g : Nat) : (s.put v g).dg = g := by unfold Rd.put; split <;> rfl
theorem Rd.put_cur (s : Rd) (v g : Nat) : (s.put v g).cur = v := by
  obtain ⟨a, b, c, t, d⟩ := s
  match t with
  | 0 => rfl
  | 1 => rfl
  | t + 2 => rfl
theorem Rd.put_put (s : Rd) (v g v' g' : Nat) : (s.put v g).put v' g' = s.put v' g' := by
  obtain ⟨a, b, c, t, d⟩ := s
  match t with
  | 0 => rfl
  | 1 => rfl
  | t + 2 => rfl
/-- What a byte does; m: the place's digits, or its size, are held. -/
def nx (s : Rd) (c : Nat) : Option Rd :=
  if 48 ≤ c ∧ c ≤ 57 then (if s.dg + 1 > 18 then none else some (s.put (s.cur * 10 + (c - 48)) (s.dg + 1)))
  else if s.at = 0 ∧ c = 46 then some { s with «at» := 1, dg := 0 }
  else if s.at = 1 ∧ c = 64 then some { s with «at» := 2, dg := 0 }
  else none
/-- The document's own. -/
def nxR (s : Rd) (c : Nat) : Option Rd :=
  if s.at = 0 ∧ c = 46 then some { s with «at» := 1, dg := 0 }
  else if s.at = 1 ∧ c = 64 then some { s with «at» := 2, dg := 0 }
  else if 48 ≤ c ∧ c ≤ 57 ∧ s.cur ≤ 1125899906842624 then some (s.put (s.cur * 10 + (c - 48)) (s.dg + 1))
  else none
def rdF (f : Rd → Nat → Option Rd) : Rd → List UInt8 → Option Rd
  | s, [] => some s
  | s, x :: l => match f s x.toNat with
    | none => none
    | some s' => rdF f s' l
def Rd.init : Rd := ⟨0, 0, 0, 0, 0⟩
theorem rdF_append (f : Rd → Nat → Option Rd) : ∀ (l r : List UInt8) (s : Rd), rdF f s (l ++ r) = (rdF f s l).bind (fun s' => rdF f s' r)
  | [], r, s => rfl
  | x :: l, r, s => by
    simp only [List.cons_append, rdF]
    cases f s x.toNat with
    | none => rfl
    | some s' => exact rdF_append f l r s'
theorem rdF_snoc (f : Rd → Nat → Option Rd) (l : List UInt8) (x : UInt8) (s s' : Rd) (h : rdF f s l = some s') : rdF f s (l ++ [x]) = f s' x.toNat := by
  rw [rdF_append, h]
  simp only [Option.bind_some, rdF]
  cases f s' x.toNat <;> rfl
theorem rdF_none (f : Rd → Nat → Option Rd) (l r : List UInt8) (s : Rd) (h : rdF f s l = none) : rdF f s (l ++ r) = none := by
  rw [rdF_append, h]; rfl

theorem nDigits_le : ∀ (k u : Nat), 1 ≤ k → u < 10 ^ k → nDigits u ≤ k
  | 0, u, h, _ => by omega
  | k + 1, u, _, h => by
    by_cases hu : u < 10
    · rw [nDigits_small hu]; omega
    · rw [nDigits_big hu]
      by_cases hk : k = 0
      · subst hk; simp at h; omega
      · have := nDigits_le k (u / 10) (by omega) (by rw [Nat.pow_succ] at h; omega)
        omega
theorem dig_toNat (d : Nat) (h : d < 10) : (UInt8.ofNat (48 + d)).toNat = 48 + d := by
  rw [UInt8.toNat_ofNat']; omega
/-- A reader that takes digits reads a numeral. -/
theorem rdF_dec (f : Rd → Nat → Option Rd) (M : Nat) (hf : ∀ (s : Rd) (d : Nat), d < 10 → s.cur * 10 + d ≤ M → s.dg + 1 ≤ nDigits M → f s (48 + d) = some (s.put (s.cur * 10 + d) (s.dg + 1))) (s : Rd) :
    ∀ u, u ≤ M → nDigits u ≤ nDigits M → rdF f (s.put 0 0) (decDigits u) = some (s.put u (nDigits u)) := by
  intro u
  induction u using Nat.strongRecOn with
  | _ u ih =>
    intro hu hg
    by_cases h : u < 10
    · rw [decDigits, dif_pos h, nDigits_small h]
      simp only [rdF, dig_toNat u h]
      rw [hf _ u h (by rw [Rd.put_cur]; omega) (by rw [Rd.put_dg]; have := nDigits_pos M; omega), Rd.put_cur, Rd.put_dg, Rd.put_put]
      simp
    · rw [decDigits, dif_neg h]
      rw [nDigits_big h] at hg
      have hd : u % 10 < 10 := by omega
      rw [rdF_snoc f _ _ _ _ (ih (u / 10) (by omega) (by omega) (by omega)), dig_toNat _ hd, hf _ _ hd (by rw [Rd.put_cur]; omega) (by rw [Rd.put_dg]; omega), Rd.put_cur, Rd.put_dg, Rd.put_put, nDigits_big h]
      congr 2
      omega

/-! ### A stamp's text -/
def textL (w l n : Int) : List UInt8 := itoa w ++ 46 :: (itoa l ++ 64 :: itoa n)
def S3.text (s : S3) : List UInt8 := textL s.w s.l s.n
def S3.sound (s : S3) : Bool := soundB s.w s.l s.n
theorem soundB_iff (w l n : Int) : soundB w l n = true ↔ (0 ≤ w ∧ w ≤ 1125899906842624) ∧ (0 ≤ l ∧ l ≤ 65535) ∧ (0 ≤ n ∧ n ≤ 5) := by
  simp [soundB, inB, and_assoc]
theorem nd16 (u : Nat) (h : u ≤ 1125899906842624) : nDigits u ≤ 16 := nDigits_le 16 u (by omega) (by omega)
theorem ndM : nDigits 1125899906842624 = 16 := nDigits_unique 15 _ (by decide) (by decide)
/-- Both readers read a stamp that may be. -/
theorem rdF_text (f : Rd → Nat → Option Rd) (hf : ∀ (s : Rd) (d : Nat), d < 10 → s.cur * 10 + d ≤ 1125899906842624 → s.dg + 1 ≤ 16 → f s (48 + d) = some (s.put (s.cur * 10 + d) (s.dg + 1)))
    (h0 : ∀ s : Rd, s.at = 0 → f s 46 = some { s with «at» := 1, dg := 0 }) (h1 : ∀ s : Rd, s.at = 1 → f s 64 = some { s with «at» := 2, dg := 0 }) (w l n : Nat) (hw : w ≤ 1125899906842624) (hl : l ≤ 1125899906842624) (hn : n ≤ 1125899906842624) :
    rdF f Rd.init (textL w l n) = some ⟨w, l, n, 2, nDigits n⟩ := by
  have key := fun (s : Rd) (u : Nat) (hu : u ≤ 1125899906842624) => rdF_dec f 1125899906842624 (fun s d h1 h2 h3 => hf s d h1 h2 (by rw [ndM] at h3; exact h3)) s u hu (by rw [ndM]; exact nd16 u hu)
  unfold textL
  rw [itoa_nonneg, itoa_nonneg, itoa_nonneg, rdF_append]
  have e0 : Rd.init = Rd.init.put 0 0 := rfl
  rw [e0, key _ w hw]
  simp only [Option.bind_some, rdF]
  rw [show (46 : UInt8).toNat = 46 from rfl, h0 _ (by rw [Rd.put_at]; rfl)]
  simp only []
  rw [rdF_append]
  have e1 : ({ (Rd.init.put w (nDigits w)) with «at» := 1, dg := 0 } : Rd) = Rd.put ⟨w, 0, 0, 1, 0⟩ 0 0 := rfl
  rw [e1, key _ l hl]
  simp only [Option.bind_some, rdF]
  rw [show (64 : UInt8).toNat = 64 from rfl, h1 _ (by rw [Rd.put_at])]
  simp only []
  have e2 : ({ (Rd.put ⟨w, 0, 0, 1, 0⟩ l (nDigits l)) with «at» := 2, dg := 0 } : Rd) = Rd.put ⟨w, l, 0, 2, 0⟩ 0 0 := rfl
  rw [e2, key _ n hn]
  rfl
theorem nx_dig (s : Rd) (d : Nat) (hd : d < 10) (hg : s.dg + 1 ≤ 16) : nx s (48 + d) = some (s.put (s.cur * 10 + d) (s.dg + 1)) := by
  unfold nx
  rw [if_pos (by omega), if_neg (by omega), Nat.add_sub_cancel_left]
theorem nxR_dig (s : Rd) (d : Nat) (hd : d < 10) (hm : s.cur * 10 + d ≤ 1125899906842624) : nxR s (48 + d) = some (s.put (s.cur * 10 + d) (s.dg + 1)) := by
  unfold nxR
  rw [if_neg (by omega), if_neg (by omega), if_pos (by omega), Nat.add_sub_cancel_left]
theorem rd_text (w l n : Nat) (hw : w ≤ 1125899906842624) (hl : l ≤ 1125899906842624) (hn : n ≤ 1125899906842624) : rdF nx Rd.init (textL w l n) = some ⟨w, l, n, 2, nDigits n⟩ :=
  rdF_text nx (fun s d h1 _ h3 => nx_dig s d h1 h3) (fun s h => by unfold nx; rw [if_neg (by omega), if_pos ⟨h, rfl⟩]) (fun s h => by unfold nx; rw [if_neg (by omega), if_neg (by omega), if_pos ⟨h, rfl⟩]) w l n hw hl hn
theorem rdR_text (w l n : Nat) (hw : w ≤ 1125899906842624) (hl : l ≤ 1125899906842624) (hn : n ≤ 1125899906842624) : rdF nxR Rd.init (textL w l n) = some ⟨w, l, n, 2, nDigits n⟩ :=
  rdF_text nxR (fun s d h1 h2 _ => nxR_dig s d h1 h2) (fun s h => by unfold nxR; rw [if_pos ⟨h, rfl⟩]) (fun s h => by unfold nxR; rw [if_neg (by omega), if_pos ⟨h, rfl⟩]) w l n hw hl hn
def Rd.s3 (s : Rd) : S3 := ⟨s.a, s.b, s.c⟩
/-- A text as a stamp. -/
def parseF (f : Rd → Nat → Option Rd) (t : List UInt8) : Option S3 :=
  match rdF f Rd.init t with
  | none => none
  | some st => if st.s3.sound = true ∧ st.s3.text = t then some st.s3 else none
theorem parseF_some {f : Rd → Nat → Option Rd} {t : List UInt8} {x : S3} (h : parseF f t = some x) : x.sound = true ∧ x.text = t := by
  unfold parseF at h
  split at h
  · cases h
  · split at h
    · rename_i hc; cases h; exact hc
    · cases h
theorem parseF_text (f : Rd → Nat → Option Rd) (hf : ∀ (w l n : Nat), w ≤ 1125899906842624 → l ≤ 1125899906842624 → n ≤ 1125899906842624 → rdF f Rd.init (textL w l n) = some ⟨w, l, n, 2, nDigits n⟩) (x : S3) (hs : x.sound = true) : parseF f x.text = some x := by
  obtain ⟨w, l, n⟩ := x
  have h := (soundB_iff w l n).1 hs
  have e : rdF f Rd.init (S3.text ⟨w, l, n⟩) = some ⟨w.toNat, l.toNat, n.toNat, 2, nDigits n.toNat⟩ := by
    have := hf w.toNat l.toNat n.toNat (by omega) (by omega) (by omega)
    rw [Int.toNat_of_nonneg (by omega), Int.toNat_of_nonneg (by omega), Int.toNat_of_nonneg (by omega)] at this
    exact this
  unfold parseF
  rw [e]
  have e2 : Rd.s3 ⟨w.toNat, l.toNat, n.toNat, 2, nDigits n.toNat⟩ = ⟨w, l, n⟩ := by
    simp only [Rd.s3]
    rw [Int.toNat_of_nonneg (by omega), Int.toNat_of_nonneg (by omega), Int.toNat_of_nonneg (by omega)]
  simp only [e2]
  rw [if_pos ⟨hs, trivial⟩]
def parseP := parseF nx
def parseR := parseF nxR
theorem parse_alike (t : List UInt8) : parseP t = parseR t := by
  cases h : parseP t with
  | some x =>
    obtain ⟨h1, h2⟩ := parseF_some h
    rw [← h2]
    exact (parseF_text nxR rdR_text x h1).symm
  | none =>
    cases h' : parseR t with
    | none => rfl
    | some x =>
      obtain ⟨h1, h2⟩ := parseF_some h'
      have := parseF_text nx rd_text x h1
      rw [h2] at this
      rw [show parseF nx t = parseP t from rfl, h] at this
      cases this

/-! ### Unlike stamps are written unlike -/
def valD : Nat → List UInt8 → Nat
  | a, [] => a
  | a, x :: l => valD (a * 10 + (x.toNat - 48)) l
theorem valD_append : ∀ (l r : List UInt8) (a : Nat), valD a (l ++ r) = valD (valD a l) r
  | [], _, _ => rfl
  | _ :: l, r, a => valD_append l r _
theorem valD_one (a : Nat) (x : UInt8) : valD a [x] = a * 10 + (x.toNat - 48) := rfl
theorem decDigits_snoc {u : Nat} (h : ¬ u < 10) : decDigits u = decDigits (u / 10) ++ [UInt8.ofNat (48 + u % 10)] := by
  conv => lhs; rw [decDigits, dif_neg h]
theorem valD_dec (u : Nat) : valD 0 (decDigits u) = u := by
  induction u using Nat.strongRecOn with
  | _ u ih =>
    rcases Nat.lt_or_ge u 10 with h | h
    · have e := dig_toNat u h
      rw [decDigits_one h, valD_one, e, Nat.zero_mul, Nat.zero_add, Nat.add_sub_cancel_left]
    · have e := dig_toNat (u % 10) (Nat.mod_lt _ (by decide))
      rw [decDigits_snoc (Nat.not_lt.2 h), valD_append, ih (u / 10) (Nat.div_lt_self (by omega) (by decide)), valD_one, e, Nat.add_sub_cancel_left]
      exact Nat.div_add_mod' u 10
theorem dec_mem (u : Nat) : ∀ x ∈ decDigits u, 48 ≤ x.toNat ∧ x.toNat ≤ 57 := by
  induction u using Nat.strongRecOn with
  | _ u ih =>
    intro x hx
    by_cases h : u < 10
    · rw [decDigits, dif_pos h] at hx
      simp only [List.mem_singleton] at hx
      rw [hx, dig_toNat u h]; omega
    · rw [decDigits, dif_neg h] at hx
      rcases List.mem_append.1 hx with h1 | h1
      · exact ih (u / 10) (by omega) x h1
      · simp only [List.mem_singleton] at h1
        rw [h1, dig_toNat _ (by omega)]; omega
theorem itoa_mem (n : Int) : ∀ x ∈ itoa n, x.toNat = 45 ∨ (48 ≤ x.toNat ∧ x.toNat ≤ 57) := by
  intro x hx
  unfold itoa at hx
  split at hx
  · rcases List.mem_cons.1 hx with h | h
    · left; rw [h]; rfl
    · exact .inr (dec_mem _ x h)
  · exact .inr (dec_mem _ x hx)
theorem itoa_inj {m n : Int} (h : itoa m = itoa n) : m = n := by
  unfold itoa at h
  have no : ∀ u v, (45 : UInt8) :: decDigits u ≠ decDigits v := fun u v e => by
    have := dec_mem v 45 (by rw [← e]; simp)
    simp at this
  split at h <;> split at h
  · have h1 := congrArg (valD 0) (List.cons.inj h).2
    rw [valD_dec, valD_dec] at h1
    omega
  · exact absurd h (no _ _)
  · exact absurd h.symm (no _ _)
  · have h1 := congrArg (valD 0) h
    rw [valD_dec, valD_dec] at h1
    omega
theorem sep_inj {c : UInt8} : ∀ {x y r s : List UInt8}, (∀ z ∈ x, z ≠ c) → (∀ z ∈ y, z ≠ c) → x ++ c :: r = y ++ c :: s → x = y ∧ r = s
  | [], [], _, _, _, _, h => ⟨rfl, (List.cons.inj h).2⟩
  | [], y :: ys, _, _, _, hy, h => absurd (List.cons.inj h).1.symm (hy y (by simp))
  | x :: xs, [], _, _, hx, _, h => absurd (List.cons.inj h).1 (hx x (by simp))
  | x :: xs, y :: ys, _, _, hx, hy, h => by
    obtain ⟨h1, h2⟩ := List.cons.inj h
    obtain ⟨h3, h4⟩ := sep_inj (fun z hz => hx z (by simp [hz])) (fun z hz => hy z (by simp [hz])) h2
    exact ⟨by rw [h1, h3], h4⟩
theorem itoa_no {n : Int} {c : UInt8} (hc : c.toNat = 46 ∨ c.toNat = 64) : ∀ z ∈ itoa n, z ≠ c := fun z hz e => by
  have := itoa_mem n z hz
  rw [e] at this
  omega
theorem text_inj {w l n w' l' n' : Int} (h : textL w l n = textL w' l' n') : w = w' ∧ l = l' ∧ n = n' := by
  obtain ⟨h1, h2⟩ := sep_inj (itoa_no (.inl rfl)) (itoa_no (.inl rfl)) h
  obtain ⟨h3, h4⟩ := sep_inj (itoa_no (.inr rfl)) (itoa_no (.inr rfl)) h2
  exact ⟨itoa_inj h1, itoa_inj h3, itoa_inj h4⟩
theorem parse_unsound (x : S3) (h : x.sound = false) : parseP x.text = none := by
  cases e : parseP x.text with
  | none => rfl
  | some y =>
    obtain ⟨h1, h2⟩ := parseF_some e
    obtain ⟨a, b, c⟩ := x
    obtain ⟨a', b', c'⟩ := y
    obtain ⟨rfl, rfl, rfl⟩ := text_inj h2
    rw [h] at h1; cases h1
end Go.Proofs.YtfgdpnmcpafkeaaDoor
