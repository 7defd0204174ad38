/- Contracts and laws that the proof stands on. -/
import Derived.Test.YtaahibcibgljbaaGreatDoorCallTold20
import Derived.Test.YtaahibcibgljbaaGreatDoorCallTold19
set_option linter.unusedSimpArgs false
set_option linter.unusedVariables false
namespace Go.Proofs.YtaahibcibgljbaaGreatDoor
open Go.Sl
mutual
def nrm : V → V
  | .mk k y n s ks l => if k = 1 then nilV else if k = 2 then boolV y else if k = 3 then intV n else if k = 4 then textV s else if k = 5 then listV (nrmL l) else pairsV ks (nrmL l)
def nrmL : List V → List V
  | [] => []
  | x :: l => nrm x :: nrmL l
end
theorem nrm_mk (k : Int) (y : Bool) (n : Int) (s : ByteArray) (ks : List ByteArray) (l : List V) : nrm (.mk k y n s ks l) = if k = 1 then nilV else if k = 2 then boolV y else if k = 3 then intV n else if k = 4 then textV s else if k = 5 then listV (nrmL l) else pairsV ks (nrmL l) := by rw [nrm]
theorem nrmL_nil : nrmL [] = [] := by rw [nrmL]
theorem nrmL_cons (x : V) (l : List V) : nrmL (x :: l) = nrm x :: nrmL l := by rw [nrmL]
def stop (l : List UInt8) : Prop := ∀ c, l.head? = some c → numC c = false
theorem nDigits_le : ∀ (k u : Nat), 1 ≤ k → u < 10 ^ k → Lib.nDigits u ≤ k
  | 0, _, h, _ => by omega
  | k + 1, u, _, h => by
    by_cases hu : u < 10
    · rw [Lib.nDigits_small hu]; omega
    · rw [Lib.nDigits_big hu]
      by_cases hk : k = 0
      · subst hk; simp at h; omega
      · have := nDigits_le k (u / 10) (by omega) (by rw [Nat.pow_succ] at h; omega)
        omega
theorem dec_num : ∀ u : Nat, ∀ c ∈ Lib.decDigits u, 48 ≤ c.toNat ∧ c.toNat ≤ 57 := by
  intro u
  induction u using Nat.strongRecOn with
  | _ u ih =>
    intro c hc
    by_cases h : u < 10
    · rw [Lib.decDigits_one h, List.mem_singleton] at hc
      rw [hc, dig_toNat u h]; omega
    · rw [decDigits_snoc h] at hc
      rcases List.mem_append.1 hc with hc | hc
      · exact ih (u / 10) (by omega) c hc
      · rw [List.mem_singleton] at hc
        rw [hc, dig_toNat _ (by omega)]; omega
theorem decI_num (n : Int) : ∀ c ∈ decI n, numC c = true := by
  unfold decI
  split
  · intro c hc
    rcases List.mem_cons.1 hc with rfl | hc
    · decide
    · have := dec_num _ c hc
      exact decide_eq_true (.inr this)
  · intro c hc
    have := dec_num _ c hc
    exact decide_eq_true (.inr this)
theorem decI_len20 (n : Int) (h : inI n) : (decI n).length ≤ 20 ∧ 1 ≤ (decI n).length := by
  unfold inI at h
  have hd := fun u (hu : u < 10 ^ 19) => nDigits_le 19 u (by decide) hu
  have hp := Lib.nDigits_pos
  unfold decI
  split
  · rw [List.length_cons, Lib.decDigits_length]
    have := hd n.natAbs (by omega)
    omega
  · rw [Lib.decDigits_length]
    have := hd n.toNat (by omega)
    have := hp n.toNat
    omega
theorem numLen_all : ∀ (m r : List UInt8) (f : Nat), (∀ c ∈ m, numC c = true) → m.length ≤ f → stop r → numLen (m ++ r) f = m.length
  | [], r, f, _, _, hr => by
    rw [List.nil_append]
    cases r with
    | nil => rw [numLen]; rfl
    | cons c r =>
      cases f with
      | zero => rfl
      | succ f => rw [numLen, if_neg (by rw [hr c rfl]; decide)]; rfl
  | c :: m, r, f, h, hf, hr => by
    obtain ⟨f, rfl⟩ : ∃ f', f = f' + 1 := ⟨f - 1, by simp at hf; omega⟩
    rw [List.cons_append, numLen, if_pos (h c (List.mem_cons_self ..)), numLen_all m r f (fun d hd => h d (List.mem_cons_of_mem _ hd)) (by simp at hf; omega) hr, List.length_cons]
theorem pu_append : ∀ (l r : List UInt8) (acc a : Nat), Lib.parseUint10 acc l = .ok a → Lib.parseUint10 acc (l ++ r) = Lib.parseUint10 a r
  | [], r, acc, a, h => by
    simp only [Lib.parseUint10] at h
    injection h with h
    rw [h]; rfl
  | c :: l, r, acc, a, h => by
    simp only [List.cons_append, Lib.parseUint10] at h ⊢
    split at h
    · rename_i h1
      rw [if_pos h1]
      split at h
      · cases h
      · rename_i h2
        rw [if_neg h2]
        split at h
        · cases h
        · rename_i h3
          rw [if_neg h3]
          exact pu_append l r _ a h
    · cases h
theorem pu_dec : ∀ u : Nat, u < 18446744073709551616 → Lib.parseUint10 0 (Lib.decDigits u) = .ok u := by
  intro u
  induction u using Nat.strongRecOn with
  | _ u ih =>
    intro hu
    by_cases h : u < 10
    · rw [Lib.decDigits_one h]
      simp only [Lib.parseUint10, dig_toNat u h]
      rw [if_pos (by omega), if_neg (by omega), if_neg (by omega)]
      congr 1; omega
    · rw [decDigits_snoc h, pu_append _ _ _ _ (ih (u / 10) (by omega) (by omega))]
      simp only [Lib.parseUint10, dig_toNat (u % 10) (by omega)]
      rw [if_pos (by omega), if_neg (by omega), if_neg (by omega)]
      congr 1; omega
theorem dec_ne (u : Nat) : Lib.decDigits u ≠ [] := fun h => by
  have := congrArg List.length h
  rw [Lib.decDigits_length] at this
  have := Lib.nDigits_pos u
  simp at *
  omega
theorem atoi_dec (n : Int) (h : inI n) : atoiV (decI n) = (n, true) := by
  unfold inI at h
  have key : Lib.atoiAll (decI n) = .ok n := by
    unfold decI
    by_cases h0 : n < 0
    · rw [if_pos h0]
      unfold Lib.atoiAll
      have hm : Lib.parseMag (Lib.decDigits n.natAbs) = .ok n.natAbs := by
        unfold Lib.parseMag
        rw [if_neg (dec_ne _), pu_dec _ (by omega)]
      simp only [show (45 : UInt8).toNat = 45 from rfl, or_true, if_true, hm, not_true, false_and, if_false, true_and]
      rw [if_neg (by omega)]
      congr 1; omega
    · rw [if_neg h0]
      have hm : Lib.parseMag (Lib.decDigits n.toNat) = .ok n.toNat := by
        unfold Lib.parseMag
        rw [if_neg (dec_ne _), pu_dec _ (by omega)]
      have hn := dec_num n.toNat
      cases hd : Lib.decDigits n.toNat with
      | nil => exact absurd hd (dec_ne _)
      | cons c r =>
        have hc := hn c (by rw [hd]; exact List.mem_cons_self ..)
        rw [hd] at hm
        unfold Lib.atoiAll
        have e1 : ¬ c.toNat = 43 := by omega
        have e2 : ¬ c.toNat = 45 := by omega
        simp only [e1, e2, or_self, if_false, hm, not_false_eq_true, true_and, false_and]
        rw [if_neg (show ¬ 9223372036854775808 ≤ n.toNat by omega)]
        exact congrArg Lib.NumEnd.ok (by omega)
  unfold atoiV
  rw [key]
theorem scB_esc (c : UInt8) (l : List UInt8) (k : Nat) (h : 0 < k) : scB (92 :: c :: l) k false = scB l (k + 2) false := by
  rw [scB, if_neg (by simp), scB, if_neg (by simp [h]), show decide (0 < k + 1 ∧ c.toNat = 92 ∧ decide (0 < k ∧ (92 : UInt8).toNat = 92 ∧ false = false) = false) = false by simp [h]]
theorem scB_one (c : UInt8) (l : List UInt8) (k : Nat) (h1 : c.toNat ≠ 34) (h2 : c.toNat ≠ 92) : scB (c :: l) k false = scB l (k + 1) false := by
  rw [scB, if_neg (fun h => h1 h.2.1), decide_eq_false (fun h => h2 h.2.1)]
theorem scB_all : ∀ (m l : List UInt8) (k : Nat), (∀ c ∈ m, c.toNat ≠ 34 ∧ c.toNat ≠ 92) → scB (m ++ l) k false = scB l (k + m.length) false
  | [], l, k, _ => rfl
  | c :: m, l, k, h => by
    have hc := h c (List.mem_cons_self ..)
    rw [List.cons_append, scB_one c _ k hc.1 hc.2, scB_all m l (k + 1) (fun d hd => h d (List.mem_cons_of_mem _ hd)), List.length_cons, show k + 1 + m.length = k + (m.length + 1) by omega]
theorem hex_ne : ∀ n : Nat, n < 16 → (hexB n).toNat ≠ 34 ∧ (hexB n).toNat ≠ 92 := by decide +kernel
theorem scB_rune (s : ByteArray) (k : Nat) (h : k < s.size) (l : List UInt8) (j : Nat) (hj : 0 < j) : scB (qR s k ++ l) j false = scB l (j + (qR s k).length) false := by
  have h8 := (at8 s k).toNat_lt
  have hone : (at8 s k).toNat < 128 → (s.data.toList.drop k).take (Utf8.decode s k).2 = [at8 s k] := fun ha => rune_one s k h (by rw [decode_at h ha])
  rw [qR_doc s k h]
  split
  · exact scB_esc _ _ _ hj
  split
  · exact scB_esc _ _ _ hj
  split
  · exact scB_esc _ _ _ hj
  split
  · have e1 := hex_ne ((at8 s k).toNat / 16) (by omega)
    have e2 := hex_ne ((at8 s k).toNat % 16) (by omega)
    show scB (92 :: 120 :: hexB ((at8 s k).toNat / 16) :: hexB ((at8 s k).toNat % 16) :: l) j false = _
    rw [scB_esc _ _ _ hj, scB_one _ _ _ e1.1 e1.2, scB_one _ _ _ e2.1 e2.2]; rfl
  · rename_i h1 h2 h3 h4
    refine scB_all _ _ _ fun c hc => ?_
    by_cases ha : (at8 s k).toNat < 128
    · rw [hone ha, List.mem_singleton] at hc
      rw [hc]; exact ⟨h1, h2⟩
    · have := rune_bytes s k h ha c hc
      omega
theorem scB_run (s : ByteArray) : ∀ f k l j, s.size ≤ k + f → k ≤ s.size → 0 < j → scB (qF s f k ++ l) j false = scB l (j + (qF s f k).length) false
  | f, k, l, j, hf, hk, hj => by
    by_cases h : k < s.size
    · obtain ⟨f, rfl⟩ : ∃ f', f = f' + 1 := ⟨f - 1, by omega⟩
      have hw := Lib.decode_width_pos s k h
      have hin := decode_in s k h
      rw [qF_go s f k h, List.append_assoc, scB_rune s k h _ j hj, scB_run s f _ l _ (by omega) hin (by omega), List.length_append, Nat.add_assoc]
    · rw [qF_end s f k h]; rfl
theorem scB_quote (s : ByteArray) (r : List UInt8) : scB (quoteL s ++ r) 0 false = some ((quoteL s).length - 1) := by
  have e : quoteL s ++ r = 34 :: (qF s s.size 0 ++ 34 :: r) := by unfold quoteL; simp
  rw [e, scB, if_neg (by simp), show decide (0 < 0 ∧ (34 : UInt8).toNat = 92 ∧ false = false) = false from rfl, scB_run s s.size 0 _ 1 (by omega) (Nat.zero_le _) (by decide), scB, if_pos ⟨by omega, rfl, rfl⟩]
  unfold quoteL
  simp
  omega
theorem textT_quote {L : List UInt8} {s : ByteArray} {r : List UInt8} {i n : Nat} (h : L.drop i = quoteL s ++ r) : textT L ⟨i, n, false⟩ = (s, ⟨i + (quoteL s).length, n, false⟩) := by
  have hl := (quote_head s).2.2
  unfold textT
  dsimp only
  rw [h, scB_quote]
  dsimp only
  rw [show (quoteL s).length - 1 + 1 = (quoteL s).length by omega, List.take_left' rfl, unqS_quote]
  rfl
theorem isT_of {L : List UInt8} {i n : Nat} {c d : UInt8} {r : List UInt8} (h : L.drop i = d :: r) : isT L c ⟨i, n, false⟩ = decide (d = c) := by
  have hl := congrArg List.length h
  rw [List.length_drop, List.length_cons] at hl
  have hg : L.getD i 0 = d := by
    have := drop_end L i (by omega)
    rw [h] at this
    exact this.symm
  unfold isT
  dsimp only
  rw [hg, Bool.not_false, Bool.true_and]
  exact decide_eq_decide.2 ⟨fun h => h.2, fun h => ⟨by omega, h⟩⟩
theorem wordT_of {L w : List UInt8} {i n : Nat} {l : List UInt8} (h : L.drop i = l) : wordT L w ⟨i, n, false⟩ = decide (l.take w.length = w) := by
  unfold wordT
  dsimp only
  rw [h, Bool.not_false, Bool.true_and]
theorem beg_good (i n lv : Nat) (h1 : n + 1 ≤ 1000) (h2 : lv ≤ 20) : beg ⟨i, n, false⟩ lv = ⟨i, n + 1, false⟩ := by
  unfold beg
  rw [show decide (1000 < n + 1) = false from decide_eq_false (by omega), show decide (20 < lv) = false from decide_eq_false (by omega)]; rfl
end Go.Proofs.YtaahibcibgljbaaGreatDoor
namespace Go.Proofs.YtaahibcibgljbaaGreatDoor
open Go.Sl
theorem weigh_kind {k : Int} {y : Bool} {n : Int} {s : ByteArray} {ks : List ByteArray} {l : List V} {lv z : Int} (h : (weigh (.mk k y n s ks l) lv z).1 = 0) : 1 ≤ k ∧ k ≤ 6 ∧ z + 1 ≤ 1000 ∧ (k < 5 → (weigh (.mk k y n s ks l) lv z).2 = z + 1) ∧ (5 ≤ k → lv < 20 ∧ (weigh (.mk k y n s ks l) lv z) = weighL (decide (k = 6)) none ks l (lv + 1) (z + 1)) := by
  rw [weigh_mk] at h ⊢
  split at h
  · cases h
  rename_i h1
  rw [if_neg h1]
  split at h
  · cases h
  rename_i h2
  rw [if_neg h2]
  split at h
  · cases h
  rename_i h3
  rw [if_neg h3]
  split at h
  · rename_i h4
    rw [if_pos h4]
    exact ⟨by omega, by omega, by omega, fun _ => rfl, fun h => by omega⟩
  rename_i h4
  rw [if_neg h4]
  split at h
  · cases h
  rename_i h5
  rw [if_neg h5]
  exact ⟨by omega, by omega, by omega, fun h => absurd h h4, fun _ => ⟨by omega, rfl⟩⟩
theorem decI_head (n : Int) : ∃ c r, decI n = c :: r ∧ numC c = true := by
  have h := decI_num n
  cases hd : decI n with
  | nil =>
    unfold decI at hd
    split at hd
    · cases hd
    · exact absurd hd (dec_ne _)
  | cons c r => exact ⟨c, r, rfl, h c (by rw [hd]; exact List.mem_cons_self ..)⟩
theorem text_head {x : V} {lv z : Int} (h : (weigh x lv z).1 = 0) : ∃ c r, textL x = c :: r ∧ c ≠ 93 ∧ c ≠ 125 ∧ c ≠ 44 := by
  obtain ⟨k, y, n, s, ks, l⟩ := x
  obtain ⟨h1, h2, _⟩ := weigh_kind h
  rw [textL_mk]
  split
  · exact ⟨_, _, rfl, by decide, by decide, by decide⟩
  split
  · unfold boolL; split <;> exact ⟨_, _, rfl, by decide, by decide, by decide⟩
  split
  · obtain ⟨c, r, e, hc⟩ := decI_head n
    rw [e]
    exact ⟨c, r, rfl, fun h => by rw [h] at hc; exact absurd hc (by decide), fun h => by rw [h] at hc; exact absurd hc (by decide), fun h => by rw [h] at hc; exact absurd hc (by decide)⟩
  split
  · unfold quoteL
    exact ⟨_, _, rfl, by decide, by decide, by decide⟩
  split
  · exact ⟨_, _, rfl, by decide, by decide, by decide⟩
  · exact ⟨_, _, rfl, by decide, by decide, by decide⟩
def CompV (L : List UInt8) (v : V) : Prop := ∀ (lv n F i : Nat) (lz nz : Int) (rest : List UInt8), lz = lv → nz = n → (weigh v lz nz).1 = 0 → L.drop i = textL v ++ rest → stop rest → 2 * (1002 - n) ≤ F → lv ≤ 20 → valS L F lv ⟨i, n, false⟩ = (nrm v, ⟨i + (textL v).length, (weigh v lz nz).2.toNat, false⟩)
theorem stop_of {c : UInt8} {l : List UInt8} (h : numC c = false) : stop (c :: l) := fun d hd => by cases hd; exact h
theorem drop_more {L a b : List UInt8} {i : Nat} (h : L.drop i = a ++ b) : L.drop (i + a.length) = b := by
  rw [← List.drop_drop, h, List.drop_left]
theorem stopK (p : Bool) (ks : List ByteArray) (l : List V) (c : UInt8) (hc : numC c = false) (rest : List UInt8) : stop (textK p false ks l ++ c :: rest) := by
  cases l with
  | nil => rw [textK_nil]; exact stop_of hc
  | cons x l => rw [textK_cons]; exact stop_of (c := 44) (by decide)
theorem compL (L : List UInt8) : ∀ (l : List V), (∀ x ∈ l, CompV L x) → ∀ (pr : Option ByteArray) (ks : List ByteArray) (first : Bool) (lv n F i : Nat) (lz nz : Int) (acc : List V) (rest : List UInt8), lz = ((lv + 1 : Nat) : Int) → nz = n → (weighL false pr ks l lz nz).1 = 0 → n ≤ 1000 → L.drop i = textK false first ks l ++ 93 :: rest → 2 * (1002 - n) + 1 ≤ F → lv < 20 →
    lsS L F lv first acc ⟨i, n, false⟩ = (acc ++ nrmL l, ⟨i + (textK false first ks l).length + 1, (weighL false pr ks l lz nz).2.toNat, false⟩)
  | [], _, pr, ks, first, lv, n, F, i, lz, nz, acc, rest, hlz, hnz, hw, hn, hd, hF, hlv => by
    obtain ⟨F, rfl⟩ : ∃ F', F = F' + 1 := ⟨F - 1, by omega⟩
    rw [textK_nil, List.nil_append] at hd
    rw [weighL_nil, textK_nil, nrmL_nil, List.append_nil, lsS_end (by rw [isT_of hd]; rfl)]
    simp [adv, hnz]
  | x :: l, hl, pr, ks, first, lv, n, F, i, lz, nz, acc, rest, hlz, hnz, hw, hn, hd, hF, hlv => by
    obtain ⟨F, rfl⟩ : ∃ F', F = F' + 1 := ⟨F - 1, by omega⟩
    rw [weighL_cons, if_neg (fun h => by cases h.1)] at hw ⊢
    split at hw
    case isFalse h => exact absurd hw h
    rename_i hx
    rw [if_pos hx]
    have hcx := hl x (List.mem_cons_self ..)
    have hmm := weigh_most x lz nz (by omega) hx
    obtain ⟨c, r, ec, c1, c2, c3⟩ := text_head hx
    have ihl := compL L l (fun y hy => hl y (List.mem_cons_of_mem _ hy)) ks.head? ks.tail false lv (weigh x lz nz).2.toNat F
    have hstop := stopK false ks.tail l 93 (by decide) rest
    rw [textK_cons, if_neg Bool.false_ne_true, List.nil_append] at hd ⊢
    have hnn : ((weigh x lz nz).2.toNat : Int) = (weigh x lz nz).2 := by omega
    cases first with
    | true =>
      rw [if_pos rfl, List.nil_append, List.append_assoc] at hd
      rw [if_pos rfl, List.nil_append]
      have h93 : isT L 93 ⟨i, n, false⟩ = false := by
        rw [ec] at hd
        rw [isT_of hd]; exact decide_eq_false c1
      have hval := hcx (lv + 1) n F i lz nz _ hlz hnz hx hd hstop (by omega) (by omega)
      rw [lsS_one rfl h93, hval]
      rw [ihl _ lz (weigh x lz nz).2 (acc ++ [nrm x]) rest hlz hnn.symm hw (by omega) (drop_more hd) (by omega) hlv, nrmL_cons, List.append_assoc, List.length_append]
      simp only [List.singleton_append, Prod.mk.injEq, true_and, RS.mk.injEq, and_true]
      omega
    | false =>
      rw [if_neg Bool.false_ne_true] at hd ⊢
      have h93 : isT L 93 ⟨i, n, false⟩ = false := by
        rw [isT_of (show L.drop i = 44 :: _ from hd)]; decide
      have h44 : isT L 44 ⟨i, n, false⟩ = true := by
        rw [isT_of (show L.drop i = 44 :: _ from hd)]; decide
      have hd1 : L.drop (i + 1) = (textL x ++ textK false false ks.tail l) ++ 93 :: rest := by
        rw [List.append_assoc] at hd
        exact drop_more (a := [44]) hd
      rw [List.append_assoc] at hd1
      have hval := hcx (lv + 1) n F (i + 1) lz nz _ hlz hnz hx hd1 hstop (by omega) (by omega)
      rw [lsS_more rfl h93 h44, show adv ⟨i, n, false⟩ 1 = ⟨i + 1, n, false⟩ from rfl, hval]
      rw [ihl _ lz (weigh x lz nz).2 (acc ++ [nrm x]) rest hlz hnn.symm hw (by omega) (drop_more hd1) (by omega) hlv, nrmL_cons, List.append_assoc, List.length_append, List.length_append]
      simp only [List.singleton_append, Prod.mk.injEq, true_and, RS.mk.injEq, and_true, List.length_singleton]
      omega
theorem compP (L : List UInt8) : ∀ (l : List V), (∀ x ∈ l, CompV L x) → ∀ (pr : Option ByteArray) (ks : List ByteArray) (first : Bool) (lv n F i : Nat) (lz nz : Int) (ka : List ByteArray) (acc : List V) (rest : List UInt8), lz = ((lv + 1 : Nat) : Int) → nz = n → (weighL true pr ks l lz nz).1 = 0 → n ≤ 1000 → ks.length = l.length → L.drop i = textK true first ks l ++ 125 :: rest → 2 * (1002 - n) + 1 ≤ F → lv < 20 →
    prS L F lv first ka acc ⟨i, n, false⟩ = (ka ++ ks, acc ++ nrmL l, ⟨i + (textK true first ks l).length + 1, (weighL true pr ks l lz nz).2.toNat, false⟩)
  | [], _, pr, ks, first, lv, n, F, i, lz, nz, ka, acc, rest, hlz, hnz, hw, hn, hk, hd, hF, hlv => by
    obtain ⟨F, rfl⟩ : ∃ F', F = F' + 1 := ⟨F - 1, by omega⟩
    obtain rfl : ks = [] := List.eq_nil_of_length_eq_zero hk
    rw [textK_nil, List.nil_append] at hd
    rw [weighL_nil, textK_nil, nrmL_nil, List.append_nil, List.append_nil, prS_end (by rw [isT_of hd]; rfl)]
    simp [adv, hnz]
  | x :: l, hl, pr, [], first, lv, n, F, i, lz, nz, ka, acc, rest, hlz, hnz, hw, hn, hk, hd, hF, hlv => by simp at hk
  | x :: l, hl, pr, kk :: ks, first, lv, n, F, i, lz, nz, ka, acc, rest, hlz, hnz, hw, hn, hk, hd, hF, hlv => by
    obtain ⟨F, rfl⟩ : ∃ F', F = F' + 1 := ⟨F - 1, by omega⟩
    rw [weighL_cons] at hw ⊢
    split at hw
    · cases hw
    rename_i hkey
    rw [if_neg hkey]
    split at hw
    case isFalse h => exact absurd hw h
    rename_i hx
    rw [if_pos hx]
    have hcx := hl x (List.mem_cons_self ..)
    have hmm := weigh_most x lz nz (by omega) hx
    have ihl := compP L l (fun y hy => hl y (List.mem_cons_of_mem _ hy)) (kk :: ks).head? ks false lv (weigh x lz nz).2.toNat F
    have hstop := stopK true ks l 125 (by decide) rest
    rw [textK_cons, if_pos rfl, List.headD_cons, List.tail_cons] at hd ⊢
    rw [List.tail_cons] at hw
    have hnn : ((weigh x lz nz).2.toNat : Int) = (weigh x lz nz).2 := by omega
    have main : ∀ j, L.drop j = quoteL kk ++ ([58] ++ (textL x ++ (textK true false ks l ++ 125 :: rest))) → prS L F lv false (ka ++ [(textT L ⟨j, n, false⟩).1]) (acc ++ [(valS L F (lv + 1) (col L (textT L ⟨j, n, false⟩).2)).1]) (valS L F (lv + 1) (col L (textT L ⟨j, n, false⟩).2)).2 = (ka ++ kk :: ks, acc ++ nrmL (x :: l), ⟨j + ((quoteL kk).length + 1 + (textL x).length + (textK true false ks l).length) + 1, (weighL true (kk :: ks).head? ks l lz (weigh x lz nz).2).2.toNat, false⟩) := fun j hj => by
      have hj2 : L.drop (j + (quoteL kk).length) = 58 :: (textL x ++ (textK true false ks l ++ 125 :: rest)) := drop_more hj
      have hc : col L ⟨j + (quoteL kk).length, n, false⟩ = ⟨j + (quoteL kk).length + 1, n, false⟩ := by unfold col; rw [if_pos (by rw [isT_of hj2]; rfl)]; rfl
      have hj3 : L.drop (j + (quoteL kk).length + 1) = textL x ++ (textK true false ks l ++ 125 :: rest) := drop_more (a := [58]) hj2
      have hval := hcx (lv + 1) n F _ lz nz _ hlz hnz hx hj3 hstop (by omega) (by omega)
      rw [textT_quote hj]
      dsimp only
      rw [hc, hval]
      dsimp only
      rw [ihl _ lz (weigh x lz nz).2 (ka ++ [kk]) (acc ++ [nrm x]) rest hlz hnn.symm hw (by omega) (by simpa using hk) (drop_more hj3) (by omega) hlv, nrmL_cons, List.append_assoc, List.append_assoc]
      simp only [List.singleton_append, Prod.mk.injEq, true_and, RS.mk.injEq, and_true]
      omega
    have hq0 : quoteL kk = 34 :: (quoteL kk).tail := by unfold quoteL; rfl
    cases first with
    | true =>
      rw [if_pos rfl, List.nil_append] at hd ⊢
      have hd1 : L.drop i = quoteL kk ++ ([58] ++ (textL x ++ (textK true false ks l ++ 125 :: rest))) := by rw [hd]; simp only [List.append_assoc]
      have h125 : isT L 125 ⟨i, n, false⟩ = false := by
        have := hd1
        rw [hq0] at this
        rw [isT_of (show L.drop i = 34 :: _ from this)]; decide
      rw [prS_one rfl h125, main i hd1]
      simp only [List.length_append, List.length_singleton, Prod.mk.injEq, true_and, RS.mk.injEq, and_true]
      omega
    | false =>
      rw [if_neg Bool.false_ne_true] at hd ⊢
      have hd0 : L.drop i = 44 :: (quoteL kk ++ ([58] ++ (textL x ++ (textK true false ks l ++ 125 :: rest)))) := by rw [hd]; simp [List.append_assoc]
      have hd1 : L.drop (i + 1) = quoteL kk ++ ([58] ++ (textL x ++ (textK true false ks l ++ 125 :: rest))) := drop_more (a := [44]) hd0
      have h125 : isT L 125 ⟨i, n, false⟩ = false := by rw [isT_of hd0]; decide
      have h44 : isT L 44 ⟨i, n, false⟩ = true := by rw [isT_of hd0]; decide
      rw [prS_more rfl h125 h44, show adv ⟨i, n, false⟩ 1 = ⟨i + 1, n, false⟩ from rfl, main (i + 1) hd1]
      simp only [List.length_append, List.length_singleton, Prod.mk.injEq, true_and, RS.mk.injEq, and_true]
      omega
theorem compV (L : List UInt8) (v : V) : GoodT v → CompV L v := by
  refine V.ind (Q := fun v => GoodT v → CompV L v) (fun k y m s ks l ih hg => ?_) v
  obtain ⟨hsm, hok⟩ := hg
  obtain ⟨h6, h0, h5, hsk⟩ := hsm
  obtain ⟨hm, hokk⟩ := hok
  intro lv n F i lz nz rest hlz hnz hw hd hst hF hlv
  obtain ⟨k1, k6, hn1, hwf, hwl⟩ := weigh_kind hw
  have ihl : ∀ x ∈ l, CompV L x := fun x hx => ih x hx ⟨hsk x hx, hokk x hx⟩
  obtain ⟨F, rfl⟩ : ∃ F', F = F' + 1 := ⟨F - 1, by omega⟩
  have ht := textL_mk k y m s ks l
  have hnr := nrm_mk k y m s ks l
  rw [valS, beg_good i n lv (by omega) hlv]
  rw [if_neg (show ¬ (RS.mk i (n + 1) false).bad = true from Bool.false_ne_true)]
  have hw1 := fun w => @wordT_of L w i (n + 1) _ hd
  by_cases e1 : k = 1
  · rw [if_pos e1] at ht hnr
    rw [ht] at hw1 ⊢
    rw [if_pos (by rw [hw1]; rfl), hnr, hwf (by omega), hnz]; rfl
  rw [if_neg e1] at ht hnr
  by_cases e2 : k = 2
  · rw [if_pos e2] at ht hnr
    rw [ht] at hw1 ⊢
    cases y with
    | true => rw [if_neg (by rw [hw1]; simp [boolL]), if_pos (by rw [hw1]; simp [boolL]), hnr, hwf (by omega), hnz]; rfl
    | false => rw [if_neg (by rw [hw1]; simp [boolL]), if_neg (by rw [hw1]; simp [boolL]), if_pos (by rw [hw1]; simp [boolL]), hnr, hwf (by omega), hnz]; rfl
  rw [if_neg e2] at ht hnr
  have nohead : ∀ (c : UInt8) (r : List UInt8), L.drop i = c :: r → c ≠ 110 → c ≠ 116 → c ≠ 102 → ¬ wordT L wNil ⟨i, n + 1, false⟩ = true ∧ ¬ wordT L wTrue ⟨i, n + 1, false⟩ = true ∧ ¬ wordT L wFalse ⟨i, n + 1, false⟩ = true := fun c r hc h1 h2 h3 => by
    refine ⟨?_, ?_, ?_⟩
    · rw [wordT_of hc, decide_eq_true_eq]
      exact fun h => h1 (by injection h)
    · rw [wordT_of hc, decide_eq_true_eq]
      exact fun h => h2 (by injection h)
    · rw [wordT_of hc, decide_eq_true_eq]
      exact fun h => h3 (by injection h)
  by_cases e3 : k = 3
  · rw [if_pos e3] at ht hnr
    rw [ht] at hd ⊢
    obtain ⟨c, r, ec, hc⟩ := decI_head m
    have hd' : L.drop i = c :: (r ++ rest) := by rw [hd, ec]; rfl
    have hcc : ∀ d : UInt8, numC d = false → c ≠ d := fun d hd h => by rw [h, hd] at hc; cases hc
    obtain ⟨n1, n2, n3⟩ := nohead c _ hd' (hcc _ (by decide)) (hcc _ (by decide)) (hcc _ (by decide))
    rw [if_neg n1, if_neg n2, if_neg n3, if_neg (by rw [isT_of hd', decide_eq_true_eq]; exact hcc _ (by decide)), if_neg (by rw [isT_of hd', decide_eq_true_eq]; exact hcc _ (by decide)), if_neg (by
      dsimp only
      rw [hd']
      exact fun h => hcc 34 (by decide) (by injection h))]
    have hl20 := decI_len20 m hm
    have hnl : numLen (L.drop i) 20 = (decI m).length := by rw [hd]; exact numLen_all _ _ _ (decI_num m) hl20.1 hst
    unfold numT
    dsimp only
    rw [hnl, hd, List.take_left' rfl, atoi_dec m hm, hnr, hwf (by omega), hnz]; rfl
  rw [if_neg e3] at ht hnr
  by_cases e4 : k = 4
  · rw [if_pos e4] at ht hnr
    rw [ht] at hd ⊢
    have hd' : L.drop i = 34 :: ((quoteL s).tail ++ rest) := by rw [hd]; unfold quoteL; rfl
    obtain ⟨n1, n2, n3⟩ := nohead 34 _ hd' (by decide) (by decide) (by decide)
    rw [if_neg n1, if_neg n2, if_neg n3, if_neg (by rw [isT_of hd']; decide), if_neg (by rw [isT_of hd']; decide), if_pos (by dsimp only; rw [hd']; rfl), textT_quote hd, hnr, hwf (by omega), hnz]; rfl
  rw [if_neg e4] at ht hnr
  obtain ⟨hlv20, hwe⟩ := hwl (by omega)
  rw [hwe] at hw ⊢
  by_cases e5 : k = 5
  · rw [if_pos e5] at ht hnr
    rw [ht] at hd ⊢
    have hd' : L.drop i = 91 :: (textK false true ks l ++ 93 :: rest) := by rw [hd]; simp
    obtain ⟨n1, n2, n3⟩ := nohead 91 _ hd' (by decide) (by decide) (by decide)
    rw [show decide (k = 6) = false from decide_eq_false (by omega)] at hw ⊢
    rw [if_neg n1, if_neg n2, if_neg n3, if_pos (by rw [isT_of hd']; decide), show adv ⟨i, n + 1, false⟩ 1 = ⟨i + 1, n + 1, false⟩ from rfl,
      compL L l ihl none ks true lv (n + 1) F (i + 1) (lz + 1) (nz + 1) [] rest (by rw [hlz]; push_cast; rfl) (by rw [hnz]; push_cast; rfl) hw (by omega) (drop_more (a := [91]) hd') (by omega) (by omega), hnr]
    simp only [List.nil_append, List.length_cons, List.length_append, List.length_nil, Prod.mk.injEq, true_and, RS.mk.injEq, and_true]
    omega
  · have e6 : k = 6 := by omega
    rw [if_neg e5, if_pos e6] at ht
    rw [if_neg e5] at hnr
    rw [ht] at hd ⊢
    have hd' : L.drop i = 123 :: (textK true true ks l ++ 125 :: rest) := by rw [hd]; simp
    obtain ⟨n1, n2, n3⟩ := nohead 123 _ hd' (by decide) (by decide) (by decide)
    rw [show decide (k = 6) = true from decide_eq_true e6] at hw ⊢
    rw [if_neg n1, if_neg n2, if_neg n3, if_neg (by rw [isT_of hd']; decide), if_pos (by rw [isT_of hd']; decide), show adv ⟨i, n + 1, false⟩ 1 = ⟨i + 1, n + 1, false⟩ from rfl,
      compP L l ihl none ks true lv (n + 1) F (i + 1) (lz + 1) (nz + 1) [] [] rest (by rw [hlz]; push_cast; rfl) (by rw [hnz]; push_cast; rfl) hw (by omega) (h6 e6) (drop_more (a := [123]) hd') (by omega) (by omega), hnr]
    simp only [List.nil_append, List.length_cons, List.length_append, List.length_nil, Prod.mk.injEq, true_and, RS.mk.injEq, and_true]
    omega
end Go.Proofs.YtaahibcibgljbaaGreatDoor
namespace Go.Proofs.YtaahibcibgljbaaGreatDoor
open Go.Sl facts
theorem valC (L : List UInt8) (hL : L.length ≤ 1000000000) : ∀ F, ValC L F := by
  intro F
  induction F using Nat.strongRecOn with
  | _ F ih =>
    intro H b dp σ hT hE hat hn hdp hF
    obtain ⟨F, rfl⟩ : ∃ F', F = F' + 1 := ⟨F - 1, by omega⟩
    have ih' : ∀ F', F' < F → ValC L F' := fun F' h => ih F' (by omega)
    exact value_ L hL F (fun H b dp σ hT hE h1 h2 h3 h4 h5 => list_ L hL F ih' H b dp σ hT hE h1 h2 h3 h4 h5) (fun H b dp σ hT hE h1 h2 h3 h4 h5 => pairs_ L hL F ih' H b dp σ hT hE h1 h2 h3 h4 h5) H b dp σ hT hE hat hn hdp hF
def rdP (L : List UInt8) : V × RS := valS L 2004 0 ⟨0, 0, false⟩
def parsP (L : List UInt8) : Option V := if (rdP L).2.bad = false ∧ textB (rdP L).1 = txt L then some (rdP L).1 else none
theorem good_any (L : List UInt8) (F : Nat) : Fine L ⟨0, 0, false⟩ (valS L F 0 ⟨0, 0, false⟩).2 ∧ GoodT (valS L F 0 ⟨0, 0, false⟩).1 ∧ szV (valS L F 0 ⟨0, 0, false⟩).1 ≤ 1001 * Kz L := by
  obtain ⟨h1, _, h3, h4⟩ := (fine_ L F).1 0 ⟨0, 0, false⟩ (Nat.zero_le _) (Nat.zero_le _)
  generalize valS L F 0 ⟨0, 0, false⟩ = r at h1 h3 h4 ⊢
  refine ⟨h1, h3, ?_⟩
  have hm : r.2.n ≤ 1001 := h1.m
  have h2 : r.2.n * Kz L ≤ 1001 * Kz L := Nat.mul_le_mul_right _ hm
  have h4' : szV r.1 + L.length ≤ r.2.n * Kz L := h4
  exact Nat.le_trans (Nat.le_trans (Nat.le_add_right _ _) h4') h2
theorem rdP_good (L : List UInt8) : Fine L ⟨0, 0, false⟩ (rdP L).2 ∧ GoodT (rdP L).1 ∧ szV (rdP L).1 ≤ 1001 * Kz L := good_any L 2004
theorem nrmW : ∀ (l : List V), (∀ x ∈ l, ∀ lv n, weigh (nrm x) lv n = weigh x lv n) → ∀ p pr ks lv n, weighL p pr ks (nrmL l) lv n = weighL p pr ks l lv n
  | [], _, p, pr, ks, lv, n => by rw [nrmL_nil]
  | x :: l, h, p, pr, ks, lv, n => by
    rw [nrmL_cons, weighL_cons, weighL_cons, h x (List.mem_cons_self ..), nrmW l (fun y hy => h y (List.mem_cons_of_mem _ hy))]
theorem nrmT : ∀ (l : List V), (∀ x ∈ l, textL (nrm x) = textL x) → ∀ p first ks, textK p first ks (nrmL l) = textK p first ks l
  | [], _, p, first, ks => by rw [nrmL_nil]
  | x :: l, h, p, first, ks => by
    rw [nrmL_cons, textK_cons, textK_cons, h x (List.mem_cons_self ..), nrmT l (fun y hy => h y (List.mem_cons_of_mem _ hy))]
theorem textK_f (first : Bool) (ks ks' : List ByteArray) (l : List V) : textK false first ks l = textK false first ks' l := by
  induction l generalizing first ks ks' with
  | nil => rw [textK_nil, textK_nil]
  | cons x l ih => simp only [textK_cons, ih false ks.tail ks'.tail, Bool.false_eq_true, if_false]
theorem nrm_same (v : V) : KOk v → (∀ lv n, weigh (nrm v) lv n = weigh v lv n) ∧ textL (nrm v) = textL v := by
  refine V.ind (Q := fun v => KOk v → (∀ lv n, weigh (nrm v) lv n = weigh v lv n) ∧ textL (nrm v) = textL v) (fun k y m s ks l ih hk => ?_) v
  obtain ⟨hk, hkk⟩ := hk
  have hw := fun lv n => weigh_mk k y m s ks l lv n
  have ht := textL_mk k y m s ks l
  rw [nrm_mk]
  have iw := nrmW l fun x hx => (ih x hx (hkk x hx)).1
  have it := nrmT l fun x hx => (ih x hx (hkk x hx)).2
  by_cases e1 : k = 1
  · subst e1
    rw [if_pos rfl]
    unfold nilV
    exact ⟨fun lv n => by rw [hw, weigh_mk]; simp, by rw [ht, textL_mk]; simp⟩
  rw [if_neg e1]
  by_cases e2 : k = 2
  · subst e2
    rw [if_pos rfl]
    unfold boolV
    exact ⟨fun lv n => by rw [hw, weigh_mk]; simp, by rw [ht, textL_mk]; simp⟩
  rw [if_neg e2]
  by_cases e3 : k = 3
  · subst e3
    rw [if_pos rfl]
    unfold intV
    exact ⟨fun lv n => by rw [hw, weigh_mk]; simp, by rw [ht, textL_mk]; simp⟩
  rw [if_neg e3]
  by_cases e4 : k = 4
  · subst e4
    rw [if_pos rfl]
    unfold textV
    exact ⟨fun lv n => by rw [hw, weigh_mk]; simp, by rw [ht, textL_mk]; simp⟩
  rw [if_neg e4]
  by_cases e5 : k = 5
  · subst e5
    rw [if_pos rfl]
    unfold listV
    refine ⟨fun lv n => ?_, by rw [ht, textL_mk]; simp [it]; rw [textK_f true [] ks]⟩
    rw [hw, weigh_mk, iw]
    simp
    rw [weighL_f none [] none ks]
  · obtain rfl : k = 6 := by omega
    rw [if_neg e5]
    unfold pairsV
    exact ⟨fun lv n => by rw [hw, weigh_mk, iw]; simp, by rw [ht, textL_mk]; simp [it]⟩
theorem rd_nil : (rdP []).2.bad = true := by
  unfold rdP
  rw [show (2004 : Nat) = 2003 + 1 from rfl, valS, beg_good 0 0 0 (by decide) (by decide)]
  rw [if_neg (show ¬ (RS.mk 0 (0 + 1) false).bad = true from Bool.false_ne_true), if_neg (by decide), if_neg (by decide), if_neg (by decide), if_neg (by decide), if_neg (by decide), if_neg (by decide)]
  rfl
theorem stop_nil : stop [] := fun c h => by cases h
theorem rd_text {v : V} (hw : (weigh v 0 0).1 = 0) (hg : GoodT v) : rdP (textL v) = (nrm v, ⟨0 + (textL v).length, (weigh v 0 0).2.toNat, false⟩) :=
  compV (textL v) v hg 0 0 2004 0 0 0 [] rfl rfl hw (by rw [List.drop_zero, List.append_nil]) stop_nil (by decide) (by decide)
theorem txt_inj {a b : List UInt8} (h : txt a = txt b) : a = b := by
  have := congrArg (fun s : ByteArray => s.data.toList) h
  simpa [txt] using this
theorem parsP_some {L : List UInt8} {v : V} (h : parsP L = some v) : (weigh v 0 0).1 = 0 ∧ textL v = L ∧ GoodT v ∧ nrm v = v := by
  have hg := (rdP_good L).2.1
  have hnil : L ≠ [] := fun e => by
    subst e
    unfold parsP at h
    rw [if_neg (fun hc => by rw [rd_nil] at hc; cases hc.1)] at h
    cases h
  unfold parsP at h
  split at h
  · rename_i hc
    injection h with h
    have hr := hc.2
    rw [h] at hg hr
    by_cases h0 : (weigh v 0 0).1 = 0
    · have e : textB v = txt (textL v) := if_pos h0
      rw [e] at hr
      have e2 := txt_inj hr
      refine ⟨h0, e2, hg, ?_⟩
      have := rd_text h0 hg
      rw [e2] at this
      rw [this] at h
      exact h
    · have e : textB v = txt [] := if_neg h0
      rw [e] at hr
      exact absurd (txt_inj hr).symm hnil
  · cases h
theorem parsP_of {v : V} (hw : (weigh v 0 0).1 = 0) (hg : GoodT v) : parsP (textL v) = some (nrm v) := by
  obtain ⟨n1, n2⟩ := nrm_same v (kok v hg.1 0 0 hw)
  unfold parsP
  rw [rd_text hw hg]
  have e : textB (nrm v) = txt (textL v) := by
    have : textB (nrm v) = txt (textL (nrm v)) := if_pos (by rw [n1]; exact hw)
    rw [this, n2]
  rw [if_pos ⟨rfl, e⟩]
attribute [local irreducible] Code.wp wpList Exit.then Exit.inBlock bodyPost Back MidQ G GP QStep VStep CStep SStep Does Post Reads
attribute [local irreducible] valS lsS prS rdP textB
set_option maxHeartbeats 4000000 in
theorem parse1 {H : HP} (hT : Tb H) (hE : ErrH H) (L : List UInt8) (hL : L.length ≤ 400000) : Does Tryz.prog 11 [.string (txt L)] [Pile H] (X := HP × Value) (fun y => .tuple #[y.2, int (if (parsP L).isSome = true then 0 else 10)]) (fun y => [Pile y.1])
    (fun y => HP.sub H y.1 ∧ (∀ v, parsP L = some v → TAt y.1 v y.2) ∧ (parsP L = none → y.2 = .nilIface)) := by
  have hval := fun b => valC L (by omega) 2004 H b 0 ⟨0, 0, false⟩ hT hE (Nat.zero_le _) (Nat.zero_le _) (by decide) (by decide)
  have hg := rdP_good L
  have hpd : parsP L = if (rdP L).2.bad = false ∧ textB (rdP L).1 = txt L then some (rdP L).1 else none := rfl
  have e0 : valS L 2004 0 ⟨0, 0, false⟩ = rdP L := by unfold rdP; rfl
  rw [e0] at hval
  generalize rdP L = r at hval hg hpd
  obtain ⟨v, σ⟩ := r
  obtain ⟨hf, ⟨hsm, hok⟩, hsz⟩ := hg
  dsimp only at hf hsm hok hsz hpd
  unfold RdD at hval
  dsimp only [rdC] at hval
  refine fn_intro Tryz.func11 rfl Tryz.ntmps11 rfl (by simp only [argFr, Nat.zero_add, Nat.reduceAdd]; rfl) (fun Γ => ?_)
  repeat (first
    | (refine g_ops ?_; first | refine sO ?_ | refine s_n (fun _ => ?_) | refine s_app (fun _ _ => ?_) | refine s_b0 (fun _ => ?_) | ((fail_if_success refine g_lit rfl rfl rfl ?_); first | apply g_partM rfl rfl rfl | apply g_partMB rfl rfl rfl | fail))
    | refine gS ?_ | exact s_m | intro _)
  rename_i b
  have hvb := hval b
  repeat (first
    | (refine g_ops ?_; first | refine sO ?_ | refine s_n (fun _ => ?_) | refine s_app (fun _ _ => ?_) | refine s_b0 (fun _ => ?_) | ((fail_if_success refine g_lit rfl rfl rfl ?_); first | apply g_partM rfl rfl rfl | apply g_partMB rfl rfl rfl | fail) | refine s_c (hvb) (fun _ _ => ?_))
    | refine gS ?_ | exact s_m | intro _)
  rename_i y hy
  obtain ⟨H2, x⟩ := y
  obtain ⟨hs2, hx⟩ := hy
  dsimp only [List.cons_append, List.nil_append] at hs2 hx ⊢
  have ht := text1 (hT.grow hs2) hx hok (by unfold Kz at hsz; omega)
  obtain ⟨i, n, bad⟩ := σ
  cases bad
  · repeat (first
      | (refine g_ops ?_; first | refine sO ?_ | refine s_n (fun _ => ?_) | refine s_app (fun _ _ => ?_) | refine s_b0 (fun _ => ?_) | ((fail_if_success refine g_lit rfl rfl rfl ?_); first | apply g_partM rfl rfl rfl | apply g_partMB rfl rfl rfl | fail) | refine s_k (ht) ?_)
      | refine gS ?_ | exact s_m | intro _)
    by_cases hc : textB v = txt L
    · rw [if_pos ⟨rfl, hc⟩] at hpd
      refine g_as 20 (v' := .bool false) rfl (congrArg Value.bool (by simp [hc])) ?_
      repeat (first
        | (refine g_ops ?_; first | refine sO ?_ | refine s_n (fun _ => ?_) | refine s_app (fun _ _ => ?_) | refine s_b0 (fun _ => ?_) | ((fail_if_success refine g_lit rfl rfl rfl ?_); first | apply g_partM rfl rfl rfl | apply g_partMB rfl rfl rfl | fail))
        | refine gS ?_ | exact s_m | intro _)
      exact g_ret (H2, x) rfl (by (repeat (first | exact RVs.nil | apply RVs.tmp rfl | apply RVs.cellA rfl (by (repeat (first | exact Sel.here | apply Sel.there)); first | done | fail) (by (repeat (first | exact Cut.zero | apply Cut.take | apply Cut.skip)); first | done | fail) | apply RVs.cell1 rfl (by (repeat (first | exact Sel.here | apply Sel.there)); first | done | fail) rfl)); first | done | fail) (by (repeat (first | exact Take.nil | apply Take.cons | exact Sel.here | apply Sel.there)); first | done | fail) (by rw [hpd]; rfl) ⟨hs2, fun v' h => (by rw [hpd] at h; injection h with h; rw [← h]; exact hx), fun h => (by rw [hpd] at h; cases h)⟩
    · rw [if_neg (fun h => hc h.2)] at hpd
      refine g_as 20 (v' := .bool true) rfl (congrArg Value.bool (by simp [hc])) ?_
      repeat (first
        | (refine g_ops ?_; first | refine sO ?_ | refine s_n (fun _ => ?_) | refine s_app (fun _ _ => ?_) | refine s_b0 (fun _ => ?_) | ((fail_if_success refine g_lit rfl rfl rfl ?_); first | apply g_partM rfl rfl rfl | apply g_partMB rfl rfl rfl | fail))
        | refine gS ?_ | exact s_m | intro _)
      exact g_ret (H2, .nilIface) rfl (by (repeat (first | exact RVs.nil | apply RVs.tmp rfl | apply RVs.cellA rfl (by (repeat (first | exact Sel.here | apply Sel.there)); first | done | fail) (by (repeat (first | exact Cut.zero | apply Cut.take | apply Cut.skip)); first | done | fail) | apply RVs.cell1 rfl (by (repeat (first | exact Sel.here | apply Sel.there)); first | done | fail) rfl)); first | done | fail) (by (repeat (first | exact Take.nil | apply Take.cons | exact Sel.here | apply Sel.there)); first | done | fail) (by rw [hpd]; rfl) ⟨hs2, fun v' h => (by rw [hpd] at h; cases h), fun _ => rfl⟩
  · rw [if_neg (fun h => by cases h.1)] at hpd
    repeat (first
      | (refine g_ops ?_; first | refine sO ?_ | refine s_n (fun _ => ?_) | refine s_app (fun _ _ => ?_) | refine s_b0 (fun _ => ?_) | ((fail_if_success refine g_lit rfl rfl rfl ?_); first | apply g_partM rfl rfl rfl | apply g_partMB rfl rfl rfl | fail))
      | refine gS ?_ | exact s_m | intro _)
    exact g_ret (H2, .nilIface) rfl (by (repeat (first | exact RVs.nil | apply RVs.tmp rfl | apply RVs.cellA rfl (by (repeat (first | exact Sel.here | apply Sel.there)); first | done | fail) (by (repeat (first | exact Cut.zero | apply Cut.take | apply Cut.skip)); first | done | fail) | apply RVs.cell1 rfl (by (repeat (first | exact Sel.here | apply Sel.there)); first | done | fail) rfl)); first | done | fail) (by (repeat (first | exact Take.nil | apply Take.cons | exact Sel.here | apply Sel.there)); first | done | fail) (by rw [hpd]; rfl) ⟨hs2, fun v' h => (by rw [hpd] at h; cases h), fun _ => rfl⟩
end Go.Proofs.YtaahibcibgljbaaGreatDoor

namespace Go.Sl
theorem does_wk {P : Program} {f : FuncId} {args : List Value} {A : List Chunk} {X Y : Type} {ret : X → Value} {B : X → List Chunk} {φ : X → Prop} {ret' : Y → Value} {B' : Y → List Chunk} {φ' : Y → Prop} (h : Does P f args A ret B φ) (g : X → Y) (h1 : ∀ x, φ x → ret x = ret' (g x) ∧ B x = B' (g x) ∧ φ' (g x)) : Does P f args A ret' B' φ' := fun Γ w hh =>
  (h Γ w hh).mono fun e w' ⟨x, hx, he, hB⟩ => by
    obtain ⟨e1, e2, e3⟩ := h1 x hx
    exact ⟨g x, e3, by rw [he, e1], by rw [← e2]; exact hB⟩
end Go.Sl
namespace Go.Proofs.YtaahibcibgljbaaGreatDoor
open Go.Sl facts
abbrev FS := Bool × List (ByteArray × V)
def nextS (s : FS) (key : ByteArray) : V × FS := match s.2 with
  | [] => (nilV, (true, []))
  | (k, x) :: r => if s.1 = false ∧ k = key then (x, (false, r)) else (nilV, (true, s.2))
def intS (s : FS) (key : ByteArray) : Int × FS := (numV (nextS s key).1, ((nextS s key).2.1 || !decide ((nextS s key).1.kind = 3), (nextS s key).2.2))
def textS (s : FS) (key : ByteArray) : ByteArray × FS := (strV (nextS s key).1, ((nextS s key).2.1 || !decide ((nextS s key).1.kind = 4), (nextS s key).2.2))
def putsS (s : FS) (key : ByteArray) : List V × FS := (if (nextS s key).1.kind = 5 then (nextS s key).1.kids else [], ((nextS s key).2.1 || !(decide ((nextS s key).1.kind = 5) && ((nextS s key).1.kids.all fun x => (putV x).isSome)), (nextS s key).2.2))
structure Rel (H : HP) (f : Fm) (s : FS) : Prop where
  on : f.On H
  bad : f.bad = s.1
  len : f.ps.length = s.2.length
  ks : f.ps.map Pr.k = s.2.map Prod.fst
  at_ : ∀ (i : Nat) x q, s.2[i]? = some x → f.ps[i]? = some q → TAt H x.2 q.v
theorem Rel.grow {H H' : HP} {f : Fm} {s : FS} (h : Rel H f s) (g : HP.sub H H') : Rel H' f s := ⟨h.on.grow g, h.bad, h.len, h.ks, fun i x q h1 h2 => (h.at_ i x q h1 h2).grow g⟩
theorem Rel.setBad {H : HP} {f : Fm} {s : FS} (h : Rel H f s) (b : Bool) : Rel H ⟨f.p, f.c, f.ps, b⟩ (b, s.2) := ⟨⟨h.on.sl, h.on.len, h.on.cap, h.on.sh⟩, rfl, h.len, h.ks, h.at_⟩
theorem Rel.next {H : HP} {f : Fm} {s : FS} (h : Rel H f s) (key : ByteArray) : TAt H (nextS s key).1 (f.next key).1 ∧ Rel H (f.next key).2 (nextS s key).2 := by
  obtain ⟨h1, h2, h3, h4, h5⟩ := h
  obtain ⟨p, c, ps, bad⟩ := f
  obtain ⟨b, l⟩ := s
  dsimp only at h2 h3 h4 h5
  subst h2
  cases ps with
  | nil =>
    obtain rfl : l = [] := List.eq_nil_of_length_eq_zero h3.symm
    exact ⟨.nil, h1.spoil, rfl, rfl, rfl, fun i x q e _ => by simp [nextS] at e⟩
  | cons q r =>
    cases l with
    | nil => cases h3
    | cons x l =>
      obtain ⟨k, x⟩ := x
      simp only [List.map_cons, List.cons.injEq] at h4
      obtain ⟨hk, h4⟩ := h4
      have h0 := h5 0 _ q rfl rfl
      by_cases hc : bad = false ∧ k = key
      · have e1 : nextS (bad, (k, x) :: l) key = (x, (false, l)) := by simp [nextS, hc]
        have e2 : (⟨p, c, q :: r, bad⟩ : Fm).next key = (q.v, (⟨p, c, q :: r, bad⟩ : Fm).tail) := by simp [Fm.next, hk, hc]
        rw [e1, e2]
        exact ⟨h0, h1.tail (by simp), hc.1, by simpa [Fm.tail] using h3, h4, fun i y q' e e' => h5 (i + 1) y q' (by simpa using e) (by simpa [Fm.tail] using e')⟩
      · have e1 : nextS (bad, (k, x) :: l) key = (nilV, (true, (k, x) :: l)) := by simp only [nextS]; rw [if_neg hc]
        have e2 : (⟨p, c, q :: r, bad⟩ : Fm).next key = (.nilIface, (⟨p, c, q :: r, bad⟩ : Fm).spoil) := by simp only [Fm.next]; rw [if_neg (by rw [hk]; exact hc)]
        rw [e1, e2]
        exact ⟨.nil, h1.spoil, rfl, h3, by simp [Fm.spoil, hk, h4], h5⟩
theorem nextR {H : HP} (b : Nat) {f : Fm} {s : FS} (h : Rel H f s) (key : ByteArray) : Does Tryz.prog 62 [ptr b, .string key] [f.row b, Pile H] (X := Value × Fm) (fun y => y.1) (fun y => [y.2.row b, Pile H]) (fun y => TAt H (nextS s key).1 y.1 ∧ Rel H y.2 (nextS s key).2) :=
  does_wk (fnext_ b f h.on key) (fun _ => f.next key) fun _ _ => ⟨rfl, rfl, h.next key⟩
theorem intR {H : HP} (b : Nat) {f : Fm} {s : FS} (h : Rel H f s) (key : ByteArray) : Does Tryz.prog 61 [ptr b, .string key] [f.row b, Pile H] (X := Fm) (fun _ => int (intS s key).1) (fun y => [y.row b, Pile H]) (fun y => Rel H y (intS s key).2) := by
  obtain ⟨h1, h2⟩ := h.next key
  rcases h1.num with ⟨e, hk, _⟩ | ⟨ho, hk⟩
  · exact does_wk (fint_yes b f h.on key _ e) (fun _ => (f.next key).2) fun _ _ => ⟨by unfold intS numV; rw [if_pos hk], rfl, by
      unfold intS
      rw [decide_eq_true hk, Bool.not_true, Bool.or_false]
      exact h2⟩
  · exact does_wk (fint_no b f h.on key ho) (fun _ => (f.next key).2.spoil) fun _ _ => ⟨by unfold intS numV; rw [if_neg hk], rfl, by
      unfold intS
      rw [decide_eq_false hk, Bool.not_false, Bool.or_true]
      exact h2.setBad true⟩
theorem textR {H : HP} (b : Nat) {f : Fm} {s : FS} (h : Rel H f s) (key : ByteArray) : Does Tryz.prog 60 [ptr b, .string key] [f.row b, Pile H] (X := Fm) (fun _ => .string (textS s key).1) (fun y => [y.row b, Pile H]) (fun y => Rel H y (textS s key).2) := by
  obtain ⟨h1, h2⟩ := h.next key
  rcases h1.txt with ⟨e, hk, _⟩ | ⟨ho, hk⟩
  · exact does_wk (ftext_yes b f h.on key _ e) (fun _ => (f.next key).2) fun _ _ => ⟨by unfold textS strV; rw [if_pos hk], rfl, by
      unfold textS
      rw [decide_eq_true hk, Bool.not_true, Bool.or_false]
      exact h2⟩
  · exact does_wk (ftext_no b f h.on key ho) (fun _ => (f.next key).2.spoil) fun _ _ => ⟨by unfold textS strV; rw [if_neg hk], rfl, by
      unfold textS
      rw [decide_eq_false hk, Bool.not_false, Bool.or_true]
      exact h2.setBad true⟩
def SmK (s : FS) : Prop := ∀ x ∈ s.2, x.2.kids.length ≤ 100000 ∧ ∀ y ∈ x.2.kids, y.kids.length ≤ 100000
theorem SmK.next {s : FS} (h : SmK s) (key : ByteArray) : ((nextS s key).1.kids.length ≤ 100000 ∧ ∀ y ∈ (nextS s key).1.kids, y.kids.length ≤ 100000) ∧ SmK (nextS s key).2 := by
  obtain ⟨b, l⟩ := s
  unfold nextS
  cases l with
  | nil => exact ⟨⟨by simp [nilV, V.kids], fun y hy => by simp [nilV, V.kids] at hy⟩, fun x hx => by cases hx⟩
  | cons x l =>
    obtain ⟨k, x⟩ := x
    dsimp only
    split
    · exact ⟨h (k, x) (by simp), fun y hy => h y (List.mem_cons_of_mem _ hy)⟩
    · exact ⟨⟨by simp [nilV, V.kids], fun y hy => by simp [nilV, V.kids] at hy⟩, h⟩
abbrev PsY := HP × Option Addr × Nat × List Pt × Fm
theorem putsR {H : HP} (b : Nat) {f : Fm} {s : FS} (h : Rel H f s) (hz : SmK s) (key : ByteArray) : Does Tryz.prog 59 [ptr b, .string key] [f.row b, Pile H] (X := PsY) (fun y => .slice y.2.1 y.2.2.2.1.length y.2.2.1) (fun y => [y.2.2.2.2.row b, Pile y.1])
    (fun y => HP.sub H y.1 ∧ SlAt (Pile y.1) 3 y.2.1 y.2.2.2.1.length (y.2.2.2.1.flatMap Pt.cells) ∧ PtsOf y.1 (putsS s key).1 y.2.2.2.1 ∧ Rel y.1 y.2.2.2.2 (putsS s key).2) := by
  obtain ⟨h1, h2⟩ := h.next key
  have hzn := (hz.next key).1
  rcases h1.lst with ⟨p, c, vs, e, hL⟩ | ⟨ho, hk⟩
  · exact does_wk (puts_yes b f h.on key _ p c vs hL hzn.1 hzn.2 e) (fun y => (y.1, y.2.1, y.2.2.1, y.2.2.2, ⟨(f.next key).2.p, (f.next key).2.c, (f.next key).2.ps, (f.next key).2.bad || !((nextS s key).1.kids.all fun x => (putV x).isSome)⟩)) fun y hy => ⟨rfl, rfl, hy.1, hy.2.1, by
      unfold putsS; rw [if_pos hL.k]; exact hy.2.2, by
      unfold putsS
      rw [decide_eq_true hL.k, Bool.true_and, h2.bad]
      exact (h2.setBad _).grow hy.1⟩
  · exact does_wk (puts_no b f h.on key ho) (fun _ => (H, none, 0, [], (f.next key).2.spoil)) fun _ _ => ⟨rfl, rfl, HP.sub.refl _, SlAt.none, by
      unfold putsS; rw [if_neg hk]
      exact ⟨rfl, (fun _ h => by cases h), fun i _ _ _ h => by simp at h⟩, by
      unfold putsS
      rw [decide_eq_false hk, Bool.false_and, Bool.not_false, Bool.or_true]
      exact h2.setBad true⟩
end Go.Proofs.YtaahibcibgljbaaGreatDoor
