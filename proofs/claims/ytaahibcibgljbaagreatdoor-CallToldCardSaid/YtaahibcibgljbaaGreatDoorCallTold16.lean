/- Contracts and laws that the proof stands on. -/
import Derived.Test.YtaahibcibgljbaaGreatDoorCallTold15
set_option linter.unusedSimpArgs false
set_option linter.unusedVariables false
namespace Go.Proofs.YtaahibcibgljbaaGreatDoor
open Go.Sl
def digP (c : UInt8) : UInt8 × Bool := if 48 ≤ c.toNat ∧ c.toNat ≤ 57 then (c - 48, true) else if 97 ≤ c.toNat ∧ c.toNat ≤ 102 then (c - 97 + 10, true) else (0, false)
def escP (l : List UInt8) : UInt8 × Nat :=
  if l = [] then (0, 0) else if (l.getD 0 0).toNat = 34 ∨ (l.getD 0 0).toNat = 92 then (l.getD 0 0, 1) else if (l.getD 0 0).toNat = 110 then (10, 1)
  else if (l.getD 0 0).toNat = 120 ∧ 3 ≤ l.length ∧ (digP (l.getD 1 0)).2 = true ∧ (digP (l.getD 2 0)).2 = true then (UInt8.ofNat ((digP (l.getD 1 0)).1.toNat * 16 + (digP (l.getD 2 0)).1.toNat), 3) else (0, 0)
theorem escP_le (l : List UInt8) : (escP l).2 ≤ l.length := by
  unfold escP
  split
  · simp
  rename_i h
  have h1 : 1 ≤ l.length := by cases l with | nil => exact absurd rfl h | cons => simp
  split
  · exact h1
  split
  · exact h1
  split
  · rename_i h; exact h.2.1
  · simp
def unqP (acc : List UInt8) (l : List UInt8) : Option (List UInt8) :=
  if l = [] then some acc else if (l.getD 0 0).toNat ≠ 92 then unqP (acc ++ [l.getD 0 0]) (l.drop 1)
  else if (escP (l.drop 1)).2 = 0 then none else unqP (acc ++ [(escP (l.drop 1)).1]) (l.drop (1 + (escP (l.drop 1)).2))
termination_by l.length
decreasing_by
  · rename_i h _
    have h1 : 1 ≤ l.length := by cases l with | nil => exact absurd rfl h | cons => simp
    rw [List.length_drop]; omega
  · rename_i h _ _
    have h1 : 1 ≤ l.length := by cases l with | nil => exact absurd rfl h | cons => simp
    rw [List.length_drop]; omega
def escD (l : List UInt8) : Option (UInt8 × Nat) :=
  if l = [] then none else if (l.getD 0 0).toNat = 110 then some (10, 1)
  else if (l.getD 0 0).toNat = 120 then (if l.length < 3 ∨ (digP (l.getD 1 0)).2 = false ∨ (digP (l.getD 2 0)).2 = false then none else some (UInt8.ofNat ((digP (l.getD 1 0)).1.toNat * 16 + (digP (l.getD 2 0)).1.toNat), 3))
  else some (l.getD 0 0, 1)
def unqD (acc : List UInt8) (l : List UInt8) : Option (List UInt8) :=
  if l = [] then some acc else if (l.getD 0 0).toNat ≠ 92 then unqD (acc ++ [l.getD 0 0]) (l.drop 1)
  else match escD (l.drop 1) with
    | none => none
    | some (c, k) => unqD (acc ++ [c]) (l.drop (1 + k))
termination_by l.length
decreasing_by
  · rename_i h _
    have h1 : 1 ≤ l.length := by cases l with | nil => exact absurd rfl h | cons => simp
    rw [List.length_drop]; omega
  · have h : ¬ l = [] := by assumption
    have h1 : 1 ≤ l.length := by cases l with | nil => exact absurd rfl h | cons => simp
    rw [List.length_drop]; omega
theorem unqP_nil (acc : List UInt8) : unqP acc [] = some acc := by rw [unqP, if_pos rfl]
theorem unqD_nil (acc : List UInt8) : unqD acc [] = some acc := by rw [unqD, if_pos rfl]
theorem unqP_one (acc l : List UInt8) (c : UInt8) (h : c.toNat ≠ 92) : unqP acc (c :: l) = unqP (acc ++ [c]) l := by
  rw [unqP, if_neg (by simp), if_pos (by simpa using h)]; simp
theorem unqD_one (acc l : List UInt8) (c : UInt8) (h : c.toNat ≠ 92) : unqD acc (c :: l) = unqD (acc ++ [c]) l := by
  rw [unqD, if_neg (by simp), if_pos (by simpa using h)]; simp
theorem unqP_esc (acc l : List UInt8) (c : UInt8) (k : Nat) (h : escP l = (c, k)) (hk : k ≠ 0) : unqP acc (92 :: l) = unqP (acc ++ [c]) (l.drop k) := by
  rw [unqP, if_neg (by simp), if_neg (by simp), List.drop_one, List.tail_cons, h, if_neg hk, Nat.add_comm, List.drop_succ_cons]
theorem unqD_esc (acc l : List UInt8) (c : UInt8) (k : Nat) (h : escD l = some (c, k)) : unqD acc (92 :: l) = unqD (acc ++ [c]) (l.drop k) := by
  rw [unqD, if_neg (by simp), if_neg (by simp)]
  simp only [List.drop_one, List.tail_cons, h]
  rw [Nat.add_comm, List.drop_succ_cons]
theorem unqP_all : ∀ (m acc l : List UInt8), (∀ c ∈ m, c.toNat ≠ 92) → unqP acc (m ++ l) = unqP (acc ++ m) l
  | [], acc, l, _ => by simp
  | c :: m, acc, l, h => by
    rw [List.cons_append, unqP_one _ _ _ (h c (List.mem_cons_self ..)), unqP_all m _ l fun d hd => h d (List.mem_cons_of_mem _ hd)]
    simp
theorem unqD_all : ∀ (m acc l : List UInt8), (∀ c ∈ m, c.toNat ≠ 92) → unqD acc (m ++ l) = unqD (acc ++ m) l
  | [], acc, l, _ => by simp
  | c :: m, acc, l, h => by
    rw [List.cons_append, unqD_one _ _ _ (h c (List.mem_cons_self ..)), unqD_all m _ l fun d hd => h d (List.mem_cons_of_mem _ hd)]
    simp
theorem dig_hex : ∀ n : Nat, n < 16 → digP (hexB n) = (UInt8.ofNat n, true) := by decide +kernel
theorem byte_of (c : UInt8) : UInt8.ofNat (c.toNat / 16 * 16 + c.toNat % 16) = c := by
  rw [show c.toNat / 16 * 16 + c.toNat % 16 = c.toNat by omega]; simp
theorem escP_hex (c : UInt8) (l : List UInt8) : escP (120 :: hexB (c.toNat / 16) :: hexB (c.toNat % 16) :: l) = (c, 3) := by
  have h8 := c.toNat_lt
  have e1 := dig_hex (c.toNat / 16) (by omega)
  have e2 := dig_hex (c.toNat % 16) (by omega)
  unfold escP
  simp only [List.getD_cons_zero, List.getD_cons_succ, e1, e2]
  rw [if_neg (by simp), if_neg (by decide), if_neg (by decide), if_pos (by simp)]
  rw [UInt8.toNat_ofNat', UInt8.toNat_ofNat', Nat.mod_eq_of_lt (by omega), Nat.mod_eq_of_lt (by omega), byte_of]
theorem escD_hex (c : UInt8) (l : List UInt8) : escD (120 :: hexB (c.toNat / 16) :: hexB (c.toNat % 16) :: l) = some (c, 3) := by
  have h8 := c.toNat_lt
  have e1 := dig_hex (c.toNat / 16) (by omega)
  have e2 := dig_hex (c.toNat % 16) (by omega)
  unfold escD
  simp only [List.getD_cons_zero, List.getD_cons_succ, e1, e2]
  rw [if_neg (by simp), if_neg (by decide), if_pos (by decide), if_neg (by simp)]
  rw [UInt8.toNat_ofNat', UInt8.toNat_ofNat', Nat.mod_eq_of_lt (by omega), Nat.mod_eq_of_lt (by omega), byte_of]
theorem enc_big (r : Nat) (h0 : 128 ≤ r) (h : r ≤ 1114111) : ∀ c ∈ Lib.encodeRune (r : Int), 128 ≤ c.toNat := by
  have hof : ∀ n : Nat, n < 256 → (UInt8.ofNat n).toNat = n := fun n hn => by rw [UInt8.toNat_ofNat']; omega
  intro c hc
  by_cases h2 : r ≤ 2047
  · rw [enc2 r h0 h2] at hc
    simp only [List.mem_cons, List.not_mem_nil, or_false] at hc
    rcases hc with rfl | rfl <;> rw [hof _ (by omega)] <;> omega
  by_cases h3 : r < 55296 ∨ 57343 < r ∧ r ≤ 65535
  · rw [enc3 r (by omega)] at hc
    simp only [List.mem_cons, List.not_mem_nil, or_false] at hc
    rcases hc with rfl | rfl | rfl <;> rw [hof _ (by omega)] <;> omega
  by_cases h4 : 65536 ≤ r
  · rw [enc4 r h4 h] at hc
    simp only [List.mem_cons, List.not_mem_nil, or_false] at hc
    rcases hc with rfl | rfl | rfl | rfl <;> rw [hof _ (by omega)] <;> omega
  rw [encBad r (by omega)] at hc
  simp only [List.mem_cons, List.not_mem_nil, or_false] at hc
  rcases hc with rfl | rfl | rfl <;> decide
theorem rune_one (s : ByteArray) (k : Nat) (h : k < s.size) (hw : (Utf8.decode s k).2 = 1) : (s.data.toList.drop k).take (Utf8.decode s k).2 = [at8 s k] := by
  have hl : k < s.data.toList.length := by simpa using h
  rw [hw, List.drop_eq_getElem_cons hl, List.take_succ_cons, List.take_zero]
  unfold at8
  rw [List.getD_eq_getElem?_getD, List.getElem?_eq_getElem hl]; rfl
theorem rune_bytes (s : ByteArray) (k : Nat) (h : k < s.size) (ha : ¬ (at8 s k).toNat < 128) : ∀ c ∈ (s.data.toList.drop k).take (Utf8.decode s k).2, 128 ≤ c.toNat := by
  cases hw : wrongB s k with
  | false =>
    rw [← decode_enc s k h hw]
    exact enc_big _ (decode_big h ha) (decode_most s k)
  | true =>
    unfold wrongB at hw
    have hw := (of_decide_eq_true hw).2
    rw [rune_one s k h hw]
    intro c hc
    rw [List.mem_singleton] at hc
    subst hc
    omega
theorem unq_step (s : ByteArray) (k : Nat) (h : k < s.size) (acc l : List UInt8) : unqP acc (qR s k ++ l) = unqP (acc ++ (s.data.toList.drop k).take (Utf8.decode s k).2) l ∧ unqD acc (qR s k ++ l) = unqD (acc ++ (s.data.toList.drop k).take (Utf8.decode s k).2) l := by
  have h8 := (at8 s k).toNat_lt
  rw [qR_doc s k h]
  have hone : (at8 s k).toNat < 128 → (s.data.toList.drop k).take (Utf8.decode s k).2 = [at8 s k] := fun ha => rune_one s k h (by rw [decode_at h ha])
  have hof : ∀ n : Nat, (at8 s k).toNat = n → at8 s k = UInt8.ofNat n := fun n hn => by rw [← hn]; simp
  by_cases h1 : (at8 s k).toNat = 34
  · rw [if_pos h1, hone (by omega), hof _ h1]
    exact ⟨by rw [List.cons_append, unqP_esc _ _ 34 1 (by unfold escP; simp) (by decide)]; rfl, by rw [List.cons_append, unqD_esc _ _ 34 1 (by unfold escD; simp)]; rfl⟩
  rw [if_neg h1]
  by_cases h2 : (at8 s k).toNat = 92
  · rw [if_pos h2, hone (by omega), hof _ h2]
    exact ⟨by rw [List.cons_append, unqP_esc _ _ 92 1 (by unfold escP; simp) (by decide)]; rfl, by rw [List.cons_append, unqD_esc _ _ 92 1 (by unfold escD; simp)]; rfl⟩
  rw [if_neg h2]
  by_cases h3 : (at8 s k).toNat = 10
  · rw [if_pos h3, hone (by omega), hof _ h3]
    exact ⟨by rw [List.cons_append, unqP_esc _ _ 10 1 (by unfold escP; simp) (by decide)]; rfl, by rw [List.cons_append, unqD_esc _ _ 10 1 (by unfold escD; simp)]; rfl⟩
  rw [if_neg h3]
  by_cases h4 : wrongB s k = true ∨ (at8 s k).toNat < 32 ∨ (at8 s k).toNat = 127
  · have ho : (s.data.toList.drop k).take (Utf8.decode s k).2 = [at8 s k] := by
      rcases h4 with h4 | h4
      · unfold wrongB at h4
        exact rune_one s k h (of_decide_eq_true h4).2
      · exact hone (by omega)
    rw [if_pos h4, ho]
    exact ⟨unqP_esc acc (120 :: hexB ((at8 s k).toNat / 16) :: hexB ((at8 s k).toNat % 16) :: l) (at8 s k) 3 (escP_hex _ _) (by decide), unqD_esc acc (120 :: hexB ((at8 s k).toNat / 16) :: hexB ((at8 s k).toNat % 16) :: l) (at8 s k) 3 (escD_hex _ _)⟩
  · rw [if_neg h4]
    have hall : ∀ c ∈ (s.data.toList.drop k).take (Utf8.decode s k).2, c.toNat ≠ 92 := fun c hc => by
      by_cases ha : (at8 s k).toNat < 128
      · rw [hone ha, List.mem_singleton] at hc
        rw [hc]; exact h2
      · have := rune_bytes s k h ha c hc
        omega
    exact ⟨unqP_all _ _ _ hall, unqD_all _ _ _ hall⟩
theorem unq_run (s : ByteArray) : ∀ f k acc, s.size ≤ k + f → k ≤ s.size → unqP acc (qF s f k) = some (acc ++ s.data.toList.drop k) ∧ unqD acc (qF s f k) = some (acc ++ s.data.toList.drop k)
  | f, k, acc, hf, hk => by
    have h2 : s.data.toList.length = s.size := by simp
    by_cases h : k < s.size
    · obtain ⟨f, rfl⟩ : ∃ f', f = f' + 1 := ⟨f - 1, by omega⟩
      have hw := Lib.decode_width_pos s k h
      have hin := decode_in s k h
      rw [qF_go s f k h]
      have h3 := unq_step s k h acc (qF s f (k + (Utf8.decode s k).2))
      have h4 := unq_run s f (k + (Utf8.decode s k).2) (acc ++ (s.data.toList.drop k).take (Utf8.decode s k).2) (by omega) hin
      have e : (acc ++ (s.data.toList.drop k).take (Utf8.decode s k).2) ++ s.data.toList.drop (k + (Utf8.decode s k).2) = acc ++ s.data.toList.drop k := by
        rw [List.append_assoc, ← List.drop_drop, List.take_append_drop]
      rw [e] at h4
      exact ⟨h3.1.trans h4.1, h3.2.trans h4.2⟩
    · rw [qF_end s f k h, unqP_nil, unqD_nil, List.drop_eq_nil_of_le (by omega), List.append_nil]
      exact ⟨rfl, rfl⟩
theorem txt_of (s : ByteArray) : txt s.data.toList = s := by cases s; simp [txt]
def inner_ (l : List UInt8) : List UInt8 := (l.drop 1).take (l.length - 2)
theorem inner_quote (s : ByteArray) : inner_ (quoteL s) = qF s s.size 0 := by
  unfold inner_ quoteL
  simp
def unqS (l : List UInt8) : ByteArray × Bool := match unqP [] (inner_ l) with
  | some t => if quoteL (txt t) = l then (txt t, true) else (ByteArray.empty, false)
  | none => (ByteArray.empty, false)
theorem unqS_quote (s : ByteArray) : unqS (quoteL s) = (s, true) := by
  unfold unqS
  rw [inner_quote, (unq_run s s.size 0 [] (by omega) (Nat.zero_le _)).1]
  simp only [List.nil_append, List.drop_zero, txt_of, if_true]
theorem unqS_ok {l : List UInt8} (h : (unqS l).2 = true) : quoteL (unqS l).1 = l := by
  unfold unqS at h ⊢
  split
  · rename_i t ht
    rw [ht] at h
    dsimp only at h
    by_cases hq : quoteL (txt t) = l
    · rw [if_pos hq]; exact hq
    · rw [if_neg hq] at h; cases h
  · rename_i ht
    rw [ht] at h; cases h
theorem unqS_no {l : List UInt8} (h : ∀ t, quoteL t ≠ l) : unqS l = (ByteArray.empty, false) := by
  unfold unqS
  split
  · rw [if_neg (h _)]
  · rfl
theorem quote_head (s : ByteArray) : (quoteL s).getD 0 0 = 34 ∧ (quoteL s).getD ((quoteL s).length - 1) 0 = 34 ∧ 2 ≤ (quoteL s).length := by
  refine ⟨rfl, ?_, by unfold quoteL; simp⟩
  unfold quoteL
  rw [List.length_cons, List.length_append, List.length_singleton, Nat.add_sub_cancel]
  simp
theorem unqS_short {l : List UInt8} (h : l.length < 2 ∨ (l.getD 0 0).toNat ≠ 34 ∨ (l.getD (l.length - 1) 0).toNat ≠ 34) : unqS l = (ByteArray.empty, false) := by
  refine unqS_no fun t ht => ?_
  obtain ⟨h1, h2, h3⟩ := quote_head t
  rw [ht] at h1 h2 h3
  rcases h with h | h | h
  · omega
  · rw [h1] at h; exact h rfl
  · rw [h2] at h; exact h rfl
theorem qF_size (s : ByteArray) : ∀ f k, s.size ≤ k + f → k ≤ s.size → s.size - k ≤ (qF s f k).length
  | f, k, hf, hk => by
    by_cases h : k < s.size
    · obtain ⟨f, rfl⟩ : ∃ f', f = f' + 1 := ⟨f - 1, by omega⟩
      have hw := Lib.decode_width_pos s k h
      have hin := decode_in s k h
      have h4 := qF_size s f (k + (Utf8.decode s k).2) (by omega) hin
      rw [qF_go s f k h, List.length_append]
      have : (Utf8.decode s k).2 ≤ (qR s k).length := by
        have h2 : s.data.toList.length = s.size := by simp
        have hone : (at8 s k).toNat < 128 → (Utf8.decode s k).2 = 1 := fun ha => by rw [decode_at h ha]
        rw [qR_doc s k h]
        split
        · rw [hone (by omega)]; simp
        split
        · rw [hone (by omega)]; simp
        split
        · rw [hone (by omega)]; simp
        split
        · rename_i h4
          have : (Utf8.decode s k).2 = 1 := by
            rcases h4 with h4 | h4
            · unfold wrongB at h4
              exact (of_decide_eq_true h4).2
            · exact hone (by omega)
          rw [this]; simp
        · rw [List.length_take, List.length_drop]; omega
      omega
    · omega
theorem quote_size (s : ByteArray) : s.size + 2 ≤ (quoteL s).length := by
  have := qF_size s s.size 0 (by omega) (Nat.zero_le _)
  unfold quoteL
  simp only [List.length_cons, List.length_append, List.length_nil]
  omega
theorem unqS_size (l : List UInt8) : (unqS l).1.size ≤ l.length := by
  cases h : (unqS l).2 with
  | true =>
    have h1 := unqS_ok h
    have := quote_size (unqS l).1
    rw [h1] at this
    omega
  | false =>
    have : unqS l = (ByteArray.empty, false) := by
      unfold unqS at h ⊢
      split
      · rename_i t ht
        rw [ht] at h
        dsimp only at h
        by_cases hq : quoteL (txt t) = l
        · rw [if_pos hq] at h; cases h
        · rw [if_neg hq]
      · rfl
    rw [this]; exact Nat.zero_le _
end Go.Proofs.YtaahibcibgljbaaGreatDoor
namespace Go.Sl
open Go.RowKit
variable {P : Program} {Γ : Ctx} {fr : Fr} {d : Nat} {t t2 ty : TypeId} {pos : String} {aft : Array Edge} {gd : Option (Nat × Bool)} {x y : Operand}
theorem qs_shl8 {k : IntKind} {a n : Nat} (hx : ev fr x = some (.int .u8 (a : Int))) (hy : ev fr y = some (.int k (n : Int))) (hn : n ≤ 8) : QStep P Γ fr ⟨some d, .binOp .shl t x y t2, ty, pos, aft, gd⟩ (.int .u8 ((a * 2 ^ n % 256 : Nat) : Int)) :=
  qs_of (fun c w hf => by
    have e0 : ¬ ((n : Int) < 0) := by omega
    have e1 : min (n : Int).toNat IntKind.u8.bits = n := by
      show min (n : Int).toNat 8 = n
      rw [Int.toNat_natCast]; omega
    have e2 : IntKind.u8.wrap ((a : Int) * 2 ^ n) = ((a * 2 ^ n % 256 : Nat) : Int) := by
      have e3 : (a : Int) * 2 ^ n = ((a * 2 ^ n : Nat) : Int) := by simp
      rw [e3]
      generalize a * 2 ^ n = m
      show (m : Int) % 256 = _
      omega
    simp only [execOp, hf.ev hx, hf.ev hy, eqGuard_at_int, binOp_shl, Op.shift, e0, if_false, e1, e2]
    rfl)
end Go.Sl
namespace Go.Proofs.YtaahibcibgljbaaGreatDoor
open Go.Sl facts
theorem unqP_eq (acc l : List UInt8) (h : ¬ l = []) : unqP acc l = if (l.getD 0 0).toNat ≠ 92 then unqP (acc ++ [l.getD 0 0]) (l.drop 1) else if (escP (l.drop 1)).2 = 0 then none else unqP (acc ++ [(escP (l.drop 1)).1]) (l.drop (1 + (escP (l.drop 1)).2)) := by
  conv => lhs; rw [unqP, if_neg h]
theorem ext_txt (l : List UInt8) (a b : Nat) : (txt l).extract a b = txt ((l.drop a).take (b - a)) := by
  apply ByteArray.ext
  apply Array.toList_inj.1
  rw [ByteArray.data_extract, Array.toList_extract, List.extract_eq_take_drop]
attribute [local irreducible] Code.wp wpList Exit.then Exit.inBlock bodyPost Back MidQ G GP QStep VStep CStep SStep Does Post Reads
abbrev u8v (c : UInt8) : Value := .int .u8 (c.toNat : Int)
theorem u8_sub (c d : UInt8) (h : d.toNat ≤ c.toNat) : ((c - d).toNat : Int) = (c.toNat : Int) - d.toNat := by
  rw [UInt8.toNat_sub_of_le c d (by exact h)]
  omega
theorem digit1 (c : UInt8) : Does1 Tryz.prog 101 [u8v c] [] (.tuple #[u8v (digP c).1, .bool (digP c).2]) := by
  have h8 := c.toNat_lt
  have s1 := u8_sub c 48
  have s2 := u8_sub c 97
  simp only [show (48 : UInt8).toNat = 48 from rfl, show (97 : UInt8).toNat = 97 from rfl] at s1 s2
  refine fn_intro Tryz.func101 rfl Tryz.ntmps101 rfl (by simp only [argFr, Nat.zero_add, Nat.reduceAdd]; rfl) (fun Γ => ?_)
  repeat (first
    | (refine g_ops ?_; first | refine sO ?_ | refine s_n (fun _ => ?_) | refine s_app (fun _ _ => ?_) | refine s_b0 (fun _ => ?_) | ((fail_if_success refine g_lit rfl rfl rfl ?_); first | apply g_partM rfl rfl rfl | apply g_partMB rfl rfl rfl | fail))
    | apply g_regB (id := 1) 4 | apply g_regB (id := 3) 13 | refine gS ?_ | exact s_m | intro _ | (refine gp_take ?_; first | refine pT ?_ | ((fail_if_success refine gp_lit rfl rfl rfl rfl ?_); first | apply gp_guard_dec rfl rfl rfl rfl | apply gp_guard rfl rfl rfl rfl | fail))
    | (refine gp_see ?_; first | refine p_f ?_ | refine pS ?_ | ((fail_if_success refine gp_lit rfl rfl rfl rfl ?_); first | apply gp_guard_dec rfl rfl rfl rfl | apply gp_guard rfl rfl rfl rfl | fail))
    | (refine gp_one ?_; first | refine pO ?_ | refine p_n (fun _ => ?_) | refine p_app (fun _ _ => ?_) | refine p_b0 (fun _ => ?_) | ((fail_if_success refine gp_lit rfl rfl rfl rfl ?_); first | apply gp_guard_dec rfl rfl rfl rfl | apply gp_guard rfl rfl rfl rfl | fail))
    | refine gp_two ?_ ?_ | refine gp_done hd hk ?_ | intro _ | refine p_ta hd hk (fun _ _ _ hd hk => ?_) | refine p_ts hd hk (fun _ hd hk => ?_))
  by_cases h1 : 48 ≤ c.toNat ∧ c.toNat ≤ 57
  · refine g_as 4 (v' := .bool true) rfl (congrArg Value.bool (by simp [Bool.cond_eq_ite]; omega)) ?_
    have e : digP c = (c - 48, true) := by unfold digP; rw [if_pos h1]
    repeat (first
      | (refine g_ops ?_; first | refine sO ?_ | refine s_n (fun _ => ?_) | refine s_app (fun _ _ => ?_) | refine s_b0 (fun _ => ?_) | ((fail_if_success refine g_lit rfl rfl rfl ?_); first | apply g_partM rfl rfl rfl | apply g_partMB rfl rfl rfl | fail))
      | refine gS ?_ | exact s_m | intro _)
    refine s_q (q := by exact qs_sub rfl rfl) ?_
    refine g_as 12 (v' := u8v (c - 48)) rfl (congrArg (Value.int .u8) (by rw [wrap_u8 ⟨by omega, by omega⟩, s1 h1.1]; rfl)) ?_
    repeat (first
      | (refine g_ops ?_; first | refine sO ?_ | refine s_n (fun _ => ?_) | refine s_app (fun _ _ => ?_) | refine s_b0 (fun _ => ?_) | ((fail_if_success refine g_lit rfl rfl rfl ?_); first | apply g_partM rfl rfl rfl | apply g_partMB rfl rfl rfl | fail))
      | refine gS ?_ | exact s_m | intro _)
    exact s_r () (hp := by rw [e]; rfl)
  refine g_as 4 (v' := .bool false) rfl (congrArg Value.bool (by simp [Bool.cond_eq_ite]; omega)) ?_
  repeat (first
    | (refine g_ops ?_; first | refine sO ?_ | refine s_n (fun _ => ?_) | refine s_app (fun _ _ => ?_) | refine s_b0 (fun _ => ?_) | ((fail_if_success refine g_lit rfl rfl rfl ?_); first | apply g_partM rfl rfl rfl | apply g_partMB rfl rfl rfl | fail))
    | apply g_regB (id := 1) 4 | apply g_regB (id := 3) 13 | refine gS ?_ | exact s_m | intro _ | (refine gp_take ?_; first | refine pT ?_ | ((fail_if_success refine gp_lit rfl rfl rfl rfl ?_); first | apply gp_guard_dec rfl rfl rfl rfl | apply gp_guard rfl rfl rfl rfl | fail))
    | (refine gp_see ?_; first | refine p_f ?_ | refine pS ?_ | ((fail_if_success refine gp_lit rfl rfl rfl rfl ?_); first | apply gp_guard_dec rfl rfl rfl rfl | apply gp_guard rfl rfl rfl rfl | fail))
    | (refine gp_one ?_; first | refine pO ?_ | refine p_n (fun _ => ?_) | refine p_app (fun _ _ => ?_) | refine p_b0 (fun _ => ?_) | ((fail_if_success refine gp_lit rfl rfl rfl rfl ?_); first | apply gp_guard_dec rfl rfl rfl rfl | apply gp_guard rfl rfl rfl rfl | fail))
    | refine gp_two ?_ ?_ | refine gp_done hd hk ?_ | intro _ | refine p_ta hd hk (fun _ _ _ hd hk => ?_) | refine p_ts hd hk (fun _ hd hk => ?_))
  by_cases h2 : 97 ≤ c.toNat ∧ c.toNat ≤ 102
  · refine g_as 13 (v' := .bool true) rfl (congrArg Value.bool (by simp [Bool.cond_eq_ite]; omega)) ?_
    have e : digP c = (c - 97 + 10, true) := by unfold digP; rw [if_neg h1, if_pos h2]
    have s3 : ((c - 97 + 10).toNat : Int) = (c.toNat : Int) - 87 := by
      have := s2 h2.1
      rw [UInt8.toNat_add]
      simp only [show (10 : UInt8).toNat = 10 from rfl]
      omega
    repeat (first
      | (refine g_ops ?_; first | refine sO ?_ | refine s_n (fun _ => ?_) | refine s_app (fun _ _ => ?_) | refine s_b0 (fun _ => ?_) | ((fail_if_success refine g_lit rfl rfl rfl ?_); first | apply g_partM rfl rfl rfl | apply g_partMB rfl rfl rfl | fail))
      | refine gS ?_ | exact s_m | intro _)
    refine s_q (q := by exact qs_sub rfl rfl) ?_
    refine g_as 21 (v' := .int .u8 ((c.toNat : Int) - 97)) rfl (congrArg (Value.int .u8) (by rw [wrap_u8 ⟨by omega, by omega⟩])) ?_
    refine s_q (q := by exact qs_add rfl rfl) ?_
    refine g_as 22 (v' := u8v (c - 97 + 10)) rfl (congrArg (Value.int .u8) (by rw [wrap_u8 ⟨by omega, by omega⟩, s3]; omega)) ?_
    repeat (first
      | (refine g_ops ?_; first | refine sO ?_ | refine s_n (fun _ => ?_) | refine s_app (fun _ _ => ?_) | refine s_b0 (fun _ => ?_) | ((fail_if_success refine g_lit rfl rfl rfl ?_); first | apply g_partM rfl rfl rfl | apply g_partMB rfl rfl rfl | fail))
      | refine gS ?_ | exact s_m | intro _)
    exact s_r () (hp := by rw [e]; rfl)
  refine g_as 13 (v' := .bool false) rfl (congrArg Value.bool (by simp [Bool.cond_eq_ite]; omega)) ?_
  have e : digP c = (0, false) := by unfold digP; rw [if_neg h1, if_neg h2]
  repeat (first
    | (refine g_ops ?_; first | refine sO ?_ | refine s_n (fun _ => ?_) | refine s_app (fun _ _ => ?_) | refine s_b0 (fun _ => ?_) | ((fail_if_success refine g_lit rfl rfl rfl ?_); first | apply g_partM rfl rfl rfl | apply g_partMB rfl rfl rfl | fail))
    | refine gS ?_ | exact s_m | intro _)
  exact s_r () (hp := by rw [e]; rfl)
theorem dig_lt (c : UInt8) : (digP c).1.toNat < 16 := by
  have h8 := c.toNat_lt
  unfold digP
  split
  · have := u8_sub c 48
    simp only [show (48 : UInt8).toNat = 48 from rfl] at this
    dsimp only
    omega
  split
  · have := u8_sub c 97
    simp only [show (97 : UInt8).toNat = 97 from rfl] at this
    dsimp only
    rw [UInt8.toNat_add]
    simp only [show (10 : UInt8).toNat = 10 from rfl]
    omega
  · decide
theorem at8_txt (l : List UInt8) (i : Nat) : at8 (txt l) i = l.getD i 0 := by simp [at8, txt]
theorem escaped1 (l : List UInt8) (hl : l.length ≤ 1000000000) : Does1 Tryz.prog 85 [.string (txt l)] [] (.tuple #[u8v (escP l).1, int (escP l).2]) := by
  have h8 := (l.getD 0 0).toNat_lt
  refine fn_intro Tryz.func85 rfl Tryz.ntmps85 rfl (by simp only [argFr, Nat.zero_add, Nat.reduceAdd]; rfl) (fun Γ => ?_)
  by_cases h0 : l = []
  · subst h0
    repeat (first
      | (refine g_ops ?_; first | refine sO ?_ | refine s_n (fun _ => ?_) | refine s_app (fun _ _ => ?_) | refine s_b0 (fun _ => ?_) | ((fail_if_success refine g_lit rfl rfl rfl ?_); first | apply g_partM rfl rfl rfl | apply g_partMB rfl rfl rfl | fail))
      | refine gS ?_ | exact s_m | intro _)
    exact s_r ()
  have h1 : 1 ≤ l.length := by cases l with | nil => exact absurd rfl h0 | cons => simp
  have hz : (txt l).size = l.length := txt_size l
  have hne : ¬ txt l = ⟨#[]⟩ := fun h => h0 (by
    have := congrArg ByteArray.size h
    rw [hz] at this
    exact List.eq_nil_of_length_eq_zero this)
  repeat (first
    | (refine g_ops ?_; first | refine sO ?_ | refine s_n (fun _ => ?_) | refine s_app (fun _ _ => ?_) | refine s_b0 (fun _ => ?_) | ((fail_if_success refine g_lit rfl rfl rfl ?_); first | apply g_partM rfl rfl rfl | apply g_partMB rfl rfl rfl | fail))
    | refine gS ?_ | exact s_m | intro _)
  refine g_as 9 (v' := .bool false) rfl (congrArg Value.bool (decide_eq_false hne)) ?_
  repeat (first
    | (refine g_ops ?_; first | refine sO ?_ | refine s_n (fun _ => ?_) | refine s_app (fun _ _ => ?_) | refine s_b0 (fun _ => ?_) | ((fail_if_success refine g_lit rfl rfl rfl ?_); first | apply g_partM rfl rfl rfl | apply g_partMB rfl rfl rfl | fail))
    | refine gS ?_ | exact s_m | intro _)
  refine s_q (q := by exact qs_indexStr (i := 0) inferInstance rfl rfl (by rw [hz]; omega)) ?_
  refine g_as 11 (v' := u8v (l.getD 0 0)) rfl (by rw [at8_txt]) ?_
  repeat (first
    | (refine g_ops ?_; first | refine sO ?_ | refine s_n (fun _ => ?_) | refine s_app (fun _ _ => ?_) | refine s_b0 (fun _ => ?_) | ((fail_if_success refine g_lit rfl rfl rfl ?_); first | apply g_partM rfl rfl rfl | apply g_partMB rfl rfl rfl | fail))
    | refine gS ?_ | exact s_m | intro _)
  by_cases k1 : (l.getD 0 0).toNat = 34 ∨ (l.getD 0 0).toNat = 92
  · have e : escP l = (l.getD 0 0, 1) := by unfold escP; rw [if_neg h0, if_pos k1]
    refine g_cutX (X := Unit) (fun _ => [(0, .string (txt l)), (12, .bool true)]) (fun _ => []) (fun _ => True) ?_ (fun _ _ => ?_)
    · by_cases k34 : (l.getD 0 0).toNat = 34
      · refine g_as 12 (v' := .bool true) rfl (congrArg Value.bool (decide_eq_true (by omega))) ?_
        repeat (first
          | (refine g_ops ?_; first | refine sO ?_ | refine s_n (fun _ => ?_) | refine s_app (fun _ _ => ?_) | refine s_b0 (fun _ => ?_) | ((fail_if_success refine g_lit rfl rfl rfl ?_); first | apply g_partM rfl rfl rfl | apply g_partMB rfl rfl rfl | fail))
          | refine gS ?_ | exact s_m | intro _)
        exact gM () trivial
      · refine g_as 12 (v' := .bool false) rfl (congrArg Value.bool (decide_eq_false (by omega))) ?_
        repeat (first
          | (refine g_ops ?_; first | refine sO ?_ | refine s_n (fun _ => ?_) | refine s_app (fun _ _ => ?_) | refine s_b0 (fun _ => ?_) | ((fail_if_success refine g_lit rfl rfl rfl ?_); first | apply g_partM rfl rfl rfl | apply g_partMB rfl rfl rfl | fail))
          | refine gS ?_ | exact s_m | intro _)
        refine g_as 12 (v' := .bool true) rfl (congrArg Value.bool (decide_eq_true (by omega))) ?_
        exact gM () trivial
    repeat (first
      | (refine g_ops ?_; first | refine sO ?_ | refine s_n (fun _ => ?_) | refine s_app (fun _ _ => ?_) | refine s_b0 (fun _ => ?_) | ((fail_if_success refine g_lit rfl rfl rfl ?_); first | apply g_partM rfl rfl rfl | apply g_partMB rfl rfl rfl | fail))
      | refine gS ?_ | exact s_m | intro _)
    refine s_q (q := by exact qs_indexStr (i := 0) inferInstance rfl rfl (by rw [hz]; omega)) ?_
    refine g_as 16 (v' := u8v (l.getD 0 0)) rfl (by rw [at8_txt]) ?_
    repeat (first
      | (refine g_ops ?_; first | refine sO ?_ | refine s_n (fun _ => ?_) | refine s_app (fun _ _ => ?_) | refine s_b0 (fun _ => ?_) | ((fail_if_success refine g_lit rfl rfl rfl ?_); first | apply g_partM rfl rfl rfl | apply g_partMB rfl rfl rfl | fail))
      | refine gS ?_ | exact s_m | intro _)
    exact s_r () (hp := by rw [e]; rfl)
  refine g_as 12 (v' := .bool false) rfl (congrArg Value.bool (decide_eq_false (by omega))) ?_
  repeat (first
    | (refine g_ops ?_; first | refine sO ?_ | refine s_n (fun _ => ?_) | refine s_app (fun _ _ => ?_) | refine s_b0 (fun _ => ?_) | ((fail_if_success refine g_lit rfl rfl rfl ?_); first | apply g_partM rfl rfl rfl | apply g_partMB rfl rfl rfl | fail))
    | refine gS ?_ | exact s_m | intro _)
  refine g_as 12 (v' := .bool false) rfl (congrArg Value.bool (decide_eq_false (by omega))) ?_
  repeat (first
    | (refine g_ops ?_; first | refine sO ?_ | refine s_n (fun _ => ?_) | refine s_app (fun _ _ => ?_) | refine s_b0 (fun _ => ?_) | ((fail_if_success refine g_lit rfl rfl rfl ?_); first | apply g_partM rfl rfl rfl | apply g_partMB rfl rfl rfl | fail))
    | refine gS ?_ | exact s_m | intro _)
  by_cases k2 : (l.getD 0 0).toNat = 110
  · have e : escP l = (10, 1) := by unfold escP; rw [if_neg h0, if_neg k1, if_pos k2]
    refine g_as 17 (v' := .bool true) rfl (congrArg Value.bool (decide_eq_true (by omega))) ?_
    repeat (first
      | (refine g_ops ?_; first | refine sO ?_ | refine s_n (fun _ => ?_) | refine s_app (fun _ _ => ?_) | refine s_b0 (fun _ => ?_) | ((fail_if_success refine g_lit rfl rfl rfl ?_); first | apply g_partM rfl rfl rfl | apply g_partMB rfl rfl rfl | fail))
      | refine gS ?_ | exact s_m | intro _)
    exact s_r () (hp := by rw [e]; rfl)
  refine g_as 17 (v' := .bool false) rfl (congrArg Value.bool (decide_eq_false (by omega))) ?_
  repeat (first
    | (refine g_ops ?_; first | refine sO ?_ | refine s_n (fun _ => ?_) | refine s_app (fun _ _ => ?_) | refine s_b0 (fun _ => ?_) | ((fail_if_success refine g_lit rfl rfl rfl ?_); first | apply g_partM rfl rfl rfl | apply g_partMB rfl rfl rfl | fail))
    | refine gS ?_ | exact s_m | intro _)
  by_cases k3 : (l.getD 0 0).toNat = 120
  case neg =>
    have e : escP l = (0, 0) := by unfold escP; rw [if_neg h0, if_neg k1, if_neg k2, if_neg (fun h => k3 h.1)]
    refine g_as 19 (v' := .bool false) rfl (congrArg Value.bool (decide_eq_false (by omega))) ?_
    repeat (first
      | (refine g_ops ?_; first | refine sO ?_ | refine s_n (fun _ => ?_) | refine s_app (fun _ _ => ?_) | refine s_b0 (fun _ => ?_) | ((fail_if_success refine g_lit rfl rfl rfl ?_); first | apply g_partM rfl rfl rfl | apply g_partMB rfl rfl rfl | fail))
      | refine gS ?_ | exact s_m | intro _)
    exact s_r () (hp := by rw [e]; rfl)
  refine g_as 19 (v' := .bool true) rfl (congrArg Value.bool (decide_eq_true (by omega))) ?_
  repeat (first
    | (refine g_ops ?_; first | refine sO ?_ | refine s_n (fun _ => ?_) | refine s_app (fun _ _ => ?_) | refine s_b0 (fun _ => ?_) | ((fail_if_success refine g_lit rfl rfl rfl ?_); first | apply g_partM rfl rfl rfl | apply g_partMB rfl rfl rfl | fail))
    | refine gS ?_ | exact s_m | intro _)
  by_cases k4 : l.length < 3
  · have e : escP l = (0, 0) := by unfold escP; rw [if_neg h0, if_neg k1, if_neg k2, if_neg (fun h => by omega)]
    refine g_as 23 (v' := .bool true) rfl (congrArg Value.bool (decide_eq_true (by rw [hz]; omega))) ?_
    repeat (first
      | (refine g_ops ?_; first | refine sO ?_ | refine s_n (fun _ => ?_) | refine s_app (fun _ _ => ?_) | refine s_b0 (fun _ => ?_) | ((fail_if_success refine g_lit rfl rfl rfl ?_); first | apply g_partM rfl rfl rfl | apply g_partMB rfl rfl rfl | fail))
      | refine gS ?_ | exact s_m | intro _)
    exact s_r () (hp := by rw [e]; rfl)
  refine g_as 23 (v' := .bool false) rfl (congrArg Value.bool (decide_eq_false (by rw [hz]; omega))) ?_
  repeat (first
    | (refine g_ops ?_; first | refine sO ?_ | refine s_n (fun _ => ?_) | refine s_app (fun _ _ => ?_) | refine s_b0 (fun _ => ?_) | ((fail_if_success refine g_lit rfl rfl rfl ?_); first | apply g_partM rfl rfl rfl | apply g_partMB rfl rfl rfl | fail))
    | refine gS ?_ | exact s_m | intro _)
  refine s_q (q := by exact qs_indexStr (i := 1) inferInstance rfl rfl (by rw [hz]; omega)) ?_
  refine g_as 26 (v' := u8v (l.getD 1 0)) rfl (by rw [at8_txt]) ?_
  repeat (first
    | (refine g_ops ?_; first | refine sO ?_ | refine s_n (fun _ => ?_) | refine s_app (fun _ _ => ?_) | refine s_b0 (fun _ => ?_) | ((fail_if_success refine g_lit rfl rfl rfl ?_); first | apply g_partM rfl rfl rfl | apply g_partMB rfl rfl rfl | fail) | refine s_p (digit1 (l.getD 1 0)) ?_)
    | refine gS ?_ | exact s_m | intro _)
  refine s_q (q := by exact qs_indexStr (i := 2) inferInstance rfl rfl (by rw [hz]; omega)) ?_
  refine g_as 32 (v' := u8v (l.getD 2 0)) rfl (by rw [at8_txt]) ?_
  have d1 := dig_lt (l.getD 1 0)
  have d2 := dig_lt (l.getD 2 0)
  have e : escP l = if (digP (l.getD 1 0)).2 = true ∧ (digP (l.getD 2 0)).2 = true then (UInt8.ofNat ((digP (l.getD 1 0)).1.toNat * 16 + (digP (l.getD 2 0)).1.toNat), 3) else (0, 0) := by
    unfold escP
    rw [if_neg h0, if_neg k1, if_neg k2]
    by_cases hh : (digP (l.getD 1 0)).2 = true ∧ (digP (l.getD 2 0)).2 = true
    · rw [if_pos hh, if_pos ⟨k3, by omega, hh.1, hh.2⟩]
    · rw [if_neg hh, if_neg (fun h => hh ⟨h.2.2.1, h.2.2.2⟩)]
  repeat (first
    | (refine g_ops ?_; first | refine sO ?_ | refine s_n (fun _ => ?_) | refine s_app (fun _ _ => ?_) | refine s_b0 (fun _ => ?_) | ((fail_if_success refine g_lit rfl rfl rfl ?_); first | apply g_partM rfl rfl rfl | apply g_partMB rfl rfl rfl | fail) | refine s_p (digit1 (l.getD 2 0)) ?_)
    | refine gS ?_ | exact s_m | intro _)
  rw [e]
  generalize digP (l.getD 1 0) = p at d1 ⊢
  generalize digP (l.getD 2 0) = q at d2 ⊢
  obtain ⟨pa, pb⟩ := p
  obtain ⟨qa, qb⟩ := q
  dsimp only at d1 d2 ⊢
  cases pb
  · repeat (first
      | (refine g_ops ?_; first | refine sO ?_ | refine s_n (fun _ => ?_) | refine s_app (fun _ _ => ?_) | refine s_b0 (fun _ => ?_) | ((fail_if_success refine g_lit rfl rfl rfl ?_); first | apply g_partM rfl rfl rfl | apply g_partMB rfl rfl rfl | fail))
      | refine gS ?_ | exact s_m | intro _)
    exact s_r ()
  cases qb
  · repeat (first
      | (refine g_ops ?_; first | refine sO ?_ | refine s_n (fun _ => ?_) | refine s_app (fun _ _ => ?_) | refine s_b0 (fun _ => ?_) | ((fail_if_success refine g_lit rfl rfl rfl ?_); first | apply g_partM rfl rfl rfl | apply g_partMB rfl rfl rfl | fail))
      | refine gS ?_ | exact s_m | intro _)
    exact s_r ()
  repeat (first
    | (refine g_ops ?_; first | refine sO ?_ | refine s_n (fun _ => ?_) | refine s_app (fun _ _ => ?_) | refine s_b0 (fun _ => ?_) | ((fail_if_success refine g_lit rfl rfl rfl ?_); first | apply g_partM rfl rfl rfl | apply g_partMB rfl rfl rfl | fail))
    | refine gS ?_ | exact s_m | intro _)
  refine s_q (q := by exact qs_shl8 (a := pa.toNat) (n := 4) rfl rfl (by decide)) ?_
  refine g_as 41 (v' := .int .u8 ((2 ^ 4 * pa.toNat : Nat) : Int)) rfl (congrArg (Value.int .u8) (by rw [Nat.mul_comm, Nat.mod_eq_of_lt (by simp only [show (2 : Nat) ^ 4 = 16 from rfl]; omega)])) ?_
  repeat (first
    | (refine g_ops ?_; first | refine sO ?_ | refine s_n (fun _ => ?_) | refine s_app (fun _ _ => ?_) | refine s_b0 (fun _ => ?_) | ((fail_if_success refine g_lit rfl rfl rfl ?_); first | apply g_partM rfl rfl rfl | apply g_partMB rfl rfl rfl | fail))
    | refine gS ?_ | exact s_m | intro _)
  refine s_q (q := by exact qs_or8 (a := 2 ^ 4 * pa.toNat) (b := qa.toNat) rfl rfl (by simp only [show (2 : Nat) ^ 4 = 16 from rfl]; omega) (by omega)) ?_
  refine g_as 43 (v' := u8v (UInt8.ofNat (pa.toNat * 16 + qa.toNat))) rfl (congrArg (Value.int .u8) (by rw [or_hi 4 _ _ (by omega), UInt8.toNat_ofNat']; simp only [show (2 : Nat) ^ 4 = 16 from rfl]; omega)) ?_
  repeat (first
    | (refine g_ops ?_; first | refine sO ?_ | refine s_n (fun _ => ?_) | refine s_app (fun _ _ => ?_) | refine s_b0 (fun _ => ?_) | ((fail_if_success refine g_lit rfl rfl rfl ?_); first | apply g_partM rfl rfl rfl | apply g_partMB rfl rfl rfl | fail))
    | refine gS ?_ | exact s_m | intro _)
  exact s_r ()
structure UqX where
  rest : List UInt8
  out : List UInt8
  q : Option Addr
  c : Nat
set_option maxHeartbeats 4000000 in
theorem unquote1 {H : HP} (hT : Tb H) (l : List UInt8) (hl : l.length ≤ 1000000000) : Does1 Tryz.prog 68 [.string (txt l)] [Pile H] (.tuple #[.string (unqS l).1, .bool (unqS l).2]) := by
  have hz : (txt l).size = l.length := txt_size l
  refine fn_intro Tryz.func68 rfl Tryz.ntmps68 rfl (by simp only [argFr, Nat.zero_add, Nat.reduceAdd]; rfl) (fun Γ => ?_)
  repeat ((fail_if_success refine s_at 12 ?_); first
    | (refine g_ops ?_; first | refine sO ?_ | refine s_n (fun _ => ?_) | refine s_app (fun _ _ => ?_) | refine s_b0 (fun _ => ?_) | ((fail_if_success refine g_lit rfl rfl rfl ?_); first | apply g_partM rfl rfl rfl | apply g_partMB rfl rfl rfl | fail))
    | refine gS ?_ | exact s_m | intro _)
  first
    | (refine g_ops ?_; first | refine sO ?_ | refine s_n (fun _ => ?_) | refine s_app (fun _ _ => ?_) | refine s_b0 (fun _ => ?_) | ((fail_if_success refine g_lit rfl rfl rfl ?_); first | apply g_partM rfl rfl rfl | apply g_partMB rfl rfl rfl | fail))
    | refine gS ?_ | exact s_m | intro _
  by_cases k1 : l.length < 2
  · have e := unqS_short (.inl k1)
    refine g_as 12 (v' := .bool true) rfl (congrArg Value.bool (decide_eq_true (by rw [hz]; omega))) ?_
    repeat (first
      | (refine g_ops ?_; first | refine sO ?_ | refine s_n (fun _ => ?_) | refine s_app (fun _ _ => ?_) | refine s_b0 (fun _ => ?_) | ((fail_if_success refine g_lit rfl rfl rfl ?_); first | apply g_partM rfl rfl rfl | apply g_partMB rfl rfl rfl | fail))
      | refine gS ?_ | exact s_m | intro _)
    exact s_r () (hp := by rw [e]; rfl)
  refine g_as 12 (v' := .bool false) rfl (congrArg Value.bool (decide_eq_false (by rw [hz]; omega))) ?_
  repeat (first
    | (refine g_ops ?_; first | refine sO ?_ | refine s_n (fun _ => ?_) | refine s_app (fun _ _ => ?_) | refine s_b0 (fun _ => ?_) | ((fail_if_success refine g_lit rfl rfl rfl ?_); first | apply g_partM rfl rfl rfl | apply g_partMB rfl rfl rfl | fail))
    | refine gS ?_ | exact s_m | intro _)
  refine s_q (q := by exact qs_indexStr (i := 0) inferInstance rfl rfl (by rw [hz]; omega)) ?_
  refine g_as 14 (v' := u8v (l.getD 0 0)) rfl (by rw [at8_txt]) ?_
  repeat ((fail_if_success refine s_at 17 ?_); first
    | (refine g_ops ?_; first | refine sO ?_ | refine s_n (fun _ => ?_) | refine s_app (fun _ _ => ?_) | refine s_b0 (fun _ => ?_) | ((fail_if_success refine g_lit rfl rfl rfl ?_); first | apply g_partM rfl rfl rfl | apply g_partMB rfl rfl rfl | fail))
    | refine gS ?_ | exact s_m | intro _)
  first
    | (refine g_ops ?_; first | refine sO ?_ | refine s_n (fun _ => ?_) | refine s_app (fun _ _ => ?_) | refine s_b0 (fun _ => ?_) | ((fail_if_success refine g_lit rfl rfl rfl ?_); first | apply g_partM rfl rfl rfl | apply g_partMB rfl rfl rfl | fail))
    | refine gS ?_ | exact s_m | intro _
  by_cases k2 : (l.getD 0 0).toNat ≠ 34
  · have e := unqS_short (.inr (.inl k2))
    refine g_as 17 (v' := .bool true) rfl (congrArg Value.bool (decide_eq_true (by omega))) ?_
    repeat (first
      | (refine g_ops ?_; first | refine sO ?_ | refine s_n (fun _ => ?_) | refine s_app (fun _ _ => ?_) | refine s_b0 (fun _ => ?_) | ((fail_if_success refine g_lit rfl rfl rfl ?_); first | apply g_partM rfl rfl rfl | apply g_partMB rfl rfl rfl | fail))
      | refine gS ?_ | exact s_m | intro _)
    exact s_r () (hp := by rw [e]; rfl)
  refine g_as 17 (v' := .bool false) rfl (congrArg Value.bool (decide_eq_false (by omega))) ?_
  repeat (first
    | (refine g_ops ?_; first | refine sO ?_ | refine s_n (fun _ => ?_) | refine s_app (fun _ _ => ?_) | refine s_b0 (fun _ => ?_) | ((fail_if_success refine g_lit rfl rfl rfl ?_); first | apply g_partM rfl rfl rfl | apply g_partMB rfl rfl rfl | fail))
    | refine gS ?_ | exact s_m | intro _)
  refine g_as 21 (v' := int ((l.length - 1 : Nat) : Int)) rfl (congrArg (Value.int .i64) (by rw [hz]; omega)) ?_
  refine s_q (q := by exact qs_indexStr (i := l.length - 1) inferInstance rfl rfl (by rw [hz]; omega)) ?_
  refine g_as 22 (v' := u8v (l.getD (l.length - 1) 0)) rfl (by rw [at8_txt]) ?_
  repeat (first
    | (refine g_ops ?_; first | refine sO ?_ | refine s_n (fun _ => ?_) | refine s_app (fun _ _ => ?_) | refine s_b0 (fun _ => ?_) | ((fail_if_success refine g_lit rfl rfl rfl ?_); first | apply g_partM rfl rfl rfl | apply g_partMB rfl rfl rfl | fail))
    | refine gS ?_ | exact s_m | intro _)
  by_cases k3 : (l.getD (l.length - 1) 0).toNat ≠ 34
  · have e := unqS_short (.inr (.inr k3))
    refine g_as 24 (v' := .bool true) rfl (congrArg Value.bool (decide_eq_true (by omega))) ?_
    repeat (first
      | (refine g_ops ?_; first | refine sO ?_ | refine s_n (fun _ => ?_) | refine s_app (fun _ _ => ?_) | refine s_b0 (fun _ => ?_) | ((fail_if_success refine g_lit rfl rfl rfl ?_); first | apply g_partM rfl rfl rfl | apply g_partMB rfl rfl rfl | fail))
      | refine gS ?_ | exact s_m | intro _)
    exact s_r () (hp := by rw [e]; rfl)
  refine g_as 24 (v' := .bool false) rfl (congrArg Value.bool (decide_eq_false (by omega))) ?_
  repeat (first
    | (refine g_ops ?_; first | refine sO ?_ | refine s_n (fun _ => ?_) | refine s_app (fun _ _ => ?_) | refine s_b0 (fun _ => ?_) | ((fail_if_success refine g_lit rfl rfl rfl ?_); first | apply g_partM rfl rfl rfl | apply g_partMB rfl rfl rfl | fail))
    | refine gS ?_ | exact s_m | intro _)
  refine g_as 28 (v' := int ((l.length - 1 : Nat) : Int)) rfl (congrArg (Value.int .i64) (by rw [hz]; omega)) ?_
  refine s_q (q := by exact qs_sliceStr (l := 1) (h := l.length - 1) inferInstance rfl (.some rfl rfl) (.some rfl rfl) (by omega) (by rw [hz]; omega)) ?_
  refine g_as 29 (v' := .string (txt (inner_ l))) rfl (by rw [ext_txt, show l.length - 1 - 1 = l.length - 2 by omega]; rfl) ?_
  repeat (first
    | (refine g_ops ?_; first | refine sO ?_ | refine s_n (fun _ => ?_) | refine s_app (fun _ _ => ?_) | refine s_b0 (fun _ => ?_) | ((fail_if_success refine g_lit rfl rfl rfl ?_); first | apply g_partM rfl rfl rfl | apply g_partMB rfl rfl rfl | fail))
    | refine gS ?_ | exact s_m | intro _)
  refine g_own_nil none 1 5 ?_
  refine g_loop (X := UqX) (fun x => [(0, .string (txt l)), (4, .slice x.q x.out.length x.c), (5, .string (txt x.rest))]) (fun x => [bO x.q x.c x.out, Pile H]) (fun x => unqP [] (inner_ l) = unqP x.out x.rest ∧ x.rest.length + x.out.length ≤ l.length) (fun x => x.rest.length) ⟨inner_ l, [], none, 0⟩ ⟨rfl, by unfold inner_; simp; omega⟩ (by (repeat (first | exact FrSub.nil | refine FrSub.cons rfl ?_)); first | done | fail) (by (repeat (first | exact Take.nil | apply Take.cons | exact Sel.here | apply Sel.there)); first | done | fail) (fun x hx => ?_)
  obtain ⟨rest, out, q, c⟩ := x
  obtain ⟨he, hlen⟩ := hx
  dsimp only at he hlen ⊢
  have hrz : (txt rest).size = rest.length := txt_size rest
  repeat (first
    | (refine g_ops ?_; first | refine sO ?_ | refine s_n (fun _ => ?_) | refine s_app (fun _ _ => ?_) | refine s_b0 (fun _ => ?_) | ((fail_if_success refine g_lit rfl rfl rfl ?_); first | apply g_partM rfl rfl rfl | apply g_partMB rfl rfl rfl | fail))
    | refine gS ?_ | exact s_m | intro _)
  by_cases k4 : rest = []
  · subst k4
    rw [unqP_nil] at he
    refine g_as 31 (v' := .bool false) rfl (congrArg Value.bool (by simp)) ?_
    repeat (first
      | (refine g_ops ?_; first | refine sO ?_ | refine s_n (fun _ => ?_) | refine s_app (fun _ _ => ?_) | refine s_b0 (fun _ => ?_) | ((fail_if_success refine g_lit rfl rfl rfl ?_); first | apply g_partM rfl rfl rfl | apply g_partMB rfl rfl rfl | fail))
      | refine gS ?_ | exact s_m | intro _)
    refine g_v (vs_bytesStr inferInstance inferInstance inferInstance rfl (by (repeat (first | exact Sel.here | apply Sel.there)); first | done | fail)) rfl rfl ?_
    have hq := quote hT (txt out) (by rw [txt_size]; simp only [List.length_nil] at hlen; omega)
    repeat (first
      | (refine g_ops ?_; first | refine sO ?_ | refine s_n (fun _ => ?_) | refine s_app (fun _ _ => ?_) | refine s_b0 (fun _ => ?_) | ((fail_if_success refine g_lit rfl rfl rfl ?_); first | apply g_partM rfl rfl rfl | apply g_partMB rfl rfl rfl | fail) | refine s_k (hq) ?_)
      | refine gS ?_ | exact s_m | intro _)
    have e : unqS l = if quoteL (txt out) = l then (txt out, true) else (ByteArray.empty, false) := by unfold unqS; rw [he]
    by_cases k5 : quoteL (txt out) = l
    · rw [if_pos k5] at e
      refine g_as 63 (v' := .bool false) rfl (congrArg Value.bool (by simp [k5])) ?_
      repeat (first
        | (refine g_ops ?_; first | refine sO ?_ | refine s_n (fun _ => ?_) | refine s_app (fun _ _ => ?_) | refine s_b0 (fun _ => ?_) | ((fail_if_success refine g_lit rfl rfl rfl ?_); first | apply g_partM rfl rfl rfl | apply g_partMB rfl rfl rfl | fail))
        | refine gS ?_ | exact s_m | intro _)
      exact s_r () (hp := by rw [e]; rfl)
    · rw [if_neg k5] at e
      refine g_as 63 (v' := .bool true) rfl (congrArg Value.bool (by simp [k5])) ?_
      repeat (first
        | (refine g_ops ?_; first | refine sO ?_ | refine s_n (fun _ => ?_) | refine s_app (fun _ _ => ?_) | refine s_b0 (fun _ => ?_) | ((fail_if_success refine g_lit rfl rfl rfl ?_); first | apply g_partM rfl rfl rfl | apply g_partMB rfl rfl rfl | fail))
        | refine gS ?_ | exact s_m | intro _)
      exact s_r () (hp := by rw [e]; rfl)
  have h1 : 1 ≤ rest.length := by cases rest with | nil => exact absurd rfl k4 | cons => simp
  rw [unqP_eq out rest k4] at he
  refine g_as 31 (v' := .bool true) rfl (congrArg Value.bool (by simp [k4])) ?_
  repeat (first
    | (refine g_ops ?_; first | refine sO ?_ | refine s_n (fun _ => ?_) | refine s_app (fun _ _ => ?_) | refine s_b0 (fun _ => ?_) | ((fail_if_success refine g_lit rfl rfl rfl ?_); first | apply g_partM rfl rfl rfl | apply g_partMB rfl rfl rfl | fail))
    | refine gS ?_ | exact s_m | intro _)
  refine s_q (q := by exact qs_indexStr (i := 0) inferInstance rfl rfl (by rw [hrz]; omega)) ?_
  refine g_as 33 (v' := u8v (rest.getD 0 0)) rfl (by rw [at8_txt]) ?_
  repeat (first
    | (refine g_ops ?_; first | refine sO ?_ | refine s_n (fun _ => ?_) | refine s_app (fun _ _ => ?_) | refine s_b0 (fun _ => ?_) | ((fail_if_success refine g_lit rfl rfl rfl ?_); first | apply g_partM rfl rfl rfl | apply g_partMB rfl rfl rfl | fail))
    | refine gS ?_ | exact s_m | intro _)
  have hdr : ∀ k, k ≤ rest.length → (txt rest).extract k (txt rest).size = txt (rest.drop k) := fun k hk => by
    rw [ext_txt, hrz, List.take_of_length_le (by rw [List.length_drop]; omega)]
  by_cases k5 : (rest.getD 0 0).toNat ≠ 92
  · rw [if_pos k5] at he
    refine g_as 34 (v' := .bool true) rfl (congrArg Value.bool (decide_eq_true (by omega))) ?_
    repeat (first
      | (refine g_ops ?_; first | refine sO ?_ | refine s_n (fun _ => ?_) | refine s_app (fun _ _ => ?_) | refine s_b0 (fun _ => ?_) | ((fail_if_success refine g_lit rfl rfl rfl ?_); first | apply g_partM rfl rfl rfl | apply g_partMB rfl rfl rfl | fail))
      | refine gS ?_ | exact s_m | intro _)
    refine g_drawO (.take 0 (.take 1 (.take 2 (.take 5 (.take 6 (.one 3 (.one 4 (.take 7 (.take 8 .done))))))))) (by (repeat (first | exact Sel.here | apply Sel.there)); first | done | fail) (fun m hd hk => ?_)
    repeat (first
      | (refine gp_take ?_; first | refine pT ?_ | ((fail_if_success refine gp_lit rfl rfl rfl rfl ?_); first | apply gp_guard_dec rfl rfl rfl rfl | apply gp_guard rfl rfl rfl rfl | fail))
      | (refine gp_see ?_; first | refine p_f ?_ | refine pS ?_ | ((fail_if_success refine gp_lit rfl rfl rfl rfl ?_); first | apply gp_guard_dec rfl rfl rfl rfl | apply gp_guard rfl rfl rfl rfl | fail))
      | (refine gp_one ?_; first | refine pO ?_ | refine p_n (fun _ => ?_) | refine p_app (fun _ _ => ?_) | refine p_b0 (fun _ => ?_) | ((fail_if_success refine gp_lit rfl rfl rfl rfl ?_); first | apply gp_guard_dec rfl rfl rfl rfl | apply gp_guard rfl rfl rfl rfl | fail))
      | refine gp_two ?_ ?_ | refine gp_done hd hk ?_ | intro _ | refine p_ta hd hk (fun _ _ _ hd hk => ?_) | refine p_ts hd hk (fun _ hd hk => ?_))
    refine p_q (q := by intro Δ; exact qs_indexStr (i := 0) inferInstance rfl rfl (by rw [hrz]; omega)) ?_
    refine gp_as 37 (v' := u8v (rest.getD 0 0)) rfl (by rw [at8_txt]) ?_
    generalize rest.getD 0 0 = y0 at he ⊢
    repeat (first
      | (refine gp_take ?_; first | refine pT ?_ | ((fail_if_success refine gp_lit rfl rfl rfl rfl ?_); first | apply gp_guard_dec rfl rfl rfl rfl | apply gp_guard rfl rfl rfl rfl | fail))
      | (refine gp_see ?_; first | refine p_f ?_ | refine pS ?_ | ((fail_if_success refine gp_lit rfl rfl rfl rfl ?_); first | apply gp_guard_dec rfl rfl rfl rfl | apply gp_guard rfl rfl rfl rfl | fail))
      | (refine gp_one ?_; first | refine pO ?_ | refine p_n (fun _ => ?_) | refine p_app (fun _ _ => ?_) | refine p_b0 (fun _ => ?_) | ((fail_if_success refine gp_lit rfl rfl rfl rfl ?_); first | apply gp_guard_dec rfl rfl rfl rfl | apply gp_guard rfl rfl rfl rfl | fail))
      | refine gp_two ?_ ?_ | refine gp_done hd hk ?_ | intro _ | refine p_ta hd hk (fun _ _ _ hd hk => ?_) | refine p_ts hd hk (fun _ hd hk => ?_))
    refine p_q (q := by intro Δ; exact qs_sliceStr (l := 1) (h := (txt rest).size) inferInstance rfl (.some rfl rfl) .none (by rw [hrz]; omega) (Nat.le_refl _)) ?_
    refine gp_as 41 (v' := .string (txt (rest.drop 1))) rfl (by rw [hdr 1 h1]) ?_
    repeat (first
      | (refine gp_take ?_; first | refine pT ?_ | ((fail_if_success refine gp_lit rfl rfl rfl rfl ?_); first | apply gp_guard_dec rfl rfl rfl rfl | apply gp_guard rfl rfl rfl rfl | fail))
      | (refine gp_see ?_; first | refine p_f ?_ | refine pS ?_ | ((fail_if_success refine gp_lit rfl rfl rfl rfl ?_); first | apply gp_guard_dec rfl rfl rfl rfl | apply gp_guard rfl rfl rfl rfl | fail))
      | (refine gp_one ?_; first | refine pO ?_ | refine p_n (fun _ => ?_) | refine p_app (fun _ _ => ?_) | refine p_b0 (fun _ => ?_) | ((fail_if_success refine gp_lit rfl rfl rfl rfl ?_); first | apply gp_guard_dec rfl rfl rfl rfl | apply gp_guard rfl rfl rfl rfl | fail))
      | refine gp_two ?_ ?_ | refine gp_done hd hk ?_ | intro _ | refine p_ta hd hk (fun _ _ _ hd hk => ?_) | refine p_ts hd hk (fun _ hd hk => ?_))
    repeat (first
      | (refine g_ops ?_; first | refine sO ?_ | refine s_n (fun _ => ?_) | refine s_app (fun _ _ => ?_) | refine s_b0 (fun _ => ?_) | ((fail_if_success refine g_lit rfl rfl rfl ?_); first | apply g_partM rfl rfl rfl | apply g_partMB rfl rfl rfl | fail))
      | refine gS ?_ | exact s_m | intro _)
    rename_i q' c'
    rw [show cells8 out ++ [Value.int .u8 (y0.toNat : Int)] = cells8 (out ++ [y0]) from cells8_append out [y0], show out.length + 1 = (out ++ [y0]).length by simp]
    exact gA ⟨rest.drop 1, out ++ [y0], q', c'⟩ (by simp only [List.length_drop]; omega) ⟨he, by dsimp only; rw [List.length_drop, List.length_append, List.length_singleton]; omega⟩
  rw [if_neg k5] at he
  refine g_as 34 (v' := .bool false) rfl (congrArg Value.bool (decide_eq_false (by omega))) ?_
  repeat (first
    | (refine g_ops ?_; first | refine sO ?_ | refine s_n (fun _ => ?_) | refine s_app (fun _ _ => ?_) | refine s_b0 (fun _ => ?_) | ((fail_if_success refine g_lit rfl rfl rfl ?_); first | apply g_partM rfl rfl rfl | apply g_partMB rfl rfl rfl | fail))
    | refine gS ?_ | exact s_m | intro _)
  refine s_q (q := by exact qs_sliceStr (l := 1) (h := (txt rest).size) inferInstance rfl (.some rfl rfl) .none (by rw [hrz]; omega) (Nat.le_refl _)) ?_
  refine g_as 44 (v' := .string (txt (rest.drop 1))) rfl (by rw [hdr 1 h1]) ?_
  have hes := escaped1 (rest.drop 1) (by rw [List.length_drop]; omega)
  have hel := escP_le (rest.drop 1)
  rw [List.length_drop] at hel
  repeat (first
    | (refine g_ops ?_; first | refine sO ?_ | refine s_n (fun _ => ?_) | refine s_app (fun _ _ => ?_) | refine s_b0 (fun _ => ?_) | ((fail_if_success refine g_lit rfl rfl rfl ?_); first | apply g_partM rfl rfl rfl | apply g_partMB rfl rfl rfl | fail) | refine s_p (hes) ?_)
    | refine gS ?_ | exact s_m | intro _)
  generalize escP (rest.drop 1) = ec at he hel ⊢
  obtain ⟨ec, ek⟩ := ec
  dsimp only at he hel ⊢
  by_cases k6 : ek = 0
  · rw [if_pos k6] at he
    refine g_as 49 (v' := .bool true) rfl (congrArg Value.bool (decide_eq_true (by omega))) ?_
    have e : unqS l = (ByteArray.empty, false) := by unfold unqS; rw [he]
    repeat (first
      | (refine g_ops ?_; first | refine sO ?_ | refine s_n (fun _ => ?_) | refine s_app (fun _ _ => ?_) | refine s_b0 (fun _ => ?_) | ((fail_if_success refine g_lit rfl rfl rfl ?_); first | apply g_partM rfl rfl rfl | apply g_partMB rfl rfl rfl | fail))
      | refine gS ?_ | exact s_m | intro _)
    exact s_r () (hp := by rw [e]; rfl)
  rw [if_neg k6] at he
  refine g_as 49 (v' := .bool false) rfl (congrArg Value.bool (decide_eq_false (by omega))) ?_
  repeat (first
    | (refine g_ops ?_; first | refine sO ?_ | refine s_n (fun _ => ?_) | refine s_app (fun _ _ => ?_) | refine s_b0 (fun _ => ?_) | ((fail_if_success refine g_lit rfl rfl rfl ?_); first | apply g_partM rfl rfl rfl | apply g_partMB rfl rfl rfl | fail))
    | refine gS ?_ | exact s_m | intro _)
  refine g_drawO (.take 0 (.take 1 (.take 4 (.take 5 (.take 6 (.take 7 (.one 2 (.one 3 (.take 8 (.take 9 .done)))))))))) (by (repeat (first | exact Sel.here | apply Sel.there)); first | done | fail) (fun m hd hk => ?_)
  repeat (first
    | (refine gp_take ?_; first | refine pT ?_ | ((fail_if_success refine gp_lit rfl rfl rfl rfl ?_); first | apply gp_guard_dec rfl rfl rfl rfl | apply gp_guard rfl rfl rfl rfl | fail))
    | (refine gp_see ?_; first | refine p_f ?_ | refine pS ?_ | ((fail_if_success refine gp_lit rfl rfl rfl rfl ?_); first | apply gp_guard_dec rfl rfl rfl rfl | apply gp_guard rfl rfl rfl rfl | fail))
    | (refine gp_one ?_; first | refine pO ?_ | refine p_n (fun _ => ?_) | refine p_app (fun _ _ => ?_) | refine p_b0 (fun _ => ?_) | ((fail_if_success refine gp_lit rfl rfl rfl rfl ?_); first | apply gp_guard_dec rfl rfl rfl rfl | apply gp_guard rfl rfl rfl rfl | fail))
    | refine gp_two ?_ ?_ | refine gp_done hd hk ?_ | intro _ | refine p_ta hd hk (fun _ _ _ hd hk => ?_) | refine p_ts hd hk (fun _ hd hk => ?_))
  refine gp_as 56 (v' := int ((1 + ek : Nat) : Int)) rfl (congrArg (Value.int .i64) (by push_cast; rfl)) ?_
  refine p_q (q := by intro Δ; exact qs_sliceStr (l := 1 + ek) (h := (txt rest).size) inferInstance rfl (.some rfl rfl) .none (by rw [hrz]; omega) (Nat.le_refl _)) ?_
  refine gp_as 57 (v' := .string (txt (rest.drop (1 + ek)))) rfl (by rw [hdr (1 + ek) (by omega)]) ?_
  repeat (first
    | (refine gp_take ?_; first | refine pT ?_ | ((fail_if_success refine gp_lit rfl rfl rfl rfl ?_); first | apply gp_guard_dec rfl rfl rfl rfl | apply gp_guard rfl rfl rfl rfl | fail))
    | (refine gp_see ?_; first | refine p_f ?_ | refine pS ?_ | ((fail_if_success refine gp_lit rfl rfl rfl rfl ?_); first | apply gp_guard_dec rfl rfl rfl rfl | apply gp_guard rfl rfl rfl rfl | fail))
    | (refine gp_one ?_; first | refine pO ?_ | refine p_n (fun _ => ?_) | refine p_app (fun _ _ => ?_) | refine p_b0 (fun _ => ?_) | ((fail_if_success refine gp_lit rfl rfl rfl rfl ?_); first | apply gp_guard_dec rfl rfl rfl rfl | apply gp_guard rfl rfl rfl rfl | fail))
    | refine gp_two ?_ ?_ | refine gp_done hd hk ?_ | intro _ | refine p_ta hd hk (fun _ _ _ hd hk => ?_) | refine p_ts hd hk (fun _ hd hk => ?_))
  repeat (first
    | (refine g_ops ?_; first | refine sO ?_ | refine s_n (fun _ => ?_) | refine s_app (fun _ _ => ?_) | refine s_b0 (fun _ => ?_) | ((fail_if_success refine g_lit rfl rfl rfl ?_); first | apply g_partM rfl rfl rfl | apply g_partMB rfl rfl rfl | fail))
    | refine gS ?_ | exact s_m | intro _)
  rename_i q' c'
  rw [show cells8 out ++ [Value.int .u8 (ec.toNat : Int)] = cells8 (out ++ [ec]) from cells8_append out [ec], show out.length + 1 = (out ++ [ec]).length by simp]
  exact gA ⟨rest.drop (1 + ek), out ++ [ec], q', c'⟩ (by simp only [List.length_drop]; omega) ⟨he, by dsimp only; rw [List.length_drop, List.length_append, List.length_singleton]; omega⟩
end Go.Proofs.YtaahibcibgljbaaGreatDoor
namespace Go.Proofs.YtaahibcibgljbaaGreatDoor
open Go.Sl facts
attribute [local irreducible] Code.wp wpList Exit.then Exit.inBlock bodyPost Back MidQ G GP QStep VStep CStep SStep Does Post Reads
structure UdX where
  i : Nat
  out : List UInt8
  q : Option Addr
  c : Nat
theorem getD_drop (l : List UInt8) (i j : Nat) : (l.drop i).getD j 0 = l.getD (i + j) 0 := by
  rw [List.getD_eq_getElem?_getD, List.getD_eq_getElem?_getD, List.getElem?_drop]
end Go.Proofs.YtaahibcibgljbaaGreatDoor
