/- Contracts and laws that the proof stands on. -/
import Derived.Test.YtaahibcibgljbaaGreatDoorCallTold16
import Derived.Lib.AtoiAll
import Derived.Lib.AtoiAllCases
import Derived.Test.YtaahibcibgljbaaGreatDoorCallTold17
import Derived.Lib.SmallJoins
set_option linter.unusedSimpArgs false
set_option linter.unusedVariables false
namespace Go.Proofs.YtaahibcibgljbaaGreatDoor
open Go.Sl
structure RS where
  at_ : Nat
  n : Nat
  bad : Bool
def adv (σ : RS) (k : Nat) : RS := ⟨σ.at_ + k, σ.n, σ.bad⟩
def isT (L : List UInt8) (c : UInt8) (σ : RS) : Bool := !σ.bad && decide (σ.at_ < L.length ∧ L.getD σ.at_ 0 = c)
def wordT (L w : List UInt8) (σ : RS) : Bool := !σ.bad && decide ((L.drop σ.at_).take w.length = w)
def scB : List UInt8 → Nat → Bool → Option Nat
  | [], _, _ => none
  | c :: l, k, esc => if 0 < k ∧ c.toNat = 34 ∧ esc = false then some k else scB l (k + 1) (decide (0 < k ∧ c.toNat = 92 ∧ esc = false))
theorem scB_lt : ∀ (l : List UInt8) (k : Nat) (esc : Bool) (i : Nat), scB l k esc = some i → k ≤ i ∧ i < k + l.length
  | [], _, _, _, h => by cases h
  | c :: l, k, esc, i, h => by
    rw [scB] at h
    split at h
    · cases h; simp
    · have := scB_lt l _ _ i h
      rw [List.length_cons]; omega
def textT (L : List UInt8) (σ : RS) : ByteArray × RS := match scB (L.drop σ.at_) 0 false with
  | some i => ((unqS ((L.drop σ.at_).take (i + 1))).1, ⟨σ.at_ + (i + 1), σ.n, σ.bad || !(unqS ((L.drop σ.at_).take (i + 1))).2⟩)
  | none => (ByteArray.empty, ⟨σ.at_, σ.n, true⟩)
def numC (c : UInt8) : Bool := decide (c.toNat = 45 ∨ 48 ≤ c.toNat ∧ c.toNat ≤ 57)
def numLen : List UInt8 → Nat → Nat
  | [], _ => 0
  | _ :: _, 0 => 0
  | c :: l, f + 1 => if numC c = true then numLen l f + 1 else 0
theorem numLen_le : ∀ (l : List UInt8) (f : Nat), numLen l f ≤ l.length ∧ numLen l f ≤ f
  | [], f => by simp [numLen]
  | _ :: _, 0 => by simp [numLen]
  | c :: l, f + 1 => by
    have := numLen_le l f
    rw [numLen, List.length_cons]
    split <;> omega
def atoiV (l : List UInt8) : Int × Bool := match Lib.atoiAll l with
  | .ok v => (v, true)
  | .range => (Lib.atoiSat l, false)
  | _ => (0, false)
def numT (L : List UInt8) (σ : RS) : Int × RS :=
  ((atoiV ((L.drop σ.at_).take (numLen (L.drop σ.at_) 20))).1, ⟨σ.at_ + numLen (L.drop σ.at_) 20, σ.n, σ.bad || !(atoiV ((L.drop σ.at_).take (numLen (L.drop σ.at_) 20))).2⟩)
def nilV : V := .mk 1 false 0 ByteArray.empty [] []
def boolV (b : Bool) : V := .mk 2 b 0 ByteArray.empty [] []
def intV (n : Int) : V := .mk 3 false n ByteArray.empty [] []
def textV (s : ByteArray) : V := .mk 4 false 0 s [] []
def listV (l : List V) : V := .mk 5 false 0 ByteArray.empty [] l
def pairsV (ks : List ByteArray) (l : List V) : V := .mk 6 false 0 ByteArray.empty ks l
abbrev wNil : List UInt8 := [110, 105, 108]
abbrev wTrue : List UInt8 := [116, 114, 117, 101]
abbrev wFalse : List UInt8 := [102, 97, 108, 115, 101]
def beg (σ : RS) (dp : Nat) : RS := ⟨σ.at_, σ.n + 1, σ.bad || (decide (1000 < σ.n + 1) || decide (20 < dp))⟩
def col (L : List UInt8) (σ : RS) : RS := if isT L 58 σ = true then adv σ 1 else ⟨σ.at_, σ.n, true⟩
mutual
def valS (L : List UInt8) : Nat → Nat → RS → V × RS
  | 0, _, σ => (nilV, ⟨σ.at_, σ.n + 1, true⟩)
  | F + 1, dp, σ =>
    if (beg σ dp).bad = true then (nilV, beg σ dp) else if wordT L wNil (beg σ dp) = true then (nilV, adv (beg σ dp) 3) else if wordT L wTrue (beg σ dp) = true then (boolV true, adv (beg σ dp) 4)
    else if wordT L wFalse (beg σ dp) = true then (boolV false, adv (beg σ dp) 5)
    else if isT L 91 (beg σ dp) = true then (listV (lsS L F dp true [] (adv (beg σ dp) 1)).1, (lsS L F dp true [] (adv (beg σ dp) 1)).2)
    else if isT L 123 (beg σ dp) = true then (pairsV (prS L F dp true [] [] (adv (beg σ dp) 1)).1 (prS L F dp true [] [] (adv (beg σ dp) 1)).2.1, (prS L F dp true [] [] (adv (beg σ dp) 1)).2.2)
    else if (L.drop (beg σ dp).at_).take 1 = [34] then (textV (textT L (beg σ dp)).1, (textT L (beg σ dp)).2)
    else (intV (numT L (beg σ dp)).1, (numT L (beg σ dp)).2)
def lsS (L : List UInt8) : Nat → Nat → Bool → List V → RS → List V × RS
  | 0, _, _, acc, σ => (acc, ⟨σ.at_, σ.n, true⟩)
  | F + 1, dp, first, acc, σ =>
    if σ.bad = true then (acc, σ) else if isT L 93 σ = true then (acc, adv σ 1)
    else if first = false ∧ isT L 44 σ = false then (acc, ⟨σ.at_, σ.n, true⟩)
    else lsS L F dp false (acc ++ [(valS L F (dp + 1) (adv σ (if first = true then 0 else 1))).1]) (valS L F (dp + 1) (adv σ (if first = true then 0 else 1))).2
def prS (L : List UInt8) : Nat → Nat → Bool → List ByteArray → List V → RS → List ByteArray × List V × RS
  | 0, _, _, ks, acc, σ => (ks, acc, ⟨σ.at_, σ.n, true⟩)
  | F + 1, dp, first, ks, acc, σ =>
    if σ.bad = true then (ks, acc, σ) else if isT L 125 σ = true then (ks, acc, adv σ 1)
    else if first = false ∧ isT L 44 σ = false then (ks, acc, ⟨σ.at_, σ.n, true⟩)
    else prS L F dp false (ks ++ [(textT L (adv σ (if first = true then 0 else 1))).1]) (acc ++ [(valS L F (dp + 1) (col L (textT L (adv σ (if first = true then 0 else 1))).2)).1]) (valS L F (dp + 1) (col L (textT L (adv σ (if first = true then 0 else 1))).2)).2
end
theorem isT_at {L : List UInt8} {c : UInt8} {σ : RS} (h : isT L c σ = true) : σ.bad = false ∧ σ.at_ < L.length ∧ L.getD σ.at_ 0 = c := by
  unfold isT at h
  simp only [Bool.and_eq_true, Bool.not_eq_true', decide_eq_true_eq] at h
  exact h
theorem wordT_at {L w : List UInt8} {σ : RS} (h : wordT L w σ = true) (hw : 0 < w.length) : σ.bad = false ∧ σ.at_ + w.length ≤ L.length ∧ (L.drop σ.at_).take w.length = w := by
  unfold wordT at h
  simp only [Bool.and_eq_true, Bool.not_eq_true', decide_eq_true_eq] at h
  refine ⟨h.1, ?_, h.2⟩
  have := congrArg List.length h.2
  rw [List.length_take, List.length_drop] at this
  omega
theorem textT_at (L : List UInt8) (σ : RS) (h : σ.at_ ≤ L.length) : (textT L σ).2.at_ ≤ L.length ∧ (textT L σ).2.n = σ.n ∧ (σ.bad = true → (textT L σ).2.bad = true) ∧ (textT L σ).1.size ≤ L.length := by
  unfold textT
  split
  · rename_i i hi
    have h1 := scB_lt _ _ _ _ hi
    rw [List.length_drop] at h1
    have h2 := unqS_size ((L.drop σ.at_).take (i + 1))
    rw [List.length_take, List.length_drop] at h2
    exact ⟨by dsimp only; omega, rfl, fun h => by dsimp only; rw [h]; rfl, by dsimp only; omega⟩
  · exact ⟨h, rfl, fun _ => rfl, Nat.zero_le _⟩
theorem numT_at (L : List UInt8) (σ : RS) (h : σ.at_ ≤ L.length) : (numT L σ).2.at_ ≤ L.length ∧ (numT L σ).2.n = σ.n ∧ (σ.bad = true → (numT L σ).2.bad = true) := by
  have := (numLen_le (L.drop σ.at_) 20).1
  rw [List.length_drop] at this
  unfold numT
  exact ⟨by dsimp only; omega, rfl, fun h => by dsimp only; rw [h]; rfl⟩
theorem atoiV_in (l : List UInt8) : inI (atoiV l).1 := by
  unfold atoiV
  split
  · rename_i v h
    exact Lib.atoiAll_bounds h
  · exact Lib.atoiSat_bounds l
  · exact ⟨by decide, by decide⟩
theorem col_at (L : List UInt8) (σ : RS) (h : σ.at_ ≤ L.length) : (col L σ).at_ ≤ L.length ∧ (col L σ).n = σ.n ∧ ((col L σ).bad = false → σ.bad = false) := by
  unfold col
  split
  · rename_i h1
    have := isT_at h1
    exact ⟨by show σ.at_ + 1 ≤ _; omega, rfl, fun _ => this.1⟩
  · exact ⟨h, rfl, fun h => by cases h⟩
structure Fine (L : List UInt8) (σ σ' : RS) : Prop where
  at_ : σ'.at_ ≤ L.length
  n : σ.n ≤ σ'.n
  m : σ'.n ≤ 1001
  ok : σ'.bad = false → σ'.n ≤ 1000
def GoodT (v : V) : Prop := SmV v ∧ VOk v
theorem flatG {k : Int} {y : Bool} {n : Int} {s : ByteArray} (h6 : k ≠ 6) (hn : inI n) : GoodT (.mk k y n s [] []) :=
  ⟨.mk (fun h => absurd h h6) (fun _ => rfl) (fun _ => rfl) (fun _ h => by cases h), .mk hn fun _ h => by cases h⟩
theorem in0 : inI 0 := ⟨by decide, by decide⟩
abbrev Kz (L : List UInt8) : Nat := 2 * L.length + 2
theorem szK_append : ∀ (a b : List V), szK (a ++ b) = szK a + szK b
  | [], b => by rw [List.nil_append, szK_nil, Nat.zero_add]
  | x :: a, b => by rw [List.cons_append, szK_cons, szK_cons, szK_append a b, Nat.add_assoc]
theorem szS_append : ∀ (a b : List ByteArray), szS (a ++ b) = szS a + szS b
  | [], b => by rw [List.nil_append, szS_nil, Nat.zero_add]
  | x :: a, b => by rw [List.cons_append, szS_cons, szS_cons, szS_append a b, Nat.add_assoc]
theorem mul_sub (K a b c : Nat) (h1 : a ≤ b) (h2 : b ≤ c) : (b - a) * K + (c - b) * K = (c - a) * K := by
  rw [← Nat.add_mul]; congr 1; omega
theorem one_le_mul (K a b : Nat) (h : a < b) : K ≤ (b - a) * K := Nat.le_mul_of_pos_left K (by omega)
theorem beg_ok {σ : RS} {dp : Nat} (h : ¬ (beg σ dp).bad = true) : σ.bad = false ∧ σ.n + 1 ≤ 1000 ∧ dp ≤ 20 := by
  unfold beg at h
  simp only [Bool.not_eq_true, Bool.or_eq_false_iff, decide_eq_false_iff_not] at h
  exact ⟨h.1, by omega, by omega⟩
theorem fine_ (L : List UInt8) : ∀ F,
    (∀ dp σ, σ.at_ ≤ L.length → σ.n ≤ 1000 → Fine L σ (valS L F dp σ).2 ∧ σ.n < (valS L F dp σ).2.n ∧ GoodT (valS L F dp σ).1 ∧ szV (valS L F dp σ).1 + L.length ≤ ((valS L F dp σ).2.n - σ.n) * Kz L) ∧
    (∀ dp first acc σ, σ.at_ ≤ L.length → σ.n ≤ 1001 → (σ.bad = false → σ.n ≤ 1000) → (∀ x ∈ acc, GoodT x) → Fine L σ (lsS L F dp first acc σ).2 ∧ (∀ x ∈ (lsS L F dp first acc σ).1, GoodT x) ∧ szK (lsS L F dp first acc σ).1 ≤ szK acc + ((lsS L F dp first acc σ).2.n - σ.n) * Kz L) ∧
    (∀ dp first ks acc σ, σ.at_ ≤ L.length → σ.n ≤ 1001 → (σ.bad = false → σ.n ≤ 1000) → (∀ x ∈ acc, GoodT x) → ks.length = acc.length → Fine L σ (prS L F dp first ks acc σ).2.2 ∧ (∀ x ∈ (prS L F dp first ks acc σ).2.1, GoodT x) ∧ (prS L F dp first ks acc σ).1.length = (prS L F dp first ks acc σ).2.1.length ∧
      szS (prS L F dp first ks acc σ).1 + szK (prS L F dp first ks acc σ).2.1 ≤ szS ks + szK acc + ((prS L F dp first ks acc σ).2.2.n - σ.n) * Kz L)
  | 0 => ⟨fun dp σ h hn => by
      rw [valS]
      exact ⟨⟨h, by dsimp only; omega, by dsimp only; omega, fun h => by cases h⟩, by dsimp only; omega, flatG (by decide) in0, by
        dsimp only
        unfold nilV
        rw [szV_mk, szS_nil, szK_nil]
        have := one_le_mul (Kz L) σ.n (σ.n + 1) (by omega)
        show 1 + 0 + 0 + 0 + L.length ≤ _
        unfold Kz at this ⊢
        omega⟩,
    fun dp first acc σ h hn hb ha => by
      rw [lsS]
      exact ⟨⟨h, Nat.le_refl _, hn, fun h => by cases h⟩, ha, by dsimp only; omega⟩,
    fun dp first ks acc σ h hn hb ha hl => by
      rw [prS]
      exact ⟨⟨h, Nat.le_refl _, hn, fun h => by cases h⟩, ha, hl, by dsimp only; omega⟩⟩
  | F + 1 => by
    obtain ⟨iv, il, ip⟩ := fine_ L F
    refine ⟨fun dp σ h hn => ?_, fun dp first acc σ h hn hb ha => ?_, fun dp first ks acc σ h hn hb ha hl => ?_⟩
    · have h1 := one_le_mul (Kz L) σ.n (σ.n + 1) (by omega)
      have hflat : ∀ (v : V) (σ' : RS), szV v ≤ L.length + 1 → GoodT v → σ'.at_ ≤ L.length → σ'.n = σ.n + 1 → (σ'.bad = false → σ'.n ≤ 1000) → Fine L σ σ' ∧ σ.n < σ'.n ∧ GoodT v ∧ szV v + L.length ≤ (σ'.n - σ.n) * Kz L := fun v σ' hz hg ha hn' ho =>
        ⟨⟨ha, by omega, by omega, ho⟩, by omega, hg, by rw [hn']; unfold Kz at h1 ⊢; omega⟩
      have z1 : szV nilV ≤ L.length + 1 := by unfold nilV; rw [szV_mk, szS_nil, szK_nil]; show 1 + 0 + 0 + 0 ≤ _; omega
      have z2 : ∀ b, szV (boolV b) ≤ L.length + 1 := fun b => by unfold boolV; rw [szV_mk, szS_nil, szK_nil]; show 1 + 0 + 0 + 0 ≤ _; omega
      have z3 : ∀ n, szV (intV n) ≤ L.length + 1 := fun b => by unfold intV; rw [szV_mk, szS_nil, szK_nil]; show 1 + 0 + 0 + 0 ≤ _; omega
      rw [valS]
      split
      · exact hflat _ _ z1 (flatG (by decide) in0) h rfl (fun hb => by rename_i hb'; rw [hb'] at hb; cases hb)
      rename_i hb0
      obtain ⟨b1, b2, b3⟩ := beg_ok hb0
      split
      · rename_i hw
        exact hflat _ _ z1 (flatG (by decide) in0) (wordT_at hw (by decide)).2.1 rfl (fun _ => b2)
      split
      · rename_i hw
        exact hflat _ _ (z2 _) (flatG (by decide) in0) (wordT_at hw (by decide)).2.1 rfl (fun _ => b2)
      split
      · rename_i hw
        exact hflat _ _ (z2 _) (flatG (by decide) in0) (wordT_at hw (by decide)).2.1 rfl (fun _ => b2)
      split
      · rename_i hi
        have hi := isT_at hi
        obtain ⟨f1, f2, f3⟩ := il dp true [] (adv (beg σ dp) 1) (by show σ.at_ + 1 ≤ _; exact hi.2.1) (by show σ.n + 1 ≤ _; omega) (fun _ => b2) (fun _ h => by cases h)
        generalize lsS L F dp true [] (adv (beg σ dp) 1) = r at f1 f2 f3 ⊢
        obtain ⟨r1, r2⟩ := r
        dsimp only at f1 f2 f3 ⊢
        have hn2 : σ.n + 1 ≤ r2.n := f1.n
        refine ⟨⟨f1.at_, by omega, f1.m, f1.ok⟩, by omega, ⟨.mk (fun h => by cases h) (fun _ => rfl) (fun h => absurd h (by decide)) fun x hx => (f2 x hx).1, .mk in0 fun x hx => (f2 x hx).2⟩, ?_⟩
        unfold listV
        rw [szV_mk, szS_nil]
        have h2 := mul_sub (Kz L) σ.n (σ.n + 1) r2.n (by omega) hn2
        have h3 : szK r1 ≤ szK [] + (r2.n - (σ.n + 1)) * Kz L := f3
        rw [szK_nil] at h3
        show 1 + 0 + 0 + szK r1 + L.length ≤ _
        unfold Kz at h1 h2 h3 ⊢
        omega
      split
      · rename_i hi
        have hi := isT_at hi
        obtain ⟨f1, f2, f4, f3⟩ := ip dp true [] [] (adv (beg σ dp) 1) (by show σ.at_ + 1 ≤ _; exact hi.2.1) (by show σ.n + 1 ≤ _; omega) (fun _ => b2) (fun _ h => by cases h) rfl
        generalize prS L F dp true [] [] (adv (beg σ dp) 1) = r at f1 f2 f3 f4 ⊢
        obtain ⟨r0, r1, r2⟩ := r
        dsimp only at f1 f2 f3 f4 ⊢
        have hn2 : σ.n + 1 ≤ r2.n := f1.n
        refine ⟨⟨f1.at_, by omega, f1.m, f1.ok⟩, by omega, ⟨.mk (fun _ => f4) (fun h => absurd rfl h) (fun h => absurd h (by decide)) fun x hx => (f2 x hx).1, .mk in0 fun x hx => (f2 x hx).2⟩, ?_⟩
        unfold pairsV
        rw [szV_mk]
        have h2 := mul_sub (Kz L) σ.n (σ.n + 1) r2.n (by omega) hn2
        have h3 : szS r0 + szK r1 ≤ szS [] + szK [] + (r2.n - (σ.n + 1)) * Kz L := f3
        rw [szS_nil, szK_nil] at h3
        show 1 + 0 + szS r0 + szK r1 + L.length ≤ _
        unfold Kz at h1 h2 h3 ⊢
        omega
      split
      · obtain ⟨t1, t2, t3, t4⟩ := textT_at L (beg σ dp) h
        refine hflat _ _ ?_ (flatG (by decide) in0) t1 t2 (fun _ => by rw [t2]; exact b2)
        unfold textV
        rw [szV_mk, szS_nil, szK_nil]
        omega
      · obtain ⟨t1, t2, t3⟩ := numT_at L (beg σ dp) h
        exact hflat _ _ (z3 _) (flatG (by decide) (atoiV_in _)) t1 t2 (fun _ => by rw [t2]; exact b2)
    · rw [lsS]
      split
      · exact ⟨⟨h, Nat.le_refl _, hn, hb⟩, ha, Nat.le_add_right _ _⟩
      rename_i hb'
      have hb2 := hb (by simpa using hb')
      split
      · rename_i hi
        have hi := isT_at hi
        exact ⟨⟨by show σ.at_ + 1 ≤ _; omega, Nat.le_refl _, hn, hb⟩, ha, Nat.le_add_right _ _⟩
      split
      · exact ⟨⟨h, Nat.le_refl _, hn, fun h => by cases h⟩, ha, Nat.le_add_right _ _⟩
      rename_i hc
      have hat : (adv σ (if first = true then 0 else 1)).at_ ≤ L.length := by
        show σ.at_ + (if first = true then 0 else 1) ≤ _
        split
        · omega
        · rename_i hf
          have : isT L 44 σ = true := by
            cases hi : isT L 44 σ with
            | true => rfl
            | false => exact absurd ⟨by simpa using hf, hi⟩ hc
          have := isT_at this
          omega
      obtain ⟨v1, v2, v3, v4⟩ := iv (dp + 1) (adv σ (if first = true then 0 else 1)) hat hb2
      generalize valS L F (dp + 1) (adv σ (if first = true then 0 else 1)) = r at v1 v2 v3 v4 ⊢
      obtain ⟨r1, r2⟩ := r
      dsimp only at v1 v2 v3 v4 ⊢
      obtain ⟨f1, f2, f3⟩ := il dp false (acc ++ [r1]) r2 v1.at_ v1.m v1.ok (fun x hx => by
        rcases List.mem_append.1 hx with hx | hx
        · exact ha x hx
        · rw [List.mem_singleton] at hx; rw [hx]; exact v3)
      have hn3 : σ.n ≤ r2.n := v1.n
      refine ⟨⟨f1.at_, Nat.le_trans hn3 f1.n, f1.m, f1.ok⟩, f2, ?_⟩
      rw [szK_append, szK_cons, szK_nil] at f3
      have h2 := mul_sub (Kz L) σ.n r2.n _ hn3 f1.n
      have h4 : szV r1 + L.length ≤ (r2.n - σ.n) * Kz L := v4
      omega
    · rw [prS]
      split
      · exact ⟨⟨h, Nat.le_refl _, hn, hb⟩, ha, hl, Nat.le_add_right _ _⟩
      rename_i hb'
      have hb2 := hb (by simpa using hb')
      split
      · rename_i hi
        have hi := isT_at hi
        exact ⟨⟨by show σ.at_ + 1 ≤ _; omega, Nat.le_refl _, hn, hb⟩, ha, hl, Nat.le_add_right _ _⟩
      split
      · exact ⟨⟨h, Nat.le_refl _, hn, fun h => by cases h⟩, ha, hl, Nat.le_add_right _ _⟩
      rename_i hc
      have hat : (adv σ (if first = true then 0 else 1)).at_ ≤ L.length := by
        show σ.at_ + (if first = true then 0 else 1) ≤ _
        split
        · omega
        · rename_i hf
          have : isT L 44 σ = true := by
            cases hi : isT L 44 σ with
            | true => rfl
            | false => exact absurd ⟨by simpa using hf, hi⟩ hc
          have := isT_at this
          omega
      obtain ⟨t1, t2, t3, t4⟩ := textT_at L (adv σ (if first = true then 0 else 1)) hat
      generalize textT L (adv σ (if first = true then 0 else 1)) = tt at t1 t2 t3 t4 ⊢
      obtain ⟨tt, τ⟩ := tt
      dsimp only at t1 t2 t3 t4 ⊢
      obtain ⟨c1, c2, c3⟩ := col_at L τ t1
      have cn : (col L τ).n = σ.n := c2.trans t2
      obtain ⟨v1, v2, v3, v4⟩ := iv (dp + 1) (col L τ) c1 (by rw [cn]; exact hb2)
      rw [cn] at v2 v4
      generalize valS L F (dp + 1) (col L τ) = r at v1 v2 v3 v4 ⊢
      obtain ⟨r1, r2⟩ := r
      dsimp only at v1 v2 v3 v4 ⊢
      obtain ⟨f1, f2, f5, f3⟩ := ip dp false (ks ++ [tt]) (acc ++ [r1]) r2 v1.at_ v1.m v1.ok (fun x hx => by
        rcases List.mem_append.1 hx with hx | hx
        · exact ha x hx
        · rw [List.mem_singleton] at hx; rw [hx]; exact v3) (by simp [hl])
      have hn3 : σ.n ≤ r2.n := by omega
      refine ⟨⟨f1.at_, Nat.le_trans hn3 f1.n, f1.m, f1.ok⟩, f2, f5, ?_⟩
      rw [szK_append, szK_cons, szK_nil, szS_append, szS_cons, szS_nil] at f3
      have h2 := mul_sub (Kz L) σ.n r2.n _ hn3 f1.n
      omega
end Go.Proofs.YtaahibcibgljbaaGreatDoor
namespace Go.Sl
open Go.RowKit
theorem does_of_belowX {P : Program} {f : FuncId} {args : List Value} {X : Type} {ret : X → Value} {φ : X → Prop} {H : HP} (h : ∀ w, (∀ b o, H b = some o → w.heap[b]? = some o) → Calls P f args.toArray w fun e w' => ∃ x, φ x ∧ e = .returned (ret x) ∧ Go.RowKit.Below w.heap.size w w') : Does P f args [Pile H] ret (fun _ => [Pile H]) φ := fun Γ w hh => by
  have hH : ∀ b o, H b = some o → w.heap[b]? = some o := by
    obtain ⟨h, _, s, h1, _, _, s1, _, hc, _⟩ := hh.own
    have hc' : h1 = H := hc
    subst hc'
    exact fun b o hb => s _ _ (s1 _ _ hb)
  refine (h w hH).mono ?_
  rintro e w' ⟨x, hx, rfl, hB⟩
  exact ⟨x, hx, rfl, hh.later hB.os hB.tape hB.output hB.size (fun c hc => hB.block c hc)⟩
end Go.Sl
namespace Go.Proofs.YtaahibcibgljbaaGreatDoor
open Go.Sl facts Go.RowKit
def VarH (H : HP) (g : Nat) : Prop := ∃ xs e fz ev, H g = some (.cells xs e fz) ∧ xs[0]? = some ev ∧ (ev = .nilIface ∨ ∃ te pe, ev = .iface te pe)
def ErrH (H : HP) : Prop := VarH H 1 ∧ VarH H 2
theorem VarH.cell {H : HP} {g : Nat} (h : VarH H g) {w : World} (hw : ∀ b o, H b = some o → w.heap[b]? = some o) : ∃ ev, w.cell? ⟨g, 0, none⟩ = some ev ∧ (ev = .nilIface ∨ ∃ te pe, ev = .iface te pe) := by
  obtain ⟨xs, e, fz, ev, h1, h2, h3⟩ := h
  refine ⟨ev, ?_, h3⟩
  simp [World.cell?, hw _ _ h1, h2]
def AtH (H : HP) : Prop := ∀ l : List UInt8, l.length ≤ 1000000000 → Does Tryz.prog 54 [.string (txt l)] [Pile H] (X := Value) (fun ev => .tuple #[.int .i64 (atoiV l).1, ev]) (fun _ => [Pile H]) (fun ev => ((atoiV l).2 = true → ev = .nilIface) ∧ ((atoiV l).2 = false → ∃ t v, ev = .iface t v))
theorem txt_list (l : List UInt8) : (txt l).data.toList = l := by simp [txt]
theorem at_of {H : HP} (h : ErrH H) : AtH H := fun l hl => does_of_belowX fun w hw => by
  obtain ⟨e1, v1, k1⟩ := h.1.cell hw
  obtain ⟨e2, v2, k2⟩ := h.2.cell hw
  have hz : (txt l).size = l.length := txt_size l
  cases ha : Lib.atoiAll l with
  | ok v =>
    refine (Any.strconv_Atoi_ok Tryz.laysCNm172 (txt l) (by rw [hz]; omega) v (by rw [txt_list]; exact ha) w).mono ?_
    rintro e w' ⟨rfl, hW⟩
    have hv : atoiV l = (v, true) := by unfold atoiV; rw [ha]
    refine ⟨.nilIface, ⟨fun _ => rfl, fun h => (by rw [hv] at h; cases h)⟩, by rw [hv], ?_⟩
    rcases hW with rfl | ⟨t, rfl⟩
    · exact Below.refl _ _
    · exact Lib.bytesWorld_below _ _ _
  | range =>
    refine (Any.strconv_Atoi_range Tryz.laysCNm172 (txt l) (by rw [hz]; omega) (by rw [txt_list]; exact ha) e2 w v2 k2).mono ?_
    rintro e w' ⟨N, rfl, _, _, hB⟩
    have hv : atoiV l = (Lib.atoiSat l, false) := by unfold atoiV; rw [ha]
    exact ⟨_, ⟨fun h => (by rw [hv] at h; cases h), fun _ => ⟨_, _, rfl⟩⟩, by rw [hv, txt_list], hB⟩
  | _ =>
    refine (Any.strconv_Atoi_syntax Tryz.laysCNm172 (txt l) (by rw [hz]; omega) (by rw [txt_list]; exact ha) e1 w v1 k1).mono ?_
    rintro e w' ⟨N, rfl, _, _, hB⟩
    have hv : atoiV l = (0, false) := by unfold atoiV; rw [ha]
    exact ⟨_, ⟨fun h => (by rw [hv] at h; cases h), fun _ => ⟨_, _, rfl⟩⟩, by rw [hv], hB⟩
theorem VarH.grow {H H' : HP} {g : Nat} (h : VarH H g) (s : HP.sub H H') : VarH H' g := by
  obtain ⟨xs, e, fz, ev, h1, h2, h3⟩ := h
  exact ⟨xs, e, fz, ev, s _ _ h1, h2, h3⟩
theorem ErrH.grow {H H' : HP} (h : ErrH H) (s : HP.sub H H') : ErrH H' := ⟨h.1.grow s, h.2.grow s⟩
end Go.Proofs.YtaahibcibgljbaaGreatDoor
namespace Go.Proofs.YtaahibcibgljbaaGreatDoor
open Go.Sl facts
attribute [local irreducible] Code.wp wpList Exit.then Exit.inBlock bodyPost Back MidQ G GP QStep VStep CStep SStep Does Post Reads
abbrev rdC (b : Nat) (L : List UInt8) (σ : RS) : Chunk := .row b [.string (txt L), int σ.at_, int σ.n, .bool σ.bad] 78
theorem is_ (b : Nat) (L : List UInt8) (hL : L.length ≤ 1000000000) (c : UInt8) (σ : RS) : Does Tryz.prog 42 [ptr b, u8v c] [rdC b L σ] (X := Unit) (fun _ => .bool (isT L c σ)) (fun _ => [rdC b L (if isT L c σ = true then adv σ 1 else σ)]) (fun _ => True) := by
  have hz : (txt L).size = L.length := txt_size L
  obtain ⟨i, n, bad⟩ := σ
  dsimp only [rdC]
  refine fn_intro Tryz.func42 rfl Tryz.ntmps42 rfl (by simp only [argFr, Nat.zero_add, Nat.reduceAdd]; rfl) (fun Γ => ?_)
  repeat (first
    | (refine g_ops ?_; first | refine sO ?_ | refine s_n (fun _ => ?_) | refine s_app (fun _ _ => ?_) | refine s_b0 (fun _ => ?_) | ((fail_if_success refine g_lit rfl rfl rfl ?_); first | apply g_partM rfl rfl rfl | apply g_partMB rfl rfl rfl | fail))
    | refine gS ?_ | exact s_m | intro _)
  refine g_cutX (X := Unit) (fun _ => [(0, ptr b), (1, u8v c), (5, .bool (isT L c ⟨i, n, bad⟩))]) (fun _ => [.row b [.string (txt L), int i, int n, .bool bad] 78]) (fun _ => True) ?_ (fun _ _ => ?_)
  · refine g_draw (.take 0 (.take 1 (.take 2 (.see 3 [] (.take 4 (.take 5 (.take 6 (.take 7 (.take 8 (.see 9 [] (.take 10 (.take 11 (.take 12 (.see 13 [] (.take 14 (.take 15 (.take 16 (.take 17 (.take 18 (.take 19 (.take 20 (.see 21 [] (.take 22 (.take 23 (.take 24 (.see 25 [] (.take 26 (.take 27 (.take 28 (.take 29 (.take 30 .done))))))))))))))))))))))))))))))) (by kernel_rfl) (C := [.row b [.string (txt L), int i, int n, .bool bad] 78]) (by (repeat (first | exact Take.nil | apply Take.cons | exact Sel.here | apply Sel.there)); first | done | fail) (fun m hd hk => ?_)
    cases bad
    · repeat (first
        | (refine gp_take ?_; first | refine pT ?_ | ((fail_if_success refine gp_lit rfl rfl rfl rfl ?_); first | apply gp_guard_dec rfl rfl rfl rfl | apply gp_guard rfl rfl rfl rfl | fail))
        | (refine gp_see ?_; first | refine p_f ?_ | refine pS ?_ | ((fail_if_success refine gp_lit rfl rfl rfl rfl ?_); first | apply gp_guard_dec rfl rfl rfl rfl | apply gp_guard rfl rfl rfl rfl | fail))
        | (refine gp_one ?_; first | refine pO ?_ | refine p_n (fun _ => ?_) | refine p_app (fun _ _ => ?_) | refine p_b0 (fun _ => ?_) | ((fail_if_success refine gp_lit rfl rfl rfl rfl ?_); first | apply gp_guard_dec rfl rfl rfl rfl | apply gp_guard rfl rfl rfl rfl | fail))
        | refine gp_two ?_ ?_ | refine gp_done hd hk ?_ | intro _ | refine p_ta hd hk (fun _ _ _ hd hk => ?_) | refine p_ts hd hk (fun _ hd hk => ?_))
      by_cases h1 : i < L.length
      · refine gp_as 23 (v' := .bool true) rfl (congrArg Value.bool (decide_eq_true (by rw [hz]; omega))) ?_
        repeat (first
          | (refine gp_take ?_; first | refine pT ?_ | ((fail_if_success refine gp_lit rfl rfl rfl rfl ?_); first | apply gp_guard_dec rfl rfl rfl rfl | apply gp_guard rfl rfl rfl rfl | fail))
          | (refine gp_see ?_; first | refine p_f ?_ | refine pS ?_ | ((fail_if_success refine gp_lit rfl rfl rfl rfl ?_); first | apply gp_guard_dec rfl rfl rfl rfl | apply gp_guard rfl rfl rfl rfl | fail))
          | (refine gp_one ?_; first | refine pO ?_ | refine p_n (fun _ => ?_) | refine p_app (fun _ _ => ?_) | refine p_b0 (fun _ => ?_) | ((fail_if_success refine gp_lit rfl rfl rfl rfl ?_); first | apply gp_guard_dec rfl rfl rfl rfl | apply gp_guard rfl rfl rfl rfl | fail))
          | refine gp_two ?_ ?_ | refine gp_done hd hk ?_ | intro _ | refine p_ta hd hk (fun _ _ _ hd hk => ?_) | refine p_ts hd hk (fun _ hd hk => ?_))
        refine p_q (q := by intro Δ; exact qs_indexStr (i := i) inferInstance rfl rfl (by rw [hz]; omega)) ?_
        refine gp_as 32 (v' := u8v (L.getD i 0)) rfl (by rw [at8_txt]) ?_
        repeat (first
          | (refine gp_take ?_; first | refine pT ?_ | ((fail_if_success refine gp_lit rfl rfl rfl rfl ?_); first | apply gp_guard_dec rfl rfl rfl rfl | apply gp_guard rfl rfl rfl rfl | fail))
          | (refine gp_see ?_; first | refine p_f ?_ | refine pS ?_ | ((fail_if_success refine gp_lit rfl rfl rfl rfl ?_); first | apply gp_guard_dec rfl rfl rfl rfl | apply gp_guard rfl rfl rfl rfl | fail))
          | (refine gp_one ?_; first | refine pO ?_ | refine p_n (fun _ => ?_) | refine p_app (fun _ _ => ?_) | refine p_b0 (fun _ => ?_) | ((fail_if_success refine gp_lit rfl rfl rfl rfl ?_); first | apply gp_guard_dec rfl rfl rfl rfl | apply gp_guard rfl rfl rfl rfl | fail))
          | refine gp_two ?_ ?_ | refine gp_done hd hk ?_ | intro _ | refine p_ta hd hk (fun _ _ _ hd hk => ?_) | refine p_ts hd hk (fun _ hd hk => ?_))
        refine g_as 5 (v' := .bool (isT L c ⟨i, n, false⟩)) rfl (congrArg Value.bool (by
          unfold isT
          simp only [Bool.not_false, Bool.true_and]
          exact decide_eq_decide.2 ⟨fun h => ⟨h1, UInt8.toNat_inj.1 (by omega)⟩, fun h => by rw [h.2]⟩)) ?_
        exact gM () trivial
      · refine gp_as 23 (v' := .bool false) rfl (congrArg Value.bool (decide_eq_false (by rw [hz]; omega))) ?_
        repeat (first
          | (refine gp_take ?_; first | refine pT ?_ | ((fail_if_success refine gp_lit rfl rfl rfl rfl ?_); first | apply gp_guard_dec rfl rfl rfl rfl | apply gp_guard rfl rfl rfl rfl | fail))
          | (refine gp_see ?_; first | refine p_f ?_ | refine pS ?_ | ((fail_if_success refine gp_lit rfl rfl rfl rfl ?_); first | apply gp_guard_dec rfl rfl rfl rfl | apply gp_guard rfl rfl rfl rfl | fail))
          | (refine gp_one ?_; first | refine pO ?_ | refine p_n (fun _ => ?_) | refine p_app (fun _ _ => ?_) | refine p_b0 (fun _ => ?_) | ((fail_if_success refine gp_lit rfl rfl rfl rfl ?_); first | apply gp_guard_dec rfl rfl rfl rfl | apply gp_guard rfl rfl rfl rfl | fail))
          | refine gp_two ?_ ?_ | refine gp_done hd hk ?_ | intro _ | refine p_ta hd hk (fun _ _ _ hd hk => ?_) | refine p_ts hd hk (fun _ hd hk => ?_))
        refine g_as 5 (v' := .bool (isT L c ⟨i, n, false⟩)) rfl (congrArg Value.bool (by
          unfold isT
          simp only [Bool.not_false, Bool.true_and]
          exact (decide_eq_false (fun h => h1 h.1)).symm)) ?_
        exact gM () trivial
    · repeat (first
        | (refine gp_take ?_; first | refine pT ?_ | ((fail_if_success refine gp_lit rfl rfl rfl rfl ?_); first | apply gp_guard_dec rfl rfl rfl rfl | apply gp_guard rfl rfl rfl rfl | fail))
        | (refine gp_see ?_; first | refine p_f ?_ | refine pS ?_ | ((fail_if_success refine gp_lit rfl rfl rfl rfl ?_); first | apply gp_guard_dec rfl rfl rfl rfl | apply gp_guard rfl rfl rfl rfl | fail))
        | (refine gp_one ?_; first | refine pO ?_ | refine p_n (fun _ => ?_) | refine p_app (fun _ _ => ?_) | refine p_b0 (fun _ => ?_) | ((fail_if_success refine gp_lit rfl rfl rfl rfl ?_); first | apply gp_guard_dec rfl rfl rfl rfl | apply gp_guard rfl rfl rfl rfl | fail))
        | refine gp_two ?_ ?_ | refine gp_done hd hk ?_ | intro _ | refine p_ta hd hk (fun _ _ _ hd hk => ?_) | refine p_ts hd hk (fun _ hd hk => ?_))
      exact gM () trivial
  cases hi : isT L c ⟨i, n, bad⟩
  · repeat (first
      | (refine g_ops ?_; first | refine sO ?_ | refine s_n (fun _ => ?_) | refine s_app (fun _ _ => ?_) | refine s_b0 (fun _ => ?_) | ((fail_if_success refine g_lit rfl rfl rfl ?_); first | apply g_partM rfl rfl rfl | apply g_partMB rfl rfl rfl | fail))
      | refine gS ?_ | exact s_m | intro _)
    exact gR () trivial
  · have h1 := (isT_at hi).2.1
    dsimp only at h1
    repeat (first
      | (refine g_ops ?_; first | refine sO ?_ | refine s_n (fun _ => ?_) | refine s_app (fun _ _ => ?_) | refine s_b0 (fun _ => ?_) | ((fail_if_success refine g_lit rfl rfl rfl ?_); first | apply g_partM rfl rfl rfl | apply g_partMB rfl rfl rfl | fail))
      | refine gS ?_ | exact s_m | intro _)
    rw [show (i : Int) + 1 = ((i + 1 : Nat) : Int) by push_cast; rfl]
    exact gR () trivial
instance : Callable Tryz.prog 67 := callable (by kernel_rfl)
theorem hasPrefixI (a w : List UInt8) (ha : a.length ≤ 1000000000) (hw : w.length ≤ 1000) : Does1 Tryz.prog 67 [.string (txt a), .string (txt w)] [] (.bool (decide (a.take w.length = w))) := by
  have hza : (txt a).size = a.length := txt_size a
  have hzw : (txt w).size = w.length := txt_size w
  refine fn_intro Tryz.func67 rfl Tryz.ntmps67 rfl (by simp only [argFr, Nat.zero_add, Nat.reduceAdd]; rfl) (fun Γ => ?_)
  repeat ((fail_if_success refine s_at 10 ?_); first
    | (refine g_ops ?_; first | refine sO ?_ | refine s_n (fun _ => ?_) | refine s_app (fun _ _ => ?_) | refine s_b0 (fun _ => ?_) | ((fail_if_success refine g_lit rfl rfl rfl ?_); first | apply g_partM rfl rfl rfl | apply g_partMB rfl rfl rfl | fail))
    | refine gS ?_ | exact s_m | intro _)
  first
    | (refine g_ops ?_; first | refine sO ?_ | refine s_n (fun _ => ?_) | refine s_app (fun _ _ => ?_) | refine s_b0 (fun _ => ?_) | ((fail_if_success refine g_lit rfl rfl rfl ?_); first | apply g_partM rfl rfl rfl | apply g_partMB rfl rfl rfl | fail))
    | refine gS ?_ | exact s_m | intro _
  by_cases h : w.length ≤ a.length
  · refine g_as 10 (v' := .bool true) rfl (congrArg Value.bool (decide_eq_true (by rw [hza, hzw]; omega))) ?_
    repeat (first
      | (refine g_ops ?_; first | refine sO ?_ | refine s_n (fun _ => ?_) | refine s_app (fun _ _ => ?_) | refine s_b0 (fun _ => ?_) | ((fail_if_success refine g_lit rfl rfl rfl ?_); first | apply g_partM rfl rfl rfl | apply g_partMB rfl rfl rfl | fail))
      | refine gS ?_ | exact s_m | intro _)
    refine s_q (q := by exact qs_sliceStr (l := 0) (h := w.length) inferInstance rfl .none (.some rfl (by rw [← hzw])) (by omega) (by rw [hza]; omega)) ?_
    refine g_as 14 (v' := .string (txt (a.take w.length))) rfl (by rw [ext_txt]; rfl) ?_
    repeat (first
      | (refine g_ops ?_; first | refine sO ?_ | refine s_n (fun _ => ?_) | refine s_app (fun _ _ => ?_) | refine s_b0 (fun _ => ?_) | ((fail_if_success refine g_lit rfl rfl rfl ?_); first | apply g_partM rfl rfl rfl | apply g_partMB rfl rfl rfl | fail))
      | refine gS ?_ | exact s_m | intro _)
    refine g_as 4 (v' := .bool (decide (a.take w.length = w))) rfl (congrArg Value.bool (decide_eq_decide.2 ⟨fun h => by have := congrArg (fun s : ByteArray => s.data.toList) h; simpa [txt] using this, fun h => by rw [h]⟩)) ?_
    exact s_r ()
  · refine g_as 10 (v' := .bool false) rfl (congrArg Value.bool (decide_eq_false (by rw [hza, hzw]; omega))) ?_
    repeat (first
      | (refine g_ops ?_; first | refine sO ?_ | refine s_n (fun _ => ?_) | refine s_app (fun _ _ => ?_) | refine s_b0 (fun _ => ?_) | ((fail_if_success refine g_lit rfl rfl rfl ?_); first | apply g_partM rfl rfl rfl | apply g_partMB rfl rfl rfl | fail))
      | refine gS ?_ | exact s_m | intro _)
    have e : decide (a.take w.length = w) = false := decide_eq_false fun e => by
      have := congrArg List.length e
      rw [List.length_take] at this
      omega
    rw [e]
    exact s_r ()
theorem hasPrefix (a w : List UInt8) (ha : a.length ≤ 1000000000) (hw : w.length ≤ 1000) : Does1 Tryz.prog 45 [.string (txt a), .string (txt w)] [] (.bool (decide (a.take w.length = w))) := by
  have h := hasPrefixI a w ha hw
  refine fn_intro Tryz.func45 rfl Tryz.ntmps45 rfl (by simp only [argFr, Nat.zero_add, Nat.reduceAdd]; rfl) (fun Γ => ?_)
  repeat (first
    | (refine g_ops ?_; first | refine sO ?_ | refine s_n (fun _ => ?_) | refine s_app (fun _ _ => ?_) | refine s_b0 (fun _ => ?_) | ((fail_if_success refine g_lit rfl rfl rfl ?_); first | apply g_partM rfl rfl rfl | apply g_partMB rfl rfl rfl | fail) | refine s_p (h) ?_)
    | refine gS ?_ | exact s_m | intro _)
  exact s_r ()
theorem word_ (b : Nat) (L w : List UInt8) (hL : L.length ≤ 1000000000) (hw : 0 < w.length ∧ w.length ≤ 1000) (σ : RS) (hat : σ.at_ ≤ L.length) : Does Tryz.prog 41 [ptr b, .string (txt w)] [rdC b L σ] (X := Unit) (fun _ => .bool (wordT L w σ)) (fun _ => [rdC b L (if wordT L w σ = true then adv σ w.length else σ)]) (fun _ => True) := by
  have hz : (txt L).size = L.length := txt_size L
  have hzw : (txt w).size = w.length := txt_size w
  obtain ⟨i, n, bad⟩ := σ
  dsimp only [rdC] at hat ⊢
  have hp := hasPrefix (L.drop i) w (by rw [List.length_drop]; omega) hw.2
  refine fn_intro Tryz.func41 rfl Tryz.ntmps41 rfl (by simp only [argFr, Nat.zero_add, Nat.reduceAdd]; rfl) (fun Γ => ?_)
  repeat (first
    | (refine g_ops ?_; first | refine sO ?_ | refine s_n (fun _ => ?_) | refine s_app (fun _ _ => ?_) | refine s_b0 (fun _ => ?_) | ((fail_if_success refine g_lit rfl rfl rfl ?_); first | apply g_partM rfl rfl rfl | apply g_partMB rfl rfl rfl | fail))
    | refine gS ?_ | exact s_m | intro _)
  refine g_cutX (X := Unit) (fun _ => [(0, ptr b), (1, .string (txt w)), (5, .bool (wordT L w ⟨i, n, bad⟩))]) (fun _ => [.row b [.string (txt L), int i, int n, .bool bad] 78]) (fun _ => True) ?_ (fun _ _ => ?_)
  · refine g_draw (.take 0 (.take 1 (.take 2 (.see 3 [] (.take 4 (.take 5 (.take 6 (.take 7 (.take 8 (.see 9 [] (.take 10 (.take 11 (.take 12 (.see 13 [] (.take 14 (.take 15 (.see 16 [] (.take 17 (.take 18 .done))))))))))))))))))) (by kernel_rfl) (C := [.row b [.string (txt L), int i, int n, .bool bad] 78]) (by (repeat (first | exact Take.nil | apply Take.cons | exact Sel.here | apply Sel.there)); first | done | fail) (fun m hd hk => ?_)
    cases bad
    · repeat (first
        | (refine gp_take ?_; first | refine pT ?_ | ((fail_if_success refine gp_lit rfl rfl rfl rfl ?_); first | apply gp_guard_dec rfl rfl rfl rfl | apply gp_guard rfl rfl rfl rfl | fail))
        | (refine gp_see ?_; first | refine p_f ?_ | refine pS ?_ | ((fail_if_success refine gp_lit rfl rfl rfl rfl ?_); first | apply gp_guard_dec rfl rfl rfl rfl | apply gp_guard rfl rfl rfl rfl | fail))
        | (refine gp_one ?_; first | refine pO ?_ | refine p_n (fun _ => ?_) | refine p_app (fun _ _ => ?_) | refine p_b0 (fun _ => ?_) | ((fail_if_success refine gp_lit rfl rfl rfl rfl ?_); first | apply gp_guard_dec rfl rfl rfl rfl | apply gp_guard rfl rfl rfl rfl | fail))
        | refine gp_two ?_ ?_ | refine gp_done hd hk ?_ | intro _ | refine p_ta hd hk (fun _ _ _ hd hk => ?_) | refine p_ts hd hk (fun _ hd hk => ?_))
      refine p_q (q := by intro Δ; exact qs_sliceStr (l := i) (h := (txt L).size) inferInstance rfl (.some rfl rfl) .none (by rw [hz]; omega) (Nat.le_refl _)) ?_
      refine gp_as 20 (v' := .string (txt (L.drop i))) rfl (by rw [ext_txt, hz, List.take_of_length_le (by rw [List.length_drop]; omega)]) ?_
      repeat (first
        | (refine gp_take ?_; first | refine pT ?_ | ((fail_if_success refine gp_lit rfl rfl rfl rfl ?_); first | apply gp_guard_dec rfl rfl rfl rfl | apply gp_guard rfl rfl rfl rfl | fail) | refine p_p (hp) ?_)
        | (refine gp_see ?_; first | refine p_f ?_ | refine pS ?_ | ((fail_if_success refine gp_lit rfl rfl rfl rfl ?_); first | apply gp_guard_dec rfl rfl rfl rfl | apply gp_guard rfl rfl rfl rfl | fail) | refine p_sp (hp) ?_)
        | (refine gp_one ?_; first | refine pO ?_ | refine p_n (fun _ => ?_) | refine p_app (fun _ _ => ?_) | refine p_b0 (fun _ => ?_) | ((fail_if_success refine gp_lit rfl rfl rfl rfl ?_); first | apply gp_guard_dec rfl rfl rfl rfl | apply gp_guard rfl rfl rfl rfl | fail))
        | refine gp_two ?_ ?_ | refine gp_done hd hk ?_ | intro _ | refine p_ta hd hk (fun _ _ _ hd hk => ?_) | refine p_ts hd hk (fun _ hd hk => ?_))
      refine g_as 5 (v' := .bool (wordT L w ⟨i, n, false⟩)) rfl (congrArg Value.bool (by unfold wordT; simp)) ?_
      exact gM () trivial
    · repeat (first
        | (refine gp_take ?_; first | refine pT ?_ | ((fail_if_success refine gp_lit rfl rfl rfl rfl ?_); first | apply gp_guard_dec rfl rfl rfl rfl | apply gp_guard rfl rfl rfl rfl | fail))
        | (refine gp_see ?_; first | refine p_f ?_ | refine pS ?_ | ((fail_if_success refine gp_lit rfl rfl rfl rfl ?_); first | apply gp_guard_dec rfl rfl rfl rfl | apply gp_guard rfl rfl rfl rfl | fail))
        | (refine gp_one ?_; first | refine pO ?_ | refine p_n (fun _ => ?_) | refine p_app (fun _ _ => ?_) | refine p_b0 (fun _ => ?_) | ((fail_if_success refine gp_lit rfl rfl rfl rfl ?_); first | apply gp_guard_dec rfl rfl rfl rfl | apply gp_guard rfl rfl rfl rfl | fail))
        | refine gp_two ?_ ?_ | refine gp_done hd hk ?_ | intro _ | refine p_ta hd hk (fun _ _ _ hd hk => ?_) | refine p_ts hd hk (fun _ hd hk => ?_))
      exact gM () trivial
  cases hi : wordT L w ⟨i, n, bad⟩
  · repeat (first
      | (refine g_ops ?_; first | refine sO ?_ | refine s_n (fun _ => ?_) | refine s_app (fun _ _ => ?_) | refine s_b0 (fun _ => ?_) | ((fail_if_success refine g_lit rfl rfl rfl ?_); first | apply g_partM rfl rfl rfl | apply g_partMB rfl rfl rfl | fail))
      | refine gS ?_ | exact s_m | intro _)
    exact gR () trivial
  · have h1 := (wordT_at hi hw.1).2.1
    dsimp only at h1
    repeat (first
      | (refine g_ops ?_; first | refine sO ?_ | refine s_n (fun _ => ?_) | refine s_app (fun _ _ => ?_) | refine s_b0 (fun _ => ?_) | ((fail_if_success refine g_lit rfl rfl rfl ?_); first | apply g_partM rfl rfl rfl | apply g_partMB rfl rfl rfl | fail))
      | refine gS ?_ | exact s_m | intro _)
    rw [show (i : Int) + ((txt w).size : Int) = ((i + w.length : Nat) : Int) by rw [hzw]; push_cast; rfl]
    exact gR () trivial
end Go.Proofs.YtaahibcibgljbaaGreatDoor
namespace Go.Proofs.YtaahibcibgljbaaGreatDoor
open Go.Sl facts
theorem numLen_step (l : List UInt8) (f : Nat) (h : 0 < l.length) (hf : 0 < f) : numLen l f = if numC (l.getD 0 0) = true then numLen (l.drop 1) (f - 1) + 1 else 0 := by
  cases l with
  | nil => simp at h
  | cons c l =>
    obtain ⟨f, rfl⟩ : ∃ f', f = f' + 1 := ⟨f - 1, by omega⟩
    rw [numLen]; rfl
theorem numLen_zero (l : List UInt8) : numLen l 0 = 0 := by cases l <;> rfl
theorem drop_end (L : List UInt8) (i : Nat) (h : i < L.length) : (L.drop i).getD 0 0 = L.getD i 0 := by rw [getD_drop]; rfl
attribute [local irreducible] Code.wp wpList Exit.then Exit.inBlock bodyPost Back MidQ G GP QStep VStep CStep SStep Does Post Reads
structure NmX where
  j : Nat
set_option maxHeartbeats 4000000 in
theorem number_ {H : HP} (hE : ErrH H) (b : Nat) (L : List UInt8) (hL : L.length ≤ 1000000000) (σ : RS) (hat : σ.at_ ≤ L.length) : Does Tryz.prog 47 [ptr b] [rdC b L σ, Pile H] (X := Unit) (fun _ => int (numT L σ).1) (fun _ => [rdC b L (numT L σ).2, Pile H]) (fun _ => True) := by
  have hz : (txt L).size = L.length := txt_size L
  have hA := at_of hE
  have hnl := numLen_le (L.drop σ.at_) 20
  rw [List.length_drop] at hnl
  obtain ⟨i, n, bad⟩ := σ
  dsimp only [rdC] at hat hnl ⊢
  refine fn_intro Tryz.func47 rfl Tryz.ntmps47 rfl (by simp only [argFr, Nat.zero_add, Nat.reduceAdd]; rfl) (fun Γ => ?_)
  repeat (first
    | (refine g_ops ?_; first | refine sO ?_ | refine s_n (fun _ => ?_) | refine s_app (fun _ _ => ?_) | refine s_b0 (fun _ => ?_) | ((fail_if_success refine g_lit rfl rfl rfl ?_); first | apply g_partM rfl rfl rfl | apply g_partMB rfl rfl rfl | fail))
    | refine gS ?_ | exact s_m | intro _)
  refine g_loop (X := NmX) (fun x => [(0, ptr b), (3, int ((i + x.j : Nat) : Int))]) (fun x => [.row b [.string (txt L), int i, int n, .bool bad] 78, Pile H]) (fun x => x.j ≤ 20 ∧ i + x.j ≤ L.length ∧ numLen (L.drop i) 20 = x.j + numLen (L.drop (i + x.j)) (20 - x.j)) (fun x => 20 - x.j) ⟨0⟩ ⟨by decide, hat, by simp⟩ (by (repeat (first | exact FrSub.nil | refine FrSub.cons rfl ?_)); first | done | fail) (by (repeat (first | exact Take.nil | apply Take.cons | exact Sel.here | apply Sel.there)); first | done | fail) (fun x hx => ?_)
  obtain ⟨j⟩ := x
  obtain ⟨hj, hij, he⟩ := hx
  dsimp only at hj hij he ⊢
  have eN : ¬ (i + j < L.length ∧ j < 20 ∧ numC (L.getD (i + j) 0) = true) → decide (i + j < L.length ∧ j < 20 ∧ numC (L.getD (i + j) 0) = true) = false := decide_eq_false
  repeat (first | refine g_then_normal ?_ | refine g_seq ?_)
  refine g_cutX (X := Unit) (fun _ => [(0, ptr b), (3, int ((i + j : Nat) : Int)), (52, .bool (decide (i + j < L.length ∧ j < 20 ∧ numC (L.getD (i + j) 0) = true)))]) (fun _ => [.row b [.string (txt L), int i, int n, .bool bad] 78, Pile H]) (fun _ => True) ?_ (fun _ _ => ?_)
  · repeat ((fail_if_success refine s_at 17 ?_); first
      | (refine g_ops ?_; first | refine sO ?_ | refine s_n (fun _ => ?_) | refine s_app (fun _ _ => ?_) | refine s_b0 (fun _ => ?_) | ((fail_if_success refine g_lit rfl rfl rfl ?_); first | apply g_partM rfl rfl rfl | apply g_partMB rfl rfl rfl | fail))
      | refine gS ?_ | exact s_m | intro _)
    first
      | (refine g_ops ?_; first | refine sO ?_ | refine s_n (fun _ => ?_) | refine s_app (fun _ _ => ?_) | refine s_b0 (fun _ => ?_) | ((fail_if_success refine g_lit rfl rfl rfl ?_); first | apply g_partM rfl rfl rfl | apply g_partMB rfl rfl rfl | fail))
      | refine gS ?_ | exact s_m | intro _
    by_cases h1 : i + j < L.length
    case neg =>
      refine g_as 17 (v' := .bool false) rfl (congrArg Value.bool (decide_eq_false (by rw [hz]; omega))) ?_
      rw [eN (fun h => h1 h.1)]
      repeat (first
        | (refine g_ops ?_; first | refine sO ?_ | refine s_n (fun _ => ?_) | refine s_app (fun _ _ => ?_) | refine s_b0 (fun _ => ?_) | ((fail_if_success refine g_lit rfl rfl rfl ?_); first | apply g_partM rfl rfl rfl | apply g_partMB rfl rfl rfl | fail))
        | refine gS ?_ | exact s_m | intro _)
      exact gM () trivial
    refine g_as 17 (v' := .bool true) rfl (congrArg Value.bool (decide_eq_true (by rw [hz]; omega))) ?_
    repeat ((fail_if_success refine s_at 26 ?_); first
      | (refine g_ops ?_; first | refine sO ?_ | refine s_n (fun _ => ?_) | refine s_app (fun _ _ => ?_) | refine s_b0 (fun _ => ?_) | ((fail_if_success refine g_lit rfl rfl rfl ?_); first | apply g_partM rfl rfl rfl | apply g_partMB rfl rfl rfl | fail))
      | refine gS ?_ | exact s_m | intro _)
    first
      | (refine g_ops ?_; first | refine sO ?_ | refine s_n (fun _ => ?_) | refine s_app (fun _ _ => ?_) | refine s_b0 (fun _ => ?_) | ((fail_if_success refine g_lit rfl rfl rfl ?_); first | apply g_partM rfl rfl rfl | apply g_partMB rfl rfl rfl | fail))
      | refine gS ?_ | exact s_m | intro _
    by_cases h2 : j < 20
    case neg =>
      refine g_as 26 (v' := .bool false) rfl (congrArg Value.bool (decide_eq_false (by push_cast; omega))) ?_
      rw [eN (fun h => h2 h.2.1)]
      repeat (first
        | (refine g_ops ?_; first | refine sO ?_ | refine s_n (fun _ => ?_) | refine s_app (fun _ _ => ?_) | refine s_b0 (fun _ => ?_) | ((fail_if_success refine g_lit rfl rfl rfl ?_); first | apply g_partM rfl rfl rfl | apply g_partMB rfl rfl rfl | fail))
        | refine gS ?_ | exact s_m | intro _)
      exact gM () trivial
    refine g_as 26 (v' := .bool true) rfl (congrArg Value.bool (decide_eq_true (by push_cast; omega))) ?_
    repeat (first
      | (refine g_ops ?_; first | refine sO ?_ | refine s_n (fun _ => ?_) | refine s_app (fun _ _ => ?_) | refine s_b0 (fun _ => ?_) | ((fail_if_success refine g_lit rfl rfl rfl ?_); first | apply g_partM rfl rfl rfl | apply g_partMB rfl rfl rfl | fail))
      | refine gS ?_ | exact s_m | intro _)
    refine s_q (q := by exact qs_indexStr (i := i + j) inferInstance rfl rfl (by rw [hz]; omega)) ?_
    have hc : at8 (txt L) (i + j) = L.getD (i + j) 0 := at8_txt _ _
    refine g_as 32 (v' := u8v (L.getD (i + j) 0)) rfl (by rw [hc]) ?_
    have hB : decide (i + j < L.length ∧ j < 20 ∧ numC (L.getD (i + j) 0) = true) = numC (L.getD (i + j) 0) := by
      cases numC (L.getD (i + j) 0) <;> simp [h1, h2]
    rw [hB]
    generalize L.getD (i + j) 0 = c at hc ⊢
    have h8 := c.toNat_lt
    repeat ((fail_if_success refine s_at 34 ?_); first
      | (refine g_ops ?_; first | refine sO ?_ | refine s_n (fun _ => ?_) | refine s_app (fun _ _ => ?_) | refine s_b0 (fun _ => ?_) | ((fail_if_success refine g_lit rfl rfl rfl ?_); first | apply g_partM rfl rfl rfl | apply g_partMB rfl rfl rfl | fail))
      | refine gS ?_ | exact s_m | intro _)
    first
      | (refine g_ops ?_; first | refine sO ?_ | refine s_n (fun _ => ?_) | refine s_app (fun _ _ => ?_) | refine s_b0 (fun _ => ?_) | ((fail_if_success refine g_lit rfl rfl rfl ?_); first | apply g_partM rfl rfl rfl | apply g_partMB rfl rfl rfl | fail))
      | refine gS ?_ | exact s_m | intro _
    by_cases h3 : c.toNat = 45
    · refine g_as 34 (v' := .bool true) rfl (congrArg Value.bool (decide_eq_true (by omega))) ?_
      rw [show numC c = true from decide_eq_true (.inl h3)]
      repeat (first
        | (refine g_ops ?_; first | refine sO ?_ | refine s_n (fun _ => ?_) | refine s_app (fun _ _ => ?_) | refine s_b0 (fun _ => ?_) | ((fail_if_success refine g_lit rfl rfl rfl ?_); first | apply g_partM rfl rfl rfl | apply g_partMB rfl rfl rfl | fail))
        | refine gS ?_ | exact s_m | intro _)
      exact gM () trivial
    refine g_as 34 (v' := .bool false) rfl (congrArg Value.bool (decide_eq_false (by omega))) ?_
    repeat (first
      | (refine g_ops ?_; first | refine sO ?_ | refine s_n (fun _ => ?_) | refine s_app (fun _ _ => ?_) | refine s_b0 (fun _ => ?_) | ((fail_if_success refine g_lit rfl rfl rfl ?_); first | apply g_partM rfl rfl rfl | apply g_partMB rfl rfl rfl | fail))
      | refine gS ?_ | exact s_m | intro _)
    refine s_q (q := by exact qs_indexStr (i := i + j) inferInstance rfl rfl (by rw [hz]; omega)) ?_
    refine g_as 40 (v' := u8v c) rfl (by rw [hc]) ?_
    repeat ((fail_if_success refine s_at 42 ?_); first
      | (refine g_ops ?_; first | refine sO ?_ | refine s_n (fun _ => ?_) | refine s_app (fun _ _ => ?_) | refine s_b0 (fun _ => ?_) | ((fail_if_success refine g_lit rfl rfl rfl ?_); first | apply g_partM rfl rfl rfl | apply g_partMB rfl rfl rfl | fail))
      | refine gS ?_ | exact s_m | intro _)
    first
      | (refine g_ops ?_; first | refine sO ?_ | refine s_n (fun _ => ?_) | refine s_app (fun _ _ => ?_) | refine s_b0 (fun _ => ?_) | ((fail_if_success refine g_lit rfl rfl rfl ?_); first | apply g_partM rfl rfl rfl | apply g_partMB rfl rfl rfl | fail))
      | refine gS ?_ | exact s_m | intro _
    by_cases h4 : 48 ≤ c.toNat
    · refine g_as 42 (v' := .bool true) rfl (congrArg Value.bool (decide_eq_true (by omega))) ?_
      repeat (first
        | (refine g_ops ?_; first | refine sO ?_ | refine s_n (fun _ => ?_) | refine s_app (fun _ _ => ?_) | refine s_b0 (fun _ => ?_) | ((fail_if_success refine g_lit rfl rfl rfl ?_); first | apply g_partM rfl rfl rfl | apply g_partMB rfl rfl rfl | fail))
        | refine gS ?_ | exact s_m | intro _)
      refine s_q (q := by exact qs_indexStr (i := i + j) inferInstance rfl rfl (by rw [hz]; omega)) ?_
      refine g_as 48 (v' := u8v c) rfl (by rw [hc]) ?_
      repeat (first
        | (refine g_ops ?_; first | refine sO ?_ | refine s_n (fun _ => ?_) | refine s_app (fun _ _ => ?_) | refine s_b0 (fun _ => ?_) | ((fail_if_success refine g_lit rfl rfl rfl ?_); first | apply g_partM rfl rfl rfl | apply g_partMB rfl rfl rfl | fail))
        | refine gS ?_ | exact s_m | intro _)
      refine g_as 52 (v' := .bool (numC c)) rfl (congrArg Value.bool (decide_eq_decide.2 ⟨fun h => .inr ⟨h4, by omega⟩, fun h => by omega⟩)) ?_
      exact gM () trivial
    · refine g_as 42 (v' := .bool false) rfl (congrArg Value.bool (decide_eq_false (by omega))) ?_
      rw [show numC c = false from decide_eq_false (fun h => by omega)]
      repeat (first
        | (refine g_ops ?_; first | refine sO ?_ | refine s_n (fun _ => ?_) | refine s_app (fun _ _ => ?_) | refine s_b0 (fun _ => ?_) | ((fail_if_success refine g_lit rfl rfl rfl ?_); first | apply g_partM rfl rfl rfl | apply g_partMB rfl rfl rfl | fail))
        | refine gS ?_ | exact s_m | intro _)
      exact gM () trivial
  by_cases hB : i + j < L.length ∧ j < 20 ∧ numC (L.getD (i + j) 0) = true
  · rw [decide_eq_true hB]
    repeat (first
      | (refine g_ops ?_; first | refine sO ?_ | refine s_n (fun _ => ?_) | refine s_app (fun _ _ => ?_) | refine s_b0 (fun _ => ?_) | ((fail_if_success refine g_lit rfl rfl rfl ?_); first | apply g_partM rfl rfl rfl | apply g_partMB rfl rfl rfl | fail))
      | refine gS ?_ | exact s_m | intro _)
    refine g_as 3 (v' := int ((i + (j + 1) : Nat) : Int)) rfl (congrArg (Value.int .i64) (by push_cast; omega)) ?_
    refine gA ⟨j + 1⟩ (by simp only; omega) ⟨by dsimp only; omega, by dsimp only; omega, ?_⟩
    dsimp only
    have hs := numLen_step (L.drop (i + j)) (20 - j) (by rw [List.length_drop]; omega) (by omega)
    rw [drop_end L _ hB.1, if_pos hB.2.2, List.drop_drop] at hs
    rw [he, hs, show 20 - (j + 1) = 20 - j - 1 by omega, show i + (j + 1) = i + j + 1 by omega]
    omega
  · rw [decide_eq_false hB]
    have e0 : numLen (L.drop i) 20 = j := by
      rw [he]
      by_cases h1 : i + j < L.length
      · by_cases h2 : j < 20
        · rw [numLen_step _ _ (by rw [List.length_drop]; omega) (by omega), drop_end L _ h1, if_neg (fun h => hB ⟨h1, h2, h⟩)]; rfl
        · rw [show 20 - j = 0 by omega, numLen_zero]; rfl
      · rw [List.drop_eq_nil_of_le (by omega), numLen]; rfl
    have ha := hA ((L.drop i).take j) (by rw [List.length_take, List.length_drop]; omega)
    have hv : numT L ⟨i, n, bad⟩ = ((atoiV ((L.drop i).take j)).1, ⟨i + j, n, bad || !(atoiV ((L.drop i).take j)).2⟩) := by unfold numT; dsimp only; rw [e0]
    rw [hv]
    generalize hav : atoiV ((L.drop i).take j) = av at ha ⊢
    obtain ⟨z, ok⟩ := av
    dsimp only at ha ⊢
    repeat (first
      | (refine g_ops ?_; first | refine sO ?_ | refine s_n (fun _ => ?_) | refine s_app (fun _ _ => ?_) | refine s_b0 (fun _ => ?_) | ((fail_if_success refine g_lit rfl rfl rfl ?_); first | apply g_partM rfl rfl rfl | apply g_partMB rfl rfl rfl | fail))
      | refine gS ?_ | exact s_m | intro _)
    refine g_cutX (X := Value) (fun ev => [(0, ptr b), (3, int ((i + j : Nat) : Int)), (4, int z), (5, ev)]) (fun _ => [.row b [.string (txt L), int i, int n, .bool bad] 78, Pile H]) (fun ev => (ok = true → ev = .nilIface) ∧ (ok = false → ∃ t v, ev = .iface t v)) ?_ (fun ev hev => ?_)
    · refine g_draw (.take 0 (.take 1 (.take 2 (.see 3 [] (.take 4 (.take 5 (.take 6 (.see 7 [] (.take 8 (.take 9 (.one 10 (.take 11 (.take 12 (.take 13 (.take 14 (.take 15 .done)))))))))))))))) (by kernel_rfl) (C := [.row b [.string (txt L), int i, int n, .bool bad] 78]) (by (repeat (first | exact Take.nil | apply Take.cons | exact Sel.here | apply Sel.there)); first | done | fail) (fun m hd hk => ?_)
      repeat (first
        | (refine gp_take ?_; first | refine pT ?_ | ((fail_if_success refine gp_lit rfl rfl rfl rfl ?_); first | apply gp_guard_dec rfl rfl rfl rfl | apply gp_guard rfl rfl rfl rfl | fail))
        | (refine gp_see ?_; first | refine p_f ?_ | refine pS ?_ | ((fail_if_success refine gp_lit rfl rfl rfl rfl ?_); first | apply gp_guard_dec rfl rfl rfl rfl | apply gp_guard rfl rfl rfl rfl | fail))
        | (refine gp_one ?_; first | refine pO ?_ | refine p_n (fun _ => ?_) | refine p_app (fun _ _ => ?_) | refine p_b0 (fun _ => ?_) | ((fail_if_success refine gp_lit rfl rfl rfl rfl ?_); first | apply gp_guard_dec rfl rfl rfl rfl | apply gp_guard rfl rfl rfl rfl | fail))
        | refine gp_two ?_ ?_ | refine gp_done hd hk ?_ | intro _ | refine p_ta hd hk (fun _ _ _ hd hk => ?_) | refine p_ts hd hk (fun _ hd hk => ?_))
      refine p_q (q := by intro Δ; exact qs_sliceStr (l := i) (h := i + j) inferInstance rfl (.some rfl rfl) (.some rfl rfl) (by omega) (by rw [hz]; omega)) ?_
      refine gp_as 65 (v' := .string (txt ((L.drop i).take j))) rfl (by rw [ext_txt, show i + j - i = j by omega]) ?_
      repeat (first
        | (refine gp_take ?_; first | refine pT ?_ | ((fail_if_success refine gp_lit rfl rfl rfl rfl ?_); first | apply gp_guard_dec rfl rfl rfl rfl | apply gp_guard rfl rfl rfl rfl | fail))
        | (refine gp_see ?_; first | refine p_f ?_ | refine pS ?_ | ((fail_if_success refine gp_lit rfl rfl rfl rfl ?_); first | apply gp_guard_dec rfl rfl rfl rfl | apply gp_guard rfl rfl rfl rfl | fail))
        | (refine gp_one ?_; first | refine pO ?_ | refine p_n (fun _ => ?_) | refine p_app (fun _ _ => ?_) | refine p_b0 (fun _ => ?_) | ((fail_if_success refine gp_lit rfl rfl rfl rfl ?_); first | apply gp_guard_dec rfl rfl rfl rfl | apply gp_guard rfl rfl rfl rfl | fail) | refine p_c (ha) (fun _ _ => ?_))
        | refine gp_two ?_ ?_ | refine gp_done hd hk ?_ | intro _ | refine p_ta hd hk (fun _ _ _ hd hk => ?_) | refine p_ts hd hk (fun _ hd hk => ?_))
      rename_i ev hev
      exact gM ev hev
    cases bad
    · cases ok
      · obtain ⟨t, v, rfl⟩ := hev.2 rfl
        repeat (first
          | (refine g_ops ?_; first | refine sO ?_ | refine s_n (fun _ => ?_) | refine s_app (fun _ _ => ?_) | refine s_b0 (fun _ => ?_) | ((fail_if_success refine g_lit rfl rfl rfl ?_); first | apply g_partM rfl rfl rfl | apply g_partMB rfl rfl rfl | fail))
          | refine gS ?_ | exact s_m | intro _)
        exact gR () trivial
      · obtain rfl := hev.1 rfl
        repeat (first
          | (refine g_ops ?_; first | refine sO ?_ | refine s_n (fun _ => ?_) | refine s_app (fun _ _ => ?_) | refine s_b0 (fun _ => ?_) | ((fail_if_success refine g_lit rfl rfl rfl ?_); first | apply g_partM rfl rfl rfl | apply g_partMB rfl rfl rfl | fail))
          | refine gS ?_ | exact s_m | intro _)
        exact gR () trivial
    · repeat (first
        | (refine g_ops ?_; first | refine sO ?_ | refine s_n (fun _ => ?_) | refine s_app (fun _ _ => ?_) | refine s_b0 (fun _ => ?_) | ((fail_if_success refine g_lit rfl rfl rfl ?_); first | apply g_partM rfl rfl rfl | apply g_partMB rfl rfl rfl | fail))
        | refine gS ?_ | exact s_m | intro _)
      exact gR () trivial
end Go.Proofs.YtaahibcibgljbaaGreatDoor
namespace Go.Proofs.YtaahibcibgljbaaGreatDoor
open Go.Sl facts
def scR (t : ByteArray) : Nat → Nat → Bool → Option Nat
  | 0, _, _ => none
  | f + 1, k, esc => if k < t.size then (if 0 < k ∧ (Utf8.decode t k).1 = 34 ∧ esc = false then some k else scR t f (k + (Utf8.decode t k).2) (decide (0 < k ∧ (Utf8.decode t k).1 = 92 ∧ esc = false))) else none
theorem scR_end (t : ByteArray) (f k : Nat) (esc : Bool) (h : ¬ k < t.size) : scR t f k esc = none := by cases f <;> simp [scR, h]
theorem scR_go (t : ByteArray) (f k : Nat) (esc : Bool) (h : k < t.size) : scR t (f + 1) k esc = if 0 < k ∧ (Utf8.decode t k).1 = 34 ∧ esc = false then some k else scR t f (k + (Utf8.decode t k).2) (decide (0 < k ∧ (Utf8.decode t k).1 = 92 ∧ esc = false)) := by rw [scR, if_pos h]
theorem scB_skip : ∀ (m l : List UInt8) (k : Nat) (esc : Bool), (∀ c ∈ m, 128 ≤ c.toNat) → m ≠ [] → scB (m ++ l) k esc = scB l (k + m.length) false
  | [], _, _, _, _, h => absurd rfl h
  | [c], l, k, esc, h, _ => by
    have := h c (List.mem_cons_self ..)
    rw [List.singleton_append, scB, if_neg (by omega), decide_eq_false (by omega)]; rfl
  | c :: d :: m, l, k, esc, h, _ => by
    have := h c (List.mem_cons_self ..)
    rw [List.cons_append, scB, if_neg (by omega), decide_eq_false (by omega), scB_skip (d :: m) l (k + 1) false (fun x hx => h x (List.mem_cons_of_mem _ hx)) (by simp)]
    rw [List.length_cons (a := c), show k + 1 + (d :: m).length = k + ((d :: m).length + 1) by omega]
theorem scR_eq (t : ByteArray) : ∀ f k esc, t.size ≤ k + f → scR t f k esc = scB (t.data.toList.drop k) k esc
  | f, k, esc, hf => by
    have h2 : t.data.toList.length = t.size := by simp
    by_cases h : k < t.size
    · obtain ⟨f, rfl⟩ : ∃ f', f = f' + 1 := ⟨f - 1, by omega⟩
      have hw := Lib.decode_width_pos t k h
      have hl : k < t.data.toList.length := by omega
      have hc : t.data.toList[k] = at8 t k := by unfold at8; rw [List.getD_eq_getElem?_getD, List.getElem?_eq_getElem hl]; rfl
      rw [scR_go t f k esc h, scR_eq t f _ _ (by omega)]
      by_cases ha : (at8 t k).toNat < 128
      · rw [decode_at h ha, List.drop_eq_getElem_cons hl, hc, scB]
      · have hb := decode_big h ha
        have hin := decode_in t k h
        have hr := rune_bytes t k h ha
        rw [if_neg (by omega), decide_eq_false (by omega)]
        have e : t.data.toList.drop k = (t.data.toList.drop k).take (Utf8.decode t k).2 ++ t.data.toList.drop (k + (Utf8.decode t k).2) := by
          rw [← List.drop_drop, List.take_append_drop]
        have hlen : ((t.data.toList.drop k).take (Utf8.decode t k).2).length = (Utf8.decode t k).2 := by rw [List.length_take, List.length_drop]; omega
        rw [e, scB_skip _ _ _ _ hr (fun h => by rw [h] at hlen; simp at hlen; omega), hlen]
    · rw [scR_end t f k esc h, List.drop_eq_nil_of_le (by omega)]; rfl
attribute [local irreducible] Code.wp wpList Exit.then Exit.inBlock bodyPost Back MidQ G GP QStep VStep CStep SStep Does Post Reads
theorem bif3 (k r m : Nat) (esc : Bool) : (bif decide (0 < (k : Int)) then bif decide ((r : Int) = m) then !esc else false else false) = decide (0 < k ∧ r = m ∧ esc = false) := by
  rw [Bool.eq_iff_iff]
  cases esc <;> simp [Bool.cond_eq_ite] <;> omega
structure TtX where
  k : Nat
  f : Nat
  esc : Bool
set_option maxHeartbeats 4000000 in
theorem text_ {H : HP} (hT : Tb H) (b : Nat) (L : List UInt8) (hL : L.length ≤ 1000000000) (σ : RS) (hat : σ.at_ ≤ L.length) : Does Tryz.prog 46 [ptr b] [rdC b L σ, Pile H] (X := Unit) (fun _ => .string (textT L σ).1) (fun _ => [rdC b L (textT L σ).2, Pile H]) (fun _ => True) := by
  have hz : (txt L).size = L.length := txt_size L
  obtain ⟨i, n, bad⟩ := σ
  dsimp only [rdC] at hat ⊢
  have hzt : (txt (L.drop i)).size = L.length - i := by rw [txt_size, List.length_drop]
  have hsc := scR_eq (txt (L.drop i)) (L.length - i) 0 false (by rw [hzt]; omega)
  rw [txt_list, List.drop_zero] at hsc
  have hsl := scB_lt (L.drop i) 0 false
  rw [List.length_drop] at hsl
  have hv : textT L ⟨i, n, bad⟩ = match scB (L.drop i) 0 false with
    | some j => ((unqS ((L.drop i).take (j + 1))).1, ⟨i + (j + 1), n, bad || !(unqS ((L.drop i).take (j + 1))).2⟩)
    | none => (ByteArray.empty, ⟨i, n, true⟩) := rfl
  rw [hv]
  clear hv
  refine fn_intro Tryz.func46 rfl Tryz.ntmps46 rfl (by simp only [argFr, Nat.zero_add, Nat.reduceAdd]; rfl) (fun Γ => ?_)
  repeat (first
    | (refine g_ops ?_; first | refine sO ?_ | refine s_n (fun _ => ?_) | refine s_app (fun _ _ => ?_) | refine s_b0 (fun _ => ?_) | ((fail_if_success refine g_lit rfl rfl rfl ?_); first | apply g_partM rfl rfl rfl | apply g_partMB rfl rfl rfl | fail))
    | refine gS ?_ | exact s_m | intro _)
  refine g_cutX (X := Nat) (fun it => [(0, ptr b), (3, .bool false), (17, ptr it)]) (fun it => [.row b [.string (txt L), int i, int n, .bool bad] 78, .pt it (.stringIter (txt (L.drop i)) 0), Pile H]) (fun _ => True) ?_ (fun it _ => ?_)
  · refine g_draw (.take 0 (.take 1 (.take 2 (.see 3 [] (.take 4 (.take 5 (.take 6 (.see 7 [] (.take 8 (.one 9 .done)))))))))) (by kernel_rfl) (C := [.row b [.string (txt L), int i, int n, .bool bad] 78]) (by (repeat (first | exact Take.nil | apply Take.cons | exact Sel.here | apply Sel.there)); first | done | fail) (fun m hd hk => ?_)
    repeat (first
      | (refine gp_take ?_; first | refine pT ?_ | ((fail_if_success refine gp_lit rfl rfl rfl rfl ?_); first | apply gp_guard_dec rfl rfl rfl rfl | apply gp_guard rfl rfl rfl rfl | fail))
      | (refine gp_see ?_; first | refine p_f ?_ | refine pS ?_ | ((fail_if_success refine gp_lit rfl rfl rfl rfl ?_); first | apply gp_guard_dec rfl rfl rfl rfl | apply gp_guard rfl rfl rfl rfl | fail))
      | (refine gp_one ?_; first | refine pO ?_ | refine p_n (fun _ => ?_) | refine p_app (fun _ _ => ?_) | refine p_b0 (fun _ => ?_) | ((fail_if_success refine gp_lit rfl rfl rfl rfl ?_); first | apply gp_guard_dec rfl rfl rfl rfl | apply gp_guard rfl rfl rfl rfl | fail))
      | refine gp_two ?_ ?_ | refine gp_done hd hk ?_ | intro _ | refine p_ta hd hk (fun _ _ _ hd hk => ?_) | refine p_ts hd hk (fun _ hd hk => ?_))
    refine p_q (q := by intro Δ; exact qs_sliceStr (l := i) (h := (txt L).size) inferInstance rfl (.some rfl rfl) .none (by rw [hz]; omega) (Nat.le_refl _)) ?_
    refine gp_as 16 (v' := .string (txt (L.drop i))) rfl (by rw [ext_txt, hz, List.take_of_length_le (by rw [List.length_drop]; omega)]) ?_
    refine gp_c (cs_range inferInstance rfl) rfl rfl rfl (fun it _ => ?_)
    repeat (first
      | (refine gp_take ?_; first | refine pT ?_ | ((fail_if_success refine gp_lit rfl rfl rfl rfl ?_); first | apply gp_guard_dec rfl rfl rfl rfl | apply gp_guard rfl rfl rfl rfl | fail))
      | (refine gp_see ?_; first | refine p_f ?_ | refine pS ?_ | ((fail_if_success refine gp_lit rfl rfl rfl rfl ?_); first | apply gp_guard_dec rfl rfl rfl rfl | apply gp_guard rfl rfl rfl rfl | fail))
      | (refine gp_one ?_; first | refine pO ?_ | refine p_n (fun _ => ?_) | refine p_app (fun _ _ => ?_) | refine p_b0 (fun _ => ?_) | ((fail_if_success refine gp_lit rfl rfl rfl rfl ?_); first | apply gp_guard_dec rfl rfl rfl rfl | apply gp_guard rfl rfl rfl rfl | fail))
      | refine gp_two ?_ ?_ | refine gp_done hd hk ?_ | intro _ | refine p_ta hd hk (fun _ _ _ hd hk => ?_) | refine p_ts hd hk (fun _ hd hk => ?_))
    exact gM it trivial
  repeat (first
    | (refine g_ops ?_; first | refine sO ?_ | refine s_n (fun _ => ?_) | refine s_app (fun _ _ => ?_) | refine s_b0 (fun _ => ?_) | ((fail_if_success refine g_lit rfl rfl rfl ?_); first | apply g_partM rfl rfl rfl | apply g_partMB rfl rfl rfl | fail))
    | refine gS ?_ | exact s_m | intro _)
  refine g_loop (X := TtX) (fun x => [(0, ptr b), (3, .bool x.esc), (17, ptr it)]) (fun x => [.row b [.string (txt L), int i, int n, .bool bad] 78, .pt it (.stringIter (txt (L.drop i)) x.k), Pile H])
    (fun x => (txt (L.drop i)).size ≤ x.k + x.f ∧ x.k ≤ (txt (L.drop i)).size ∧ scB (L.drop i) 0 false = scR (txt (L.drop i)) x.f x.k x.esc) (fun x => x.f) ⟨0, L.length - i, false⟩ ⟨by dsimp only; omega, Nat.zero_le _, hsc.symm⟩ (by (repeat (first | exact FrSub.nil | refine FrSub.cons rfl ?_)); first | done | fail) (by (repeat (first | exact Take.nil | apply Take.cons | exact Sel.here | apply Sel.there)); first | done | fail) (fun x hx => ?_)
  obtain ⟨k, f, esc⟩ := x
  obtain ⟨hf, hk, he⟩ := hx
  dsimp only at hf hk he ⊢
  repeat (first
    | (refine g_ops ?_; first | refine sO ?_ | refine s_n (fun _ => ?_) | refine s_app (fun _ _ => ?_) | refine s_b0 (fun _ => ?_) | ((fail_if_success refine g_lit rfl rfl rfl ?_); first | apply g_partM rfl rfl rfl | apply g_partMB rfl rfl rfl | fail))
    | refine gS ?_ | exact s_m | intro _)
  by_cases hlt : k < (txt (L.drop i)).size
  · obtain ⟨f, rfl⟩ : ∃ f', f = f' + 1 := ⟨f - 1, by omega⟩
    have hw := Lib.decode_width_pos _ k hlt
    have hin := decode_in _ k hlt
    rw [scR_go _ f k esc hlt] at he
    refine g_c (cs_next rfl (by (repeat (first | exact Sel.here | apply Sel.there)); first | done | fail) hlt) rfl rfl (fun _ _ => ?_)
    generalize Utf8.decode (txt (L.drop i)) k = rw_ at he hw hin ⊢
    obtain ⟨r, w⟩ := rw_
    dsimp only at he hw hin ⊢
    repeat (first
      | (refine g_ops ?_; first | refine sO ?_ | refine s_n (fun _ => ?_) | refine s_app (fun _ _ => ?_) | refine s_b0 (fun _ => ?_) | ((fail_if_success refine g_lit rfl rfl rfl ?_); first | apply g_partM rfl rfl rfl | apply g_partMB rfl rfl rfl | fail))
      | apply g_regB (id := 5) 31 | apply g_regB (id := 10) 3 | refine gS ?_ | exact s_m | intro _ | (refine gp_take ?_; first | refine pT ?_ | ((fail_if_success refine gp_lit rfl rfl rfl rfl ?_); first | apply gp_guard_dec rfl rfl rfl rfl | apply gp_guard rfl rfl rfl rfl | fail))
      | (refine gp_see ?_; first | refine p_f ?_ | refine pS ?_ | ((fail_if_success refine gp_lit rfl rfl rfl rfl ?_); first | apply gp_guard_dec rfl rfl rfl rfl | apply gp_guard rfl rfl rfl rfl | fail))
      | (refine gp_one ?_; first | refine pO ?_ | refine p_n (fun _ => ?_) | refine p_app (fun _ _ => ?_) | refine p_b0 (fun _ => ?_) | ((fail_if_success refine gp_lit rfl rfl rfl rfl ?_); first | apply gp_guard_dec rfl rfl rfl rfl | apply gp_guard rfl rfl rfl rfl | fail))
      | refine gp_two ?_ ?_ | refine gp_done hd hk ?_ | intro _ | refine p_ta hd hk (fun _ _ _ hd hk => ?_) | refine p_ts hd hk (fun _ hd hk => ?_))
    by_cases hq : 0 < k ∧ r = 34 ∧ esc = false
    · rw [if_pos hq] at he
      refine g_as 31 (v' := .bool true) rfl (congrArg Value.bool ((bif3 k r 34 esc).trans (decide_eq_true hq))) ?_
      have hu := unquote1 hT ((L.drop i).take (k + 1)) (by rw [List.length_take, List.length_drop]; omega)
      rw [he]
      dsimp only
      generalize hgu : unqS ((L.drop i).take (k + 1)) = u at hu ⊢
      obtain ⟨u1, u2⟩ := u
      dsimp only at hu ⊢
      repeat (first
        | (refine g_ops ?_; first | refine sO ?_ | refine s_n (fun _ => ?_) | refine s_app (fun _ _ => ?_) | refine s_b0 (fun _ => ?_) | ((fail_if_success refine g_lit rfl rfl rfl ?_); first | apply g_partM rfl rfl rfl | apply g_partMB rfl rfl rfl | fail))
        | refine gS ?_ | exact s_m | intro _)
      refine g_cutX (X := Unit) (fun _ => [(0, ptr b), (4, int k), (6, .string u1), (7, .bool u2)]) (fun _ => [.row b [.string (txt L), int i, int n, .bool bad] 78, Pile H]) (fun _ => True) ?_ (fun _ _ => ?_)
      · refine g_draw (.take 0 (.take 1 (.take 2 (.see 3 [] (.take 4 (.take 5 (.take 6 (.see 7 [] (.take 8 (.take 9 (.take 10 (.see 11 [] (.take 12 (.take 13 (.take 14 (.take 15 (.one 16 (.take 17 (.take 18 (.take 19 (.take 20 (.take 21 .done)))))))))))))))))))))) (by kernel_rfl) (C := [.row b [.string (txt L), int i, int n, .bool bad] 78, Pile H]) (by (repeat (first | exact Take.nil | apply Take.cons | exact Sel.here | apply Sel.there)); first | done | fail) (fun m hd hk => ?_)
        repeat (first
          | (refine gp_take ?_; first | refine pT ?_ | ((fail_if_success refine gp_lit rfl rfl rfl rfl ?_); first | apply gp_guard_dec rfl rfl rfl rfl | apply gp_guard rfl rfl rfl rfl | fail))
          | (refine gp_see ?_; first | refine p_f ?_ | refine pS ?_ | ((fail_if_success refine gp_lit rfl rfl rfl rfl ?_); first | apply gp_guard_dec rfl rfl rfl rfl | apply gp_guard rfl rfl rfl rfl | fail))
          | (refine gp_one ?_; first | refine pO ?_ | refine p_n (fun _ => ?_) | refine p_app (fun _ _ => ?_) | refine p_b0 (fun _ => ?_) | ((fail_if_success refine gp_lit rfl rfl rfl rfl ?_); first | apply gp_guard_dec rfl rfl rfl rfl | apply gp_guard rfl rfl rfl rfl | fail))
          | refine gp_two ?_ ?_ | refine gp_done hd hk ?_ | intro _ | refine p_ta hd hk (fun _ _ _ hd hk => ?_) | refine p_ts hd hk (fun _ hd hk => ?_))
        refine gp_as 47 (v' := int ((i + (k + 1) : Nat) : Int)) rfl (congrArg (Value.int .i64) (by push_cast; omega)) ?_
        refine p_q (q := by intro Δ; exact qs_sliceStr (l := i) (h := i + (k + 1)) inferInstance rfl (.some rfl rfl) (.some rfl rfl) (by omega) (by rw [hz]; omega)) ?_
        refine gp_as 48 (v' := .string (txt ((L.drop i).take (k + 1)))) rfl (by rw [ext_txt, show i + (k + 1) - i = k + 1 by omega]) ?_
        repeat (first
          | (refine gp_take ?_; first | refine pT ?_ | ((fail_if_success refine gp_lit rfl rfl rfl rfl ?_); first | apply gp_guard_dec rfl rfl rfl rfl | apply gp_guard rfl rfl rfl rfl | fail))
          | (refine gp_see ?_; first | refine p_f ?_ | refine pS ?_ | ((fail_if_success refine gp_lit rfl rfl rfl rfl ?_); first | apply gp_guard_dec rfl rfl rfl rfl | apply gp_guard rfl rfl rfl rfl | fail))
          | (refine gp_one ?_; first | refine pO ?_ | refine p_n (fun _ => ?_) | refine p_app (fun _ _ => ?_) | refine p_b0 (fun _ => ?_) | ((fail_if_success refine gp_lit rfl rfl rfl rfl ?_); first | apply gp_guard_dec rfl rfl rfl rfl | apply gp_guard rfl rfl rfl rfl | fail) | refine p_cP (hu) hd hk (fun _ _ => ?_))
          | refine gp_two ?_ ?_ | refine gp_done hd hk ?_ | intro _ | refine p_ta hd hk (fun _ _ _ hd hk => ?_) | refine p_ts hd hk (fun _ hd hk => ?_))
        exact gM () trivial
      cases bad
      · repeat (first
          | (refine g_ops ?_; first | refine sO ?_ | refine s_n (fun _ => ?_) | refine s_app (fun _ _ => ?_) | refine s_b0 (fun _ => ?_) | ((fail_if_success refine g_lit rfl rfl rfl ?_); first | apply g_partM rfl rfl rfl | apply g_partMB rfl rfl rfl | fail))
          | refine gS ?_ | exact s_m | intro _)
        rw [show (i : Int) + ((k : Int) + 1) = ((i + (k + 1) : Nat) : Int) by push_cast; rfl]
        exact gR () trivial
      · repeat (first
          | (refine g_ops ?_; first | refine sO ?_ | refine s_n (fun _ => ?_) | refine s_app (fun _ _ => ?_) | refine s_b0 (fun _ => ?_) | ((fail_if_success refine g_lit rfl rfl rfl ?_); first | apply g_partM rfl rfl rfl | apply g_partMB rfl rfl rfl | fail))
          | refine gS ?_ | exact s_m | intro _)
        rw [show (i : Int) + ((k : Int) + 1) = ((i + (k + 1) : Nat) : Int) by push_cast; rfl]
        exact gR () trivial
    · rw [if_neg hq] at he
      refine g_as 31 (v' := .bool false) rfl (congrArg Value.bool ((bif3 k r 34 esc).trans (decide_eq_false hq))) ?_
      repeat (first
        | (refine g_ops ?_; first | refine sO ?_ | refine s_n (fun _ => ?_) | refine s_app (fun _ _ => ?_) | refine s_b0 (fun _ => ?_) | ((fail_if_success refine g_lit rfl rfl rfl ?_); first | apply g_partM rfl rfl rfl | apply g_partMB rfl rfl rfl | fail))
        | apply g_regB (id := 5) 31 | apply g_regB (id := 10) 3 | refine gS ?_ | exact s_m | intro _ | (refine gp_take ?_; first | refine pT ?_ | ((fail_if_success refine gp_lit rfl rfl rfl rfl ?_); first | apply gp_guard_dec rfl rfl rfl rfl | apply gp_guard rfl rfl rfl rfl | fail))
        | (refine gp_see ?_; first | refine p_f ?_ | refine pS ?_ | ((fail_if_success refine gp_lit rfl rfl rfl rfl ?_); first | apply gp_guard_dec rfl rfl rfl rfl | apply gp_guard rfl rfl rfl rfl | fail))
        | (refine gp_one ?_; first | refine pO ?_ | refine p_n (fun _ => ?_) | refine p_app (fun _ _ => ?_) | refine p_b0 (fun _ => ?_) | ((fail_if_success refine gp_lit rfl rfl rfl rfl ?_); first | apply gp_guard_dec rfl rfl rfl rfl | apply gp_guard rfl rfl rfl rfl | fail))
        | refine gp_two ?_ ?_ | refine gp_done hd hk ?_ | intro _ | refine p_ta hd hk (fun _ _ _ hd hk => ?_) | refine p_ts hd hk (fun _ hd hk => ?_))
      refine g_as 3 (v' := .bool (decide (0 < k ∧ r = 92 ∧ esc = false))) rfl (congrArg Value.bool (bif3 k r 92 esc)) ?_
      exact gA ⟨k + w, f, _⟩ (by simp only; omega) ⟨by dsimp only; omega, hin, he⟩
  · rw [scR_end _ f k esc hlt] at he
    rw [he]
    refine g_v (vs_nextEnd rfl (by (repeat (first | exact Sel.here | apply Sel.there)); first | done | fail) hlt) rfl rfl ?_
    repeat (first
      | (refine g_ops ?_; first | refine sO ?_ | refine s_n (fun _ => ?_) | refine s_app (fun _ _ => ?_) | refine s_b0 (fun _ => ?_) | ((fail_if_success refine g_lit rfl rfl rfl ?_); first | apply g_partM rfl rfl rfl | apply g_partMB rfl rfl rfl | fail))
      | refine gS ?_ | exact s_m | intro _)
    exact gR () trivial
end Go.Proofs.YtaahibcibgljbaaGreatDoor
