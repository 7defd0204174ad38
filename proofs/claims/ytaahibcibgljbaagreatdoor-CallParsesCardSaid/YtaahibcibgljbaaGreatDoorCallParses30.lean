/- Contracts and laws that the proof stands on. -/
import Derived.Test.YtaahibcibgljbaaGreatDoorCallParses29
import Derived.Test.YtaahibcibgljbaaGreatDoorCallParses26
set_option linter.unusedSimpArgs false
set_option linter.unusedVariables false
namespace Go.Proofs.YtaahibcibgljbaaGreatDoor
open Go.Sl
theorem nx_of {L : List UInt8} {i n : Nat} {c : UInt8} {r : List UInt8} (h : L.drop i = c :: r) : nx L ⟨i, n, false⟩ = c := by
  obtain ⟨h1, h2, _⟩ := drop_head h
  exact (if_pos ⟨rfl, h1⟩).trans h2
def CompD (L : List UInt8) (v : V) : Prop := ∀ (lv n F i : Nat) (lz nz : Int) (rest : List UInt8), lz = lv → nz = n → (weigh v lz nz).1 = 0 → L.drop i = textL v ++ rest → stop rest → 2 * (1002 - n) ≤ F → lv ≤ 20 → valD L F lv ⟨i, n, false⟩ = (nrm v, ⟨i + (textL v).length, (weigh v lz nz).2.toNat, false⟩)
theorem stopP (P : Bool) (ks : List ByteArray) (l : List V) (rest : List UInt8) : stop (textK P false ks l ++ shutC P :: rest) := stopK P ks l _ (by cases P <;> decide) rest
theorem compK (L : List UInt8) (P : Bool) : ∀ (l : List V), (∀ x ∈ l, CompD L x) → ∀ (pr : Option ByteArray) (ks : List ByteArray) (lv n F i : Nat) (lz nz : Int) (ka : List ByteArray) (acc : List V) (rest : List UInt8), lz = ((lv + 1 : Nat) : Int) → nz = n → (weighL P pr ks l lz nz).1 = 0 → n ≤ 1000 → (P = true → ks.length = l.length) → L.drop i = textK P (decide (acc.length = 0)) ks l ++ shutC P :: rest → 2 * (1002 - n) + 1 ≤ F → lv < 20 →
    lsD L F lv P ka acc ⟨i, n, false⟩ = (if P = true then ka ++ ks else ka, acc ++ nrmL l, ⟨i + (textK P (decide (acc.length = 0)) ks l).length, (weighL P pr ks l lz nz).2.toNat, false⟩)
  | [], _, pr, ks, lv, n, F, i, lz, nz, ka, acc, rest, hlz, hnz, hw, hn, hk, hd, hF, hlv => by
    obtain ⟨F, rfl⟩ : ∃ F', F = F' + 1 := ⟨F - 1, by omega⟩
    rw [textK_nil, List.nil_append] at hd
    have hks : (if P = true then ka ++ ks else ka) = ka := by
      cases P with
      | false => rfl
      | true =>
        obtain rfl : ks = [] := List.eq_nil_of_length_eq_zero (hk rfl)
        simp
    rw [weighL_nil, textK_nil, nrmL_nil, List.append_nil, lsD_end (.inr (nx_of hd)), hks]
    simp [hnz]
  | x :: l, hl, pr, ks, lv, n, F, i, lz, nz, ka, acc, rest, hlz, hnz, hw, hn, hk, hd, hF, hlv => by
    obtain ⟨F, rfl⟩ : ∃ F', F = F' + 1 := ⟨F - 1, by omega⟩
    have hcx := hl x (List.mem_cons_self ..)
    rw [weighL_cons] at hw ⊢
    split at hw
    · cases hw
    rename_i hkey
    rw [if_neg hkey]
    split at hw
    case isFalse h => exact absurd hw h
    rename_i hx
    rw [if_pos hx]
    have hmm := weigh_most x lz nz (by omega) hx
    obtain ⟨c, r, ec, c1, c2, c3⟩ := text_head hx
    have ihl := compK L P l (fun y hy => hl y (List.mem_cons_of_mem _ hy)) ks.head? ks.tail lv (weigh x lz nz).2.toNat F
    have hstop := stopP P ks.tail l rest
    have hnn : ((weigh x lz nz).2.toNat : Int) = (weigh x lz nz).2 := by omega
    have hfst : decide ((acc ++ [nrm x]).length = 0) = false := decide_eq_false (by simp)
    -- the key, if any, and the value, from j on
    have main : ∀ j, L.drop j = (if P = true then quoteL (ks.headD ByteArray.empty) ++ [58] else []) ++ (textL x ++ (textK P false ks.tail l ++ shutC P :: rest)) →
        lsD L F lv P (if P = true then ka ++ [(quotedT L ⟨j, n, false⟩).1] else ka) (acc ++ [(valD L F (lv + 1) (keyD L P ⟨j, n, false⟩)).1]) (valD L F (lv + 1) (keyD L P ⟨j, n, false⟩)).2 = (if P = true then ka ++ ks else ka, acc ++ nrmL (x :: l), ⟨j + ((if P = true then quoteL (ks.headD ByteArray.empty) ++ [58] else []).length + (textL x).length + (textK P false ks.tail l).length), (weighL P ks.head? ks.tail l lz (weigh x lz nz).2).2.toNat, false⟩) := fun j hj => by
      have hkd : keyD L P ⟨j, n, false⟩ = ⟨j + (if P = true then quoteL (ks.headD ByteArray.empty) ++ [58] else []).length, n, false⟩ := by
        cases P with
        | false => rfl
        | true =>
          rw [if_pos rfl, List.append_assoc] at hj
          have hj2 : L.drop (j + (quoteL (ks.headD ByteArray.empty)).length) = 58 :: (textL x ++ (textK true false ks.tail l ++ shutC true :: rest)) := drop_more hj
          unfold keyD
          rw [if_pos rfl, if_pos rfl, quotedT_quote hj, tk_yes hj2, List.length_append, List.length_singleton]; rfl
      have hka : (if P = true then ka ++ [(quotedT L ⟨j, n, false⟩).1] else ka) = if P = true then ka ++ [ks.headD ByteArray.empty] else ka := by
        cases P with
        | false => rfl
        | true =>
          rw [if_pos rfl, List.append_assoc] at hj
          rw [if_pos rfl, if_pos rfl, quotedT_quote hj]
      have hj3 := drop_more hj
      have hval := hcx (lv + 1) n F _ lz nz _ hlz hnz hx hj3 hstop (by omega) (by omega)
      rw [hka, hkd, hval]
      dsimp only
      rw [ihl _ lz (weigh x lz nz).2 _ (acc ++ [nrm x]) rest hlz hnn.symm hw (by omega) (fun hp => by have := hk hp; simp at this ⊢; omega) (by rw [hfst]; exact drop_more hj3) (by omega) hlv, nrmL_cons, hfst]
      have e1 : (if P = true then (if P = true then ka ++ [ks.headD ByteArray.empty] else ka) ++ ks.tail else (if P = true then ka ++ [ks.headD ByteArray.empty] else ka)) = if P = true then ka ++ ks else ka := by
        cases P with
        | false => rfl
        | true =>
          rw [if_pos rfl, if_pos rfl, if_pos rfl]
          cases ks with
          | nil => have := hk rfl; simp at this
          | cons k ks => simp
      rw [e1, List.append_assoc]
      simp only [List.singleton_append, Prod.mk.injEq, true_and, RS.mk.injEq, and_true]
      omega
    rw [textK_cons] at hd ⊢
    by_cases hf : acc.length = 0
    · rw [decide_eq_true hf, if_pos rfl, List.nil_append] at hd
      rw [decide_eq_true hf, if_pos rfl, List.nil_append]
      have hcm : comma L acc.length ⟨i, n, false⟩ = ⟨i, n, false⟩ := if_neg (by omega)
      have hne : ¬ ((RS.mk i n false).bad = true ∨ nx L ⟨i, n, false⟩ = shutC P) := by
        rintro (h | h)
        · cases h
        · cases P with
          | false =>
            rw [if_neg Bool.false_ne_true, List.nil_append, ec] at hd
            rw [nx_of (show L.drop i = c :: _ from hd)] at h
            exact c1 h
          | true =>
            rw [if_pos rfl] at hd
            rw [nx_of (show L.drop i = 34 :: _ from hd)] at h
            exact absurd h (by decide)
      rw [lsD_go hne, hcm, main i (by rw [hd]; simp only [List.append_assoc])]
      simp only [List.length_append, Prod.mk.injEq, true_and, RS.mk.injEq, and_true]
      omega
    · rw [decide_eq_false hf, if_neg Bool.false_ne_true] at hd
      rw [decide_eq_false hf, if_neg Bool.false_ne_true]
      have hd0 : L.drop i = 44 :: ((if P = true then quoteL (ks.headD ByteArray.empty) ++ [58] else []) ++ (textL x ++ (textK P false ks.tail l ++ shutC P :: rest))) := by rw [hd]; simp only [List.append_assoc, List.singleton_append, List.cons_append, List.nil_append]
      have hcm : comma L acc.length ⟨i, n, false⟩ = ⟨i + 1, n, false⟩ := by unfold comma; rw [if_pos (by omega), tk_yes hd0]
      have hne : ¬ ((RS.mk i n false).bad = true ∨ nx L ⟨i, n, false⟩ = shutC P) := by
        rintro (h | h)
        · cases h
        · rw [nx_of hd0] at h; cases P <;> exact absurd h (by decide)
      rw [lsD_go hne, hcm, main (i + 1) (drop_more (a := [44]) hd0)]
      simp only [List.length_append, List.length_singleton, Prod.mk.injEq, true_and, RS.mk.injEq, and_true]
      omega
theorem compD (L : List UInt8) (v : V) : GoodT v → CompD L v := by
  refine V.ind (Q := fun v => GoodT v → CompD L v) (fun k y m s ks l ih hg => ?_) v
  obtain ⟨hsm, hok⟩ := hg
  obtain ⟨h6, h0, h5, hsk⟩ := hsm
  obtain ⟨hm, hokk⟩ := hok
  intro lv n F i lz nz rest hlz hnz hw hd hst hF hlv
  obtain ⟨k1, k6, hn1, hwf, hwl⟩ := weigh_kind hw
  have ihl : ∀ x ∈ l, CompD L x := fun x hx => ih x hx ⟨hsk x hx, hokk x hx⟩
  obtain ⟨F, rfl⟩ : ∃ F', F = F' + 1 := ⟨F - 1, by omega⟩
  have ht := textL_mk k y m s ks l
  have hnr := nrm_mk k y m s ks l
  rw [valD, if_neg (fun h => h.elim (fun h => by dsimp only at h; omega) (fun h => by omega)), show up ⟨i, n, false⟩ = ⟨i, n + 1, false⟩ from rfl]
  have hw1 := fun w => @wordT_of L w i (n + 1) _ hd
  by_cases e1 : k = 1
  · rw [if_pos e1] at ht hnr
    rw [ht] at hw1 ⊢
    rw [if_pos (by rw [hw1]; rfl), hnr, hwf (by omega), hnz]; rfl
  rw [if_neg e1] at ht hnr
  by_cases e2 : k = 2
  · rw [if_pos e2] at ht hnr
    rw [ht] at hw1 ⊢
    cases y with
    | true => rw [if_neg (by rw [hw1]; simp [boolL]), if_pos (by rw [hw1]; simp [boolL]), hnr, hwf (by omega), hnz]; rfl
    | false => rw [if_neg (by rw [hw1]; simp [boolL]), if_neg (by rw [hw1]; simp [boolL]), if_pos (by rw [hw1]; simp [boolL]), hnr, hwf (by omega), hnz]; rfl
  rw [if_neg e2] at ht hnr
  have nohead : ∀ (c : UInt8) (r : List UInt8), L.drop i = c :: r → c ≠ 110 → c ≠ 116 → c ≠ 102 → ¬ wordT L wNil ⟨i, n + 1, false⟩ = true ∧ ¬ wordT L wTrue ⟨i, n + 1, false⟩ = true ∧ ¬ wordT L wFalse ⟨i, n + 1, false⟩ = true := fun c r hc h1 h2 h3 => by
    refine ⟨?_, ?_, ?_⟩
    · rw [wordT_of hc, decide_eq_true_eq]
      exact fun h => h1 (by injection h)
    · rw [wordT_of hc, decide_eq_true_eq]
      exact fun h => h2 (by injection h)
    · rw [wordT_of hc, decide_eq_true_eq]
      exact fun h => h3 (by injection h)
  by_cases e3 : k = 3
  · rw [if_pos e3] at ht hnr
    rw [ht] at hd ⊢
    obtain ⟨c, r, ec, hc⟩ := decI_head m
    have hd' : L.drop i = c :: (r ++ rest) := by rw [hd, ec]; rfl
    have hcc : ∀ d : UInt8, numC d = false → c ≠ d := fun d hd h => by rw [h, hd] at hc; cases hc
    obtain ⟨n1, n2, n3⟩ := nohead c _ hd' (hcc _ (by decide)) (hcc _ (by decide)) (hcc _ (by decide))
    rw [if_neg n1, if_neg n2, if_neg n3, nx_of hd', if_neg (hcc _ (by decide)), if_pos hc, numberT_dec hm hd hst, hnr, hwf (by omega), hnz]; rfl
  rw [if_neg e3] at ht hnr
  by_cases e4 : k = 4
  · rw [if_pos e4] at ht hnr
    rw [ht] at hd ⊢
    have hd' : L.drop i = 34 :: ((quoteL s).tail ++ rest) := by rw [hd]; unfold quoteL; rfl
    obtain ⟨n1, n2, n3⟩ := nohead 34 _ hd' (by decide) (by decide) (by decide)
    rw [if_neg n1, if_neg n2, if_neg n3, nx_of hd', if_pos rfl, quotedT_quote hd, hnr, hwf (by omega), hnz]; rfl
  rw [if_neg e4] at ht hnr
  obtain ⟨hlv20, hwe⟩ := hwl (by omega)
  rw [hwe] at hw ⊢
  by_cases e5 : k = 5
  · rw [if_pos e5] at ht hnr
    rw [ht] at hd ⊢
    have hd' : L.drop i = 91 :: (textK false true ks l ++ 93 :: rest) := by rw [hd]; simp
    obtain ⟨n1, n2, n3⟩ := nohead 91 _ hd' (by decide) (by decide) (by decide)
    rw [show decide (k = 6) = false from decide_eq_false (by omega)] at hw ⊢
    have hk := compK L false l ihl none ks lv (n + 1) F (i + 1) (lz + 1) (nz + 1) [] [] rest (by rw [hlz]; push_cast; rfl) (by rw [hnz]; push_cast; rfl) hw (by omega) (fun h => by cases h) (drop_more (a := [91]) hd') (by omega) (by omega)
    rw [if_neg n1, if_neg n2, if_neg n3, nx_of hd', if_neg (by decide), if_neg (by decide), if_neg (by decide), if_neg (by decide), show decide ((91 : UInt8) = 123) = false by decide, show adv ⟨i, n + 1, false⟩ 1 = ⟨i + 1, n + 1, false⟩ from rfl, hk, hnr, if_neg Bool.false_ne_true]
    have hd2 : L.drop (i + 1 + (textK false true ks l).length) = shutC false :: rest := drop_more (drop_more (a := [91]) hd')
    dsimp only
    rw [show decide (([] : List V).length = 0) = true from rfl, tk_yes hd2]
    simp only [listV, List.nil_append, List.length_cons, List.length_append, List.length_nil, Prod.mk.injEq, true_and, RS.mk.injEq, and_true]
    omega
  · have e6 : k = 6 := by omega
    rw [if_neg e5, if_pos e6] at ht
    rw [if_neg e5] at hnr
    rw [ht] at hd ⊢
    have hd' : L.drop i = 123 :: (textK true true ks l ++ 125 :: rest) := by rw [hd]; simp
    obtain ⟨n1, n2, n3⟩ := nohead 123 _ hd' (by decide) (by decide) (by decide)
    rw [show decide (k = 6) = true from decide_eq_true e6] at hw ⊢
    have hk := compK L true l ihl none ks lv (n + 1) F (i + 1) (lz + 1) (nz + 1) [] [] rest (by rw [hlz]; push_cast; rfl) (by rw [hnz]; push_cast; rfl) hw (by omega) (fun _ => h6 e6) (drop_more (a := [123]) hd') (by omega) (by omega)
    rw [if_neg n1, if_neg n2, if_neg n3, nx_of hd', if_neg (by decide), if_neg (by decide), if_neg (by decide), if_pos rfl, show decide ((123 : UInt8) = 123) = true by decide, show adv ⟨i, n + 1, false⟩ 1 = ⟨i + 1, n + 1, false⟩ from rfl, hk, hnr, if_pos rfl]
    have hd2 : L.drop (i + 1 + (textK true true ks l).length) = shutC true :: rest := drop_more (drop_more (a := [123]) hd')
    dsimp only
    rw [show decide (([] : List V).length = 0) = true from rfl, tk_yes hd2]
    simp only [pairsV, List.nil_append, List.length_cons, List.length_append, List.length_nil, Prod.mk.injEq, true_and, RS.mk.injEq, and_true]
    omega
def rdD' (L : List UInt8) : V × RS := valD L 2004 0 ⟨0, 0, false⟩
theorem rdD_good (L : List UInt8) : FineD L ⟨0, 0, false⟩ (rdD' L).2 ∧ GoodT (rdD' L).1 ∧ szV (rdD' L).1 ≤ 1001 * Kz L := by
  obtain ⟨h1, _, h3, h4⟩ := (fineD L 2004).1 0 ⟨0, 0, false⟩ (Nat.zero_le _) (fun _ => Nat.zero_le _) (Nat.zero_le _)
  unfold rdD'
  generalize valD L 2004 0 ⟨0, 0, false⟩ = r at h1 h3 h4 ⊢
  refine ⟨h1, h3, ?_⟩
  have hm : r.2.n ≤ 1001 := h1.m
  have h2 : r.2.n * Kz L ≤ 1001 * Kz L := Nat.mul_le_mul_right _ hm
  have h4' : szV r.1 + L.length ≤ r.2.n * Kz L := h4
  exact Nat.le_trans (Nat.le_trans (Nat.le_add_right _ _) h4') h2
theorem rdD_text {v : V} (hw : (weigh v 0 0).1 = 0) (hg : GoodT v) : rdD' (textL v) = (nrm v, ⟨0 + (textL v).length, (weigh v 0 0).2.toNat, false⟩) :=
  compD (textL v) v hg 0 0 2004 0 0 0 [] rfl rfl hw (by rw [List.drop_zero, List.append_nil]) stop_nil (by decide) (by decide)
def okD (L : List UInt8) : Prop := (rdD' L).2.bad = false ∧ (rdD' L).2.at_ = L.length ∧ textB (rdD' L).1 = txt L
theorem rdD_nil : ¬ okD [] := fun h => by
  have : (rdD' []).2.bad = true := by
    unfold rdD'
    rw [show (2004 : Nat) = 2003 + 1 from rfl, valD, if_neg (by decide), if_neg (by decide), if_neg (by decide), if_neg (by decide), if_neg (by decide), if_neg (by decide), if_pos (by decide)]
  rw [h.1] at this
  cases this
theorem okD_of {L : List UInt8} {v : V} (h : parsP L = some v) : okD L ∧ (rdD' L).1 = v := by
  obtain ⟨hw, rfl, hg, hn⟩ := parsP_some h
  have hr := rdD_text hw hg
  rw [hn] at hr
  unfold okD
  rw [hr]
  exact ⟨⟨rfl, Nat.zero_add _, if_pos hw⟩, rfl⟩
theorem okD_no {L : List UInt8} (h : parsP L = none) : ¬ okD L := fun hk => by
  have hk' := hk
  obtain ⟨_, _, ht⟩ := hk
  have hg := (rdD_good L).2.1
  generalize (rdD' L).1 = v at ht hg
  by_cases h0 : (weigh v 0 0).1 = 0
  · have e : textB v = txt (textL v) := if_pos h0
    rw [e] at ht
    rw [← txt_inj ht, parsP_of h0 hg] at h
    cases h
  · have e : textB v = txt [] := if_neg h0
    rw [e] at ht
    rw [← txt_inj ht] at hk'
    exact rdD_nil hk'
end Go.Proofs.YtaahibcibgljbaaGreatDoor

namespace Go.Proofs.YtaahibcibgljbaaGreatDoor
open Go.Sl facts
attribute [local irreducible] Code.wp wpList Exit.then Exit.inBlock bodyPost Back MidQ G GP QStep VStep CStep SStep Does Post Reads
attribute [local irreducible] valD lsD rdD' textB
set_option maxHeartbeats 4000000 in
theorem parseD {H : HP} (L : List UInt8) (hL : L.length ≤ 10000) : Does Tryz.prog 7 [.string (txt L)] [Pile H] (X := HP × Vc) (fun y => .tuple #[.agg y.2.cells.toArray, int (if (parsP L).isSome = true then 0 else 10)]) (fun y => [Pile y.1])
    (fun y => HP.sub H y.1 ∧ ∀ v, parsP L = some v → VAt (Pile y.1) v y.2) := by
  have hval := fun b => valD_ L (by omega) 2004 H b 0 ⟨0, 0, false⟩ (Nat.zero_le _) (fun _ => Nat.zero_le _) (Nat.zero_le _) (by decide) (by decide)
  have hg := rdD_good L
  have hz : (txt L).size = L.length := txt_size L
  have e0 : valD L 2004 0 ⟨0, 0, false⟩ = rdD' L := by unfold rdD'; rfl
  have hy1 := @okD_of L
  have hy2 := @okD_no L
  unfold okD at hy1 hy2
  rw [e0] at hval
  generalize rdD' L = r at hval hg hy1 hy2
  obtain ⟨v, i, n, bad⟩ := r
  obtain ⟨hf, ⟨hsm, hok⟩, hsz⟩ := hg
  dsimp only at hf hsm hok hsz hy1 hy2
  unfold VdD at hval
  dsimp only [rdD] at hval
  refine fn_intro Tryz.func7 rfl Tryz.ntmps7 rfl (by simp only [argFr, Nat.zero_add, Nat.reduceAdd]; rfl) (fun Γ => ?_)
  repeat (first
    | (refine g_ops ?_; first | refine sO ?_ | refine s_n (fun _ => ?_) | refine s_app (fun _ _ => ?_) | refine s_b0 (fun _ => ?_) | ((fail_if_success refine g_lit rfl rfl rfl ?_); first | apply g_partM rfl rfl rfl | apply g_partMB rfl rfl rfl | fail))
    | refine gS ?_ | exact s_m | intro _)
  rename_i b
  have hvb := hval b
  repeat (first
    | (refine g_ops ?_; first | refine sO ?_ | refine s_n (fun _ => ?_) | refine s_app (fun _ _ => ?_) | refine s_b0 (fun _ => ?_) | ((fail_if_success refine g_lit rfl rfl rfl ?_); first | apply g_partM rfl rfl rfl | apply g_partMB rfl rfl rfl | fail) | refine s_c (hvb) (fun _ _ => ?_))
    | refine gS ?_ | exact s_m | intro _)
  rename_i y hy vb
  obtain ⟨H2, u⟩ := y
  obtain ⟨hs2, hu⟩ := hy
  dsimp only [List.cons_append, List.nil_append] at hs2 hu ⊢
  have hw := write1d H2 v u hu hsm (by unfold Kz at hsz; omega)
  have hno : ∀ w, ¬ (bad = false ∧ i = L.length ∧ textB v = txt L) → parsP L = some w → False := fun w h hp => h (hy1 hp).1
  have hnn : ¬ (bad = false ∧ i = L.length ∧ textB v = txt L) → (parsP L).isSome = false := fun h => by
    cases hp : parsP L with
    | none => rfl
    | some w => exact absurd (hy1 hp).1 h
  cases bad
  · by_cases hi : i = L.length
    · by_cases hc : textB v = txt L
      · have hp : ∃ w, parsP L = some w ∧ v = w := by
          cases hp : parsP L with
          | none => exact absurd ⟨rfl, hi, hc⟩ (hy2 hp)
          | some w => exact ⟨w, rfl, (hy1 hp).2⟩
        obtain ⟨w, hp, rfl⟩ := hp
        rw [hp]
        repeat ((fail_if_success refine s_at 22 ?_); first
          | (refine g_ops ?_; first | refine sO ?_ | refine s_n (fun _ => ?_) | refine s_app (fun _ _ => ?_) | refine s_b0 (fun _ => ?_) | ((fail_if_success refine g_lit rfl rfl rfl ?_); first | apply g_partM rfl rfl rfl | apply g_partMB rfl rfl rfl | fail))
          | refine gS ?_ | exact s_m | intro _)
        first
          | (refine g_ops ?_; first | refine sO ?_ | refine s_n (fun _ => ?_) | refine s_app (fun _ _ => ?_) | refine s_b0 (fun _ => ?_) | ((fail_if_success refine g_lit rfl rfl rfl ?_); first | apply g_partM rfl rfl rfl | apply g_partMB rfl rfl rfl | fail))
          | refine gS ?_ | exact s_m | intro _
        refine g_as 22 (v' := .bool false) rfl (congrArg Value.bool (decide_eq_false (by rw [hz]; omega))) ?_
        repeat (first
          | (refine g_ops ?_; first | refine sO ?_ | refine s_n (fun _ => ?_) | refine s_app (fun _ _ => ?_) | refine s_b0 (fun _ => ?_) | ((fail_if_success refine g_lit rfl rfl rfl ?_); first | apply g_partM rfl rfl rfl | apply g_partMB rfl rfl rfl | fail) | refine s_k (hw) ?_)
          | refine gS ?_ | exact s_m | intro _)
        refine g_as 29 (v' := .bool false) rfl (congrArg Value.bool (by simp [hc])) ?_
        repeat (first
          | (refine g_ops ?_; first | refine sO ?_ | refine s_n (fun _ => ?_) | refine s_app (fun _ _ => ?_) | refine s_b0 (fun _ => ?_) | ((fail_if_success refine g_lit rfl rfl rfl ?_); first | apply g_partM rfl rfl rfl | apply g_partMB rfl rfl rfl | fail))
          | refine gS ?_ | exact s_m | intro _)
        exact gR (H2, u) ⟨hs2, fun v' h => by injection h with h; rw [← h]; exact hu⟩
      · rw [hnn (fun h => hc h.2.2)]
        repeat ((fail_if_success refine s_at 22 ?_); first
          | (refine g_ops ?_; first | refine sO ?_ | refine s_n (fun _ => ?_) | refine s_app (fun _ _ => ?_) | refine s_b0 (fun _ => ?_) | ((fail_if_success refine g_lit rfl rfl rfl ?_); first | apply g_partM rfl rfl rfl | apply g_partMB rfl rfl rfl | fail))
          | refine gS ?_ | exact s_m | intro _)
        first
          | (refine g_ops ?_; first | refine sO ?_ | refine s_n (fun _ => ?_) | refine s_app (fun _ _ => ?_) | refine s_b0 (fun _ => ?_) | ((fail_if_success refine g_lit rfl rfl rfl ?_); first | apply g_partM rfl rfl rfl | apply g_partMB rfl rfl rfl | fail))
          | refine gS ?_ | exact s_m | intro _
        refine g_as 22 (v' := .bool false) rfl (congrArg Value.bool (decide_eq_false (by rw [hz]; omega))) ?_
        repeat (first
          | (refine g_ops ?_; first | refine sO ?_ | refine s_n (fun _ => ?_) | refine s_app (fun _ _ => ?_) | refine s_b0 (fun _ => ?_) | ((fail_if_success refine g_lit rfl rfl rfl ?_); first | apply g_partM rfl rfl rfl | apply g_partMB rfl rfl rfl | fail) | refine s_k (hw) ?_)
          | refine gS ?_ | exact s_m | intro _)
        refine g_as 29 (v' := .bool true) rfl (congrArg Value.bool (by simp [hc])) ?_
        repeat (first
          | (refine g_ops ?_; first | refine sO ?_ | refine s_n (fun _ => ?_) | refine s_app (fun _ _ => ?_) | refine s_b0 (fun _ => ?_) | ((fail_if_success refine g_lit rfl rfl rfl ?_); first | apply g_partM rfl rfl rfl | apply g_partMB rfl rfl rfl | fail))
          | refine gS ?_ | exact s_m | intro _)
        exact gR (H2, vc0 0 false 0 ByteArray.empty) ⟨hs2, fun v' h => (hno v' (fun h => hc h.2.2) h).elim⟩
    · rw [hnn (fun h => hi h.2.1)]
      repeat ((fail_if_success refine s_at 22 ?_); first
        | (refine g_ops ?_; first | refine sO ?_ | refine s_n (fun _ => ?_) | refine s_app (fun _ _ => ?_) | refine s_b0 (fun _ => ?_) | ((fail_if_success refine g_lit rfl rfl rfl ?_); first | apply g_partM rfl rfl rfl | apply g_partMB rfl rfl rfl | fail))
        | refine gS ?_ | exact s_m | intro _)
      first
        | (refine g_ops ?_; first | refine sO ?_ | refine s_n (fun _ => ?_) | refine s_app (fun _ _ => ?_) | refine s_b0 (fun _ => ?_) | ((fail_if_success refine g_lit rfl rfl rfl ?_); first | apply g_partM rfl rfl rfl | apply g_partMB rfl rfl rfl | fail))
        | refine gS ?_ | exact s_m | intro _
      refine g_as 22 (v' := .bool true) rfl (congrArg Value.bool (decide_eq_true (by rw [hz]; omega))) ?_
      repeat (first
        | (refine g_ops ?_; first | refine sO ?_ | refine s_n (fun _ => ?_) | refine s_app (fun _ _ => ?_) | refine s_b0 (fun _ => ?_) | ((fail_if_success refine g_lit rfl rfl rfl ?_); first | apply g_partM rfl rfl rfl | apply g_partMB rfl rfl rfl | fail))
        | refine gS ?_ | exact s_m | intro _)
      exact gR (H2, vc0 0 false 0 ByteArray.empty) ⟨hs2, fun v' h => (hno v' (fun h => hi h.2.1) h).elim⟩
  · rw [hnn (fun h => by cases h.1)]
    repeat (first
      | (refine g_ops ?_; first | refine sO ?_ | refine s_n (fun _ => ?_) | refine s_app (fun _ _ => ?_) | refine s_b0 (fun _ => ?_) | ((fail_if_success refine g_lit rfl rfl rfl ?_); first | apply g_partM rfl rfl rfl | apply g_partMB rfl rfl rfl | fail))
      | refine gS ?_ | exact s_m | intro _)
    exact gR (H2, vc0 0 false 0 ByteArray.empty) ⟨hs2, fun v' h => (hno v' (fun h => by cases h.1) h).elim⟩
structure FpX where
  i : Nat
  kl : List ByteArray
  kq : Option Addr
  kc : Nat
  q : Option Addr
  c : Nat
  us : List Vc
  H : HP
structure FlX where
  i : Nat
  q : Option Addr
  c : Nat
  us : List Vc
  H : HP
theorem KOk.kind {v : V} (h : KOk v) : 1 ≤ v.kind ∧ v.kind ≤ 6 := by cases h <;> assumption
end Go.Proofs.YtaahibcibgljbaaGreatDoor

namespace Go.Proofs.YtaahibcibgljbaaGreatDoor
open Go.Sl facts
attribute [local irreducible] Code.wp wpList Exit.then Exit.inBlock bodyPost Back MidQ G GP QStep VStep CStep SStep Does Post Reads
theorem szGood {v : V} {L : List UInt8} (h : parsP L = some v) : szV v ≤ 1001 * Kz L := by
  have := (rdD_good L).2.2
  rwa [(okD_of h).2] at this
attribute [local irreducible] textB parsP weigh weighL callS ofOk ofC docOf
set_option maxHeartbeats 8000000 in
theorem cparses {H : HP} (hT : Tb H) (hE : ErrH H) (s : ByteArray) : Does1 Tryz.prog 3 [.string s] [Pile H] (.bool true) := by
  obtain ⟨L, rfl⟩ : ∃ L, s = txt L := ⟨s.data.toList, by unfold txt; simp⟩
  have hz : (txt L).size = L.length := txt_size L
  have aw := awake28 hT hE
  refine fn_intro Tryz.func3 rfl Tryz.ntmps3 rfl (by simp only [argFr, Nat.zero_add, Nat.reduceAdd]; rfl) (fun Γ => ?_)
  repeat (first
    | (refine g_ops ?_; first | refine sO ?_ | refine s_n (fun _ => ?_) | refine s_app (fun _ _ => ?_) | refine s_b0 (fun _ => ?_) | ((fail_if_success refine g_lit rfl rfl rfl ?_); first | apply g_partM rfl rfl rfl | apply g_partMB rfl rfl rfl | fail))
    | refine gS ?_ | exact s_m | intro _)
  refine g_cond_dec rfl (fun h1 => ?_) (fun h1 => ?_)
  · repeat (first
      | (refine g_ops ?_; first | refine sO ?_ | refine s_n (fun _ => ?_) | refine s_app (fun _ _ => ?_) | refine s_b0 (fun _ => ?_) | ((fail_if_success refine g_lit rfl rfl rfl ?_); first | apply g_partM rfl rfl rfl | apply g_partMB rfl rfl rfl | fail) | refine s_k (aw) ?_)
      | refine gS ?_ | exact s_m | intro _)
    exact s_r ()
  rw [hz] at h1
  have hp1 := cparse1 hT hE L (by omega)
  have hps := @parsP_some L
  have hsz := fun v => @szGood v L
  have hd1 := fun H2 => parseD (H := H2) L (by omega)
  unfold cpE cpC at hp1
  generalize parsP L = r at hp1 hps hsz hd1
  cases r with
  | none =>
    dsimp only [Option.isSome] at hp1 hd1
    repeat (first
      | (refine g_ops ?_; first | refine sO ?_ | refine s_n (fun _ => ?_) | refine s_app (fun _ _ => ?_) | refine s_b0 (fun _ => ?_) | ((fail_if_success refine g_lit rfl rfl rfl ?_); first | apply g_partM rfl rfl rfl | apply g_partMB rfl rfl rfl | fail) | refine s_c (hp1) (fun _ _ => ?_))
      | refine gS ?_ | exact s_m | intro _)
    rename_i y1 hy1 b3
    obtain ⟨H2, c1⟩ := y1
    obtain ⟨hs2, hc1⟩ := hy1
    dsimp only at hs2 hc1 ⊢
    try dsimp only [List.cons_append, List.nil_append, List.append_eq]
    have hd2 := hd1 H2
    repeat (first
      | (refine g_ops ?_; first | refine sO ?_ | refine s_n (fun _ => ?_) | refine s_app (fun _ _ => ?_) | refine s_b0 (fun _ => ?_) | ((fail_if_success refine g_lit rfl rfl rfl ?_); first | apply g_partM rfl rfl rfl | apply g_partMB rfl rfl rfl | fail) | refine s_c (hd2) (fun _ _ => ?_))
      | refine gS ?_ | exact s_m | intro _)
    rename_i y2 hy2 b5
    obtain ⟨H3, u⟩ := y2
    obtain ⟨hs3, _⟩ := hy2
    dsimp only at hs3 ⊢
    try dsimp only [List.cons_append, List.nil_append, List.append_eq]
    have hs4 := hs2.trans hs3
    have aw3 := awake28 (hT.grow hs4) (hE.grow hs4)
    have hsm := same28 (hc1.grow hs3) (ClAt.zero (H := H3)) (fun _ h => by cases h) (Nat.zero_le _)
    dsimp only [Cl.cells] at hsm
    repeat (first
      | (refine g_ops ?_; first | refine sO ?_ | refine s_n (fun _ => ?_) | refine s_app (fun _ _ => ?_) | refine s_b0 (fun _ => ?_) | ((fail_if_success refine g_lit rfl rfl rfl ?_); first | apply g_partM rfl rfl rfl | apply g_partMB rfl rfl rfl | fail) | refine s_k (hsm) ?_ | refine s_k (aw3) ?_)
      | refine gS ?_ | exact s_m | intro _)
    refine g_unpile hs4 (by (repeat (first | exact Sel.here | apply Sel.there)); first | done | fail) ?_
    exact s_r ()
  | some v =>
    dsimp only [Option.isSome] at hp1 hd1
    obtain ⟨hw, _, hg, hn⟩ := hps rfl
    have hz2 := hsz v rfl
    have hbd := Bnd2.read hw hn
    have hlk : v.kind = 6 → v.keys.length = v.kids.length := by
      have := hg.1
      cases this with
      | mk h6 _ _ _ => exact h6
    obtain ⟨e1, e2⟩ := of_same hlk
    rw [e1, e2] at hp1
    repeat (first
      | (refine g_ops ?_; first | refine sO ?_ | refine s_n (fun _ => ?_) | refine s_app (fun _ _ => ?_) | refine s_b0 (fun _ => ?_) | ((fail_if_success refine g_lit rfl rfl rfl ?_); first | apply g_partM rfl rfl rfl | apply g_partMB rfl rfl rfl | fail) | refine s_c (hp1) (fun _ _ => ?_))
      | refine gS ?_ | exact s_m | intro _)
    rename_i y1 hy1 b3
    obtain ⟨H2, c1⟩ := y1
    obtain ⟨hs2, hc1⟩ := hy1
    dsimp only at hs2 hc1 ⊢
    try dsimp only [List.cons_append, List.nil_append, List.append_eq]
    have hd2 := hd1 H2
    repeat (first
      | (refine g_ops ?_; first | refine sO ?_ | refine s_n (fun _ => ?_) | refine s_app (fun _ _ => ?_) | refine s_b0 (fun _ => ?_) | ((fail_if_success refine g_lit rfl rfl rfl ?_); first | apply g_partM rfl rfl rfl | apply g_partMB rfl rfl rfl | fail) | refine s_c (hd2) (fun _ _ => ?_))
      | refine gS ?_ | exact s_m | intro _)
    rename_i y2 hy2 b5
    obtain ⟨H3, u⟩ := y2
    obtain ⟨hs3, hu⟩ := hy2
    dsimp only at hs3 hu ⊢
    try dsimp only [List.cons_append, List.nil_append, List.append_eq]
    have hu := hu v rfl
    have hof := ofD v u hu hg.1 (by unfold Kz at hz2; omega) hbd
    dsimp only [Vc.cells] at hof ⊢
    repeat (first
      | (refine g_ops ?_; first | refine sO ?_ | refine s_n (fun _ => ?_) | refine s_app (fun _ _ => ?_) | refine s_b0 (fun _ => ?_) | ((fail_if_success refine g_lit rfl rfl rfl ?_); first | apply g_partM rfl rfl rfl | apply g_partMB rfl rfl rfl | fail) | refine s_c (hof) (fun _ _ => ?_))
      | refine gS ?_ | exact s_m | intro _)
    rename_i y3 hy3 b7
    obtain ⟨H4, c2⟩ := y3
    obtain ⟨hs4, hc2⟩ := hy3
    dsimp only at hs4 hc2 ⊢
    try dsimp only [List.cons_append, List.nil_append, List.append_eq]
    obtain ⟨p1, p2⟩ := doc_pv hbd
    have hsm := same28 (hc1.grow (hs3.trans hs4)) hc2 p1 p2
    have hs5 := (hs2.trans hs3).trans hs4
    have aw3 := awake28 (hT.grow hs5) (hE.grow hs5)
    dsimp only [Cl.cells] at hsm ⊢
    repeat (first
      | (refine g_ops ?_; first | refine sO ?_ | refine s_n (fun _ => ?_) | refine s_app (fun _ _ => ?_) | refine s_b0 (fun _ => ?_) | ((fail_if_success refine g_lit rfl rfl rfl ?_); first | apply g_partM rfl rfl rfl | apply g_partMB rfl rfl rfl | fail) | refine s_k (hsm) ?_ | refine s_k (aw3) ?_)
      | refine gS ?_ | exact s_m | intro _)
    refine g_as 48 (v' := .bool true) rfl (congrArg Value.bool (by simp)) ?_
    repeat (first
      | (refine g_ops ?_; first | refine sO ?_ | refine s_n (fun _ => ?_) | refine s_app (fun _ _ => ?_) | refine s_b0 (fun _ => ?_) | ((fail_if_success refine g_lit rfl rfl rfl ?_); first | apply g_partM rfl rfl rfl | apply g_partMB rfl rfl rfl | fail) | refine s_k (aw3) ?_)
      | refine gS ?_ | exact s_m | intro _)
    refine g_unpile hs5 (by (repeat (first | exact Sel.here | apply Sel.there)); first | done | fail) ?_
    exact s_r ()
end Go.Proofs.YtaahibcibgljbaaGreatDoor
