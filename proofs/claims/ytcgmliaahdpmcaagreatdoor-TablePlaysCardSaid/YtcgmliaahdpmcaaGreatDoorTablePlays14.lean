/- Contracts and laws that the proof stands on. -/
import Derived.Test.YtcgmliaahdpmcaaGreatDoorTablePlays11
import Derived.Test.YtcgmliaahdpmcaaGreatDoorTablePlays13
import Derived.Lib.MapLaws
import Derived.Lib.ValidLaws
set_option linter.unusedSimpArgs false
set_option linter.unusedVariables false
namespace Go.Proofs.YtcgmliaahdpmcaaGreatDoor
open Go.Sl
theorem size_zero {s : ByteArray} (h : s.size = 0) : s = ⟨#[]⟩ := by
  obtain ⟨⟨l⟩⟩ := s
  have : l.length = 0 := h
  rw [List.length_eq_zero_iff.1 this]
def validB (s : ByteArray) : Bool := Lib.validD s.data.toList
def wrongB (s : ByteArray) (k : Nat) : Bool := decide ((Utf8.decode s k).1 = 65533 ∧ (Utf8.decode s k).2 = 1)
theorem decode_in (s : ByteArray) (k : Nat) (h : k < s.size) : k + (Utf8.decode s k).2 ≤ s.size := by
  have h2 : s.data.toList.length = s.size := by simp
  have := Lib.decodeL_le (s.data.toList.drop k) (by intro e; have := congrArg List.length e; rw [List.length_drop, h2] at this; simp at this; omega)
  rw [Lib.decodeL_drop, List.length_drop, h2] at this
  omega
def posF (s : ByteArray) : Nat → Nat → List Nat
  | 0, _ => []
  | f + 1, k => if k < s.size then k :: posF s f (k + (Utf8.decode s k).2) else []
theorem posF_end (s : ByteArray) (f k : Nat) (h : ¬ k < s.size) : posF s f k = [] := by cases f <;> simp [posF, h]
theorem posF_go (s : ByteArray) (f k : Nat) (h : k < s.size) : posF s (f + 1) k = k :: posF s f (k + (Utf8.decode s k).2) := by simp [posF, h]
theorem rnsF_pos (s : ByteArray) : ∀ f k, rnsF s f k = (posF s f k).map fun k => (Utf8.decode s k).1
  | 0, k => rfl
  | f + 1, k => by
    by_cases h : k < s.size
    · rw [rnsF_go s f k h, posF_go s f k h, List.map_cons, rnsF_pos s f]
    · rw [rnsF_end s _ k h, posF_end s _ k h]; rfl
theorem valid_pos (s : ByteArray) : ∀ f k, s.size ≤ k + f → Lib.validD (s.data.toList.drop k) = (posF s f k).all fun k => !wrongB s k := by
  have h2 : s.data.toList.length = s.size := by simp
  have hend : ∀ k, ¬ k < s.size → Lib.validD (s.data.toList.drop k) = true := fun k h => by
    rw [List.drop_eq_nil_of_le (by rw [h2]; omega)]; rfl
  intro f
  induction f with
  | zero => intro k h; rw [hend k (by omega)]; rfl
  | succ f ih =>
    intro k h
    by_cases hk : k < s.size
    · have hw := Lib.decode_width_pos s k hk
      have hne : s.data.toList.drop k ≠ [] := fun e => by have := congrArg List.length e; rw [List.length_drop, h2] at this; simp at this; omega
      rw [Lib.validD_step _ hne, Lib.decodeL_drop, posF_go s f k hk, List.all_cons, ← ih _ (by omega), List.drop_drop]
      by_cases hb : (Utf8.decode s k).1 = 65533 ∧ (Utf8.decode s k).2 = 1
      · rw [if_pos hb, show wrongB s k = true from decide_eq_true hb]; rfl
      · rw [if_neg hb, show wrongB s k = false from decide_eq_false hb]; rfl
    · rw [hend k hk, posF_end s _ k hk]; rfl
def pos (s : ByteArray) : List Nat := posF s s.size 0
theorem validB_pos (s : ByteArray) : validB s = (pos s).all fun k => !wrongB s k := by
  have := valid_pos s s.size 0 (by omega)
  rwa [List.drop_zero] at this
theorem rns_pos (s : ByteArray) : rns s = (pos s).map fun k => (Utf8.decode s k).1 := rnsF_pos s s.size 0
theorem keyB_pos (s : ByteArray) : keyB s = (decide ((pos s).length ≤ 40) && (pos s).all fun k => !(wrongB s k || controlB (Utf8.decode s k).1)) := by
  unfold keyB everyB
  rw [show Lib.validD s.data.toList = validB s from rfl, validB_pos, rns_pos, List.length_map, List.all_map, Bool.and_assoc]
  congr 1
  induction pos s with
  | nil => rfl
  | cons k l ih =>
    simp only [List.all_cons, Function.comp_apply] at ih ⊢
    rw [← ih]
    cases controlB (Utf8.decode s k).1 <;> cases wrongB s k <;> simp
structure Rn where
  r : Nat
  a : Nat
  e : Nat
  no : Bool
def Rn.cells (x : Rn) : List Value := [.int .i32 (x.r : Int), .int .i64 (x.a : Int), .int .i64 (x.e : Int), .bool x.no]
theorem Rn.len (x : Rn) : x.cells.length = 4 := rfl
def rn0 (s : ByteArray) (k : Nat) : Rn := ⟨(Utf8.decode s k).1, k, k + (Utf8.decode s k).2, false⟩
def rn1 (s : ByteArray) (k : Nat) : Rn := ⟨(Utf8.decode s k).1, k, k + (Utf8.decode s k).2, wrongB s k⟩
def openL (s : ByteArray) : List Nat → List Rn
  | [] => []
  | [p] => [⟨(Utf8.decode s p).1, p, s.size, false⟩]
  | p :: q :: l => ⟨(Utf8.decode s p).1, p, q, false⟩ :: openL s (q :: l)
theorem openL_snoc (s : ByteArray) (p : Nat) : ∀ ps : List Nat, ∃ A : List Rn, A.length = ps.length ∧ openL s (ps ++ [p]) = A ++ [⟨(Utf8.decode s p).1, p, s.size, false⟩] ∧ ∀ k, openL s (ps ++ [p] ++ [k]) = A ++ [⟨(Utf8.decode s p).1, p, k, false⟩, ⟨(Utf8.decode s k).1, k, s.size, false⟩]
  | [] => ⟨[], rfl, rfl, fun _ => rfl⟩
  | [q] => ⟨[⟨(Utf8.decode s q).1, q, p, false⟩], rfl, rfl, fun _ => rfl⟩
  | q :: r :: l => by
    obtain ⟨A, h0, h1, h2⟩ := openL_snoc s p (r :: l)
    refine ⟨⟨(Utf8.decode s q).1, q, r, false⟩ :: A, by simp at h0 ⊢; omega, ?_, fun k => ?_⟩
    · show _ :: openL s (r :: l ++ [p]) = _
      rw [h1]; rfl
    · show _ :: openL s (r :: l ++ [p] ++ [k]) = _
      rw [h2]; rfl
theorem openL_pos (s : ByteArray) : ∀ f k, s.size ≤ k + f → openL s (posF s f k) = (posF s f k).map (rn0 s)
  | 0, k, _ => rfl
  | f + 1, k, h => by
    by_cases hk : k < s.size
    · have hw := Lib.decode_width_pos s k hk
      have hin := decode_in s k hk
      rw [posF_go s f k hk]
      have ih := openL_pos s f (k + (Utf8.decode s k).2) (by omega)
      by_cases h2 : k + (Utf8.decode s k).2 < s.size
      · obtain ⟨f, rfl⟩ : ∃ f', f = f' + 1 := ⟨f - 1, by omega⟩
        rw [posF_go s f _ h2] at ih ⊢
        show _ :: openL s (_ :: _) = _
        rw [ih]; rfl
      · rw [posF_end s f _ h2]
        have e : k + (Utf8.decode s k).2 = s.size := by omega
        simp only [openL, List.map_cons, List.map_nil, rn0, e]
    · rw [posF_end s _ k hk]; rfl
theorem posF_mem (s : ByteArray) : ∀ f k p, p ∈ posF s f k → p < s.size
  | f + 1, k, p, h => by
    by_cases hk : k < s.size
    · rw [posF_go s f k hk] at h
      rcases List.mem_cons.1 h with rfl | h
      · exact hk
      · exact posF_mem s f _ p h
    · rw [posF_end s _ k hk] at h; cases h
theorem posF_len (s : ByteArray) : ∀ f k, k ≤ s.size → (posF s f k).length ≤ s.size - k
  | 0, k, h => by simp [posF]
  | f + 1, k, h => by
    by_cases hk : k < s.size
    · have hw := Lib.decode_width_pos s k hk
      have hin := decode_in s k hk
      have := posF_len s f _ hin
      rw [posF_go s f k hk, List.length_cons]; omega
    · rw [posF_end s _ k hk]; simp
theorem pos_len (s : ByteArray) : (pos s).length ≤ s.size := by have := posF_len s s.size 0 (Nat.zero_le _); unfold pos; omega
theorem pos_mem {s : ByteArray} {p : Nat} (h : p ∈ pos s) : p < s.size := posF_mem s _ _ p h
def halfL (s : ByteArray) (i : Nat) : List Rn := ((pos s).take i).map (rn1 s) ++ ((pos s).drop i).map (rn0 s)
theorem halfL_len (s : ByteArray) (i : Nat) : (halfL s i).length = (pos s).length := by unfold halfL; simp; omega
theorem halfL_zero (s : ByteArray) : halfL s 0 = openL s (pos s) := by unfold halfL pos; rw [openL_pos s _ _ (by omega)]; simp
theorem halfL_end (s : ByteArray) : halfL s (pos s).length = (pos s).map (rn1 s) := by unfold halfL; simp
theorem flat_set {A B : List Rn} {x : Rn} (b : Bool) : ((A ++ x :: B).flatMap Rn.cells).set (A.length * 4 + 3) (.bool b) = (A ++ { x with no := b } :: B).flatMap Rn.cells := by
  rw [List.flatMap_append, List.flatMap_append, List.set_append_right _ _ (by rw [flat_len Rn.len]; omega), flat_len Rn.len, show A.length * 4 + 3 - A.length * 4 = 3 by omega]
  rfl
theorem flat_setE {A B : List Rn} {x : Rn} (k : Nat) : ((A ++ x :: B).flatMap Rn.cells).set (A.length * 4 + 2) (.int .i64 (k : Int)) = (A ++ { x with e := k } :: B).flatMap Rn.cells := by
  rw [List.flatMap_append, List.flatMap_append, List.set_append_right _ _ (by rw [flat_len Rn.len]; omega), flat_len Rn.len, show A.length * 4 + 2 - A.length * 4 = 2 by omega]
  rfl
theorem halfL_step (s : ByteArray) (i : Nat) (h : i < (pos s).length) : ((halfL s i).flatMap Rn.cells).set (i * 4 + 3) (.bool (wrongB s (pos s)[i])) = (halfL s (i + 1)).flatMap Rn.cells := by
  have e1 : halfL s i = ((pos s).take i).map (rn1 s) ++ rn0 s (pos s)[i] :: ((pos s).drop (i + 1)).map (rn0 s) := by
    unfold halfL; rw [List.drop_eq_getElem_cons h, List.map_cons]
  have e2 : halfL s (i + 1) = ((pos s).take i).map (rn1 s) ++ rn1 s (pos s)[i] :: ((pos s).drop (i + 1)).map (rn0 s) := by
    unfold halfL; rw [List.take_succ_eq_append_getElem h, List.map_append, List.append_assoc]; rfl
  have e3 : i = (((pos s).take i).map (rn1 s)).length := by simp; omega
  have := flat_set (A := ((pos s).take i).map (rn1 s)) (B := ((pos s).drop (i + 1)).map (rn0 s)) (x := rn0 s (pos s)[i]) (wrongB s (pos s)[i])
  rw [← e3, ← e1] at this
  rw [this, e2]; rfl
theorem halfL_at (s : ByteArray) (i : Nat) (h : i < (pos s).length) : (halfL s i)[i]? = some (rn0 s (pos s)[i]) := by
  unfold halfL
  rw [List.getElem?_append_right (by simp; omega), List.drop_eq_getElem_cons h]
  simp only [List.map_cons, List.length_map, List.length_take, Nat.min_eq_left (Nat.le_of_lt h), Nat.sub_self, List.getElem?_cons_zero]
end Go.Proofs.YtcgmliaahdpmcaaGreatDoor
namespace Go.Proofs.YtcgmliaahdpmcaaGreatDoor
open Go.Sl facts
attribute [local irreducible] Code.wp wpList Exit.then Exit.inBlock bodyPost Back MidQ G GP QStep VStep CStep SStep Does Post Reads
attribute [local irreducible] wrongB
structure AlX where
  k : Nat
  f : Nat
  ps : List Nat
  q : Option Addr
  c : Nat
structure AmX where
  i : Nat
set_option maxHeartbeats 4000000 in
theorem all_ (H : HP) (s : ByteArray) (hs : s.size ≤ 1000000000) : Does Tryz.prog 49 [.string s] [Pile H] (X := HP × Option Addr × Nat) (fun y => .slice y.2.1 (pos s).length y.2.2) (fun y => [Pile y.1]) (fun y => HP.sub H y.1 ∧ SlAt (Pile y.1) 4 y.2.1 (pos s).length (((pos s).map (rn1 s)).flatMap Rn.cells)) := by
  have hpl := pos_len s
  refine fn_intro Tryz.func49 rfl Tryz.ntmps49 rfl (by simp only [argFr, Nat.zero_add, Nat.reduceAdd]; rfl) (fun Γ => ?_)
  repeat (first
    | (refine g_ops ?_; first | refine sO ?_ | refine s_n (fun _ => ?_) | refine s_app (fun _ _ => ?_) | refine s_b0 (fun _ => ?_) | ((fail_if_success refine g_lit rfl rfl rfl ?_); first | apply g_partM rfl rfl rfl | apply g_partMB rfl rfl rfl | fail))
    | refine gS ?_ | exact s_m | intro _)
  refine g_n (cs_range inferInstance rfl) rfl rfl (fun it => ?_)
  repeat (first
    | (refine g_ops ?_; first | refine sO ?_ | refine s_n (fun _ => ?_) | refine s_app (fun _ _ => ?_) | refine s_b0 (fun _ => ?_) | ((fail_if_success refine g_lit rfl rfl rfl ?_); first | apply g_partM rfl rfl rfl | apply g_partMB rfl rfl rfl | fail))
    | refine gS ?_ | exact s_m | intro _)
  refine g_own_nil none 4 99 ?_
  refine g_loop (X := AlX) (fun x => [(0, .string s), (3, .slice x.q (openL s x.ps).length x.c), (8, .pointer (some ⟨it, 0, none⟩))])
    (fun x => [.own x.q (openL s x.ps).length x.c 4 ((openL s x.ps).flatMap Rn.cells) 99, .pt it (.stringIter s x.k), Pile H])
    (fun x => s.size ≤ x.k + x.f ∧ x.k ≤ s.size ∧ x.ps.length ≤ x.k ∧ pos s = x.ps ++ posF s x.f x.k) (fun x => x.f) ⟨0, s.size, [], none, 0⟩ ⟨by dsimp only; omega, Nat.zero_le _, by simp, rfl⟩ (by (repeat (first | exact FrSub.nil | refine FrSub.cons rfl ?_)); first | done | fail) (by (repeat (first | exact Take.nil | apply Take.cons | exact Sel.here | apply Sel.there)); first | done | fail) (fun x hx => ?_)
  obtain ⟨k, f, ps, q, c⟩ := x
  obtain ⟨hf, hk, hlen, he⟩ := hx
  dsimp only at hf hk hlen he ⊢
  repeat (first
    | (refine g_ops ?_; first | refine sO ?_ | refine s_n (fun _ => ?_) | refine s_app (fun _ _ => ?_) | refine s_b0 (fun _ => ?_) | ((fail_if_success refine g_lit rfl rfl rfl ?_); first | apply g_partM rfl rfl rfl | apply g_partMB rfl rfl rfl | fail))
    | refine gS ?_ | exact s_m | intro _)
  by_cases hlt : k < s.size
  · obtain ⟨f, rfl⟩ : ∃ f', f = f' + 1 := ⟨f - 1, by omega⟩
    have hw := Lib.decode_width_pos s k hlt
    have hin := decode_in s k hlt
    rw [posF_go s f k hlt] at he
    refine g_c (cs_next rfl (by (repeat (first | exact Sel.here | apply Sel.there)); first | done | fail) hlt) rfl rfl (fun _ _ => ?_)
    refine g_own (n := 4) (xs := (openL s ps).flatMap Rn.cells) (by (repeat (first | exact Sel.here | apply Sel.there)); first | done | fail) (fun hol hoc hop => ?_)
    have hinv : s.size ≤ k + (Utf8.decode s k).2 + f ∧ k + (Utf8.decode s k).2 ≤ s.size ∧ (ps ++ [k]).length ≤ k + (Utf8.decode s k).2 ∧ pos s = (ps ++ [k]) ++ posF s f (k + (Utf8.decode s k).2) := ⟨by omega, hin, by rw [List.length_append, List.length_singleton]; omega, by rw [he, List.append_assoc]; rfl⟩
    rcases List.eq_nil_or_concat ps with rfl | ⟨ps', p, rfl⟩
    · dsimp only [openL, List.length_nil, List.flatMap_nil] at hop ⊢
      repeat (first
        | (refine g_ops ?_; first | refine sO ?_ | refine s_n (fun _ => ?_) | refine s_app (fun _ _ => ?_) | refine s_b0 (fun _ => ?_) | ((fail_if_success refine g_lit rfl rfl rfl ?_); first | apply g_partM rfl rfl rfl | apply g_partMB rfl rfl rfl | fail))
        | refine gS ?_ | exact s_m | intro _)
      rename_i q' c'
      exact gA ⟨k + (Utf8.decode s k).2, f, [k], q', c'⟩ (by simp only; omega) hinv
    · rw [List.concat_eq_append] at hinv hop hol hoc ⊢
      obtain ⟨A, hA, e1, e2⟩ := openL_snoc s p ps'
      have hAb : A.length + 1 ≤ 1000000000 := by
        have := hlen
        simp only [List.length_concat] at this
        omega
      rw [e1] at hop hol hoc ⊢
      obtain ⟨b, rfl⟩ := hop (by simp)
      have hAl : (A ++ [(⟨(Utf8.decode s p).1, p, s.size, false⟩ : Rn)]).length = A.length + 1 := by simp
      simp only [hAl] at hop hol hoc ⊢
      repeat (first
        | (refine g_ops ?_; first | refine sO ?_ | refine s_n (fun _ => ?_) | refine s_app (fun _ _ => ?_) | refine s_b0 (fun _ => ?_) | ((fail_if_success refine g_lit rfl rfl rfl ?_); first | apply g_partM rfl rfl rfl | apply g_partMB rfl rfl rfl | fail))
        | refine gS ?_ | exact s_m | intro _)
      refine g_as 15 (v' := .bool true) rfl (congrArg Value.bool (decide_eq_true (by omega))) ?_
      repeat (first
        | (refine g_ops ?_; first | refine sO ?_ | refine s_n (fun _ => ?_) | refine s_app (fun _ _ => ?_) | refine s_b0 (fun _ => ?_) | ((fail_if_success refine g_lit rfl rfl rfl ?_); first | apply g_partM rfl rfl rfl | apply g_partMB rfl rfl rfl | fail))
        | refine gS ?_ | exact s_m | intro _)
      refine g_as 22 (v' := .pointer (some ⟨b, A.length * 4 + 2, none⟩)) rfl (by congr 4; push_cast; omega) ?_
      refine g_ops ?_
      refine g_s (ss_storeOwn (v := int k) inferInstance rfl rfl rfl (by (repeat (first | exact Sel.here | apply Sel.there)); first | done | fail) (by rw [flat_len Rn.len]; simp; omega)) rfl ?_
      rw [flat_setE]
      repeat (first
        | (refine g_ops ?_; first | refine sO ?_ | refine s_n (fun _ => ?_) | refine s_app (fun _ _ => ?_) | refine s_b0 (fun _ => ?_) | ((fail_if_success refine g_lit rfl rfl rfl ?_); first | apply g_partM rfl rfl rfl | apply g_partMB rfl rfl rfl | fail))
        | refine gS ?_ | exact s_m | intro _)
      rename_i q' c'
      have e3 : A.length + 1 + 1 = (openL s (ps' ++ [p] ++ [k])).length := by rw [e2]; simp
      have e4 : (A ++ [(⟨(Utf8.decode s p).1, p, k, false⟩ : Rn)]).flatMap Rn.cells ++ [Value.int .i32 ((Utf8.decode s k).1 : Int), .int .i64 (k : Int), .int .i64 (s.size : Int), .bool false] = (openL s (ps' ++ [p] ++ [k])).flatMap Rn.cells := by rw [e2]; simp [Rn.cells]
      dsimp only
      rw [e4, e3]
      exact gA ⟨k + (Utf8.decode s k).2, f, ps' ++ [p] ++ [k], q', c'⟩ (by simp only; omega) hinv
  · rw [posF_end s f k hlt, List.append_nil] at he
    refine g_v (vs_nextEnd rfl (by (repeat (first | exact Sel.here | apply Sel.there)); first | done | fail) hlt) rfl rfl ?_
    repeat (first
      | (refine g_ops ?_; first | refine sO ?_ | refine s_n (fun _ => ?_) | refine s_app (fun _ _ => ?_) | refine s_b0 (fun _ => ?_) | ((fail_if_success refine g_lit rfl rfl rfl ?_); first | apply g_partM rfl rfl rfl | apply g_partMB rfl rfl rfl | fail))
      | refine gS ?_ | exact s_m | intro _)
    have he' : pos s = ps := he
    subst he'
    rw [← halfL_zero, halfL_len]
    refine g_loop (X := AmX) (fun x => [(3, .slice q (pos s).length c), (6, int x.i)]) (fun x => [.own q (pos s).length c 4 ((halfL s x.i).flatMap Rn.cells) 99, Pile H]) (fun x => x.i ≤ (pos s).length) (fun x => (pos s).length - x.i) ⟨0⟩ (Nat.zero_le _) (by (repeat (first | exact FrSub.nil | refine FrSub.cons rfl ?_)); first | done | fail) (by (repeat (first | exact Take.nil | apply Take.cons | exact Sel.here | apply Sel.there)); first | done | fail) (fun x hx => ?_)
    obtain ⟨i⟩ := x
    dsimp only at hx ⊢
    repeat (first
      | (refine g_ops ?_; first | refine sO ?_ | refine s_n (fun _ => ?_) | refine s_app (fun _ _ => ?_) | refine s_b0 (fun _ => ?_) | ((fail_if_success refine g_lit rfl rfl rfl ?_); first | apply g_partM rfl rfl rfl | apply g_partMB rfl rfl rfl | fail))
      | refine gS ?_ | exact s_m | intro _)
    refine g_cond_dec rfl (fun h2 => ?_) (fun h2 => ?_)
    · have hi' : i < (pos s).length := by omega
      refine g_own (n := 4) (xs := (halfL s i).flatMap Rn.cells) (by (repeat (first | exact Sel.here | apply Sel.there)); first | done | fail) (fun hol hoc hop => ?_)
      obtain ⟨b, rfl⟩ := hop (by omega)
      have hrow0 := own_at (b := b) (len := (pos s).length) (cap := c) (e := 99) Rn.len (halfL_at s i hi')
      have hstep := halfL_step s i hi'
      have hpm := pos_mem (List.getElem_mem hi')
      have hpd := decode_in s _ hpm
      generalize (pos s)[i] = p at hrow0 hstep hpm hpd
      have hcell : ∀ (j : Nat) (v : Value), [Value.int .i32 ((Utf8.decode s p).1 : Int), .int .i64 (p : Int), .int .i64 ((p + (Utf8.decode s p).2 : Nat) : Int), .bool false][j]? = some v → Reads _ _ v := hrow0
      repeat (first
        | (refine g_ops ?_; first | refine sO ?_ | refine s_n (fun _ => ?_) | refine s_app (fun _ _ => ?_) | refine s_b0 (fun _ => ?_) | ((fail_if_success refine g_lit rfl rfl rfl ?_); first | apply g_partM rfl rfl rfl | apply g_partMB rfl rfl rfl | fail))
        | refine gS ?_ | exact s_m | intro _)
      refine g_drawO (.take 0 (.take 1 (.take 2 (.take 3 (.take 4 (.take 5 (.one 6 (.take 7 (.take 8 (.take 9 (.take 10 (.take 11 (.take 12 (.take 14 (.take 15 (.take 16 (.take 17 (.two 13 (.one 18 (.take 19 (.take 20 (.take 21 (.take 22 (.take 23 (.one 24 .done))))))) 18 (.one 13 (.take 19 (.take 20 (.take 21 (.take 22 (.take 23 (.one 24 .done))))))))))))))))))))))))) (by (repeat (first | exact Sel.here | apply Sel.there)); first | done | fail) (fun m hd hk => ?_)
      repeat (first
        | (refine gp_take ?_; first | refine pT ?_ | ((fail_if_success refine gp_lit rfl rfl rfl rfl ?_); first | apply gp_guard_dec rfl rfl rfl rfl | apply gp_guard rfl rfl rfl rfl | fail))
        | (refine gp_see ?_; first | refine p_f ?_ | refine pS ?_ | ((fail_if_success refine gp_lit rfl rfl rfl rfl ?_); first | apply gp_guard_dec rfl rfl rfl rfl | apply gp_guard rfl rfl rfl rfl | fail))
        | (refine gp_one ?_; first | refine pO ?_ | refine p_n (fun _ => ?_) | refine p_app (fun _ _ => ?_) | refine p_b0 (fun _ => ?_) | ((fail_if_success refine gp_lit rfl rfl rfl rfl ?_); first | apply gp_guard_dec rfl rfl rfl rfl | apply gp_guard rfl rfl rfl rfl | fail))
        | refine gp_two ?_ ?_ | refine gp_done hd hk ?_ | intro _ | refine p_ta hd hk (fun _ _ _ hd hk => ?_) | refine p_ts hd hk (fun _ hd hk => ?_))
      by_cases hd3 : (Utf8.decode s p).1 = 65533
      · refine gp_as 45 (v' := .bool true) rfl (congrArg Value.bool (decide_eq_true (by omega))) ?_
        repeat (first
          | (refine gp_take ?_; first | refine pT ?_ | ((fail_if_success refine gp_lit rfl rfl rfl rfl ?_); first | apply gp_guard_dec rfl rfl rfl rfl | apply gp_guard rfl rfl rfl rfl | fail))
          | (refine gp_see ?_; first | refine p_f ?_ | refine pS ?_ | ((fail_if_success refine gp_lit rfl rfl rfl rfl ?_); first | apply gp_guard_dec rfl rfl rfl rfl | apply gp_guard rfl rfl rfl rfl | fail))
          | (refine gp_one ?_; first | refine pO ?_ | refine p_n (fun _ => ?_) | refine p_app (fun _ _ => ?_) | refine p_b0 (fun _ => ?_) | ((fail_if_success refine gp_lit rfl rfl rfl rfl ?_); first | apply gp_guard_dec rfl rfl rfl rfl | apply gp_guard rfl rfl rfl rfl | fail))
          | refine gp_two ?_ ?_ | refine gp_done hd hk ?_ | intro _ | refine p_ta hd hk (fun _ _ _ hd hk => ?_) | refine p_ts hd hk (fun _ hd hk => ?_))
        · repeat (first
            | (refine gp_take ?_; first | refine pT ?_ | ((fail_if_success refine gp_lit rfl rfl rfl rfl ?_); first | apply gp_guard_dec rfl rfl rfl rfl | apply gp_guard rfl rfl rfl rfl | fail))
            | (refine gp_see ?_; first | refine p_f ?_ | refine pS ?_ | ((fail_if_success refine gp_lit rfl rfl rfl rfl ?_); first | apply gp_guard_dec rfl rfl rfl rfl | apply gp_guard rfl rfl rfl rfl | fail))
            | (refine gp_one ?_; first | refine pO ?_ | refine p_n (fun _ => ?_) | refine p_app (fun _ _ => ?_) | refine p_b0 (fun _ => ?_) | ((fail_if_success refine gp_lit rfl rfl rfl rfl ?_); first | apply gp_guard_dec rfl rfl rfl rfl | apply gp_guard rfl rfl rfl rfl | fail))
            | refine gp_two ?_ ?_ | refine gp_done hd hk ?_ | intro _ | refine p_ta hd hk (fun _ _ _ hd hk => ?_) | refine p_ts hd hk (fun _ hd hk => ?_))
          refine gp_as 58 (v' := .bool (wrongB s p)) rfl (congrArg Value.bool (by unfold wrongB; exact decide_eq_decide.2 ⟨fun h => ⟨hd3, by omega⟩, fun h => by omega⟩)) ?_
          apply gp_s (hi := rfl) (hg := rfl)
          · apply ss_storeOwn
            exact inferInstance
            exact rfl
            exact rfl
            exact rfl
            exact (by (repeat (first | exact Sel.here | apply Sel.there)); first | done | fail)
            rw [flat_len Rn.len, halfL_len]
            omega
          rw [show 0 + i * 4 + 3 = i * 4 + 3 by omega, hstep]
          repeat (first
            | (refine gp_take ?_; first | refine pT ?_ | ((fail_if_success refine gp_lit rfl rfl rfl rfl ?_); first | apply gp_guard_dec rfl rfl rfl rfl | apply gp_guard rfl rfl rfl rfl | fail))
            | (refine gp_see ?_; first | refine p_f ?_ | refine pS ?_ | ((fail_if_success refine gp_lit rfl rfl rfl rfl ?_); first | apply gp_guard_dec rfl rfl rfl rfl | apply gp_guard rfl rfl rfl rfl | fail))
            | (refine gp_one ?_; first | refine pO ?_ | refine p_n (fun _ => ?_) | refine p_app (fun _ _ => ?_) | refine p_b0 (fun _ => ?_) | ((fail_if_success refine gp_lit rfl rfl rfl rfl ?_); first | apply gp_guard_dec rfl rfl rfl rfl | apply gp_guard rfl rfl rfl rfl | fail))
            | refine gp_two ?_ ?_ | refine gp_done hd hk ?_ | intro _ | refine p_ta hd hk (fun _ _ _ hd hk => ?_) | refine p_ts hd hk (fun _ hd hk => ?_))
          repeat (first
            | (refine g_ops ?_; first | refine sO ?_ | refine s_n (fun _ => ?_) | refine s_app (fun _ _ => ?_) | refine s_b0 (fun _ => ?_) | ((fail_if_success refine g_lit rfl rfl rfl ?_); first | apply g_partM rfl rfl rfl | apply g_partMB rfl rfl rfl | fail))
            | refine gS ?_ | exact s_m | intro _)
          refine g_as 6 (v' := int ((i + 1 : Nat) : Int)) rfl (congrArg (Value.int .i64) (by push_cast; rfl)) ?_
          exact gA ⟨i + 1⟩ (by simp only; omega) hi'
        · repeat (first
            | (refine gp_take ?_; first | refine pT ?_ | ((fail_if_success refine gp_lit rfl rfl rfl rfl ?_); first | apply gp_guard_dec rfl rfl rfl rfl | apply gp_guard rfl rfl rfl rfl | fail))
            | (refine gp_see ?_; first | refine p_f ?_ | refine pS ?_ | ((fail_if_success refine gp_lit rfl rfl rfl rfl ?_); first | apply gp_guard_dec rfl rfl rfl rfl | apply gp_guard rfl rfl rfl rfl | fail))
            | (refine gp_one ?_; first | refine pO ?_ | refine p_n (fun _ => ?_) | refine p_app (fun _ _ => ?_) | refine p_b0 (fun _ => ?_) | ((fail_if_success refine gp_lit rfl rfl rfl rfl ?_); first | apply gp_guard_dec rfl rfl rfl rfl | apply gp_guard rfl rfl rfl rfl | fail))
            | refine gp_two ?_ ?_ | refine gp_done hd hk ?_ | intro _ | refine p_ta hd hk (fun _ _ _ hd hk => ?_) | refine p_ts hd hk (fun _ hd hk => ?_))
          refine gp_as 58 (v' := .bool (wrongB s p)) rfl (congrArg Value.bool (by unfold wrongB; exact decide_eq_decide.2 ⟨fun h => ⟨hd3, by omega⟩, fun h => by omega⟩)) ?_
          apply gp_s (hi := rfl) (hg := rfl)
          · apply ss_storeOwn
            exact inferInstance
            exact rfl
            exact rfl
            exact rfl
            exact (by (repeat (first | exact Sel.here | apply Sel.there)); first | done | fail)
            rw [flat_len Rn.len, halfL_len]
            omega
          rw [show 0 + i * 4 + 3 = i * 4 + 3 by omega, hstep]
          repeat (first
            | (refine gp_take ?_; first | refine pT ?_ | ((fail_if_success refine gp_lit rfl rfl rfl rfl ?_); first | apply gp_guard_dec rfl rfl rfl rfl | apply gp_guard rfl rfl rfl rfl | fail))
            | (refine gp_see ?_; first | refine p_f ?_ | refine pS ?_ | ((fail_if_success refine gp_lit rfl rfl rfl rfl ?_); first | apply gp_guard_dec rfl rfl rfl rfl | apply gp_guard rfl rfl rfl rfl | fail))
            | (refine gp_one ?_; first | refine pO ?_ | refine p_n (fun _ => ?_) | refine p_app (fun _ _ => ?_) | refine p_b0 (fun _ => ?_) | ((fail_if_success refine gp_lit rfl rfl rfl rfl ?_); first | apply gp_guard_dec rfl rfl rfl rfl | apply gp_guard rfl rfl rfl rfl | fail))
            | refine gp_two ?_ ?_ | refine gp_done hd hk ?_ | intro _ | refine p_ta hd hk (fun _ _ _ hd hk => ?_) | refine p_ts hd hk (fun _ hd hk => ?_))
          repeat (first
            | (refine g_ops ?_; first | refine sO ?_ | refine s_n (fun _ => ?_) | refine s_app (fun _ _ => ?_) | refine s_b0 (fun _ => ?_) | ((fail_if_success refine g_lit rfl rfl rfl ?_); first | apply g_partM rfl rfl rfl | apply g_partMB rfl rfl rfl | fail))
            | refine gS ?_ | exact s_m | intro _)
          refine g_as 6 (v' := int ((i + 1 : Nat) : Int)) rfl (congrArg (Value.int .i64) (by push_cast; rfl)) ?_
          exact gA ⟨i + 1⟩ (by simp only; omega) hi'
      · refine gp_as 45 (v' := .bool false) rfl (congrArg Value.bool (decide_eq_false (by omega))) ?_
        repeat (first
          | (refine gp_take ?_; first | refine pT ?_ | ((fail_if_success refine gp_lit rfl rfl rfl rfl ?_); first | apply gp_guard_dec rfl rfl rfl rfl | apply gp_guard rfl rfl rfl rfl | fail))
          | (refine gp_see ?_; first | refine p_f ?_ | refine pS ?_ | ((fail_if_success refine gp_lit rfl rfl rfl rfl ?_); first | apply gp_guard_dec rfl rfl rfl rfl | apply gp_guard rfl rfl rfl rfl | fail))
          | (refine gp_one ?_; first | refine pO ?_ | refine p_n (fun _ => ?_) | refine p_app (fun _ _ => ?_) | refine p_b0 (fun _ => ?_) | ((fail_if_success refine gp_lit rfl rfl rfl rfl ?_); first | apply gp_guard_dec rfl rfl rfl rfl | apply gp_guard rfl rfl rfl rfl | fail))
          | refine gp_two ?_ ?_ | refine gp_done hd hk ?_ | intro _ | refine p_ta hd hk (fun _ _ _ hd hk => ?_) | refine p_ts hd hk (fun _ hd hk => ?_))
        · refine gp_as 58 (v' := .bool (wrongB s p)) rfl (congrArg Value.bool (by unfold wrongB; exact (decide_eq_false (fun h => hd3 h.1)).symm)) ?_
          apply gp_s (hi := rfl) (hg := rfl)
          · apply ss_storeOwn
            exact inferInstance
            exact rfl
            exact rfl
            exact rfl
            exact (by (repeat (first | exact Sel.here | apply Sel.there)); first | done | fail)
            rw [flat_len Rn.len, halfL_len]
            omega
          rw [show 0 + i * 4 + 3 = i * 4 + 3 by omega, hstep]
          repeat (first
            | (refine gp_take ?_; first | refine pT ?_ | ((fail_if_success refine gp_lit rfl rfl rfl rfl ?_); first | apply gp_guard_dec rfl rfl rfl rfl | apply gp_guard rfl rfl rfl rfl | fail))
            | (refine gp_see ?_; first | refine p_f ?_ | refine pS ?_ | ((fail_if_success refine gp_lit rfl rfl rfl rfl ?_); first | apply gp_guard_dec rfl rfl rfl rfl | apply gp_guard rfl rfl rfl rfl | fail))
            | (refine gp_one ?_; first | refine pO ?_ | refine p_n (fun _ => ?_) | refine p_app (fun _ _ => ?_) | refine p_b0 (fun _ => ?_) | ((fail_if_success refine gp_lit rfl rfl rfl rfl ?_); first | apply gp_guard_dec rfl rfl rfl rfl | apply gp_guard rfl rfl rfl rfl | fail))
            | refine gp_two ?_ ?_ | refine gp_done hd hk ?_ | intro _ | refine p_ta hd hk (fun _ _ _ hd hk => ?_) | refine p_ts hd hk (fun _ hd hk => ?_))
          repeat (first
            | (refine g_ops ?_; first | refine sO ?_ | refine s_n (fun _ => ?_) | refine s_app (fun _ _ => ?_) | refine s_b0 (fun _ => ?_) | ((fail_if_success refine g_lit rfl rfl rfl ?_); first | apply g_partM rfl rfl rfl | apply g_partMB rfl rfl rfl | fail))
            | refine gS ?_ | exact s_m | intro _)
          refine g_as 6 (v' := int ((i + 1 : Nat) : Int)) rfl (congrArg (Value.int .i64) (by push_cast; rfl)) ?_
          exact gA ⟨i + 1⟩ (by simp only; omega) hi'
        · repeat (first
            | (refine gp_take ?_; first | refine pT ?_ | ((fail_if_success refine gp_lit rfl rfl rfl rfl ?_); first | apply gp_guard_dec rfl rfl rfl rfl | apply gp_guard rfl rfl rfl rfl | fail))
            | (refine gp_see ?_; first | refine p_f ?_ | refine pS ?_ | ((fail_if_success refine gp_lit rfl rfl rfl rfl ?_); first | apply gp_guard_dec rfl rfl rfl rfl | apply gp_guard rfl rfl rfl rfl | fail))
            | (refine gp_one ?_; first | refine pO ?_ | refine p_n (fun _ => ?_) | refine p_app (fun _ _ => ?_) | refine p_b0 (fun _ => ?_) | ((fail_if_success refine gp_lit rfl rfl rfl rfl ?_); first | apply gp_guard_dec rfl rfl rfl rfl | apply gp_guard rfl rfl rfl rfl | fail))
            | refine gp_two ?_ ?_ | refine gp_done hd hk ?_ | intro _ | refine p_ta hd hk (fun _ _ _ hd hk => ?_) | refine p_ts hd hk (fun _ hd hk => ?_))
          refine gp_as 58 (v' := .bool (wrongB s p)) rfl (congrArg Value.bool (by unfold wrongB; exact (decide_eq_false (fun h => hd3 h.1)).symm)) ?_
          apply gp_s (hi := rfl) (hg := rfl)
          · apply ss_storeOwn
            exact inferInstance
            exact rfl
            exact rfl
            exact rfl
            exact (by (repeat (first | exact Sel.here | apply Sel.there)); first | done | fail)
            rw [flat_len Rn.len, halfL_len]
            omega
          rw [show 0 + i * 4 + 3 = i * 4 + 3 by omega, hstep]
          repeat (first
            | (refine gp_take ?_; first | refine pT ?_ | ((fail_if_success refine gp_lit rfl rfl rfl rfl ?_); first | apply gp_guard_dec rfl rfl rfl rfl | apply gp_guard rfl rfl rfl rfl | fail))
            | (refine gp_see ?_; first | refine p_f ?_ | refine pS ?_ | ((fail_if_success refine gp_lit rfl rfl rfl rfl ?_); first | apply gp_guard_dec rfl rfl rfl rfl | apply gp_guard rfl rfl rfl rfl | fail))
            | (refine gp_one ?_; first | refine pO ?_ | refine p_n (fun _ => ?_) | refine p_app (fun _ _ => ?_) | refine p_b0 (fun _ => ?_) | ((fail_if_success refine gp_lit rfl rfl rfl rfl ?_); first | apply gp_guard_dec rfl rfl rfl rfl | apply gp_guard rfl rfl rfl rfl | fail))
            | refine gp_two ?_ ?_ | refine gp_done hd hk ?_ | intro _ | refine p_ta hd hk (fun _ _ _ hd hk => ?_) | refine p_ts hd hk (fun _ hd hk => ?_))
          repeat (first
            | (refine g_ops ?_; first | refine sO ?_ | refine s_n (fun _ => ?_) | refine s_app (fun _ _ => ?_) | refine s_b0 (fun _ => ?_) | ((fail_if_success refine g_lit rfl rfl rfl ?_); first | apply g_partM rfl rfl rfl | apply g_partMB rfl rfl rfl | fail))
            | refine gS ?_ | exact s_m | intro _)
          refine g_as 6 (v' := int ((i + 1 : Nat) : Int)) rfl (congrArg (Value.int .i64) (by push_cast; rfl)) ?_
          exact gA ⟨i + 1⟩ (by simp only; omega) hi'
    · obtain rfl : i = (pos s).length := by omega
      rw [halfL_end]
      repeat (first
        | (refine g_ops ?_; first | refine sO ?_ | refine s_n (fun _ => ?_) | refine s_app (fun _ _ => ?_) | refine s_b0 (fun _ => ?_) | ((fail_if_success refine g_lit rfl rfl rfl ?_); first | apply g_partM rfl rfl rfl | apply g_partMB rfl rfl rfl | fail))
        | refine gS ?_ | exact s_m | intro _)
      refine g_pile (by (repeat (first | exact Sel.here | apply Sel.there)); first | done | fail) (by (repeat (first | exact Sel.here | apply Sel.there)); first | done | fail) (fun H2 hs2 hS2 => ?_)
      exact gR (H2, q, c) ⟨hs2, hS2⟩
theorem rn1_at {H1 : HP} {s : ByteArray} {p : Option Addr} {i : Nat} (hS : SlAt (Pile H1) 4 p (pos s).length (((pos s).map (rn1 s)).flatMap Rn.cells)) (hi : i < (pos s).length) :
    ∃ b o, p = some ⟨b, o, none⟩ ∧ ∀ (j : Nat) (v : Value), (rn1 s (pos s)[i]).cells[j]? = some v → Reads (Pile H1) ⟨b, o + i * 4 + j, none⟩ v :=
  slAt_elem hS Rn.len (by decide) (i := i) (a := rn1 s (pos s)[i]) (by simp [hi])
theorem valid1 (H : HP) (s : ByteArray) (hs : s.size ≤ 1000000000) : Does1 Tryz.prog 51 [.string s] [Pile H] (.bool (validB s)) := by
  have hpl := pos_len s
  have ha := all_ H s hs
  refine fn_intro Tryz.func51 rfl Tryz.ntmps51 rfl (by simp only [argFr, Nat.zero_add, Nat.reduceAdd]; rfl) (fun Γ => ?_)
  repeat (first
    | (refine g_ops ?_; first | refine sO ?_ | refine s_n (fun _ => ?_) | refine s_app (fun _ _ => ?_) | refine s_b0 (fun _ => ?_) | ((fail_if_success refine g_lit rfl rfl rfl ?_); first | apply g_partM rfl rfl rfl | apply g_partMB rfl rfl rfl | fail) | refine s_c (ha) (fun _ _ => ?_))
    | refine gS ?_ | exact s_m | intro _)
  rename_i y hy
  obtain ⟨H1, p, c⟩ := y
  obtain ⟨hs1, hS⟩ := hy
  dsimp only [List.cons_append, List.nil_append] at hs1 hS ⊢
  rw [validB_pos]
  refine g_loop (X := AmX) (fun x => [(3, .slice p (pos s).length c), (4, int x.i)]) (fun _ => [Pile H1]) (fun x => x.i ≤ (pos s).length ∧ ((pos s).all fun k => !wrongB s k) = (((pos s).drop x.i).all fun k => !wrongB s k)) (fun x => (pos s).length - x.i) ⟨0⟩ ⟨Nat.zero_le _, rfl⟩ (by (repeat (first | exact FrSub.nil | refine FrSub.cons rfl ?_)); first | done | fail) (by (repeat (first | exact Take.nil | apply Take.cons | exact Sel.here | apply Sel.there)); first | done | fail) (fun x hx => ?_)
  obtain ⟨i⟩ := x
  obtain ⟨hi, he⟩ := hx
  dsimp only at hi he ⊢
  repeat (first
    | (refine g_ops ?_; first | refine sO ?_ | refine s_n (fun _ => ?_) | refine s_app (fun _ _ => ?_) | refine s_b0 (fun _ => ?_) | ((fail_if_success refine g_lit rfl rfl rfl ?_); first | apply g_partM rfl rfl rfl | apply g_partMB rfl rfl rfl | fail))
    | refine gS ?_ | exact s_m | intro _)
  refine g_cond_dec rfl (fun h2 => ?_) (fun h2 => ?_)
  · have hi' : i < (pos s).length := by omega
    obtain ⟨b, o, rfl, hrow⟩ := rn1_at hS hi'
    rw [List.drop_eq_getElem_cons hi', List.all_cons] at he
    generalize (pos s)[i] = k at hrow he
    have hr : ∀ k', k' = o + i * 4 + 3 → Reads (Pile H1) ⟨b, k', none⟩ (.bool (wrongB s k)) := fun _ e => e ▸ hrow 3 _ rfl
    clear hrow
    cases hw : wrongB s k <;> rw [hw] at hr he
    · repeat (first
        | (refine g_ops ?_; first | refine sO ?_ | refine s_n (fun _ => ?_) | refine s_app (fun _ _ => ?_) | refine s_b0 (fun _ => ?_) | ((fail_if_success refine g_lit rfl rfl rfl ?_); first | apply g_partM rfl rfl rfl | apply g_partMB rfl rfl rfl | fail))
        | refine gS ?_ | exact s_m | intro _)
      refine g_as 4 (v' := int ((i + 1 : Nat) : Int)) rfl (congrArg (Value.int .i64) (by push_cast; rfl)) ?_
      exact gA ⟨i + 1⟩ (by simp only; omega) ⟨hi', by simpa using he⟩
    · repeat (first
        | (refine g_ops ?_; first | refine sO ?_ | refine s_n (fun _ => ?_) | refine s_app (fun _ _ => ?_) | refine s_b0 (fun _ => ?_) | ((fail_if_success refine g_lit rfl rfl rfl ?_); first | apply g_partM rfl rfl rfl | apply g_partMB rfl rfl rfl | fail))
        | refine gS ?_ | exact s_m | intro _)
      refine g_unpile hs1 (by (repeat (first | exact Sel.here | apply Sel.there)); first | done | fail) ?_
      exact s_r () (hp := by simp only [pack]; rw [he]; rfl)
  · obtain rfl : i = (pos s).length := by omega
    rw [List.drop_length] at he
    repeat (first
      | (refine g_ops ?_; first | refine sO ?_ | refine s_n (fun _ => ?_) | refine s_app (fun _ _ => ?_) | refine s_b0 (fun _ => ?_) | ((fail_if_success refine g_lit rfl rfl rfl ?_); first | apply g_partM rfl rfl rfl | apply g_partMB rfl rfl rfl | fail))
      | refine gS ?_ | exact s_m | intro _)
    refine g_unpile hs1 (by (repeat (first | exact Sel.here | apply Sel.there)); first | done | fail) ?_
    exact s_r () (hp := by simp only [pack]; rw [he]; rfl)
theorem key1d (H : HP) (s : ByteArray) (hs : s.size ≤ 1000000000) : Does1 Tryz.prog 31 [.string s] [Pile H] (.bool (keyB s)) := by
  have hpl := pos_len s
  have ha := all_ H s hs
  refine fn_intro Tryz.func31 rfl Tryz.ntmps31 rfl (by simp only [argFr, Nat.zero_add, Nat.reduceAdd]; rfl) (fun Γ => ?_)
  repeat (first
    | (refine g_ops ?_; first | refine sO ?_ | refine s_n (fun _ => ?_) | refine s_app (fun _ _ => ?_) | refine s_b0 (fun _ => ?_) | ((fail_if_success refine g_lit rfl rfl rfl ?_); first | apply g_partM rfl rfl rfl | apply g_partMB rfl rfl rfl | fail) | refine s_c (ha) (fun _ _ => ?_))
    | refine gS ?_ | exact s_m | intro _)
  rename_i y hy
  obtain ⟨H1, p, c⟩ := y
  obtain ⟨hs1, hS⟩ := hy
  dsimp only [List.cons_append, List.nil_append] at hs1 hS ⊢
  rw [keyB_pos]
  refine g_loop (X := AmX) (fun x => [(3, .slice p (pos s).length c), (4, int x.i)]) (fun _ => [Pile H1]) (fun x => x.i ≤ (pos s).length ∧ ((pos s).all fun k => !(wrongB s k || controlB (Utf8.decode s k).1)) = (((pos s).drop x.i).all fun k => !(wrongB s k || controlB (Utf8.decode s k).1))) (fun x => (pos s).length - x.i) ⟨0⟩ ⟨Nat.zero_le _, rfl⟩ (by (repeat (first | exact FrSub.nil | refine FrSub.cons rfl ?_)); first | done | fail) (by (repeat (first | exact Take.nil | apply Take.cons | exact Sel.here | apply Sel.there)); first | done | fail) (fun x hx => ?_)
  obtain ⟨i⟩ := x
  obtain ⟨hi, he⟩ := hx
  dsimp only at hi he ⊢
  repeat (first
    | (refine g_ops ?_; first | refine sO ?_ | refine s_n (fun _ => ?_) | refine s_app (fun _ _ => ?_) | refine s_b0 (fun _ => ?_) | ((fail_if_success refine g_lit rfl rfl rfl ?_); first | apply g_partM rfl rfl rfl | apply g_partMB rfl rfl rfl | fail))
    | refine gS ?_ | exact s_m | intro _)
  refine g_cond_dec rfl (fun h2 => ?_) (fun h2 => ?_)
  · have hi' : i < (pos s).length := by omega
    obtain ⟨b, o, rfl, hrow⟩ := rn1_at hS hi'
    rw [List.drop_eq_getElem_cons hi', List.all_cons] at he
    generalize (pos s)[i] = k at hrow he
    have hr : ∀ k', k' = o + i * 4 + 3 → Reads (Pile H1) ⟨b, k', none⟩ (.bool (wrongB s k)) := fun _ e => e ▸ hrow 3 _ rfl
    have hr2 : ∀ k', k' = o + i * 4 → Reads (Pile H1) ⟨b, k', none⟩ (.int .i32 ((Utf8.decode s k).1 : Int)) := fun _ e => e ▸ hrow 0 _ rfl
    clear hrow
    repeat (first
      | (refine g_ops ?_; first | refine sO ?_ | refine s_n (fun _ => ?_) | refine s_app (fun _ _ => ?_) | refine s_b0 (fun _ => ?_) | ((fail_if_success refine g_lit rfl rfl rfl ?_); first | apply g_partM rfl rfl rfl | apply g_partMB rfl rfl rfl | fail))
      | apply g_regB (id := 5) 33 | refine gS ?_ | exact s_m | intro _ | (refine gp_take ?_; first | refine pT ?_ | ((fail_if_success refine gp_lit rfl rfl rfl rfl ?_); first | apply gp_guard_dec rfl rfl rfl rfl | apply gp_guard rfl rfl rfl rfl | fail))
      | (refine gp_see ?_; first | refine p_f ?_ | refine pS ?_ | ((fail_if_success refine gp_lit rfl rfl rfl rfl ?_); first | apply gp_guard_dec rfl rfl rfl rfl | apply gp_guard rfl rfl rfl rfl | fail))
      | (refine gp_one ?_; first | refine pO ?_ | refine p_n (fun _ => ?_) | refine p_app (fun _ _ => ?_) | refine p_b0 (fun _ => ?_) | ((fail_if_success refine gp_lit rfl rfl rfl rfl ?_); first | apply gp_guard_dec rfl rfl rfl rfl | apply gp_guard rfl rfl rfl rfl | fail))
      | refine gp_two ?_ ?_ | refine gp_done hd hk ?_ | intro _ | refine p_ta hd hk (fun _ _ _ hd hk => ?_) | refine p_ts hd hk (fun _ hd hk => ?_))
    refine g_as 33 (v' := .bool (wrongB s k || controlB (Utf8.decode s k).1)) rfl (congrArg Value.bool (by unfold controlB; rw [Bool.eq_iff_iff]; cases wrongB s k <;> simp [Bool.cond_eq_ite] <;> omega)) ?_
    generalize (wrongB s k || controlB (Utf8.decode s k).1) = w at he ⊢
    cases w
    · repeat (first
        | (refine g_ops ?_; first | refine sO ?_ | refine s_n (fun _ => ?_) | refine s_app (fun _ _ => ?_) | refine s_b0 (fun _ => ?_) | ((fail_if_success refine g_lit rfl rfl rfl ?_); first | apply g_partM rfl rfl rfl | apply g_partMB rfl rfl rfl | fail))
        | refine gS ?_ | exact s_m | intro _)
      refine g_as 4 (v' := int ((i + 1 : Nat) : Int)) rfl (congrArg (Value.int .i64) (by push_cast; rfl)) ?_
      exact gA ⟨i + 1⟩ (by simp only; omega) ⟨hi', by simpa using he⟩
    · repeat (first
        | (refine g_ops ?_; first | refine sO ?_ | refine s_n (fun _ => ?_) | refine s_app (fun _ _ => ?_) | refine s_b0 (fun _ => ?_) | ((fail_if_success refine g_lit rfl rfl rfl ?_); first | apply g_partM rfl rfl rfl | apply g_partMB rfl rfl rfl | fail))
        | refine gS ?_ | exact s_m | intro _)
      refine g_unpile hs1 (by (repeat (first | exact Sel.here | apply Sel.there)); first | done | fail) ?_
      exact s_r () (hp := by simp only [pack]; rw [he]; simp)
  · obtain rfl : i = (pos s).length := by omega
    rw [List.drop_length] at he
    repeat (first
      | (refine g_ops ?_; first | refine sO ?_ | refine s_n (fun _ => ?_) | refine s_app (fun _ _ => ?_) | refine s_b0 (fun _ => ?_) | ((fail_if_success refine g_lit rfl rfl rfl ?_); first | apply g_partM rfl rfl rfl | apply g_partMB rfl rfl rfl | fail))
      | refine gS ?_ | exact s_m | intro _)
    refine g_unpile hs1 (by (repeat (first | exact Sel.here | apply Sel.there)); first | done | fail) ?_
    exact s_r () (hp := by simp only [pack]; rw [he]; simp; omega)
theorem pos_empty (s : ByteArray) : decide (s ≠ ByteArray.empty) = decide (1 ≤ (pos s).length) := by
  by_cases h : s.size = 0
  · obtain rfl : s = ByteArray.empty := by
      exact size_zero h
    rfl
  · have h1 : s ≠ ByteArray.empty := fun e => by subst e; exact h rfl
    have h2 : 1 ≤ (pos s).length := by
      unfold pos
      obtain ⟨n, e⟩ : ∃ n, s.size = n + 1 := ⟨s.size - 1, by omega⟩
      rw [e, posF_go s n 0 (by omega)]; simp
    rw [decide_eq_true h1, decide_eq_true h2]
theorem nameB_pos (s : ByteArray) : nameB s = (decide (1 ≤ (pos s).length) && (decide ((pos s).length ≤ 40) && (pos s).all fun k => !(!namedB (Utf8.decode s k).1 || wrongB s k))) := by
  unfold nameB everyB
  rw [show Lib.validD s.data.toList = validB s from rfl, validB_pos, rns_pos, List.length_map, List.all_map, pos_empty, Bool.and_assoc]
  congr 2
  induction pos s with
  | nil => rfl
  | cons k l ih =>
    simp only [List.all_cons, Function.comp_apply] at ih ⊢
    rw [← ih]
    cases namedB (Utf8.decode s k).1 <;> cases wrongB s k <;> simp
set_option maxHeartbeats 4000000 in
theorem name1d (H : HP) (s : ByteArray) (hs : s.size ≤ 1000000000) : Does1 Tryz.prog 50 [.string s] [Pile H] (.bool (nameB s)) := by
  have hpl := pos_len s
  have ha := all_ H s hs
  refine fn_intro Tryz.func50 rfl Tryz.ntmps50 rfl (by simp only [argFr, Nat.zero_add, Nat.reduceAdd]; rfl) (fun Γ => ?_)
  repeat (first
    | (refine g_ops ?_; first | refine sO ?_ | refine s_n (fun _ => ?_) | refine s_app (fun _ _ => ?_) | refine s_b0 (fun _ => ?_) | ((fail_if_success refine g_lit rfl rfl rfl ?_); first | apply g_partM rfl rfl rfl | apply g_partMB rfl rfl rfl | fail) | refine s_c (ha) (fun _ _ => ?_))
    | apply g_regB (id := 2) 16 | apply g_regB (id := 8) 6 | apply g_regB (id := 9) 78 | refine gS ?_ | exact s_m | intro _ | (refine gp_take ?_; first | refine pT ?_ | ((fail_if_success refine gp_lit rfl rfl rfl rfl ?_); first | apply gp_guard_dec rfl rfl rfl rfl | apply gp_guard rfl rfl rfl rfl | fail))
    | (refine gp_see ?_; first | refine p_f ?_ | refine pS ?_ | ((fail_if_success refine gp_lit rfl rfl rfl rfl ?_); first | apply gp_guard_dec rfl rfl rfl rfl | apply gp_guard rfl rfl rfl rfl | fail))
    | (refine gp_one ?_; first | refine pO ?_ | refine p_n (fun _ => ?_) | refine p_app (fun _ _ => ?_) | refine p_b0 (fun _ => ?_) | ((fail_if_success refine gp_lit rfl rfl rfl rfl ?_); first | apply gp_guard_dec rfl rfl rfl rfl | apply gp_guard rfl rfl rfl rfl | fail) | refine p_c (ha) (fun _ _ => ?_))
    | refine gp_two ?_ ?_ | refine gp_done hd hk ?_ | intro _ | refine p_ta hd hk (fun _ _ _ hd hk => ?_) | refine p_ts hd hk (fun _ hd hk => ?_))
  rename_i y hy
  obtain ⟨H1, p, c⟩ := y
  obtain ⟨hs1, hS⟩ := hy
  dsimp only [List.cons_append, List.nil_append] at hs1 hS ⊢
  rw [nameB_pos]
  refine g_cond rfl (fun h => ?_) (fun h => ?_)
  · repeat (first
      | (refine g_ops ?_; first | refine sO ?_ | refine s_n (fun _ => ?_) | refine s_app (fun _ _ => ?_) | refine s_b0 (fun _ => ?_) | ((fail_if_success refine g_lit rfl rfl rfl ?_); first | apply g_partM rfl rfl rfl | apply g_partMB rfl rfl rfl | fail))
      | refine gS ?_ | exact s_m | intro _)
    refine g_unpile hs1 (by (repeat (first | exact Sel.here | apply Sel.there)); first | done | fail) ?_
    exact s_r () (hp := by simp only [pack]; congr 1; rw [Bool.eq_iff_iff]; simp [Bool.cond_eq_ite] at h ⊢; intros; omega)
  · have h1 : 1 ≤ (pos s).length ∧ (pos s).length ≤ 40 := by simp [Bool.cond_eq_ite] at h; omega
    rw [decide_eq_true h1.1, decide_eq_true h1.2, Bool.true_and, Bool.true_and]
    repeat (first
      | (refine g_ops ?_; first | refine sO ?_ | refine s_n (fun _ => ?_) | refine s_app (fun _ _ => ?_) | refine s_b0 (fun _ => ?_) | ((fail_if_success refine g_lit rfl rfl rfl ?_); first | apply g_partM rfl rfl rfl | apply g_partMB rfl rfl rfl | fail))
      | refine gS ?_ | exact s_m | intro _)
    refine g_loop (X := AmX) (fun x => [(3, .slice p (pos s).length c), (4, int x.i)]) (fun _ => [Pile H1]) (fun x => x.i ≤ (pos s).length ∧ ((pos s).all fun k => !(!namedB (Utf8.decode s k).1 || wrongB s k)) = (((pos s).drop x.i).all fun k => !(!namedB (Utf8.decode s k).1 || wrongB s k))) (fun x => (pos s).length - x.i) ⟨0⟩ ⟨Nat.zero_le _, rfl⟩ (by (repeat (first | exact FrSub.nil | refine FrSub.cons rfl ?_)); first | done | fail) (by (repeat (first | exact Take.nil | apply Take.cons | exact Sel.here | apply Sel.there)); first | done | fail) (fun x hx => ?_)
    obtain ⟨i⟩ := x
    obtain ⟨hi, he⟩ := hx
    dsimp only at hi he ⊢
    repeat (first
      | (refine g_ops ?_; first | refine sO ?_ | refine s_n (fun _ => ?_) | refine s_app (fun _ _ => ?_) | refine s_b0 (fun _ => ?_) | ((fail_if_success refine g_lit rfl rfl rfl ?_); first | apply g_partM rfl rfl rfl | apply g_partMB rfl rfl rfl | fail))
      | refine gS ?_ | exact s_m | intro _)
    refine g_cond_dec rfl (fun h2 => ?_) (fun h2 => ?_)
    · have hi' : i < (pos s).length := by omega
      obtain ⟨b, o, rfl, hrow⟩ := rn1_at hS hi'
      rw [List.drop_eq_getElem_cons hi', List.all_cons] at he
      generalize (pos s)[i] = k at hrow he
      have hr : ∀ k', k' = o + i * 4 + 3 → Reads (Pile H1) ⟨b, k', none⟩ (.bool (wrongB s k)) := fun _ e => e ▸ hrow 3 _ rfl
      have hr2 : ∀ k', k' = o + i * 4 → Reads (Pile H1) ⟨b, k', none⟩ (.int .i32 ((Utf8.decode s k).1 : Int)) := fun _ e => e ▸ hrow 0 _ rfl
      clear hrow
      repeat ((fail_if_success refine s_at 70 ?_); first
        | (refine g_ops ?_; first | refine sO ?_ | refine s_n (fun _ => ?_) | refine s_app (fun _ _ => ?_) | refine s_b0 (fun _ => ?_) | ((fail_if_success refine g_lit rfl rfl rfl ?_); first | apply g_partM rfl rfl rfl | apply g_partMB rfl rfl rfl | fail))
        | apply g_regB (id := 2) 16 | apply g_regB (id := 8) 6 | refine gS ?_ | exact s_m | intro _ | (refine gp_take ?_; first | refine pT ?_ | ((fail_if_success refine gp_lit rfl rfl rfl rfl ?_); first | apply gp_guard_dec rfl rfl rfl rfl | apply gp_guard rfl rfl rfl rfl | fail))
        | (refine gp_see ?_; first | refine p_f ?_ | refine pS ?_ | ((fail_if_success refine gp_lit rfl rfl rfl rfl ?_); first | apply gp_guard_dec rfl rfl rfl rfl | apply gp_guard rfl rfl rfl rfl | fail))
        | (refine gp_one ?_; first | refine pO ?_ | refine p_n (fun _ => ?_) | refine p_app (fun _ _ => ?_) | refine p_b0 (fun _ => ?_) | ((fail_if_success refine gp_lit rfl rfl rfl rfl ?_); first | apply gp_guard_dec rfl rfl rfl rfl | apply gp_guard rfl rfl rfl rfl | fail))
        | refine gp_two ?_ ?_ | refine gp_done hd hk ?_ | intro _ | refine p_ta hd hk (fun _ _ _ hd hk => ?_) | refine p_ts hd hk (fun _ hd hk => ?_))
      refine g_as 6 (v' := .bool (namedB (Utf8.decode s k).1)) rfl (congrArg Value.bool ?_) ?_
      · generalize (Utf8.decode s k).1 = r
        unfold namedB
        rw [Bool.eq_iff_iff]
        simp [Bool.cond_eq_ite]
        repeat' split
        all_goals omega
      cases hn : namedB (Utf8.decode s k).1 with
      | false =>
        rw [hn] at he
        repeat (first
          | (refine g_ops ?_; first | refine sO ?_ | refine s_n (fun _ => ?_) | refine s_app (fun _ _ => ?_) | refine s_b0 (fun _ => ?_) | ((fail_if_success refine g_lit rfl rfl rfl ?_); first | apply g_partM rfl rfl rfl | apply g_partMB rfl rfl rfl | fail))
          | refine gS ?_ | exact s_m | intro _)
        refine g_unpile hs1 (by (repeat (first | exact Sel.here | apply Sel.there)); first | done | fail) ?_
        exact s_r () (hp := by simp only [pack]; rw [he]; simp)
      | true =>
        rw [hn] at he
        cases hw : wrongB s k <;> rw [hw] at hr he
        · repeat (first
            | (refine g_ops ?_; first | refine sO ?_ | refine s_n (fun _ => ?_) | refine s_app (fun _ _ => ?_) | refine s_b0 (fun _ => ?_) | ((fail_if_success refine g_lit rfl rfl rfl ?_); first | apply g_partM rfl rfl rfl | apply g_partMB rfl rfl rfl | fail))
            | refine gS ?_ | exact s_m | intro _)
          refine g_as 4 (v' := int ((i + 1 : Nat) : Int)) rfl (congrArg (Value.int .i64) (by push_cast; rfl)) ?_
          exact gA ⟨i + 1⟩ (by simp only; omega) ⟨hi', by simpa using he⟩
        · repeat (first
            | (refine g_ops ?_; first | refine sO ?_ | refine s_n (fun _ => ?_) | refine s_app (fun _ _ => ?_) | refine s_b0 (fun _ => ?_) | ((fail_if_success refine g_lit rfl rfl rfl ?_); first | apply g_partM rfl rfl rfl | apply g_partMB rfl rfl rfl | fail))
            | refine gS ?_ | exact s_m | intro _)
          refine g_unpile hs1 (by (repeat (first | exact Sel.here | apply Sel.there)); first | done | fail) ?_
          exact s_r () (hp := by simp only [pack]; rw [he]; simp)
    · obtain rfl : i = (pos s).length := by omega
      rw [List.drop_length] at he
      repeat (first
        | (refine g_ops ?_; first | refine sO ?_ | refine s_n (fun _ => ?_) | refine s_app (fun _ _ => ?_) | refine s_b0 (fun _ => ?_) | ((fail_if_success refine g_lit rfl rfl rfl ?_); first | apply g_partM rfl rfl rfl | apply g_partMB rfl rfl rfl | fail))
        | refine gS ?_ | exact s_m | intro _)
      refine g_unpile hs1 (by (repeat (first | exact Sel.here | apply Sel.there)); first | done | fail) ?_
      exact s_r () (hp := by simp only [pack]; rw [he]; simp)
end Go.Proofs.YtcgmliaahdpmcaaGreatDoor
