/- Contracts and laws that the proof stands on. -/
import Derived.Test.YtaahibcibgljbaaDoorCallReplies15
set_option linter.unusedSimpArgs false
set_option linter.unusedVariables false
namespace Go.Proofs.YtaahibcibgljbaaDoor
open Go.Sl
def posF (s : ByteArray) : Nat → Nat → List Nat
  | 0, _ => []
  | f + 1, k => if k < s.size then k :: posF s f (k + (Utf8.decode s k).2) else []
theorem posF_end (s : ByteArray) (f k : Nat) (h : ¬ k < s.size) : posF s f k = [] := by cases f <;> simp [posF, h]
theorem posF_go (s : ByteArray) (f k : Nat) (h : k < s.size) : posF s (f + 1) k = k :: posF s f (k + (Utf8.decode s k).2) := by simp [posF, h]
theorem rnsF_pos (s : ByteArray) : ∀ f k, rnsF s f k = (posF s f k).map fun k => (Utf8.decode s k).1
  | 0, k => rfl
  | f + 1, k => by
    by_cases h : k < s.size
    · rw [rnsF_go s f k h, posF_go s f k h, List.map_cons, rnsF_pos s f]
    · rw [rnsF_end s _ k h, posF_end s _ k h]; rfl
theorem qF_pos (s : ByteArray) : ∀ f k, qF s f k = (posF s f k).flatMap (qR s)
  | 0, k => rfl
  | f + 1, k => by
    by_cases h : k < s.size
    · rw [qF_go s f k h, posF_go s f k h, List.flatMap_cons, qF_pos s f]
    · rw [qF_end s _ k h, posF_end s _ k h]; rfl
theorem valid_pos (s : ByteArray) : ∀ f k, s.size ≤ k + f → Lib.validD (s.data.toList.drop k) = (posF s f k).all fun k => !wrongB s k := by
  have h2 : s.data.toList.length = s.size := by simp
  have hend : ∀ k, ¬ k < s.size → Lib.validD (s.data.toList.drop k) = true := fun k h => by
    rw [List.drop_eq_nil_of_le (by rw [h2]; omega)]; rfl
  intro f
  induction f with
  | zero => intro k h; rw [hend k (by omega)]; rfl
  | succ f ih =>
    intro k h
    by_cases hk : k < s.size
    · have hw := Lib.decode_width_pos s k hk
      have hne : s.data.toList.drop k ≠ [] := fun e => by have := congrArg List.length e; rw [List.length_drop, h2] at this; simp at this; omega
      rw [Lib.validD_step _ hne, Lib.decodeL_drop, posF_go s f k hk, List.all_cons, ← ih _ (by omega), List.drop_drop]
      by_cases hb : (Utf8.decode s k).1 = 65533 ∧ (Utf8.decode s k).2 = 1
      · rw [if_pos hb, show wrongB s k = true from decide_eq_true hb]; rfl
      · rw [if_neg hb, show wrongB s k = false from decide_eq_false hb]; rfl
    · rw [hend k hk, posF_end s _ k hk]; rfl
def pos (s : ByteArray) : List Nat := posF s s.size 0
theorem validB_pos (s : ByteArray) : validB s = (pos s).all fun k => !wrongB s k := by
  have := valid_pos s s.size 0 (by omega)
  rwa [List.drop_zero] at this
theorem rns_pos (s : ByteArray) : rns s = (pos s).map fun k => (Utf8.decode s k).1 := rnsF_pos s s.size 0
theorem keyB_pos (s : ByteArray) : keyB s = (decide ((pos s).length ≤ 40) && (pos s).all fun k => !(wrongB s k || ctlB (Utf8.decode s k).1)) := by
  unfold keyB everyB
  rw [validB_pos, rns_pos, List.length_map, List.all_map, Bool.and_assoc]
  congr 1
  induction pos s with
  | nil => rfl
  | cons k l ih =>
    simp only [List.all_cons, Function.comp_apply] at ih ⊢
    rw [← ih]
    cases ctlB (Utf8.decode s k).1 <;> cases wrongB s k <;> simp
structure Rn where
  r : Nat
  a : Nat
  e : Nat
  no : Bool
def Rn.cells (x : Rn) : List Value := [.int .i32 (x.r : Int), .int .i64 (x.a : Int), .int .i64 (x.e : Int), .bool x.no]
theorem Rn.len (x : Rn) : x.cells.length = 4 := rfl
def rn0 (s : ByteArray) (k : Nat) : Rn := ⟨(Utf8.decode s k).1, k, k + (Utf8.decode s k).2, false⟩
def rn1 (s : ByteArray) (k : Nat) : Rn := ⟨(Utf8.decode s k).1, k, k + (Utf8.decode s k).2, wrongB s k⟩
def openL (s : ByteArray) : List Nat → List Rn
  | [] => []
  | [p] => [⟨(Utf8.decode s p).1, p, s.size, false⟩]
  | p :: q :: l => ⟨(Utf8.decode s p).1, p, q, false⟩ :: openL s (q :: l)
theorem openL_snoc (s : ByteArray) (p : Nat) : ∀ ps : List Nat, ∃ A : List Rn, A.length = ps.length ∧ openL s (ps ++ [p]) = A ++ [⟨(Utf8.decode s p).1, p, s.size, false⟩] ∧ ∀ k, openL s (ps ++ [p] ++ [k]) = A ++ [⟨(Utf8.decode s p).1, p, k, false⟩, ⟨(Utf8.decode s k).1, k, s.size, false⟩]
  | [] => ⟨[], rfl, rfl, fun _ => rfl⟩
  | [q] => ⟨[⟨(Utf8.decode s q).1, q, p, false⟩], rfl, rfl, fun _ => rfl⟩
  | q :: r :: l => by
    obtain ⟨A, h0, h1, h2⟩ := openL_snoc s p (r :: l)
    refine ⟨⟨(Utf8.decode s q).1, q, r, false⟩ :: A, by simp at h0 ⊢; omega, ?_, fun k => ?_⟩
    · show _ :: openL s (r :: l ++ [p]) = _
      rw [h1]; rfl
    · show _ :: openL s (r :: l ++ [p] ++ [k]) = _
      rw [h2]; rfl
theorem openL_pos (s : ByteArray) : ∀ f k, s.size ≤ k + f → openL s (posF s f k) = (posF s f k).map (rn0 s)
  | 0, k, _ => rfl
  | f + 1, k, h => by
    by_cases hk : k < s.size
    · have hw := Lib.decode_width_pos s k hk
      have hin := decode_in s k hk
      rw [posF_go s f k hk]
      have ih := openL_pos s f (k + (Utf8.decode s k).2) (by omega)
      by_cases h2 : k + (Utf8.decode s k).2 < s.size
      · obtain ⟨f, rfl⟩ : ∃ f', f = f' + 1 := ⟨f - 1, by omega⟩
        rw [posF_go s f _ h2] at ih ⊢
        show _ :: openL s (_ :: _) = _
        rw [ih]; rfl
      · rw [posF_end s f _ h2]
        have e : k + (Utf8.decode s k).2 = s.size := by omega
        simp only [openL, List.map_cons, List.map_nil, rn0, e]
    · rw [posF_end s _ k hk]; rfl
theorem posF_mem (s : ByteArray) : ∀ f k p, p ∈ posF s f k → p < s.size
  | f + 1, k, p, h => by
    by_cases hk : k < s.size
    · rw [posF_go s f k hk] at h
      rcases List.mem_cons.1 h with rfl | h
      · exact hk
      · exact posF_mem s f _ p h
    · rw [posF_end s _ k hk] at h; cases h
theorem posF_len (s : ByteArray) : ∀ f k, k ≤ s.size → (posF s f k).length ≤ s.size - k
  | 0, k, h => by simp [posF]
  | f + 1, k, h => by
    by_cases hk : k < s.size
    · have hw := Lib.decode_width_pos s k hk
      have hin := decode_in s k hk
      have := posF_len s f _ hin
      rw [posF_go s f k hk, List.length_cons]; omega
    · rw [posF_end s _ k hk]; simp
theorem pos_len (s : ByteArray) : (pos s).length ≤ s.size := by have := posF_len s s.size 0 (Nat.zero_le _); unfold pos; omega
theorem pos_mem {s : ByteArray} {p : Nat} (h : p ∈ pos s) : p < s.size := posF_mem s _ _ p h
def halfL (s : ByteArray) (i : Nat) : List Rn := ((pos s).take i).map (rn1 s) ++ ((pos s).drop i).map (rn0 s)
theorem halfL_len (s : ByteArray) (i : Nat) : (halfL s i).length = (pos s).length := by unfold halfL; simp; omega
theorem halfL_zero (s : ByteArray) : halfL s 0 = openL s (pos s) := by unfold halfL pos; rw [openL_pos s _ _ (by omega)]; simp
theorem halfL_end (s : ByteArray) : halfL s (pos s).length = (pos s).map (rn1 s) := by unfold halfL; simp
theorem flat_set {A B : List Rn} {x : Rn} (b : Bool) : ((A ++ x :: B).flatMap Rn.cells).set (A.length * 4 + 3) (.bool b) = (A ++ { x with no := b } :: B).flatMap Rn.cells := by
  rw [List.flatMap_append, List.flatMap_append, List.set_append_right _ _ (by rw [flat_len Rn.len]; omega), flat_len Rn.len, show A.length * 4 + 3 - A.length * 4 = 3 by omega]
  rfl
theorem flat_setE {A B : List Rn} {x : Rn} (k : Nat) : ((A ++ x :: B).flatMap Rn.cells).set (A.length * 4 + 2) (.int .i64 (k : Int)) = (A ++ { x with e := k } :: B).flatMap Rn.cells := by
  rw [List.flatMap_append, List.flatMap_append, List.set_append_right _ _ (by rw [flat_len Rn.len]; omega), flat_len Rn.len, show A.length * 4 + 2 - A.length * 4 = 2 by omega]
  rfl
theorem halfL_step (s : ByteArray) (i : Nat) (h : i < (pos s).length) : ((halfL s i).flatMap Rn.cells).set (i * 4 + 3) (.bool (wrongB s (pos s)[i])) = (halfL s (i + 1)).flatMap Rn.cells := by
  have e1 : halfL s i = ((pos s).take i).map (rn1 s) ++ rn0 s (pos s)[i] :: ((pos s).drop (i + 1)).map (rn0 s) := by
    unfold halfL; rw [List.drop_eq_getElem_cons h, List.map_cons]
  have e2 : halfL s (i + 1) = ((pos s).take i).map (rn1 s) ++ rn1 s (pos s)[i] :: ((pos s).drop (i + 1)).map (rn0 s) := by
    unfold halfL; rw [List.take_succ_eq_append_getElem h, List.map_append, List.append_assoc]; rfl
  have e3 : i = (((pos s).take i).map (rn1 s)).length := by simp; omega
  have := flat_set (A := ((pos s).take i).map (rn1 s)) (B := ((pos s).drop (i + 1)).map (rn0 s)) (x := rn0 s (pos s)[i]) (wrongB s (pos s)[i])
  rw [← e3, ← e1] at this
  rw [this, e2]; rfl
theorem halfL_at (s : ByteArray) (i : Nat) (h : i < (pos s).length) : (halfL s i)[i]? = some (rn0 s (pos s)[i]) := by
  unfold halfL
  rw [List.getElem?_append_right (by simp; omega), List.drop_eq_getElem_cons h]
  simp only [List.map_cons, List.length_map, List.length_take, Nat.min_eq_left (Nat.le_of_lt h), Nat.sub_self, List.getElem?_cons_zero]
end Go.Proofs.YtaahibcibgljbaaDoor
namespace Go.Proofs.YtaahibcibgljbaaDoor
open Go.Sl facts
attribute [local irreducible] Code.wp wpList Exit.then Exit.inBlock bodyPost Back MidQ G GP QStep VStep CStep SStep Does Post Reads
attribute [local irreducible] wrongB
structure AlX where
  k : Nat
  f : Nat
  ps : List Nat
  q : Option Addr
  c : Nat
structure AmX where
  i : Nat
set_option maxHeartbeats 4000000 in
theorem all_ (H : HP) (s : ByteArray) (hs : s.size ≤ 1000000000) : Does Tryd.prog 60 [.string s] [Pile H] (X := HP × Option Addr × Nat) (fun y => .slice y.2.1 (pos s).length y.2.2) (fun y => [Pile y.1]) (fun y => HP.sub H y.1 ∧ SlAt (Pile y.1) 4 y.2.1 (pos s).length (((pos s).map (rn1 s)).flatMap Rn.cells)) := by
  have hpl := pos_len s
  refine fn_intro Tryd.func60 rfl Tryd.ntmps60 rfl (by simp only [argFr, Nat.zero_add, Nat.reduceAdd]; rfl) (fun Γ => ?_)
  repeat (first
    | (refine g_ops ?_; first | refine sO ?_ | refine s_n (fun _ => ?_) | refine s_app (fun _ _ => ?_) | refine s_b0 (fun _ => ?_) | ((fail_if_success refine g_lit rfl rfl rfl ?_); first | apply g_partM rfl rfl rfl | apply g_partMB rfl rfl rfl | fail))
    | refine gS ?_ | exact s_m | intro _)
  refine g_n (cs_range inferInstance rfl) rfl rfl (fun it => ?_)
  repeat (first
    | (refine g_ops ?_; first | refine sO ?_ | refine s_n (fun _ => ?_) | refine s_app (fun _ _ => ?_) | refine s_b0 (fun _ => ?_) | ((fail_if_success refine g_lit rfl rfl rfl ?_); first | apply g_partM rfl rfl rfl | apply g_partMB rfl rfl rfl | fail))
    | refine gS ?_ | exact s_m | intro _)
  refine g_own_nil none 4 126 ?_
  refine g_loop (X := AlX) (fun x => [(0, .string s), (3, .slice x.q (openL s x.ps).length x.c), (8, .pointer (some ⟨it, 0, none⟩))])
    (fun x => [.own x.q (openL s x.ps).length x.c 4 ((openL s x.ps).flatMap Rn.cells) 126, .pt it (.stringIter s x.k), Pile H])
    (fun x => s.size ≤ x.k + x.f ∧ x.k ≤ s.size ∧ x.ps.length ≤ x.k ∧ pos s = x.ps ++ posF s x.f x.k) (fun x => x.f) ⟨0, s.size, [], none, 0⟩ ⟨by dsimp only; omega, Nat.zero_le _, by simp, rfl⟩ (by (repeat (first | exact FrSub.nil | refine FrSub.cons rfl ?_)); first | done | fail) (by (repeat (first | exact Take.nil | apply Take.cons | exact Sel.here | apply Sel.there)); first | done | fail) (fun x hx => ?_)
  obtain ⟨k, f, ps, q, c⟩ := x
  obtain ⟨hf, hk, hlen, he⟩ := hx
  dsimp only at hf hk hlen he ⊢
  repeat (first
    | (refine g_ops ?_; first | refine sO ?_ | refine s_n (fun _ => ?_) | refine s_app (fun _ _ => ?_) | refine s_b0 (fun _ => ?_) | ((fail_if_success refine g_lit rfl rfl rfl ?_); first | apply g_partM rfl rfl rfl | apply g_partMB rfl rfl rfl | fail))
    | refine gS ?_ | exact s_m | intro _)
  by_cases hlt : k < s.size
  · obtain ⟨f, rfl⟩ : ∃ f', f = f' + 1 := ⟨f - 1, by omega⟩
    have hw := Lib.decode_width_pos s k hlt
    have hin := decode_in s k hlt
    rw [posF_go s f k hlt] at he
    refine g_c (cs_next rfl (by (repeat (first | exact Sel.here | apply Sel.there)); first | done | fail) hlt) rfl rfl (fun _ _ => ?_)
    refine g_own (n := 4) (xs := (openL s ps).flatMap Rn.cells) (by (repeat (first | exact Sel.here | apply Sel.there)); first | done | fail) (fun hol hoc hop => ?_)
    have hinv : s.size ≤ k + (Utf8.decode s k).2 + f ∧ k + (Utf8.decode s k).2 ≤ s.size ∧ (ps ++ [k]).length ≤ k + (Utf8.decode s k).2 ∧ pos s = (ps ++ [k]) ++ posF s f (k + (Utf8.decode s k).2) := ⟨by omega, hin, by rw [List.length_append, List.length_singleton]; omega, by rw [he, List.append_assoc]; rfl⟩
    rcases List.eq_nil_or_concat ps with rfl | ⟨ps', p, rfl⟩
    · dsimp only [openL, List.length_nil, List.flatMap_nil] at hop ⊢
      repeat (first
        | (refine g_ops ?_; first | refine sO ?_ | refine s_n (fun _ => ?_) | refine s_app (fun _ _ => ?_) | refine s_b0 (fun _ => ?_) | ((fail_if_success refine g_lit rfl rfl rfl ?_); first | apply g_partM rfl rfl rfl | apply g_partMB rfl rfl rfl | fail))
        | refine gS ?_ | exact s_m | intro _)
      rename_i q' c'
      exact gA ⟨k + (Utf8.decode s k).2, f, [k], q', c'⟩ (by simp only; omega) hinv
    · rw [List.concat_eq_append] at hinv hop hol hoc ⊢
      obtain ⟨A, hA, e1, e2⟩ := openL_snoc s p ps'
      have hAb : A.length + 1 ≤ 1000000000 := by
        have := hlen
        simp only [List.length_concat] at this
        omega
      rw [e1] at hop hol hoc ⊢
      obtain ⟨b, rfl⟩ := hop (by simp)
      have hAl : (A ++ [(⟨(Utf8.decode s p).1, p, s.size, false⟩ : Rn)]).length = A.length + 1 := by simp
      simp only [hAl] at hop hol hoc ⊢
      repeat (first
        | (refine g_ops ?_; first | refine sO ?_ | refine s_n (fun _ => ?_) | refine s_app (fun _ _ => ?_) | refine s_b0 (fun _ => ?_) | ((fail_if_success refine g_lit rfl rfl rfl ?_); first | apply g_partM rfl rfl rfl | apply g_partMB rfl rfl rfl | fail))
        | refine gS ?_ | exact s_m | intro _)
      refine g_as 15 (v' := .bool true) rfl (congrArg Value.bool (decide_eq_true (by omega))) ?_
      repeat (first
        | (refine g_ops ?_; first | refine sO ?_ | refine s_n (fun _ => ?_) | refine s_app (fun _ _ => ?_) | refine s_b0 (fun _ => ?_) | ((fail_if_success refine g_lit rfl rfl rfl ?_); first | apply g_partM rfl rfl rfl | apply g_partMB rfl rfl rfl | fail))
        | refine gS ?_ | exact s_m | intro _)
      refine g_as 22 (v' := .pointer (some ⟨b, A.length * 4 + 2, none⟩)) rfl (by congr 4; push_cast; omega) ?_
      refine g_ops ?_
      refine g_s (ss_storeOwn (v := int k) inferInstance rfl rfl rfl (by (repeat (first | exact Sel.here | apply Sel.there)); first | done | fail) (by rw [flat_len Rn.len]; simp; omega)) rfl ?_
      rw [flat_setE]
      repeat (first
        | (refine g_ops ?_; first | refine sO ?_ | refine s_n (fun _ => ?_) | refine s_app (fun _ _ => ?_) | refine s_b0 (fun _ => ?_) | ((fail_if_success refine g_lit rfl rfl rfl ?_); first | apply g_partM rfl rfl rfl | apply g_partMB rfl rfl rfl | fail))
        | refine gS ?_ | exact s_m | intro _)
      rename_i q' c'
      have e3 : A.length + 1 + 1 = (openL s (ps' ++ [p] ++ [k])).length := by rw [e2]; simp
      have e4 : (A ++ [(⟨(Utf8.decode s p).1, p, k, false⟩ : Rn)]).flatMap Rn.cells ++ [Value.int .i32 ((Utf8.decode s k).1 : Int), .int .i64 (k : Int), .int .i64 (s.size : Int), .bool false] = (openL s (ps' ++ [p] ++ [k])).flatMap Rn.cells := by rw [e2]; simp [Rn.cells]
      dsimp only
      rw [e4, e3]
      exact gA ⟨k + (Utf8.decode s k).2, f, ps' ++ [p] ++ [k], q', c'⟩ (by simp only; omega) hinv
  · rw [posF_end s f k hlt, List.append_nil] at he
    refine g_v (vs_nextEnd rfl (by (repeat (first | exact Sel.here | apply Sel.there)); first | done | fail) hlt) rfl rfl ?_
    repeat (first
      | (refine g_ops ?_; first | refine sO ?_ | refine s_n (fun _ => ?_) | refine s_app (fun _ _ => ?_) | refine s_b0 (fun _ => ?_) | ((fail_if_success refine g_lit rfl rfl rfl ?_); first | apply g_partM rfl rfl rfl | apply g_partMB rfl rfl rfl | fail))
      | refine gS ?_ | exact s_m | intro _)
    have he' : pos s = ps := he
    subst he'
    rw [← halfL_zero, halfL_len]
    refine g_loop (X := AmX) (fun x => [(3, .slice q (pos s).length c), (6, int x.i)]) (fun x => [.own q (pos s).length c 4 ((halfL s x.i).flatMap Rn.cells) 126, Pile H]) (fun x => x.i ≤ (pos s).length) (fun x => (pos s).length - x.i) ⟨0⟩ (Nat.zero_le _) (by (repeat (first | exact FrSub.nil | refine FrSub.cons rfl ?_)); first | done | fail) (by (repeat (first | exact Take.nil | apply Take.cons | exact Sel.here | apply Sel.there)); first | done | fail) (fun x hx => ?_)
    obtain ⟨i⟩ := x
    dsimp only at hx ⊢
    repeat (first
      | (refine g_ops ?_; first | refine sO ?_ | refine s_n (fun _ => ?_) | refine s_app (fun _ _ => ?_) | refine s_b0 (fun _ => ?_) | ((fail_if_success refine g_lit rfl rfl rfl ?_); first | apply g_partM rfl rfl rfl | apply g_partMB rfl rfl rfl | fail))
      | refine gS ?_ | exact s_m | intro _)
    refine g_cond_dec rfl (fun h2 => ?_) (fun h2 => ?_)
    · have hi' : i < (pos s).length := by omega
      refine g_own (n := 4) (xs := (halfL s i).flatMap Rn.cells) (by (repeat (first | exact Sel.here | apply Sel.there)); first | done | fail) (fun hol hoc hop => ?_)
      obtain ⟨b, rfl⟩ := hop (by omega)
      have hrow0 := own_at (b := b) (len := (pos s).length) (cap := c) (e := 126) Rn.len (halfL_at s i hi')
      have hstep := halfL_step s i hi'
      have hpm := pos_mem (List.getElem_mem hi')
      have hpd := decode_in s _ hpm
      generalize (pos s)[i] = p at hrow0 hstep hpm hpd
      have hcell : ∀ (j : Nat) (v : Value), [Value.int .i32 ((Utf8.decode s p).1 : Int), .int .i64 (p : Int), .int .i64 ((p + (Utf8.decode s p).2 : Nat) : Int), .bool false][j]? = some v → Reads _ _ v := hrow0
      repeat (first
        | (refine g_ops ?_; first | refine sO ?_ | refine s_n (fun _ => ?_) | refine s_app (fun _ _ => ?_) | refine s_b0 (fun _ => ?_) | ((fail_if_success refine g_lit rfl rfl rfl ?_); first | apply g_partM rfl rfl rfl | apply g_partMB rfl rfl rfl | fail))
        | refine gS ?_ | exact s_m | intro _)
      refine g_drawO (.take 0 (.take 1 (.take 2 (.take 3 (.take 4 (.take 5 (.one 6 (.take 7 (.take 8 (.take 9 (.take 10 (.take 11 (.take 12 (.take 14 (.take 15 (.take 16 (.take 17 (.two 13 (.one 18 (.take 19 (.take 20 (.take 21 (.take 22 (.take 23 (.one 24 .done))))))) 18 (.one 13 (.take 19 (.take 20 (.take 21 (.take 22 (.take 23 (.one 24 .done))))))))))))))))))))))))) (by (repeat (first | exact Sel.here | apply Sel.there)); first | done | fail) (fun m hd hk => ?_)
      repeat (first
        | (refine gp_take ?_; first | refine pT ?_ | ((fail_if_success refine gp_lit rfl rfl rfl rfl ?_); first | apply gp_guard_dec rfl rfl rfl rfl | apply gp_guard rfl rfl rfl rfl | fail))
        | (refine gp_see ?_; first | refine p_f ?_ | refine pS ?_ | ((fail_if_success refine gp_lit rfl rfl rfl rfl ?_); first | apply gp_guard_dec rfl rfl rfl rfl | apply gp_guard rfl rfl rfl rfl | fail))
        | (refine gp_one ?_; first | refine pO ?_ | refine p_n (fun _ => ?_) | refine p_app (fun _ _ => ?_) | refine p_b0 (fun _ => ?_) | ((fail_if_success refine gp_lit rfl rfl rfl rfl ?_); first | apply gp_guard_dec rfl rfl rfl rfl | apply gp_guard rfl rfl rfl rfl | fail))
        | refine gp_two ?_ ?_ | refine gp_done hd hk ?_ | intro _ | refine p_ta hd hk (fun _ _ _ hd hk => ?_) | refine p_ts hd hk (fun _ hd hk => ?_))
      by_cases hd3 : (Utf8.decode s p).1 = 65533
      · refine gp_as 45 (v' := .bool true) rfl (congrArg Value.bool (decide_eq_true (by omega))) ?_
        repeat (first
          | (refine gp_take ?_; first | refine pT ?_ | ((fail_if_success refine gp_lit rfl rfl rfl rfl ?_); first | apply gp_guard_dec rfl rfl rfl rfl | apply gp_guard rfl rfl rfl rfl | fail))
          | (refine gp_see ?_; first | refine p_f ?_ | refine pS ?_ | ((fail_if_success refine gp_lit rfl rfl rfl rfl ?_); first | apply gp_guard_dec rfl rfl rfl rfl | apply gp_guard rfl rfl rfl rfl | fail))
          | (refine gp_one ?_; first | refine pO ?_ | refine p_n (fun _ => ?_) | refine p_app (fun _ _ => ?_) | refine p_b0 (fun _ => ?_) | ((fail_if_success refine gp_lit rfl rfl rfl rfl ?_); first | apply gp_guard_dec rfl rfl rfl rfl | apply gp_guard rfl rfl rfl rfl | fail))
          | refine gp_two ?_ ?_ | refine gp_done hd hk ?_ | intro _ | refine p_ta hd hk (fun _ _ _ hd hk => ?_) | refine p_ts hd hk (fun _ hd hk => ?_))
        · repeat (first
            | (refine gp_take ?_; first | refine pT ?_ | ((fail_if_success refine gp_lit rfl rfl rfl rfl ?_); first | apply gp_guard_dec rfl rfl rfl rfl | apply gp_guard rfl rfl rfl rfl | fail))
            | (refine gp_see ?_; first | refine p_f ?_ | refine pS ?_ | ((fail_if_success refine gp_lit rfl rfl rfl rfl ?_); first | apply gp_guard_dec rfl rfl rfl rfl | apply gp_guard rfl rfl rfl rfl | fail))
            | (refine gp_one ?_; first | refine pO ?_ | refine p_n (fun _ => ?_) | refine p_app (fun _ _ => ?_) | refine p_b0 (fun _ => ?_) | ((fail_if_success refine gp_lit rfl rfl rfl rfl ?_); first | apply gp_guard_dec rfl rfl rfl rfl | apply gp_guard rfl rfl rfl rfl | fail))
            | refine gp_two ?_ ?_ | refine gp_done hd hk ?_ | intro _ | refine p_ta hd hk (fun _ _ _ hd hk => ?_) | refine p_ts hd hk (fun _ hd hk => ?_))
          refine gp_as 58 (v' := .bool (wrongB s p)) rfl (congrArg Value.bool (by unfold wrongB; exact decide_eq_decide.2 ⟨fun h => ⟨hd3, by omega⟩, fun h => by omega⟩)) ?_
          apply gp_s (hi := rfl) (hg := rfl)
          · apply ss_storeOwn
            exact inferInstance
            exact rfl
            exact rfl
            exact rfl
            exact (by (repeat (first | exact Sel.here | apply Sel.there)); first | done | fail)
            rw [flat_len Rn.len, halfL_len]
            omega
          rw [show 0 + i * 4 + 3 = i * 4 + 3 by omega, hstep]
          repeat (first
            | (refine gp_take ?_; first | refine pT ?_ | ((fail_if_success refine gp_lit rfl rfl rfl rfl ?_); first | apply gp_guard_dec rfl rfl rfl rfl | apply gp_guard rfl rfl rfl rfl | fail))
            | (refine gp_see ?_; first | refine p_f ?_ | refine pS ?_ | ((fail_if_success refine gp_lit rfl rfl rfl rfl ?_); first | apply gp_guard_dec rfl rfl rfl rfl | apply gp_guard rfl rfl rfl rfl | fail))
            | (refine gp_one ?_; first | refine pO ?_ | refine p_n (fun _ => ?_) | refine p_app (fun _ _ => ?_) | refine p_b0 (fun _ => ?_) | ((fail_if_success refine gp_lit rfl rfl rfl rfl ?_); first | apply gp_guard_dec rfl rfl rfl rfl | apply gp_guard rfl rfl rfl rfl | fail))
            | refine gp_two ?_ ?_ | refine gp_done hd hk ?_ | intro _ | refine p_ta hd hk (fun _ _ _ hd hk => ?_) | refine p_ts hd hk (fun _ hd hk => ?_))
          repeat (first
            | (refine g_ops ?_; first | refine sO ?_ | refine s_n (fun _ => ?_) | refine s_app (fun _ _ => ?_) | refine s_b0 (fun _ => ?_) | ((fail_if_success refine g_lit rfl rfl rfl ?_); first | apply g_partM rfl rfl rfl | apply g_partMB rfl rfl rfl | fail))
            | refine gS ?_ | exact s_m | intro _)
          refine g_as 6 (v' := int ((i + 1 : Nat) : Int)) rfl (congrArg (Value.int .i64) (by push_cast; rfl)) ?_
          exact gA ⟨i + 1⟩ (by simp only; omega) hi'
        · repeat (first
            | (refine gp_take ?_; first | refine pT ?_ | ((fail_if_success refine gp_lit rfl rfl rfl rfl ?_); first | apply gp_guard_dec rfl rfl rfl rfl | apply gp_guard rfl rfl rfl rfl | fail))
            | (refine gp_see ?_; first | refine p_f ?_ | refine pS ?_ | ((fail_if_success refine gp_lit rfl rfl rfl rfl ?_); first | apply gp_guard_dec rfl rfl rfl rfl | apply gp_guard rfl rfl rfl rfl | fail))
            | (refine gp_one ?_; first | refine pO ?_ | refine p_n (fun _ => ?_) | refine p_app (fun _ _ => ?_) | refine p_b0 (fun _ => ?_) | ((fail_if_success refine gp_lit rfl rfl rfl rfl ?_); first | apply gp_guard_dec rfl rfl rfl rfl | apply gp_guard rfl rfl rfl rfl | fail))
            | refine gp_two ?_ ?_ | refine gp_done hd hk ?_ | intro _ | refine p_ta hd hk (fun _ _ _ hd hk => ?_) | refine p_ts hd hk (fun _ hd hk => ?_))
          refine gp_as 58 (v' := .bool (wrongB s p)) rfl (congrArg Value.bool (by unfold wrongB; exact decide_eq_decide.2 ⟨fun h => ⟨hd3, by omega⟩, fun h => by omega⟩)) ?_
          apply gp_s (hi := rfl) (hg := rfl)
          · apply ss_storeOwn
            exact inferInstance
            exact rfl
            exact rfl
            exact rfl
            exact (by (repeat (first | exact Sel.here | apply Sel.there)); first | done | fail)
            rw [flat_len Rn.len, halfL_len]
            omega
          rw [show 0 + i * 4 + 3 = i * 4 + 3 by omega, hstep]
          repeat (first
            | (refine gp_take ?_; first | refine pT ?_ | ((fail_if_success refine gp_lit rfl rfl rfl rfl ?_); first | apply gp_guard_dec rfl rfl rfl rfl | apply gp_guard rfl rfl rfl rfl | fail))
            | (refine gp_see ?_; first | refine p_f ?_ | refine pS ?_ | ((fail_if_success refine gp_lit rfl rfl rfl rfl ?_); first | apply gp_guard_dec rfl rfl rfl rfl | apply gp_guard rfl rfl rfl rfl | fail))
            | (refine gp_one ?_; first | refine pO ?_ | refine p_n (fun _ => ?_) | refine p_app (fun _ _ => ?_) | refine p_b0 (fun _ => ?_) | ((fail_if_success refine gp_lit rfl rfl rfl rfl ?_); first | apply gp_guard_dec rfl rfl rfl rfl | apply gp_guard rfl rfl rfl rfl | fail))
            | refine gp_two ?_ ?_ | refine gp_done hd hk ?_ | intro _ | refine p_ta hd hk (fun _ _ _ hd hk => ?_) | refine p_ts hd hk (fun _ hd hk => ?_))
          repeat (first
            | (refine g_ops ?_; first | refine sO ?_ | refine s_n (fun _ => ?_) | refine s_app (fun _ _ => ?_) | refine s_b0 (fun _ => ?_) | ((fail_if_success refine g_lit rfl rfl rfl ?_); first | apply g_partM rfl rfl rfl | apply g_partMB rfl rfl rfl | fail))
            | refine gS ?_ | exact s_m | intro _)
          refine g_as 6 (v' := int ((i + 1 : Nat) : Int)) rfl (congrArg (Value.int .i64) (by push_cast; rfl)) ?_
          exact gA ⟨i + 1⟩ (by simp only; omega) hi'
      · refine gp_as 45 (v' := .bool false) rfl (congrArg Value.bool (decide_eq_false (by omega))) ?_
        repeat (first
          | (refine gp_take ?_; first | refine pT ?_ | ((fail_if_success refine gp_lit rfl rfl rfl rfl ?_); first | apply gp_guard_dec rfl rfl rfl rfl | apply gp_guard rfl rfl rfl rfl | fail))
          | (refine gp_see ?_; first | refine p_f ?_ | refine pS ?_ | ((fail_if_success refine gp_lit rfl rfl rfl rfl ?_); first | apply gp_guard_dec rfl rfl rfl rfl | apply gp_guard rfl rfl rfl rfl | fail))
          | (refine gp_one ?_; first | refine pO ?_ | refine p_n (fun _ => ?_) | refine p_app (fun _ _ => ?_) | refine p_b0 (fun _ => ?_) | ((fail_if_success refine gp_lit rfl rfl rfl rfl ?_); first | apply gp_guard_dec rfl rfl rfl rfl | apply gp_guard rfl rfl rfl rfl | fail))
          | refine gp_two ?_ ?_ | refine gp_done hd hk ?_ | intro _ | refine p_ta hd hk (fun _ _ _ hd hk => ?_) | refine p_ts hd hk (fun _ hd hk => ?_))
        · refine gp_as 58 (v' := .bool (wrongB s p)) rfl (congrArg Value.bool (by unfold wrongB; exact (decide_eq_false (fun h => hd3 h.1)).symm)) ?_
          apply gp_s (hi := rfl) (hg := rfl)
          · apply ss_storeOwn
            exact inferInstance
            exact rfl
            exact rfl
            exact rfl
            exact (by (repeat (first | exact Sel.here | apply Sel.there)); first | done | fail)
            rw [flat_len Rn.len, halfL_len]
            omega
          rw [show 0 + i * 4 + 3 = i * 4 + 3 by omega, hstep]
          repeat (first
            | (refine gp_take ?_; first | refine pT ?_ | ((fail_if_success refine gp_lit rfl rfl rfl rfl ?_); first | apply gp_guard_dec rfl rfl rfl rfl | apply gp_guard rfl rfl rfl rfl | fail))
            | (refine gp_see ?_; first | refine p_f ?_ | refine pS ?_ | ((fail_if_success refine gp_lit rfl rfl rfl rfl ?_); first | apply gp_guard_dec rfl rfl rfl rfl | apply gp_guard rfl rfl rfl rfl | fail))
            | (refine gp_one ?_; first | refine pO ?_ | refine p_n (fun _ => ?_) | refine p_app (fun _ _ => ?_) | refine p_b0 (fun _ => ?_) | ((fail_if_success refine gp_lit rfl rfl rfl rfl ?_); first | apply gp_guard_dec rfl rfl rfl rfl | apply gp_guard rfl rfl rfl rfl | fail))
            | refine gp_two ?_ ?_ | refine gp_done hd hk ?_ | intro _ | refine p_ta hd hk (fun _ _ _ hd hk => ?_) | refine p_ts hd hk (fun _ hd hk => ?_))
          repeat (first
            | (refine g_ops ?_; first | refine sO ?_ | refine s_n (fun _ => ?_) | refine s_app (fun _ _ => ?_) | refine s_b0 (fun _ => ?_) | ((fail_if_success refine g_lit rfl rfl rfl ?_); first | apply g_partM rfl rfl rfl | apply g_partMB rfl rfl rfl | fail))
            | refine gS ?_ | exact s_m | intro _)
          refine g_as 6 (v' := int ((i + 1 : Nat) : Int)) rfl (congrArg (Value.int .i64) (by push_cast; rfl)) ?_
          exact gA ⟨i + 1⟩ (by simp only; omega) hi'
        · repeat (first
            | (refine gp_take ?_; first | refine pT ?_ | ((fail_if_success refine gp_lit rfl rfl rfl rfl ?_); first | apply gp_guard_dec rfl rfl rfl rfl | apply gp_guard rfl rfl rfl rfl | fail))
            | (refine gp_see ?_; first | refine p_f ?_ | refine pS ?_ | ((fail_if_success refine gp_lit rfl rfl rfl rfl ?_); first | apply gp_guard_dec rfl rfl rfl rfl | apply gp_guard rfl rfl rfl rfl | fail))
            | (refine gp_one ?_; first | refine pO ?_ | refine p_n (fun _ => ?_) | refine p_app (fun _ _ => ?_) | refine p_b0 (fun _ => ?_) | ((fail_if_success refine gp_lit rfl rfl rfl rfl ?_); first | apply gp_guard_dec rfl rfl rfl rfl | apply gp_guard rfl rfl rfl rfl | fail))
            | refine gp_two ?_ ?_ | refine gp_done hd hk ?_ | intro _ | refine p_ta hd hk (fun _ _ _ hd hk => ?_) | refine p_ts hd hk (fun _ hd hk => ?_))
          refine gp_as 58 (v' := .bool (wrongB s p)) rfl (congrArg Value.bool (by unfold wrongB; exact (decide_eq_false (fun h => hd3 h.1)).symm)) ?_
          apply gp_s (hi := rfl) (hg := rfl)
          · apply ss_storeOwn
            exact inferInstance
            exact rfl
            exact rfl
            exact rfl
            exact (by (repeat (first | exact Sel.here | apply Sel.there)); first | done | fail)
            rw [flat_len Rn.len, halfL_len]
            omega
          rw [show 0 + i * 4 + 3 = i * 4 + 3 by omega, hstep]
          repeat (first
            | (refine gp_take ?_; first | refine pT ?_ | ((fail_if_success refine gp_lit rfl rfl rfl rfl ?_); first | apply gp_guard_dec rfl rfl rfl rfl | apply gp_guard rfl rfl rfl rfl | fail))
            | (refine gp_see ?_; first | refine p_f ?_ | refine pS ?_ | ((fail_if_success refine gp_lit rfl rfl rfl rfl ?_); first | apply gp_guard_dec rfl rfl rfl rfl | apply gp_guard rfl rfl rfl rfl | fail))
            | (refine gp_one ?_; first | refine pO ?_ | refine p_n (fun _ => ?_) | refine p_app (fun _ _ => ?_) | refine p_b0 (fun _ => ?_) | ((fail_if_success refine gp_lit rfl rfl rfl rfl ?_); first | apply gp_guard_dec rfl rfl rfl rfl | apply gp_guard rfl rfl rfl rfl | fail))
            | refine gp_two ?_ ?_ | refine gp_done hd hk ?_ | intro _ | refine p_ta hd hk (fun _ _ _ hd hk => ?_) | refine p_ts hd hk (fun _ hd hk => ?_))
          repeat (first
            | (refine g_ops ?_; first | refine sO ?_ | refine s_n (fun _ => ?_) | refine s_app (fun _ _ => ?_) | refine s_b0 (fun _ => ?_) | ((fail_if_success refine g_lit rfl rfl rfl ?_); first | apply g_partM rfl rfl rfl | apply g_partMB rfl rfl rfl | fail))
            | refine gS ?_ | exact s_m | intro _)
          refine g_as 6 (v' := int ((i + 1 : Nat) : Int)) rfl (congrArg (Value.int .i64) (by push_cast; rfl)) ?_
          exact gA ⟨i + 1⟩ (by simp only; omega) hi'
    · obtain rfl : i = (pos s).length := by omega
      rw [halfL_end]
      repeat (first
        | (refine g_ops ?_; first | refine sO ?_ | refine s_n (fun _ => ?_) | refine s_app (fun _ _ => ?_) | refine s_b0 (fun _ => ?_) | ((fail_if_success refine g_lit rfl rfl rfl ?_); first | apply g_partM rfl rfl rfl | apply g_partMB rfl rfl rfl | fail))
        | refine gS ?_ | exact s_m | intro _)
      refine g_pile (by (repeat (first | exact Sel.here | apply Sel.there)); first | done | fail) (by (repeat (first | exact Sel.here | apply Sel.there)); first | done | fail) (fun H2 hs2 hS2 => ?_)
      exact gR (H2, q, c) ⟨hs2, hS2⟩
theorem rn1_at {H1 : HP} {s : ByteArray} {p : Option Addr} {i : Nat} (hS : SlAt (Pile H1) 4 p (pos s).length (((pos s).map (rn1 s)).flatMap Rn.cells)) (hi : i < (pos s).length) :
    ∃ b o, p = some ⟨b, o, none⟩ ∧ ∀ (j : Nat) (v : Value), (rn1 s (pos s)[i]).cells[j]? = some v → Reads (Pile H1) ⟨b, o + i * 4 + j, none⟩ v :=
  slAt_elem hS Rn.len (by decide) (i := i) (a := rn1 s (pos s)[i]) (by simp [hi])
theorem valid1 (H : HP) (s : ByteArray) (hs : s.size ≤ 1000000000) : Does1 Tryd.prog 56 [.string s] [Pile H] (.bool (validB s)) := by
  have hpl := pos_len s
  have ha := all_ H s hs
  refine fn_intro Tryd.func56 rfl Tryd.ntmps56 rfl (by simp only [argFr, Nat.zero_add, Nat.reduceAdd]; rfl) (fun Γ => ?_)
  repeat (first
    | (refine g_ops ?_; first | refine sO ?_ | refine s_n (fun _ => ?_) | refine s_app (fun _ _ => ?_) | refine s_b0 (fun _ => ?_) | ((fail_if_success refine g_lit rfl rfl rfl ?_); first | apply g_partM rfl rfl rfl | apply g_partMB rfl rfl rfl | fail) | refine s_c (ha) (fun _ _ => ?_))
    | refine gS ?_ | exact s_m | intro _)
  rename_i y hy
  obtain ⟨H1, p, c⟩ := y
  obtain ⟨hs1, hS⟩ := hy
  dsimp only [List.cons_append, List.nil_append] at hs1 hS ⊢
  rw [validB_pos]
  refine g_loop (X := AmX) (fun x => [(3, .slice p (pos s).length c), (4, int x.i)]) (fun _ => [Pile H1]) (fun x => x.i ≤ (pos s).length ∧ ((pos s).all fun k => !wrongB s k) = (((pos s).drop x.i).all fun k => !wrongB s k)) (fun x => (pos s).length - x.i) ⟨0⟩ ⟨Nat.zero_le _, rfl⟩ (by (repeat (first | exact FrSub.nil | refine FrSub.cons rfl ?_)); first | done | fail) (by (repeat (first | exact Take.nil | apply Take.cons | exact Sel.here | apply Sel.there)); first | done | fail) (fun x hx => ?_)
  obtain ⟨i⟩ := x
  obtain ⟨hi, he⟩ := hx
  dsimp only at hi he ⊢
  repeat (first
    | (refine g_ops ?_; first | refine sO ?_ | refine s_n (fun _ => ?_) | refine s_app (fun _ _ => ?_) | refine s_b0 (fun _ => ?_) | ((fail_if_success refine g_lit rfl rfl rfl ?_); first | apply g_partM rfl rfl rfl | apply g_partMB rfl rfl rfl | fail))
    | refine gS ?_ | exact s_m | intro _)
  refine g_cond_dec rfl (fun h2 => ?_) (fun h2 => ?_)
  · have hi' : i < (pos s).length := by omega
    obtain ⟨b, o, rfl, hrow⟩ := rn1_at hS hi'
    rw [List.drop_eq_getElem_cons hi', List.all_cons] at he
    generalize (pos s)[i] = k at hrow he
    have hr : ∀ k', k' = o + i * 4 + 3 → Reads (Pile H1) ⟨b, k', none⟩ (.bool (wrongB s k)) := fun _ e => e ▸ hrow 3 _ rfl
    clear hrow
    cases hw : wrongB s k <;> rw [hw] at hr he
    · repeat (first
        | (refine g_ops ?_; first | refine sO ?_ | refine s_n (fun _ => ?_) | refine s_app (fun _ _ => ?_) | refine s_b0 (fun _ => ?_) | ((fail_if_success refine g_lit rfl rfl rfl ?_); first | apply g_partM rfl rfl rfl | apply g_partMB rfl rfl rfl | fail))
        | refine gS ?_ | exact s_m | intro _)
      refine g_as 4 (v' := int ((i + 1 : Nat) : Int)) rfl (congrArg (Value.int .i64) (by push_cast; rfl)) ?_
      exact gA ⟨i + 1⟩ (by simp only; omega) ⟨hi', by simpa using he⟩
    · repeat (first
        | (refine g_ops ?_; first | refine sO ?_ | refine s_n (fun _ => ?_) | refine s_app (fun _ _ => ?_) | refine s_b0 (fun _ => ?_) | ((fail_if_success refine g_lit rfl rfl rfl ?_); first | apply g_partM rfl rfl rfl | apply g_partMB rfl rfl rfl | fail))
        | refine gS ?_ | exact s_m | intro _)
      refine g_unpile hs1 (by (repeat (first | exact Sel.here | apply Sel.there)); first | done | fail) ?_
      exact s_r () (hp := by simp only [pack]; rw [he]; rfl)
  · obtain rfl : i = (pos s).length := by omega
    rw [List.drop_length] at he
    repeat (first
      | (refine g_ops ?_; first | refine sO ?_ | refine s_n (fun _ => ?_) | refine s_app (fun _ _ => ?_) | refine s_b0 (fun _ => ?_) | ((fail_if_success refine g_lit rfl rfl rfl ?_); first | apply g_partM rfl rfl rfl | apply g_partMB rfl rfl rfl | fail))
      | refine gS ?_ | exact s_m | intro _)
    refine g_unpile hs1 (by (repeat (first | exact Sel.here | apply Sel.there)); first | done | fail) ?_
    exact s_r () (hp := by simp only [pack]; rw [he]; rfl)
theorem key1d (H : HP) (s : ByteArray) (hs : s.size ≤ 1000000000) : Does1 Tryd.prog 57 [.string s] [Pile H] (.bool (keyB s)) := by
  have hpl := pos_len s
  have ha := all_ H s hs
  refine fn_intro Tryd.func57 rfl Tryd.ntmps57 rfl (by simp only [argFr, Nat.zero_add, Nat.reduceAdd]; rfl) (fun Γ => ?_)
  repeat (first
    | (refine g_ops ?_; first | refine sO ?_ | refine s_n (fun _ => ?_) | refine s_app (fun _ _ => ?_) | refine s_b0 (fun _ => ?_) | ((fail_if_success refine g_lit rfl rfl rfl ?_); first | apply g_partM rfl rfl rfl | apply g_partMB rfl rfl rfl | fail) | refine s_c (ha) (fun _ _ => ?_))
    | refine gS ?_ | exact s_m | intro _)
  rename_i y hy
  obtain ⟨H1, p, c⟩ := y
  obtain ⟨hs1, hS⟩ := hy
  dsimp only [List.cons_append, List.nil_append] at hs1 hS ⊢
  rw [keyB_pos]
  refine g_loop (X := AmX) (fun x => [(3, .slice p (pos s).length c), (4, int x.i)]) (fun _ => [Pile H1]) (fun x => x.i ≤ (pos s).length ∧ ((pos s).all fun k => !(wrongB s k || ctlB (Utf8.decode s k).1)) = (((pos s).drop x.i).all fun k => !(wrongB s k || ctlB (Utf8.decode s k).1))) (fun x => (pos s).length - x.i) ⟨0⟩ ⟨Nat.zero_le _, rfl⟩ (by (repeat (first | exact FrSub.nil | refine FrSub.cons rfl ?_)); first | done | fail) (by (repeat (first | exact Take.nil | apply Take.cons | exact Sel.here | apply Sel.there)); first | done | fail) (fun x hx => ?_)
  obtain ⟨i⟩ := x
  obtain ⟨hi, he⟩ := hx
  dsimp only at hi he ⊢
  repeat (first
    | (refine g_ops ?_; first | refine sO ?_ | refine s_n (fun _ => ?_) | refine s_app (fun _ _ => ?_) | refine s_b0 (fun _ => ?_) | ((fail_if_success refine g_lit rfl rfl rfl ?_); first | apply g_partM rfl rfl rfl | apply g_partMB rfl rfl rfl | fail))
    | refine gS ?_ | exact s_m | intro _)
  refine g_cond_dec rfl (fun h2 => ?_) (fun h2 => ?_)
  · have hi' : i < (pos s).length := by omega
    obtain ⟨b, o, rfl, hrow⟩ := rn1_at hS hi'
    rw [List.drop_eq_getElem_cons hi', List.all_cons] at he
    generalize (pos s)[i] = k at hrow he
    have hr : ∀ k', k' = o + i * 4 + 3 → Reads (Pile H1) ⟨b, k', none⟩ (.bool (wrongB s k)) := fun _ e => e ▸ hrow 3 _ rfl
    have hr2 : ∀ k', k' = o + i * 4 → Reads (Pile H1) ⟨b, k', none⟩ (.int .i32 ((Utf8.decode s k).1 : Int)) := fun _ e => e ▸ hrow 0 _ rfl
    clear hrow
    repeat (first
      | (refine g_ops ?_; first | refine sO ?_ | refine s_n (fun _ => ?_) | refine s_app (fun _ _ => ?_) | refine s_b0 (fun _ => ?_) | ((fail_if_success refine g_lit rfl rfl rfl ?_); first | apply g_partM rfl rfl rfl | apply g_partMB rfl rfl rfl | fail))
      | apply g_regB (id := 5) 33 | refine gS ?_ | exact s_m | intro _ | (refine gp_take ?_; first | refine pT ?_ | ((fail_if_success refine gp_lit rfl rfl rfl rfl ?_); first | apply gp_guard_dec rfl rfl rfl rfl | apply gp_guard rfl rfl rfl rfl | fail))
      | (refine gp_see ?_; first | refine p_f ?_ | refine pS ?_ | ((fail_if_success refine gp_lit rfl rfl rfl rfl ?_); first | apply gp_guard_dec rfl rfl rfl rfl | apply gp_guard rfl rfl rfl rfl | fail))
      | (refine gp_one ?_; first | refine pO ?_ | refine p_n (fun _ => ?_) | refine p_app (fun _ _ => ?_) | refine p_b0 (fun _ => ?_) | ((fail_if_success refine gp_lit rfl rfl rfl rfl ?_); first | apply gp_guard_dec rfl rfl rfl rfl | apply gp_guard rfl rfl rfl rfl | fail))
      | refine gp_two ?_ ?_ | refine gp_done hd hk ?_ | intro _ | refine p_ta hd hk (fun _ _ _ hd hk => ?_) | refine p_ts hd hk (fun _ hd hk => ?_))
    refine g_as 33 (v' := .bool (wrongB s k || ctlB (Utf8.decode s k).1)) rfl (congrArg Value.bool (by unfold ctlB; rw [Bool.eq_iff_iff]; cases wrongB s k <;> simp [Bool.cond_eq_ite] <;> omega)) ?_
    generalize (wrongB s k || ctlB (Utf8.decode s k).1) = w at he ⊢
    cases w
    · repeat (first
        | (refine g_ops ?_; first | refine sO ?_ | refine s_n (fun _ => ?_) | refine s_app (fun _ _ => ?_) | refine s_b0 (fun _ => ?_) | ((fail_if_success refine g_lit rfl rfl rfl ?_); first | apply g_partM rfl rfl rfl | apply g_partMB rfl rfl rfl | fail))
        | refine gS ?_ | exact s_m | intro _)
      refine g_as 4 (v' := int ((i + 1 : Nat) : Int)) rfl (congrArg (Value.int .i64) (by push_cast; rfl)) ?_
      exact gA ⟨i + 1⟩ (by simp only; omega) ⟨hi', by simpa using he⟩
    · repeat (first
        | (refine g_ops ?_; first | refine sO ?_ | refine s_n (fun _ => ?_) | refine s_app (fun _ _ => ?_) | refine s_b0 (fun _ => ?_) | ((fail_if_success refine g_lit rfl rfl rfl ?_); first | apply g_partM rfl rfl rfl | apply g_partMB rfl rfl rfl | fail))
        | refine gS ?_ | exact s_m | intro _)
      refine g_unpile hs1 (by (repeat (first | exact Sel.here | apply Sel.there)); first | done | fail) ?_
      exact s_r () (hp := by simp only [pack]; rw [he]; simp)
  · obtain rfl : i = (pos s).length := by omega
    rw [List.drop_length] at he
    repeat (first
      | (refine g_ops ?_; first | refine sO ?_ | refine s_n (fun _ => ?_) | refine s_app (fun _ _ => ?_) | refine s_b0 (fun _ => ?_) | ((fail_if_success refine g_lit rfl rfl rfl ?_); first | apply g_partM rfl rfl rfl | apply g_partMB rfl rfl rfl | fail))
      | refine gS ?_ | exact s_m | intro _)
    refine g_unpile hs1 (by (repeat (first | exact Sel.here | apply Sel.there)); first | done | fail) ?_
    exact s_r () (hp := by simp only [pack]; rw [he]; simp; omega)
theorem qR_doc (s : ByteArray) (k : Nat) (h : k < s.size) : qR s k = if (at8 s k).toNat = 34 then [92, 34] else if (at8 s k).toNat = 92 then [92, 92] else if (at8 s k).toNat = 10 then [92, 110]
    else if wrongB s k = true ∨ (at8 s k).toNat < 32 ∨ (at8 s k).toNat = 127 then [92, 120, hexB ((at8 s k).toNat / 16), hexB ((at8 s k).toNat % 16)] else (s.data.toList.drop k).take (Utf8.decode s k).2 := by
  unfold qR
  by_cases ha : (at8 s k).toNat < 128
  · have e := decode_at h ha
    rw [e]
    dsimp only
    by_cases h1 : (at8 s k).toNat = 34
    · rw [if_pos h1, if_pos (.inl h1), h1]; rfl
    rw [if_neg h1]
    by_cases h2 : (at8 s k).toNat = 92
    · rw [if_pos h2, if_pos (.inr h2), h2]; rfl
    rw [if_neg h2, if_neg (by omega)]
    by_cases h3 : (at8 s k).toNat = 10
    · rw [if_pos h3, if_pos h3]
    rw [if_neg h3, if_neg h3]
    have hi := ctlB_iff (at8 s k).toNat
    by_cases hc : ctlB (at8 s k).toNat = true ∨ wrongB s k = true
    · rw [if_pos hc, if_pos (hc.elim (fun h => .inr (hi.1 h)) .inl)]
    · rw [if_neg hc, if_neg (fun h => hc (h.elim .inr (fun h => .inl (hi.2 h))))]
  · have e := decode_big h ha
    have hc : ctlB (Utf8.decode s k).1 = false := by
      cases hc : ctlB (Utf8.decode s k).1 with
      | false => rfl
      | true => have := (ctlB_iff _).1 hc; omega
    rw [if_neg (by omega : ¬ ((Utf8.decode s k).1 = 34 ∨ (Utf8.decode s k).1 = 92)), if_neg (by omega : ¬ (Utf8.decode s k).1 = 10), if_neg (by omega : ¬ (at8 s k).toNat = 34), if_neg (by omega : ¬ (at8 s k).toNat = 92), if_neg (by omega : ¬ (at8 s k).toNat = 10)]
    by_cases hw : wrongB s k = true
    · rw [if_pos (.inr hw), if_pos (.inl hw)]
    · rw [if_neg (fun h => h.elim (fun h => by rw [hc] at h; cases h) hw), if_neg (fun h => h.elim hw (fun h => by omega))]
attribute [local irreducible] qR hexB at8
structure QdX where
  i : Nat
  bs : List UInt8
  q : Option Addr
  c : Nat
set_option maxHeartbeats 4000000 in
theorem quote1d (H : HP) (s : ByteArray) (hs : s.size ≤ 1000000000) : Does1 Tryd.prog 49 [.string s] [Pile H] (.string ⟨(quoteL s).toArray⟩) := by
  have hpl := pos_len s
  have hql := quoteL_len s
  have ha := all_ H s hs
  have hqs : quoteL s = 34 :: (((pos s).flatMap (qR s)) ++ [34]) := by unfold quoteL pos; rw [qF_pos]
  refine fn_intro Tryd.func49 rfl Tryd.ntmps49 rfl (by simp only [argFr, Nat.zero_add, Nat.reduceAdd]; rfl) (fun Γ => ?_)
  repeat (first
    | (refine g_ops ?_; first | refine sO ?_ | refine s_n (fun _ => ?_) | refine s_app (fun _ _ => ?_) | refine s_b0 (fun _ => ?_) | ((fail_if_success refine g_lit rfl rfl rfl ?_); first | apply g_partM rfl rfl rfl | apply g_partMB rfl rfl rfl | fail))
    | refine gS ?_ | exact s_m | intro _)
  refine g_own_nil none 1 5 ?_
  repeat (first
    | (refine g_ops ?_; first | refine sO ?_ | refine s_n (fun _ => ?_) | refine s_app (fun _ _ => ?_) | refine s_b0 (fun _ => ?_) | ((fail_if_success refine g_lit rfl rfl rfl ?_); first | apply g_partM rfl rfl rfl | apply g_partMB rfl rfl rfl | fail) | refine s_c (ha) (fun _ _ => ?_))
    | refine gS ?_ | exact s_m | intro _)
  rename_i q0 c0 y hy
  obtain ⟨H1, p, c⟩ := y
  obtain ⟨hs1, hS⟩ := hy
  dsimp only [List.cons_append, List.nil_append] at hs1 hS ⊢
  refine g_loop (X := QdX) (fun x => [(0, .string s), (3, .slice x.q x.bs.length x.c), (4, .slice p (pos s).length c), (5, int x.i)]) (fun x => [bO x.q x.c x.bs, Pile H1])
    (fun x => x.i ≤ (pos s).length ∧ 34 :: (pos s).flatMap (qR s) = x.bs ++ ((pos s).drop x.i).flatMap (qR s)) (fun x => (pos s).length - x.i) ⟨0, [34], q0, c0⟩ ⟨Nat.zero_le _, rfl⟩ (by (repeat (first | exact FrSub.nil | refine FrSub.cons rfl ?_)); first | done | fail) (by (repeat (first | exact Take.nil | apply Take.cons | exact Sel.here | apply Sel.there)); first | done | fail) (fun x hx => ?_)
  obtain ⟨i, bs, q, c1⟩ := x
  obtain ⟨hi, he⟩ := hx
  dsimp only at hi he ⊢
  have hbl : bs.length ≤ 4 * s.size + 2 := by
    have := congrArg List.length he
    rw [hqs] at hql
    simp only [List.length_cons, List.length_append, List.length_nil] at this hql
    omega
  repeat (first
    | (refine g_ops ?_; first | refine sO ?_ | refine s_n (fun _ => ?_) | refine s_app (fun _ _ => ?_) | refine s_b0 (fun _ => ?_) | ((fail_if_success refine g_lit rfl rfl rfl ?_); first | apply g_partM rfl rfl rfl | apply g_partMB rfl rfl rfl | fail))
    | refine gS ?_ | exact s_m | intro _)
  refine g_cond_dec rfl (fun h2 => ?_) (fun h2 => ?_)
  · have hi' : i < (pos s).length := by omega
    obtain ⟨b, o, rfl, hrow⟩ := rn1_at hS hi'
    have hpm := pos_mem (List.getElem_mem hi')
    rw [List.drop_eq_getElem_cons hi', List.flatMap_cons, ← List.append_assoc] at he
    generalize (pos s)[i] = k at hrow he hpm
    have hcell : ∀ (j : Nat) (v : Value), [Value.int .i32 ((Utf8.decode s k).1 : Int), .int .i64 (k : Int), .int .i64 ((k + (Utf8.decode s k).2 : Nat) : Int), .bool (wrongB s k)][j]? = some v → Reads (Pile H1) ⟨b, o + i * 4 + j, none⟩ v := hrow
    have hin := decode_in s k hpm
    have hqr := qR_doc s k hpm
    have h8 := (at8 s k).toNat_lt
    repeat (first
      | (refine g_ops ?_; first | refine sO ?_ | refine s_n (fun _ => ?_) | refine s_app (fun _ _ => ?_) | refine s_b0 (fun _ => ?_) | ((fail_if_success refine g_lit rfl rfl rfl ?_); first | apply g_partM rfl rfl rfl | apply g_partMB rfl rfl rfl | fail))
      | refine gS ?_ | exact s_m | intro _)
    refine s_q (q := by exact qs_indexStr inferInstance rfl rfl hpm) ?_
    repeat (first
      | (refine g_ops ?_; first | refine sO ?_ | refine s_n (fun _ => ?_) | refine s_app (fun _ _ => ?_) | refine s_b0 (fun _ => ?_) | ((fail_if_success refine g_lit rfl rfl rfl ?_); first | apply g_partM rfl rfl rfl | apply g_partMB rfl rfl rfl | fail))
      | refine gS ?_ | exact s_m | intro _)
    have again : ∀ (news : List UInt8), news = qR s k → 34 :: (pos s).flatMap (qR s) = (bs ++ news) ++ ((pos s).drop (i + 1)).flatMap (qR s) := fun news e => by subst e; exact he
    by_cases k1 : (at8 s k).toNat = 34
    · have e : [92, 34] = qR s k := by rw [hqr, if_pos k1]
      refine g_as 39 (v' := .bool true) rfl (congrArg Value.bool (decide_eq_true (by omega))) ?_
      repeat (first
        | (refine g_ops ?_; first | refine sO ?_ | refine s_n (fun _ => ?_) | refine s_app (fun _ _ => ?_) | refine s_b0 (fun _ => ?_) | ((fail_if_success refine g_lit rfl rfl rfl ?_); first | apply g_partM rfl rfl rfl | apply g_partMB rfl rfl rfl | fail))
        | refine gS ?_ | exact s_m | intro _)
      rename_i q' c'
      rw [show cells8 bs ++ [Value.int .u8 92, Value.int .u8 34] = cells8 (bs ++ [92, 34]) from cells8_append bs [92, 34], show bs.length + 2 = (bs ++ [92, 34]).length by simp]
      refine g_as 5 (v' := int ((i + 1 : Nat) : Int)) rfl (congrArg (Value.int .i64) (by push_cast; rfl)) ?_
      exact gA ⟨i + 1, bs ++ [92, 34], q', c'⟩ (by simp only; omega) ⟨hi', again _ e⟩
    refine g_as 39 (v' := .bool false) rfl (congrArg Value.bool (decide_eq_false (by omega))) ?_
    repeat (first
      | (refine g_ops ?_; first | refine sO ?_ | refine s_n (fun _ => ?_) | refine s_app (fun _ _ => ?_) | refine s_b0 (fun _ => ?_) | ((fail_if_success refine g_lit rfl rfl rfl ?_); first | apply g_partM rfl rfl rfl | apply g_partMB rfl rfl rfl | fail))
      | refine gS ?_ | exact s_m | intro _)
    by_cases k2 : (at8 s k).toNat = 92
    · have e : [92, 92] = qR s k := by rw [hqr, if_neg k1, if_pos k2]
      refine g_as 45 (v' := .bool true) rfl (congrArg Value.bool (decide_eq_true (by omega))) ?_
      repeat (first
        | (refine g_ops ?_; first | refine sO ?_ | refine s_n (fun _ => ?_) | refine s_app (fun _ _ => ?_) | refine s_b0 (fun _ => ?_) | ((fail_if_success refine g_lit rfl rfl rfl ?_); first | apply g_partM rfl rfl rfl | apply g_partMB rfl rfl rfl | fail))
        | refine gS ?_ | exact s_m | intro _)
      rename_i q' c'
      rw [show cells8 bs ++ [Value.int .u8 92, Value.int .u8 92] = cells8 (bs ++ [92, 92]) from cells8_append bs [92, 92], show bs.length + 2 = (bs ++ [92, 92]).length by simp]
      refine g_as 5 (v' := int ((i + 1 : Nat) : Int)) rfl (congrArg (Value.int .i64) (by push_cast; rfl)) ?_
      exact gA ⟨i + 1, bs ++ [92, 92], q', c'⟩ (by simp only; omega) ⟨hi', again _ e⟩
    refine g_as 45 (v' := .bool false) rfl (congrArg Value.bool (decide_eq_false (by omega))) ?_
    repeat (first
      | (refine g_ops ?_; first | refine sO ?_ | refine s_n (fun _ => ?_) | refine s_app (fun _ _ => ?_) | refine s_b0 (fun _ => ?_) | ((fail_if_success refine g_lit rfl rfl rfl ?_); first | apply g_partM rfl rfl rfl | apply g_partMB rfl rfl rfl | fail))
      | refine gS ?_ | exact s_m | intro _)
    by_cases k3 : (at8 s k).toNat = 10
    · have e : [92, 110] = qR s k := by rw [hqr, if_neg k1, if_neg k2, if_pos k3]
      refine g_as 51 (v' := .bool true) rfl (congrArg Value.bool (decide_eq_true (by omega))) ?_
      repeat (first
        | (refine g_ops ?_; first | refine sO ?_ | refine s_n (fun _ => ?_) | refine s_app (fun _ _ => ?_) | refine s_b0 (fun _ => ?_) | ((fail_if_success refine g_lit rfl rfl rfl ?_); first | apply g_partM rfl rfl rfl | apply g_partMB rfl rfl rfl | fail))
        | refine gS ?_ | exact s_m | intro _)
      rename_i q' c'
      rw [show cells8 bs ++ [Value.int .u8 92, Value.int .u8 110] = cells8 (bs ++ [92, 110]) from cells8_append bs [92, 110], show bs.length + 2 = (bs ++ [92, 110]).length by simp]
      refine g_as 5 (v' := int ((i + 1 : Nat) : Int)) rfl (congrArg (Value.int .i64) (by push_cast; rfl)) ?_
      exact gA ⟨i + 1, bs ++ [92, 110], q', c'⟩ (by simp only; omega) ⟨hi', again _ e⟩
    refine g_as 51 (v' := .bool false) rfl (congrArg Value.bool (decide_eq_false (by omega))) ?_
    rw [if_neg k1, if_neg k2, if_neg k3] at hqr
    repeat (first
      | (refine g_ops ?_; first | refine sO ?_ | refine s_n (fun _ => ?_) | refine s_app (fun _ _ => ?_) | refine s_b0 (fun _ => ?_) | ((fail_if_success refine g_lit rfl rfl rfl ?_); first | apply g_partM rfl rfl rfl | apply g_partMB rfl rfl rfl | fail))
      | apply g_regB (id := 15) 57 | refine gS ?_ | exact s_m | intro _ | (refine gp_take ?_; first | refine pT ?_ | ((fail_if_success refine gp_lit rfl rfl rfl rfl ?_); first | apply gp_guard_dec rfl rfl rfl rfl | apply gp_guard rfl rfl rfl rfl | fail))
      | (refine gp_see ?_; first | refine p_f ?_ | refine pS ?_ | ((fail_if_success refine gp_lit rfl rfl rfl rfl ?_); first | apply gp_guard_dec rfl rfl rfl rfl | apply gp_guard rfl rfl rfl rfl | fail))
      | (refine gp_one ?_; first | refine pO ?_ | refine p_n (fun _ => ?_) | refine p_app (fun _ _ => ?_) | refine p_b0 (fun _ => ?_) | ((fail_if_success refine gp_lit rfl rfl rfl rfl ?_); first | apply gp_guard_dec rfl rfl rfl rfl | apply gp_guard rfl rfl rfl rfl | fail))
      | refine gp_two ?_ ?_ | refine gp_done hd hk ?_ | intro _ | refine p_ta hd hk (fun _ _ _ hd hk => ?_) | refine p_ts hd hk (fun _ hd hk => ?_))
    by_cases k4 : wrongB s k = true ∨ (at8 s k).toNat < 32 ∨ (at8 s k).toNat = 127
    · have e : [92, 120, hexB ((at8 s k).toNat / 16), hexB ((at8 s k).toNat % 16)] = qR s k := by rw [hqr, if_pos k4]
      refine g_as 57 (v' := .bool true) rfl (congrArg Value.bool (by cases hw : wrongB s k <;> simp [Bool.cond_eq_ite, hw] at k4 ⊢ <;> omega)) ?_
      repeat (first
        | (refine g_ops ?_; first | refine sO ?_ | refine s_n (fun _ => ?_) | refine s_app (fun _ _ => ?_) | refine s_b0 (fun _ => ?_) | ((fail_if_success refine g_lit rfl rfl rfl ?_); first | apply g_partM rfl rfl rfl | apply g_partMB rfl rfl rfl | fail))
        | refine gS ?_ | exact s_m | intro _)
      refine g_drawO (.take 0 (.take 1 (.take 2 (.take 3 (.take 4 (.take 5 (.take 6 (.one 7 (.one 8 (.take 9 .done)))))))))) (by (repeat (first | exact Sel.here | apply Sel.there)); first | done | fail) (fun m hd hk => ?_)
      repeat (first
        | (refine gp_take ?_; first | refine pT ?_ | ((fail_if_success refine gp_lit rfl rfl rfl rfl ?_); first | apply gp_guard_dec rfl rfl rfl rfl | apply gp_guard rfl rfl rfl rfl | fail))
        | (refine gp_see ?_; first | refine p_f ?_ | refine pS ?_ | ((fail_if_success refine gp_lit rfl rfl rfl rfl ?_); first | apply gp_guard_dec rfl rfl rfl rfl | apply gp_guard rfl rfl rfl rfl | fail))
        | (refine gp_one ?_; first | refine pO ?_ | refine p_n (fun _ => ?_) | refine p_app (fun _ _ => ?_) | refine p_b0 (fun _ => ?_) | ((fail_if_success refine gp_lit rfl rfl rfl rfl ?_); first | apply gp_guard_dec rfl rfl rfl rfl | apply gp_guard rfl rfl rfl rfl | fail))
        | refine gp_two ?_ ?_ | refine gp_done hd hk ?_ | intro _ | refine p_ta hd hk (fun _ _ _ hd hk => ?_) | refine p_ts hd hk (fun _ hd hk => ?_))
      refine p_q (q := by intro Δ; exact qs_shrK (i := .u8) (a := (at8 s k).toNat) (n := 4) rfl rfl (by decide)) ?_
      repeat (first
        | (refine gp_take ?_; first | refine pT ?_ | ((fail_if_success refine gp_lit rfl rfl rfl rfl ?_); first | apply gp_guard_dec rfl rfl rfl rfl | apply gp_guard rfl rfl rfl rfl | fail))
        | (refine gp_see ?_; first | refine p_f ?_ | refine pS ?_ | ((fail_if_success refine gp_lit rfl rfl rfl rfl ?_); first | apply gp_guard_dec rfl rfl rfl rfl | apply gp_guard rfl rfl rfl rfl | fail))
        | (refine gp_one ?_; first | refine pO ?_ | refine p_n (fun _ => ?_) | refine p_app (fun _ _ => ?_) | refine p_b0 (fun _ => ?_) | ((fail_if_success refine gp_lit rfl rfl rfl rfl ?_); first | apply gp_guard_dec rfl rfl rfl rfl | apply gp_guard rfl rfl rfl rfl | fail))
        | refine gp_two ?_ ?_ | refine gp_done hd hk ?_ | intro _ | refine p_ta hd hk (fun _ _ _ hd hk => ?_) | refine p_ts hd hk (fun _ hd hk => ?_))
      refine p_q (q := by intro Δ; exact qs_indexStr (s := hexS) (k := .u8) (i := (at8 s k).toNat / 16) inferInstance rfl (by rw [← shr4]; rfl) (by show _ < 16; omega)) ?_
      repeat (first
        | (refine gp_take ?_; first | refine pT ?_ | ((fail_if_success refine gp_lit rfl rfl rfl rfl ?_); first | apply gp_guard_dec rfl rfl rfl rfl | apply gp_guard rfl rfl rfl rfl | fail))
        | (refine gp_see ?_; first | refine p_f ?_ | refine pS ?_ | ((fail_if_success refine gp_lit rfl rfl rfl rfl ?_); first | apply gp_guard_dec rfl rfl rfl rfl | apply gp_guard rfl rfl rfl rfl | fail))
        | (refine gp_one ?_; first | refine pO ?_ | refine p_n (fun _ => ?_) | refine p_app (fun _ _ => ?_) | refine p_b0 (fun _ => ?_) | ((fail_if_success refine gp_lit rfl rfl rfl rfl ?_); first | apply gp_guard_dec rfl rfl rfl rfl | apply gp_guard rfl rfl rfl rfl | fail))
        | refine gp_two ?_ ?_ | refine gp_done hd hk ?_ | intro _ | refine p_ta hd hk (fun _ _ _ hd hk => ?_) | refine p_ts hd hk (fun _ hd hk => ?_))
      refine p_q (q := by intro Δ; exact qs_and8 (a := (at8 s k).toNat) (b := 15) rfl rfl h8 (by decide)) ?_
      repeat (first
        | (refine gp_take ?_; first | refine pT ?_ | ((fail_if_success refine gp_lit rfl rfl rfl rfl ?_); first | apply gp_guard_dec rfl rfl rfl rfl | apply gp_guard rfl rfl rfl rfl | fail))
        | (refine gp_see ?_; first | refine p_f ?_ | refine pS ?_ | ((fail_if_success refine gp_lit rfl rfl rfl rfl ?_); first | apply gp_guard_dec rfl rfl rfl rfl | apply gp_guard rfl rfl rfl rfl | fail))
        | (refine gp_one ?_; first | refine pO ?_ | refine p_n (fun _ => ?_) | refine p_app (fun _ _ => ?_) | refine p_b0 (fun _ => ?_) | ((fail_if_success refine gp_lit rfl rfl rfl rfl ?_); first | apply gp_guard_dec rfl rfl rfl rfl | apply gp_guard rfl rfl rfl rfl | fail))
        | refine gp_two ?_ ?_ | refine gp_done hd hk ?_ | intro _ | refine p_ta hd hk (fun _ _ _ hd hk => ?_) | refine p_ts hd hk (fun _ hd hk => ?_))
      refine p_q (q := by intro Δ; exact qs_indexStr (s := hexS) (k := .u8) (i := (at8 s k).toNat % 16) inferInstance rfl (by rw [← and15]; rfl) (by show _ < 16; omega)) ?_
      refine gp_as 74 (v' := .int .u8 ((hexB ((at8 s k).toNat / 16)).toNat : Int)) rfl (by rw [hex_at _ (by omega)]) ?_
      refine gp_as 77 (v' := .int .u8 ((hexB ((at8 s k).toNat % 16)).toNat : Int)) rfl (by rw [hex_at _ (by omega)]) ?_
      generalize hexB ((at8 s k).toNat / 16) = y0 at e ⊢
      generalize hexB ((at8 s k).toNat % 16) = y1 at e ⊢
      repeat (first
        | (refine gp_take ?_; first | refine pT ?_ | ((fail_if_success refine gp_lit rfl rfl rfl rfl ?_); first | apply gp_guard_dec rfl rfl rfl rfl | apply gp_guard rfl rfl rfl rfl | fail))
        | (refine gp_see ?_; first | refine p_f ?_ | refine pS ?_ | ((fail_if_success refine gp_lit rfl rfl rfl rfl ?_); first | apply gp_guard_dec rfl rfl rfl rfl | apply gp_guard rfl rfl rfl rfl | fail))
        | (refine gp_one ?_; first | refine pO ?_ | refine p_n (fun _ => ?_) | refine p_app (fun _ _ => ?_) | refine p_b0 (fun _ => ?_) | ((fail_if_success refine gp_lit rfl rfl rfl rfl ?_); first | apply gp_guard_dec rfl rfl rfl rfl | apply gp_guard rfl rfl rfl rfl | fail))
        | refine gp_two ?_ ?_ | refine gp_done hd hk ?_ | intro _ | refine p_ta hd hk (fun _ _ _ hd hk => ?_) | refine p_ts hd hk (fun _ hd hk => ?_))
      rename_i q' c'
      rw [show cells8 bs ++ [Value.int .u8 92, Value.int .u8 120, Value.int .u8 (y0.toNat : Int), Value.int .u8 (y1.toNat : Int)] = cells8 (bs ++ [92, 120, y0, y1]) from cells8_append bs [92, 120, y0, y1], show bs.length + 4 = (bs ++ [92, 120, y0, y1]).length by simp]
      repeat (first
        | (refine g_ops ?_; first | refine sO ?_ | refine s_n (fun _ => ?_) | refine s_app (fun _ _ => ?_) | refine s_b0 (fun _ => ?_) | ((fail_if_success refine g_lit rfl rfl rfl ?_); first | apply g_partM rfl rfl rfl | apply g_partMB rfl rfl rfl | fail))
        | refine gS ?_ | exact s_m | intro _)
      refine g_as 5 (v' := int ((i + 1 : Nat) : Int)) rfl (congrArg (Value.int .i64) (by push_cast; rfl)) ?_
      exact gA ⟨i + 1, bs ++ [92, 120, y0, y1], q', c'⟩ (by simp only; omega) ⟨hi', again _ e⟩
    · have e : (s.data.toList.drop k).take (Utf8.decode s k).2 = qR s k := by rw [hqr, if_neg k4]
      refine g_as 57 (v' := .bool false) rfl (congrArg Value.bool (by cases hw : wrongB s k <;> simp [Bool.cond_eq_ite, hw] at k4 ⊢ <;> omega)) ?_
      have hsl : s.extract k (k + (Utf8.decode s k).2) = ⟨((s.data.toList.drop k).take (Utf8.decode s k).2).toArray⟩ := by
        apply ByteArray.ext
        apply Array.toList_inj.1
        rw [ByteArray.data_extract, Array.toList_extract]
        simp [List.extract_eq_take_drop]
      have hsl2 : ((s.data.toList.drop k).take (Utf8.decode s k).2).length ≤ s.size := by rw [List.length_take, List.length_drop]; simp; omega
      repeat (first
        | (refine g_ops ?_; first | refine sO ?_ | refine s_n (fun _ => ?_) | refine s_app (fun _ _ => ?_) | refine s_b0 (fun _ => ?_) | ((fail_if_success refine g_lit rfl rfl rfl ?_); first | apply g_partM rfl rfl rfl | apply g_partMB rfl rfl rfl | fail))
        | refine gS ?_ | exact s_m | intro _)
      refine g_drawO (.take 0 (.take 1 (.take 2 (.take 3 (.take 4 (.take 5 (.see 6 [] (.take 7 (.take 8 (.take 9 (.take 10 (.see 11 [] (.take 12 (.one 13 (.take 14 .done))))))))))))))) (by (repeat (first | exact Sel.here | apply Sel.there)); first | done | fail) (fun m hd hk => ?_)
      repeat (first
        | (refine gp_take ?_; first | refine pT ?_ | ((fail_if_success refine gp_lit rfl rfl rfl rfl ?_); first | apply gp_guard_dec rfl rfl rfl rfl | apply gp_guard rfl rfl rfl rfl | fail))
        | (refine gp_see ?_; first | refine p_f ?_ | refine pS ?_ | ((fail_if_success refine gp_lit rfl rfl rfl rfl ?_); first | apply gp_guard_dec rfl rfl rfl rfl | apply gp_guard rfl rfl rfl rfl | fail))
        | (refine gp_one ?_; first | refine pO ?_ | refine p_n (fun _ => ?_) | refine p_app (fun _ _ => ?_) | refine p_b0 (fun _ => ?_) | ((fail_if_success refine gp_lit rfl rfl rfl rfl ?_); first | apply gp_guard_dec rfl rfl rfl rfl | apply gp_guard rfl rfl rfl rfl | fail))
        | refine gp_two ?_ ?_ | refine gp_done hd hk ?_ | intro _ | refine p_ta hd hk (fun _ _ _ hd hk => ?_) | refine p_ts hd hk (fun _ hd hk => ?_))
      refine p_q (q := by intro Δ; exact qs_sliceStr (l := k) (h := k + (Utf8.decode s k).2) inferInstance rfl (.some rfl rfl) (.some rfl rfl) (by omega) hin) ?_
      refine gp_as 37 (v' := .string ⟨((s.data.toList.drop k).take (Utf8.decode s k).2).toArray⟩) rfl (by rw [hsl]) ?_
      generalize (s.data.toList.drop k).take (Utf8.decode s k).2 = news at e hsl2 ⊢
      refine gp_one ?_
      refine p_appB (news := news) (fun q' c' => ?_) (src := by exact srcL inferInstance)
      repeat (first
        | (refine gp_take ?_; first | refine pT ?_ | ((fail_if_success refine gp_lit rfl rfl rfl rfl ?_); first | apply gp_guard_dec rfl rfl rfl rfl | apply gp_guard rfl rfl rfl rfl | fail))
        | (refine gp_see ?_; first | refine p_f ?_ | refine pS ?_ | ((fail_if_success refine gp_lit rfl rfl rfl rfl ?_); first | apply gp_guard_dec rfl rfl rfl rfl | apply gp_guard rfl rfl rfl rfl | fail))
        | (refine gp_one ?_; first | refine pO ?_ | refine p_n (fun _ => ?_) | refine p_app (fun _ _ => ?_) | refine p_b0 (fun _ => ?_) | ((fail_if_success refine gp_lit rfl rfl rfl rfl ?_); first | apply gp_guard_dec rfl rfl rfl rfl | apply gp_guard rfl rfl rfl rfl | fail))
        | refine gp_two ?_ ?_ | refine gp_done hd hk ?_ | intro _ | refine p_ta hd hk (fun _ _ _ hd hk => ?_) | refine p_ts hd hk (fun _ hd hk => ?_))
      repeat (first
        | (refine g_ops ?_; first | refine sO ?_ | refine s_n (fun _ => ?_) | refine s_app (fun _ _ => ?_) | refine s_b0 (fun _ => ?_) | ((fail_if_success refine g_lit rfl rfl rfl ?_); first | apply g_partM rfl rfl rfl | apply g_partMB rfl rfl rfl | fail))
        | refine gS ?_ | exact s_m | intro _)
      refine g_as 5 (v' := int ((i + 1 : Nat) : Int)) rfl (congrArg (Value.int .i64) (by push_cast; rfl)) ?_
      exact gA ⟨i + 1, bs ++ news, q', c'⟩ (by simp only; omega) ⟨hi', again _ e⟩
  · obtain rfl : i = (pos s).length := by omega
    rw [List.drop_length, List.flatMap_nil, List.append_nil] at he
    repeat (first
      | (refine g_ops ?_; first | refine sO ?_ | refine s_n (fun _ => ?_) | refine s_app (fun _ _ => ?_) | refine s_b0 (fun _ => ?_) | ((fail_if_success refine g_lit rfl rfl rfl ?_); first | apply g_partM rfl rfl rfl | apply g_partMB rfl rfl rfl | fail))
      | refine gS ?_ | exact s_m | intro _)
    have e : bs ++ [34] = quoteL s := by rw [hqs, ← he]; rfl
    rename_i q' c'
    rw [show cells8 bs ++ [Value.int .u8 34] = cells8 (bs ++ [34]) from cells8_append bs [34], show bs.length + 1 = (bs ++ [34]).length by simp, e]
    refine g_v (vs_bytesStr inferInstance inferInstance inferInstance rfl (by (repeat (first | exact Sel.here | apply Sel.there)); first | done | fail)) rfl rfl ?_
    repeat (first
      | (refine g_ops ?_; first | refine sO ?_ | refine s_n (fun _ => ?_) | refine s_app (fun _ _ => ?_) | refine s_b0 (fun _ => ?_) | ((fail_if_success refine g_lit rfl rfl rfl ?_); first | apply g_partM rfl rfl rfl | apply g_partMB rfl rfl rfl | fail))
      | refine gS ?_ | exact s_m | intro _)
    refine g_unpile hs1 (by (repeat (first | exact Sel.here | apply Sel.there)); first | done | fail) ?_
    exact s_r ()
end Go.Proofs.YtaahibcibgljbaaDoor
namespace Go.Proofs.YtaahibcibgljbaaDoor
open Go.Sl facts
attribute [local irreducible] Code.wp wpList Exit.then Exit.inBlock bodyPost Back MidQ G GP QStep VStep CStep SStep Does Post Reads
attribute [local irreducible] decI
theorem dig_toNat (d : Nat) (h : d < 10) : (UInt8.ofNat (48 + d)).toNat = 48 + d := by
  rw [UInt8.toNat_ofNat']; omega
theorem decDigits_snoc {u : Nat} (h : ¬ u < 10) : Lib.decDigits u = Lib.decDigits (u / 10) ++ [UInt8.ofNat (48 + u % 10)] := by
  conv => lhs; rw [Lib.decDigits, dif_neg h]
structure DecX where
  u : Nat
  bs : List UInt8
  q : Option Addr
  c : Nat
theorem u64_mod (n : Int) : IntKind.u64.wrap n = n % 18446744073709551616 := rfl
theorem u8_mod (n : Int) : IntKind.u8.wrap n = n % 256 := rfl
def DecInv (u0 u : Nat) (bs : List UInt8) : Prop := (0 < u → Lib.decDigits u0 = Lib.decDigits u ++ bs.reverse) ∧ (u = 0 → Lib.decDigits u0 = bs.reverse)
theorem DecInv.step {u0 u : Nat} {bs : List UInt8} (h : DecInv u0 u bs) (hu : 0 < u) : DecInv u0 (u / 10) (bs ++ [UInt8.ofNat (48 + u % 10)]) := by
  have h1 := h.1 hu
  rcases Nat.lt_or_ge u 10 with h2 | h2
  · have e : u / 10 = 0 := by omega
    refine ⟨fun hp => by omega, fun _ => ?_⟩
    rw [h1, Lib.decDigits_one h2, List.reverse_append]
    have e2 : u % 10 = u := by omega
    rw [e2]; rfl
  · refine ⟨fun _ => ?_, fun hp => by omega⟩
    rw [h1, decDigits_snoc (Nat.not_lt.2 h2), List.reverse_append, List.append_assoc]
    rfl
theorem DecInv.len {u0 u : Nat} {bs : List UInt8} (h : DecInv u0 u bs) (h0 : u0 ≤ 9223372036854775808) : bs.length ≤ 20 := by
  have hd : (Lib.decDigits u0).length ≤ 20 := by
    rw [Lib.decDigits_length]
    exact nd20 u0 (by omega)
  rcases Nat.eq_zero_or_pos u with e | e
  · have := h.2 e
    rw [this] at hd
    simpa using hd
  · have := h.1 e
    rw [this] at hd
    simp at hd
    omega
theorem drop_rev (bs : List UInt8) (k : Nat) (hk : k < bs.length) : (bs.drop k).reverse = (bs.drop (k + 1)).reverse ++ [bs.getD k 0] := by
  rw [List.drop_eq_getElem_cons hk, List.reverse_cons]
  simp [hk]
theorem decimal (n : Int) (hn : inI n) : Does1 Tryd.prog 48 [.int .i64 n] [] (.string ⟨(decI n).toArray⟩) := by
  have hn1 := hn.1
  have hn2 := hn.2
  refine fn_intro Tryd.func48 rfl Tryd.ntmps48 rfl (by simp only [argFr, Nat.zero_add, Nat.reduceAdd]; rfl) (fun Γ => ?_)
  repeat (first
    | (refine g_ops ?_; first | refine sO ?_ | refine s_n (fun _ => ?_) | refine s_app (fun _ _ => ?_) | refine s_b0 (fun _ => ?_) | ((fail_if_success refine g_lit rfl rfl rfl ?_); first | apply g_partM rfl rfl rfl | apply g_partMB rfl rfl rfl | fail))
    | refine gS ?_ | exact s_m | intro _)
  refine g_cond_dec rfl (fun h => ?_) (fun h => ?_)
  · subst h
    repeat (first
      | (refine g_ops ?_; first | refine sO ?_ | refine s_n (fun _ => ?_) | refine s_app (fun _ _ => ?_) | refine s_b0 (fun _ => ?_) | ((fail_if_success refine g_lit rfl rfl rfl ?_); first | apply g_partM rfl rfl rfl | apply g_partMB rfl rfl rfl | fail))
      | refine gS ?_ | exact s_m | intro _)
    exact g_ret () rfl (by (repeat (first | exact RVs.nil | apply RVs.tmp rfl | apply RVs.cellA rfl (by (repeat (first | exact Sel.here | apply Sel.there)); first | done | fail) (by (repeat (first | exact Cut.zero | apply Cut.take | apply Cut.skip)); first | done | fail) | apply RVs.cell1 rfl (by (repeat (first | exact Sel.here | apply Sel.there)); first | done | fail) rfl)); first | done | fail) (by (repeat (first | exact Take.nil | apply Take.cons | exact Sel.here | apply Sel.there)); first | done | fail) (by simp only [pack]; rw [show decI 0 = [48] by decide +kernel]) trivial
  repeat (first
    | (refine g_ops ?_; first | refine sO ?_ | refine s_n (fun _ => ?_) | refine s_app (fun _ _ => ?_) | refine s_b0 (fun _ => ?_) | ((fail_if_success refine g_lit rfl rfl rfl ?_); first | apply g_partM rfl rfl rfl | apply g_partMB rfl rfl rfl | fail))
    | refine gS ?_ | exact s_m | intro _)
  refine s_q (q := by exact qs_convInt rfl) ?_
  repeat (first
    | (refine g_ops ?_; first | refine sO ?_ | refine s_n (fun _ => ?_) | refine s_app (fun _ _ => ?_) | refine s_b0 (fun _ => ?_) | ((fail_if_success refine g_lit rfl rfl rfl ?_); first | apply g_partM rfl rfl rfl | apply g_partMB rfl rfl rfl | fail))
    | refine gS ?_ | exact s_m | intro _)
  refine g_cutX (X := Unit) (fun _ => [(3, .int .u64 (n.natAbs : Nat)), (2, .string ⟨#[]⟩), (0, .int .i64 n)]) (fun _ => []) (fun _ => True) ?_ (fun _ _ => ?_)
  · refine g_cond_dec rfl (fun h2 => ?_) (fun h2 => ?_)
    · repeat (first
        | (refine g_ops ?_; first | refine sO ?_ | refine s_n (fun _ => ?_) | refine s_app (fun _ _ => ?_) | refine s_b0 (fun _ => ?_) | ((fail_if_success refine g_lit rfl rfl rfl ?_); first | apply g_partM rfl rfl rfl | apply g_partMB rfl rfl rfl | fail))
        | refine gS ?_ | exact s_m | intro _)
      refine s_q (q := by exact qs_neg rfl) ?_
      refine g_as 14 (v' := .int .u64 (n.natAbs : Nat)) rfl (congrArg (Value.int .u64) (by rw [u64_mod, u64_mod]; omega)) ?_
      repeat (first
        | (refine g_ops ?_; first | refine sO ?_ | refine s_n (fun _ => ?_) | refine s_app (fun _ _ => ?_) | refine s_b0 (fun _ => ?_) | ((fail_if_success refine g_lit rfl rfl rfl ?_); first | apply g_partM rfl rfl rfl | apply g_partMB rfl rfl rfl | fail))
        | refine gS ?_ | exact s_m | intro _)
      exact gM () trivial
    · refine g_as 3 (v' := .int .u64 (n.natAbs : Nat)) rfl (congrArg (Value.int .u64) (by rw [u64_mod]; omega)) ?_
      repeat (first
        | (refine g_ops ?_; first | refine sO ?_ | refine s_n (fun _ => ?_) | refine s_app (fun _ _ => ?_) | refine s_b0 (fun _ => ?_) | ((fail_if_success refine g_lit rfl rfl rfl ?_); first | apply g_partM rfl rfl rfl | apply g_partMB rfl rfl rfl | fail))
        | refine gS ?_ | exact s_m | intro _)
      exact gM () trivial
  have hu0 : n.natAbs ≤ 9223372036854775808 := by omega
  have hup : 0 < n.natAbs := by omega
  generalize hg : n.natAbs = u0 at hu0 hup ⊢
  repeat (first
    | (refine g_ops ?_; first | refine sO ?_ | refine s_n (fun _ => ?_) | refine s_app (fun _ _ => ?_) | refine s_b0 (fun _ => ?_) | ((fail_if_success refine g_lit rfl rfl rfl ?_); first | apply g_partM rfl rfl rfl | apply g_partMB rfl rfl rfl | fail))
    | refine gS ?_ | exact s_m | intro _)
  refine g_own_nil none 1 5 ?_
  refine g_loop (X := DecX) (fun x => [(4, .slice x.q x.bs.length x.c), (3, .int .u64 x.u), (2, .string ⟨#[]⟩), (0, .int .i64 n)]) (fun x => [.own x.q x.bs.length x.c 1 (cells8 x.bs) 5]) (fun x => x.u ≤ u0 ∧ DecInv u0 x.u x.bs) (fun x => x.u)
    ⟨u0, [], none, 0⟩ ⟨Nat.le_refl _, fun _ => by simp, fun h => by simp only at h; omega⟩ (by (repeat (first | exact FrSub.nil | refine FrSub.cons rfl ?_)); first | done | fail) (by (repeat (first | exact Take.nil | apply Take.cons | exact Sel.here | apply Sel.there)); first | done | fail) (fun x hx => ?_)
  obtain ⟨u, bs, q, c⟩ := x
  obtain ⟨hle, hinv⟩ := hx
  simp only at hle hinv
  have hbl := hinv.len hu0
  dsimp only
  repeat (first
    | (refine g_ops ?_; first | refine sO ?_ | refine s_n (fun _ => ?_) | refine s_app (fun _ _ => ?_) | refine s_b0 (fun _ => ?_) | ((fail_if_success refine g_lit rfl rfl rfl ?_); first | apply g_partM rfl rfl rfl | apply g_partMB rfl rfl rfl | fail))
    | refine gS ?_ | exact s_m | intro _)
  refine g_cond_dec rfl (fun h2 => ?_) (fun h2 => ?_)
  · have hu : 0 < u := by omega
    repeat (first
      | (refine g_ops ?_; first | refine sO ?_ | refine s_n (fun _ => ?_) | refine s_app (fun _ _ => ?_) | refine s_b0 (fun _ => ?_) | ((fail_if_success refine g_lit rfl rfl rfl ?_); first | apply g_partM rfl rfl rfl | apply g_partMB rfl rfl rfl | fail))
      | refine gS ?_ | exact s_m | intro _)
    refine s_q (q := by exact qs_rem rfl rfl (by decide)) ?_
    refine g_as 19 (v' := .int .u64 ((u % 10 : Nat) : Int)) rfl (congrArg (Value.int .u64) (by rw [Int.tmod_eq_emod_of_nonneg (by omega)]; omega)) ?_
    refine s_q (q := by exact qs_add rfl rfl) ?_
    refine g_as 20 (v' := .int .u64 ((48 + u % 10 : Nat) : Int)) rfl (congrArg (Value.int .u64) (by rw [u64_mod]; omega)) ?_
    refine s_q (q := by exact qs_convInt rfl) ?_
    refine g_as 21 (v' := .int .u8 ((UInt8.ofNat (48 + u % 10)).toNat : Int)) rfl (congrArg (Value.int .u8) (by rw [dig_toNat _ (Nat.mod_lt _ (by decide)), u8_mod]; omega)) ?_
    generalize hbb : UInt8.ofNat (48 + u % 10) = bb
    repeat (first
      | (refine g_ops ?_; first | refine sO ?_ | refine s_n (fun _ => ?_) | refine s_app (fun _ _ => ?_) | refine s_b0 (fun _ => ?_) | ((fail_if_success refine g_lit rfl rfl rfl ?_); first | apply g_partM rfl rfl rfl | apply g_partMB rfl rfl rfl | fail))
      | refine gS ?_ | exact s_m | intro _)
    refine s_q (q := by exact qs_quo rfl rfl (by decide)) ?_
    refine g_as 25 (v' := .int .u64 ((u / 10 : Nat) : Int)) rfl (congrArg (Value.int .u64) (by rw [u64_mod, Int.tdiv_eq_ediv_of_nonneg (by omega)]; omega)) ?_
    repeat (first
      | (refine g_ops ?_; first | refine sO ?_ | refine s_n (fun _ => ?_) | refine s_app (fun _ _ => ?_) | refine s_b0 (fun _ => ?_) | ((fail_if_success refine g_lit rfl rfl rfl ?_); first | apply g_partM rfl rfl rfl | apply g_partMB rfl rfl rfl | fail))
      | refine gS ?_ | exact s_m | intro _)
    rename_i q' c'
    have hst := hinv.step hu
    rw [hbb] at hst
    rw [cells8_snoc, show bs.length + 1 = (bs ++ [bb]).length by simp]
    exact gA ⟨u / 10, bs ++ [bb], q', c'⟩ (by simp only; omega) ⟨by simp only; omega, hst⟩
  have hdg := hinv.2 (by omega)
  repeat (first
    | (refine g_ops ?_; first | refine sO ?_ | refine s_n (fun _ => ?_) | refine s_app (fun _ _ => ?_) | refine s_b0 (fun _ => ?_) | ((fail_if_success refine g_lit rfl rfl rfl ?_); first | apply g_partM rfl rfl rfl | apply g_partMB rfl rfl rfl | fail))
    | refine gS ?_ | exact s_m | intro _)
  refine g_cutX (X := DecX) (fun x => [(4, .slice x.q x.bs.length x.c), (2, .string ⟨#[]⟩)]) (fun x => [.own x.q x.bs.length x.c 1 (cells8 x.bs) 5]) (fun x => decI n = x.bs.reverse ∧ x.bs.length ≤ 21) ?_ (fun x hx => ?_)
  · refine g_cond_dec rfl (fun h3 => ?_) (fun h3 => ?_)
    · repeat (first
        | (refine g_ops ?_; first | refine sO ?_ | refine s_n (fun _ => ?_) | refine s_app (fun _ _ => ?_) | refine s_b0 (fun _ => ?_) | ((fail_if_success refine g_lit rfl rfl rfl ?_); first | apply g_partM rfl rfl rfl | apply g_partMB rfl rfl rfl | fail))
        | refine gS ?_ | exact s_m | intro _)
      rename_i q' c'
      rw [show cells8 bs ++ [Value.int .u8 45] = cells8 (bs ++ [45]) from cells8_snoc bs 45, show bs.length + 1 = (bs ++ [(45 : UInt8)]).length by simp]
      exact gM ⟨0, bs ++ [45], q', c'⟩ ⟨by unfold decI; rw [if_pos h3, hg, hdg]; simp, by simp; omega⟩
    · repeat (first
        | (refine g_ops ?_; first | refine sO ?_ | refine s_n (fun _ => ?_) | refine s_app (fun _ _ => ?_) | refine s_b0 (fun _ => ?_) | ((fail_if_success refine g_lit rfl rfl rfl ?_); first | apply g_partM rfl rfl rfl | apply g_partMB rfl rfl rfl | fail))
        | refine gS ?_ | exact s_m | intro _)
      exact gM ⟨0, bs, q, c⟩ ⟨by unfold decI; rw [if_neg h3, show n.toNat = u0 by omega, hdg], by simp only; omega⟩
  obtain ⟨_, bs, q, c⟩ := x
  obtain ⟨hit, hbl⟩ := hx
  simp only at hit hbl
  dsimp only
  repeat (first
    | (refine g_ops ?_; first | refine sO ?_ | refine s_n (fun _ => ?_) | refine s_app (fun _ _ => ?_) | refine s_b0 (fun _ => ?_) | ((fail_if_success refine g_lit rfl rfl rfl ?_); first | apply g_partM rfl rfl rfl | apply g_partMB rfl rfl rfl | fail))
    | refine gS ?_ | exact s_m | intro _)
  refine g_own_nil none 1 5 ?_
  refine g_own (n := 1) (xs := cells8 bs) (by (repeat (first | exact Sel.here | apply Sel.there)); first | done | fail) (fun hol hoc hop => ?_)
  refine g_loop (X := DecX) (fun x => [(6, .int .i64 ((x.u : Int) - 1)), (5, .slice x.q x.bs.length x.c), (4, .slice q bs.length c), (2, .string ⟨#[]⟩)]) (fun x => [.own x.q x.bs.length x.c 1 (cells8 x.bs) 5, .own q bs.length c 1 (cells8 bs) 5]) (fun x => x.u ≤ bs.length ∧ x.bs = (bs.drop x.u).reverse) (fun x => x.u)
    ⟨bs.length, [], none, 0⟩ ⟨Nat.le_refl _, by simp⟩ (by (repeat (first | exact FrSub.nil | refine FrSub.cons rfl ?_)); first | done | fail) (by (repeat (first | exact Take.nil | apply Take.cons | exact Sel.here | apply Sel.there)); first | done | fail) (fun x hx => ?_)
  obtain ⟨k, out, q2, c2⟩ := x
  obtain ⟨hk, hout⟩ := hx
  simp only at hk hout
  have hol2 : out.length ≤ 21 := by rw [hout]; simp; omega
  dsimp only
  repeat (first
    | (refine g_ops ?_; first | refine sO ?_ | refine s_n (fun _ => ?_) | refine s_app (fun _ _ => ?_) | refine s_b0 (fun _ => ?_) | ((fail_if_success refine g_lit rfl rfl rfl ?_); first | apply g_partM rfl rfl rfl | apply g_partMB rfl rfl rfl | fail))
    | refine gS ?_ | exact s_m | intro _)
  refine g_cond_dec rfl (fun h3 => ?_) (fun h3 => ?_)
  · have hk1 : 0 < k := by omega
    obtain ⟨b, rfl⟩ := hop (by omega)
    have hr : ∀ j, j = k - 1 → Reads (.own (some ⟨b, 0, none⟩) bs.length c 1 (cells8 bs) 5) ⟨b, j, none⟩ (.int .u8 ((bs.getD (k - 1) 0).toNat : Int)) := fun j e => by
      subst e
      exact reads_own (cells8_get bs (k - 1) (by omega))
    generalize hbb : bs.getD (k - 1) 0 = bb at hr
    repeat (first
      | (refine g_ops ?_; first | refine sO ?_ | refine s_n (fun _ => ?_) | refine s_app (fun _ _ => ?_) | refine s_b0 (fun _ => ?_) | ((fail_if_success refine g_lit rfl rfl rfl ?_); first | apply g_partM rfl rfl rfl | apply g_partMB rfl rfl rfl | fail))
      | refine gS ?_ | exact s_m | intro _)
    rename_i q' c'
    refine g_as 6 (v' := .int .i64 (((k - 1 : Nat) : Int) - 1)) rfl (congrArg (Value.int .i64) (by omega)) ?_
    rw [cells8_snoc, show out.length + 1 = (out ++ [bb]).length by simp]
    refine gA ⟨k - 1, out ++ [bb], q', c'⟩ (by simp only; omega) ⟨by simp only; omega, ?_⟩
    simp only
    rw [drop_rev bs (k - 1) (by omega), show k - 1 + 1 = k by omega, ← hout, hbb]
  · obtain rfl : k = 0 := by omega
    rw [List.drop_zero] at hout
    rw [← hit] at hout
    subst hout
    repeat (first
      | (refine g_ops ?_; first | refine sO ?_ | refine s_n (fun _ => ?_) | refine s_app (fun _ _ => ?_) | refine s_b0 (fun _ => ?_) | ((fail_if_success refine g_lit rfl rfl rfl ?_); first | apply g_partM rfl rfl rfl | apply g_partMB rfl rfl rfl | fail))
      | refine gS ?_ | exact s_m | intro _)
    refine g_v (vs_bytesStr inferInstance inferInstance inferInstance rfl (by (repeat (first | exact Sel.here | apply Sel.there)); first | done | fail)) rfl rfl ?_
    repeat (first
      | (refine g_ops ?_; first | refine sO ?_ | refine s_n (fun _ => ?_) | refine s_app (fun _ _ => ?_) | refine s_b0 (fun _ => ?_) | ((fail_if_success refine g_lit rfl rfl rfl ?_); first | apply g_partM rfl rfl rfl | apply g_partMB rfl rfl rfl | fail))
      | refine gS ?_ | exact s_m | intro _)
    exact gR () trivial
end Go.Proofs.YtaahibcibgljbaaDoor
namespace Go.Proofs.YtaahibcibgljbaaDoor
open Go.Sl facts
attribute [local irreducible] Code.wp wpList Exit.then Exit.inBlock bodyPost Back MidQ G GP QStep VStep CStep SStep Does Post Reads
attribute [local irreducible] weigh weighL keyB validB
theorem bool_of (p : Prop) : ∃ B : Bool, (B = true ↔ p) := (Classical.em p).elim (fun h => ⟨true, ⟨fun _ => h, fun _ => rfl⟩⟩) (fun h => ⟨false, ⟨fun e => (by cases e), fun h' => absurd h' h⟩⟩)
structure WgX where
  i : Nat
  m : Int
set_option maxHeartbeats 4000000 in
theorem weigh1 (H : HP) (v : V) : ∀ (u : Vc), VAt (Pile H) v u → SmV v → szV v ≤ 100000000 → ∀ (lv n : Int), 0 ≤ lv ∧ lv ≤ 20 → 0 ≤ n ∧ n ≤ 1000 →
    Does1 Tryd.prog 41 [.agg u.cells.toArray, int lv, int n] [Pile H] (.tuple #[int (weigh v lv n).1, int (weigh v lv n).2]) := by
  refine V.ind (Q := fun v => ∀ (u : Vc), VAt (Pile H) v u → SmV v → szV v ≤ 100000000 → ∀ (lv n : Int), 0 ≤ lv ∧ lv ≤ 20 → 0 ≤ n ∧ n ≤ 1000 →
    Does1 Tryd.prog 41 [.agg u.cells.toArray, int lv, int n] [Pile H] (.tuple #[int (weigh v lv n).1, int (weigh v lv n).2])) (fun k y n0 s ks l ih u hu hsm hsz lv n hlv hn => ?_) v
  have hw := weigh_mk k y n0 s ks l lv n
  obtain ⟨h6, h0, h5, hsk⟩ := hsm
  rw [szV_mk] at hsz
  have hsl := szK_len l
  cases hu with
  | @mk _ _ _ _ _ _ kp kc p c us hki hn0 hs hkl hks hkS hl hul hS h =>
    have hv := valid1 H s (by omega)
    unfold inI at hki
    dsimp only [Vc.cells]
    refine fn_intro Tryd.func41 rfl Tryd.ntmps41 rfl (by simp only [argFr, Nat.zero_add, Nat.reduceAdd]; rfl) (fun Γ => ?_)
    repeat (first
      | (refine g_ops ?_; first | refine sO ?_ | refine s_n (fun _ => ?_) | refine s_app (fun _ _ => ?_) | refine s_b0 (fun _ => ?_) | ((fail_if_success refine g_lit rfl rfl rfl ?_); first | apply g_partM rfl rfl rfl | apply g_partMB rfl rfl rfl | fail))
      | apply g_regB (id := 2) 20 | apply g_regB (id := 4) 30 | refine gS ?_ | exact s_m | intro _ | (refine gp_take ?_; first | refine pT ?_ | ((fail_if_success refine gp_lit rfl rfl rfl rfl ?_); first | apply gp_guard_dec rfl rfl rfl rfl | apply gp_guard rfl rfl rfl rfl | fail))
      | (refine gp_see ?_; first | refine p_f ?_ | refine pS ?_ | ((fail_if_success refine gp_lit rfl rfl rfl rfl ?_); first | apply gp_guard_dec rfl rfl rfl rfl | apply gp_guard rfl rfl rfl rfl | fail))
      | (refine gp_one ?_; first | refine pO ?_ | refine p_n (fun _ => ?_) | refine p_app (fun _ _ => ?_) | refine p_b0 (fun _ => ?_) | ((fail_if_success refine gp_lit rfl rfl rfl rfl ?_); first | apply gp_guard_dec rfl rfl rfl rfl | apply gp_guard rfl rfl rfl rfl | fail))
      | refine gp_two ?_ ?_ | refine gp_done hd hk ?_ | intro _ | refine p_ta hd hk (fun _ _ _ hd hk => ?_) | refine p_ts hd hk (fun _ hd hk => ?_))
    rename_i b
    by_cases k1 : k < 1 ∨ 6 < k
    · rw [if_pos k1] at hw
      refine g_as 20 (v' := .bool true) rfl (congrArg Value.bool (by simp [Bool.cond_eq_ite]; omega)) ?_
      repeat (first
        | (refine g_ops ?_; first | refine sO ?_ | refine s_n (fun _ => ?_) | refine s_app (fun _ _ => ?_) | refine s_b0 (fun _ => ?_) | ((fail_if_success refine g_lit rfl rfl rfl ?_); first | apply g_partM rfl rfl rfl | apply g_partMB rfl rfl rfl | fail))
        | refine gS ?_ | exact s_m | intro _)
      exact s_r () (hp := by simp only [pack]; rw [hw])
    rw [if_neg k1] at hw
    refine g_as 20 (v' := .bool false) rfl (congrArg Value.bool (by simp [Bool.cond_eq_ite]; omega)) ?_
    repeat ((fail_if_success refine s_at 25 ?_); first
      | (refine g_ops ?_; first | refine sO ?_ | refine s_n (fun _ => ?_) | refine s_app (fun _ _ => ?_) | refine s_b0 (fun _ => ?_) | ((fail_if_success refine g_lit rfl rfl rfl ?_); first | apply g_partM rfl rfl rfl | apply g_partMB rfl rfl rfl | fail))
      | refine gS ?_ | exact s_m | intro _)
    first
      | (refine g_ops ?_; first | refine sO ?_ | refine s_n (fun _ => ?_) | refine s_app (fun _ _ => ?_) | refine s_b0 (fun _ => ?_) | ((fail_if_success refine g_lit rfl rfl rfl ?_); first | apply g_partM rfl rfl rfl | apply g_partMB rfl rfl rfl | fail))
      | refine gS ?_ | exact s_m | intro _
    by_cases k4 : k = 4
    · subst k4
      refine g_as 25 (v' := .bool true) rfl rfl ?_
      cases hb : validB s
      · rw [if_pos ⟨rfl, hb⟩] at hw
        rw [hb] at hv
        repeat (first
          | (refine g_ops ?_; first | refine sO ?_ | refine s_n (fun _ => ?_) | refine s_app (fun _ _ => ?_) | refine s_b0 (fun _ => ?_) | ((fail_if_success refine g_lit rfl rfl rfl ?_); first | apply g_partM rfl rfl rfl | apply g_partMB rfl rfl rfl | fail) | refine s_k (hv) ?_)
          | refine gS ?_ | exact s_m | intro _)
        exact s_r () (hp := by simp only [pack]; rw [hw])
      · rw [if_neg (fun h => by rw [hb] at h; cases h.2)] at hw
        rw [hb] at hv
        repeat (first
          | (refine g_ops ?_; first | refine sO ?_ | refine s_n (fun _ => ?_) | refine s_app (fun _ _ => ?_) | refine s_b0 (fun _ => ?_) | ((fail_if_success refine g_lit rfl rfl rfl ?_); first | apply g_partM rfl rfl rfl | apply g_partMB rfl rfl rfl | fail) | refine s_k (hv) ?_)
          | refine gS ?_ | exact s_m | intro _)
        refine g_cond_dec rfl (fun h2 => ?_) (fun h2 => ?_)
        · rw [if_pos h2] at hw
          repeat (first
            | (refine g_ops ?_; first | refine sO ?_ | refine s_n (fun _ => ?_) | refine s_app (fun _ _ => ?_) | refine s_b0 (fun _ => ?_) | ((fail_if_success refine g_lit rfl rfl rfl ?_); first | apply g_partM rfl rfl rfl | apply g_partMB rfl rfl rfl | fail))
            | refine gS ?_ | exact s_m | intro _)
          exact s_r () (hp := by simp only [pack]; rw [hw])
        · rw [if_neg h2, if_pos (by decide)] at hw
          repeat (first
            | (refine g_ops ?_; first | refine sO ?_ | refine s_n (fun _ => ?_) | refine s_app (fun _ _ => ?_) | refine s_b0 (fun _ => ?_) | ((fail_if_success refine g_lit rfl rfl rfl ?_); first | apply g_partM rfl rfl rfl | apply g_partMB rfl rfl rfl | fail))
            | refine gS ?_ | exact s_m | intro _)
          exact s_r () (hp := by simp only [pack]; rw [hw])
    rw [if_neg (fun h => k4 h.1)] at hw
    refine g_as 25 (v' := .bool false) rfl (congrArg Value.bool (decide_eq_false k4)) ?_
    repeat (first
      | (refine g_ops ?_; first | refine sO ?_ | refine s_n (fun _ => ?_) | refine s_app (fun _ _ => ?_) | refine s_b0 (fun _ => ?_) | ((fail_if_success refine g_lit rfl rfl rfl ?_); first | apply g_partM rfl rfl rfl | apply g_partMB rfl rfl rfl | fail))
      | refine gS ?_ | exact s_m | intro _)
    refine g_cond_dec rfl (fun h2 => ?_) (fun h2 => ?_)
    · rw [if_pos h2] at hw
      repeat (first
        | (refine g_ops ?_; first | refine sO ?_ | refine s_n (fun _ => ?_) | refine s_app (fun _ _ => ?_) | refine s_b0 (fun _ => ?_) | ((fail_if_success refine g_lit rfl rfl rfl ?_); first | apply g_partM rfl rfl rfl | apply g_partMB rfl rfl rfl | fail))
        | refine gS ?_ | exact s_m | intro _)
      exact s_r () (hp := by simp only [pack]; rw [hw])
    rw [if_neg h2] at hw
    repeat (first
      | (refine g_ops ?_; first | refine sO ?_ | refine s_n (fun _ => ?_) | refine s_app (fun _ _ => ?_) | refine s_b0 (fun _ => ?_) | ((fail_if_success refine g_lit rfl rfl rfl ?_); first | apply g_partM rfl rfl rfl | apply g_partMB rfl rfl rfl | fail))
      | refine gS ?_ | exact s_m | intro _)
    refine g_cond_dec rfl (fun h3 => ?_) (fun h3 => ?_)
    · rw [if_pos h3] at hw
      repeat (first
        | (refine g_ops ?_; first | refine sO ?_ | refine s_n (fun _ => ?_) | refine s_app (fun _ _ => ?_) | refine s_b0 (fun _ => ?_) | ((fail_if_success refine g_lit rfl rfl rfl ?_); first | apply g_partM rfl rfl rfl | apply g_partMB rfl rfl rfl | fail))
        | refine gS ?_ | exact s_m | intro _)
      exact s_r () (hp := by simp only [pack]; rw [hw])
    rw [if_neg h3] at hw
    repeat (first
      | (refine g_ops ?_; first | refine sO ?_ | refine s_n (fun _ => ?_) | refine s_app (fun _ _ => ?_) | refine s_b0 (fun _ => ?_) | ((fail_if_success refine g_lit rfl rfl rfl ?_); first | apply g_partM rfl rfl rfl | apply g_partMB rfl rfl rfl | fail))
      | refine gS ?_ | exact s_m | intro _)
    refine g_cond_dec rfl (fun h4 => ?_) (fun h4 => ?_)
    · rw [if_pos h4] at hw
      repeat (first
        | (refine g_ops ?_; first | refine sO ?_ | refine s_n (fun _ => ?_) | refine s_app (fun _ _ => ?_) | refine s_b0 (fun _ => ?_) | ((fail_if_success refine g_lit rfl rfl rfl ?_); first | apply g_partM rfl rfl rfl | apply g_partMB rfl rfl rfl | fail))
        | refine gS ?_ | exact s_m | intro _)
      exact s_r () (hp := by simp only [pack]; rw [hw])
    rw [if_neg h4] at hw
    repeat (first
      | (refine g_ops ?_; first | refine sO ?_ | refine s_n (fun _ => ?_) | refine s_app (fun _ _ => ?_) | refine s_b0 (fun _ => ?_) | ((fail_if_success refine g_lit rfl rfl rfl ?_); first | apply g_partM rfl rfl rfl | apply g_partMB rfl rfl rfl | fail))
      | refine gS ?_ | exact s_m | intro _)
    rw [hw]
    refine g_loop (X := WgX) (fun q => [(3, ptr b), (1, int lv), (2, int q.m), (8, int q.i)]) (fun q => [.row b [int k, .bool y, int n0, .string s, .slice kp ks.length kc, .slice p l.length c] 25, Pile H])
      (fun q => q.i ≤ l.length ∧ (0 ≤ q.m ∧ q.m ≤ 1000) ∧ weighL (decide (k = 6)) none ks l (lv + 1) (n + 1) = weighL (decide (k = 6)) (if q.i = 0 then none else (ks.drop (q.i - 1)).head?) (ks.drop q.i) (l.drop q.i) (lv + 1) q.m) (fun q => l.length - q.i) ⟨0, n + 1⟩ ⟨Nat.zero_le _, ⟨by dsimp only; omega, by dsimp only; omega⟩, rfl⟩ (by (repeat (first | exact FrSub.nil | refine FrSub.cons rfl ?_)); first | done | fail) (by (repeat (first | exact Take.nil | apply Take.cons | exact Sel.here | apply Sel.there)); first | done | fail) (fun q hq => ?_)
    obtain ⟨i, m⟩ := q
    obtain ⟨hi, hm, he⟩ := hq
    dsimp only at hi hm he ⊢
    repeat (first
      | (refine g_ops ?_; first | refine sO ?_ | refine s_n (fun _ => ?_) | refine s_app (fun _ _ => ?_) | refine s_b0 (fun _ => ?_) | ((fail_if_success refine g_lit rfl rfl rfl ?_); first | apply g_partM rfl rfl rfl | apply g_partMB rfl rfl rfl | fail))
      | refine gS ?_ | exact s_m | intro _)
    refine g_cond_dec rfl (fun h7 => ?_) (fun h7 => ?_)
    · have hi' : i < l.length := by omega
      have hgl : l[i]? = some l[i] := List.getElem?_eq_getElem hi'
      have hgu : us[i]? = some (us[i]'(by omega)) := List.getElem?_eq_getElem _
      have hmem : l[i] ∈ l := List.getElem_mem _
      have hat := h i _ _ hgl hgu
      have hsx := szK_mem hmem
      obtain ⟨b2, o, rfl, hrow⟩ := slAt_elem hS Vc.len (by decide) hgu
      rw [List.drop_eq_getElem_cons hi', weighL_cons] at he
      generalize l[i] = x at hat hmem he hsx
      generalize us[i]'_ = u' at hat hrow
      have hc := ih x hmem u' hat (hsk x hmem) (by omega) (lv + 1) m ⟨by omega, by omega⟩ hm
      clear h hgl hgu ih
      obtain ⟨B, hB⟩ : ∃ B : Bool, (B = true ↔ (decide (k = 6) = true ∧ (keyB ((ks.drop i).headD ByteArray.empty) = false ∨ (∃ q ∈ (if i = 0 then none else (ks.drop (i - 1)).head?), bltB q ((ks.drop i).headD ByteArray.empty) = false)))) :=
        bool_of _
      repeat (first
        | (refine g_ops ?_; first | refine sO ?_ | refine s_n (fun _ => ?_) | refine s_app (fun _ _ => ?_) | refine s_b0 (fun _ => ?_) | ((fail_if_success refine g_lit rfl rfl rfl ?_); first | apply g_partM rfl rfl rfl | apply g_partMB rfl rfl rfl | fail))
        | refine gS ?_ | exact s_m | intro _)
      refine g_cutX (X := Unit) (fun _ => [(78, .bool B), (3, ptr b), (1, int lv), (2, int m), (8, int i)]) (fun _ => [.row b [int k, .bool y, int n0, .string s, .slice kp ks.length kc, .slice (some ⟨b2, o, none⟩) l.length c] 25, Pile H]) (fun _ => True) ?_ (fun _ _ => ?_)
      · by_cases k6 : k = 6
        · subst k6
          have hkl2 := h6 rfl
          have hki : i < ks.length := by omega
          have hgk : (ks.map Value.string)[i]? = some (.string ks[i]) := by simp [hki]
          have hgp : (ks.map Value.string)[i - 1]? = some (.string (ks[i - 1]'(by omega))) := by simp [(by omega : i - 1 < ks.length)]
          obtain ⟨b3, o3, rfl, hr0⟩ := slAt_cell hkS hgk
          obtain ⟨b4, o4, e4, hr1⟩ := slAt_cell hkS hgp
          simp only [Option.some.injEq, Addr.mk.injEq, and_true] at e4
          obtain ⟨rfl, rfl⟩ := e4
          have hkk := hks _ (List.getElem_mem hki)
          have hkz : ks[i].size ≤ szS ks := szS_mem (List.getElem_mem hki)
          have hpk : (if i = 0 then none else (ks.drop (i - 1)).head?) = if i = 0 then none else some (ks[i - 1]'(by omega)) := by
            split
            · rfl
            · rw [List.drop_eq_getElem_cons (by omega)]; rfl
          rw [hpk, List.drop_eq_getElem_cons hki, List.headD_cons] at hB
          generalize ks[i] = kk at hr0 hkk hkz hB
          generalize (ks[i - 1]'_) = pk at hr1 hB
          have hr : ∀ k', k' = o3 + i → Reads (Pile H) ⟨b3, k', none⟩ (.string kk) := fun _ e => e ▸ hr0
          have hr2 : ∀ k', k' = o3 + (i - 1) → Reads (Pile H) ⟨b3, k', none⟩ (.string pk) := fun _ e => e ▸ hr1
          have hkey := key1d H kk (by omega)
          refine g_draw (.take 0 (.see 1 [] (.take 2 (.take 3 (.take 4 (.see 5 [] (.take 6 (.take 7 (.see 8 [] (.one 9 (.take 10 (.take 11 (.take 12 (.take 13 (.take 14 (.take 15 (.see 16 [] (.take 17 (.take 18 (.take 19 (.see 20 [] (.take 21 (.see 22 [] (.take 23 (.take 24 (.see 25 [] (.take 26 (.take 27 (.take 28 (.take 29 .done)))))))))))))))))))))))))))))) (by kernel_rfl) (C := [.row b [int 6, .bool y, int n0, .string s, .slice (some ⟨b3, o3, none⟩) ks.length kc, .slice (some ⟨b2, o, none⟩) l.length c] 25, Pile H]) (by (repeat (first | exact Take.nil | apply Take.cons | exact Sel.here | apply Sel.there)); first | done | fail) (fun m' hd hk => ?_)
          repeat (first
            | (refine gp_take ?_; first | refine pT ?_ | ((fail_if_success refine gp_lit rfl rfl rfl rfl ?_); first | apply gp_guard_dec rfl rfl rfl rfl | apply gp_guard rfl rfl rfl rfl | fail))
            | (refine gp_see ?_; first | refine p_f ?_ | refine pS ?_ | ((fail_if_success refine gp_lit rfl rfl rfl rfl ?_); first | apply gp_guard_dec rfl rfl rfl rfl | apply gp_guard rfl rfl rfl rfl | fail))
            | (refine gp_one ?_; first | refine pO ?_ | refine p_n (fun _ => ?_) | refine p_app (fun _ _ => ?_) | refine p_b0 (fun _ => ?_) | ((fail_if_success refine gp_lit rfl rfl rfl rfl ?_); first | apply gp_guard_dec rfl rfl rfl rfl | apply gp_guard rfl rfl rfl rfl | fail) | refine p_cP (hkey) hd hk (fun _ _ => ?_))
            | refine gp_two ?_ ?_ | refine gp_done hd hk ?_ | intro _ | refine p_ta hd hk (fun _ _ _ hd hk => ?_) | refine p_ts hd hk (fun _ hd hk => ?_))
          cases hk0 : keyB kk
          · obtain rfl : B = true := hB.2 ⟨rfl, .inl hk0⟩
            refine gp_as 60 (v' := .bool true) rfl rfl ?_
            repeat (first
              | (refine gp_take ?_; first | refine pT ?_ | ((fail_if_success refine gp_lit rfl rfl rfl rfl ?_); first | apply gp_guard_dec rfl rfl rfl rfl | apply gp_guard rfl rfl rfl rfl | fail))
              | (refine gp_see ?_; first | refine p_f ?_ | refine pS ?_ | ((fail_if_success refine gp_lit rfl rfl rfl rfl ?_); first | apply gp_guard_dec rfl rfl rfl rfl | apply gp_guard rfl rfl rfl rfl | fail))
              | (refine gp_one ?_; first | refine pO ?_ | refine p_n (fun _ => ?_) | refine p_app (fun _ _ => ?_) | refine p_b0 (fun _ => ?_) | ((fail_if_success refine gp_lit rfl rfl rfl rfl ?_); first | apply gp_guard_dec rfl rfl rfl rfl | apply gp_guard rfl rfl rfl rfl | fail))
              | refine gp_two ?_ ?_ | refine gp_done hd hk ?_ | intro _ | refine p_ta hd hk (fun _ _ _ hd hk => ?_) | refine p_ts hd hk (fun _ hd hk => ?_))
            exact gM () trivial
          · refine gp_as 60 (v' := .bool false) rfl rfl ?_
            repeat (first
              | (refine gp_take ?_; first | refine pT ?_ | ((fail_if_success refine gp_lit rfl rfl rfl rfl ?_); first | apply gp_guard_dec rfl rfl rfl rfl | apply gp_guard rfl rfl rfl rfl | fail))
              | (refine gp_see ?_; first | refine p_f ?_ | refine pS ?_ | ((fail_if_success refine gp_lit rfl rfl rfl rfl ?_); first | apply gp_guard_dec rfl rfl rfl rfl | apply gp_guard rfl rfl rfl rfl | fail))
              | (refine gp_one ?_; first | refine pO ?_ | refine p_n (fun _ => ?_) | refine p_app (fun _ _ => ?_) | refine p_b0 (fun _ => ?_) | ((fail_if_success refine gp_lit rfl rfl rfl rfl ?_); first | apply gp_guard_dec rfl rfl rfl rfl | apply gp_guard rfl rfl rfl rfl | fail))
              | refine gp_two ?_ ?_ | refine gp_done hd hk ?_ | intro _ | refine p_ta hd hk (fun _ _ _ hd hk => ?_) | refine p_ts hd hk (fun _ hd hk => ?_))
            by_cases hi0 : i = 0
            · obtain rfl : B = false := by
                cases B with
                | false => rfl
                | true =>
                  obtain ⟨_, h | ⟨q, hq, _⟩⟩ := hB.1 rfl
                  · rw [hk0] at h; cases h
                  · rw [if_pos hi0] at hq; cases hq
              refine gp_as 63 (v' := .bool false) rfl (congrArg Value.bool (decide_eq_false (by omega))) ?_
              repeat (first
                | (refine gp_take ?_; first | refine pT ?_ | ((fail_if_success refine gp_lit rfl rfl rfl rfl ?_); first | apply gp_guard_dec rfl rfl rfl rfl | apply gp_guard rfl rfl rfl rfl | fail))
                | (refine gp_see ?_; first | refine p_f ?_ | refine pS ?_ | ((fail_if_success refine gp_lit rfl rfl rfl rfl ?_); first | apply gp_guard_dec rfl rfl rfl rfl | apply gp_guard rfl rfl rfl rfl | fail))
                | (refine gp_one ?_; first | refine pO ?_ | refine p_n (fun _ => ?_) | refine p_app (fun _ _ => ?_) | refine p_b0 (fun _ => ?_) | ((fail_if_success refine gp_lit rfl rfl rfl rfl ?_); first | apply gp_guard_dec rfl rfl rfl rfl | apply gp_guard rfl rfl rfl rfl | fail))
                | refine gp_two ?_ ?_ | refine gp_done hd hk ?_ | intro _ | refine p_ta hd hk (fun _ _ _ hd hk => ?_) | refine p_ts hd hk (fun _ hd hk => ?_))
              exact gM () trivial
            · obtain rfl : B = !bltB pk kk := by
                rw [if_neg hi0] at hB
                cases hbl : bltB pk kk with
                | false => exact hB.2 ⟨rfl, .inr ⟨pk, rfl, hbl⟩⟩
                | true =>
                  cases B with
                  | false => rfl
                  | true =>
                    obtain ⟨_, h | ⟨q, hq, h⟩⟩ := hB.1 rfl
                    · rw [hk0] at h; cases h
                    · cases hq; rw [hbl] at h; cases h
              refine gp_as 63 (v' := .bool true) rfl (congrArg Value.bool (decide_eq_true (by omega))) ?_
              repeat (first
                | (refine gp_take ?_; first | refine pT ?_ | ((fail_if_success refine gp_lit rfl rfl rfl rfl ?_); first | apply gp_guard_dec rfl rfl rfl rfl | apply gp_guard rfl rfl rfl rfl | fail))
                | (refine gp_see ?_; first | refine p_f ?_ | refine pS ?_ | ((fail_if_success refine gp_lit rfl rfl rfl rfl ?_); first | apply gp_guard_dec rfl rfl rfl rfl | apply gp_guard rfl rfl rfl rfl | fail))
                | (refine gp_one ?_; first | refine pO ?_ | refine p_n (fun _ => ?_) | refine p_app (fun _ _ => ?_) | refine p_b0 (fun _ => ?_) | ((fail_if_success refine gp_lit rfl rfl rfl rfl ?_); first | apply gp_guard_dec rfl rfl rfl rfl | apply gp_guard rfl rfl rfl rfl | fail))
                | refine gp_two ?_ ?_ | refine gp_done hd hk ?_ | intro _ | refine p_ta hd hk (fun _ _ _ hd hk => ?_) | refine p_ts hd hk (fun _ hd hk => ?_))
              exact gM () trivial
        · refine g_draw (.take 0 (.see 1 [] (.take 2 (.take 3 (.take 4 (.see 5 [] (.take 6 (.take 7 (.see 8 [] (.one 9 (.take 10 (.take 11 (.take 12 (.take 13 (.take 14 (.take 15 (.see 16 [] (.take 17 (.take 18 (.take 19 (.see 20 [] (.take 21 (.see 22 [] (.take 23 (.take 24 (.see 25 [] (.take 26 (.take 27 (.take 28 (.take 29 .done)))))))))))))))))))))))))))))) (by kernel_rfl) (C := [.row b [int k, .bool y, int n0, .string s, .slice kp ks.length kc, .slice (some ⟨b2, o, none⟩) l.length c] 25]) (by (repeat (first | exact Take.nil | apply Take.cons | exact Sel.here | apply Sel.there)); first | done | fail) (fun m' hd hk => ?_)
          repeat (first
            | (refine gp_take ?_; first | refine pT ?_ | ((fail_if_success refine gp_lit rfl rfl rfl rfl ?_); first | apply gp_guard_dec rfl rfl rfl rfl | apply gp_guard rfl rfl rfl rfl | fail))
            | (refine gp_see ?_; first | refine p_f ?_ | refine pS ?_ | ((fail_if_success refine gp_lit rfl rfl rfl rfl ?_); first | apply gp_guard_dec rfl rfl rfl rfl | apply gp_guard rfl rfl rfl rfl | fail))
            | (refine gp_one ?_; first | refine pO ?_ | refine p_n (fun _ => ?_) | refine p_app (fun _ _ => ?_) | refine p_b0 (fun _ => ?_) | ((fail_if_success refine gp_lit rfl rfl rfl rfl ?_); first | apply gp_guard_dec rfl rfl rfl rfl | apply gp_guard rfl rfl rfl rfl | fail))
            | refine gp_two ?_ ?_ | refine gp_done hd hk ?_ | intro _ | refine p_ta hd hk (fun _ _ _ hd hk => ?_) | refine p_ts hd hk (fun _ hd hk => ?_))
          obtain rfl : B = false := by
            cases B with
            | false => rfl
            | true => exact absurd (of_decide_eq_true (hB.1 rfl).1) k6
          refine gp_as 52 (v' := .bool false) rfl (congrArg Value.bool (decide_eq_false k6)) ?_
          repeat (first
            | (refine gp_take ?_; first | refine pT ?_ | ((fail_if_success refine gp_lit rfl rfl rfl rfl ?_); first | apply gp_guard_dec rfl rfl rfl rfl | apply gp_guard rfl rfl rfl rfl | fail))
            | (refine gp_see ?_; first | refine p_f ?_ | refine pS ?_ | ((fail_if_success refine gp_lit rfl rfl rfl rfl ?_); first | apply gp_guard_dec rfl rfl rfl rfl | apply gp_guard rfl rfl rfl rfl | fail))
            | (refine gp_one ?_; first | refine pO ?_ | refine p_n (fun _ => ?_) | refine p_app (fun _ _ => ?_) | refine p_b0 (fun _ => ?_) | ((fail_if_success refine gp_lit rfl rfl rfl rfl ?_); first | apply gp_guard_dec rfl rfl rfl rfl | apply gp_guard rfl rfl rfl rfl | fail))
            | refine gp_two ?_ ?_ | refine gp_done hd hk ?_ | intro _ | refine p_ta hd hk (fun _ _ _ hd hk => ?_) | refine p_ts hd hk (fun _ hd hk => ?_))
          exact gM () trivial
      cases hb : B
      · rw [if_neg (fun hcc => by rw [hB.2 hcc] at hb; cases hb)] at he
        subst hb
        repeat (first
          | (refine g_ops ?_; first | refine sO ?_ | refine s_n (fun _ => ?_) | refine s_app (fun _ _ => ?_) | refine s_b0 (fun _ => ?_) | ((fail_if_success refine g_lit rfl rfl rfl ?_); first | apply g_partM rfl rfl rfl | apply g_partMB rfl rfl rfl | fail) | refine s_k (hc) ?_)
          | refine gS ?_ | exact s_m | intro _)
        refine g_cond_dec rfl (fun h9 => ?_) (fun h9 => ?_)
        · rw [if_neg h9] at he
          repeat (first
            | (refine g_ops ?_; first | refine sO ?_ | refine s_n (fun _ => ?_) | refine s_app (fun _ _ => ?_) | refine s_b0 (fun _ => ?_) | ((fail_if_success refine g_lit rfl rfl rfl ?_); first | apply g_partM rfl rfl rfl | apply g_partMB rfl rfl rfl | fail))
            | refine gS ?_ | exact s_m | intro _)
          exact s_r () (hp := by simp only [pack]; rw [he])
        · have h9' : (weigh x (lv + 1) m).1 = 0 := by omega
          rw [if_pos h9', List.tail_drop] at he
          have hmm := weigh_most x (lv + 1) m hm.1 h9'
          repeat (first
            | (refine g_ops ?_; first | refine sO ?_ | refine s_n (fun _ => ?_) | refine s_app (fun _ _ => ?_) | refine s_b0 (fun _ => ?_) | ((fail_if_success refine g_lit rfl rfl rfl ?_); first | apply g_partM rfl rfl rfl | apply g_partMB rfl rfl rfl | fail))
            | refine gS ?_ | exact s_m | intro _)
          refine g_as 8 (v' := int ((i + 1 : Nat) : Int)) rfl (congrArg (Value.int .i64) (by push_cast; rfl)) ?_
          refine gA ⟨i + 1, (weigh x (lv + 1) m).2⟩ (by simp only; omega) ⟨hi', ⟨by dsimp only; omega, hmm.2⟩, ?_⟩
          dsimp only
          rw [if_neg (by omega), Nat.add_sub_cancel]
          exact he
      · rw [if_pos (hB.1 hb)] at he
        subst hb
        repeat (first
          | (refine g_ops ?_; first | refine sO ?_ | refine s_n (fun _ => ?_) | refine s_app (fun _ _ => ?_) | refine s_b0 (fun _ => ?_) | ((fail_if_success refine g_lit rfl rfl rfl ?_); first | apply g_partM rfl rfl rfl | apply g_partMB rfl rfl rfl | fail))
          | refine gS ?_ | exact s_m | intro _)
        exact s_r () (hp := by simp only [pack]; rw [he])
    · obtain rfl : i = l.length := by omega
      rw [List.drop_length, weighL_nil] at he
      repeat (first
        | (refine g_ops ?_; first | refine sO ?_ | refine s_n (fun _ => ?_) | refine s_app (fun _ _ => ?_) | refine s_b0 (fun _ => ?_) | ((fail_if_success refine g_lit rfl rfl rfl ?_); first | apply g_partM rfl rfl rfl | apply g_partMB rfl rfl rfl | fail))
        | refine gS ?_ | exact s_m | intro _)
      exact s_r () (hp := by simp only [pack]; rw [he])
end Go.Proofs.YtaahibcibgljbaaDoor
namespace Go.Proofs.YtaahibcibgljbaaDoor
open Go.Sl facts
abbrev txt (l : List UInt8) : ByteArray := ⟨l.toArray⟩
theorem txt_append (a b : List UInt8) : txt a ++ txt b = txt (a ++ b) := by
  apply ByteArray.ext
  simp [ByteArray.data_append]
theorem txt_size (a : List UInt8) : (txt a).size = a.length := by simp [txt, ByteArray.size]
theorem qs_addT {P : Program} {Γ : Ctx} {fr : Fr} {d : Nat} {t t2 ty : TypeId} {pos : String} {aft : Array Edge} {gd : Option (Nat × Bool)} {x y : Operand} (a b : List UInt8) (hx : ev fr x = some (.string (txt a))) (hy : ev fr y = some (.string (txt b))) (h : a.length + b.length ≤ 9223372036854775807) : QStep P Γ fr ⟨some d, .binOp .add t x y t2, ty, pos, aft, gd⟩ (.string (txt (a ++ b))) := by
  rw [← txt_append]
  exact qs_addS hx hy (by rw [txt_size, txt_size]; exact h)
inductive KOk : V → Prop where
  | mk {k y n s ks l} (hk : 1 ≤ k ∧ k ≤ 6) (h : ∀ x ∈ l, KOk x) : KOk (.mk k y n s ks l)
theorem kokL {p : Bool} : ∀ (l : List V), (∀ x ∈ l, ∀ lv n, (weigh x lv n).1 = 0 → KOk x) → ∀ pr ks lv n, (weighL p pr ks l lv n).1 = 0 → ∀ x ∈ l, KOk x
  | [], _, _, _, _, _, _, x, hx => by cases hx
  | a :: l, h, pr, ks, lv, n, e, x, hx => by
    rw [weighL_cons] at e
    split at e
    · cases e
    · split at e
      · rename_i h2
        rcases List.mem_cons.1 hx with rfl | hx
        · exact h _ (List.mem_cons_self ..) _ _ h2
        · exact kokL l (fun y hy => h y (List.mem_cons_of_mem _ hy)) _ _ _ _ e x hx
      · rename_i h2
        exact absurd e h2
theorem kok (v : V) : SmV v → ∀ lv n, (weigh v lv n).1 = 0 → KOk v := by
  refine V.ind (Q := fun v => SmV v → ∀ lv n, (weigh v lv n).1 = 0 → KOk v) (fun k y m s ks l ih hsm lv n h => ?_) v
  obtain ⟨_, _, h5, hsk⟩ := hsm
  rw [weigh_mk] at h
  split at h
  · cases h
  rename_i h1
  refine .mk (by omega) ?_
  split at h
  · cases h
  split at h
  · cases h
  split at h
  · rename_i h4
    rw [h5 h4]
    intro x hx
    cases hx
  split at h
  · cases h
  exact kokL l (fun x hx lv n => ih x hx (hsk x hx) lv n) _ _ _ _ h
attribute [local irreducible] Code.wp wpList Exit.then Exit.inBlock bodyPost Back MidQ G GP QStep VStep CStep SStep Does Post Reads
attribute [local irreducible] weigh weighL textL textK szV szK szS quoteL decI
theorem check1d (H : HP) (v : V) (u : Vc) (hu : VAt (Pile H) v u) (hs : SmV v) (hz : szV v ≤ 100000000) : Does1 Tryd.prog 25 [.agg u.cells.toArray] [Pile H] (int (weigh v 0 0).1) := by
  have hw := weigh1 H v u hu hs hz 0 0 ⟨by decide, by decide⟩ ⟨by decide, by decide⟩
  obtain ⟨k, y, n, s, kp, kn, kc, p, m, c⟩ := u
  dsimp only [Vc.cells] at hw ⊢
  refine fn_intro Tryd.func25 rfl Tryd.ntmps25 rfl (by simp only [argFr, Nat.zero_add, Nat.reduceAdd]; rfl) (fun Γ => ?_)
  repeat (first
    | (refine g_ops ?_; first | refine sO ?_ | refine s_n (fun _ => ?_) | refine s_app (fun _ _ => ?_) | refine s_b0 (fun _ => ?_) | ((fail_if_success refine g_lit rfl rfl rfl ?_); first | apply g_partM rfl rfl rfl | apply g_partMB rfl rfl rfl | fail) | refine s_k (hw) ?_)
    | refine gS ?_ | exact s_m | intro _)
  exact s_r ()
structure TxX where
  i : Nat
  bs : List UInt8
set_option maxHeartbeats 4000000 in
theorem text1d (H : HP) (v : V) : ∀ (u : Vc), VAt (Pile H) v u → KOk v → SmV v → VOk v → szV v ≤ 100000000 → Does1 Tryd.prog 32 [.agg u.cells.toArray] [Pile H] (.string (txt (textL v))) := by
  refine V.ind (Q := fun v => ∀ (u : Vc), VAt (Pile H) v u → KOk v → SmV v → VOk v → szV v ≤ 100000000 → Does1 Tryd.prog 32 [.agg u.cells.toArray] [Pile H] (.string (txt (textL v)))) (fun k y n s ks l ih u hu hko hsm hok hsz => ?_) v
  have ht := textL_mk k y n s ks l
  have hlen := textL_len _ hok
  obtain ⟨h6, h0, h5, hsk⟩ := hsm
  obtain ⟨hk, hkk⟩ := hko
  obtain ⟨hn, hokk⟩ := hok
  rw [szV_mk] at hsz hlen
  have hsl := szK_len l
  cases hu with
  | @mk _ _ _ _ _ _ kp kc p c us hki hn0 hs hkl hks hkS hl hul hS h =>
    have hv := quote1d H s (by omega)
    dsimp only [Vc.cells]
    refine fn_intro Tryd.func32 rfl Tryd.ntmps32 rfl (by simp only [argFr, Nat.zero_add, Nat.reduceAdd]; rfl) (fun Γ => ?_)
    repeat (first
      | (refine g_ops ?_; first | refine sO ?_ | refine s_n (fun _ => ?_) | refine s_app (fun _ _ => ?_) | refine s_b0 (fun _ => ?_) | ((fail_if_success refine g_lit rfl rfl rfl ?_); first | apply g_partM rfl rfl rfl | apply g_partMB rfl rfl rfl | fail))
      | refine gS ?_ | exact s_m | intro _)
    rename_i b
    by_cases k1 : k = 1
    · subst k1
      rw [if_pos rfl] at ht
      refine g_as 9 (v' := .bool true) rfl rfl ?_
      repeat (first
        | (refine g_ops ?_; first | refine sO ?_ | refine s_n (fun _ => ?_) | refine s_app (fun _ _ => ?_) | refine s_b0 (fun _ => ?_) | ((fail_if_success refine g_lit rfl rfl rfl ?_); first | apply g_partM rfl rfl rfl | apply g_partMB rfl rfl rfl | fail))
        | refine gS ?_ | exact s_m | intro _)
      exact s_r () (hp := by simp only [pack]; rw [ht])
    rw [if_neg k1] at ht
    refine g_as 9 (v' := .bool false) rfl (congrArg Value.bool (decide_eq_false k1)) ?_
    repeat (first
      | (refine g_ops ?_; first | refine sO ?_ | refine s_n (fun _ => ?_) | refine s_app (fun _ _ => ?_) | refine s_b0 (fun _ => ?_) | ((fail_if_success refine g_lit rfl rfl rfl ?_); first | apply g_partM rfl rfl rfl | apply g_partMB rfl rfl rfl | fail))
      | refine gS ?_ | exact s_m | intro _)
    by_cases k2 : k = 2
    · subst k2
      rw [if_pos rfl] at ht
      refine g_as 11 (v' := .bool true) rfl rfl ?_
      cases y
      · repeat (first
          | (refine g_ops ?_; first | refine sO ?_ | refine s_n (fun _ => ?_) | refine s_app (fun _ _ => ?_) | refine s_b0 (fun _ => ?_) | ((fail_if_success refine g_lit rfl rfl rfl ?_); first | apply g_partM rfl rfl rfl | apply g_partMB rfl rfl rfl | fail))
          | refine gS ?_ | exact s_m | intro _)
        exact s_r () (hp := by simp only [pack]; rw [ht]; rfl)
      · repeat (first
          | (refine g_ops ?_; first | refine sO ?_ | refine s_n (fun _ => ?_) | refine s_app (fun _ _ => ?_) | refine s_b0 (fun _ => ?_) | ((fail_if_success refine g_lit rfl rfl rfl ?_); first | apply g_partM rfl rfl rfl | apply g_partMB rfl rfl rfl | fail))
          | refine gS ?_ | exact s_m | intro _)
        exact s_r () (hp := by simp only [pack]; rw [ht]; rfl)
    rw [if_neg k2] at ht
    refine g_as 11 (v' := .bool false) rfl (congrArg Value.bool (decide_eq_false k2)) ?_
    repeat (first
      | (refine g_ops ?_; first | refine sO ?_ | refine s_n (fun _ => ?_) | refine s_app (fun _ _ => ?_) | refine s_b0 (fun _ => ?_) | ((fail_if_success refine g_lit rfl rfl rfl ?_); first | apply g_partM rfl rfl rfl | apply g_partMB rfl rfl rfl | fail))
      | refine gS ?_ | exact s_m | intro _)
    by_cases k3 : k = 3
    · subst k3
      rw [if_pos rfl] at ht
      have hd := decimal n hn
      refine g_as 15 (v' := .bool true) rfl rfl ?_
      repeat (first
        | (refine g_ops ?_; first | refine sO ?_ | refine s_n (fun _ => ?_) | refine s_app (fun _ _ => ?_) | refine s_b0 (fun _ => ?_) | ((fail_if_success refine g_lit rfl rfl rfl ?_); first | apply g_partM rfl rfl rfl | apply g_partMB rfl rfl rfl | fail) | refine s_p (hd) ?_)
        | refine gS ?_ | exact s_m | intro _)
      exact s_r () (hp := by simp only [pack]; rw [ht])
    rw [if_neg k3] at ht
    refine g_as 15 (v' := .bool false) rfl (congrArg Value.bool (decide_eq_false k3)) ?_
    repeat (first
      | (refine g_ops ?_; first | refine sO ?_ | refine s_n (fun _ => ?_) | refine s_app (fun _ _ => ?_) | refine s_b0 (fun _ => ?_) | ((fail_if_success refine g_lit rfl rfl rfl ?_); first | apply g_partM rfl rfl rfl | apply g_partMB rfl rfl rfl | fail))
      | refine gS ?_ | exact s_m | intro _)
    by_cases k4 : k = 4
    · subst k4
      rw [if_pos rfl] at ht
      refine g_as 20 (v' := .bool true) rfl rfl ?_
      repeat (first
        | (refine g_ops ?_; first | refine sO ?_ | refine s_n (fun _ => ?_) | refine s_app (fun _ _ => ?_) | refine s_b0 (fun _ => ?_) | ((fail_if_success refine g_lit rfl rfl rfl ?_); first | apply g_partM rfl rfl rfl | apply g_partMB rfl rfl rfl | fail) | refine s_k (hv) ?_)
        | refine gS ?_ | exact s_m | intro _)
      exact s_r () (hp := by simp only [pack]; rw [ht])
    rw [if_neg k4] at ht
    refine g_as 20 (v' := .bool false) rfl (congrArg Value.bool (decide_eq_false k4)) ?_
    repeat (first
      | (refine g_ops ?_; first | refine sO ?_ | refine s_n (fun _ => ?_) | refine s_app (fun _ _ => ?_) | refine s_b0 (fun _ => ?_) | ((fail_if_success refine g_lit rfl rfl rfl ?_); first | apply g_partM rfl rfl rfl | apply g_partMB rfl rfl rfl | fail))
      | refine gS ?_ | exact s_m | intro _)
    have hP : ∃ P : Bool, P = decide (k = 6) := ⟨_, rfl⟩
    obtain ⟨P, hP⟩ := hP
    obtain ⟨oc, hoc⟩ : ∃ oc : UInt8 × UInt8, oc = if k = 6 then (123, 125) else (91, 93) := ⟨_, rfl⟩
    have ht2 : textL (.mk k y n s ks l) = oc.1 :: (textK P true ks l ++ [oc.2]) := by
      rw [ht, hP, hoc]
      by_cases k5 : k = 5
      · rw [if_pos k5, if_neg (by omega), decide_eq_false (by omega)]
      · obtain rfl : k = 6 := by omega
        rw [if_neg (by decide), if_pos rfl, if_pos rfl, decide_eq_true rfl]
    refine g_cutX (X := Unit) (fun _ => [(1, ptr b), (3, .string (txt [oc.1])), (4, .string (txt [oc.2]))]) (fun _ => [.row b [int k, .bool y, int n, .string s, .slice kp ks.length kc, .slice p l.length c] 25, Pile H]) (fun _ => True) ?_ (fun _ _ => ?_)
    · by_cases k6 : k = 6
      · subst k6
        rw [if_pos rfl] at hoc
        subst hoc
        refine g_as 27 (v' := .bool true) rfl rfl ?_
        repeat (first
          | (refine g_ops ?_; first | refine sO ?_ | refine s_n (fun _ => ?_) | refine s_app (fun _ _ => ?_) | refine s_b0 (fun _ => ?_) | ((fail_if_success refine g_lit rfl rfl rfl ?_); first | apply g_partM rfl rfl rfl | apply g_partMB rfl rfl rfl | fail))
          | refine gS ?_ | exact s_m | intro _)
        exact gM () trivial
      · rw [if_neg k6] at hoc
        subst hoc
        refine g_as 27 (v' := .bool false) rfl (congrArg Value.bool (decide_eq_false k6)) ?_
        repeat (first
          | (refine g_ops ?_; first | refine sO ?_ | refine s_n (fun _ => ?_) | refine s_app (fun _ _ => ?_) | refine s_b0 (fun _ => ?_) | ((fail_if_success refine g_lit rfl rfl rfl ?_); first | apply g_partM rfl rfl rfl | apply g_partMB rfl rfl rfl | fail))
          | refine gS ?_ | exact s_m | intro _)
        exact gM () trivial
    rw [ht2] at hlen ⊢
    clear ht ht2 hoc
    generalize oc.1 = o1 at hlen ⊢
    generalize oc.2 = o2 at hlen ⊢
    repeat (first
      | (refine g_ops ?_; first | refine sO ?_ | refine s_n (fun _ => ?_) | refine s_app (fun _ _ => ?_) | refine s_b0 (fun _ => ?_) | ((fail_if_success refine g_lit rfl rfl rfl ?_); first | apply g_partM rfl rfl rfl | apply g_partMB rfl rfl rfl | fail))
      | refine gS ?_ | exact s_m | intro _)
    refine g_loop (X := TxX) (fun x => [(1, ptr b), (4, .string (txt [o2])), (5, .string (txt x.bs)), (6, int x.i)]) (fun x => [.row b [int k, .bool y, int n, .string s, .slice kp ks.length kc, .slice p l.length c] 25, Pile H])
      (fun x => x.i ≤ l.length ∧ o1 :: (textK P true ks l ++ [o2]) = x.bs ++ (textK P (decide (x.i = 0)) (ks.drop x.i) (l.drop x.i) ++ [o2])) (fun x => l.length - x.i) ⟨0, [o1]⟩ ⟨Nat.zero_le _, by simp⟩ (by (repeat (first | exact FrSub.nil | refine FrSub.cons rfl ?_)); first | done | fail) (by (repeat (first | exact Take.nil | apply Take.cons | exact Sel.here | apply Sel.there)); first | done | fail) (fun x hx => ?_)
    obtain ⟨i, bs⟩ := x
    obtain ⟨hi, he⟩ := hx
    dsimp only at hi he ⊢
    have hlen1 := congrArg List.length he
    rw [@List.length_append _ bs] at hlen1
    repeat (first
      | (refine g_ops ?_; first | refine sO ?_ | refine s_n (fun _ => ?_) | refine s_app (fun _ _ => ?_) | refine s_b0 (fun _ => ?_) | ((fail_if_success refine g_lit rfl rfl rfl ?_); first | apply g_partM rfl rfl rfl | apply g_partMB rfl rfl rfl | fail))
      | refine gS ?_ | exact s_m | intro _)
    refine g_cond_dec rfl (fun h7 => ?_) (fun h7 => ?_)
    · have hi' : i < l.length := by omega
      have hgl : l[i]? = some l[i] := List.getElem?_eq_getElem hi'
      have hgu : us[i]? = some (us[i]'(by omega)) := List.getElem?_eq_getElem _
      have hmem : l[i] ∈ l := List.getElem_mem _
      have hat := h i _ _ hgl hgu
      have hsx := szK_mem hmem
      obtain ⟨b2, o, rfl, hrow⟩ := slAt_elem hS Vc.len (by decide) hgu
      rw [List.drop_eq_getElem_cons hi', textK_cons, List.tail_drop] at he hlen1
      generalize l[i] = x at hat hmem he hsx hlen1
      generalize us[i]'_ = u' at hat hrow
      have hc := ih x hmem u' hat (hkk x hmem) (hsk x hmem) (hokk x hmem) (by omega)
      have hxlen := textL_len x (hokk x hmem)
      clear h hgl hgu ih
      simp only [List.length_append, List.length_singleton] at hlen1
      repeat (first
        | (refine g_ops ?_; first | refine sO ?_ | refine s_n (fun _ => ?_) | refine s_app (fun _ _ => ?_) | refine s_b0 (fun _ => ?_) | ((fail_if_success refine g_lit rfl rfl rfl ?_); first | apply g_partM rfl rfl rfl | apply g_partMB rfl rfl rfl | fail))
        | refine gS ?_ | exact s_m | intro _)
      refine g_cutX (X := TxX) (fun z => [(1, ptr b), (4, .string (txt [o2])), (5, .string (txt z.bs)), (6, int i)]) (fun _ => [.row b [int k, .bool y, int n, .string s, .slice kp ks.length kc, .slice (some ⟨b2, o, none⟩) l.length c] 25, Pile H]) (fun z => z.bs = bs ++ (if decide (i = 0) = true then [] else [44])) ?_ (fun z hz => ?_)
      · by_cases h5 : i = 0
        · subst h5
          refine g_as 37 (v' := .bool false) rfl rfl ?_
          repeat (first
            | (refine g_ops ?_; first | refine sO ?_ | refine s_n (fun _ => ?_) | refine s_app (fun _ _ => ?_) | refine s_b0 (fun _ => ?_) | ((fail_if_success refine g_lit rfl rfl rfl ?_); first | apply g_partM rfl rfl rfl | apply g_partMB rfl rfl rfl | fail))
            | refine gS ?_ | exact s_m | intro _)
          exact gM ⟨0, bs⟩ (by simp)
        · refine g_as 37 (v' := .bool true) rfl (congrArg Value.bool (decide_eq_true (by omega))) ?_
          repeat (first
            | (refine g_ops ?_; first | refine sO ?_ | refine s_n (fun _ => ?_) | refine s_app (fun _ _ => ?_) | refine s_b0 (fun _ => ?_) | ((fail_if_success refine g_lit rfl rfl rfl ?_); first | apply g_partM rfl rfl rfl | apply g_partMB rfl rfl rfl | fail))
            | refine gS ?_ | exact s_m | intro _)
          refine s_q (q := by exact qs_addT bs [44] rfl rfl (by simp only [List.length_singleton]; omega)) ?_
          repeat (first
            | (refine g_ops ?_; first | refine sO ?_ | refine s_n (fun _ => ?_) | refine s_app (fun _ _ => ?_) | refine s_b0 (fun _ => ?_) | ((fail_if_success refine g_lit rfl rfl rfl ?_); first | apply g_partM rfl rfl rfl | apply g_partMB rfl rfl rfl | fail))
            | refine gS ?_ | exact s_m | intro _)
          exact gM ⟨0, bs ++ [44]⟩ (by dsimp only; rw [if_neg (by simp; omega)])
      obtain ⟨_, bs1⟩ := z
      dsimp only at hz ⊢
      rw [← List.append_assoc, ← List.append_assoc, ← hz] at he
      have hbl1 : bs1.length ≤ bs.length + 1 := by
        rw [hz, List.length_append]
        split <;> simp
      clear hz
      repeat (first
        | (refine g_ops ?_; first | refine sO ?_ | refine s_n (fun _ => ?_) | refine s_app (fun _ _ => ?_) | refine s_b0 (fun _ => ?_) | ((fail_if_success refine g_lit rfl rfl rfl ?_); first | apply g_partM rfl rfl rfl | apply g_partMB rfl rfl rfl | fail))
        | refine gS ?_ | exact s_m | intro _)
      refine g_cutX (X := TxX) (fun z => [(1, ptr b), (4, .string (txt [o2])), (5, .string (txt z.bs)), (6, int i)]) (fun _ => [.row b [int k, .bool y, int n, .string s, .slice kp ks.length kc, .slice (some ⟨b2, o, none⟩) l.length c] 25, Pile H]) (fun z => z.bs = bs1 ++ (if P = true then quoteL ((ks.drop i).headD ByteArray.empty) ++ [58] else [])) ?_ (fun z hz => ?_)
      · by_cases k6 : k = 6
        · subst k6
          obtain rfl : P = true := hP
          have hkl2 := h6 rfl
          have hki : i < ks.length := by omega
          have hgk : (ks.map Value.string)[i]? = some (.string ks[i]) := by simp [hki]
          obtain ⟨b3, o3, rfl, hr0⟩ := slAt_cell hkS hgk
          have hkz : ks[i].size ≤ szS ks := szS_mem (List.getElem_mem hki)
          rw [List.drop_eq_getElem_cons hki, List.headD_cons] at hlen1 ⊢
          generalize ks[i] = kk at hr0 hkz hlen1 ⊢
          have hr : ∀ k', k' = o3 + i → Reads (Pile H) ⟨b3, k', none⟩ (.string kk) := fun _ e => e ▸ hr0
          have hqd := quote1d H kk (by omega)
          have hql := quoteL_len kk
          refine g_as 42 (v' := .bool true) rfl rfl ?_
          repeat (first
            | (refine g_ops ?_; first | refine sO ?_ | refine s_n (fun _ => ?_) | refine s_app (fun _ _ => ?_) | refine s_b0 (fun _ => ?_) | ((fail_if_success refine g_lit rfl rfl rfl ?_); first | apply g_partM rfl rfl rfl | apply g_partMB rfl rfl rfl | fail) | refine s_k (hqd) ?_)
            | refine gS ?_ | exact s_m | intro _)
          refine s_q (q := by exact qs_addT bs1 (quoteL kk) rfl rfl (by omega)) ?_
          refine s_q (q := by exact qs_addT (bs1 ++ quoteL kk) [58] rfl rfl (by simp only [List.length_append, List.length_singleton]; omega)) ?_
          repeat (first
            | (refine g_ops ?_; first | refine sO ?_ | refine s_n (fun _ => ?_) | refine s_app (fun _ _ => ?_) | refine s_b0 (fun _ => ?_) | ((fail_if_success refine g_lit rfl rfl rfl ?_); first | apply g_partM rfl rfl rfl | apply g_partMB rfl rfl rfl | fail))
            | refine gS ?_ | exact s_m | intro _)
          exact gM ⟨0, bs1 ++ quoteL kk ++ [58]⟩ (by dsimp only; rw [if_pos rfl, List.append_assoc])
        · obtain rfl : P = false := by rw [hP]; exact decide_eq_false k6
          refine g_as 42 (v' := .bool false) rfl (congrArg Value.bool (decide_eq_false k6)) ?_
          repeat (first
            | (refine g_ops ?_; first | refine sO ?_ | refine s_n (fun _ => ?_) | refine s_app (fun _ _ => ?_) | refine s_b0 (fun _ => ?_) | ((fail_if_success refine g_lit rfl rfl rfl ?_); first | apply g_partM rfl rfl rfl | apply g_partMB rfl rfl rfl | fail))
            | refine gS ?_ | exact s_m | intro _)
          exact gM ⟨0, bs1⟩ (by dsimp only; rw [if_neg Bool.false_ne_true, List.append_nil])
      obtain ⟨_, bs2⟩ := z
      dsimp only at hz ⊢
      rw [← List.append_assoc, ← List.append_assoc, ← hz] at he
      have hbl2 := congrArg List.length he
      simp only [List.length_append, List.length_singleton] at hbl2
      have hbl3 := congrArg List.length hz
      rw [List.length_append] at hbl3
      repeat (first
        | (refine g_ops ?_; first | refine sO ?_ | refine s_n (fun _ => ?_) | refine s_app (fun _ _ => ?_) | refine s_b0 (fun _ => ?_) | ((fail_if_success refine g_lit rfl rfl rfl ?_); first | apply g_partM rfl rfl rfl | apply g_partMB rfl rfl rfl | fail) | refine s_k (hc) ?_)
        | refine gS ?_ | exact s_m | intro _)
      refine s_q (q := by exact qs_addT bs2 (textL x) rfl rfl (by omega)) ?_
      repeat (first
        | (refine g_ops ?_; first | refine sO ?_ | refine s_n (fun _ => ?_) | refine s_app (fun _ _ => ?_) | refine s_b0 (fun _ => ?_) | ((fail_if_success refine g_lit rfl rfl rfl ?_); first | apply g_partM rfl rfl rfl | apply g_partMB rfl rfl rfl | fail))
        | refine gS ?_ | exact s_m | intro _)
      refine g_as 6 (v' := int ((i + 1 : Nat) : Int)) rfl (congrArg (Value.int .i64) (by push_cast; rfl)) ?_
      exact gA ⟨i + 1, bs2 ++ textL x⟩ (by simp only; omega) ⟨hi', by dsimp only; rw [he, decide_eq_false (by omega)]; simp only [List.append_assoc]⟩
    · obtain rfl : i = l.length := by omega
      rw [List.drop_length, textK_nil, List.nil_append] at he
      repeat (first
        | (refine g_ops ?_; first | refine sO ?_ | refine s_n (fun _ => ?_) | refine s_app (fun _ _ => ?_) | refine s_b0 (fun _ => ?_) | ((fail_if_success refine g_lit rfl rfl rfl ?_); first | apply g_partM rfl rfl rfl | apply g_partMB rfl rfl rfl | fail))
        | refine gS ?_ | exact s_m | intro _)
      refine s_q (q := by exact qs_addT bs [o2] rfl rfl (by simp only [List.length_singleton]; omega)) ?_
      repeat (first
        | (refine g_ops ?_; first | refine sO ?_ | refine s_n (fun _ => ?_) | refine s_app (fun _ _ => ?_) | refine s_b0 (fun _ => ?_) | ((fail_if_success refine g_lit rfl rfl rfl ?_); first | apply g_partM rfl rfl rfl | apply g_partMB rfl rfl rfl | fail))
        | refine gS ?_ | exact s_m | intro _)
      exact s_r () (hp := by simp only [pack]; rw [he])
end Go.Proofs.YtaahibcibgljbaaDoor
namespace Go.Proofs.YtaahibcibgljbaaDoor
open Go.Sl facts
attribute [local irreducible] Code.wp wpList Exit.then Exit.inBlock bodyPost Back MidQ G GP QStep VStep CStep SStep Does Post Reads
attribute [local irreducible] weigh weighL textL textK szV szK szS quoteL decI
theorem write1d (H : HP) (v : V) (u : Vc) (hu : VAt (Pile H) v u) (hs : SmV v) (hz : szV v ≤ 100000000) : Does1 Tryd.prog 16 [.agg u.cells.toArray] [Pile H] (.string (textB v)) := by
  have hc := check1d H v u hu hs hz
  have ht := fun hk => text1d H v u hu hk hs (VAt.ok hu) hz
  have hk := kok v hs 0 0
  obtain ⟨k, y, n, s, kp, kn, kc, p, m, c⟩ := u
  dsimp only [Vc.cells] at hc ht ⊢
  refine fn_intro Tryd.func16 rfl Tryd.ntmps16 rfl (by simp only [argFr, Nat.zero_add, Nat.reduceAdd]; rfl) (fun Γ => ?_)
  repeat (first
    | (refine g_ops ?_; first | refine sO ?_ | refine s_n (fun _ => ?_) | refine s_app (fun _ _ => ?_) | refine s_b0 (fun _ => ?_) | ((fail_if_success refine g_lit rfl rfl rfl ?_); first | apply g_partM rfl rfl rfl | apply g_partMB rfl rfl rfl | fail) | refine s_k (hc) ?_)
    | refine gS ?_ | exact s_m | intro _)
  by_cases h0 : (weigh v 0 0).1 = 0
  · refine g_as 5 (v' := .bool false) rfl (congrArg Value.bool (decide_eq_false (by simpa using h0))) ?_
    have e : textB v = txt (textL v) := if_pos h0
    have ht := ht (hk h0)
    repeat (first
      | (refine g_ops ?_; first | refine sO ?_ | refine s_n (fun _ => ?_) | refine s_app (fun _ _ => ?_) | refine s_b0 (fun _ => ?_) | ((fail_if_success refine g_lit rfl rfl rfl ?_); first | apply g_partM rfl rfl rfl | apply g_partMB rfl rfl rfl | fail) | refine s_k (ht) ?_)
      | refine gS ?_ | exact s_m | intro _)
    exact s_r () (hp := by rw [e]; rfl)
  · refine g_as 5 (v' := .bool true) rfl (congrArg Value.bool (decide_eq_true (by simpa using h0))) ?_
    have e : textB v = ByteArray.empty := if_neg h0
    repeat (first
      | (refine g_ops ?_; first | refine sO ?_ | refine s_n (fun _ => ?_) | refine s_app (fun _ _ => ?_) | refine s_b0 (fun _ => ?_) | ((fail_if_success refine g_lit rfl rfl rfl ?_); first | apply g_partM rfl rfl rfl | apply g_partMB rfl rfl rfl | fail))
      | refine gS ?_ | exact s_m | intro _)
    exact s_r () (hp := by rw [e]; rfl)
end Go.Proofs.YtaahibcibgljbaaDoor
