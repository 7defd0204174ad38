/- Contracts: the document's runes of a text: All; Valid, Key, Quote. -/
import Derived.Test.YtpilcncdgjnbeaaDoorValO
set_option linter.unusedSimpArgs false
set_option linter.unusedVariables false
namespace Go.Proofs.YtpilcncdgjnbeaaDoor
open Go.Sl
/-! ### Where runes begin -/
def posF (s : ByteArray) : Nat → Nat → List Nat
  | 0, _ => []
  | f + 1, k => if k < s.size then k :: posF s f (k + (Utf8.decode s k).2) else []
theorem posF_end (s : ByteArray) (f k : Nat) (h : ¬ k < s.size) : posF s f k = [] := by cases f <;> simp [posF, h]
theorem posF_go (s : ByteArray) (f k : Nat) (h : k < s.size) : posF s (f + 1) k = k :: posF s f (k + (Utf8.decode s k).2) := by simp [posF, h]
theorem rnsF_pos (s : ByteArray) : ∀ f k, rnsF s f k = (posF s f k).map fun k => (Utf8.decode s k).1
  | 0, k => rfl
  | f + 1, k => by
    by_cases h : k < s.size
    · rw [rnsF_go s f k h, posF_go s f k h, List.map_cons, rnsF_pos s f]
    · rw [rnsF_end s _ k h, posF_end s _ k h]; rfl
theorem qF_pos (s : ByteArray) : ∀ f k, qF s f k = (posF s f k).flatMap (qR s)
  | 0, k => rfl
  | f + 1, k => by
    by_cases h : k < s.size
    · rw [qF_go s f k h, posF_go s f k h, List.flatMap_cons, qF_pos s f]
    · rw [qF_end s _ k h, posF_end s _ k h]; rfl
theorem valid_pos (s : ByteArray) : ∀ f k, s.size ≤ k + f → Lib.validD (s.data.toList.drop k) = (posF s f k).all fun k => !wrongB s k := by
  have h2 : s.data.toList.length = s.size := by simp
  have hend : ∀ k, ¬ k < s.size → Lib.validD (s.data.toList.drop k) = true := fun k h => by
    rw [List.drop_eq_nil_of_le (by rw [h2]; omega)]; rfl
  intro f
  induction f with
  | zero => intro k h; rw [hend k (by omega)]; rfl
  | succ f ih =>
    intro k h
    by_cases hk : k < s.size
    · have hw := Lib.decode_width_pos s k hk
      have hne : s.data.toList.drop k ≠ [] := fun e => by have := congrArg List.length e; rw [List.length_drop, h2] at this; simp at this; omega
      rw [Lib.validD_step _ hne, Lib.decodeL_drop, posF_go s f k hk, List.all_cons, ← ih _ (by omega), List.drop_drop]
      by_cases hb : (Utf8.decode s k).1 = 65533 ∧ (Utf8.decode s k).2 = 1
      · rw [if_pos hb, show wrongB s k = true from decide_eq_true hb]; rfl
      · rw [if_neg hb, show wrongB s k = false from decide_eq_false hb]; rfl
    · rw [hend k hk, posF_end s _ k hk]; rfl
def pos (s : ByteArray) : List Nat := posF s s.size 0
theorem validB_pos (s : ByteArray) : validB s = (pos s).all fun k => !wrongB s k := by
  have := valid_pos s s.size 0 (by omega)
  rwa [List.drop_zero] at this
theorem rns_pos (s : ByteArray) : rns s = (pos s).map fun k => (Utf8.decode s k).1 := rnsF_pos s s.size 0
theorem keyB_pos (s : ByteArray) : keyB s = (decide ((pos s).length ≤ 40) && (pos s).all fun k => !(wrongB s k || ctlB (Utf8.decode s k).1)) := by
  unfold keyB everyB
  rw [validB_pos, rns_pos, List.length_map, List.all_map, Bool.and_assoc]
  congr 1
  induction pos s with
  | nil => rfl
  | cons k l ih =>
    simp only [List.all_cons, Function.comp_apply] at ih ⊢
    rw [← ih]
    cases ctlB (Utf8.decode s k).1 <;> cases wrongB s k <;> simp
/-- A rune of a text, as the document's reading has it. -/
structure Rn where
  r : Nat
  a : Nat
  e : Nat
  no : Bool
def Rn.cells (x : Rn) : List Value := [.int .i32 (x.r : Int), .int .i64 (x.a : Int), .int .i64 (x.e : Int), .bool x.no]
theorem Rn.len (x : Rn) : x.cells.length = 4 := rfl
def rn0 (s : ByteArray) (k : Nat) : Rn := ⟨(Utf8.decode s k).1, k, k + (Utf8.decode s k).2, false⟩
def rn1 (s : ByteArray) (k : Nat) : Rn := ⟨(Utf8.decode s k).1, k, k + (Utf8.decode s k).2, wrongB s k⟩
/-- So far: each ends where the next begins, the last with the text. -/
def openL (s : ByteArray) : List Nat → List Rn
  | [] => []
  | [p] => [⟨(Utf8.decode s p).1, p, s.size, false⟩]
  | p :: q :: l => ⟨(Utf8.decode s p).1, p, q, false⟩ :: openL s (q :: l)
theorem openL_snoc (s : ByteArray) (p : Nat) : ∀ ps : List Nat, ∃ A : List Rn, A.length = ps.length ∧ openL s (ps ++ [p]) = A ++ [⟨(Utf8.decode s p).1, p, s.size, false⟩] ∧ ∀ k, openL s (ps ++ [p] ++ [k]) = A ++ [⟨(Utf8.decode s p).1, p, k, false⟩, ⟨(Utf8.decode s k).1, k, s.size, false⟩]
  | [] => ⟨[], rfl, rfl, fun _ => rfl⟩
  | [q] => ⟨[⟨(Utf8.decode s q).1, q, p, false⟩], rfl, rfl, fun _ => rfl⟩
  | q :: r :: l => by
    obtain ⟨A, h0, h1, h2⟩ := openL_snoc s p (r :: l)
    refine ⟨⟨(Utf8.decode s q).1, q, r, false⟩ :: A, by simp at h0 ⊢; omega, ?_, fun k => ?_⟩
    · show _ :: openL s (r :: l ++ [p]) = _
      rw [h1]; rfl
    · show _ :: openL s (r :: l ++ [p] ++ [k]) = _
      rw [h2]; rfl
theorem openL_len (s : ByteArray) : ∀ ps : List Nat, (openL s ps).length = ps.length
  | [] => rfl
  | [p] => rfl
  | p :: q :: l => by show (openL s (q :: l)).length + 1 = _; rw [openL_len s (q :: l)]; rfl
theorem openL_pos (s : ByteArray) : ∀ f k, s.size ≤ k + f → openL s (posF s f k) = (posF s f k).map (rn0 s)
  | 0, k, _ => rfl
  | f + 1, k, h => by
    by_cases hk : k < s.size
    · have hw := Lib.decode_width_pos s k hk
      have hin := decode_in s k hk
      rw [posF_go s f k hk]
      have ih := openL_pos s f (k + (Utf8.decode s k).2) (by omega)
      by_cases h2 : k + (Utf8.decode s k).2 < s.size
      · obtain ⟨f, rfl⟩ : ∃ f', f = f' + 1 := ⟨f - 1, by omega⟩
        rw [posF_go s f _ h2] at ih ⊢
        show _ :: openL s (_ :: _) = _
        rw [ih]; rfl
      · rw [posF_end s f _ h2]
        have e : k + (Utf8.decode s k).2 = s.size := by omega
        simp only [openL, List.map_cons, List.map_nil, rn0, e]
    · rw [posF_end s _ k hk]; rfl
theorem posF_mem (s : ByteArray) : ∀ f k p, p ∈ posF s f k → p < s.size
  | f + 1, k, p, h => by
    by_cases hk : k < s.size
    · rw [posF_go s f k hk] at h
      rcases List.mem_cons.1 h with rfl | h
      · exact hk
      · exact posF_mem s f _ p h
    · rw [posF_end s _ k hk] at h; cases h
theorem posF_len (s : ByteArray) : ∀ f k, k ≤ s.size → (posF s f k).length ≤ s.size - k
  | 0, k, h => by simp [posF]
  | f + 1, k, h => by
    by_cases hk : k < s.size
    · have hw := Lib.decode_width_pos s k hk
      have hin := decode_in s k hk
      have := posF_len s f _ hin
      rw [posF_go s f k hk, List.length_cons]; omega
    · rw [posF_end s _ k hk]; simp
theorem pos_len (s : ByteArray) : (pos s).length ≤ s.size := by have := posF_len s s.size 0 (Nat.zero_le _); unfold pos; omega
theorem pos_mem {s : ByteArray} {p : Nat} (h : p ∈ pos s) : p < s.size := posF_mem s _ _ p h
/-- The first so many have been looked at. -/
def halfL (s : ByteArray) (i : Nat) : List Rn := ((pos s).take i).map (rn1 s) ++ ((pos s).drop i).map (rn0 s)
theorem halfL_len (s : ByteArray) (i : Nat) : (halfL s i).length = (pos s).length := by unfold halfL; simp; omega
theorem halfL_zero (s : ByteArray) : halfL s 0 = openL s (pos s) := by unfold halfL pos; rw [openL_pos s _ _ (by omega)]; simp
theorem halfL_end (s : ByteArray) : halfL s (pos s).length = (pos s).map (rn1 s) := by unfold halfL; simp
theorem flat_set {A B : List Rn} {x : Rn} (b : Bool) : ((A ++ x :: B).flatMap Rn.cells).set (A.length * 4 + 3) (.bool b) = (A ++ { x with no := b } :: B).flatMap Rn.cells := by
  rw [List.flatMap_append, List.flatMap_append, List.set_append_right _ _ (by rw [flat_len Rn.len]; omega), flat_len Rn.len, show A.length * 4 + 3 - A.length * 4 = 3 by omega]
  rfl
theorem flat_setE {A B : List Rn} {x : Rn} (k : Nat) : ((A ++ x :: B).flatMap Rn.cells).set (A.length * 4 + 2) (.int .i64 (k : Int)) = (A ++ { x with e := k } :: B).flatMap Rn.cells := by
  rw [List.flatMap_append, List.flatMap_append, List.set_append_right _ _ (by rw [flat_len Rn.len]; omega), flat_len Rn.len, show A.length * 4 + 2 - A.length * 4 = 2 by omega]
  rfl
theorem halfL_step (s : ByteArray) (i : Nat) (h : i < (pos s).length) : ((halfL s i).flatMap Rn.cells).set (i * 4 + 3) (.bool (wrongB s (pos s)[i])) = (halfL s (i + 1)).flatMap Rn.cells := by
  have e1 : halfL s i = ((pos s).take i).map (rn1 s) ++ rn0 s (pos s)[i] :: ((pos s).drop (i + 1)).map (rn0 s) := by
    unfold halfL; rw [List.drop_eq_getElem_cons h, List.map_cons]
  have e2 : halfL s (i + 1) = ((pos s).take i).map (rn1 s) ++ rn1 s (pos s)[i] :: ((pos s).drop (i + 1)).map (rn0 s) := by
    unfold halfL; rw [List.take_succ_eq_append_getElem h, List.map_append, List.append_assoc]; rfl
  have e3 : i = (((pos s).take i).map (rn1 s)).length := by simp; omega
  have := flat_set (A := ((pos s).take i).map (rn1 s)) (B := ((pos s).drop (i + 1)).map (rn0 s)) (x := rn0 s (pos s)[i]) (wrongB s (pos s)[i])
  rw [← e3, ← e1] at this
  rw [this, e2]; rfl
theorem halfL_at (s : ByteArray) (i : Nat) (h : i < (pos s).length) : (halfL s i)[i]? = some (rn0 s (pos s)[i]) := by
  unfold halfL
  rw [List.getElem?_append_right (by simp; omega), List.drop_eq_getElem_cons h]
  simp only [List.map_cons, List.length_map, List.length_take, Nat.min_eq_left (Nat.le_of_lt h), Nat.sub_self, List.getElem?_cons_zero]
end Go.Proofs.YtpilcncdgjnbeaaDoor
namespace Go.Proofs.YtpilcncdgjnbeaaDoor
open Go.Sl facts
attribute [local irreducible] Code.wp wpList Exit.then Exit.inBlock bodyPost Back MidQ G GP QStep VStep CStep SStep Does Post Reads
attribute [local irreducible] wrongB
structure AlX where
  k : Nat
  f : Nat
  ps : List Nat
  q : Option Addr
  c : Nat
structure AmX where
  i : Nat
set_option maxHeartbeats 4000000 in
theorem all_ (H : HP) (s : ByteArray) (hs : s.size ≤ 1000000000) : Does Tryd.prog 78 [.string s] [Pile H] (X := HP × Option Addr × Nat) (fun y => .slice y.2.1 (pos s).length y.2.2) (fun y => [Pile y.1]) (fun y => HP.sub H y.1 ∧ SlAt (Pile y.1) 4 y.2.1 (pos s).length (((pos s).map (rn1 s)).flatMap Rn.cells)) := by
  have hpl := pos_len s
  refine fn_intro Tryd.func78 rfl Tryd.ntmps78 rfl (by simp only [argFr, Nat.zero_add, Nat.reduceAdd]; rfl) (fun Γ => ?_)
  repeat (first
    | (refine g_ops ?_; first | refine s_q ?_ | refine s_v ?_ | refine s_s ?_ | refine s_n (fun _ => ?_) | refine s_x ?_ | refine s_y ?_ | refine s_mq ?_ | refine s_app (fun _ _ => ?_) | refine s_mv ?_ | refine s_ms ?_ | refine s_b0 (fun _ => ?_) | ((fail_if_success refine g_lit rfl rfl rfl ?_); first | apply g_partM rfl rfl rfl | apply g_partMB rfl rfl rfl | fail))
    | refine g_seq ?_ | refine g_region ?_ | refine g_nil ?_ | refine g_then_normal ?_ | refine g_block ?_ | refine g_in_normal ?_ | refine g_retc ?_ | refine g_then_ret ?_
    | refine g_in_ret ?_ | refine g_exit ?_ | refine g_then_exit ?_ | refine g_in_exit ?_ | refine g_in_other rfl ?_ | refine g_skip ?_ | refine g_label ?_
    | refine g_cond_true rfl ?_ | refine g_cond_false rfl ?_ | exact s_m | intro _)
  refine g_n (cs_range inferInstance rfl) rfl rfl (fun it => ?_)
  repeat (first
    | (refine g_ops ?_; first | refine s_q ?_ | refine s_v ?_ | refine s_s ?_ | refine s_n (fun _ => ?_) | refine s_x ?_ | refine s_y ?_ | refine s_mq ?_ | refine s_app (fun _ _ => ?_) | refine s_mv ?_ | refine s_ms ?_ | refine s_b0 (fun _ => ?_) | ((fail_if_success refine g_lit rfl rfl rfl ?_); first | apply g_partM rfl rfl rfl | apply g_partMB rfl rfl rfl | fail))
    | refine g_seq ?_ | refine g_region ?_ | refine g_nil ?_ | refine g_then_normal ?_ | refine g_block ?_ | refine g_in_normal ?_ | refine g_retc ?_ | refine g_then_ret ?_
    | refine g_in_ret ?_ | refine g_exit ?_ | refine g_then_exit ?_ | refine g_in_exit ?_ | refine g_in_other rfl ?_ | refine g_skip ?_ | refine g_label ?_
    | refine g_cond_true rfl ?_ | refine g_cond_false rfl ?_ | exact s_m | intro _)
  refine g_own_nil none 4 112 ?_
  refine g_loop (X := AlX) (fun x => [(0, .string s), (3, .slice x.q (openL s x.ps).length x.c), (8, .pointer (some ⟨it, 0, none⟩))])
    (fun x => [.own x.q (openL s x.ps).length x.c 4 ((openL s x.ps).flatMap Rn.cells) 112, .pt it (.stringIter s x.k), Pile H])
    (fun x => s.size ≤ x.k + x.f ∧ x.k ≤ s.size ∧ x.ps.length ≤ x.k ∧ pos s = x.ps ++ posF s x.f x.k) (fun x => x.f) ⟨0, s.size, [], none, 0⟩ ⟨by dsimp only; omega, Nat.zero_le _, by simp, rfl⟩ (by (repeat (first | exact FrSub.nil | refine FrSub.cons rfl ?_)); first | done | fail) (by (repeat (first | exact Take.nil | apply Take.cons | exact Sel.here | apply Sel.there)); first | done | fail) (fun x hx => ?_)
  obtain ⟨k, f, ps, q, c⟩ := x
  obtain ⟨hf, hk, hlen, he⟩ := hx
  dsimp only at hf hk hlen he ⊢
  repeat (first
    | (refine g_ops ?_; first | refine s_q ?_ | refine s_v ?_ | refine s_s ?_ | refine s_n (fun _ => ?_) | refine s_x ?_ | refine s_y ?_ | refine s_mq ?_ | refine s_app (fun _ _ => ?_) | refine s_mv ?_ | refine s_ms ?_ | refine s_b0 (fun _ => ?_) | ((fail_if_success refine g_lit rfl rfl rfl ?_); first | apply g_partM rfl rfl rfl | apply g_partMB rfl rfl rfl | fail))
    | refine g_seq ?_ | refine g_region ?_ | refine g_nil ?_ | refine g_then_normal ?_ | refine g_block ?_ | refine g_in_normal ?_ | refine g_retc ?_ | refine g_then_ret ?_
    | refine g_in_ret ?_ | refine g_exit ?_ | refine g_then_exit ?_ | refine g_in_exit ?_ | refine g_in_other rfl ?_ | refine g_skip ?_ | refine g_label ?_
    | refine g_cond_true rfl ?_ | refine g_cond_false rfl ?_ | exact s_m | intro _)
  by_cases hlt : k < s.size
  · obtain ⟨f, rfl⟩ : ∃ f', f = f' + 1 := ⟨f - 1, by omega⟩
    have hw := Lib.decode_width_pos s k hlt
    have hin := decode_in s k hlt
    rw [posF_go s f k hlt] at he
    refine g_c (cs_next rfl (by (repeat (first | exact Sel.here | apply Sel.there)); first | done | fail) hlt) rfl rfl (fun _ _ => ?_)
    refine g_own (n := 4) (xs := (openL s ps).flatMap Rn.cells) (by (repeat (first | exact Sel.here | apply Sel.there)); first | done | fail) (fun hol hoc hop => ?_)
    have hinv : s.size ≤ k + (Utf8.decode s k).2 + f ∧ k + (Utf8.decode s k).2 ≤ s.size ∧ (ps ++ [k]).length ≤ k + (Utf8.decode s k).2 ∧ pos s = (ps ++ [k]) ++ posF s f (k + (Utf8.decode s k).2) := ⟨by omega, hin, by rw [List.length_append, List.length_singleton]; omega, by rw [he, List.append_assoc]; rfl⟩
    rcases List.eq_nil_or_concat ps with rfl | ⟨ps', p, rfl⟩
    · dsimp only [openL, List.length_nil, List.flatMap_nil] at hop ⊢
      repeat (first
        | (refine g_ops ?_; first | refine s_q ?_ | refine s_v ?_ | refine s_s ?_ | refine s_n (fun _ => ?_) | refine s_x ?_ | refine s_y ?_ | refine s_mq ?_ | refine s_app (fun _ _ => ?_) | refine s_mv ?_ | refine s_ms ?_ | refine s_b0 (fun _ => ?_) | ((fail_if_success refine g_lit rfl rfl rfl ?_); first | apply g_partM rfl rfl rfl | apply g_partMB rfl rfl rfl | fail))
        | refine g_seq ?_ | refine g_region ?_ | refine g_nil ?_ | refine g_then_normal ?_ | refine g_block ?_ | refine g_in_normal ?_ | refine g_retc ?_
        | refine g_then_ret ?_ | refine g_in_ret ?_ | refine g_exit ?_ | refine g_then_exit ?_ | refine g_in_exit ?_ | refine g_in_other rfl ?_ | refine g_skip ?_
        | refine g_label ?_ | refine g_cond_true rfl ?_ | refine g_cond_false rfl ?_ | exact s_m | intro _)
      rename_i q' c'
      exact g_again ⟨k + (Utf8.decode s k).2, f, [k], q', c'⟩ (by simp only; omega) hinv (by (repeat (first | exact FrSub.nil | refine FrSub.cons rfl ?_)); first | done | fail) (by (repeat (first | exact Take.nil | apply Take.cons | exact Sel.here | apply Sel.there)); first | done | fail)
    · rw [List.concat_eq_append] at hinv hop hol hoc ⊢
      obtain ⟨A, hA, e1, e2⟩ := openL_snoc s p ps'
      have hAb : A.length + 1 ≤ 1000000000 := by
        have := hlen
        simp only [List.length_concat] at this
        omega
      rw [e1] at hop hol hoc ⊢
      obtain ⟨b, rfl⟩ := hop (by simp)
      have hAl : (A ++ [(⟨(Utf8.decode s p).1, p, s.size, false⟩ : Rn)]).length = A.length + 1 := by simp
      simp only [hAl] at hop hol hoc ⊢
      repeat (first
        | (refine g_ops ?_; first | refine s_q ?_ | refine s_v ?_ | refine s_s ?_ | refine s_n (fun _ => ?_) | refine s_x ?_ | refine s_y ?_ | refine s_mq ?_ | refine s_app (fun _ _ => ?_) | refine s_mv ?_ | refine s_ms ?_ | refine s_b0 (fun _ => ?_) | ((fail_if_success refine g_lit rfl rfl rfl ?_); first | apply g_partM rfl rfl rfl | apply g_partMB rfl rfl rfl | fail))
        | refine g_seq ?_ | refine g_region ?_ | refine g_nil ?_ | refine g_then_normal ?_ | refine g_block ?_ | refine g_in_normal ?_ | refine g_retc ?_
        | refine g_then_ret ?_ | refine g_in_ret ?_ | refine g_exit ?_ | refine g_then_exit ?_ | refine g_in_exit ?_ | refine g_in_other rfl ?_ | refine g_skip ?_
        | refine g_label ?_ | refine g_cond_true rfl ?_ | refine g_cond_false rfl ?_ | exact s_m | intro _)
      refine g_as 15 (v' := .bool true) rfl (congrArg Value.bool (decide_eq_true (by omega))) ?_
      repeat (first
        | (refine g_ops ?_; first | refine s_q ?_ | refine s_v ?_ | refine s_s ?_ | refine s_n (fun _ => ?_) | refine s_x ?_ | refine s_y ?_ | refine s_mq ?_ | refine s_app (fun _ _ => ?_) | refine s_mv ?_ | refine s_ms ?_ | refine s_b0 (fun _ => ?_) | ((fail_if_success refine g_lit rfl rfl rfl ?_); first | apply g_partM rfl rfl rfl | apply g_partMB rfl rfl rfl | fail))
        | refine g_seq ?_ | refine g_region ?_ | refine g_nil ?_ | refine g_then_normal ?_ | refine g_block ?_ | refine g_in_normal ?_ | refine g_retc ?_
        | refine g_then_ret ?_ | refine g_in_ret ?_ | refine g_exit ?_ | refine g_then_exit ?_ | refine g_in_exit ?_ | refine g_in_other rfl ?_ | refine g_skip ?_
        | refine g_label ?_ | refine g_cond_true rfl ?_ | refine g_cond_false rfl ?_ | exact s_m | intro _)
      refine g_as 22 (v' := .pointer (some ⟨b, A.length * 4 + 2, none⟩)) rfl (by congr 4; push_cast; omega) ?_
      refine g_ops ?_
      refine g_s (ss_storeOwn (v := int k) inferInstance rfl rfl rfl (by (repeat (first | exact Sel.here | apply Sel.there)); first | done | fail) (by rw [flat_len Rn.len]; simp; omega)) rfl ?_
      rw [flat_setE]
      repeat (first
        | (refine g_ops ?_; first | refine s_q ?_ | refine s_v ?_ | refine s_s ?_ | refine s_n (fun _ => ?_) | refine s_x ?_ | refine s_y ?_ | refine s_mq ?_ | refine s_app (fun _ _ => ?_) | refine s_mv ?_ | refine s_ms ?_ | refine s_b0 (fun _ => ?_) | ((fail_if_success refine g_lit rfl rfl rfl ?_); first | apply g_partM rfl rfl rfl | apply g_partMB rfl rfl rfl | fail))
        | refine g_seq ?_ | refine g_region ?_ | refine g_nil ?_ | refine g_then_normal ?_ | refine g_block ?_ | refine g_in_normal ?_ | refine g_retc ?_
        | refine g_then_ret ?_ | refine g_in_ret ?_ | refine g_exit ?_ | refine g_then_exit ?_ | refine g_in_exit ?_ | refine g_in_other rfl ?_ | refine g_skip ?_
        | refine g_label ?_ | refine g_cond_true rfl ?_ | refine g_cond_false rfl ?_ | exact s_m | intro _)
      rename_i q' c'
      have e3 : A.length + 1 + 1 = (openL s (ps' ++ [p] ++ [k])).length := by rw [e2]; simp
      have e4 : (A ++ [(⟨(Utf8.decode s p).1, p, k, false⟩ : Rn)]).flatMap Rn.cells ++ [Value.int .i32 ((Utf8.decode s k).1 : Int), .int .i64 (k : Int), .int .i64 (s.size : Int), .bool false] = (openL s (ps' ++ [p] ++ [k])).flatMap Rn.cells := by rw [e2]; simp [Rn.cells]
      dsimp only
      rw [e4, e3]
      exact g_again ⟨k + (Utf8.decode s k).2, f, ps' ++ [p] ++ [k], q', c'⟩ (by simp only; omega) hinv (by (repeat (first | exact FrSub.nil | refine FrSub.cons rfl ?_)); first | done | fail) (by (repeat (first | exact Take.nil | apply Take.cons | exact Sel.here | apply Sel.there)); first | done | fail)
  · rw [posF_end s f k hlt, List.append_nil] at he
    refine g_v (vs_nextEnd rfl (by (repeat (first | exact Sel.here | apply Sel.there)); first | done | fail) hlt) rfl rfl ?_
    repeat (first
      | (refine g_ops ?_; first | refine s_q ?_ | refine s_v ?_ | refine s_s ?_ | refine s_n (fun _ => ?_) | refine s_x ?_ | refine s_y ?_ | refine s_mq ?_ | refine s_app (fun _ _ => ?_) | refine s_mv ?_ | refine s_ms ?_ | refine s_b0 (fun _ => ?_) | ((fail_if_success refine g_lit rfl rfl rfl ?_); first | apply g_partM rfl rfl rfl | apply g_partMB rfl rfl rfl | fail))
      | refine g_seq ?_ | refine g_region ?_ | refine g_nil ?_ | refine g_then_normal ?_ | refine g_block ?_ | refine g_in_normal ?_ | refine g_retc ?_
      | refine g_then_ret ?_ | refine g_in_ret ?_ | refine g_exit ?_ | refine g_then_exit ?_ | refine g_in_exit ?_ | refine g_in_other rfl ?_ | refine g_skip ?_
      | refine g_label ?_ | refine g_cond_true rfl ?_ | refine g_cond_false rfl ?_ | exact s_m | intro _)
    have he' : pos s = ps := he
    subst he'
    rw [← halfL_zero, halfL_len]
    refine g_loop (X := AmX) (fun x => [(3, .slice q (pos s).length c), (6, int x.i)]) (fun x => [.own q (pos s).length c 4 ((halfL s x.i).flatMap Rn.cells) 112, Pile H]) (fun x => x.i ≤ (pos s).length) (fun x => (pos s).length - x.i) ⟨0⟩ (Nat.zero_le _) (by (repeat (first | exact FrSub.nil | refine FrSub.cons rfl ?_)); first | done | fail) (by (repeat (first | exact Take.nil | apply Take.cons | exact Sel.here | apply Sel.there)); first | done | fail) (fun x hx => ?_)
    obtain ⟨i⟩ := x
    dsimp only at hx ⊢
    repeat (first
      | (refine g_ops ?_; first | refine s_q ?_ | refine s_v ?_ | refine s_s ?_ | refine s_n (fun _ => ?_) | refine s_x ?_ | refine s_y ?_ | refine s_mq ?_ | refine s_app (fun _ _ => ?_) | refine s_mv ?_ | refine s_ms ?_ | refine s_b0 (fun _ => ?_) | ((fail_if_success refine g_lit rfl rfl rfl ?_); first | apply g_partM rfl rfl rfl | apply g_partMB rfl rfl rfl | fail))
      | refine g_seq ?_ | refine g_region ?_ | refine g_nil ?_ | refine g_then_normal ?_ | refine g_block ?_ | refine g_in_normal ?_ | refine g_retc ?_
      | refine g_then_ret ?_ | refine g_in_ret ?_ | refine g_exit ?_ | refine g_then_exit ?_ | refine g_in_exit ?_ | refine g_in_other rfl ?_ | refine g_skip ?_
      | refine g_label ?_ | refine g_cond_true rfl ?_ | refine g_cond_false rfl ?_ | exact s_m | intro _)
    refine g_cond_dec rfl (fun h2 => ?_) (fun h2 => ?_)
    · have hi' : i < (pos s).length := by omega
      refine g_own (n := 4) (xs := (halfL s i).flatMap Rn.cells) (by (repeat (first | exact Sel.here | apply Sel.there)); first | done | fail) (fun hol hoc hop => ?_)
      obtain ⟨b, rfl⟩ := hop (by omega)
      have hrow0 := own_at (b := b) (len := (pos s).length) (cap := c) (e := 112) Rn.len (halfL_at s i hi')
      have hstep := halfL_step s i hi'
      have hpm := pos_mem (List.getElem_mem hi')
      have hpd := decode_in s _ hpm
      generalize (pos s)[i] = p at hrow0 hstep hpm hpd
      have hcell : ∀ (j : Nat) (v : Value), [Value.int .i32 ((Utf8.decode s p).1 : Int), .int .i64 (p : Int), .int .i64 ((p + (Utf8.decode s p).2 : Nat) : Int), .bool false][j]? = some v → Reads _ _ v := hrow0
      repeat (first
        | (refine g_ops ?_; first | refine s_q ?_ | refine s_v ?_ | refine s_s ?_ | refine s_n (fun _ => ?_) | refine s_x ?_ | refine s_y ?_ | refine s_mq ?_ | refine s_app (fun _ _ => ?_) | refine s_mv ?_ | refine s_ms ?_ | refine s_b0 (fun _ => ?_) | ((fail_if_success refine g_lit rfl rfl rfl ?_); first | apply g_partM rfl rfl rfl | apply g_partMB rfl rfl rfl | fail))
        | refine g_seq ?_ | refine g_region ?_ | refine g_nil ?_ | refine g_then_normal ?_ | refine g_block ?_ | refine g_in_normal ?_ | refine g_retc ?_
        | refine g_then_ret ?_ | refine g_in_ret ?_ | refine g_exit ?_ | refine g_then_exit ?_ | refine g_in_exit ?_ | refine g_in_other rfl ?_ | refine g_skip ?_
        | refine g_label ?_ | refine g_cond_true rfl ?_ | refine g_cond_false rfl ?_ | exact s_m | intro _)
      refine g_drawO (.take 0 (.take 1 (.take 2 (.take 3 (.take 4 (.take 5 (.one 6 (.take 7 (.take 8 (.take 9 (.take 10 (.take 11 (.take 12 (.take 14 (.take 15 (.take 16 (.take 17 (.two 13 (.one 18 (.take 19 (.take 20 (.take 21 (.take 22 (.take 23 (.one 24 .done))))))) 18 (.one 13 (.take 19 (.take 20 (.take 21 (.take 22 (.take 23 (.one 24 .done))))))))))))))))))))))))) (by (repeat (first | exact Sel.here | apply Sel.there)); first | done | fail) (fun m hd hk => ?_)
      repeat (first
        | (refine gp_take ?_; first | refine p_q ?_ | refine p_x ?_ | refine p_mq ?_ | ((fail_if_success refine gp_lit rfl rfl rfl rfl ?_); first | apply gp_guard_dec rfl rfl rfl rfl | apply gp_guard rfl rfl rfl rfl | fail))
        | (refine gp_see ?_; first | refine p_f ?_ | refine p_sx ?_ | ((fail_if_success refine gp_lit rfl rfl rfl rfl ?_); first | apply gp_guard_dec rfl rfl rfl rfl | apply gp_guard rfl rfl rfl rfl | fail) | refine p_sq ?_)
        | (refine gp_one ?_; first | refine p_v ?_ | refine p_s ?_ | refine p_n (fun _ => ?_) | refine p_y ?_ | refine p_app (fun _ _ => ?_) | refine p_mv ?_ | refine p_ms ?_ | refine p_b0 (fun _ => ?_) | ((fail_if_success refine gp_lit rfl rfl rfl rfl ?_); first | apply gp_guard_dec rfl rfl rfl rfl | apply gp_guard rfl rfl rfl rfl | fail))
        | refine gp_two ?_ ?_ | refine gp_done hd hk ?_ | intro _ | refine p_ta hd hk (fun _ _ _ hd hk => ?_) | refine p_ts hd hk (fun _ hd hk => ?_))
      by_cases hd3 : (Utf8.decode s p).1 = 65533
      · refine gp_as 45 (v' := .bool true) rfl (congrArg Value.bool (decide_eq_true (by omega))) ?_
        repeat (first
          | (refine gp_take ?_; first | refine p_q ?_ | refine p_x ?_ | refine p_mq ?_ | ((fail_if_success refine gp_lit rfl rfl rfl rfl ?_); first | apply gp_guard_dec rfl rfl rfl rfl | apply gp_guard rfl rfl rfl rfl | fail))
          | (refine gp_see ?_; first | refine p_f ?_ | refine p_sx ?_ | ((fail_if_success refine gp_lit rfl rfl rfl rfl ?_); first | apply gp_guard_dec rfl rfl rfl rfl | apply gp_guard rfl rfl rfl rfl | fail) | refine p_sq ?_)
          | (refine gp_one ?_; first | refine p_v ?_ | refine p_s ?_ | refine p_n (fun _ => ?_) | refine p_y ?_ | refine p_app (fun _ _ => ?_) | refine p_mv ?_ | refine p_ms ?_ | refine p_b0 (fun _ => ?_) | ((fail_if_success refine gp_lit rfl rfl rfl rfl ?_); first | apply gp_guard_dec rfl rfl rfl rfl | apply gp_guard rfl rfl rfl rfl | fail))
          | refine gp_two ?_ ?_ | refine gp_done hd hk ?_ | intro _ | refine p_ta hd hk (fun _ _ _ hd hk => ?_) | refine p_ts hd hk (fun _ hd hk => ?_))
        · repeat (first
            | (refine gp_take ?_; first | refine p_q ?_ | refine p_x ?_ | refine p_mq ?_ | ((fail_if_success refine gp_lit rfl rfl rfl rfl ?_); first | apply gp_guard_dec rfl rfl rfl rfl | apply gp_guard rfl rfl rfl rfl | fail))
            | (refine gp_see ?_; first | refine p_f ?_ | refine p_sx ?_ | ((fail_if_success refine gp_lit rfl rfl rfl rfl ?_); first | apply gp_guard_dec rfl rfl rfl rfl | apply gp_guard rfl rfl rfl rfl | fail) | refine p_sq ?_)
            | (refine gp_one ?_; first | refine p_v ?_ | refine p_s ?_ | refine p_n (fun _ => ?_) | refine p_y ?_ | refine p_app (fun _ _ => ?_) | refine p_mv ?_ | refine p_ms ?_ | refine p_b0 (fun _ => ?_) | ((fail_if_success refine gp_lit rfl rfl rfl rfl ?_); first | apply gp_guard_dec rfl rfl rfl rfl | apply gp_guard rfl rfl rfl rfl | fail))
            | refine gp_two ?_ ?_ | refine gp_done hd hk ?_ | intro _ | refine p_ta hd hk (fun _ _ _ hd hk => ?_) | refine p_ts hd hk (fun _ hd hk => ?_))
          refine gp_as 58 (v' := .bool (wrongB s p)) rfl (congrArg Value.bool (by unfold wrongB; exact decide_eq_decide.2 ⟨fun h => ⟨hd3, by omega⟩, fun h => by omega⟩)) ?_
          apply gp_s (hi := rfl) (hg := rfl)
          · apply ss_storeOwn
            exact inferInstance
            exact rfl
            exact rfl
            exact rfl
            exact (by (repeat (first | exact Sel.here | apply Sel.there)); first | done | fail)
            rw [flat_len Rn.len, halfL_len]
            omega
          rw [show 0 + i * 4 + 3 = i * 4 + 3 by omega, hstep]
          repeat (first
            | (refine gp_take ?_; first | refine p_q ?_ | refine p_x ?_ | refine p_mq ?_ | ((fail_if_success refine gp_lit rfl rfl rfl rfl ?_); first | apply gp_guard_dec rfl rfl rfl rfl | apply gp_guard rfl rfl rfl rfl | fail))
            | (refine gp_see ?_; first | refine p_f ?_ | refine p_sx ?_ | ((fail_if_success refine gp_lit rfl rfl rfl rfl ?_); first | apply gp_guard_dec rfl rfl rfl rfl | apply gp_guard rfl rfl rfl rfl | fail) | refine p_sq ?_)
            | (refine gp_one ?_; first | refine p_v ?_ | refine p_s ?_ | refine p_n (fun _ => ?_) | refine p_y ?_ | refine p_app (fun _ _ => ?_) | refine p_mv ?_ | refine p_ms ?_ | refine p_b0 (fun _ => ?_) | ((fail_if_success refine gp_lit rfl rfl rfl rfl ?_); first | apply gp_guard_dec rfl rfl rfl rfl | apply gp_guard rfl rfl rfl rfl | fail))
            | refine gp_two ?_ ?_ | refine gp_done hd hk ?_ | intro _ | refine p_ta hd hk (fun _ _ _ hd hk => ?_) | refine p_ts hd hk (fun _ hd hk => ?_))
          repeat (first
            | (refine g_ops ?_; first | refine s_q ?_ | refine s_v ?_ | refine s_s ?_ | refine s_n (fun _ => ?_) | refine s_x ?_ | refine s_y ?_ | refine s_mq ?_ | refine s_app (fun _ _ => ?_) | refine s_mv ?_ | refine s_ms ?_ | refine s_b0 (fun _ => ?_) | ((fail_if_success refine g_lit rfl rfl rfl ?_); first | apply g_partM rfl rfl rfl | apply g_partMB rfl rfl rfl | fail))
            | refine g_seq ?_ | refine g_region ?_ | refine g_nil ?_ | refine g_then_normal ?_ | refine g_block ?_ | refine g_in_normal ?_ | refine g_retc ?_
            | refine g_then_ret ?_ | refine g_in_ret ?_ | refine g_exit ?_ | refine g_then_exit ?_ | refine g_in_exit ?_ | refine g_in_other rfl ?_ | refine g_skip ?_
            | refine g_label ?_ | refine g_cond_true rfl ?_ | refine g_cond_false rfl ?_ | exact s_m | intro _)
          refine g_as 6 (v' := int ((i + 1 : Nat) : Int)) rfl (congrArg (Value.int .i64) (by push_cast; rfl)) ?_
          exact g_again ⟨i + 1⟩ (by simp only; omega) hi' (by (repeat (first | exact FrSub.nil | refine FrSub.cons rfl ?_)); first | done | fail) (by (repeat (first | exact Take.nil | apply Take.cons | exact Sel.here | apply Sel.there)); first | done | fail)
        · repeat (first
            | (refine gp_take ?_; first | refine p_q ?_ | refine p_x ?_ | refine p_mq ?_ | ((fail_if_success refine gp_lit rfl rfl rfl rfl ?_); first | apply gp_guard_dec rfl rfl rfl rfl | apply gp_guard rfl rfl rfl rfl | fail))
            | (refine gp_see ?_; first | refine p_f ?_ | refine p_sx ?_ | ((fail_if_success refine gp_lit rfl rfl rfl rfl ?_); first | apply gp_guard_dec rfl rfl rfl rfl | apply gp_guard rfl rfl rfl rfl | fail) | refine p_sq ?_)
            | (refine gp_one ?_; first | refine p_v ?_ | refine p_s ?_ | refine p_n (fun _ => ?_) | refine p_y ?_ | refine p_app (fun _ _ => ?_) | refine p_mv ?_ | refine p_ms ?_ | refine p_b0 (fun _ => ?_) | ((fail_if_success refine gp_lit rfl rfl rfl rfl ?_); first | apply gp_guard_dec rfl rfl rfl rfl | apply gp_guard rfl rfl rfl rfl | fail))
            | refine gp_two ?_ ?_ | refine gp_done hd hk ?_ | intro _ | refine p_ta hd hk (fun _ _ _ hd hk => ?_) | refine p_ts hd hk (fun _ hd hk => ?_))
          refine gp_as 58 (v' := .bool (wrongB s p)) rfl (congrArg Value.bool (by unfold wrongB; exact decide_eq_decide.2 ⟨fun h => ⟨hd3, by omega⟩, fun h => by omega⟩)) ?_
          apply gp_s (hi := rfl) (hg := rfl)
          · apply ss_storeOwn
            exact inferInstance
            exact rfl
            exact rfl
            exact rfl
            exact (by (repeat (first | exact Sel.here | apply Sel.there)); first | done | fail)
            rw [flat_len Rn.len, halfL_len]
            omega
          rw [show 0 + i * 4 + 3 = i * 4 + 3 by omega, hstep]
          repeat (first
            | (refine gp_take ?_; first | refine p_q ?_ | refine p_x ?_ | refine p_mq ?_ | ((fail_if_success refine gp_lit rfl rfl rfl rfl ?_); first | apply gp_guard_dec rfl rfl rfl rfl | apply gp_guard rfl rfl rfl rfl | fail))
            | (refine gp_see ?_; first | refine p_f ?_ | refine p_sx ?_ | ((fail_if_success refine gp_lit rfl rfl rfl rfl ?_); first | apply gp_guard_dec rfl rfl rfl rfl | apply gp_guard rfl rfl rfl rfl | fail) | refine p_sq ?_)
            | (refine gp_one ?_; first | refine p_v ?_ | refine p_s ?_ | refine p_n (fun _ => ?_) | refine p_y ?_ | refine p_app (fun _ _ => ?_) | refine p_mv ?_ | refine p_ms ?_ | refine p_b0 (fun _ => ?_) | ((fail_if_success refine gp_lit rfl rfl rfl rfl ?_); first | apply gp_guard_dec rfl rfl rfl rfl | apply gp_guard rfl rfl rfl rfl | fail))
            | refine gp_two ?_ ?_ | refine gp_done hd hk ?_ | intro _ | refine p_ta hd hk (fun _ _ _ hd hk => ?_) | refine p_ts hd hk (fun _ hd hk => ?_))
          repeat (first
            | (refine g_ops ?_; first | refine s_q ?_ | refine s_v ?_ | refine s_s ?_ | refine s_n (fun _ => ?_) | refine s_x ?_ | refine s_y ?_ | refine s_mq ?_ | refine s_app (fun _ _ => ?_) | refine s_mv ?_ | refine s_ms ?_ | refine s_b0 (fun _ => ?_) | ((fail_if_success refine g_lit rfl rfl rfl ?_); first | apply g_partM rfl rfl rfl | apply g_partMB rfl rfl rfl | fail))
            | refine g_seq ?_ | refine g_region ?_ | refine g_nil ?_ | refine g_then_normal ?_ | refine g_block ?_ | refine g_in_normal ?_ | refine g_retc ?_
            | refine g_then_ret ?_ | refine g_in_ret ?_ | refine g_exit ?_ | refine g_then_exit ?_ | refine g_in_exit ?_ | refine g_in_other rfl ?_ | refine g_skip ?_
            | refine g_label ?_ | refine g_cond_true rfl ?_ | refine g_cond_false rfl ?_ | exact s_m | intro _)
          refine g_as 6 (v' := int ((i + 1 : Nat) : Int)) rfl (congrArg (Value.int .i64) (by push_cast; rfl)) ?_
          exact g_again ⟨i + 1⟩ (by simp only; omega) hi' (by (repeat (first | exact FrSub.nil | refine FrSub.cons rfl ?_)); first | done | fail) (by (repeat (first | exact Take.nil | apply Take.cons | exact Sel.here | apply Sel.there)); first | done | fail)
      · refine gp_as 45 (v' := .bool false) rfl (congrArg Value.bool (decide_eq_false (by omega))) ?_
        repeat (first
          | (refine gp_take ?_; first | refine p_q ?_ | refine p_x ?_ | refine p_mq ?_ | ((fail_if_success refine gp_lit rfl rfl rfl rfl ?_); first | apply gp_guard_dec rfl rfl rfl rfl | apply gp_guard rfl rfl rfl rfl | fail))
          | (refine gp_see ?_; first | refine p_f ?_ | refine p_sx ?_ | ((fail_if_success refine gp_lit rfl rfl rfl rfl ?_); first | apply gp_guard_dec rfl rfl rfl rfl | apply gp_guard rfl rfl rfl rfl | fail) | refine p_sq ?_)
          | (refine gp_one ?_; first | refine p_v ?_ | refine p_s ?_ | refine p_n (fun _ => ?_) | refine p_y ?_ | refine p_app (fun _ _ => ?_) | refine p_mv ?_ | refine p_ms ?_ | refine p_b0 (fun _ => ?_) | ((fail_if_success refine gp_lit rfl rfl rfl rfl ?_); first | apply gp_guard_dec rfl rfl rfl rfl | apply gp_guard rfl rfl rfl rfl | fail))
          | refine gp_two ?_ ?_ | refine gp_done hd hk ?_ | intro _ | refine p_ta hd hk (fun _ _ _ hd hk => ?_) | refine p_ts hd hk (fun _ hd hk => ?_))
        · refine gp_as 58 (v' := .bool (wrongB s p)) rfl (congrArg Value.bool (by unfold wrongB; exact (decide_eq_false (fun h => hd3 h.1)).symm)) ?_
          apply gp_s (hi := rfl) (hg := rfl)
          · apply ss_storeOwn
            exact inferInstance
            exact rfl
            exact rfl
            exact rfl
            exact (by (repeat (first | exact Sel.here | apply Sel.there)); first | done | fail)
            rw [flat_len Rn.len, halfL_len]
            omega
          rw [show 0 + i * 4 + 3 = i * 4 + 3 by omega, hstep]
          repeat (first
            | (refine gp_take ?_; first | refine p_q ?_ | refine p_x ?_ | refine p_mq ?_ | ((fail_if_success refine gp_lit rfl rfl rfl rfl ?_); first | apply gp_guard_dec rfl rfl rfl rfl | apply gp_guard rfl rfl rfl rfl | fail))
            | (refine gp_see ?_; first | refine p_f ?_ | refine p_sx ?_ | ((fail_if_success refine gp_lit rfl rfl rfl rfl ?_); first | apply gp_guard_dec rfl rfl rfl rfl | apply gp_guard rfl rfl rfl rfl | fail) | refine p_sq ?_)
            | (refine gp_one ?_; first | refine p_v ?_ | refine p_s ?_ | refine p_n (fun _ => ?_) | refine p_y ?_ | refine p_app (fun _ _ => ?_) | refine p_mv ?_ | refine p_ms ?_ | refine p_b0 (fun _ => ?_) | ((fail_if_success refine gp_lit rfl rfl rfl rfl ?_); first | apply gp_guard_dec rfl rfl rfl rfl | apply gp_guard rfl rfl rfl rfl | fail))
            | refine gp_two ?_ ?_ | refine gp_done hd hk ?_ | intro _ | refine p_ta hd hk (fun _ _ _ hd hk => ?_) | refine p_ts hd hk (fun _ hd hk => ?_))
          repeat (first
            | (refine g_ops ?_; first | refine s_q ?_ | refine s_v ?_ | refine s_s ?_ | refine s_n (fun _ => ?_) | refine s_x ?_ | refine s_y ?_ | refine s_mq ?_ | refine s_app (fun _ _ => ?_) | refine s_mv ?_ | refine s_ms ?_ | refine s_b0 (fun _ => ?_) | ((fail_if_success refine g_lit rfl rfl rfl ?_); first | apply g_partM rfl rfl rfl | apply g_partMB rfl rfl rfl | fail))
            | refine g_seq ?_ | refine g_region ?_ | refine g_nil ?_ | refine g_then_normal ?_ | refine g_block ?_ | refine g_in_normal ?_ | refine g_retc ?_
            | refine g_then_ret ?_ | refine g_in_ret ?_ | refine g_exit ?_ | refine g_then_exit ?_ | refine g_in_exit ?_ | refine g_in_other rfl ?_ | refine g_skip ?_
            | refine g_label ?_ | refine g_cond_true rfl ?_ | refine g_cond_false rfl ?_ | exact s_m | intro _)
          refine g_as 6 (v' := int ((i + 1 : Nat) : Int)) rfl (congrArg (Value.int .i64) (by push_cast; rfl)) ?_
          exact g_again ⟨i + 1⟩ (by simp only; omega) hi' (by (repeat (first | exact FrSub.nil | refine FrSub.cons rfl ?_)); first | done | fail) (by (repeat (first | exact Take.nil | apply Take.cons | exact Sel.here | apply Sel.there)); first | done | fail)
        · repeat (first
            | (refine gp_take ?_; first | refine p_q ?_ | refine p_x ?_ | refine p_mq ?_ | ((fail_if_success refine gp_lit rfl rfl rfl rfl ?_); first | apply gp_guard_dec rfl rfl rfl rfl | apply gp_guard rfl rfl rfl rfl | fail))
            | (refine gp_see ?_; first | refine p_f ?_ | refine p_sx ?_ | ((fail_if_success refine gp_lit rfl rfl rfl rfl ?_); first | apply gp_guard_dec rfl rfl rfl rfl | apply gp_guard rfl rfl rfl rfl | fail) | refine p_sq ?_)
            | (refine gp_one ?_; first | refine p_v ?_ | refine p_s ?_ | refine p_n (fun _ => ?_) | refine p_y ?_ | refine p_app (fun _ _ => ?_) | refine p_mv ?_ | refine p_ms ?_ | refine p_b0 (fun _ => ?_) | ((fail_if_success refine gp_lit rfl rfl rfl rfl ?_); first | apply gp_guard_dec rfl rfl rfl rfl | apply gp_guard rfl rfl rfl rfl | fail))
            | refine gp_two ?_ ?_ | refine gp_done hd hk ?_ | intro _ | refine p_ta hd hk (fun _ _ _ hd hk => ?_) | refine p_ts hd hk (fun _ hd hk => ?_))
          refine gp_as 58 (v' := .bool (wrongB s p)) rfl (congrArg Value.bool (by unfold wrongB; exact (decide_eq_false (fun h => hd3 h.1)).symm)) ?_
          apply gp_s (hi := rfl) (hg := rfl)
          · apply ss_storeOwn
            exact inferInstance
            exact rfl
            exact rfl
            exact rfl
            exact (by (repeat (first | exact Sel.here | apply Sel.there)); first | done | fail)
            rw [flat_len Rn.len, halfL_len]
            omega
          rw [show 0 + i * 4 + 3 = i * 4 + 3 by omega, hstep]
          repeat (first
            | (refine gp_take ?_; first | refine p_q ?_ | refine p_x ?_ | refine p_mq ?_ | ((fail_if_success refine gp_lit rfl rfl rfl rfl ?_); first | apply gp_guard_dec rfl rfl rfl rfl | apply gp_guard rfl rfl rfl rfl | fail))
            | (refine gp_see ?_; first | refine p_f ?_ | refine p_sx ?_ | ((fail_if_success refine gp_lit rfl rfl rfl rfl ?_); first | apply gp_guard_dec rfl rfl rfl rfl | apply gp_guard rfl rfl rfl rfl | fail) | refine p_sq ?_)
            | (refine gp_one ?_; first | refine p_v ?_ | refine p_s ?_ | refine p_n (fun _ => ?_) | refine p_y ?_ | refine p_app (fun _ _ => ?_) | refine p_mv ?_ | refine p_ms ?_ | refine p_b0 (fun _ => ?_) | ((fail_if_success refine gp_lit rfl rfl rfl rfl ?_); first | apply gp_guard_dec rfl rfl rfl rfl | apply gp_guard rfl rfl rfl rfl | fail))
            | refine gp_two ?_ ?_ | refine gp_done hd hk ?_ | intro _ | refine p_ta hd hk (fun _ _ _ hd hk => ?_) | refine p_ts hd hk (fun _ hd hk => ?_))
          repeat (first
            | (refine g_ops ?_; first | refine s_q ?_ | refine s_v ?_ | refine s_s ?_ | refine s_n (fun _ => ?_) | refine s_x ?_ | refine s_y ?_ | refine s_mq ?_ | refine s_app (fun _ _ => ?_) | refine s_mv ?_ | refine s_ms ?_ | refine s_b0 (fun _ => ?_) | ((fail_if_success refine g_lit rfl rfl rfl ?_); first | apply g_partM rfl rfl rfl | apply g_partMB rfl rfl rfl | fail))
            | refine g_seq ?_ | refine g_region ?_ | refine g_nil ?_ | refine g_then_normal ?_ | refine g_block ?_ | refine g_in_normal ?_ | refine g_retc ?_
            | refine g_then_ret ?_ | refine g_in_ret ?_ | refine g_exit ?_ | refine g_then_exit ?_ | refine g_in_exit ?_ | refine g_in_other rfl ?_ | refine g_skip ?_
            | refine g_label ?_ | refine g_cond_true rfl ?_ | refine g_cond_false rfl ?_ | exact s_m | intro _)
          refine g_as 6 (v' := int ((i + 1 : Nat) : Int)) rfl (congrArg (Value.int .i64) (by push_cast; rfl)) ?_
          exact g_again ⟨i + 1⟩ (by simp only; omega) hi' (by (repeat (first | exact FrSub.nil | refine FrSub.cons rfl ?_)); first | done | fail) (by (repeat (first | exact Take.nil | apply Take.cons | exact Sel.here | apply Sel.there)); first | done | fail)
    · obtain rfl : i = (pos s).length := by omega
      rw [halfL_end]
      repeat (first
        | (refine g_ops ?_; first | refine s_q ?_ | refine s_v ?_ | refine s_s ?_ | refine s_n (fun _ => ?_) | refine s_x ?_ | refine s_y ?_ | refine s_mq ?_ | refine s_app (fun _ _ => ?_) | refine s_mv ?_ | refine s_ms ?_ | refine s_b0 (fun _ => ?_) | ((fail_if_success refine g_lit rfl rfl rfl ?_); first | apply g_partM rfl rfl rfl | apply g_partMB rfl rfl rfl | fail))
        | refine g_seq ?_ | refine g_region ?_ | refine g_nil ?_ | refine g_then_normal ?_ | refine g_block ?_ | refine g_in_normal ?_ | refine g_retc ?_
        | refine g_then_ret ?_ | refine g_in_ret ?_ | refine g_exit ?_ | refine g_then_exit ?_ | refine g_in_exit ?_ | refine g_in_other rfl ?_ | refine g_skip ?_
        | refine g_label ?_ | refine g_cond_true rfl ?_ | refine g_cond_false rfl ?_ | exact s_m | intro _)
      refine g_pile (by (repeat (first | exact Sel.here | apply Sel.there)); first | done | fail) (by (repeat (first | exact Sel.here | apply Sel.there)); first | done | fail) (fun H2 hs2 hS2 => ?_)
      exact g_ret (H2, q, c) rfl (by (repeat (first | exact RVs.nil | apply RVs.tmp rfl | apply RVs.cellA rfl (by (repeat (first | exact Sel.here | apply Sel.there)); first | done | fail) (by (repeat (first | exact Cut.zero | apply Cut.take | apply Cut.skip)); first | done | fail) | apply RVs.cell1 rfl (by (repeat (first | exact Sel.here | apply Sel.there)); first | done | fail) rfl)); first | done | fail) (by (repeat (first | exact Take.nil | apply Take.cons | exact Sel.here | apply Sel.there)); first | done | fail) rfl ⟨hs2, hS2⟩
/-! ### What the document says of a text -/
theorem rn1_at {H1 : HP} {s : ByteArray} {p : Option Addr} {i : Nat} (hS : SlAt (Pile H1) 4 p (pos s).length (((pos s).map (rn1 s)).flatMap Rn.cells)) (hi : i < (pos s).length) :
    ∃ b o, p = some ⟨b, o, none⟩ ∧ ∀ (j : Nat) (v : Value), (rn1 s (pos s)[i]).cells[j]? = some v → Reads (Pile H1) ⟨b, o + i * 4 + j, none⟩ v :=
  slAt_elem hS Rn.len (by decide) (i := i) (a := rn1 s (pos s)[i]) (by simp [hi])
theorem valid1 (H : HP) (s : ByteArray) (hs : s.size ≤ 1000000000) : Does1 Tryd.prog 50 [.string s] [Pile H] (.bool (validB s)) := by
  have hpl := pos_len s
  have ha := all_ H s hs
  refine fn_intro Tryd.func50 rfl Tryd.ntmps50 rfl (by simp only [argFr, Nat.zero_add, Nat.reduceAdd]; rfl) (fun Γ => ?_)
  repeat (first
    | (refine g_ops ?_; first | refine s_q ?_ | refine s_v ?_ | refine s_s ?_ | refine s_n (fun _ => ?_) | refine s_x ?_ | refine s_y ?_ | refine s_mq ?_ | refine s_app (fun _ _ => ?_) | refine s_mv ?_ | refine s_ms ?_ | refine s_b0 (fun _ => ?_) | ((fail_if_success refine g_lit rfl rfl rfl ?_); first | apply g_partM rfl rfl rfl | apply g_partMB rfl rfl rfl | fail) | refine s_c (ha) (fun _ _ => ?_))
    | refine g_seq ?_ | refine g_region ?_ | refine g_nil ?_ | refine g_then_normal ?_ | refine g_block ?_ | refine g_in_normal ?_ | refine g_retc ?_ | refine g_then_ret ?_
    | refine g_in_ret ?_ | refine g_exit ?_ | refine g_then_exit ?_ | refine g_in_exit ?_ | refine g_in_other rfl ?_ | refine g_skip ?_ | refine g_label ?_
    | refine g_cond_true rfl ?_ | refine g_cond_false rfl ?_ | exact s_m | intro _)
  rename_i y hy
  obtain ⟨H1, p, c⟩ := y
  obtain ⟨hs1, hS⟩ := hy
  dsimp only [List.cons_append, List.nil_append] at hs1 hS ⊢
  rw [validB_pos]
  refine g_loop (X := AmX) (fun x => [(3, .slice p (pos s).length c), (4, int x.i)]) (fun _ => [Pile H1]) (fun x => x.i ≤ (pos s).length ∧ ((pos s).all fun k => !wrongB s k) = (((pos s).drop x.i).all fun k => !wrongB s k)) (fun x => (pos s).length - x.i) ⟨0⟩ ⟨Nat.zero_le _, rfl⟩ (by (repeat (first | exact FrSub.nil | refine FrSub.cons rfl ?_)); first | done | fail) (by (repeat (first | exact Take.nil | apply Take.cons | exact Sel.here | apply Sel.there)); first | done | fail) (fun x hx => ?_)
  obtain ⟨i⟩ := x
  obtain ⟨hi, he⟩ := hx
  dsimp only at hi he ⊢
  repeat (first
    | (refine g_ops ?_; first | refine s_q ?_ | refine s_v ?_ | refine s_s ?_ | refine s_n (fun _ => ?_) | refine s_x ?_ | refine s_y ?_ | refine s_mq ?_ | refine s_app (fun _ _ => ?_) | refine s_mv ?_ | refine s_ms ?_ | refine s_b0 (fun _ => ?_) | ((fail_if_success refine g_lit rfl rfl rfl ?_); first | apply g_partM rfl rfl rfl | apply g_partMB rfl rfl rfl | fail))
    | refine g_seq ?_ | refine g_region ?_ | refine g_nil ?_ | refine g_then_normal ?_ | refine g_block ?_ | refine g_in_normal ?_ | refine g_retc ?_ | refine g_then_ret ?_
    | refine g_in_ret ?_ | refine g_exit ?_ | refine g_then_exit ?_ | refine g_in_exit ?_ | refine g_in_other rfl ?_ | refine g_skip ?_ | refine g_label ?_
    | refine g_cond_true rfl ?_ | refine g_cond_false rfl ?_ | exact s_m | intro _)
  refine g_cond_dec rfl (fun h2 => ?_) (fun h2 => ?_)
  · have hi' : i < (pos s).length := by omega
    obtain ⟨b, o, rfl, hrow⟩ := rn1_at hS hi'
    rw [List.drop_eq_getElem_cons hi', List.all_cons] at he
    generalize (pos s)[i] = k at hrow he
    have hr : ∀ k', k' = o + i * 4 + 3 → Reads (Pile H1) ⟨b, k', none⟩ (.bool (wrongB s k)) := fun _ e => e ▸ hrow 3 _ rfl
    clear hrow
    cases hw : wrongB s k <;> rw [hw] at hr he
    · repeat (first
        | (refine g_ops ?_; first | refine s_q ?_ | refine s_v ?_ | refine s_s ?_ | refine s_n (fun _ => ?_) | refine s_x ?_ | refine s_y ?_ | refine s_mq ?_ | refine s_app (fun _ _ => ?_) | refine s_mv ?_ | refine s_ms ?_ | refine s_b0 (fun _ => ?_) | ((fail_if_success refine g_lit rfl rfl rfl ?_); first | apply g_partM rfl rfl rfl | apply g_partMB rfl rfl rfl | fail))
        | refine g_seq ?_ | refine g_region ?_ | refine g_nil ?_ | refine g_then_normal ?_ | refine g_block ?_ | refine g_in_normal ?_ | refine g_retc ?_
        | refine g_then_ret ?_ | refine g_in_ret ?_ | refine g_exit ?_ | refine g_then_exit ?_ | refine g_in_exit ?_ | refine g_in_other rfl ?_ | refine g_skip ?_
        | refine g_label ?_ | refine g_cond_true rfl ?_ | refine g_cond_false rfl ?_ | exact s_m | intro _)
      refine g_as 4 (v' := int ((i + 1 : Nat) : Int)) rfl (congrArg (Value.int .i64) (by push_cast; rfl)) ?_
      exact g_again ⟨i + 1⟩ (by simp only; omega) ⟨hi', by simpa using he⟩ (by (repeat (first | exact FrSub.nil | refine FrSub.cons rfl ?_)); first | done | fail) (by (repeat (first | exact Take.nil | apply Take.cons | exact Sel.here | apply Sel.there)); first | done | fail)
    · repeat (first
        | (refine g_ops ?_; first | refine s_q ?_ | refine s_v ?_ | refine s_s ?_ | refine s_n (fun _ => ?_) | refine s_x ?_ | refine s_y ?_ | refine s_mq ?_ | refine s_app (fun _ _ => ?_) | refine s_mv ?_ | refine s_ms ?_ | refine s_b0 (fun _ => ?_) | ((fail_if_success refine g_lit rfl rfl rfl ?_); first | apply g_partM rfl rfl rfl | apply g_partMB rfl rfl rfl | fail))
        | refine g_seq ?_ | refine g_region ?_ | refine g_nil ?_ | refine g_then_normal ?_ | refine g_block ?_ | refine g_in_normal ?_ | refine g_retc ?_
        | refine g_then_ret ?_ | refine g_in_ret ?_ | refine g_exit ?_ | refine g_then_exit ?_ | refine g_in_exit ?_ | refine g_in_other rfl ?_ | refine g_skip ?_
        | refine g_label ?_ | refine g_cond_true rfl ?_ | refine g_cond_false rfl ?_ | exact s_m | intro _)
      refine g_unpile hs1 (by (repeat (first | exact Sel.here | apply Sel.there)); first | done | fail) ?_
      exact s_r () (hp := by simp only [pack]; rw [he]; rfl)
  · obtain rfl : i = (pos s).length := by omega
    rw [List.drop_length] at he
    repeat (first
      | (refine g_ops ?_; first | refine s_q ?_ | refine s_v ?_ | refine s_s ?_ | refine s_n (fun _ => ?_) | refine s_x ?_ | refine s_y ?_ | refine s_mq ?_ | refine s_app (fun _ _ => ?_) | refine s_mv ?_ | refine s_ms ?_ | refine s_b0 (fun _ => ?_) | ((fail_if_success refine g_lit rfl rfl rfl ?_); first | apply g_partM rfl rfl rfl | apply g_partMB rfl rfl rfl | fail))
      | refine g_seq ?_ | refine g_region ?_ | refine g_nil ?_ | refine g_then_normal ?_ | refine g_block ?_ | refine g_in_normal ?_ | refine g_retc ?_
      | refine g_then_ret ?_ | refine g_in_ret ?_ | refine g_exit ?_ | refine g_then_exit ?_ | refine g_in_exit ?_ | refine g_in_other rfl ?_ | refine g_skip ?_
      | refine g_label ?_ | refine g_cond_true rfl ?_ | refine g_cond_false rfl ?_ | exact s_m | intro _)
    refine g_unpile hs1 (by (repeat (first | exact Sel.here | apply Sel.there)); first | done | fail) ?_
    exact s_r () (hp := by simp only [pack]; rw [he]; rfl)
theorem key1d (H : HP) (s : ByteArray) (hs : s.size ≤ 1000000000) : Does1 Tryd.prog 51 [.string s] [Pile H] (.bool (keyB s)) := by
  have hpl := pos_len s
  have ha := all_ H s hs
  refine fn_intro Tryd.func51 rfl Tryd.ntmps51 rfl (by simp only [argFr, Nat.zero_add, Nat.reduceAdd]; rfl) (fun Γ => ?_)
  repeat (first
    | (refine g_ops ?_; first | refine s_q ?_ | refine s_v ?_ | refine s_s ?_ | refine s_n (fun _ => ?_) | refine s_x ?_ | refine s_y ?_ | refine s_mq ?_ | refine s_app (fun _ _ => ?_) | refine s_mv ?_ | refine s_ms ?_ | refine s_b0 (fun _ => ?_) | ((fail_if_success refine g_lit rfl rfl rfl ?_); first | apply g_partM rfl rfl rfl | apply g_partMB rfl rfl rfl | fail) | refine s_c (ha) (fun _ _ => ?_))
    | refine g_seq ?_ | refine g_region ?_ | refine g_nil ?_ | refine g_then_normal ?_ | refine g_block ?_ | refine g_in_normal ?_ | refine g_retc ?_ | refine g_then_ret ?_
    | refine g_in_ret ?_ | refine g_exit ?_ | refine g_then_exit ?_ | refine g_in_exit ?_ | refine g_in_other rfl ?_ | refine g_skip ?_ | refine g_label ?_
    | refine g_cond_true rfl ?_ | refine g_cond_false rfl ?_ | exact s_m | intro _)
  rename_i y hy
  obtain ⟨H1, p, c⟩ := y
  obtain ⟨hs1, hS⟩ := hy
  dsimp only [List.cons_append, List.nil_append] at hs1 hS ⊢
  rw [keyB_pos]
  refine g_loop (X := AmX) (fun x => [(3, .slice p (pos s).length c), (4, int x.i)]) (fun _ => [Pile H1]) (fun x => x.i ≤ (pos s).length ∧ ((pos s).all fun k => !(wrongB s k || ctlB (Utf8.decode s k).1)) = (((pos s).drop x.i).all fun k => !(wrongB s k || ctlB (Utf8.decode s k).1))) (fun x => (pos s).length - x.i) ⟨0⟩ ⟨Nat.zero_le _, rfl⟩ (by (repeat (first | exact FrSub.nil | refine FrSub.cons rfl ?_)); first | done | fail) (by (repeat (first | exact Take.nil | apply Take.cons | exact Sel.here | apply Sel.there)); first | done | fail) (fun x hx => ?_)
  obtain ⟨i⟩ := x
  obtain ⟨hi, he⟩ := hx
  dsimp only at hi he ⊢
  repeat (first
    | (refine g_ops ?_; first | refine s_q ?_ | refine s_v ?_ | refine s_s ?_ | refine s_n (fun _ => ?_) | refine s_x ?_ | refine s_y ?_ | refine s_mq ?_ | refine s_app (fun _ _ => ?_) | refine s_mv ?_ | refine s_ms ?_ | refine s_b0 (fun _ => ?_) | ((fail_if_success refine g_lit rfl rfl rfl ?_); first | apply g_partM rfl rfl rfl | apply g_partMB rfl rfl rfl | fail))
    | refine g_seq ?_ | refine g_region ?_ | refine g_nil ?_ | refine g_then_normal ?_ | refine g_block ?_ | refine g_in_normal ?_ | refine g_retc ?_ | refine g_then_ret ?_
    | refine g_in_ret ?_ | refine g_exit ?_ | refine g_then_exit ?_ | refine g_in_exit ?_ | refine g_in_other rfl ?_ | refine g_skip ?_ | refine g_label ?_
    | refine g_cond_true rfl ?_ | refine g_cond_false rfl ?_ | exact s_m | intro _)
  refine g_cond_dec rfl (fun h2 => ?_) (fun h2 => ?_)
  · have hi' : i < (pos s).length := by omega
    obtain ⟨b, o, rfl, hrow⟩ := rn1_at hS hi'
    rw [List.drop_eq_getElem_cons hi', List.all_cons] at he
    generalize (pos s)[i] = k at hrow he
    have hr : ∀ k', k' = o + i * 4 + 3 → Reads (Pile H1) ⟨b, k', none⟩ (.bool (wrongB s k)) := fun _ e => e ▸ hrow 3 _ rfl
    have hr2 : ∀ k', k' = o + i * 4 → Reads (Pile H1) ⟨b, k', none⟩ (.int .i32 ((Utf8.decode s k).1 : Int)) := fun _ e => e ▸ hrow 0 _ rfl
    clear hrow
    repeat (first
      | (refine g_ops ?_; first | refine s_q ?_ | refine s_v ?_ | refine s_s ?_ | refine s_n (fun _ => ?_) | refine s_x ?_ | refine s_y ?_ | refine s_mq ?_ | refine s_app (fun _ _ => ?_) | refine s_mv ?_ | refine s_ms ?_ | refine s_b0 (fun _ => ?_) | ((fail_if_success refine g_lit rfl rfl rfl ?_); first | apply g_partM rfl rfl rfl | apply g_partMB rfl rfl rfl | fail))
      | apply g_regB (id := 5) 33 | refine g_seq ?_ | refine g_region ?_ | refine g_nil ?_ | refine g_then_normal ?_ | refine g_block ?_ | refine g_in_normal ?_
      | refine g_retc ?_ | refine g_then_ret ?_ | refine g_in_ret ?_ | refine g_exit ?_ | refine g_then_exit ?_ | refine g_in_exit ?_ | refine g_in_other rfl ?_
      | refine g_skip ?_ | refine g_label ?_ | refine g_cond_true rfl ?_ | refine g_cond_false rfl ?_ | exact s_m | intro _ | (refine gp_take ?_; first | refine p_q ?_ | refine p_x ?_ | refine p_mq ?_ | ((fail_if_success refine gp_lit rfl rfl rfl rfl ?_); first | apply gp_guard_dec rfl rfl rfl rfl | apply gp_guard rfl rfl rfl rfl | fail))
      | (refine gp_see ?_; first | refine p_f ?_ | refine p_sx ?_ | ((fail_if_success refine gp_lit rfl rfl rfl rfl ?_); first | apply gp_guard_dec rfl rfl rfl rfl | apply gp_guard rfl rfl rfl rfl | fail) | refine p_sq ?_)
      | (refine gp_one ?_; first | refine p_v ?_ | refine p_s ?_ | refine p_n (fun _ => ?_) | refine p_y ?_ | refine p_app (fun _ _ => ?_) | refine p_mv ?_ | refine p_ms ?_ | refine p_b0 (fun _ => ?_) | ((fail_if_success refine gp_lit rfl rfl rfl rfl ?_); first | apply gp_guard_dec rfl rfl rfl rfl | apply gp_guard rfl rfl rfl rfl | fail))
      | refine gp_two ?_ ?_ | refine gp_done hd hk ?_ | intro _ | refine p_ta hd hk (fun _ _ _ hd hk => ?_) | refine p_ts hd hk (fun _ hd hk => ?_))
    refine g_as 33 (v' := .bool (wrongB s k || ctlB (Utf8.decode s k).1)) rfl (congrArg Value.bool (by unfold ctlB; rw [Bool.eq_iff_iff]; cases wrongB s k <;> simp [Bool.cond_eq_ite] <;> omega)) ?_
    generalize (wrongB s k || ctlB (Utf8.decode s k).1) = w at he ⊢
    cases w
    · repeat (first
        | (refine g_ops ?_; first | refine s_q ?_ | refine s_v ?_ | refine s_s ?_ | refine s_n (fun _ => ?_) | refine s_x ?_ | refine s_y ?_ | refine s_mq ?_ | refine s_app (fun _ _ => ?_) | refine s_mv ?_ | refine s_ms ?_ | refine s_b0 (fun _ => ?_) | ((fail_if_success refine g_lit rfl rfl rfl ?_); first | apply g_partM rfl rfl rfl | apply g_partMB rfl rfl rfl | fail))
        | refine g_seq ?_ | refine g_region ?_ | refine g_nil ?_ | refine g_then_normal ?_ | refine g_block ?_ | refine g_in_normal ?_ | refine g_retc ?_
        | refine g_then_ret ?_ | refine g_in_ret ?_ | refine g_exit ?_ | refine g_then_exit ?_ | refine g_in_exit ?_ | refine g_in_other rfl ?_ | refine g_skip ?_
        | refine g_label ?_ | refine g_cond_true rfl ?_ | refine g_cond_false rfl ?_ | exact s_m | intro _)
      refine g_as 4 (v' := int ((i + 1 : Nat) : Int)) rfl (congrArg (Value.int .i64) (by push_cast; rfl)) ?_
      exact g_again ⟨i + 1⟩ (by simp only; omega) ⟨hi', by simpa using he⟩ (by (repeat (first | exact FrSub.nil | refine FrSub.cons rfl ?_)); first | done | fail) (by (repeat (first | exact Take.nil | apply Take.cons | exact Sel.here | apply Sel.there)); first | done | fail)
    · repeat (first
        | (refine g_ops ?_; first | refine s_q ?_ | refine s_v ?_ | refine s_s ?_ | refine s_n (fun _ => ?_) | refine s_x ?_ | refine s_y ?_ | refine s_mq ?_ | refine s_app (fun _ _ => ?_) | refine s_mv ?_ | refine s_ms ?_ | refine s_b0 (fun _ => ?_) | ((fail_if_success refine g_lit rfl rfl rfl ?_); first | apply g_partM rfl rfl rfl | apply g_partMB rfl rfl rfl | fail))
        | refine g_seq ?_ | refine g_region ?_ | refine g_nil ?_ | refine g_then_normal ?_ | refine g_block ?_ | refine g_in_normal ?_ | refine g_retc ?_
        | refine g_then_ret ?_ | refine g_in_ret ?_ | refine g_exit ?_ | refine g_then_exit ?_ | refine g_in_exit ?_ | refine g_in_other rfl ?_ | refine g_skip ?_
        | refine g_label ?_ | refine g_cond_true rfl ?_ | refine g_cond_false rfl ?_ | exact s_m | intro _)
      refine g_unpile hs1 (by (repeat (first | exact Sel.here | apply Sel.there)); first | done | fail) ?_
      exact s_r () (hp := by simp only [pack]; rw [he]; simp)
  · obtain rfl : i = (pos s).length := by omega
    rw [List.drop_length] at he
    repeat (first
      | (refine g_ops ?_; first | refine s_q ?_ | refine s_v ?_ | refine s_s ?_ | refine s_n (fun _ => ?_) | refine s_x ?_ | refine s_y ?_ | refine s_mq ?_ | refine s_app (fun _ _ => ?_) | refine s_mv ?_ | refine s_ms ?_ | refine s_b0 (fun _ => ?_) | ((fail_if_success refine g_lit rfl rfl rfl ?_); first | apply g_partM rfl rfl rfl | apply g_partMB rfl rfl rfl | fail))
      | refine g_seq ?_ | refine g_region ?_ | refine g_nil ?_ | refine g_then_normal ?_ | refine g_block ?_ | refine g_in_normal ?_ | refine g_retc ?_
      | refine g_then_ret ?_ | refine g_in_ret ?_ | refine g_exit ?_ | refine g_then_exit ?_ | refine g_in_exit ?_ | refine g_in_other rfl ?_ | refine g_skip ?_
      | refine g_label ?_ | refine g_cond_true rfl ?_ | refine g_cond_false rfl ?_ | exact s_m | intro _)
    refine g_unpile hs1 (by (repeat (first | exact Sel.here | apply Sel.there)); first | done | fail) ?_
    exact s_r () (hp := by simp only [pack]; rw [he]; simp; omega)
theorem qR_doc (s : ByteArray) (k : Nat) (h : k < s.size) : qR s k = if (at8 s k).toNat = 34 then [92, 34] else if (at8 s k).toNat = 92 then [92, 92] else if (at8 s k).toNat = 10 then [92, 110]
    else if wrongB s k = true ∨ (at8 s k).toNat < 32 ∨ (at8 s k).toNat = 127 then [92, 120, hexB ((at8 s k).toNat / 16), hexB ((at8 s k).toNat % 16)] else (s.data.toList.drop k).take (Utf8.decode s k).2 := by
  unfold qR
  by_cases ha : (at8 s k).toNat < 128
  · have e := decode_at h ha
    rw [e]
    dsimp only
    by_cases h1 : (at8 s k).toNat = 34
    · rw [if_pos h1, if_pos (.inl h1), h1]; rfl
    rw [if_neg h1]
    by_cases h2 : (at8 s k).toNat = 92
    · rw [if_pos h2, if_pos (.inr h2), h2]; rfl
    rw [if_neg h2, if_neg (by omega)]
    by_cases h3 : (at8 s k).toNat = 10
    · rw [if_pos h3, if_pos h3]
    rw [if_neg h3, if_neg h3]
    have hi := ctlB_iff (at8 s k).toNat
    by_cases hc : ctlB (at8 s k).toNat = true ∨ wrongB s k = true
    · rw [if_pos hc, if_pos (hc.elim (fun h => .inr (hi.1 h)) .inl)]
    · rw [if_neg hc, if_neg (fun h => hc (h.elim .inr (fun h => .inl (hi.2 h))))]
  · have e := decode_big h ha
    have hc : ctlB (Utf8.decode s k).1 = false := by
      cases hc : ctlB (Utf8.decode s k).1 with
      | false => rfl
      | true => have := (ctlB_iff _).1 hc; omega
    rw [if_neg (by omega : ¬ ((Utf8.decode s k).1 = 34 ∨ (Utf8.decode s k).1 = 92)), if_neg (by omega : ¬ (Utf8.decode s k).1 = 10), if_neg (by omega : ¬ (at8 s k).toNat = 34), if_neg (by omega : ¬ (at8 s k).toNat = 92), if_neg (by omega : ¬ (at8 s k).toNat = 10)]
    by_cases hw : wrongB s k = true
    · rw [if_pos (.inr hw), if_pos (.inl hw)]
    · rw [if_neg (fun h => h.elim (fun h => by rw [hc] at h; cases h) hw), if_neg (fun h => h.elim hw (fun h => by omega))]
attribute [local irreducible] qR hexB at8
structure QdX where
  i : Nat
  bs : List UInt8
  q : Option Addr
  c : Nat
set_option maxHeartbeats 4000000 in
theorem quote1d (H : HP) (s : ByteArray) (hs : s.size ≤ 1000000000) : Does1 Tryd.prog 56 [.string s] [Pile H] (.string ⟨(quoteL s).toArray⟩) := by
  have hpl := pos_len s
  have hql := quoteL_len s
  have ha := all_ H s hs
  have hqs : quoteL s = 34 :: (((pos s).flatMap (qR s)) ++ [34]) := by unfold quoteL pos; rw [qF_pos]
  refine fn_intro Tryd.func56 rfl Tryd.ntmps56 rfl (by simp only [argFr, Nat.zero_add, Nat.reduceAdd]; rfl) (fun Γ => ?_)
  repeat (first
    | (refine g_ops ?_; first | refine s_q ?_ | refine s_v ?_ | refine s_s ?_ | refine s_n (fun _ => ?_) | refine s_x ?_ | refine s_y ?_ | refine s_mq ?_ | refine s_app (fun _ _ => ?_) | refine s_mv ?_ | refine s_ms ?_ | refine s_b0 (fun _ => ?_) | ((fail_if_success refine g_lit rfl rfl rfl ?_); first | apply g_partM rfl rfl rfl | apply g_partMB rfl rfl rfl | fail))
    | refine g_seq ?_ | refine g_region ?_ | refine g_nil ?_ | refine g_then_normal ?_ | refine g_block ?_ | refine g_in_normal ?_ | refine g_retc ?_ | refine g_then_ret ?_
    | refine g_in_ret ?_ | refine g_exit ?_ | refine g_then_exit ?_ | refine g_in_exit ?_ | refine g_in_other rfl ?_ | refine g_skip ?_ | refine g_label ?_
    | refine g_cond_true rfl ?_ | refine g_cond_false rfl ?_ | exact s_m | intro _)
  refine g_own_nil none 1 5 ?_
  repeat (first
    | (refine g_ops ?_; first | refine s_q ?_ | refine s_v ?_ | refine s_s ?_ | refine s_n (fun _ => ?_) | refine s_x ?_ | refine s_y ?_ | refine s_mq ?_ | refine s_app (fun _ _ => ?_) | refine s_mv ?_ | refine s_ms ?_ | refine s_b0 (fun _ => ?_) | ((fail_if_success refine g_lit rfl rfl rfl ?_); first | apply g_partM rfl rfl rfl | apply g_partMB rfl rfl rfl | fail) | refine s_c (ha) (fun _ _ => ?_))
    | refine g_seq ?_ | refine g_region ?_ | refine g_nil ?_ | refine g_then_normal ?_ | refine g_block ?_ | refine g_in_normal ?_ | refine g_retc ?_ | refine g_then_ret ?_
    | refine g_in_ret ?_ | refine g_exit ?_ | refine g_then_exit ?_ | refine g_in_exit ?_ | refine g_in_other rfl ?_ | refine g_skip ?_ | refine g_label ?_
    | refine g_cond_true rfl ?_ | refine g_cond_false rfl ?_ | exact s_m | intro _)
  rename_i q0 c0 y hy
  obtain ⟨H1, p, c⟩ := y
  obtain ⟨hs1, hS⟩ := hy
  dsimp only [List.cons_append, List.nil_append] at hs1 hS ⊢
  refine g_loop (X := QdX) (fun x => [(0, .string s), (3, .slice x.q x.bs.length x.c), (4, .slice p (pos s).length c), (5, int x.i)]) (fun x => [bO x.q x.c x.bs, Pile H1])
    (fun x => x.i ≤ (pos s).length ∧ 34 :: (pos s).flatMap (qR s) = x.bs ++ ((pos s).drop x.i).flatMap (qR s)) (fun x => (pos s).length - x.i) ⟨0, [34], q0, c0⟩ ⟨Nat.zero_le _, rfl⟩ (by (repeat (first | exact FrSub.nil | refine FrSub.cons rfl ?_)); first | done | fail) (by (repeat (first | exact Take.nil | apply Take.cons | exact Sel.here | apply Sel.there)); first | done | fail) (fun x hx => ?_)
  obtain ⟨i, bs, q, c1⟩ := x
  obtain ⟨hi, he⟩ := hx
  dsimp only at hi he ⊢
  have hbl : bs.length ≤ 4 * s.size + 2 := by
    have := congrArg List.length he
    rw [hqs] at hql
    simp only [List.length_cons, List.length_append, List.length_nil] at this hql
    omega
  repeat (first
    | (refine g_ops ?_; first | refine s_q ?_ | refine s_v ?_ | refine s_s ?_ | refine s_n (fun _ => ?_) | refine s_x ?_ | refine s_y ?_ | refine s_mq ?_ | refine s_app (fun _ _ => ?_) | refine s_mv ?_ | refine s_ms ?_ | refine s_b0 (fun _ => ?_) | ((fail_if_success refine g_lit rfl rfl rfl ?_); first | apply g_partM rfl rfl rfl | apply g_partMB rfl rfl rfl | fail))
    | refine g_seq ?_ | refine g_region ?_ | refine g_nil ?_ | refine g_then_normal ?_ | refine g_block ?_ | refine g_in_normal ?_ | refine g_retc ?_ | refine g_then_ret ?_
    | refine g_in_ret ?_ | refine g_exit ?_ | refine g_then_exit ?_ | refine g_in_exit ?_ | refine g_in_other rfl ?_ | refine g_skip ?_ | refine g_label ?_
    | refine g_cond_true rfl ?_ | refine g_cond_false rfl ?_ | exact s_m | intro _)
  refine g_cond_dec rfl (fun h2 => ?_) (fun h2 => ?_)
  · have hi' : i < (pos s).length := by omega
    obtain ⟨b, o, rfl, hrow⟩ := rn1_at hS hi'
    have hpm := pos_mem (List.getElem_mem hi')
    rw [List.drop_eq_getElem_cons hi', List.flatMap_cons, ← List.append_assoc] at he
    generalize (pos s)[i] = k at hrow he hpm
    have hcell : ∀ (j : Nat) (v : Value), [Value.int .i32 ((Utf8.decode s k).1 : Int), .int .i64 (k : Int), .int .i64 ((k + (Utf8.decode s k).2 : Nat) : Int), .bool (wrongB s k)][j]? = some v → Reads (Pile H1) ⟨b, o + i * 4 + j, none⟩ v := hrow
    have hin := decode_in s k hpm
    have hqr := qR_doc s k hpm
    have h8 := (at8 s k).toNat_lt
    repeat (first
      | (refine g_ops ?_; first | refine s_q ?_ | refine s_v ?_ | refine s_s ?_ | refine s_n (fun _ => ?_) | refine s_x ?_ | refine s_y ?_ | refine s_mq ?_ | refine s_app (fun _ _ => ?_) | refine s_mv ?_ | refine s_ms ?_ | refine s_b0 (fun _ => ?_) | ((fail_if_success refine g_lit rfl rfl rfl ?_); first | apply g_partM rfl rfl rfl | apply g_partMB rfl rfl rfl | fail))
      | refine g_seq ?_ | refine g_region ?_ | refine g_nil ?_ | refine g_then_normal ?_ | refine g_block ?_ | refine g_in_normal ?_ | refine g_retc ?_
      | refine g_then_ret ?_ | refine g_in_ret ?_ | refine g_exit ?_ | refine g_then_exit ?_ | refine g_in_exit ?_ | refine g_in_other rfl ?_ | refine g_skip ?_
      | refine g_label ?_ | refine g_cond_true rfl ?_ | refine g_cond_false rfl ?_ | exact s_m | intro _)
    refine s_q (q := by exact qs_indexStr inferInstance rfl rfl hpm) ?_
    repeat (first
      | (refine g_ops ?_; first | refine s_q ?_ | refine s_v ?_ | refine s_s ?_ | refine s_n (fun _ => ?_) | refine s_x ?_ | refine s_y ?_ | refine s_mq ?_ | refine s_app (fun _ _ => ?_) | refine s_mv ?_ | refine s_ms ?_ | refine s_b0 (fun _ => ?_) | ((fail_if_success refine g_lit rfl rfl rfl ?_); first | apply g_partM rfl rfl rfl | apply g_partMB rfl rfl rfl | fail))
      | refine g_seq ?_ | refine g_region ?_ | refine g_nil ?_ | refine g_then_normal ?_ | refine g_block ?_ | refine g_in_normal ?_ | refine g_retc ?_
      | refine g_then_ret ?_ | refine g_in_ret ?_ | refine g_exit ?_ | refine g_then_exit ?_ | refine g_in_exit ?_ | refine g_in_other rfl ?_ | refine g_skip ?_
      | refine g_label ?_ | refine g_cond_true rfl ?_ | refine g_cond_false rfl ?_ | exact s_m | intro _)
    have again : ∀ (news : List UInt8), news = qR s k → 34 :: (pos s).flatMap (qR s) = (bs ++ news) ++ ((pos s).drop (i + 1)).flatMap (qR s) := fun news e => by subst e; exact he
    by_cases k1 : (at8 s k).toNat = 34
    · have e : [92, 34] = qR s k := by rw [hqr, if_pos k1]
      refine g_as 39 (v' := .bool true) rfl (congrArg Value.bool (decide_eq_true (by omega))) ?_
      repeat (first
        | (refine g_ops ?_; first | refine s_q ?_ | refine s_v ?_ | refine s_s ?_ | refine s_n (fun _ => ?_) | refine s_x ?_ | refine s_y ?_ | refine s_mq ?_ | refine s_app (fun _ _ => ?_) | refine s_mv ?_ | refine s_ms ?_ | refine s_b0 (fun _ => ?_) | ((fail_if_success refine g_lit rfl rfl rfl ?_); first | apply g_partM rfl rfl rfl | apply g_partMB rfl rfl rfl | fail))
        | refine g_seq ?_ | refine g_region ?_ | refine g_nil ?_ | refine g_then_normal ?_ | refine g_block ?_ | refine g_in_normal ?_ | refine g_retc ?_
        | refine g_then_ret ?_ | refine g_in_ret ?_ | refine g_exit ?_ | refine g_then_exit ?_ | refine g_in_exit ?_ | refine g_in_other rfl ?_ | refine g_skip ?_
        | refine g_label ?_ | refine g_cond_true rfl ?_ | refine g_cond_false rfl ?_ | exact s_m | intro _)
      rename_i q' c'
      rw [show cells8 bs ++ [Value.int .u8 92, Value.int .u8 34] = cells8 (bs ++ [92, 34]) from cells8_append bs [92, 34], show bs.length + 2 = (bs ++ [92, 34]).length by simp]
      refine g_as 5 (v' := int ((i + 1 : Nat) : Int)) rfl (congrArg (Value.int .i64) (by push_cast; rfl)) ?_
      exact g_again ⟨i + 1, bs ++ [92, 34], q', c'⟩ (by simp only; omega) ⟨hi', again _ e⟩ (by (repeat (first | exact FrSub.nil | refine FrSub.cons rfl ?_)); first | done | fail) (by (repeat (first | exact Take.nil | apply Take.cons | exact Sel.here | apply Sel.there)); first | done | fail)
    refine g_as 39 (v' := .bool false) rfl (congrArg Value.bool (decide_eq_false (by omega))) ?_
    repeat (first
      | (refine g_ops ?_; first | refine s_q ?_ | refine s_v ?_ | refine s_s ?_ | refine s_n (fun _ => ?_) | refine s_x ?_ | refine s_y ?_ | refine s_mq ?_ | refine s_app (fun _ _ => ?_) | refine s_mv ?_ | refine s_ms ?_ | refine s_b0 (fun _ => ?_) | ((fail_if_success refine g_lit rfl rfl rfl ?_); first | apply g_partM rfl rfl rfl | apply g_partMB rfl rfl rfl | fail))
      | refine g_seq ?_ | refine g_region ?_ | refine g_nil ?_ | refine g_then_normal ?_ | refine g_block ?_ | refine g_in_normal ?_ | refine g_retc ?_
      | refine g_then_ret ?_ | refine g_in_ret ?_ | refine g_exit ?_ | refine g_then_exit ?_ | refine g_in_exit ?_ | refine g_in_other rfl ?_ | refine g_skip ?_
      | refine g_label ?_ | refine g_cond_true rfl ?_ | refine g_cond_false rfl ?_ | exact s_m | intro _)
    by_cases k2 : (at8 s k).toNat = 92
    · have e : [92, 92] = qR s k := by rw [hqr, if_neg k1, if_pos k2]
      refine g_as 45 (v' := .bool true) rfl (congrArg Value.bool (decide_eq_true (by omega))) ?_
      repeat (first
        | (refine g_ops ?_; first | refine s_q ?_ | refine s_v ?_ | refine s_s ?_ | refine s_n (fun _ => ?_) | refine s_x ?_ | refine s_y ?_ | refine s_mq ?_ | refine s_app (fun _ _ => ?_) | refine s_mv ?_ | refine s_ms ?_ | refine s_b0 (fun _ => ?_) | ((fail_if_success refine g_lit rfl rfl rfl ?_); first | apply g_partM rfl rfl rfl | apply g_partMB rfl rfl rfl | fail))
        | refine g_seq ?_ | refine g_region ?_ | refine g_nil ?_ | refine g_then_normal ?_ | refine g_block ?_ | refine g_in_normal ?_ | refine g_retc ?_
        | refine g_then_ret ?_ | refine g_in_ret ?_ | refine g_exit ?_ | refine g_then_exit ?_ | refine g_in_exit ?_ | refine g_in_other rfl ?_ | refine g_skip ?_
        | refine g_label ?_ | refine g_cond_true rfl ?_ | refine g_cond_false rfl ?_ | exact s_m | intro _)
      rename_i q' c'
      rw [show cells8 bs ++ [Value.int .u8 92, Value.int .u8 92] = cells8 (bs ++ [92, 92]) from cells8_append bs [92, 92], show bs.length + 2 = (bs ++ [92, 92]).length by simp]
      refine g_as 5 (v' := int ((i + 1 : Nat) : Int)) rfl (congrArg (Value.int .i64) (by push_cast; rfl)) ?_
      exact g_again ⟨i + 1, bs ++ [92, 92], q', c'⟩ (by simp only; omega) ⟨hi', again _ e⟩ (by (repeat (first | exact FrSub.nil | refine FrSub.cons rfl ?_)); first | done | fail) (by (repeat (first | exact Take.nil | apply Take.cons | exact Sel.here | apply Sel.there)); first | done | fail)
    refine g_as 45 (v' := .bool false) rfl (congrArg Value.bool (decide_eq_false (by omega))) ?_
    repeat (first
      | (refine g_ops ?_; first | refine s_q ?_ | refine s_v ?_ | refine s_s ?_ | refine s_n (fun _ => ?_) | refine s_x ?_ | refine s_y ?_ | refine s_mq ?_ | refine s_app (fun _ _ => ?_) | refine s_mv ?_ | refine s_ms ?_ | refine s_b0 (fun _ => ?_) | ((fail_if_success refine g_lit rfl rfl rfl ?_); first | apply g_partM rfl rfl rfl | apply g_partMB rfl rfl rfl | fail))
      | refine g_seq ?_ | refine g_region ?_ | refine g_nil ?_ | refine g_then_normal ?_ | refine g_block ?_ | refine g_in_normal ?_ | refine g_retc ?_
      | refine g_then_ret ?_ | refine g_in_ret ?_ | refine g_exit ?_ | refine g_then_exit ?_ | refine g_in_exit ?_ | refine g_in_other rfl ?_ | refine g_skip ?_
      | refine g_label ?_ | refine g_cond_true rfl ?_ | refine g_cond_false rfl ?_ | exact s_m | intro _)
    by_cases k3 : (at8 s k).toNat = 10
    · have e : [92, 110] = qR s k := by rw [hqr, if_neg k1, if_neg k2, if_pos k3]
      refine g_as 51 (v' := .bool true) rfl (congrArg Value.bool (decide_eq_true (by omega))) ?_
      repeat (first
        | (refine g_ops ?_; first | refine s_q ?_ | refine s_v ?_ | refine s_s ?_ | refine s_n (fun _ => ?_) | refine s_x ?_ | refine s_y ?_ | refine s_mq ?_ | refine s_app (fun _ _ => ?_) | refine s_mv ?_ | refine s_ms ?_ | refine s_b0 (fun _ => ?_) | ((fail_if_success refine g_lit rfl rfl rfl ?_); first | apply g_partM rfl rfl rfl | apply g_partMB rfl rfl rfl | fail))
        | refine g_seq ?_ | refine g_region ?_ | refine g_nil ?_ | refine g_then_normal ?_ | refine g_block ?_ | refine g_in_normal ?_ | refine g_retc ?_
        | refine g_then_ret ?_ | refine g_in_ret ?_ | refine g_exit ?_ | refine g_then_exit ?_ | refine g_in_exit ?_ | refine g_in_other rfl ?_ | refine g_skip ?_
        | refine g_label ?_ | refine g_cond_true rfl ?_ | refine g_cond_false rfl ?_ | exact s_m | intro _)
      rename_i q' c'
      rw [show cells8 bs ++ [Value.int .u8 92, Value.int .u8 110] = cells8 (bs ++ [92, 110]) from cells8_append bs [92, 110], show bs.length + 2 = (bs ++ [92, 110]).length by simp]
      refine g_as 5 (v' := int ((i + 1 : Nat) : Int)) rfl (congrArg (Value.int .i64) (by push_cast; rfl)) ?_
      exact g_again ⟨i + 1, bs ++ [92, 110], q', c'⟩ (by simp only; omega) ⟨hi', again _ e⟩ (by (repeat (first | exact FrSub.nil | refine FrSub.cons rfl ?_)); first | done | fail) (by (repeat (first | exact Take.nil | apply Take.cons | exact Sel.here | apply Sel.there)); first | done | fail)
    refine g_as 51 (v' := .bool false) rfl (congrArg Value.bool (decide_eq_false (by omega))) ?_
    rw [if_neg k1, if_neg k2, if_neg k3] at hqr
    repeat (first
      | (refine g_ops ?_; first | refine s_q ?_ | refine s_v ?_ | refine s_s ?_ | refine s_n (fun _ => ?_) | refine s_x ?_ | refine s_y ?_ | refine s_mq ?_ | refine s_app (fun _ _ => ?_) | refine s_mv ?_ | refine s_ms ?_ | refine s_b0 (fun _ => ?_) | ((fail_if_success refine g_lit rfl rfl rfl ?_); first | apply g_partM rfl rfl rfl | apply g_partMB rfl rfl rfl | fail))
      | apply g_regB (id := 15) 57 | refine g_seq ?_ | refine g_region ?_ | refine g_nil ?_ | refine g_then_normal ?_ | refine g_block ?_ | refine g_in_normal ?_
      | refine g_retc ?_ | refine g_then_ret ?_ | refine g_in_ret ?_ | refine g_exit ?_ | refine g_then_exit ?_ | refine g_in_exit ?_ | refine g_in_other rfl ?_
      | refine g_skip ?_ | refine g_label ?_ | refine g_cond_true rfl ?_ | refine g_cond_false rfl ?_ | exact s_m | intro _ | (refine gp_take ?_; first | refine p_q ?_ | refine p_x ?_ | refine p_mq ?_ | ((fail_if_success refine gp_lit rfl rfl rfl rfl ?_); first | apply gp_guard_dec rfl rfl rfl rfl | apply gp_guard rfl rfl rfl rfl | fail))
      | (refine gp_see ?_; first | refine p_f ?_ | refine p_sx ?_ | ((fail_if_success refine gp_lit rfl rfl rfl rfl ?_); first | apply gp_guard_dec rfl rfl rfl rfl | apply gp_guard rfl rfl rfl rfl | fail) | refine p_sq ?_)
      | (refine gp_one ?_; first | refine p_v ?_ | refine p_s ?_ | refine p_n (fun _ => ?_) | refine p_y ?_ | refine p_app (fun _ _ => ?_) | refine p_mv ?_ | refine p_ms ?_ | refine p_b0 (fun _ => ?_) | ((fail_if_success refine gp_lit rfl rfl rfl rfl ?_); first | apply gp_guard_dec rfl rfl rfl rfl | apply gp_guard rfl rfl rfl rfl | fail))
      | refine gp_two ?_ ?_ | refine gp_done hd hk ?_ | intro _ | refine p_ta hd hk (fun _ _ _ hd hk => ?_) | refine p_ts hd hk (fun _ hd hk => ?_))
    by_cases k4 : wrongB s k = true ∨ (at8 s k).toNat < 32 ∨ (at8 s k).toNat = 127
    · have e : [92, 120, hexB ((at8 s k).toNat / 16), hexB ((at8 s k).toNat % 16)] = qR s k := by rw [hqr, if_pos k4]
      refine g_as 57 (v' := .bool true) rfl (congrArg Value.bool (by cases hw : wrongB s k <;> simp [Bool.cond_eq_ite, hw] at k4 ⊢ <;> omega)) ?_
      repeat (first
        | (refine g_ops ?_; first | refine s_q ?_ | refine s_v ?_ | refine s_s ?_ | refine s_n (fun _ => ?_) | refine s_x ?_ | refine s_y ?_ | refine s_mq ?_ | refine s_app (fun _ _ => ?_) | refine s_mv ?_ | refine s_ms ?_ | refine s_b0 (fun _ => ?_) | ((fail_if_success refine g_lit rfl rfl rfl ?_); first | apply g_partM rfl rfl rfl | apply g_partMB rfl rfl rfl | fail))
        | refine g_seq ?_ | refine g_region ?_ | refine g_nil ?_ | refine g_then_normal ?_ | refine g_block ?_ | refine g_in_normal ?_ | refine g_retc ?_
        | refine g_then_ret ?_ | refine g_in_ret ?_ | refine g_exit ?_ | refine g_then_exit ?_ | refine g_in_exit ?_ | refine g_in_other rfl ?_ | refine g_skip ?_
        | refine g_label ?_ | refine g_cond_true rfl ?_ | refine g_cond_false rfl ?_ | exact s_m | intro _)
      refine g_drawO (.take 0 (.take 1 (.take 2 (.take 3 (.take 4 (.take 5 (.take 6 (.one 7 (.one 8 (.take 9 .done)))))))))) (by (repeat (first | exact Sel.here | apply Sel.there)); first | done | fail) (fun m hd hk => ?_)
      repeat (first
        | (refine gp_take ?_; first | refine p_q ?_ | refine p_x ?_ | refine p_mq ?_ | ((fail_if_success refine gp_lit rfl rfl rfl rfl ?_); first | apply gp_guard_dec rfl rfl rfl rfl | apply gp_guard rfl rfl rfl rfl | fail))
        | (refine gp_see ?_; first | refine p_f ?_ | refine p_sx ?_ | ((fail_if_success refine gp_lit rfl rfl rfl rfl ?_); first | apply gp_guard_dec rfl rfl rfl rfl | apply gp_guard rfl rfl rfl rfl | fail) | refine p_sq ?_)
        | (refine gp_one ?_; first | refine p_v ?_ | refine p_s ?_ | refine p_n (fun _ => ?_) | refine p_y ?_ | refine p_app (fun _ _ => ?_) | refine p_mv ?_ | refine p_ms ?_ | refine p_b0 (fun _ => ?_) | ((fail_if_success refine gp_lit rfl rfl rfl rfl ?_); first | apply gp_guard_dec rfl rfl rfl rfl | apply gp_guard rfl rfl rfl rfl | fail))
        | refine gp_two ?_ ?_ | refine gp_done hd hk ?_ | intro _ | refine p_ta hd hk (fun _ _ _ hd hk => ?_) | refine p_ts hd hk (fun _ hd hk => ?_))
      refine p_q (q := by intro Δ; exact qs_shrK (i := .u8) (a := (at8 s k).toNat) (n := 4) rfl rfl (by decide)) ?_
      repeat (first
        | (refine gp_take ?_; first | refine p_q ?_ | refine p_x ?_ | refine p_mq ?_ | ((fail_if_success refine gp_lit rfl rfl rfl rfl ?_); first | apply gp_guard_dec rfl rfl rfl rfl | apply gp_guard rfl rfl rfl rfl | fail))
        | (refine gp_see ?_; first | refine p_f ?_ | refine p_sx ?_ | ((fail_if_success refine gp_lit rfl rfl rfl rfl ?_); first | apply gp_guard_dec rfl rfl rfl rfl | apply gp_guard rfl rfl rfl rfl | fail) | refine p_sq ?_)
        | (refine gp_one ?_; first | refine p_v ?_ | refine p_s ?_ | refine p_n (fun _ => ?_) | refine p_y ?_ | refine p_app (fun _ _ => ?_) | refine p_mv ?_ | refine p_ms ?_ | refine p_b0 (fun _ => ?_) | ((fail_if_success refine gp_lit rfl rfl rfl rfl ?_); first | apply gp_guard_dec rfl rfl rfl rfl | apply gp_guard rfl rfl rfl rfl | fail))
        | refine gp_two ?_ ?_ | refine gp_done hd hk ?_ | intro _ | refine p_ta hd hk (fun _ _ _ hd hk => ?_) | refine p_ts hd hk (fun _ hd hk => ?_))
      refine p_q (q := by intro Δ; exact qs_indexStr (s := hexS) (k := .u8) (i := (at8 s k).toNat / 16) inferInstance rfl (by rw [← shr4]; rfl) (by show _ < 16; omega)) ?_
      repeat (first
        | (refine gp_take ?_; first | refine p_q ?_ | refine p_x ?_ | refine p_mq ?_ | ((fail_if_success refine gp_lit rfl rfl rfl rfl ?_); first | apply gp_guard_dec rfl rfl rfl rfl | apply gp_guard rfl rfl rfl rfl | fail))
        | (refine gp_see ?_; first | refine p_f ?_ | refine p_sx ?_ | ((fail_if_success refine gp_lit rfl rfl rfl rfl ?_); first | apply gp_guard_dec rfl rfl rfl rfl | apply gp_guard rfl rfl rfl rfl | fail) | refine p_sq ?_)
        | (refine gp_one ?_; first | refine p_v ?_ | refine p_s ?_ | refine p_n (fun _ => ?_) | refine p_y ?_ | refine p_app (fun _ _ => ?_) | refine p_mv ?_ | refine p_ms ?_ | refine p_b0 (fun _ => ?_) | ((fail_if_success refine gp_lit rfl rfl rfl rfl ?_); first | apply gp_guard_dec rfl rfl rfl rfl | apply gp_guard rfl rfl rfl rfl | fail))
        | refine gp_two ?_ ?_ | refine gp_done hd hk ?_ | intro _ | refine p_ta hd hk (fun _ _ _ hd hk => ?_) | refine p_ts hd hk (fun _ hd hk => ?_))
      refine p_q (q := by intro Δ; exact qs_and8 (a := (at8 s k).toNat) (b := 15) rfl rfl h8 (by decide)) ?_
      repeat (first
        | (refine gp_take ?_; first | refine p_q ?_ | refine p_x ?_ | refine p_mq ?_ | ((fail_if_success refine gp_lit rfl rfl rfl rfl ?_); first | apply gp_guard_dec rfl rfl rfl rfl | apply gp_guard rfl rfl rfl rfl | fail))
        | (refine gp_see ?_; first | refine p_f ?_ | refine p_sx ?_ | ((fail_if_success refine gp_lit rfl rfl rfl rfl ?_); first | apply gp_guard_dec rfl rfl rfl rfl | apply gp_guard rfl rfl rfl rfl | fail) | refine p_sq ?_)
        | (refine gp_one ?_; first | refine p_v ?_ | refine p_s ?_ | refine p_n (fun _ => ?_) | refine p_y ?_ | refine p_app (fun _ _ => ?_) | refine p_mv ?_ | refine p_ms ?_ | refine p_b0 (fun _ => ?_) | ((fail_if_success refine gp_lit rfl rfl rfl rfl ?_); first | apply gp_guard_dec rfl rfl rfl rfl | apply gp_guard rfl rfl rfl rfl | fail))
        | refine gp_two ?_ ?_ | refine gp_done hd hk ?_ | intro _ | refine p_ta hd hk (fun _ _ _ hd hk => ?_) | refine p_ts hd hk (fun _ hd hk => ?_))
      refine p_q (q := by intro Δ; exact qs_indexStr (s := hexS) (k := .u8) (i := (at8 s k).toNat % 16) inferInstance rfl (by rw [← and15]; rfl) (by show _ < 16; omega)) ?_
      refine gp_as 74 (v' := .int .u8 ((hexB ((at8 s k).toNat / 16)).toNat : Int)) rfl (by rw [hex_at _ (by omega)]) ?_
      refine gp_as 77 (v' := .int .u8 ((hexB ((at8 s k).toNat % 16)).toNat : Int)) rfl (by rw [hex_at _ (by omega)]) ?_
      generalize hexB ((at8 s k).toNat / 16) = y0 at e ⊢
      generalize hexB ((at8 s k).toNat % 16) = y1 at e ⊢
      repeat (first
        | (refine gp_take ?_; first | refine p_q ?_ | refine p_x ?_ | refine p_mq ?_ | ((fail_if_success refine gp_lit rfl rfl rfl rfl ?_); first | apply gp_guard_dec rfl rfl rfl rfl | apply gp_guard rfl rfl rfl rfl | fail))
        | (refine gp_see ?_; first | refine p_f ?_ | refine p_sx ?_ | ((fail_if_success refine gp_lit rfl rfl rfl rfl ?_); first | apply gp_guard_dec rfl rfl rfl rfl | apply gp_guard rfl rfl rfl rfl | fail) | refine p_sq ?_)
        | (refine gp_one ?_; first | refine p_v ?_ | refine p_s ?_ | refine p_n (fun _ => ?_) | refine p_y ?_ | refine p_app (fun _ _ => ?_) | refine p_mv ?_ | refine p_ms ?_ | refine p_b0 (fun _ => ?_) | ((fail_if_success refine gp_lit rfl rfl rfl rfl ?_); first | apply gp_guard_dec rfl rfl rfl rfl | apply gp_guard rfl rfl rfl rfl | fail))
        | refine gp_two ?_ ?_ | refine gp_done hd hk ?_ | intro _ | refine p_ta hd hk (fun _ _ _ hd hk => ?_) | refine p_ts hd hk (fun _ hd hk => ?_))
      rename_i q' c'
      rw [show cells8 bs ++ [Value.int .u8 92, Value.int .u8 120, Value.int .u8 (y0.toNat : Int), Value.int .u8 (y1.toNat : Int)] = cells8 (bs ++ [92, 120, y0, y1]) from cells8_append bs [92, 120, y0, y1], show bs.length + 4 = (bs ++ [92, 120, y0, y1]).length by simp]
      repeat (first
        | (refine g_ops ?_; first | refine s_q ?_ | refine s_v ?_ | refine s_s ?_ | refine s_n (fun _ => ?_) | refine s_x ?_ | refine s_y ?_ | refine s_mq ?_ | refine s_app (fun _ _ => ?_) | refine s_mv ?_ | refine s_ms ?_ | refine s_b0 (fun _ => ?_) | ((fail_if_success refine g_lit rfl rfl rfl ?_); first | apply g_partM rfl rfl rfl | apply g_partMB rfl rfl rfl | fail))
        | refine g_seq ?_ | refine g_region ?_ | refine g_nil ?_ | refine g_then_normal ?_ | refine g_block ?_ | refine g_in_normal ?_ | refine g_retc ?_
        | refine g_then_ret ?_ | refine g_in_ret ?_ | refine g_exit ?_ | refine g_then_exit ?_ | refine g_in_exit ?_ | refine g_in_other rfl ?_ | refine g_skip ?_
        | refine g_label ?_ | refine g_cond_true rfl ?_ | refine g_cond_false rfl ?_ | exact s_m | intro _)
      refine g_as 5 (v' := int ((i + 1 : Nat) : Int)) rfl (congrArg (Value.int .i64) (by push_cast; rfl)) ?_
      exact g_again ⟨i + 1, bs ++ [92, 120, y0, y1], q', c'⟩ (by simp only; omega) ⟨hi', again _ e⟩ (by (repeat (first | exact FrSub.nil | refine FrSub.cons rfl ?_)); first | done | fail) (by (repeat (first | exact Take.nil | apply Take.cons | exact Sel.here | apply Sel.there)); first | done | fail)
    · have e : (s.data.toList.drop k).take (Utf8.decode s k).2 = qR s k := by rw [hqr, if_neg k4]
      refine g_as 57 (v' := .bool false) rfl (congrArg Value.bool (by cases hw : wrongB s k <;> simp [Bool.cond_eq_ite, hw] at k4 ⊢ <;> omega)) ?_
      have hsl : s.extract k (k + (Utf8.decode s k).2) = ⟨((s.data.toList.drop k).take (Utf8.decode s k).2).toArray⟩ := by
        apply ByteArray.ext
        apply Array.toList_inj.1
        rw [ByteArray.data_extract, Array.toList_extract]
        simp [List.extract_eq_take_drop]
      have hsl2 : ((s.data.toList.drop k).take (Utf8.decode s k).2).length ≤ s.size := by rw [List.length_take, List.length_drop]; simp; omega
      repeat (first
        | (refine g_ops ?_; first | refine s_q ?_ | refine s_v ?_ | refine s_s ?_ | refine s_n (fun _ => ?_) | refine s_x ?_ | refine s_y ?_ | refine s_mq ?_ | refine s_app (fun _ _ => ?_) | refine s_mv ?_ | refine s_ms ?_ | refine s_b0 (fun _ => ?_) | ((fail_if_success refine g_lit rfl rfl rfl ?_); first | apply g_partM rfl rfl rfl | apply g_partMB rfl rfl rfl | fail))
        | refine g_seq ?_ | refine g_region ?_ | refine g_nil ?_ | refine g_then_normal ?_ | refine g_block ?_ | refine g_in_normal ?_ | refine g_retc ?_
        | refine g_then_ret ?_ | refine g_in_ret ?_ | refine g_exit ?_ | refine g_then_exit ?_ | refine g_in_exit ?_ | refine g_in_other rfl ?_ | refine g_skip ?_
        | refine g_label ?_ | refine g_cond_true rfl ?_ | refine g_cond_false rfl ?_ | exact s_m | intro _)
      refine g_drawO (.take 0 (.take 1 (.take 2 (.take 3 (.take 4 (.take 5 (.see 6 [] (.take 7 (.take 8 (.take 9 (.take 10 (.see 11 [] (.take 12 (.one 13 (.take 14 .done))))))))))))))) (by (repeat (first | exact Sel.here | apply Sel.there)); first | done | fail) (fun m hd hk => ?_)
      repeat (first
        | (refine gp_take ?_; first | refine p_q ?_ | refine p_x ?_ | refine p_mq ?_ | ((fail_if_success refine gp_lit rfl rfl rfl rfl ?_); first | apply gp_guard_dec rfl rfl rfl rfl | apply gp_guard rfl rfl rfl rfl | fail))
        | (refine gp_see ?_; first | refine p_f ?_ | refine p_sx ?_ | ((fail_if_success refine gp_lit rfl rfl rfl rfl ?_); first | apply gp_guard_dec rfl rfl rfl rfl | apply gp_guard rfl rfl rfl rfl | fail) | refine p_sq ?_)
        | (refine gp_one ?_; first | refine p_v ?_ | refine p_s ?_ | refine p_n (fun _ => ?_) | refine p_y ?_ | refine p_app (fun _ _ => ?_) | refine p_mv ?_ | refine p_ms ?_ | refine p_b0 (fun _ => ?_) | ((fail_if_success refine gp_lit rfl rfl rfl rfl ?_); first | apply gp_guard_dec rfl rfl rfl rfl | apply gp_guard rfl rfl rfl rfl | fail))
        | refine gp_two ?_ ?_ | refine gp_done hd hk ?_ | intro _ | refine p_ta hd hk (fun _ _ _ hd hk => ?_) | refine p_ts hd hk (fun _ hd hk => ?_))
      refine p_q (q := by intro Δ; exact qs_sliceStr (l := k) (h := k + (Utf8.decode s k).2) inferInstance rfl (.some rfl rfl) (.some rfl rfl) (by omega) hin) ?_
      refine gp_as 37 (v' := .string ⟨((s.data.toList.drop k).take (Utf8.decode s k).2).toArray⟩) rfl (by rw [hsl]) ?_
      generalize (s.data.toList.drop k).take (Utf8.decode s k).2 = news at e hsl2 ⊢
      refine gp_one ?_
      refine p_appB (news := news) (fun q' c' => ?_) (src := by exact srcL inferInstance)
      repeat (first
        | (refine gp_take ?_; first | refine p_q ?_ | refine p_x ?_ | refine p_mq ?_ | ((fail_if_success refine gp_lit rfl rfl rfl rfl ?_); first | apply gp_guard_dec rfl rfl rfl rfl | apply gp_guard rfl rfl rfl rfl | fail))
        | (refine gp_see ?_; first | refine p_f ?_ | refine p_sx ?_ | ((fail_if_success refine gp_lit rfl rfl rfl rfl ?_); first | apply gp_guard_dec rfl rfl rfl rfl | apply gp_guard rfl rfl rfl rfl | fail) | refine p_sq ?_)
        | (refine gp_one ?_; first | refine p_v ?_ | refine p_s ?_ | refine p_n (fun _ => ?_) | refine p_y ?_ | refine p_app (fun _ _ => ?_) | refine p_mv ?_ | refine p_ms ?_ | refine p_b0 (fun _ => ?_) | ((fail_if_success refine gp_lit rfl rfl rfl rfl ?_); first | apply gp_guard_dec rfl rfl rfl rfl | apply gp_guard rfl rfl rfl rfl | fail))
        | refine gp_two ?_ ?_ | refine gp_done hd hk ?_ | intro _ | refine p_ta hd hk (fun _ _ _ hd hk => ?_) | refine p_ts hd hk (fun _ hd hk => ?_))
      repeat (first
        | (refine g_ops ?_; first | refine s_q ?_ | refine s_v ?_ | refine s_s ?_ | refine s_n (fun _ => ?_) | refine s_x ?_ | refine s_y ?_ | refine s_mq ?_ | refine s_app (fun _ _ => ?_) | refine s_mv ?_ | refine s_ms ?_ | refine s_b0 (fun _ => ?_) | ((fail_if_success refine g_lit rfl rfl rfl ?_); first | apply g_partM rfl rfl rfl | apply g_partMB rfl rfl rfl | fail))
        | refine g_seq ?_ | refine g_region ?_ | refine g_nil ?_ | refine g_then_normal ?_ | refine g_block ?_ | refine g_in_normal ?_ | refine g_retc ?_
        | refine g_then_ret ?_ | refine g_in_ret ?_ | refine g_exit ?_ | refine g_then_exit ?_ | refine g_in_exit ?_ | refine g_in_other rfl ?_ | refine g_skip ?_
        | refine g_label ?_ | refine g_cond_true rfl ?_ | refine g_cond_false rfl ?_ | exact s_m | intro _)
      refine g_as 5 (v' := int ((i + 1 : Nat) : Int)) rfl (congrArg (Value.int .i64) (by push_cast; rfl)) ?_
      exact g_again ⟨i + 1, bs ++ news, q', c'⟩ (by simp only; omega) ⟨hi', again _ e⟩ (by (repeat (first | exact FrSub.nil | refine FrSub.cons rfl ?_)); first | done | fail) (by (repeat (first | exact Take.nil | apply Take.cons | exact Sel.here | apply Sel.there)); first | done | fail)
  · obtain rfl : i = (pos s).length := by omega
    rw [List.drop_length, List.flatMap_nil, List.append_nil] at he
    repeat (first
      | (refine g_ops ?_; first | refine s_q ?_ | refine s_v ?_ | refine s_s ?_ | refine s_n (fun _ => ?_) | refine s_x ?_ | refine s_y ?_ | refine s_mq ?_ | refine s_app (fun _ _ => ?_) | refine s_mv ?_ | refine s_ms ?_ | refine s_b0 (fun _ => ?_) | ((fail_if_success refine g_lit rfl rfl rfl ?_); first | apply g_partM rfl rfl rfl | apply g_partMB rfl rfl rfl | fail))
      | refine g_seq ?_ | refine g_region ?_ | refine g_nil ?_ | refine g_then_normal ?_ | refine g_block ?_ | refine g_in_normal ?_ | refine g_retc ?_
      | refine g_then_ret ?_ | refine g_in_ret ?_ | refine g_exit ?_ | refine g_then_exit ?_ | refine g_in_exit ?_ | refine g_in_other rfl ?_ | refine g_skip ?_
      | refine g_label ?_ | refine g_cond_true rfl ?_ | refine g_cond_false rfl ?_ | exact s_m | intro _)
    have e : bs ++ [34] = quoteL s := by rw [hqs, ← he]; rfl
    rename_i q' c'
    rw [show cells8 bs ++ [Value.int .u8 34] = cells8 (bs ++ [34]) from cells8_append bs [34], show bs.length + 1 = (bs ++ [34]).length by simp, e]
    refine g_v (vs_bytesStr inferInstance inferInstance inferInstance rfl (by (repeat (first | exact Sel.here | apply Sel.there)); first | done | fail)) rfl rfl ?_
    repeat (first
      | (refine g_ops ?_; first | refine s_q ?_ | refine s_v ?_ | refine s_s ?_ | refine s_n (fun _ => ?_) | refine s_x ?_ | refine s_y ?_ | refine s_mq ?_ | refine s_app (fun _ _ => ?_) | refine s_mv ?_ | refine s_ms ?_ | refine s_b0 (fun _ => ?_) | ((fail_if_success refine g_lit rfl rfl rfl ?_); first | apply g_partM rfl rfl rfl | apply g_partMB rfl rfl rfl | fail))
      | refine g_seq ?_ | refine g_region ?_ | refine g_nil ?_ | refine g_then_normal ?_ | refine g_block ?_ | refine g_in_normal ?_ | refine g_retc ?_
      | refine g_then_ret ?_ | refine g_in_ret ?_ | refine g_exit ?_ | refine g_then_exit ?_ | refine g_in_exit ?_ | refine g_in_other rfl ?_ | refine g_skip ?_
      | refine g_label ?_ | refine g_cond_true rfl ?_ | refine g_cond_false rfl ?_ | exact s_m | intro _)
    refine g_unpile hs1 (by (repeat (first | exact Sel.here | apply Sel.there)); first | done | fail) ?_
    exact s_r ()
end Go.Proofs.YtpilcncdgjnbeaaDoor
