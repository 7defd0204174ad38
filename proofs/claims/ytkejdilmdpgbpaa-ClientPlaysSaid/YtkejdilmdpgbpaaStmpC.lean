/- Contracts: stamp.most, stamp.Max, stamp.Min. -/
import Derived.Test.YtkejdilmdpgbpaaStmpB
set_option linter.unusedSimpArgs false
set_option linter.unusedVariables false
namespace Go.Proofs.Ytkejdilmdpgbpaa
open Go.Sl facts
attribute [local irreducible] Code.wp wpList Exit.then Exit.inBlock bodyPost Back MidQ G GP QStep VStep CStep SStep Does Post Reads

structure S3 where
  w : Int
  l : Int
  n : Int
def S3.cells (s : S3) : List Value := [.int .i64 s.w, .int .i64 s.l, .int .i64 s.n]
abbrev S3.v (s : S3) : Value := .agg [.int .i64 s.w, .int .i64 s.l, .int .i64 s.n].toArray
def S3.zero : S3 := ⟨0, 0, 0⟩
def ordS (a b : S3) : Int := ordI a.w a.l a.n b.w b.l b.n
def mostFrom (way : Int) : S3 → List S3 → S3
  | s, [] => s
  | s, x :: l => mostFrom way (if ordS x s * way > 0 then x else s) l
def mostL (way : Int) : List S3 → S3
  | [] => S3.zero
  | x :: l => mostFrom way x l
theorem mostFrom_snoc (way : Int) (y : S3) : ∀ (l : List S3) (s : S3), mostFrom way s (l ++ [y]) = if ordS y (mostFrom way s l) * way > 0 then y else mostFrom way s l
  | [], s => rfl
  | x :: l, s => by simp only [List.cons_append, mostFrom]; exact mostFrom_snoc way y l _
theorem mostL_snoc (way : Int) (y : S3) : ∀ (l : List S3), l ≠ [] → mostL way (l ++ [y]) = if ordS y (mostL way l) * way > 0 then y else mostL way l
  | [], h => absurd rfl h
  | x :: l, _ => mostFrom_snoc way y l x
theorem take_snoc {α : Type} (l : List α) (k : Nat) (d : α) (h : k < l.length) : l.take (k + 1) = l.take k ++ [l.getD k d] := by
  rw [List.take_succ_eq_append_getElem h]; simp [h]
theorem cmpI_range (x y : Int) : -1 ≤ cmpI x y ∧ cmpI x y ≤ 1 := by unfold cmpI; split <;> (try split) <;> omega
theorem orI3_range (x y z : Int) (hx : -1 ≤ x ∧ x ≤ 1) (hy : -1 ≤ y ∧ y ≤ 1) (hz : -1 ≤ z ∧ z ≤ 1) : -1 ≤ orI [x, y, z] ∧ orI [x, y, z] ≤ 1 := by
  simp only [orI]; split <;> (try split) <;> (try split) <;> omega
theorem ordS_range (a b : S3) : -1 ≤ ordS a b ∧ ordS a b ≤ 1 := orI3_range _ _ _ (cmpI_range _ _) (cmpI_range _ _) (cmpI_range _ _)

/-- The cells of stamps that lie side by side. -/
def ReadsS (C : Chunk) (b o : Nat) (xs : List S3) : Prop := ∀ k, k < xs.length → ∀ (j : Nat) (v : Value), (xs.getD k S3.zero).cells[j]? = some v → Reads C ⟨b, o + k * 3 + j, none⟩ v

theorem most_any (C : Chunk) (b o cap : Nat) (xs : List S3) (way : Int) (hw : way = 1 ∨ way = -1) (hl : xs.length < 1000000000000) (hrs : ReadsS C b o xs) :
    Does1 Try.prog 36 [.slice (some ⟨b, o, none⟩) xs.length cap, .int .i64 way] [C] (mostL way xs).v := by
  have hr : ∀ k, k < xs.length → ∀ (j : Nat) (v : Value), [Value.int .i64 (xs.getD k S3.zero).w, Value.int .i64 (xs.getD k S3.zero).l, Value.int .i64 (xs.getD k S3.zero).n][j]? = some v → Reads C ⟨b, o + k * 3 + j, none⟩ v := hrs
  refine fn_intro Try.func36 rfl Try.ntmps36 rfl (by simp only [argFr, Nat.zero_add, Nat.reduceAdd]; rfl) (fun Γ => ?_)
  repeat (first
    | (refine g_ops ?_; first | refine s_q ?_ | refine s_v ?_ | refine s_s ?_ | refine s_n (fun _ => ?_) | refine s_x ?_ | refine s_y ?_ | ((fail_if_success refine g_lit rfl rfl rfl ?_); first | apply g_partM rfl rfl rfl | apply g_partMB rfl rfl rfl | fail))
    | refine g_seq ?_ | refine g_region ?_ | refine g_nil ?_ | refine g_then_normal ?_ | refine g_block ?_ | refine g_in_normal ?_ | refine g_retc ?_ | refine g_then_ret ?_
    | refine g_in_ret ?_ | refine g_exit ?_ | refine g_then_exit ?_ | refine g_in_exit ?_ | refine g_in_other rfl ?_ | refine g_skip ?_ | refine g_label ?_
    | refine g_cond_true rfl ?_ | refine g_cond_false rfl ?_ | exact s_m | intro _)
  rename_i b4
  refine g_loop (X := Nat) (fun k => [(1, .int .i64 way), (4, .pointer (some ⟨b4, 0, none⟩)), (7, .slice (some ⟨b, o, none⟩) xs.length cap), (8, .int .i64 xs.length), (9, .int .i64 k)])
    (fun k => [C, .row b4 [.int .i64 (mostL way (xs.take k)).w, .int .i64 (mostL way (xs.take k)).l, .int .i64 (mostL way (xs.take k)).n] 25]) (fun k => k ≤ xs.length) (fun k => xs.length - k) 0 (Nat.zero_le _) (by (repeat (first | exact FrSub.nil | refine FrSub.cons rfl ?_)); first | done | fail) (by (repeat (first | exact Take.nil | apply Take.cons | exact Sel.here | apply Sel.there)); first | done | fail) (fun k hk => ?_)
  repeat (first
    | (refine g_ops ?_; first | refine s_q ?_ | refine s_v ?_ | refine s_s ?_ | refine s_n (fun _ => ?_) | refine s_x ?_ | refine s_y ?_ | ((fail_if_success refine g_lit rfl rfl rfl ?_); first | apply g_partM rfl rfl rfl | apply g_partMB rfl rfl rfl | fail))
    | refine g_seq ?_ | refine g_region ?_ | refine g_nil ?_ | refine g_then_normal ?_ | refine g_block ?_ | refine g_in_normal ?_ | refine g_retc ?_ | refine g_then_ret ?_
    | refine g_in_ret ?_ | refine g_exit ?_ | refine g_then_exit ?_ | refine g_in_exit ?_ | refine g_in_other rfl ?_ | refine g_skip ?_ | refine g_label ?_
    | refine g_cond_true rfl ?_ | refine g_cond_false rfl ?_ | exact s_m | intro _)
  refine g_cond_dec rfl (fun h => ?_) (fun h => ?_)
  · repeat (first
      | (refine g_ops ?_; first | refine s_q ?_ | refine s_v ?_ | refine s_s ?_ | refine s_n (fun _ => ?_) | refine s_x ?_ | refine s_y ?_ | ((fail_if_success refine g_lit rfl rfl rfl ?_); first | apply g_partM rfl rfl rfl | apply g_partMB rfl rfl rfl | fail))
      | refine g_seq ?_ | refine g_region ?_ | refine g_nil ?_ | refine g_then_normal ?_ | refine g_block ?_ | refine g_in_normal ?_ | refine g_retc ?_
      | refine g_then_ret ?_ | refine g_in_ret ?_ | refine g_exit ?_ | refine g_then_exit ?_ | refine g_in_exit ?_ | refine g_in_other rfl ?_ | refine g_skip ?_
      | refine g_label ?_ | refine g_cond_true rfl ?_ | refine g_cond_false rfl ?_ | exact s_m | intro _)
    have hk' : k < xs.length := by omega
    have ho := ordS_range (xs.getD k S3.zero) (mostL way (xs.take k))
    unfold ordS at ho
    refine g_guard_dec rfl rfl rfl (fun h0 => ?_) (fun h0 => ?_)
    · repeat (first
        | (refine g_ops ?_; first | refine s_q ?_ | refine s_v ?_ | refine s_s ?_ | refine s_n (fun _ => ?_) | refine s_x ?_ | refine s_y ?_ | ((fail_if_success refine g_lit rfl rfl rfl ?_); first | apply g_partM rfl rfl rfl | apply g_partMB rfl rfl rfl | fail))
        | refine g_seq ?_ | refine g_region ?_ | refine g_nil ?_ | refine g_then_normal ?_ | refine g_block ?_ | refine g_in_normal ?_ | refine g_retc ?_
        | refine g_then_ret ?_ | refine g_in_ret ?_ | refine g_exit ?_ | refine g_then_exit ?_ | refine g_in_exit ?_ | refine g_in_other rfl ?_ | refine g_skip ?_
        | refine g_label ?_ | refine g_cond_true rfl ?_ | refine g_cond_false rfl ?_ | exact s_m | intro _)
      have e : mostL way (xs.take (k + 1)) = xs.getD k S3.zero := by
        obtain rfl : k = 0 := by omega
        rw [take_snoc xs 0 S3.zero hk']; rfl
      exact g_again (k + 1) (by omega) (by omega) (by (repeat (first | exact FrSub.nil | refine FrSub.cons rfl ?_)); first | done | fail) (by rw [e]; exact (by (repeat (first | exact Take.nil | apply Take.cons | exact Sel.here | apply Sel.there)); first | done | fail))
    · repeat (first
        | (refine g_ops ?_; first | refine s_q ?_ | refine s_v ?_ | refine s_s ?_ | refine s_n (fun _ => ?_) | refine s_x ?_ | refine s_y ?_ | ((fail_if_success refine g_lit rfl rfl rfl ?_); first | apply g_partM rfl rfl rfl | apply g_partMB rfl rfl rfl | fail))
        | refine g_seq ?_ | refine g_region ?_ | refine g_nil ?_ | refine g_then_normal ?_ | refine g_block ?_ | refine g_in_normal ?_ | refine g_retc ?_
        | refine g_then_ret ?_ | refine g_in_ret ?_ | refine g_exit ?_ | refine g_then_exit ?_ | refine g_in_exit ?_ | refine g_in_other rfl ?_ | refine g_skip ?_
        | refine g_label ?_ | refine g_cond_true rfl ?_ | refine g_cond_false rfl ?_ | exact s_m | intro _)
      refine g_q (qs_call (order _ _ _ _ _ _) (by (repeat (first | exact Evs.nil | refine Evs.cons rfl ?_)); first | done | fail)) rfl rfl ?_
      have hm : inI (ordI (xs.getD k S3.zero).w (xs.getD k S3.zero).l (xs.getD k S3.zero).n (mostL way (xs.take k)).w (mostL way (xs.take k)).l (mostL way (xs.take k)).n * way) := by
        rcases hw with rfl | rfl <;> constructor <;> omega
      repeat (first
        | (refine g_ops ?_; first | refine s_q ?_ | refine s_v ?_ | refine s_s ?_ | refine s_n (fun _ => ?_) | refine s_x ?_ | refine s_y ?_ | ((fail_if_success refine g_lit rfl rfl rfl ?_); first | apply g_partM rfl rfl rfl | apply g_partMB rfl rfl rfl | fail))
        | refine g_seq ?_ | refine g_region ?_ | refine g_nil ?_ | refine g_then_normal ?_ | refine g_block ?_ | refine g_in_normal ?_ | refine g_retc ?_
        | refine g_then_ret ?_ | refine g_in_ret ?_ | refine g_exit ?_ | refine g_then_exit ?_ | refine g_in_exit ?_ | refine g_in_other rfl ?_ | refine g_skip ?_
        | refine g_label ?_ | refine g_cond_true rfl ?_ | refine g_cond_false rfl ?_ | exact s_m | intro _)
      refine g_q (qs_mulI rfl rfl hm) rfl rfl ?_
      repeat (first
        | (refine g_ops ?_; first | refine s_q ?_ | refine s_v ?_ | refine s_s ?_ | refine s_n (fun _ => ?_) | refine s_x ?_ | refine s_y ?_ | ((fail_if_success refine g_lit rfl rfl rfl ?_); first | apply g_partM rfl rfl rfl | apply g_partMB rfl rfl rfl | fail))
        | refine g_seq ?_ | refine g_region ?_ | refine g_nil ?_ | refine g_then_normal ?_ | refine g_block ?_ | refine g_in_normal ?_ | refine g_retc ?_
        | refine g_then_ret ?_ | refine g_in_ret ?_ | refine g_exit ?_ | refine g_then_exit ?_ | refine g_in_exit ?_ | refine g_in_other rfl ?_ | refine g_skip ?_
        | refine g_label ?_ | refine g_cond_true rfl ?_ | refine g_cond_false rfl ?_ | exact s_m | intro _)
      have e1 := mostL_snoc way (xs.getD k S3.zero) (xs.take k) (List.ne_nil_of_length_pos (by simp; omega))
      rw [← take_snoc xs k S3.zero hk'] at e1
      unfold ordS at e1
      refine g_cond_dec rfl (fun h2 => ?_) (fun h2 => ?_)
      · rw [if_pos h2] at e1
        repeat (first
          | (refine g_ops ?_; first | refine s_q ?_ | refine s_v ?_ | refine s_s ?_ | refine s_n (fun _ => ?_) | refine s_x ?_ | refine s_y ?_ | ((fail_if_success refine g_lit rfl rfl rfl ?_); first | apply g_partM rfl rfl rfl | apply g_partMB rfl rfl rfl | fail))
          | refine g_seq ?_ | refine g_region ?_ | refine g_nil ?_ | refine g_then_normal ?_ | refine g_block ?_ | refine g_in_normal ?_ | refine g_retc ?_
          | refine g_then_ret ?_ | refine g_in_ret ?_ | refine g_exit ?_ | refine g_then_exit ?_ | refine g_in_exit ?_ | refine g_in_other rfl ?_ | refine g_skip ?_
          | refine g_label ?_ | refine g_cond_true rfl ?_ | refine g_cond_false rfl ?_ | exact s_m | intro _)
        exact g_again (k + 1) (by omega) (by omega) (by (repeat (first | exact FrSub.nil | refine FrSub.cons rfl ?_)); first | done | fail) (by rw [e1]; exact (by (repeat (first | exact Take.nil | apply Take.cons | exact Sel.here | apply Sel.there)); first | done | fail))
      · rw [if_neg h2] at e1
        repeat (first
          | (refine g_ops ?_; first | refine s_q ?_ | refine s_v ?_ | refine s_s ?_ | refine s_n (fun _ => ?_) | refine s_x ?_ | refine s_y ?_ | ((fail_if_success refine g_lit rfl rfl rfl ?_); first | apply g_partM rfl rfl rfl | apply g_partMB rfl rfl rfl | fail))
          | refine g_seq ?_ | refine g_region ?_ | refine g_nil ?_ | refine g_then_normal ?_ | refine g_block ?_ | refine g_in_normal ?_ | refine g_retc ?_
          | refine g_then_ret ?_ | refine g_in_ret ?_ | refine g_exit ?_ | refine g_then_exit ?_ | refine g_in_exit ?_ | refine g_in_other rfl ?_ | refine g_skip ?_
          | refine g_label ?_ | refine g_cond_true rfl ?_ | refine g_cond_false rfl ?_ | exact s_m | intro _)
        exact g_again (k + 1) (by omega) (by omega) (by (repeat (first | exact FrSub.nil | refine FrSub.cons rfl ?_)); first | done | fail) (by rw [e1]; exact (by (repeat (first | exact Take.nil | apply Take.cons | exact Sel.here | apply Sel.there)); first | done | fail))
  · repeat (first
      | (refine g_ops ?_; first | refine s_q ?_ | refine s_v ?_ | refine s_s ?_ | refine s_n (fun _ => ?_) | refine s_x ?_ | refine s_y ?_ | ((fail_if_success refine g_lit rfl rfl rfl ?_); first | apply g_partM rfl rfl rfl | apply g_partMB rfl rfl rfl | fail))
      | refine g_seq ?_ | refine g_region ?_ | refine g_nil ?_ | refine g_then_normal ?_ | refine g_block ?_ | refine g_in_normal ?_ | refine g_retc ?_
      | refine g_then_ret ?_ | refine g_in_ret ?_ | refine g_exit ?_ | refine g_then_exit ?_ | refine g_in_exit ?_ | refine g_in_other rfl ?_ | refine g_skip ?_
      | refine g_label ?_ | refine g_cond_true rfl ?_ | refine g_cond_false rfl ?_ | exact s_m | intro _)
    exact g_ret () rfl (by (repeat (first | exact RVs.nil | apply RVs.tmp rfl | apply RVs.cellA rfl (by (repeat (first | exact Sel.here | apply Sel.there)); first | done | fail) (by (repeat (first | exact Cut.zero | apply Cut.take | apply Cut.skip)); first | done | fail) | apply RVs.cell1 rfl (by (repeat (first | exact Sel.here | apply Sel.there)); first | done | fail) rfl)); first | done | fail) (by (repeat (first | exact Take.nil | apply Take.cons | exact Sel.here | apply Sel.there)); first | done | fail) (by rw [List.take_of_length_le (by omega)]; rfl) trivial
/-- Of two. -/
def maxS (a b : S3) : S3 := if ordS b a * 1 > 0 then b else a
def minS (a b : S3) : S3 := if ordS b a * (-1) > 0 then b else a
theorem max2 (b cap : Nat) (e : TypeId) (x y : S3) :
    Does1 Try.prog 27 [.slice (some ⟨b, 0, none⟩) 2 cap] [.row b [.int .i64 x.w, .int .i64 x.l, .int .i64 x.n, .int .i64 y.w, .int .i64 y.l, .int .i64 y.n] e] (maxS x y).v := by
  have hr : ReadsS (.row b [.int .i64 x.w, .int .i64 x.l, .int .i64 x.n, .int .i64 y.w, .int .i64 y.l, .int .i64 y.n] e) b 0 [x, y] := fun k hk j v hv => reads_row (by
    match k, hk, j, hv with
    | 0, _, 0, hv => simpa [S3.cells] using hv
    | 0, _, 1, hv => simpa [S3.cells] using hv
    | 0, _, 2, hv => simpa [S3.cells] using hv
    | 1, _, 0, hv => simpa [S3.cells] using hv
    | 1, _, 1, hv => simpa [S3.cells] using hv
    | 1, _, 2, hv => simpa [S3.cells] using hv
    | 0, _, j + 3, hv => simp [S3.cells] at hv
    | 1, _, j + 3, hv => simp [S3.cells] at hv)
  refine fn_intro Try.func27 rfl Try.ntmps27 rfl (by simp only [argFr, Nat.zero_add, Nat.reduceAdd]; rfl) (fun Γ => ?_)
  repeat (first
    | (refine g_ops ?_; first | refine s_q ?_ | refine s_v ?_ | refine s_s ?_ | refine s_n (fun _ => ?_) | refine s_x ?_ | refine s_y ?_ | ((fail_if_success refine g_lit rfl rfl rfl ?_); first | apply g_partM rfl rfl rfl | apply g_partMB rfl rfl rfl | fail))
    | refine g_seq ?_ | refine g_region ?_ | refine g_nil ?_ | refine g_then_normal ?_ | refine g_block ?_ | refine g_in_normal ?_ | refine g_retc ?_ | refine g_then_ret ?_
    | refine g_in_ret ?_ | refine g_exit ?_ | refine g_then_exit ?_ | refine g_in_exit ?_ | refine g_in_other rfl ?_ | refine g_skip ?_ | refine g_label ?_
    | refine g_cond_true rfl ?_ | refine g_cond_false rfl ?_ | exact s_m | intro _)
  refine g_call1 (most_any _ b 0 cap [x, y] 1 (.inl rfl) (by simp) hr) rfl rfl (by (repeat (first | exact Evs.nil | refine Evs.cons rfl ?_)); first | done | fail) (by (repeat (first | exact Take.nil | apply Take.cons | exact Sel.here | apply Sel.there)); first | done | fail) ?_
  repeat (first
    | (refine g_ops ?_; first | refine s_q ?_ | refine s_v ?_ | refine s_s ?_ | refine s_n (fun _ => ?_) | refine s_x ?_ | refine s_y ?_ | ((fail_if_success refine g_lit rfl rfl rfl ?_); first | apply g_partM rfl rfl rfl | apply g_partMB rfl rfl rfl | fail))
    | refine g_seq ?_ | refine g_region ?_ | refine g_nil ?_ | refine g_then_normal ?_ | refine g_block ?_ | refine g_in_normal ?_ | refine g_retc ?_ | refine g_then_ret ?_
    | refine g_in_ret ?_ | refine g_exit ?_ | refine g_then_exit ?_ | refine g_in_exit ?_ | refine g_in_other rfl ?_ | refine g_skip ?_ | refine g_label ?_
    | refine g_cond_true rfl ?_ | refine g_cond_false rfl ?_ | exact s_m | intro _)
  exact g_ret () rfl (by (repeat (first | exact RVs.nil | apply RVs.tmp rfl | apply RVs.cellA rfl (by (repeat (first | exact Sel.here | apply Sel.there)); first | done | fail) (by (repeat (first | exact Cut.zero | apply Cut.take | apply Cut.skip)); first | done | fail) | apply RVs.cell1 rfl (by (repeat (first | exact Sel.here | apply Sel.there)); first | done | fail) rfl)); first | done | fail) (by (repeat (first | exact Take.nil | apply Take.cons | exact Sel.here | apply Sel.there)); first | done | fail) rfl trivial
end Go.Proofs.Ytkejdilmdpgbpaa
