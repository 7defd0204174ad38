/- Contracts and laws that the proof stands on. -/
import Derived.Test.YtaahibcibgljbaaDoorCallBack9
import Derived.Test.YtaahibcibgljbaaDoorCallBack14
import Derived.Shelf.Unicode.ValidAny
import Derived.Shelf.Unicode.DecodeAny
import Derived.Shelf.Strconv.Itoa1
import Derived.Test.YtaahibcibgljbaaDoorProg
import Derived.Test.YtaahibcibgljbaaDoorRows
import Derived.LaidLaws
import Derived.LaidMore
import Derived.OpenShut
import Derived.Stop.Joined
import Derived.Stop.LaidErr
import Derived.Lib.LaidU8T
import Derived.PinnedBridge
set_option linter.unusedSimpArgs false
set_option linter.unusedVariables false
namespace Go.Proofs.YtaahibcibgljbaaDoor
open Go.Sl facts
def most : Int := 1099511627776
def sumF : Int → List Int → Int
  | n, [] => n
  | n, x :: l => if n > most ∨ x > most - n then most else sumF (n + x) l
theorem sumF_ge : ∀ (l : List Int) (n : Int), (∀ x ∈ l, 0 ≤ x) → n ≤ most → n ≤ sumF n l ∧ sumF n l ≤ most
  | [], n, _, h => ⟨Int.le_refl _, h⟩
  | x :: l, n, hl, h => by
    simp only [sumF]
    split
    · exact ⟨h, Int.le_refl _⟩
    · have hx := hl x (List.mem_cons_self ..)
      have := sumF_ge l (n + x) (fun y hy => hl y (List.mem_cons_of_mem _ hy)) (by omega)
      exact ⟨by omega, this.2⟩
theorem sumF_each : ∀ (l : List Int) (n : Int), (∀ x ∈ l, 0 ≤ x) → 0 ≤ n → n ≤ most → ∀ x ∈ l, sumF n l < most → x ≤ sumF n l
  | [], _, _, _, _, x, hx, _ => by cases hx
  | y :: l, n, hl, h0, h, x, hx, hs => by
    simp only [sumF] at hs ⊢
    split at hs
    · exact absurd hs (Int.lt_irrefl _)
    · rename_i hc
      rw [if_neg hc]
      have hy := hl y (List.mem_cons_self ..)
      have hge := sumF_ge l (n + y) (fun z hz => hl z (List.mem_cons_of_mem _ hz)) (by omega)
      rcases List.mem_cons.1 hx with rfl | hx
      · omega
      · exact sumF_each l (n + y) (fun z hz => hl z (List.mem_cons_of_mem _ hz)) (by omega) (by omega) x hx hs
theorem sumF_drop (l : List Int) (i : Nat) (n : Int) (h : i < l.length) : sumF n (l.drop i) = if n > most ∨ l[i] > most - n then most else sumF (n + l[i]) (l.drop (i + 1)) := by
  rw [List.drop_eq_getElem_cons h, sumF]
attribute [local irreducible] Code.wp wpList Exit.then Exit.inBlock bodyPost Back MidQ G GP QStep VStep CStep SStep Does Post Reads
attribute [local irreducible] sumF
theorem sum_any (C : Chunk) (b o cap : Nat) (n : Int) (l : List Int) (hn : 0 ≤ n ∧ n ≤ most) (hl : ∀ x ∈ l, 0 ≤ x ∧ x ≤ 9223372036854775807) (hlen : l.length ≤ 1000000) (hrs : ∀ i (h : i < l.length), Reads C ⟨b, o + i, none⟩ (.int .i64 l[i])) :
    Does1 Tryd.prog 13 [.int .i64 n, .slice (some ⟨b, o, none⟩) l.length cap] [C] (.int .i64 (sumF n l)) := by
  refine fn_intro Tryd.func13 rfl Tryd.ntmps13 rfl (by simp only [argFr, Nat.zero_add, Nat.reduceAdd]; rfl) (fun Γ => ?_)
  repeat (first
    | (refine g_ops ?_; first | refine s_q ?_ | refine s_v ?_ | refine s_s ?_ | refine s_n (fun _ => ?_) | refine s_x ?_ | refine s_y ?_ | ((fail_if_success refine g_lit rfl rfl rfl ?_); first | apply g_partM rfl rfl rfl | apply g_partMB rfl rfl rfl | fail))
    | apply g_regB (id := 4) 22 | refine g_seq ?_ | refine g_region ?_ | refine g_nil ?_ | refine g_then_normal ?_ | refine g_block ?_ | refine g_in_normal ?_
    | refine g_retc ?_ | refine g_then_ret ?_ | refine g_in_ret ?_ | refine g_exit ?_ | refine g_then_exit ?_ | refine g_in_exit ?_ | refine g_in_other rfl ?_
    | refine g_skip ?_ | refine g_label ?_ | refine g_cond_true rfl ?_ | refine g_cond_false rfl ?_ | exact s_m | intro _ | (refine gp_take ?_; first | refine p_q ?_ | refine p_x ?_ | ((fail_if_success refine gp_lit rfl rfl rfl rfl ?_); first | apply gp_guard_dec rfl rfl rfl rfl | apply gp_guard rfl rfl rfl rfl | fail))
    | (refine gp_see ?_; first | refine p_f ?_ | refine p_sx ?_ | ((fail_if_success refine gp_lit rfl rfl rfl rfl ?_); first | apply gp_guard_dec rfl rfl rfl rfl | apply gp_guard rfl rfl rfl rfl | fail) | refine p_sq ?_)
    | (refine gp_one ?_; first | refine p_v ?_ | refine p_s ?_ | refine p_n (fun _ => ?_) | refine p_y ?_ | ((fail_if_success refine gp_lit rfl rfl rfl rfl ?_); first | apply gp_guard_dec rfl rfl rfl rfl | apply gp_guard rfl rfl rfl rfl | fail))
    | refine gp_two ?_ ?_ | refine gp_done hd hk ?_ | intro _)
  refine g_loop (X := Nat × Int) (fun x => [(5, .int .i64 x.1), (4, .int .i64 0), (0, .int .i64 x.2), (1, .slice (some ⟨b, o, none⟩) l.length cap)]) (fun _ => [C]) (fun x => x.1 ≤ l.length ∧ 0 ≤ x.2 ∧ x.2 ≤ most ∧ sumF n l = sumF x.2 (l.drop x.1)) (fun x => l.length - x.1) (0, n) ⟨Nat.zero_le _, hn.1, hn.2, by simp⟩ (by (repeat (first | exact FrSub.nil | refine FrSub.cons rfl ?_)); first | done | fail) (by (repeat (first | exact Take.nil | apply Take.cons | exact Sel.here | apply Sel.there)); first | done | fail) (fun x hx => ?_)
  obtain ⟨i, m⟩ := x
  obtain ⟨hi, hm0, hm1, hs⟩ := hx
  simp only [] at hi hm0 hm1 hs
  have hmost : most = 1099511627776 := rfl
  dsimp only
  repeat (first
    | (refine g_ops ?_; first | refine s_q ?_ | refine s_v ?_ | refine s_s ?_ | refine s_n (fun _ => ?_) | refine s_x ?_ | refine s_y ?_ | ((fail_if_success refine g_lit rfl rfl rfl ?_); first | apply g_partM rfl rfl rfl | apply g_partMB rfl rfl rfl | fail))
    | apply g_regB (id := 4) 22 | refine g_seq ?_ | refine g_region ?_ | refine g_nil ?_ | refine g_then_normal ?_ | refine g_block ?_ | refine g_in_normal ?_
    | refine g_retc ?_ | refine g_then_ret ?_ | refine g_in_ret ?_ | refine g_exit ?_ | refine g_then_exit ?_ | refine g_in_exit ?_ | refine g_in_other rfl ?_
    | refine g_skip ?_ | refine g_label ?_ | refine g_cond_true rfl ?_ | refine g_cond_false rfl ?_ | exact s_m | intro _ | (refine gp_take ?_; first | refine p_q ?_ | refine p_x ?_ | ((fail_if_success refine gp_lit rfl rfl rfl rfl ?_); first | apply gp_guard_dec rfl rfl rfl rfl | apply gp_guard rfl rfl rfl rfl | fail))
    | (refine gp_see ?_; first | refine p_f ?_ | refine p_sx ?_ | ((fail_if_success refine gp_lit rfl rfl rfl rfl ?_); first | apply gp_guard_dec rfl rfl rfl rfl | apply gp_guard rfl rfl rfl rfl | fail) | refine p_sq ?_)
    | (refine gp_one ?_; first | refine p_v ?_ | refine p_s ?_ | refine p_n (fun _ => ?_) | refine p_y ?_ | ((fail_if_success refine gp_lit rfl rfl rfl rfl ?_); first | apply gp_guard_dec rfl rfl rfl rfl | apply gp_guard rfl rfl rfl rfl | fail))
    | refine gp_two ?_ ?_ | refine gp_done hd hk ?_ | intro _)
  refine g_cond_dec rfl (fun h1 => ?_) (fun h1 => ?_)
  · have hi' : i < l.length := by omega
    have hx := hl l[i] (List.getElem_mem _)
    have hr : ∀ (j : Nat), j = i → Reads C ⟨b, o + j, none⟩ (.int .i64 l[i]) := fun j e => by rw [e]; exact hrs i hi'
    rw [sumF_drop l i m hi'] at hs
    repeat (first
      | (refine g_ops ?_; first | refine s_q ?_ | refine s_v ?_ | refine s_s ?_ | refine s_n (fun _ => ?_) | refine s_x ?_ | refine s_y ?_ | ((fail_if_success refine g_lit rfl rfl rfl ?_); first | apply g_partM rfl rfl rfl | apply g_partMB rfl rfl rfl | fail))
      | apply g_regB (id := 4) 22 | refine g_seq ?_ | refine g_region ?_ | refine g_nil ?_ | refine g_then_normal ?_ | refine g_block ?_ | refine g_in_normal ?_
      | refine g_retc ?_ | refine g_then_ret ?_ | refine g_in_ret ?_ | refine g_exit ?_ | refine g_then_exit ?_ | refine g_in_exit ?_ | refine g_in_other rfl ?_
      | refine g_skip ?_ | refine g_label ?_ | refine g_cond_true rfl ?_ | refine g_cond_false rfl ?_ | exact s_m | intro _ | (refine gp_take ?_; first | refine p_q ?_ | refine p_x ?_ | ((fail_if_success refine gp_lit rfl rfl rfl rfl ?_); first | apply gp_guard_dec rfl rfl rfl rfl | apply gp_guard rfl rfl rfl rfl | fail))
      | (refine gp_see ?_; first | refine p_f ?_ | refine p_sx ?_ | ((fail_if_success refine gp_lit rfl rfl rfl rfl ?_); first | apply gp_guard_dec rfl rfl rfl rfl | apply gp_guard rfl rfl rfl rfl | fail) | refine p_sq ?_)
      | (refine gp_one ?_; first | refine p_v ?_ | refine p_s ?_ | refine p_n (fun _ => ?_) | refine p_y ?_ | ((fail_if_success refine gp_lit rfl rfl rfl rfl ?_); first | apply gp_guard_dec rfl rfl rfl rfl | apply gp_guard rfl rfl rfl rfl | fail))
      | refine gp_two ?_ ?_ | refine gp_done hd hk ?_ | intro _)
    refine g_cond rfl (fun h2 => ?_) (fun h2 => ?_)
    · have h3 : m > most ∨ l[i] > most - m := by simp at h2; omega
      rw [if_pos h3] at hs
      repeat (first
        | (refine g_ops ?_; first | refine s_q ?_ | refine s_v ?_ | refine s_s ?_ | refine s_n (fun _ => ?_) | refine s_x ?_ | refine s_y ?_ | ((fail_if_success refine g_lit rfl rfl rfl ?_); first | apply g_partM rfl rfl rfl | apply g_partMB rfl rfl rfl | fail))
        | apply g_regB (id := 4) 22 | refine g_seq ?_ | refine g_region ?_ | refine g_nil ?_ | refine g_then_normal ?_ | refine g_block ?_ | refine g_in_normal ?_
        | refine g_retc ?_ | refine g_then_ret ?_ | refine g_in_ret ?_ | refine g_exit ?_ | refine g_then_exit ?_ | refine g_in_exit ?_ | refine g_in_other rfl ?_
        | refine g_skip ?_ | refine g_label ?_ | refine g_cond_true rfl ?_ | refine g_cond_false rfl ?_ | exact s_m | intro _ | (refine gp_take ?_; first | refine p_q ?_ | refine p_x ?_ | ((fail_if_success refine gp_lit rfl rfl rfl rfl ?_); first | apply gp_guard_dec rfl rfl rfl rfl | apply gp_guard rfl rfl rfl rfl | fail))
        | (refine gp_see ?_; first | refine p_f ?_ | refine p_sx ?_ | ((fail_if_success refine gp_lit rfl rfl rfl rfl ?_); first | apply gp_guard_dec rfl rfl rfl rfl | apply gp_guard rfl rfl rfl rfl | fail) | refine p_sq ?_)
        | (refine gp_one ?_; first | refine p_v ?_ | refine p_s ?_ | refine p_n (fun _ => ?_) | refine p_y ?_ | ((fail_if_success refine gp_lit rfl rfl rfl rfl ?_); first | apply gp_guard_dec rfl rfl rfl rfl | apply gp_guard rfl rfl rfl rfl | fail))
        | refine gp_two ?_ ?_ | refine gp_done hd hk ?_ | intro _)
      exact s_r () (hp := by simp only [pack, hs]; rfl)
    · have h3 : ¬ (m > most ∨ l[i] > most - m) := by simp at h2; omega
      rw [if_neg h3] at hs
      repeat (first
        | (refine g_ops ?_; first | refine s_q ?_ | refine s_v ?_ | refine s_s ?_ | refine s_n (fun _ => ?_) | refine s_x ?_ | refine s_y ?_ | ((fail_if_success refine g_lit rfl rfl rfl ?_); first | apply g_partM rfl rfl rfl | apply g_partMB rfl rfl rfl | fail))
        | apply g_regB (id := 4) 22 | refine g_seq ?_ | refine g_region ?_ | refine g_nil ?_ | refine g_then_normal ?_ | refine g_block ?_ | refine g_in_normal ?_
        | refine g_retc ?_ | refine g_then_ret ?_ | refine g_in_ret ?_ | refine g_exit ?_ | refine g_then_exit ?_ | refine g_in_exit ?_ | refine g_in_other rfl ?_
        | refine g_skip ?_ | refine g_label ?_ | refine g_cond_true rfl ?_ | refine g_cond_false rfl ?_ | exact s_m | intro _ | (refine gp_take ?_; first | refine p_q ?_ | refine p_x ?_ | ((fail_if_success refine gp_lit rfl rfl rfl rfl ?_); first | apply gp_guard_dec rfl rfl rfl rfl | apply gp_guard rfl rfl rfl rfl | fail))
        | (refine gp_see ?_; first | refine p_f ?_ | refine p_sx ?_ | ((fail_if_success refine gp_lit rfl rfl rfl rfl ?_); first | apply gp_guard_dec rfl rfl rfl rfl | apply gp_guard rfl rfl rfl rfl | fail) | refine p_sq ?_)
        | (refine gp_one ?_; first | refine p_v ?_ | refine p_s ?_ | refine p_n (fun _ => ?_) | refine p_y ?_ | ((fail_if_success refine gp_lit rfl rfl rfl rfl ?_); first | apply gp_guard_dec rfl rfl rfl rfl | apply gp_guard rfl rfl rfl rfl | fail))
        | refine gp_two ?_ ?_ | refine gp_done hd hk ?_ | intro _)
      exact g_again (i + 1, m + l[i]) (by simp only []; omega) ⟨hi', by simp only []; omega, by simp only []; omega, hs⟩ (by (repeat (first | exact FrSub.nil | refine FrSub.cons rfl ?_)); first | done | fail) (by (repeat (first | exact Take.nil | apply Take.cons | exact Sel.here | apply Sel.there)); first | done | fail)
  · have hi' : i = l.length := by omega
    subst hi'
    rw [List.drop_length] at hs
    repeat (first
      | (refine g_ops ?_; first | refine s_q ?_ | refine s_v ?_ | refine s_s ?_ | refine s_n (fun _ => ?_) | refine s_x ?_ | refine s_y ?_ | ((fail_if_success refine g_lit rfl rfl rfl ?_); first | apply g_partM rfl rfl rfl | apply g_partMB rfl rfl rfl | fail))
      | apply g_regB (id := 4) 22 | refine g_seq ?_ | refine g_region ?_ | refine g_nil ?_ | refine g_then_normal ?_ | refine g_block ?_ | refine g_in_normal ?_
      | refine g_retc ?_ | refine g_then_ret ?_ | refine g_in_ret ?_ | refine g_exit ?_ | refine g_then_exit ?_ | refine g_in_exit ?_ | refine g_in_other rfl ?_
      | refine g_skip ?_ | refine g_label ?_ | refine g_cond_true rfl ?_ | refine g_cond_false rfl ?_ | exact s_m | intro _ | (refine gp_take ?_; first | refine p_q ?_ | refine p_x ?_ | ((fail_if_success refine gp_lit rfl rfl rfl rfl ?_); first | apply gp_guard_dec rfl rfl rfl rfl | apply gp_guard rfl rfl rfl rfl | fail))
      | (refine gp_see ?_; first | refine p_f ?_ | refine p_sx ?_ | ((fail_if_success refine gp_lit rfl rfl rfl rfl ?_); first | apply gp_guard_dec rfl rfl rfl rfl | apply gp_guard rfl rfl rfl rfl | fail) | refine p_sq ?_)
      | (refine gp_one ?_; first | refine p_v ?_ | refine p_s ?_ | refine p_n (fun _ => ?_) | refine p_y ?_ | ((fail_if_success refine gp_lit rfl rfl rfl rfl ?_); first | apply gp_guard_dec rfl rfl rfl rfl | apply gp_guard rfl rfl rfl rfl | fail))
      | refine gp_two ?_ ?_ | refine gp_done hd hk ?_ | intro _)
    exact s_r () (hp := by simp only [pack, hs, sumF])
theorem sum_row (b cap : Nat) (e : TypeId) (n : Int) (l : List Int) (hn : 0 ≤ n ∧ n ≤ most) (hl : ∀ x ∈ l, 0 ≤ x ∧ x ≤ 9223372036854775807) (hlen : l.length ≤ 1000000) :
    Does1 Tryd.prog 13 [.int .i64 n, .slice (some ⟨b, 0, none⟩) l.length cap] [.row b (l.map (.int .i64 ·)) e] (.int .i64 (sumF n l)) :=
  sum_any _ b 0 cap n l hn hl hlen (fun i h => reads_row (by simp [h]))
end Go.Proofs.YtaahibcibgljbaaDoor

namespace Go.Proofs.YtaahibcibgljbaaDoor
open Go.Sl facts
theorem sumF_sum : ∀ (l : List Int) (n : Int), (∀ x ∈ l, 0 ≤ x) → n ≤ most → sumF n l < most → sumF n l = n + l.sum
  | [], n, _, _, _ => by simp [sumF]
  | x :: l, n, hl, h, hs => by
    simp only [sumF] at hs ⊢
    split at hs
    · exact absurd hs (Int.lt_irrefl _)
    · rename_i hc
      rw [if_neg hc, sumF_sum l (n + x) (fun z hz => hl z (List.mem_cons_of_mem _ hz)) (by omega) hs, List.sum_cons]
      omega
theorem sum_upS (n : Int) (l : List Int) (hl : ∀ x ∈ l, 0 ≤ x) (h : n ≤ most) : sumF n l ≤ most ∧ n ≤ sumF n l ∧ (sumF n l < most → sumF n l = n + l.sum) :=
  ⟨(sumF_ge l n hl h).2, (sumF_ge l n hl h).1, fun hs => sumF_sum l n hl h hs⟩
inductive SmV : V → Prop where
  | mk {k y n s ks l} (h6 : k = 6 → ks.length = l.length) (h0 : k ≠ 6 → ks = []) (h5 : k < 5 → l = []) (h : ∀ x ∈ l, SmV x) : SmV (.mk k y n s ks l)
theorem VAt.ok {C : Chunk} {v : V} {u : Vc} (h : VAt C v u) : VOk v := by
  induction h with
  | mk us hk hn hs hkl hks hkS hl hu hS _ ih =>
    refine .mk hn fun x hx => ?_
    obtain ⟨i, hi, rfl⟩ := List.mem_iff_getElem.1 hx
    exact ih i _ _ (List.getElem?_eq_getElem hi) (List.getElem?_eq_getElem (by omega))
theorem szV_pos (v : V) : 1 ≤ szV v := by cases v; rw [szV_mk]; omega
theorem szK_len : ∀ l : List V, l.length ≤ szK l
  | [] => by simp
  | x :: l => by have := szK_len l; have := szV_pos x; rw [szK_cons, List.length_cons]; omega
theorem shape (deep k : Int) (a b : Nat) (h : (bif decide (40 < deep) then true
          else
            bif decide ((a : Int) ≠ (b : Int)) then
              bif decide (k = 6) then true
              else
                bif decide (k ≠ 6) then
                  bif decide (0 < (a : Int)) then true else bif decide (k < 5) then decide (0 < (b : Int)) else false
                else bif decide (k < 5) then decide (0 < (b : Int)) else false
            else
              bif decide (k ≠ 6) then
                bif decide (0 < (a : Int)) then true else bif decide (k < 5) then decide (0 < (b : Int)) else false
              else bif decide (k < 5) then decide (0 < (b : Int)) else false) = false) : deep ≤ 40 ∧ (k = 6 → a = b) ∧ (k ≠ 6 → a = 0) ∧ (k < 5 → b = 0) := by
  by_cases a1 : 40 < deep
  · simp only [decide_eq_true a1, cond_true] at h; cases h
  simp only [decide_eq_false a1, cond_false] at h
  by_cases a2 : (a : Int) ≠ (b : Int) <;> by_cases a3 : k = 6 <;> by_cases a4 : (0 : Int) < a <;> by_cases a5 : k < 5 <;> by_cases a6 : (0 : Int) < b <;>
    first | omega | (simp only [a2, a3, a4, a5, a6, ne_eq, not_true, not_false_eq_true, decide_true, decide_false, cond_true, cond_false] at h; cases h) | (simp [a2, a3, a4, a5, a6] at h; done) | omega
attribute [local irreducible] Code.wp wpList Exit.then Exit.inBlock bodyPost Back MidQ G GP QStep VStep CStep SStep Does Post Reads
attribute [local irreducible] sumF szV szK szS
structure IM where
  i : Nat
  m : Int
set_option maxHeartbeats 2000000 in
theorem total {H : HP} (p : Option Addr) (cap : Nat) (top : Int) (l : List ByteArray) (hS : SlAt (Pile H) 1 p l.length (l.map Value.string)) (ht : 0 ≤ top ∧ top ≤ 100000) (hlen : l.length ≤ 9223372036854775807) (hO : ∀ t ∈ l, t.size ≤ 9223372036854775807) :
    Does Tryd.prog 37 [.slice p l.length cap, int top] [Pile H] (X := Int) int (fun _ => [Pile H]) (fun r => 0 ≤ r ∧ r ≤ most ∧ (r ≤ top → (l.length : Int) + szS l ≤ r)) := by
  refine fn_intro Tryd.func37 rfl Tryd.ntmps37 rfl (by simp only [argFr, Nat.zero_add, Nat.reduceAdd]; rfl) (fun Γ => ?_)
  have hmost : most = 1099511627776 := rfl
  have h0 := sum_upS 0 [(l.length : Int)] (by simp) (by omega)
  simp only [List.sum_cons, List.sum_nil, Int.add_zero, Int.zero_add] at h0
  repeat (first
    | (refine g_ops ?_; first | refine sO ?_ | refine s_n (fun _ => ?_) | refine s_app (fun _ _ => ?_) | refine s_b0 (fun _ => ?_) | ((fail_if_success refine g_lit rfl rfl rfl ?_); first | apply g_partM rfl rfl rfl | apply g_partMB rfl rfl rfl | fail) | refine s_k (sum_row _ _ _ 0 [(l.length : Int)] ⟨by omega, by omega⟩ (by simp; omega) (by simp)) ?_)
    | apply g_regB (id := 3) 19 | refine gS ?_ | exact s_m | intro _ | (refine gp_take ?_; first | refine pT ?_ | ((fail_if_success refine gp_lit rfl rfl rfl rfl ?_); first | apply gp_guard_dec rfl rfl rfl rfl | apply gp_guard rfl rfl rfl rfl | fail))
    | (refine gp_see ?_; first | refine p_f ?_ | refine pS ?_ | ((fail_if_success refine gp_lit rfl rfl rfl rfl ?_); first | apply gp_guard_dec rfl rfl rfl rfl | apply gp_guard rfl rfl rfl rfl | fail) | refine p_h (sum_row _ _ _ 0 [(l.length : Int)] ⟨by omega, by omega⟩ (by simp; omega) (by simp)) hd hk ?_)
    | (refine gp_one ?_; first | refine pO ?_ | refine p_n (fun _ => ?_) | refine p_app (fun _ _ => ?_) | refine p_b0 (fun _ => ?_) | ((fail_if_success refine gp_lit rfl rfl rfl rfl ?_); first | apply gp_guard_dec rfl rfl rfl rfl | apply gp_guard rfl rfl rfl rfl | fail) | refine p_k (sum_row _ _ _ 0 [(l.length : Int)] ⟨by omega, by omega⟩ (by simp; omega) (by simp)) ?_)
    | refine gp_two ?_ ?_ | refine gp_done hd hk ?_ | intro _ | refine p_ta hd hk (fun _ _ _ hd hk => ?_) | refine p_ts hd hk (fun _ hd hk => ?_))
  refine g_loop (X := IM) (fun x => [(6, int x.i), (5, int x.m), (4, int 0), (0, .slice p l.length cap), (1, int top)]) (fun _ => [Pile H]) (fun x => x.i ≤ l.length ∧ 0 ≤ x.m ∧ x.m ≤ most ∧ (x.m < most → (l.length : Int) + szS l ≤ x.m + szS (l.drop x.i))) (fun x => l.length - x.i) ⟨0, sumF 0 [(l.length : Int)]⟩ ⟨Nat.zero_le _, by simp only; omega, h0.1, fun h => by have := h0.2.2 h; simp only [List.drop_zero]; omega⟩ (by (repeat (first | exact FrSub.nil | refine FrSub.cons rfl ?_)); first | done | fail) (by (repeat (first | exact Take.nil | apply Take.cons | exact Sel.here | apply Sel.there)); first | done | fail) (fun x hx => ?_)
  obtain ⟨i, m⟩ := x
  obtain ⟨hi, hm0, hm1, hm2⟩ := hx
  dsimp only at hi hm0 hm1 hm2 ⊢
  repeat (first
    | (refine g_ops ?_; first | refine sO ?_ | refine s_n (fun _ => ?_) | refine s_app (fun _ _ => ?_) | refine s_b0 (fun _ => ?_) | ((fail_if_success refine g_lit rfl rfl rfl ?_); first | apply g_partM rfl rfl rfl | apply g_partMB rfl rfl rfl | fail))
    | apply g_regB (id := 3) 19 | refine gS ?_ | exact s_m | intro _ | (refine gp_take ?_; first | refine pT ?_ | ((fail_if_success refine gp_lit rfl rfl rfl rfl ?_); first | apply gp_guard_dec rfl rfl rfl rfl | apply gp_guard rfl rfl rfl rfl | fail))
    | (refine gp_see ?_; first | refine p_f ?_ | refine pS ?_ | ((fail_if_success refine gp_lit rfl rfl rfl rfl ?_); first | apply gp_guard_dec rfl rfl rfl rfl | apply gp_guard rfl rfl rfl rfl | fail))
    | (refine gp_one ?_; first | refine pO ?_ | refine p_n (fun _ => ?_) | refine p_app (fun _ _ => ?_) | refine p_b0 (fun _ => ?_) | ((fail_if_success refine gp_lit rfl rfl rfl rfl ?_); first | apply gp_guard_dec rfl rfl rfl rfl | apply gp_guard rfl rfl rfl rfl | fail))
    | refine gp_two ?_ ?_ | refine gp_done hd hk ?_ | intro _ | refine p_ta hd hk (fun _ _ _ hd hk => ?_) | refine p_ts hd hk (fun _ hd hk => ?_))
  refine g_cond rfl (fun h2 => ?_) (fun h2 => ?_)
  · have hi' : i < l.length := by simp at h2; omega
    obtain ⟨b, o, rfl, hr0⟩ := slAt_cell hS (i := i) (v := .string l[i]) (by simp [hi'])
    have hz1 := hO l[i] (List.getElem_mem _)
    rw [List.drop_eq_getElem_cons hi', szS_cons] at hm2
    generalize l[i] = x at hr0 hz1 hm2
    have hr : ∀ k', k' = i → Reads (Pile H) ⟨b, o + k', none⟩ (.string x) := fun _ e => e ▸ hr0
    have h3 := sum_upS m [(x.size : Int)] (by simp) hm1
    simp only [List.sum_cons, List.sum_nil, Int.add_zero] at h3
    repeat (first
      | (refine g_ops ?_; first | refine sO ?_ | refine s_n (fun _ => ?_) | refine s_app (fun _ _ => ?_) | refine s_b0 (fun _ => ?_) | ((fail_if_success refine g_lit rfl rfl rfl ?_); first | apply g_partM rfl rfl rfl | apply g_partMB rfl rfl rfl | fail) | refine s_k (sum_row _ _ _ m [(x.size : Int)] ⟨hm0, hm1⟩ (by simp; omega) (by simp)) ?_)
      | apply g_regB (id := 3) 19 | refine gS ?_ | exact s_m | intro _ | (refine gp_take ?_; first | refine pT ?_ | ((fail_if_success refine gp_lit rfl rfl rfl rfl ?_); first | apply gp_guard_dec rfl rfl rfl rfl | apply gp_guard rfl rfl rfl rfl | fail))
      | (refine gp_see ?_; first | refine p_f ?_ | refine pS ?_ | ((fail_if_success refine gp_lit rfl rfl rfl rfl ?_); first | apply gp_guard_dec rfl rfl rfl rfl | apply gp_guard rfl rfl rfl rfl | fail) | refine p_h (sum_row _ _ _ m [(x.size : Int)] ⟨hm0, hm1⟩ (by simp; omega) (by simp)) hd hk ?_)
      | (refine gp_one ?_; first | refine pO ?_ | refine p_n (fun _ => ?_) | refine p_app (fun _ _ => ?_) | refine p_b0 (fun _ => ?_) | ((fail_if_success refine gp_lit rfl rfl rfl rfl ?_); first | apply gp_guard_dec rfl rfl rfl rfl | apply gp_guard rfl rfl rfl rfl | fail) | refine p_k (sum_row _ _ _ m [(x.size : Int)] ⟨hm0, hm1⟩ (by simp; omega) (by simp)) ?_)
      | refine gp_two ?_ ?_ | refine gp_done hd hk ?_ | intro _ | refine p_ta hd hk (fun _ _ _ hd hk => ?_) | refine p_ts hd hk (fun _ hd hk => ?_))
    refine g_as 6 (v' := int ((i + 1 : Nat) : Int)) rfl (congrArg (Value.int .i64) (by push_cast; rfl)) ?_
    exact gA ⟨i + 1, sumF m [(x.size : Int)]⟩ (by simp only []; omega) ⟨hi', by simp only []; omega, h3.1, fun h => by have := hm2 (by simp only at h; omega); have := h3.2.2 h; simp only; omega⟩
  · repeat (first
      | (refine g_ops ?_; first | refine sO ?_ | refine s_n (fun _ => ?_) | refine s_app (fun _ _ => ?_) | refine s_b0 (fun _ => ?_) | ((fail_if_success refine g_lit rfl rfl rfl ?_); first | apply g_partM rfl rfl rfl | apply g_partMB rfl rfl rfl | fail))
      | apply g_regB (id := 3) 19 | refine gS ?_ | exact s_m | intro _ | (refine gp_take ?_; first | refine pT ?_ | ((fail_if_success refine gp_lit rfl rfl rfl rfl ?_); first | apply gp_guard_dec rfl rfl rfl rfl | apply gp_guard rfl rfl rfl rfl | fail))
      | (refine gp_see ?_; first | refine p_f ?_ | refine pS ?_ | ((fail_if_success refine gp_lit rfl rfl rfl rfl ?_); first | apply gp_guard_dec rfl rfl rfl rfl | apply gp_guard rfl rfl rfl rfl | fail))
      | (refine gp_one ?_; first | refine pO ?_ | refine p_n (fun _ => ?_) | refine p_app (fun _ _ => ?_) | refine p_b0 (fun _ => ?_) | ((fail_if_success refine gp_lit rfl rfl rfl rfl ?_); first | apply gp_guard_dec rfl rfl rfl rfl | apply gp_guard rfl rfl rfl rfl | fail))
      | refine gp_two ?_ ?_ | refine gp_done hd hk ?_ | intro _ | refine p_ta hd hk (fun _ _ _ hd hk => ?_) | refine p_ts hd hk (fun _ hd hk => ?_))
    exact s_r m (hx := ⟨hm0, hm1, fun h => by
      have : i = l.length := by simp at h2; omega
      subst this
      have := hm2 (by omega)
      rw [List.drop_length, szS_nil] at this
      omega⟩)
end Go.Proofs.YtaahibcibgljbaaDoor
namespace Go.Sl
theorem nil_get {α : Type} {j : Nat} {w : α} (h : ([] : List α)[j]? = some w) : False := by simp at h
end Go.Sl
namespace Go.Proofs.YtaahibcibgljbaaDoor
open Go.Sl facts
attribute [local irreducible] Code.wp wpList Exit.then Exit.inBlock bodyPost Back MidQ G GP QStep VStep CStep SStep Does Post Reads
structure MdX where
  i : Nat
  q : Option Addr
  c : Nat
  vs : List Value
  H : HP
structure MpX where
  i : Nat
  q : Option Addr
  c : Nat
  ps : List Pr
  H : HP
structure MqX where
  q : Option Addr
  c : Nat
  H : HP
  w : Value
theorem TAt.shape {H : HP} {v : V} {x : Value} (h : TAt H v x) : x = .nilIface ∨ ∃ t u, x = .iface t u := by cases h <;> first | exact .inl rfl | exact .inr ⟨_, _, rfl⟩
theorem TAt.one {H : HP} {v : V} {x : Value} (h : TAt H v x) : x.oneCell' = true := by cases h <;> rfl
end Go.Proofs.YtaahibcibgljbaaDoor
namespace Go.Proofs.YtaahibcibgljbaaDoor
open Go.Sl facts
attribute [local irreducible] Code.wp wpList Exit.then Exit.inBlock bodyPost Back MidQ G GP QStep VStep CStep SStep Does Post Reads
def Other (ty : TypeId) (x : Value) : Prop := x = .nilIface ∨ ∃ t v, x = .iface t v ∧ Nat.beq t ty = false
theorem int_yes (n : Int) : Does1 Tryd.prog 76 [.iface 3 (int n)] [] (.tuple #[int n, .bool true]) := by
  refine fn_intro Tryd.func76 rfl Tryd.ntmps76 rfl (by simp only [argFr, Nat.zero_add, Nat.reduceAdd]; rfl) (fun Γ => ?_)
  repeat (first
    | (refine g_ops ?_; first | refine sO ?_ | refine s_n (fun _ => ?_) | refine s_app (fun _ _ => ?_) | refine s_b0 (fun _ => ?_) | ((fail_if_success refine g_lit rfl rfl rfl ?_); first | apply g_partM rfl rfl rfl | apply g_partMB rfl rfl rfl | fail))
    | refine gS ?_ | exact s_m | intro _)
  exact s_r ()
theorem int_no {x : Value} (h : Other 3 x) : Does1 Tryd.prog 76 [x] [] (.tuple #[int 0, .bool false]) := by
  rcases h with rfl | ⟨t, v, rfl, ne⟩
  · refine fn_intro Tryd.func76 rfl Tryd.ntmps76 rfl (by simp only [argFr, Nat.zero_add, Nat.reduceAdd]; rfl) (fun Γ => ?_)
    repeat (first
      | (refine g_ops ?_; first | refine sO ?_ | refine s_n (fun _ => ?_) | refine s_app (fun _ _ => ?_) | refine s_b0 (fun _ => ?_) | ((fail_if_success refine g_lit rfl rfl rfl ?_); first | apply g_partM rfl rfl rfl | apply g_partMB rfl rfl rfl | fail))
      | refine gS ?_ | exact s_m | intro _)
    exact s_r ()
  · refine fn_intro Tryd.func76 rfl Tryd.ntmps76 rfl (by simp only [argFr, Nat.zero_add, Nat.reduceAdd]; rfl) (fun Γ => ?_)
    repeat (first
      | (refine g_ops ?_; first | refine sO ?_ | refine s_n (fun _ => ?_) | refine s_app (fun _ _ => ?_) | refine s_b0 (fun _ => ?_) | ((fail_if_success refine g_lit rfl rfl rfl ?_); first | apply g_partM rfl rfl rfl | apply g_partMB rfl rfl rfl | fail))
      | refine gS ?_ | exact s_m | intro _)
    exact s_r ()
end Go.Proofs.YtaahibcibgljbaaDoor

/-
  DERIVED: THE SHELF's CONTRACTS AT THIS DUMP, IN PLAIN WORDS (tools/lay-plain.mjs out of 'TrydShelV.lean', which tools/lay-shelf.mjs wrote): THE SAME DECLARATIONS UNDER THE SAME NAMES: 'import', 'namespace', 'open', 'def', 'theorem' AND NOTHING ELSE: no command of the shelf's: FOR A HAND-IN. Each laying: the table of numbers ('.._ren') and one theorem, a field a fact of the dump's own or the kernel's comparison; each contract: ONE APPLICATION.
-/
namespace Go.Proofs
open Go.Shelf
def Tryd.laysNm196_ren : Go.Shelf.Ren := ⟨fun | 196 => 78 | 259 => 86 | n => n, fun | 9 => 9 | 4 => 4 | 3 => 3 | 5 => 5 | 12 => 12 | 119 => 148 | 0 => 0 | 46 => 127 | 139 => 151 | 138 => 150 | 53 => 122 | n => n, fun | 3 => 0 | 4 => 1 | n => n⟩
theorem Tryd.laysNm196 : Go.Proofs.Lays.n196 Tryd.prog Tryd.laysNm196_ren := {
  mixed := by kernel_rfl
  f196 := Tryd.func78.trans (congrArg some (by kernel_rfl))
  f259 := Tryd.func86.trans (congrArg some (by kernel_rfl))
  t0 := Tryd.underlying0
  a0 := Tryd.isAgg0
  z0 := Tryd.sizeOf0
  v0 := Tryd.zeroValue0
  t3 := Tryd.underlying3
  a3 := Tryd.isAgg3
  z3 := Tryd.sizeOf3
  v3 := Tryd.zeroValue3
  t4 := Tryd.underlying4
  a4 := Tryd.isAgg4
  z4 := Tryd.sizeOf4
  v4 := Tryd.zeroValue4
  t5 := Tryd.underlying5
  a5 := Tryd.isAgg5
  z5 := Tryd.sizeOf5
  v5 := Tryd.zeroValue5
  t9 := Tryd.underlying9
  a9 := Tryd.isAgg9
  z9 := Tryd.sizeOf9
  v9 := Tryd.zeroValue9
  t12 := Tryd.underlying12
  a12 := Tryd.isAgg12
  z12 := Tryd.sizeOf12
  v12 := Tryd.zeroValue12
  t46 := Tryd.underlying127
  a46 := Tryd.isAgg127
  z46 := Tryd.sizeOf127
  v46 := Tryd.zeroValue127
  t53 := Tryd.underlying122
  a53 := Tryd.isAgg122
  z53 := Tryd.sizeOf122
  v53 := Tryd.zeroValue122
  t119 := Tryd.underlying148
  a119 := Tryd.isAgg148
  z119 := Tryd.sizeOf148
  t138 := Tryd.underlying150
  a138 := Tryd.isAgg150
  z138 := Tryd.sizeOf150
  v138 := Tryd.zeroValue150
  t139 := Tryd.underlying151
  a139 := Tryd.isAgg151
  z139 := Tryd.sizeOf151
  v139 := Tryd.zeroValue151
  g3 := by kernel_rfl
  g4 := by kernel_rfl }
def Tryd.laysNm197_ren : Go.Shelf.Ren := ⟨fun | 197 => 83 | 260 => 94 | n => n, fun | 9 => 9 | 21 => 21 | 3 => 3 | 4 => 4 | 5 => 5 | 105 => 143 | 119 => 148 | 0 => 0 | 46 => 127 | 139 => 151 | 138 => 150 | n => n, fun | 3 => 0 | 4 => 1 | n => n⟩
theorem Tryd.laysNm197 : Go.Proofs.Lays.n197 Tryd.prog Tryd.laysNm197_ren := {
  mixed := by kernel_rfl
  f197 := Tryd.func83.trans (congrArg some (by kernel_rfl))
  f260 := Tryd.func94.trans (congrArg some (by kernel_rfl))
  t0 := Tryd.underlying0
  a0 := Tryd.isAgg0
  z0 := Tryd.sizeOf0
  v0 := Tryd.zeroValue0
  t3 := Tryd.underlying3
  a3 := Tryd.isAgg3
  z3 := Tryd.sizeOf3
  v3 := Tryd.zeroValue3
  t4 := Tryd.underlying4
  a4 := Tryd.isAgg4
  z4 := Tryd.sizeOf4
  v4 := Tryd.zeroValue4
  t5 := Tryd.underlying5
  a5 := Tryd.isAgg5
  z5 := Tryd.sizeOf5
  v5 := Tryd.zeroValue5
  t9 := Tryd.underlying9
  a9 := Tryd.isAgg9
  z9 := Tryd.sizeOf9
  v9 := Tryd.zeroValue9
  t21 := Tryd.underlying21
  a21 := Tryd.isAgg21
  z21 := Tryd.sizeOf21
  v21 := Tryd.zeroValue21
  t46 := Tryd.underlying127
  a46 := Tryd.isAgg127
  z46 := Tryd.sizeOf127
  v46 := Tryd.zeroValue127
  t105 := Tryd.underlying143
  a105 := Tryd.isAgg143
  z105 := Tryd.sizeOf143
  v105 := Tryd.zeroValue143
  t119 := Tryd.underlying148
  a119 := Tryd.isAgg148
  z119 := Tryd.sizeOf148
  t138 := Tryd.underlying150
  a138 := Tryd.isAgg150
  z138 := Tryd.sizeOf150
  v138 := Tryd.zeroValue150
  t139 := Tryd.underlying151
  a139 := Tryd.isAgg151
  z139 := Tryd.sizeOf151
  v139 := Tryd.zeroValue151
  g3 := by kernel_rfl
  g4 := by kernel_rfl }
def Tryd.laysMNm284_ren : Go.Shelf.Ren := ⟨fun | 284 => 91 | 129 => 102 | 317 => 101 | 318 => 103 | n => n, fun | 53 => 122 | 3 => 3 | 212 => 170 | 0 => 0 | 4 => 4 | 46 => 127 | 5 => 5 | 9 => 9 | n => n, fun | 17 => 2 | n => n⟩
theorem Tryd.laysMNm284 : Go.Proofs.LaysM.n284 Tryd.prog Tryd.laysMNm284_ren := {
  mixed := by kernel_rfl
  f129 := Tryd.func102.trans (congrArg some (by kernel_rfl))
  f284 := Tryd.func91.trans (congrArg some (by kernel_rfl))
  f317 := Tryd.func101.trans (congrArg some (by kernel_rfl))
  f318 := Tryd.func103.trans (congrArg some (by kernel_rfl))
  t0 := Tryd.underlying0
  a0 := Tryd.isAgg0
  z0 := Tryd.sizeOf0
  v0 := Tryd.zeroValue0
  t3 := Tryd.underlying3
  a3 := Tryd.isAgg3
  z3 := Tryd.sizeOf3
  v3 := Tryd.zeroValue3
  t4 := Tryd.underlying4
  a4 := Tryd.isAgg4
  z4 := Tryd.sizeOf4
  v4 := Tryd.zeroValue4
  t5 := Tryd.underlying5
  a5 := Tryd.isAgg5
  z5 := Tryd.sizeOf5
  v5 := Tryd.zeroValue5
  t9 := Tryd.underlying9
  a9 := Tryd.isAgg9
  z9 := Tryd.sizeOf9
  v9 := Tryd.zeroValue9
  t46 := Tryd.underlying127
  a46 := Tryd.isAgg127
  z46 := Tryd.sizeOf127
  v46 := Tryd.zeroValue127
  t53 := Tryd.underlying122
  a53 := Tryd.isAgg122
  z53 := Tryd.sizeOf122
  v53 := Tryd.zeroValue122
  t212 := Tryd.underlying170
  a212 := Tryd.isAgg170
  z212 := Tryd.sizeOf170
  v212 := Tryd.zeroValue170
  g17 := by kernel_rfl
  i0 := by kernel_rfl
  i3 := by kernel_rfl
  i4 := by kernel_rfl
  i5 := by kernel_rfl
  i9 := by kernel_rfl
  i46 := by kernel_rfl
  i53 := by kernel_rfl
  i212 := by kernel_rfl
  m17 := by kernel_rfl }
end Go.Proofs

namespace Go.Proofs.YtaahibcibgljbaaDoor
open Go Go.ChangeShapes Go.WideShapes Go.ChangeAt Go.RowKit Go.Sl facts
def UtH (H : HP) : Prop := ∃ xs e fz ys e' fz', H 0 = some (.cells xs e fz) ∧ H 1 = some (.cells ys e' fz') ∧ (∀ c, c < 256 → xs[c]? = some (.int .u8 (Lib.firstT c))) ∧ (∀ i, i < 16 → ys[2 * i]? = some (.int .u8 (Lib.accLo i)) ∧ ys[2 * i + 1]? = some (.int .u8 (Lib.accHi i)))
def tabV : List Value := Lib.pow10Tab.map fun z => .int .u64 z
def TabH (H : HP) : Prop := ∃ (e : TypeId) (fz : Nat × Nat), H 2 = some (.cells tabV.toArray e fz)
theorem tabIs {H : HP} (h : TabH H) {w : World} (hw : ∀ b o, H b = some o → w.heap[b]? = some o) : Lib.TabIs Tryd.prog w "internal/strconv.uint64pow10" .u64 Lib.pow10Tab := by
  obtain ⟨e, fz, h⟩ := h
  have hg : Tryd.prog.globalNamed "internal/strconv.uint64pow10" = some 2 := by kernel_rfl
  unfold Lib.TabIs World.var?
  rw [hg]
  simp only [Option.bind_some, hw _ _ h]
  rfl
theorem tabs {H : HP} (h : UtH H) {w : World} (hw : ∀ b o, H b = some o → w.heap[b]? = some o) : Lib.Utf8Tabs 0 1 w := by
  obtain ⟨xs, e, fz, ys, e', fz', h1, h2, h3, h4⟩ := h
  refine ⟨fun c hc => ?_, fun i hi => ?_⟩
  · have := hw _ _ h1
    show w.cell? ⟨0, c, none⟩ = _
    simp [World.cell?, this, h3 c hc]
  · have := hw _ _ h2
    show w.cell? ⟨1, 2 * i, none⟩ = _ ∧ w.cell? ⟨1, 2 * i + 1, none⟩ = _
    simp [World.cell?, this, h4 i hi]
theorem tb_of {H : HP} (hU : UtH H) (hP : TabH H) : Tb H where
  vs := fun s hs => does_of_below fun w hw => Any.utf8_ValidString Tryd.laysNm196 s w hs (tabs hU hw)
  dec := fun s _ => does_of_below fun w hw => Any.utf8_DecodeRuneInString Tryd.laysNm197 s w (tabs hU hw)
  nd := fun u h1 h2 => does_of_calls fun w hw => (Any.internal_strconv_numDigits Tryd.laysMNm284 u h1 h2 w (tabIs hP hw)).mono fun e w' ⟨he, hw'⟩ => ⟨he, 0, #[], by subst hw'; simp [_root_.Go.Sort.grow, World.drewN]⟩
theorem own : ownKnob Tryd.prog.godebug = none := by kernel_rfl
theorem laidOut : laidOutB Tryd.prog = true := by kernel_rfl
def lst : List (String × DataW Unit) := [("math/bits.deBruijn32tab", Rows.laid_math_bits_deBruijn32tab), ("math/bits.deBruijn64tab", Rows.laid_math_bits_deBruijn64tab), ("internal/strconv.uint64pow10", Rows.laid_internal_strconv_uint64pow10), ("unicode/utf8.acceptRanges", Rows.laid_unicode_utf8_acceptRanges), ("unicode/utf8.first", Rows.laid_unicode_utf8_first)]
noncomputable def doorW (os : Os) : World := { World.doorLaid Tryd.prog 400 os with heap := (World.doorLaid Tryd.prog 400 os).heap.modify 0 fun o => match o with
  | .cells _ e fz => .cells (Lib.firstTab.map (.int .u8)).toArray e fz
  | o => o }
theorem u8x : U8Extra Tryd.prog Tryd.laysNm196_ren := ⟨by kernel_rfl, by kernel_rfl, by kernel_rfl, by kernel_rfl, by kernel_rfl, by kernel_rfl, by kernel_rfl⟩
theorem ut_of {W : World} {l : List (String × DataW Unit)} (h : laidMet Tryd.prog l W) (m1 : ("unicode/utf8.first", Rows.laid_unicode_utf8_first) ∈ l) (m2 : ("unicode/utf8.acceptRanges", Rows.laid_unicode_utf8_acceptRanges) ∈ l) : UtH (wheap W) := by
  have h3 := Lib.laidMet.reads h (n := "unicode/utf8.first") (d := Lib.firstData) (by rw [← Pinned.utf8First_eq]; exact m1)
  have h4 := Lib.laidMet.reads h (n := "unicode/utf8.acceptRanges") (d := Lib.acceptData) (by rw [show Lib.acceptData = Rows.laid_unicode_utf8_acceptRanges from rfl]; exact m2)
  have ht := utf8Tabs_of_readsT (U8Types.of196 Tryd.laysNm196) u8x h3 h4
  obtain ⟨t1, t2⟩ := ht
  have key : ∀ (g : Nat) (v : Value), W.cell? ⟨g, 0, none⟩ = some v → ∃ xs e fz, W.heap[g]? = some (.cells xs e fz) ∧ ∀ c u, W.cell? ⟨g, c, none⟩ = some u → xs[c]? = some u := fun g v hv => by
    unfold World.cell? at hv
    split at hv
    · rename_i xs e fz hb
      refine ⟨xs, e, fz, hb, fun c u hu => ?_⟩
      simpa [World.cell?, hb] using hu
    · cases hv
  obtain ⟨xs, e, fz, hb, hx⟩ := key _ _ (t1 0 (by decide))
  obtain ⟨ys, e', fz', hb', hy⟩ := key _ _ (t2 0 (by decide)).1
  exact ⟨xs, e, fz, ys, e', fz', hb, hb', fun c hc => hx c _ (t1 c hc), fun i hi => ⟨hy _ _ (t2 i hi).1, hy _ _ (t2 i hi).2⟩⟩
theorem tabH_of {W : World} {rest : List (String × DataW Unit)} (h3 : laidMet Tryd.prog (("internal/strconv.uint64pow10", Lib.tabData .u64 Lib.pow10Tab) :: rest) W) : TabH (wheap W) := by
  have hg : Tryd.prog.globalNamed "internal/strconv.uint64pow10" = some 2 := by kernel_rfl
  have ht := Lib.tabIs_of_head (g := 2) (t := 170) (e := 122) (n := 20) hg (by kernel_rfl) Tryd.underlying170 Tryd.underlying122 (by kernel_rfl) (by kernel_rfl) h3
  unfold Lib.TabIs World.var? at ht
  rw [hg] at ht
  simp only [Option.bind_some] at ht
  split at ht
  · rename_i cs e fz hb
    simp only [Option.some.injEq] at ht
    subst ht
    exact ⟨e, fz, hb⟩
  · cases ht
end Go.Proofs.YtaahibcibgljbaaDoor

namespace Go.Proofs.YtaahibcibgljbaaDoor
open Go.Sl
def posF (s : ByteArray) : Nat → Nat → List Nat
  | 0, _ => []
  | f + 1, k => if k < s.size then k :: posF s f (k + (Utf8.decode s k).2) else []
def pos (s : ByteArray) : List Nat := posF s s.size 0
structure Rn where
  r : Nat
  a : Nat
  e : Nat
  no : Bool
def Rn.cells (x : Rn) : List Value := [.int .i32 (x.r : Int), .int .i64 (x.a : Int), .int .i64 (x.e : Int), .bool x.no]
theorem Rn.len (x : Rn) : x.cells.length = 4 := rfl
end Go.Proofs.YtaahibcibgljbaaDoor
namespace Go.Proofs.YtaahibcibgljbaaDoor
open Go.Sl facts
attribute [local irreducible] Code.wp wpList Exit.then Exit.inBlock bodyPost Back MidQ G GP QStep VStep CStep SStep Does Post Reads
attribute [local irreducible] wrongB
structure AlX where
  k : Nat
  f : Nat
  ps : List Nat
  q : Option Addr
  c : Nat
structure AmX where
  i : Nat
theorem qR_doc (s : ByteArray) (k : Nat) (h : k < s.size) : qR s k = if (at8 s k).toNat = 34 then [92, 34] else if (at8 s k).toNat = 92 then [92, 92] else if (at8 s k).toNat = 10 then [92, 110]
    else if wrongB s k = true ∨ (at8 s k).toNat < 32 ∨ (at8 s k).toNat = 127 then [92, 120, hexB ((at8 s k).toNat / 16), hexB ((at8 s k).toNat % 16)] else (s.data.toList.drop k).take (Utf8.decode s k).2 := by
  unfold qR
  by_cases ha : (at8 s k).toNat < 128
  · have e := decode_at h ha
    rw [e]
    dsimp only
    by_cases h1 : (at8 s k).toNat = 34
    · rw [if_pos h1, if_pos (.inl h1), h1]; rfl
    rw [if_neg h1]
    by_cases h2 : (at8 s k).toNat = 92
    · rw [if_pos h2, if_pos (.inr h2), h2]; rfl
    rw [if_neg h2, if_neg (by omega)]
    by_cases h3 : (at8 s k).toNat = 10
    · rw [if_pos h3, if_pos h3]
    rw [if_neg h3, if_neg h3]
    have hi := ctlB_iff (at8 s k).toNat
    by_cases hc : ctlB (at8 s k).toNat = true ∨ wrongB s k = true
    · rw [if_pos hc, if_pos (hc.elim (fun h => .inr (hi.1 h)) .inl)]
    · rw [if_neg hc, if_neg (fun h => hc (h.elim .inr (fun h => .inl (hi.2 h))))]
  · have e := decode_big h ha
    have hc : ctlB (Utf8.decode s k).1 = false := by
      cases hc : ctlB (Utf8.decode s k).1 with
      | false => rfl
      | true => have := (ctlB_iff _).1 hc; omega
    rw [if_neg (by omega : ¬ ((Utf8.decode s k).1 = 34 ∨ (Utf8.decode s k).1 = 92)), if_neg (by omega : ¬ (Utf8.decode s k).1 = 10), if_neg (by omega : ¬ (at8 s k).toNat = 34), if_neg (by omega : ¬ (at8 s k).toNat = 92), if_neg (by omega : ¬ (at8 s k).toNat = 10)]
    by_cases hw : wrongB s k = true
    · rw [if_pos (.inr hw), if_pos (.inl hw)]
    · rw [if_neg (fun h => h.elim (fun h => by rw [hc] at h; cases h) hw), if_neg (fun h => h.elim hw (fun h => by omega))]
attribute [local irreducible] qR hexB at8
structure QdX where
  i : Nat
  bs : List UInt8
  q : Option Addr
  c : Nat
end Go.Proofs.YtaahibcibgljbaaDoor
namespace Go.Proofs.YtaahibcibgljbaaDoor
open Go.Sl facts
attribute [local irreducible] Code.wp wpList Exit.then Exit.inBlock bodyPost Back MidQ G GP QStep VStep CStep SStep Does Post Reads
attribute [local irreducible] decI
theorem dig_toNat (d : Nat) (h : d < 10) : (UInt8.ofNat (48 + d)).toNat = 48 + d := by
  rw [UInt8.toNat_ofNat']; omega
theorem decDigits_snoc {u : Nat} (h : ¬ u < 10) : Lib.decDigits u = Lib.decDigits (u / 10) ++ [UInt8.ofNat (48 + u % 10)] := by
  conv => lhs; rw [Lib.decDigits, dif_neg h]
structure DecX where
  u : Nat
  bs : List UInt8
  q : Option Addr
  c : Nat
def DecInv (u0 u : Nat) (bs : List UInt8) : Prop := (0 < u → Lib.decDigits u0 = Lib.decDigits u ++ bs.reverse) ∧ (u = 0 → Lib.decDigits u0 = bs.reverse)
theorem DecInv.step {u0 u : Nat} {bs : List UInt8} (h : DecInv u0 u bs) (hu : 0 < u) : DecInv u0 (u / 10) (bs ++ [UInt8.ofNat (48 + u % 10)]) := by
  have h1 := h.1 hu
  rcases Nat.lt_or_ge u 10 with h2 | h2
  · have e : u / 10 = 0 := by omega
    refine ⟨fun hp => by omega, fun _ => ?_⟩
    rw [h1, Lib.decDigits_one h2, List.reverse_append]
    have e2 : u % 10 = u := by omega
    rw [e2]; rfl
  · refine ⟨fun _ => ?_, fun hp => by omega⟩
    rw [h1, decDigits_snoc (Nat.not_lt.2 h2), List.reverse_append, List.append_assoc]
    rfl
theorem DecInv.len {u0 u : Nat} {bs : List UInt8} (h : DecInv u0 u bs) (h0 : u0 ≤ 9223372036854775808) : bs.length ≤ 20 := by
  have hd : (Lib.decDigits u0).length ≤ 20 := by
    rw [Lib.decDigits_length]
    exact nd20 u0 (by omega)
  rcases Nat.eq_zero_or_pos u with e | e
  · have := h.2 e
    rw [this] at hd
    simpa using hd
  · have := h.1 e
    rw [this] at hd
    simp at hd
    omega
end Go.Proofs.YtaahibcibgljbaaDoor
namespace Go.Proofs.YtaahibcibgljbaaDoor
open Go.Sl facts
attribute [local irreducible] Code.wp wpList Exit.then Exit.inBlock bodyPost Back MidQ G GP QStep VStep CStep SStep Does Post Reads
attribute [local irreducible] weigh weighL keyB validB
structure WgX where
  i : Nat
  m : Int
end Go.Proofs.YtaahibcibgljbaaDoor
namespace Go.Proofs.YtaahibcibgljbaaDoor
open Go.Sl facts
abbrev txt (l : List UInt8) : ByteArray := ⟨l.toArray⟩
theorem txt_size (a : List UInt8) : (txt a).size = a.length := by simp [txt, ByteArray.size]
inductive KOk : V → Prop where
  | mk {k y n s ks l} (hk : 1 ≤ k ∧ k ≤ 6) (h : ∀ x ∈ l, KOk x) : KOk (.mk k y n s ks l)
theorem kokL {p : Bool} : ∀ (l : List V), (∀ x ∈ l, ∀ lv n, (weigh x lv n).1 = 0 → KOk x) → ∀ pr ks lv n, (weighL p pr ks l lv n).1 = 0 → ∀ x ∈ l, KOk x
  | [], _, _, _, _, _, _, x, hx => by cases hx
  | a :: l, h, pr, ks, lv, n, e, x, hx => by
    rw [weighL_cons] at e
    split at e
    · cases e
    · split at e
      · rename_i h2
        rcases List.mem_cons.1 hx with rfl | hx
        · exact h _ (List.mem_cons_self ..) _ _ h2
        · exact kokL l (fun y hy => h y (List.mem_cons_of_mem _ hy)) _ _ _ _ e x hx
      · rename_i h2
        exact absurd e h2
theorem kok (v : V) : SmV v → ∀ lv n, (weigh v lv n).1 = 0 → KOk v := by
  refine V.ind (Q := fun v => SmV v → ∀ lv n, (weigh v lv n).1 = 0 → KOk v) (fun k y m s ks l ih hsm lv n h => ?_) v
  obtain ⟨_, _, h5, hsk⟩ := hsm
  rw [weigh_mk] at h
  split at h
  · cases h
  rename_i h1
  refine .mk (by omega) ?_
  split at h
  · cases h
  split at h
  · cases h
  split at h
  · rename_i h4
    rw [h5 h4]
    intro x hx
    cases hx
  split at h
  · cases h
  exact kokL l (fun x hx lv n => ih x hx (hsk x hx) lv n) _ _ _ _ h
attribute [local irreducible] Code.wp wpList Exit.then Exit.inBlock bodyPost Back MidQ G GP QStep VStep CStep SStep Does Post Reads
attribute [local irreducible] weigh weighL textL textK szV szK szS quoteL decI
structure TxX where
  i : Nat
  bs : List UInt8
end Go.Proofs.YtaahibcibgljbaaDoor
