/- Contracts and laws that the proof stands on. -/
import Derived.Test.YtaahibcibgljbaaDoorCallReplies9
import Derived.Test.YtaahibcibgljbaaDoorCallReplies14
import Derived.Shelf.Unicode.ValidAny
import Derived.Shelf.Unicode.DecodeAny
import Derived.Shelf.Strconv.Itoa1
import Derived.Test.YtaahibcibgljbaaDoorProg
import Derived.Test.YtaahibcibgljbaaDoorRows
import Derived.LaidLaws
import Derived.LaidMore
import Derived.OpenShut
import Derived.Stop.Joined
import Derived.Stop.LaidErr
import Derived.Lib.LaidU8T
import Derived.PinnedBridge
set_option linter.unusedSimpArgs false
set_option linter.unusedVariables false
namespace Go.Proofs.YtaahibcibgljbaaDoor
open Go.Sl facts
def most : Int := 1099511627776
def sumF : Int → List Int → Int
  | n, [] => n
  | n, x :: l => if n > most ∨ x > most - n then most else sumF (n + x) l
theorem sumF_ge : ∀ (l : List Int) (n : Int), (∀ x ∈ l, 0 ≤ x) → n ≤ most → n ≤ sumF n l ∧ sumF n l ≤ most
  | [], n, _, h => ⟨Int.le_refl _, h⟩
  | x :: l, n, hl, h => by
    simp only [sumF]
    split
    · exact ⟨h, Int.le_refl _⟩
    · have hx := hl x (List.mem_cons_self ..)
      have := sumF_ge l (n + x) (fun y hy => hl y (List.mem_cons_of_mem _ hy)) (by omega)
      exact ⟨by omega, this.2⟩
theorem sumF_each : ∀ (l : List Int) (n : Int), (∀ x ∈ l, 0 ≤ x) → 0 ≤ n → n ≤ most → ∀ x ∈ l, sumF n l < most → x ≤ sumF n l
  | [], _, _, _, _, x, hx, _ => by cases hx
  | y :: l, n, hl, h0, h, x, hx, hs => by
    simp only [sumF] at hs ⊢
    split at hs
    · exact absurd hs (Int.lt_irrefl _)
    · rename_i hc
      rw [if_neg hc]
      have hy := hl y (List.mem_cons_self ..)
      have hge := sumF_ge l (n + y) (fun z hz => hl z (List.mem_cons_of_mem _ hz)) (by omega)
      rcases List.mem_cons.1 hx with rfl | hx
      · omega
      · exact sumF_each l (n + y) (fun z hz => hl z (List.mem_cons_of_mem _ hz)) (by omega) (by omega) x hx hs
theorem sumF_drop (l : List Int) (i : Nat) (n : Int) (h : i < l.length) : sumF n (l.drop i) = if n > most ∨ l[i] > most - n then most else sumF (n + l[i]) (l.drop (i + 1)) := by
  rw [List.drop_eq_getElem_cons h, sumF]
attribute [local irreducible] Code.wp wpList Exit.then Exit.inBlock bodyPost Back MidQ G GP QStep VStep CStep SStep Does Post Reads
attribute [local irreducible] sumF
theorem sum_any (C : Chunk) (b o cap : Nat) (n : Int) (l : List Int) (hn : 0 ≤ n ∧ n ≤ most) (hl : ∀ x ∈ l, 0 ≤ x ∧ x ≤ 9223372036854775807) (hlen : l.length ≤ 1000000) (hrs : ∀ i (h : i < l.length), Reads C ⟨b, o + i, none⟩ (.int .i64 l[i])) :
    Does1 Tryd.prog 13 [.int .i64 n, .slice (some ⟨b, o, none⟩) l.length cap] [C] (.int .i64 (sumF n l)) := by
  refine fn_intro Tryd.func13 rfl Tryd.ntmps13 rfl (by simp only [argFr, Nat.zero_add, Nat.reduceAdd]; rfl) (fun Γ => ?_)
  repeat (first
    | (refine g_ops ?_; first | refine s_q ?_ | refine s_v ?_ | refine s_s ?_ | refine s_n (fun _ => ?_) | refine s_x ?_ | refine s_y ?_ | ((fail_if_success refine g_lit rfl rfl rfl ?_); first | apply g_partM rfl rfl rfl | apply g_partMB rfl rfl rfl | fail))
    | apply g_regB (id := 4) 22 | refine g_seq ?_ | refine g_region ?_ | refine g_nil ?_ | refine g_then_normal ?_ | refine g_block ?_ | refine g_in_normal ?_
    | refine g_retc ?_ | refine g_then_ret ?_ | refine g_in_ret ?_ | refine g_exit ?_ | refine g_then_exit ?_ | refine g_in_exit ?_ | refine g_in_other rfl ?_
    | refine g_skip ?_ | refine g_label ?_ | refine g_cond_true rfl ?_ | refine g_cond_false rfl ?_ | exact s_m | intro _ | (refine gp_take ?_; first | refine p_q ?_ | refine p_x ?_ | ((fail_if_success refine gp_lit rfl rfl rfl rfl ?_); first | apply gp_guard_dec rfl rfl rfl rfl | apply gp_guard rfl rfl rfl rfl | fail))
    | (refine gp_see ?_; first | refine p_f ?_ | refine p_sx ?_ | ((fail_if_success refine gp_lit rfl rfl rfl rfl ?_); first | apply gp_guard_dec rfl rfl rfl rfl | apply gp_guard rfl rfl rfl rfl | fail) | refine p_sq ?_)
    | (refine gp_one ?_; first | refine p_v ?_ | refine p_s ?_ | refine p_n (fun _ => ?_) | refine p_y ?_ | ((fail_if_success refine gp_lit rfl rfl rfl rfl ?_); first | apply gp_guard_dec rfl rfl rfl rfl | apply gp_guard rfl rfl rfl rfl | fail))
    | refine gp_two ?_ ?_ | refine gp_done hd hk ?_ | intro _)
  refine g_loop (X := Nat × Int) (fun x => [(5, .int .i64 x.1), (4, .int .i64 0), (0, .int .i64 x.2), (1, .slice (some ⟨b, o, none⟩) l.length cap)]) (fun _ => [C]) (fun x => x.1 ≤ l.length ∧ 0 ≤ x.2 ∧ x.2 ≤ most ∧ sumF n l = sumF x.2 (l.drop x.1)) (fun x => l.length - x.1) (0, n) ⟨Nat.zero_le _, hn.1, hn.2, by simp⟩ (by (repeat (first | exact FrSub.nil | refine FrSub.cons rfl ?_)); first | done | fail) (by (repeat (first | exact Take.nil | apply Take.cons | exact Sel.here | apply Sel.there)); first | done | fail) (fun x hx => ?_)
  obtain ⟨i, m⟩ := x
  obtain ⟨hi, hm0, hm1, hs⟩ := hx
  simp only [] at hi hm0 hm1 hs
  have hmost : most = 1099511627776 := rfl
  dsimp only
  repeat (first
    | (refine g_ops ?_; first | refine s_q ?_ | refine s_v ?_ | refine s_s ?_ | refine s_n (fun _ => ?_) | refine s_x ?_ | refine s_y ?_ | ((fail_if_success refine g_lit rfl rfl rfl ?_); first | apply g_partM rfl rfl rfl | apply g_partMB rfl rfl rfl | fail))
    | apply g_regB (id := 4) 22 | refine g_seq ?_ | refine g_region ?_ | refine g_nil ?_ | refine g_then_normal ?_ | refine g_block ?_ | refine g_in_normal ?_
    | refine g_retc ?_ | refine g_then_ret ?_ | refine g_in_ret ?_ | refine g_exit ?_ | refine g_then_exit ?_ | refine g_in_exit ?_ | refine g_in_other rfl ?_
    | refine g_skip ?_ | refine g_label ?_ | refine g_cond_true rfl ?_ | refine g_cond_false rfl ?_ | exact s_m | intro _ | (refine gp_take ?_; first | refine p_q ?_ | refine p_x ?_ | ((fail_if_success refine gp_lit rfl rfl rfl rfl ?_); first | apply gp_guard_dec rfl rfl rfl rfl | apply gp_guard rfl rfl rfl rfl | fail))
    | (refine gp_see ?_; first | refine p_f ?_ | refine p_sx ?_ | ((fail_if_success refine gp_lit rfl rfl rfl rfl ?_); first | apply gp_guard_dec rfl rfl rfl rfl | apply gp_guard rfl rfl rfl rfl | fail) | refine p_sq ?_)
    | (refine gp_one ?_; first | refine p_v ?_ | refine p_s ?_ | refine p_n (fun _ => ?_) | refine p_y ?_ | ((fail_if_success refine gp_lit rfl rfl rfl rfl ?_); first | apply gp_guard_dec rfl rfl rfl rfl | apply gp_guard rfl rfl rfl rfl | fail))
    | refine gp_two ?_ ?_ | refine gp_done hd hk ?_ | intro _)
  refine g_cond_dec rfl (fun h1 => ?_) (fun h1 => ?_)
  · have hi' : i < l.length := by omega
    have hx := hl l[i] (List.getElem_mem _)
    have hr : ∀ (j : Nat), j = i → Reads C ⟨b, o + j, none⟩ (.int .i64 l[i]) := fun j e => by rw [e]; exact hrs i hi'
    rw [sumF_drop l i m hi'] at hs
    repeat (first
      | (refine g_ops ?_; first | refine s_q ?_ | refine s_v ?_ | refine s_s ?_ | refine s_n (fun _ => ?_) | refine s_x ?_ | refine s_y ?_ | ((fail_if_success refine g_lit rfl rfl rfl ?_); first | apply g_partM rfl rfl rfl | apply g_partMB rfl rfl rfl | fail))
      | apply g_regB (id := 4) 22 | refine g_seq ?_ | refine g_region ?_ | refine g_nil ?_ | refine g_then_normal ?_ | refine g_block ?_ | refine g_in_normal ?_
      | refine g_retc ?_ | refine g_then_ret ?_ | refine g_in_ret ?_ | refine g_exit ?_ | refine g_then_exit ?_ | refine g_in_exit ?_ | refine g_in_other rfl ?_
      | refine g_skip ?_ | refine g_label ?_ | refine g_cond_true rfl ?_ | refine g_cond_false rfl ?_ | exact s_m | intro _ | (refine gp_take ?_; first | refine p_q ?_ | refine p_x ?_ | ((fail_if_success refine gp_lit rfl rfl rfl rfl ?_); first | apply gp_guard_dec rfl rfl rfl rfl | apply gp_guard rfl rfl rfl rfl | fail))
      | (refine gp_see ?_; first | refine p_f ?_ | refine p_sx ?_ | ((fail_if_success refine gp_lit rfl rfl rfl rfl ?_); first | apply gp_guard_dec rfl rfl rfl rfl | apply gp_guard rfl rfl rfl rfl | fail) | refine p_sq ?_)
      | (refine gp_one ?_; first | refine p_v ?_ | refine p_s ?_ | refine p_n (fun _ => ?_) | refine p_y ?_ | ((fail_if_success refine gp_lit rfl rfl rfl rfl ?_); first | apply gp_guard_dec rfl rfl rfl rfl | apply gp_guard rfl rfl rfl rfl | fail))
      | refine gp_two ?_ ?_ | refine gp_done hd hk ?_ | intro _)
    refine g_cond rfl (fun h2 => ?_) (fun h2 => ?_)
    · have h3 : m > most ∨ l[i] > most - m := by simp at h2; omega
      rw [if_pos h3] at hs
      repeat (first
        | (refine g_ops ?_; first | refine s_q ?_ | refine s_v ?_ | refine s_s ?_ | refine s_n (fun _ => ?_) | refine s_x ?_ | refine s_y ?_ | ((fail_if_success refine g_lit rfl rfl rfl ?_); first | apply g_partM rfl rfl rfl | apply g_partMB rfl rfl rfl | fail))
        | apply g_regB (id := 4) 22 | refine g_seq ?_ | refine g_region ?_ | refine g_nil ?_ | refine g_then_normal ?_ | refine g_block ?_ | refine g_in_normal ?_
        | refine g_retc ?_ | refine g_then_ret ?_ | refine g_in_ret ?_ | refine g_exit ?_ | refine g_then_exit ?_ | refine g_in_exit ?_ | refine g_in_other rfl ?_
        | refine g_skip ?_ | refine g_label ?_ | refine g_cond_true rfl ?_ | refine g_cond_false rfl ?_ | exact s_m | intro _ | (refine gp_take ?_; first | refine p_q ?_ | refine p_x ?_ | ((fail_if_success refine gp_lit rfl rfl rfl rfl ?_); first | apply gp_guard_dec rfl rfl rfl rfl | apply gp_guard rfl rfl rfl rfl | fail))
        | (refine gp_see ?_; first | refine p_f ?_ | refine p_sx ?_ | ((fail_if_success refine gp_lit rfl rfl rfl rfl ?_); first | apply gp_guard_dec rfl rfl rfl rfl | apply gp_guard rfl rfl rfl rfl | fail) | refine p_sq ?_)
        | (refine gp_one ?_; first | refine p_v ?_ | refine p_s ?_ | refine p_n (fun _ => ?_) | refine p_y ?_ | ((fail_if_success refine gp_lit rfl rfl rfl rfl ?_); first | apply gp_guard_dec rfl rfl rfl rfl | apply gp_guard rfl rfl rfl rfl | fail))
        | refine gp_two ?_ ?_ | refine gp_done hd hk ?_ | intro _)
      exact s_r () (hp := by simp only [pack, hs]; rfl)
    · have h3 : ¬ (m > most ∨ l[i] > most - m) := by simp at h2; omega
      rw [if_neg h3] at hs
      repeat (first
        | (refine g_ops ?_; first | refine s_q ?_ | refine s_v ?_ | refine s_s ?_ | refine s_n (fun _ => ?_) | refine s_x ?_ | refine s_y ?_ | ((fail_if_success refine g_lit rfl rfl rfl ?_); first | apply g_partM rfl rfl rfl | apply g_partMB rfl rfl rfl | fail))
        | apply g_regB (id := 4) 22 | refine g_seq ?_ | refine g_region ?_ | refine g_nil ?_ | refine g_then_normal ?_ | refine g_block ?_ | refine g_in_normal ?_
        | refine g_retc ?_ | refine g_then_ret ?_ | refine g_in_ret ?_ | refine g_exit ?_ | refine g_then_exit ?_ | refine g_in_exit ?_ | refine g_in_other rfl ?_
        | refine g_skip ?_ | refine g_label ?_ | refine g_cond_true rfl ?_ | refine g_cond_false rfl ?_ | exact s_m | intro _ | (refine gp_take ?_; first | refine p_q ?_ | refine p_x ?_ | ((fail_if_success refine gp_lit rfl rfl rfl rfl ?_); first | apply gp_guard_dec rfl rfl rfl rfl | apply gp_guard rfl rfl rfl rfl | fail))
        | (refine gp_see ?_; first | refine p_f ?_ | refine p_sx ?_ | ((fail_if_success refine gp_lit rfl rfl rfl rfl ?_); first | apply gp_guard_dec rfl rfl rfl rfl | apply gp_guard rfl rfl rfl rfl | fail) | refine p_sq ?_)
        | (refine gp_one ?_; first | refine p_v ?_ | refine p_s ?_ | refine p_n (fun _ => ?_) | refine p_y ?_ | ((fail_if_success refine gp_lit rfl rfl rfl rfl ?_); first | apply gp_guard_dec rfl rfl rfl rfl | apply gp_guard rfl rfl rfl rfl | fail))
        | refine gp_two ?_ ?_ | refine gp_done hd hk ?_ | intro _)
      exact g_again (i + 1, m + l[i]) (by simp only []; omega) ⟨hi', by simp only []; omega, by simp only []; omega, hs⟩ (by (repeat (first | exact FrSub.nil | refine FrSub.cons rfl ?_)); first | done | fail) (by (repeat (first | exact Take.nil | apply Take.cons | exact Sel.here | apply Sel.there)); first | done | fail)
  · have hi' : i = l.length := by omega
    subst hi'
    rw [List.drop_length] at hs
    repeat (first
      | (refine g_ops ?_; first | refine s_q ?_ | refine s_v ?_ | refine s_s ?_ | refine s_n (fun _ => ?_) | refine s_x ?_ | refine s_y ?_ | ((fail_if_success refine g_lit rfl rfl rfl ?_); first | apply g_partM rfl rfl rfl | apply g_partMB rfl rfl rfl | fail))
      | apply g_regB (id := 4) 22 | refine g_seq ?_ | refine g_region ?_ | refine g_nil ?_ | refine g_then_normal ?_ | refine g_block ?_ | refine g_in_normal ?_
      | refine g_retc ?_ | refine g_then_ret ?_ | refine g_in_ret ?_ | refine g_exit ?_ | refine g_then_exit ?_ | refine g_in_exit ?_ | refine g_in_other rfl ?_
      | refine g_skip ?_ | refine g_label ?_ | refine g_cond_true rfl ?_ | refine g_cond_false rfl ?_ | exact s_m | intro _ | (refine gp_take ?_; first | refine p_q ?_ | refine p_x ?_ | ((fail_if_success refine gp_lit rfl rfl rfl rfl ?_); first | apply gp_guard_dec rfl rfl rfl rfl | apply gp_guard rfl rfl rfl rfl | fail))
      | (refine gp_see ?_; first | refine p_f ?_ | refine p_sx ?_ | ((fail_if_success refine gp_lit rfl rfl rfl rfl ?_); first | apply gp_guard_dec rfl rfl rfl rfl | apply gp_guard rfl rfl rfl rfl | fail) | refine p_sq ?_)
      | (refine gp_one ?_; first | refine p_v ?_ | refine p_s ?_ | refine p_n (fun _ => ?_) | refine p_y ?_ | ((fail_if_success refine gp_lit rfl rfl rfl rfl ?_); first | apply gp_guard_dec rfl rfl rfl rfl | apply gp_guard rfl rfl rfl rfl | fail))
      | refine gp_two ?_ ?_ | refine gp_done hd hk ?_ | intro _)
    exact s_r () (hp := by simp only [pack, hs, sumF])
theorem sum_row (b cap : Nat) (e : TypeId) (n : Int) (l : List Int) (hn : 0 ≤ n ∧ n ≤ most) (hl : ∀ x ∈ l, 0 ≤ x ∧ x ≤ 9223372036854775807) (hlen : l.length ≤ 1000000) :
    Does1 Tryd.prog 13 [.int .i64 n, .slice (some ⟨b, 0, none⟩) l.length cap] [.row b (l.map (.int .i64 ·)) e] (.int .i64 (sumF n l)) :=
  sum_any _ b 0 cap n l hn hl hlen (fun i h => reads_row (by simp [h]))
end Go.Proofs.YtaahibcibgljbaaDoor

namespace Go.Proofs.YtaahibcibgljbaaDoor
open Go.Sl facts
theorem sumF_sum : ∀ (l : List Int) (n : Int), (∀ x ∈ l, 0 ≤ x) → n ≤ most → sumF n l < most → sumF n l = n + l.sum
  | [], n, _, _, _ => by simp [sumF]
  | x :: l, n, hl, h, hs => by
    simp only [sumF] at hs ⊢
    split at hs
    · exact absurd hs (Int.lt_irrefl _)
    · rename_i hc
      rw [if_neg hc, sumF_sum l (n + x) (fun z hz => hl z (List.mem_cons_of_mem _ hz)) (by omega) hs, List.sum_cons]
      omega
theorem sum_upS (n : Int) (l : List Int) (hl : ∀ x ∈ l, 0 ≤ x) (h : n ≤ most) : sumF n l ≤ most ∧ n ≤ sumF n l ∧ (sumF n l < most → sumF n l = n + l.sum) :=
  ⟨(sumF_ge l n hl h).2, (sumF_ge l n hl h).1, fun hs => sumF_sum l n hl h hs⟩
inductive SmV : V → Prop where
  | mk {k y n s ks l} (h6 : k = 6 → ks.length = l.length) (h0 : k ≠ 6 → ks = []) (h5 : k < 5 → l = []) (h : ∀ x ∈ l, SmV x) : SmV (.mk k y n s ks l)
theorem VAt.ok {C : Chunk} {v : V} {u : Vc} (h : VAt C v u) : VOk v := by
  induction h with
  | mk us hk hn hs hkl hks hkS hl hu hS _ ih =>
    refine .mk hn fun x hx => ?_
    obtain ⟨i, hi, rfl⟩ := List.mem_iff_getElem.1 hx
    exact ih i _ _ (List.getElem?_eq_getElem hi) (List.getElem?_eq_getElem (by omega))
theorem szV_pos (v : V) : 1 ≤ szV v := by cases v; rw [szV_mk]; omega
theorem szK_len : ∀ l : List V, l.length ≤ szK l
  | [] => by simp
  | x :: l => by have := szK_len l; have := szV_pos x; rw [szK_cons, List.length_cons]; omega
theorem shape (deep k : Int) (a b : Nat) (h : (bif decide (40 < deep) then true
          else
            bif decide ((a : Int) ≠ (b : Int)) then
              bif decide (k = 6) then true
              else
                bif decide (k ≠ 6) then
                  bif decide (0 < (a : Int)) then true else bif decide (k < 5) then decide (0 < (b : Int)) else false
                else bif decide (k < 5) then decide (0 < (b : Int)) else false
            else
              bif decide (k ≠ 6) then
                bif decide (0 < (a : Int)) then true else bif decide (k < 5) then decide (0 < (b : Int)) else false
              else bif decide (k < 5) then decide (0 < (b : Int)) else false) = false) : deep ≤ 40 ∧ (k = 6 → a = b) ∧ (k ≠ 6 → a = 0) ∧ (k < 5 → b = 0) := by
  by_cases a1 : 40 < deep
  · simp only [decide_eq_true a1, cond_true] at h; cases h
  simp only [decide_eq_false a1, cond_false] at h
  by_cases a2 : (a : Int) ≠ (b : Int) <;> by_cases a3 : k = 6 <;> by_cases a4 : (0 : Int) < a <;> by_cases a5 : k < 5 <;> by_cases a6 : (0 : Int) < b <;>
    first | omega | (simp only [a2, a3, a4, a5, a6, ne_eq, not_true, not_false_eq_true, decide_true, decide_false, cond_true, cond_false] at h; cases h) | (simp [a2, a3, a4, a5, a6] at h; done) | omega
attribute [local irreducible] Code.wp wpList Exit.then Exit.inBlock bodyPost Back MidQ G GP QStep VStep CStep SStep Does Post Reads
attribute [local irreducible] sumF szV szK szS
structure IM where
  i : Nat
  m : Int
end Go.Proofs.YtaahibcibgljbaaDoor
namespace Go.Proofs.YtaahibcibgljbaaDoor
open Go.Sl facts
attribute [local irreducible] Code.wp wpList Exit.then Exit.inBlock bodyPost Back MidQ G GP QStep VStep CStep SStep Does Post Reads
structure MdX where
  i : Nat
  q : Option Addr
  c : Nat
  vs : List Value
  H : HP
structure MpX where
  i : Nat
  q : Option Addr
  c : Nat
  ps : List Pr
  H : HP
structure MqX where
  q : Option Addr
  c : Nat
  H : HP
  w : Value
theorem TAt.shape {H : HP} {v : V} {x : Value} (h : TAt H v x) : x = .nilIface ∨ ∃ t u, x = .iface t u := by cases h <;> first | exact .inl rfl | exact .inr ⟨_, _, rfl⟩
theorem TAt.one {H : HP} {v : V} {x : Value} (h : TAt H v x) : x.oneCell' = true := by cases h <;> rfl
end Go.Proofs.YtaahibcibgljbaaDoor
namespace Go.Proofs.YtaahibcibgljbaaDoor
open Go.Sl facts
attribute [local irreducible] Code.wp wpList Exit.then Exit.inBlock bodyPost Back MidQ G GP QStep VStep CStep SStep Does Post Reads
def Other (ty : TypeId) (x : Value) : Prop := x = .nilIface ∨ ∃ t v, x = .iface t v ∧ Nat.beq t ty = false
theorem int_yes (n : Int) : Does1 Tryd.prog 76 [.iface 3 (int n)] [] (.tuple #[int n, .bool true]) := by
  refine fn_intro Tryd.func76 rfl Tryd.ntmps76 rfl (by simp only [argFr, Nat.zero_add, Nat.reduceAdd]; rfl) (fun Γ => ?_)
  repeat (first
    | (refine g_ops ?_; first | refine sO ?_ | refine s_n (fun _ => ?_) | refine s_app (fun _ _ => ?_) | refine s_b0 (fun _ => ?_) | ((fail_if_success refine g_lit rfl rfl rfl ?_); first | apply g_partM rfl rfl rfl | apply g_partMB rfl rfl rfl | fail))
    | refine gS ?_ | exact s_m | intro _)
  exact s_r ()
theorem int_no {x : Value} (h : Other 3 x) : Does1 Tryd.prog 76 [x] [] (.tuple #[int 0, .bool false]) := by
  rcases h with rfl | ⟨t, v, rfl, ne⟩
  · refine fn_intro Tryd.func76 rfl Tryd.ntmps76 rfl (by simp only [argFr, Nat.zero_add, Nat.reduceAdd]; rfl) (fun Γ => ?_)
    repeat (first
      | (refine g_ops ?_; first | refine sO ?_ | refine s_n (fun _ => ?_) | refine s_app (fun _ _ => ?_) | refine s_b0 (fun _ => ?_) | ((fail_if_success refine g_lit rfl rfl rfl ?_); first | apply g_partM rfl rfl rfl | apply g_partMB rfl rfl rfl | fail))
      | refine gS ?_ | exact s_m | intro _)
    exact s_r ()
  · refine fn_intro Tryd.func76 rfl Tryd.ntmps76 rfl (by simp only [argFr, Nat.zero_add, Nat.reduceAdd]; rfl) (fun Γ => ?_)
    repeat (first
      | (refine g_ops ?_; first | refine sO ?_ | refine s_n (fun _ => ?_) | refine s_app (fun _ _ => ?_) | refine s_b0 (fun _ => ?_) | ((fail_if_success refine g_lit rfl rfl rfl ?_); first | apply g_partM rfl rfl rfl | apply g_partMB rfl rfl rfl | fail))
      | refine gS ?_ | exact s_m | intro _)
    exact s_r ()
end Go.Proofs.YtaahibcibgljbaaDoor

/-
  DERIVED: THE SHELF's CONTRACTS AT THIS DUMP, IN PLAIN WORDS (tools/lay-plain.mjs out of 'TrydShelV.lean', which tools/lay-shelf.mjs wrote): THE SAME DECLARATIONS UNDER THE SAME NAMES: 'import', 'namespace', 'open', 'def', 'theorem' AND NOTHING ELSE: no command of the shelf's: FOR A HAND-IN. Each laying: the table of numbers ('.._ren') and one theorem, a field a fact of the dump's own or the kernel's comparison; each contract: ONE APPLICATION.
-/
namespace Go.Proofs
open Go.Shelf
def Tryd.laysNm196_ren : Go.Shelf.Ren := ⟨fun | 196 => 78 | 259 => 86 | n => n, fun | 9 => 9 | 4 => 4 | 3 => 3 | 5 => 5 | 12 => 12 | 119 => 148 | 0 => 0 | 46 => 127 | 139 => 151 | 138 => 150 | 53 => 122 | n => n, fun | 3 => 0 | 4 => 1 | n => n⟩
theorem Tryd.laysNm196 : Go.Proofs.Lays.n196 Tryd.prog Tryd.laysNm196_ren := {
  mixed := by kernel_rfl
  f196 := Tryd.func78.trans (congrArg some (by kernel_rfl))
  f259 := Tryd.func86.trans (congrArg some (by kernel_rfl))
  t0 := Tryd.underlying0
  a0 := Tryd.isAgg0
  z0 := Tryd.sizeOf0
  v0 := Tryd.zeroValue0
  t3 := Tryd.underlying3
  a3 := Tryd.isAgg3
  z3 := Tryd.sizeOf3
  v3 := Tryd.zeroValue3
  t4 := Tryd.underlying4
  a4 := Tryd.isAgg4
  z4 := Tryd.sizeOf4
  v4 := Tryd.zeroValue4
  t5 := Tryd.underlying5
  a5 := Tryd.isAgg5
  z5 := Tryd.sizeOf5
  v5 := Tryd.zeroValue5
  t9 := Tryd.underlying9
  a9 := Tryd.isAgg9
  z9 := Tryd.sizeOf9
  v9 := Tryd.zeroValue9
  t12 := Tryd.underlying12
  a12 := Tryd.isAgg12
  z12 := Tryd.sizeOf12
  v12 := Tryd.zeroValue12
  t46 := Tryd.underlying127
  a46 := Tryd.isAgg127
  z46 := Tryd.sizeOf127
  v46 := Tryd.zeroValue127
  t53 := Tryd.underlying122
  a53 := Tryd.isAgg122
  z53 := Tryd.sizeOf122
  v53 := Tryd.zeroValue122
  t119 := Tryd.underlying148
  a119 := Tryd.isAgg148
  z119 := Tryd.sizeOf148
  t138 := Tryd.underlying150
  a138 := Tryd.isAgg150
  z138 := Tryd.sizeOf150
  v138 := Tryd.zeroValue150
  t139 := Tryd.underlying151
  a139 := Tryd.isAgg151
  z139 := Tryd.sizeOf151
  v139 := Tryd.zeroValue151
  g3 := by kernel_rfl
  g4 := by kernel_rfl }
def Tryd.laysNm197_ren : Go.Shelf.Ren := ⟨fun | 197 => 83 | 260 => 94 | n => n, fun | 9 => 9 | 21 => 21 | 3 => 3 | 4 => 4 | 5 => 5 | 105 => 143 | 119 => 148 | 0 => 0 | 46 => 127 | 139 => 151 | 138 => 150 | n => n, fun | 3 => 0 | 4 => 1 | n => n⟩
theorem Tryd.laysNm197 : Go.Proofs.Lays.n197 Tryd.prog Tryd.laysNm197_ren := {
  mixed := by kernel_rfl
  f197 := Tryd.func83.trans (congrArg some (by kernel_rfl))
  f260 := Tryd.func94.trans (congrArg some (by kernel_rfl))
  t0 := Tryd.underlying0
  a0 := Tryd.isAgg0
  z0 := Tryd.sizeOf0
  v0 := Tryd.zeroValue0
  t3 := Tryd.underlying3
  a3 := Tryd.isAgg3
  z3 := Tryd.sizeOf3
  v3 := Tryd.zeroValue3
  t4 := Tryd.underlying4
  a4 := Tryd.isAgg4
  z4 := Tryd.sizeOf4
  v4 := Tryd.zeroValue4
  t5 := Tryd.underlying5
  a5 := Tryd.isAgg5
  z5 := Tryd.sizeOf5
  v5 := Tryd.zeroValue5
  t9 := Tryd.underlying9
  a9 := Tryd.isAgg9
  z9 := Tryd.sizeOf9
  v9 := Tryd.zeroValue9
  t21 := Tryd.underlying21
  a21 := Tryd.isAgg21
  z21 := Tryd.sizeOf21
  v21 := Tryd.zeroValue21
  t46 := Tryd.underlying127
  a46 := Tryd.isAgg127
  z46 := Tryd.sizeOf127
  v46 := Tryd.zeroValue127
  t105 := Tryd.underlying143
  a105 := Tryd.isAgg143
  z105 := Tryd.sizeOf143
  v105 := Tryd.zeroValue143
  t119 := Tryd.underlying148
  a119 := Tryd.isAgg148
  z119 := Tryd.sizeOf148
  t138 := Tryd.underlying150
  a138 := Tryd.isAgg150
  z138 := Tryd.sizeOf150
  v138 := Tryd.zeroValue150
  t139 := Tryd.underlying151
  a139 := Tryd.isAgg151
  z139 := Tryd.sizeOf151
  v139 := Tryd.zeroValue151
  g3 := by kernel_rfl
  g4 := by kernel_rfl }
def Tryd.laysMNm284_ren : Go.Shelf.Ren := ⟨fun | 284 => 91 | 129 => 102 | 317 => 101 | 318 => 103 | n => n, fun | 53 => 122 | 3 => 3 | 212 => 170 | 0 => 0 | 4 => 4 | 46 => 127 | 5 => 5 | 9 => 9 | n => n, fun | 17 => 2 | n => n⟩
theorem Tryd.laysMNm284 : Go.Proofs.LaysM.n284 Tryd.prog Tryd.laysMNm284_ren := {
  mixed := by kernel_rfl
  f129 := Tryd.func102.trans (congrArg some (by kernel_rfl))
  f284 := Tryd.func91.trans (congrArg some (by kernel_rfl))
  f317 := Tryd.func101.trans (congrArg some (by kernel_rfl))
  f318 := Tryd.func103.trans (congrArg some (by kernel_rfl))
  t0 := Tryd.underlying0
  a0 := Tryd.isAgg0
  z0 := Tryd.sizeOf0
  v0 := Tryd.zeroValue0
  t3 := Tryd.underlying3
  a3 := Tryd.isAgg3
  z3 := Tryd.sizeOf3
  v3 := Tryd.zeroValue3
  t4 := Tryd.underlying4
  a4 := Tryd.isAgg4
  z4 := Tryd.sizeOf4
  v4 := Tryd.zeroValue4
  t5 := Tryd.underlying5
  a5 := Tryd.isAgg5
  z5 := Tryd.sizeOf5
  v5 := Tryd.zeroValue5
  t9 := Tryd.underlying9
  a9 := Tryd.isAgg9
  z9 := Tryd.sizeOf9
  v9 := Tryd.zeroValue9
  t46 := Tryd.underlying127
  a46 := Tryd.isAgg127
  z46 := Tryd.sizeOf127
  v46 := Tryd.zeroValue127
  t53 := Tryd.underlying122
  a53 := Tryd.isAgg122
  z53 := Tryd.sizeOf122
  v53 := Tryd.zeroValue122
  t212 := Tryd.underlying170
  a212 := Tryd.isAgg170
  z212 := Tryd.sizeOf170
  v212 := Tryd.zeroValue170
  g17 := by kernel_rfl
  i0 := by kernel_rfl
  i3 := by kernel_rfl
  i4 := by kernel_rfl
  i5 := by kernel_rfl
  i9 := by kernel_rfl
  i46 := by kernel_rfl
  i53 := by kernel_rfl
  i212 := by kernel_rfl
  m17 := by kernel_rfl }
end Go.Proofs

namespace Go.Proofs.YtaahibcibgljbaaDoor
open Go Go.ChangeShapes Go.WideShapes Go.ChangeAt Go.RowKit Go.Sl facts
def UtH (H : HP) : Prop := ∃ xs e fz ys e' fz', H 0 = some (.cells xs e fz) ∧ H 1 = some (.cells ys e' fz') ∧ (∀ c, c < 256 → xs[c]? = some (.int .u8 (Lib.firstT c))) ∧ (∀ i, i < 16 → ys[2 * i]? = some (.int .u8 (Lib.accLo i)) ∧ ys[2 * i + 1]? = some (.int .u8 (Lib.accHi i)))
def tabV : List Value := Lib.pow10Tab.map fun z => .int .u64 z
def TabH (H : HP) : Prop := ∃ (e : TypeId) (fz : Nat × Nat), H 2 = some (.cells tabV.toArray e fz)
theorem tabIs {H : HP} (h : TabH H) {w : World} (hw : ∀ b o, H b = some o → w.heap[b]? = some o) : Lib.TabIs Tryd.prog w "internal/strconv.uint64pow10" .u64 Lib.pow10Tab := by
  obtain ⟨e, fz, h⟩ := h
  have hg : Tryd.prog.globalNamed "internal/strconv.uint64pow10" = some 2 := by kernel_rfl
  unfold Lib.TabIs World.var?
  rw [hg]
  simp only [Option.bind_some, hw _ _ h]
  rfl
theorem tabs {H : HP} (h : UtH H) {w : World} (hw : ∀ b o, H b = some o → w.heap[b]? = some o) : Lib.Utf8Tabs 0 1 w := by
  obtain ⟨xs, e, fz, ys, e', fz', h1, h2, h3, h4⟩ := h
  refine ⟨fun c hc => ?_, fun i hi => ?_⟩
  · have := hw _ _ h1
    show w.cell? ⟨0, c, none⟩ = _
    simp [World.cell?, this, h3 c hc]
  · have := hw _ _ h2
    show w.cell? ⟨1, 2 * i, none⟩ = _ ∧ w.cell? ⟨1, 2 * i + 1, none⟩ = _
    simp [World.cell?, this, h4 i hi]
theorem tb_of {H : HP} (hU : UtH H) (hP : TabH H) : Tb H where
  vs := fun s hs => does_of_below fun w hw => Any.utf8_ValidString Tryd.laysNm196 s w hs (tabs hU hw)
  dec := fun s _ => does_of_below fun w hw => Any.utf8_DecodeRuneInString Tryd.laysNm197 s w (tabs hU hw)
  nd := fun u h1 h2 => does_of_calls fun w hw => (Any.internal_strconv_numDigits Tryd.laysMNm284 u h1 h2 w (tabIs hP hw)).mono fun e w' ⟨he, hw'⟩ => ⟨he, 0, #[], by subst hw'; simp [_root_.Go.Sort.grow, World.drewN]⟩
theorem own : ownKnob Tryd.prog.godebug = none := by kernel_rfl
theorem laidOut : laidOutB Tryd.prog = true := by kernel_rfl
def lst : List (String × DataW Unit) := [("math/bits.deBruijn32tab", Rows.laid_math_bits_deBruijn32tab), ("math/bits.deBruijn64tab", Rows.laid_math_bits_deBruijn64tab), ("internal/strconv.uint64pow10", Rows.laid_internal_strconv_uint64pow10), ("unicode/utf8.acceptRanges", Rows.laid_unicode_utf8_acceptRanges), ("unicode/utf8.first", Rows.laid_unicode_utf8_first)]
noncomputable def doorW (os : Os) : World := { World.doorLaid Tryd.prog 400 os with heap := (World.doorLaid Tryd.prog 400 os).heap.modify 0 fun o => match o with
  | .cells _ e fz => .cells (Lib.firstTab.map (.int .u8)).toArray e fz
  | o => o }
theorem u8x : U8Extra Tryd.prog Tryd.laysNm196_ren := ⟨by kernel_rfl, by kernel_rfl, by kernel_rfl, by kernel_rfl, by kernel_rfl, by kernel_rfl, by kernel_rfl⟩
theorem ut_of {W : World} {l : List (String × DataW Unit)} (h : laidMet Tryd.prog l W) (m1 : ("unicode/utf8.first", Rows.laid_unicode_utf8_first) ∈ l) (m2 : ("unicode/utf8.acceptRanges", Rows.laid_unicode_utf8_acceptRanges) ∈ l) : UtH (wheap W) := by
  have h3 := Lib.laidMet.reads h (n := "unicode/utf8.first") (d := Lib.firstData) (by rw [← Pinned.utf8First_eq]; exact m1)
  have h4 := Lib.laidMet.reads h (n := "unicode/utf8.acceptRanges") (d := Lib.acceptData) (by rw [show Lib.acceptData = Rows.laid_unicode_utf8_acceptRanges from rfl]; exact m2)
  have ht := utf8Tabs_of_readsT (U8Types.of196 Tryd.laysNm196) u8x h3 h4
  obtain ⟨t1, t2⟩ := ht
  have key : ∀ (g : Nat) (v : Value), W.cell? ⟨g, 0, none⟩ = some v → ∃ xs e fz, W.heap[g]? = some (.cells xs e fz) ∧ ∀ c u, W.cell? ⟨g, c, none⟩ = some u → xs[c]? = some u := fun g v hv => by
    unfold World.cell? at hv
    split at hv
    · rename_i xs e fz hb
      refine ⟨xs, e, fz, hb, fun c u hu => ?_⟩
      simpa [World.cell?, hb] using hu
    · cases hv
  obtain ⟨xs, e, fz, hb, hx⟩ := key _ _ (t1 0 (by decide))
  obtain ⟨ys, e', fz', hb', hy⟩ := key _ _ (t2 0 (by decide)).1
  exact ⟨xs, e, fz, ys, e', fz', hb, hb', fun c hc => hx c _ (t1 c hc), fun i hi => ⟨hy _ _ (t2 i hi).1, hy _ _ (t2 i hi).2⟩⟩
theorem tabH_of {W : World} {rest : List (String × DataW Unit)} (h3 : laidMet Tryd.prog (("internal/strconv.uint64pow10", Lib.tabData .u64 Lib.pow10Tab) :: rest) W) : TabH (wheap W) := by
  have hg : Tryd.prog.globalNamed "internal/strconv.uint64pow10" = some 2 := by kernel_rfl
  have ht := Lib.tabIs_of_head (g := 2) (t := 170) (e := 122) (n := 20) hg (by kernel_rfl) Tryd.underlying170 Tryd.underlying122 (by kernel_rfl) (by kernel_rfl) h3
  unfold Lib.TabIs World.var? at ht
  rw [hg] at ht
  simp only [Option.bind_some] at ht
  split at ht
  · rename_i cs e fz hb
    simp only [Option.some.injEq] at ht
    subst ht
    exact ⟨e, fz, hb⟩
  · cases ht
end Go.Proofs.YtaahibcibgljbaaDoor
