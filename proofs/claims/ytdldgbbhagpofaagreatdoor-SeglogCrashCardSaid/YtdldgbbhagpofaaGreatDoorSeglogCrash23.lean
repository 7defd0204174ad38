/- Contracts and laws that the proof stands on. -/
import Derived.Test.YtdldgbbhagpofaaGreatDoorSeglogCrash9
import Derived.Test.YtdldgbbhagpofaaGreatDoorSeglogCrash22
import Derived.Test.YtdldgbbhagpofaaGreatDoorSeglogCrash18
set_option linter.unusedSimpArgs false
set_option linter.unusedVariables false
namespace Go.Proofs.YtdldgbbhagpofaaGreatDoor
open Go.Sl facts
def most : Int := 1099511627776
def sumF : Int → List Int → Int
  | n, [] => n
  | n, x :: l => if n > most ∨ x > most - n then most else sumF (n + x) l
theorem sumF_ge : ∀ (l : List Int) (n : Int), (∀ x ∈ l, 0 ≤ x) → n ≤ most → n ≤ sumF n l ∧ sumF n l ≤ most
  | [], n, _, h => ⟨Int.le_refl _, h⟩
  | x :: l, n, hl, h => by
    simp only [sumF]
    split
    · exact ⟨h, Int.le_refl _⟩
    · have hx := hl x (List.mem_cons_self ..)
      have := sumF_ge l (n + x) (fun y hy => hl y (List.mem_cons_of_mem _ hy)) (by omega)
      exact ⟨by omega, this.2⟩
theorem sumF_each : ∀ (l : List Int) (n : Int), (∀ x ∈ l, 0 ≤ x) → 0 ≤ n → n ≤ most → ∀ x ∈ l, sumF n l < most → x ≤ sumF n l
  | [], _, _, _, _, x, hx, _ => by cases hx
  | y :: l, n, hl, h0, h, x, hx, hs => by
    simp only [sumF] at hs ⊢
    split at hs
    · exact absurd hs (Int.lt_irrefl _)
    · rename_i hc
      rw [if_neg hc]
      have hy := hl y (List.mem_cons_self ..)
      have hge := sumF_ge l (n + y) (fun z hz => hl z (List.mem_cons_of_mem _ hz)) (by omega)
      rcases List.mem_cons.1 hx with rfl | hx
      · omega
      · exact sumF_each l (n + y) (fun z hz => hl z (List.mem_cons_of_mem _ hz)) (by omega) (by omega) x hx hs
theorem sumF_drop (l : List Int) (i : Nat) (n : Int) (h : i < l.length) : sumF n (l.drop i) = if n > most ∨ l[i] > most - n then most else sumF (n + l[i]) (l.drop (i + 1)) := by
  rw [List.drop_eq_getElem_cons h, sumF]
attribute [local irreducible] Code.wp wpList Exit.then Exit.inBlock bodyPost Back MidQ G GP QStep VStep CStep SStep Does Post Reads
attribute [local irreducible] sumF
theorem sum_any (C : Chunk) (b o cap : Nat) (n : Int) (l : List Int) (hn : 0 ≤ n ∧ n ≤ most) (hl : ∀ x ∈ l, 0 ≤ x ∧ x ≤ 9223372036854775807) (hlen : l.length ≤ 1000000) (hrs : ∀ i (h : i < l.length), Reads C ⟨b, o + i, none⟩ (.int .i64 l[i])) :
    Does1 Tryz.prog 33 [.int .i64 n, .slice (some ⟨b, o, none⟩) l.length cap] [C] (.int .i64 (sumF n l)) := by
  refine fn_intro Tryz.func33 rfl Tryz.ntmps33 rfl (by simp only [argFr, Nat.zero_add, Nat.reduceAdd]; rfl) (fun Γ => ?_)
  repeat (first
    | (refine g_ops ?_; first | refine s_q ?_ | refine s_v ?_ | refine s_s ?_ | refine s_n (fun _ => ?_) | refine s_x ?_ | refine s_y ?_ | ((fail_if_success refine g_lit rfl rfl rfl ?_); first | apply g_partM rfl rfl rfl | apply g_partMB rfl rfl rfl | fail))
    | apply g_regB (id := 4) 22 | refine g_seq ?_ | refine g_region ?_ | refine g_nil ?_ | refine g_then_normal ?_ | refine g_block ?_ | refine g_in_normal ?_
    | refine g_retc ?_ | refine g_then_ret ?_ | refine g_in_ret ?_ | refine g_exit ?_ | refine g_then_exit ?_ | refine g_in_exit ?_ | refine g_in_other rfl ?_
    | refine g_skip ?_ | refine g_label ?_ | refine g_cond_true rfl ?_ | refine g_cond_false rfl ?_ | exact s_m | intro _ | (refine gp_take ?_; first | refine p_q ?_ | refine p_x ?_ | ((fail_if_success refine gp_lit rfl rfl rfl rfl ?_); first | apply gp_guard_dec rfl rfl rfl rfl | apply gp_guard rfl rfl rfl rfl | fail))
    | (refine gp_see ?_; first | refine p_f ?_ | refine p_sx ?_ | ((fail_if_success refine gp_lit rfl rfl rfl rfl ?_); first | apply gp_guard_dec rfl rfl rfl rfl | apply gp_guard rfl rfl rfl rfl | fail) | refine p_sq ?_)
    | (refine gp_one ?_; first | refine p_v ?_ | refine p_s ?_ | refine p_n (fun _ => ?_) | refine p_y ?_ | ((fail_if_success refine gp_lit rfl rfl rfl rfl ?_); first | apply gp_guard_dec rfl rfl rfl rfl | apply gp_guard rfl rfl rfl rfl | fail))
    | refine gp_two ?_ ?_ | refine gp_done hd hk ?_ | intro _)
  refine g_loop (X := Nat × Int) (fun x => [(5, .int .i64 x.1), (4, .int .i64 0), (0, .int .i64 x.2), (1, .slice (some ⟨b, o, none⟩) l.length cap)]) (fun _ => [C]) (fun x => x.1 ≤ l.length ∧ 0 ≤ x.2 ∧ x.2 ≤ most ∧ sumF n l = sumF x.2 (l.drop x.1)) (fun x => l.length - x.1) (0, n) ⟨Nat.zero_le _, hn.1, hn.2, by simp⟩ (by (repeat (first | exact FrSub.nil | refine FrSub.cons rfl ?_)); first | done | fail) (by (repeat (first | exact Take.nil | apply Take.cons | exact Sel.here | apply Sel.there)); first | done | fail) (fun x hx => ?_)
  obtain ⟨i, m⟩ := x
  obtain ⟨hi, hm0, hm1, hs⟩ := hx
  simp only [] at hi hm0 hm1 hs
  have hmost : most = 1099511627776 := rfl
  dsimp only
  repeat (first
    | (refine g_ops ?_; first | refine s_q ?_ | refine s_v ?_ | refine s_s ?_ | refine s_n (fun _ => ?_) | refine s_x ?_ | refine s_y ?_ | ((fail_if_success refine g_lit rfl rfl rfl ?_); first | apply g_partM rfl rfl rfl | apply g_partMB rfl rfl rfl | fail))
    | apply g_regB (id := 4) 22 | refine g_seq ?_ | refine g_region ?_ | refine g_nil ?_ | refine g_then_normal ?_ | refine g_block ?_ | refine g_in_normal ?_
    | refine g_retc ?_ | refine g_then_ret ?_ | refine g_in_ret ?_ | refine g_exit ?_ | refine g_then_exit ?_ | refine g_in_exit ?_ | refine g_in_other rfl ?_
    | refine g_skip ?_ | refine g_label ?_ | refine g_cond_true rfl ?_ | refine g_cond_false rfl ?_ | exact s_m | intro _ | (refine gp_take ?_; first | refine p_q ?_ | refine p_x ?_ | ((fail_if_success refine gp_lit rfl rfl rfl rfl ?_); first | apply gp_guard_dec rfl rfl rfl rfl | apply gp_guard rfl rfl rfl rfl | fail))
    | (refine gp_see ?_; first | refine p_f ?_ | refine p_sx ?_ | ((fail_if_success refine gp_lit rfl rfl rfl rfl ?_); first | apply gp_guard_dec rfl rfl rfl rfl | apply gp_guard rfl rfl rfl rfl | fail) | refine p_sq ?_)
    | (refine gp_one ?_; first | refine p_v ?_ | refine p_s ?_ | refine p_n (fun _ => ?_) | refine p_y ?_ | ((fail_if_success refine gp_lit rfl rfl rfl rfl ?_); first | apply gp_guard_dec rfl rfl rfl rfl | apply gp_guard rfl rfl rfl rfl | fail))
    | refine gp_two ?_ ?_ | refine gp_done hd hk ?_ | intro _)
  refine g_cond_dec rfl (fun h1 => ?_) (fun h1 => ?_)
  · have hi' : i < l.length := by omega
    have hx := hl l[i] (List.getElem_mem _)
    have hr : ∀ (j : Nat), j = i → Reads C ⟨b, o + j, none⟩ (.int .i64 l[i]) := fun j e => by rw [e]; exact hrs i hi'
    rw [sumF_drop l i m hi'] at hs
    repeat (first
      | (refine g_ops ?_; first | refine s_q ?_ | refine s_v ?_ | refine s_s ?_ | refine s_n (fun _ => ?_) | refine s_x ?_ | refine s_y ?_ | ((fail_if_success refine g_lit rfl rfl rfl ?_); first | apply g_partM rfl rfl rfl | apply g_partMB rfl rfl rfl | fail))
      | apply g_regB (id := 4) 22 | refine g_seq ?_ | refine g_region ?_ | refine g_nil ?_ | refine g_then_normal ?_ | refine g_block ?_ | refine g_in_normal ?_
      | refine g_retc ?_ | refine g_then_ret ?_ | refine g_in_ret ?_ | refine g_exit ?_ | refine g_then_exit ?_ | refine g_in_exit ?_ | refine g_in_other rfl ?_
      | refine g_skip ?_ | refine g_label ?_ | refine g_cond_true rfl ?_ | refine g_cond_false rfl ?_ | exact s_m | intro _ | (refine gp_take ?_; first | refine p_q ?_ | refine p_x ?_ | ((fail_if_success refine gp_lit rfl rfl rfl rfl ?_); first | apply gp_guard_dec rfl rfl rfl rfl | apply gp_guard rfl rfl rfl rfl | fail))
      | (refine gp_see ?_; first | refine p_f ?_ | refine p_sx ?_ | ((fail_if_success refine gp_lit rfl rfl rfl rfl ?_); first | apply gp_guard_dec rfl rfl rfl rfl | apply gp_guard rfl rfl rfl rfl | fail) | refine p_sq ?_)
      | (refine gp_one ?_; first | refine p_v ?_ | refine p_s ?_ | refine p_n (fun _ => ?_) | refine p_y ?_ | ((fail_if_success refine gp_lit rfl rfl rfl rfl ?_); first | apply gp_guard_dec rfl rfl rfl rfl | apply gp_guard rfl rfl rfl rfl | fail))
      | refine gp_two ?_ ?_ | refine gp_done hd hk ?_ | intro _)
    refine g_cond rfl (fun h2 => ?_) (fun h2 => ?_)
    · have h3 : m > most ∨ l[i] > most - m := by simp at h2; omega
      rw [if_pos h3] at hs
      repeat (first
        | (refine g_ops ?_; first | refine s_q ?_ | refine s_v ?_ | refine s_s ?_ | refine s_n (fun _ => ?_) | refine s_x ?_ | refine s_y ?_ | ((fail_if_success refine g_lit rfl rfl rfl ?_); first | apply g_partM rfl rfl rfl | apply g_partMB rfl rfl rfl | fail))
        | apply g_regB (id := 4) 22 | refine g_seq ?_ | refine g_region ?_ | refine g_nil ?_ | refine g_then_normal ?_ | refine g_block ?_ | refine g_in_normal ?_
        | refine g_retc ?_ | refine g_then_ret ?_ | refine g_in_ret ?_ | refine g_exit ?_ | refine g_then_exit ?_ | refine g_in_exit ?_ | refine g_in_other rfl ?_
        | refine g_skip ?_ | refine g_label ?_ | refine g_cond_true rfl ?_ | refine g_cond_false rfl ?_ | exact s_m | intro _ | (refine gp_take ?_; first | refine p_q ?_ | refine p_x ?_ | ((fail_if_success refine gp_lit rfl rfl rfl rfl ?_); first | apply gp_guard_dec rfl rfl rfl rfl | apply gp_guard rfl rfl rfl rfl | fail))
        | (refine gp_see ?_; first | refine p_f ?_ | refine p_sx ?_ | ((fail_if_success refine gp_lit rfl rfl rfl rfl ?_); first | apply gp_guard_dec rfl rfl rfl rfl | apply gp_guard rfl rfl rfl rfl | fail) | refine p_sq ?_)
        | (refine gp_one ?_; first | refine p_v ?_ | refine p_s ?_ | refine p_n (fun _ => ?_) | refine p_y ?_ | ((fail_if_success refine gp_lit rfl rfl rfl rfl ?_); first | apply gp_guard_dec rfl rfl rfl rfl | apply gp_guard rfl rfl rfl rfl | fail))
        | refine gp_two ?_ ?_ | refine gp_done hd hk ?_ | intro _)
      exact s_r () (hp := by simp only [pack, hs]; rfl)
    · have h3 : ¬ (m > most ∨ l[i] > most - m) := by simp at h2; omega
      rw [if_neg h3] at hs
      repeat (first
        | (refine g_ops ?_; first | refine s_q ?_ | refine s_v ?_ | refine s_s ?_ | refine s_n (fun _ => ?_) | refine s_x ?_ | refine s_y ?_ | ((fail_if_success refine g_lit rfl rfl rfl ?_); first | apply g_partM rfl rfl rfl | apply g_partMB rfl rfl rfl | fail))
        | apply g_regB (id := 4) 22 | refine g_seq ?_ | refine g_region ?_ | refine g_nil ?_ | refine g_then_normal ?_ | refine g_block ?_ | refine g_in_normal ?_
        | refine g_retc ?_ | refine g_then_ret ?_ | refine g_in_ret ?_ | refine g_exit ?_ | refine g_then_exit ?_ | refine g_in_exit ?_ | refine g_in_other rfl ?_
        | refine g_skip ?_ | refine g_label ?_ | refine g_cond_true rfl ?_ | refine g_cond_false rfl ?_ | exact s_m | intro _ | (refine gp_take ?_; first | refine p_q ?_ | refine p_x ?_ | ((fail_if_success refine gp_lit rfl rfl rfl rfl ?_); first | apply gp_guard_dec rfl rfl rfl rfl | apply gp_guard rfl rfl rfl rfl | fail))
        | (refine gp_see ?_; first | refine p_f ?_ | refine p_sx ?_ | ((fail_if_success refine gp_lit rfl rfl rfl rfl ?_); first | apply gp_guard_dec rfl rfl rfl rfl | apply gp_guard rfl rfl rfl rfl | fail) | refine p_sq ?_)
        | (refine gp_one ?_; first | refine p_v ?_ | refine p_s ?_ | refine p_n (fun _ => ?_) | refine p_y ?_ | ((fail_if_success refine gp_lit rfl rfl rfl rfl ?_); first | apply gp_guard_dec rfl rfl rfl rfl | apply gp_guard rfl rfl rfl rfl | fail))
        | refine gp_two ?_ ?_ | refine gp_done hd hk ?_ | intro _)
      exact g_again (i + 1, m + l[i]) (by simp only []; omega) ⟨hi', by simp only []; omega, by simp only []; omega, hs⟩ (by (repeat (first | exact FrSub.nil | refine FrSub.cons rfl ?_)); first | done | fail) (by (repeat (first | exact Take.nil | apply Take.cons | exact Sel.here | apply Sel.there)); first | done | fail)
  · have hi' : i = l.length := by omega
    subst hi'
    rw [List.drop_length] at hs
    repeat (first
      | (refine g_ops ?_; first | refine s_q ?_ | refine s_v ?_ | refine s_s ?_ | refine s_n (fun _ => ?_) | refine s_x ?_ | refine s_y ?_ | ((fail_if_success refine g_lit rfl rfl rfl ?_); first | apply g_partM rfl rfl rfl | apply g_partMB rfl rfl rfl | fail))
      | apply g_regB (id := 4) 22 | refine g_seq ?_ | refine g_region ?_ | refine g_nil ?_ | refine g_then_normal ?_ | refine g_block ?_ | refine g_in_normal ?_
      | refine g_retc ?_ | refine g_then_ret ?_ | refine g_in_ret ?_ | refine g_exit ?_ | refine g_then_exit ?_ | refine g_in_exit ?_ | refine g_in_other rfl ?_
      | refine g_skip ?_ | refine g_label ?_ | refine g_cond_true rfl ?_ | refine g_cond_false rfl ?_ | exact s_m | intro _ | (refine gp_take ?_; first | refine p_q ?_ | refine p_x ?_ | ((fail_if_success refine gp_lit rfl rfl rfl rfl ?_); first | apply gp_guard_dec rfl rfl rfl rfl | apply gp_guard rfl rfl rfl rfl | fail))
      | (refine gp_see ?_; first | refine p_f ?_ | refine p_sx ?_ | ((fail_if_success refine gp_lit rfl rfl rfl rfl ?_); first | apply gp_guard_dec rfl rfl rfl rfl | apply gp_guard rfl rfl rfl rfl | fail) | refine p_sq ?_)
      | (refine gp_one ?_; first | refine p_v ?_ | refine p_s ?_ | refine p_n (fun _ => ?_) | refine p_y ?_ | ((fail_if_success refine gp_lit rfl rfl rfl rfl ?_); first | apply gp_guard_dec rfl rfl rfl rfl | apply gp_guard rfl rfl rfl rfl | fail))
      | refine gp_two ?_ ?_ | refine gp_done hd hk ?_ | intro _)
    exact s_r () (hp := by simp only [pack, hs, sumF])
theorem sum_row (b cap : Nat) (e : TypeId) (n : Int) (l : List Int) (hn : 0 ≤ n ∧ n ≤ most) (hl : ∀ x ∈ l, 0 ≤ x ∧ x ≤ 9223372036854775807) (hlen : l.length ≤ 1000000) :
    Does1 Tryz.prog 33 [.int .i64 n, .slice (some ⟨b, 0, none⟩) l.length cap] [.row b (l.map (.int .i64 ·)) e] (.int .i64 (sumF n l)) :=
  sum_any _ b 0 cap n l hn hl hlen (fun i h => reads_row (by simp [h]))
end Go.Proofs.YtdldgbbhagpofaaGreatDoor

namespace Go.Proofs.YtdldgbbhagpofaaGreatDoor
open Go.Sl facts
structure GV where
  p : Option Addr
  rs : List BV
  c : Nat
abbrev GV.v (g : GV) : Value := .slice g.p g.rs.length g.c
structure GsAt (H : HP) (p : Option Addr) (gs : List GV) : Prop where
  sl : SlAt (Pile H) 1 p gs.length (gs.map GV.v)
  at_ : ∀ g ∈ gs, RecsAt H g.p g.rs
  big : gs.length ≤ 9223372036854775807
  bigs : ∀ g ∈ gs, g.rs.length ≤ 9223372036854775807 ∧ ∀ r ∈ g.rs, r.l.length ≤ 9223372036854775807
theorem GsAt.grow {H H' : HP} {p : Option Addr} {gs : List GV} (h : GsAt H p gs) (s : HP.sub H H') : GsAt H' p gs := ⟨h.sl.grow s, fun g hg => (h.at_ g hg).grow s, h.big, h.bigs⟩
def cs (g : GV) : Nat := g.rs.length + sumL g.rs + g.rs.length
def csL (gs : List GV) : Nat := (gs.map cs).sum
theorem csL_take (gs : List GV) (i : Nat) (h : i < gs.length) : csL (gs.take (i + 1)) = csL (gs.take i) + cs gs[i] := by
  unfold csL
  rw [List.take_add_one, List.getElem?_eq_getElem h, List.map_append, List.sum_append]
  simp
theorem sumF_one (n a : Int) : sumF n [a] = if n > most ∨ a > most - n then most else n + a := by simp [sumF]
theorem sumF_two (n a b : Int) : sumF n [a, b] = if n > most ∨ a > most - n then most else if n + a > most ∨ b > most - (n + a) then most else n + a + b := by simp [sumF]
structure TbX where
  i : Nat
  n : Int
attribute [local irreducible] Code.wp wpList Exit.then Exit.inBlock bodyPost Back MidQ G GP QStep VStep CStep SStep Does Post Reads
attribute [local irreducible] sumF
theorem total_ {H : HP} (p : Option Addr) (c : Nat) (rs : List BV) (hR : RecsAt H p rs) (h1 : rs.length ≤ 9223372036854775807) (h2 : ∀ r ∈ rs, r.l.length ≤ 9223372036854775807) :
    Does Tryz.prog 34 [.slice p rs.length c, int 60000] [Pile H] (X := Int) (fun n => int n) (fun _ => [Pile H]) (fun n => 0 ≤ n ∧ n ≤ most ∧ (n ≤ 60000 → n = (rs.length + sumL rs : Nat))) := by
  have hmost : most = 1099511627776 := rfl
  refine fn_intro Tryz.func34 rfl Tryz.ntmps34 rfl (by simp only [argFr, Nat.zero_add, Nat.reduceAdd]; rfl) (fun Γ => ?_)
  repeat (first
    | (refine g_ops ?_; first | refine sO ?_ | refine s_n (fun _ => ?_) | refine s_appB (fun _ _ => ?_) | refine s_app (fun _ _ => ?_) | refine s_b0 (fun _ => ?_) | ((fail_if_success refine g_lit rfl rfl rfl ?_); first | apply g_partM rfl rfl rfl | apply g_partMB rfl rfl rfl | fail))
    | refine gS ?_ | exact s_m | intro _)
  rename_i b0
  have hs0 := sum_row b0 1 3 0 [(rs.length : Int)] ⟨Int.le_refl _, by decide⟩ (fun x hx => by rw [List.mem_singleton.1 hx]; omega) (by simp)
  rw [sumF_one] at hs0
  dsimp only [List.length_singleton, List.map_cons, List.map_nil] at hs0
  repeat (first
    | (refine g_ops ?_; first | refine sO ?_ | refine s_n (fun _ => ?_) | refine s_appB (fun _ _ => ?_) | refine s_app (fun _ _ => ?_) | refine s_b0 (fun _ => ?_) | ((fail_if_success refine g_lit rfl rfl rfl ?_); first | apply g_partM rfl rfl rfl | apply g_partMB rfl rfl rfl | fail) | refine s_k (hs0) ?_)
    | refine gS ?_ | exact s_m | intro _)
  obtain ⟨n0, hn0⟩ : ∃ n0 : Int, (if (0 : Int) > most ∨ (rs.length : Int) > most - 0 then most else 0 + (rs.length : Int)) = n0 := ⟨_, rfl⟩
  rw [hn0]
  have hn1 : 0 ≤ n0 ∧ n0 ≤ most ∧ (n0 ≤ 60000 → n0 = ((rs.length + sumL (rs.take 0) : Nat) : Int)) := by
    rw [← hn0]
    split
    · omega
    · simp [sumL]; omega
  refine g_as 6 (v' := int ((0 : Nat) : Int)) rfl rfl ?_
  refine g_loop (X := TbX) (fun x => [(0, .slice p rs.length c), (1, int 60000), (5, int x.n), (6, int x.i)]) (fun _ => [Pile H]) (fun x => x.i ≤ rs.length ∧ 0 ≤ x.n ∧ x.n ≤ most ∧ (x.n ≤ 60000 → x.n = ((rs.length + sumL (rs.take x.i) : Nat) : Int))) (fun x => rs.length - x.i) ⟨0, n0⟩ ⟨Nat.zero_le _, hn1⟩ (by (repeat (first | exact FrSub.nil | refine FrSub.cons rfl ?_)); first | done | fail) (by (repeat (first | exact Take.nil | apply Take.cons | exact Sel.here | apply Sel.there)); first | done | fail) (fun x hx => ?_)
  obtain ⟨i, n⟩ := x
  obtain ⟨g1, g2, g3, g4⟩ := hx
  dsimp only at g1 g2 g3 g4 ⊢
  repeat (first
    | (refine g_ops ?_; first | refine sO ?_ | refine s_n (fun _ => ?_) | refine s_appB (fun _ _ => ?_) | refine s_app (fun _ _ => ?_) | refine s_b0 (fun _ => ?_) | ((fail_if_success refine g_lit rfl rfl rfl ?_); first | apply g_partM rfl rfl rfl | apply g_partMB rfl rfl rfl | fail))
    | apply g_regB (id := 3) 19 | refine gS ?_ | exact s_m | intro _ | (refine gp_take ?_; first | refine pT ?_ | ((fail_if_success refine gp_lit rfl rfl rfl rfl ?_); first | apply gp_guard_dec rfl rfl rfl rfl | apply gp_guard rfl rfl rfl rfl | fail))
    | (refine gp_see ?_; first | refine p_f ?_ | refine pS ?_ | ((fail_if_success refine gp_lit rfl rfl rfl rfl ?_); first | apply gp_guard_dec rfl rfl rfl rfl | apply gp_guard rfl rfl rfl rfl | fail))
    | (refine gp_one ?_; first | refine pO ?_ | refine p_n (fun _ => ?_) | refine p_appB (fun _ _ => ?_) | refine p_app (fun _ _ => ?_) | refine p_b0 (fun _ => ?_) | ((fail_if_success refine gp_lit rfl rfl rfl rfl ?_); first | apply gp_guard_dec rfl rfl rfl rfl | apply gp_guard rfl rfl rfl rfl | fail))
    | refine gp_two ?_ ?_ | refine gp_done hd hk ?_ | intro _ | refine p_ta hd hk (fun _ _ _ hd hk => ?_) | refine p_ts hd hk (fun _ hd hk => ?_))
  by_cases hgo : i < rs.length ∧ n ≤ 60000
  · obtain ⟨hi', hn⟩ := hgo
    refine g_as 19 (v' := .bool true) rfl (congrArg Value.bool (by rw [decide_eq_true (show (i : Int) < (rs.length : Int) by omega), decide_eq_true hn]; rfl)) ?_
    obtain ⟨rb, ro, rfl, hrow⟩ := slAt_cell hR.sl (i := i) (v := (rs[i]).v) (by simp [hi'])
    have hst := sumL_take rs i hi'
    have hbl := h2 rs[i] (List.getElem_mem hi')
    generalize rs[i] = r at hrow hst hbl
    have hr : ∀ k, k = i → Reads (Pile H) ⟨rb, ro + k, none⟩ r.v := fun k hk => by rw [hk]; exact hrow
    repeat (first
      | (refine g_ops ?_; first | refine sO ?_ | refine s_n (fun _ => ?_) | refine s_appB (fun _ _ => ?_) | refine s_app (fun _ _ => ?_) | refine s_b0 (fun _ => ?_) | ((fail_if_success refine g_lit rfl rfl rfl ?_); first | apply g_partM rfl rfl rfl | apply g_partMB rfl rfl rfl | fail))
      | refine gS ?_ | exact s_m | intro _)
    rename_i b1
    have hs1 := sum_row b1 1 3 n [(r.l.length : Int)] ⟨g2, g3⟩ (fun x hx => by rw [List.mem_singleton.1 hx]; omega) (by simp)
    rw [sumF_one] at hs1
    dsimp only [List.length_singleton, List.map_cons, List.map_nil] at hs1
    obtain ⟨n2, hn2⟩ : ∃ n2 : Int, (if n > most ∨ (r.l.length : Int) > most - n then most else n + (r.l.length : Int)) = n2 := ⟨_, rfl⟩
    have hn3 : 0 ≤ n2 ∧ n2 ≤ most ∧ (n2 ≤ 60000 → n2 = ((rs.length + sumL (rs.take (i + 1)) : Nat) : Int)) := by
      rw [← hn2]
      split
      · omega
      · have := g4 hn
        rw [hst]
        omega
    rw [hn2] at hs1
    repeat (first
      | (refine g_ops ?_; first | refine sO ?_ | refine s_n (fun _ => ?_) | refine s_appB (fun _ _ => ?_) | refine s_app (fun _ _ => ?_) | refine s_b0 (fun _ => ?_) | ((fail_if_success refine g_lit rfl rfl rfl ?_); first | apply g_partM rfl rfl rfl | apply g_partMB rfl rfl rfl | fail) | refine s_k (hs1) ?_)
      | refine gS ?_ | exact s_m | intro _)
    refine g_as 6 (v' := int ((i + 1 : Nat) : Int)) rfl (congrArg (Value.int .i64) (by push_cast; rfl)) ?_
    exact gA (⟨i + 1, n2⟩ : TbX) (by simp only; omega) ⟨hi', hn3⟩
  · refine g_as 19 (v' := .bool false) rfl (congrArg Value.bool (by
      by_cases h3 : i < rs.length
      · rw [decide_eq_true (show (i : Int) < (rs.length : Int) by omega), decide_eq_false (fun h => hgo ⟨h3, h⟩)]; rfl
      · rw [decide_eq_false (show ¬ (i : Int) < (rs.length : Int) by omega)]; rfl)) ?_
    repeat (first
      | (refine g_ops ?_; first | refine sO ?_ | refine s_n (fun _ => ?_) | refine s_appB (fun _ _ => ?_) | refine s_app (fun _ _ => ?_) | refine s_b0 (fun _ => ?_) | ((fail_if_success refine g_lit rfl rfl rfl ?_); first | apply g_partM rfl rfl rfl | apply g_partMB rfl rfl rfl | fail))
      | refine gS ?_ | exact s_m | intro _)
    refine gR n ⟨g2, g3, fun h => ?_⟩
    have hi2 : i = rs.length := by
      rcases Nat.lt_or_ge i rs.length with h5 | h5
      · exact (hgo ⟨h5, h⟩).elim
      · omega
    have := g4 h
    rw [hi2, List.take_length] at this
    exact this
theorem small_ {H : HP} (p : Option Addr) (c : Nat) (gs : List GV) (hG : GsAt H p gs) :
    Does Tryz.prog 18 [.slice p gs.length c] [Pile H] (X := Bool) (fun b => .bool b) (fun _ => [Pile H]) (fun b => b = true → gs.length ≤ 60 ∧ (∀ g ∈ gs, g.rs.length ≤ 100) ∧ csL gs ≤ 60000) := by
  have hmost : most = 1099511627776 := rfl
  have hbig := hG.big
  refine fn_intro Tryz.func18 rfl Tryz.ntmps18 rfl (by simp only [argFr, Nat.zero_add, Nat.reduceAdd]; rfl) (fun Γ => ?_)
  repeat (first
    | (refine g_ops ?_; first | refine sO ?_ | refine s_n (fun _ => ?_) | refine s_appB (fun _ _ => ?_) | refine s_app (fun _ _ => ?_) | refine s_b0 (fun _ => ?_) | ((fail_if_success refine g_lit rfl rfl rfl ?_); first | apply g_partM rfl rfl rfl | apply g_partMB rfl rfl rfl | fail))
    | refine gS ?_ | exact s_m | intro _)
  refine g_as 4 (v' := int ((0 : Nat) : Int)) rfl rfl ?_
  refine g_as 3 (v' := int ((csL (gs.take 0) : Nat) : Int)) rfl rfl ?_
  refine g_loop (X := Nat) (fun i => [(0, .slice p gs.length c), (3, int ((csL (gs.take i) : Nat) : Int)), (4, int i)]) (fun _ => [Pile H]) (fun i => i ≤ gs.length ∧ csL (gs.take i) ≤ 60000 ∧ ∀ (j : Nat) (h : j < gs.length), j < i → gs[j].rs.length ≤ 100) (fun i => gs.length - i) 0 ⟨Nat.zero_le _, by simp [csL], fun j _ h => by omega⟩ (by (repeat (first | exact FrSub.nil | refine FrSub.cons rfl ?_)); first | done | fail) (by (repeat (first | exact Take.nil | apply Take.cons | exact Sel.here | apply Sel.there)); first | done | fail) (fun i hx => ?_)
  obtain ⟨g1, g2, g3⟩ := hx
  repeat (first
    | (refine g_ops ?_; first | refine sO ?_ | refine s_n (fun _ => ?_) | refine s_appB (fun _ _ => ?_) | refine s_app (fun _ _ => ?_) | refine s_b0 (fun _ => ?_) | ((fail_if_success refine g_lit rfl rfl rfl ?_); first | apply g_partM rfl rfl rfl | apply g_partMB rfl rfl rfl | fail))
    | refine gS ?_ | exact s_m | intro _)
  refine g_cond_dec rfl (fun h => ?_) (fun h => ?_)
  · have hi' : i < gs.length := by omega
    obtain ⟨rb, ro, rfl, hrow⟩ := slAt_cell hG.sl (i := i) (v := (gs[i]).v) (by simp [hi'])
    have hst := csL_take gs i hi'
    have hat := hG.at_ gs[i] (List.getElem_mem hi')
    obtain ⟨hb1, hb2⟩ := hG.bigs gs[i] (List.getElem_mem hi')
    generalize hgi : gs[i] = g at hrow hst hat hb1 hb2
    have hr : ∀ k, k = i → Reads (Pile H) ⟨rb, ro + k, none⟩ g.v := fun k hk => by rw [hk]; exact hrow
    have htot := total_ g.p g.c g.rs hat hb1 hb2
    generalize hcc : csL (gs.take i) = cc at g2 hst
    repeat (first | refine g_seq ?_ | refine g_then_normal ?_ | refine g_block ?_ | refine g_skip ?_)
    refine g_draw (id := 5) (.take 0 (.take 1 (.take 2 (.take 3 (.see 4 [] (.take 6 (.take 7 (.take 8 (.see 9 [] (.take 10 (.one 5 (.one 11 (.one 12 (.take 13 .done)))))))))))))) (by kernel_rfl) (take_all _) (fun k hd hk => ?_)
    repeat (first
      | (refine gp_take ?_; first | refine pT ?_ | ((fail_if_success refine gp_lit rfl rfl rfl rfl ?_); first | apply gp_guard_dec rfl rfl rfl rfl | apply gp_guard rfl rfl rfl rfl | fail))
      | (refine gp_see ?_; first | refine p_f ?_ | refine pS ?_ | ((fail_if_success refine gp_lit rfl rfl rfl rfl ?_); first | apply gp_guard_dec rfl rfl rfl rfl | apply gp_guard rfl rfl rfl rfl | fail))
      | (refine gp_one ?_; first | refine pO ?_ | refine p_n (fun _ => ?_) | refine p_appB (fun _ _ => ?_) | refine p_app (fun _ _ => ?_) | refine p_b0 (fun _ => ?_) | ((fail_if_success refine gp_lit rfl rfl rfl rfl ?_); first | apply gp_guard_dec rfl rfl rfl rfl | apply gp_guard rfl rfl rfl rfl | fail) | refine p_cP (htot) hd hk (fun _ _ => ?_))
      | refine gp_two ?_ ?_ | refine gp_done hd hk ?_ | intro _ | refine p_ta hd hk (fun _ _ _ hd hk => ?_) | refine p_ts hd hk (fun _ hd hk => ?_))
    rename_i n hn b2
    have hs1 := sum_row b2 2 3 (cc : Int) [n, (g.rs.length : Int)] ⟨by omega, by omega⟩ (fun x hx => by
      rcases List.mem_cons.1 hx with rfl | hx
      · omega
      · rw [List.mem_singleton.1 hx]; omega) (by simp)
    rw [sumF_two] at hs1
    dsimp only [List.length_cons, List.length_nil, List.map_cons, List.map_nil, Nat.zero_add, Nat.reduceAdd] at hs1
    obtain ⟨n2, hn2⟩ : ∃ n2 : Int, (if (cc : Int) > most ∨ n > most - (cc : Int) then most else if (cc : Int) + n > most ∨ (g.rs.length : Int) > most - ((cc : Int) + n) then most else (cc : Int) + n + (g.rs.length : Int)) = n2 := ⟨_, rfl⟩
    have hn3 : 0 ≤ n2 ∧ (n2 ≤ 60000 → n2 = ((cc + cs g : Nat) : Int)) := by
      rw [← hn2]
      unfold cs
      split
      · omega
      · split
        · omega
        · refine ⟨by omega, fun h => ?_⟩
          have := hn.2.2 (by omega)
          omega
    rw [hn2] at hs1
    repeat (first
      | (refine gp_take ?_; first | refine pT ?_ | ((fail_if_success refine gp_lit rfl rfl rfl rfl ?_); first | apply gp_guard_dec rfl rfl rfl rfl | apply gp_guard rfl rfl rfl rfl | fail))
      | (refine gp_see ?_; first | refine p_f ?_ | refine pS ?_ | ((fail_if_success refine gp_lit rfl rfl rfl rfl ?_); first | apply gp_guard_dec rfl rfl rfl rfl | apply gp_guard rfl rfl rfl rfl | fail) | refine p_h (hs1) hd hk ?_)
      | (refine gp_one ?_; first | refine pO ?_ | refine p_n (fun _ => ?_) | refine p_appB (fun _ _ => ?_) | refine p_app (fun _ _ => ?_) | refine p_b0 (fun _ => ?_) | ((fail_if_success refine gp_lit rfl rfl rfl rfl ?_); first | apply gp_guard_dec rfl rfl rfl rfl | apply gp_guard rfl rfl rfl rfl | fail) | refine p_k (hs1) ?_)
      | refine gp_two ?_ ?_ | refine gp_done hd hk ?_ | intro _ | refine p_ta hd hk (fun _ _ _ hd hk => ?_) | refine p_ts hd hk (fun _ hd hk => ?_))
    repeat (first
      | (refine g_ops ?_; first | refine sO ?_ | refine s_n (fun _ => ?_) | refine s_appB (fun _ _ => ?_) | refine s_app (fun _ _ => ?_) | refine s_b0 (fun _ => ?_) | ((fail_if_success refine g_lit rfl rfl rfl ?_); first | apply g_partM rfl rfl rfl | apply g_partMB rfl rfl rfl | fail))
      | apply g_regB (id := 6) 33 | refine gS ?_ | exact s_m | intro _ | (refine gp_take ?_; first | refine pT ?_ | ((fail_if_success refine gp_lit rfl rfl rfl rfl ?_); first | apply gp_guard_dec rfl rfl rfl rfl | apply gp_guard rfl rfl rfl rfl | fail))
      | (refine gp_see ?_; first | refine p_f ?_ | refine pS ?_ | ((fail_if_success refine gp_lit rfl rfl rfl rfl ?_); first | apply gp_guard_dec rfl rfl rfl rfl | apply gp_guard rfl rfl rfl rfl | fail))
      | (refine gp_one ?_; first | refine pO ?_ | refine p_n (fun _ => ?_) | refine p_appB (fun _ _ => ?_) | refine p_app (fun _ _ => ?_) | refine p_b0 (fun _ => ?_) | ((fail_if_success refine gp_lit rfl rfl rfl rfl ?_); first | apply gp_guard_dec rfl rfl rfl rfl | apply gp_guard rfl rfl rfl rfl | fail))
      | refine gp_two ?_ ?_ | refine gp_done hd hk ?_ | intro _ | refine p_ta hd hk (fun _ _ _ hd hk => ?_) | refine p_ts hd hk (fun _ hd hk => ?_))
    by_cases hbad : 60000 < n2 ∨ 100 < g.rs.length
    · refine g_as 33 (v' := .bool true) rfl (congrArg Value.bool (by
        rcases hbad with h | h
        · rw [decide_eq_true h]; rfl
        · rw [decide_eq_true (show (100 : Int) < (g.rs.length : Int) by omega)]; cases decide (60000 < n2) <;> rfl)) ?_
      repeat (first
        | (refine g_ops ?_; first | refine sO ?_ | refine s_n (fun _ => ?_) | refine s_appB (fun _ _ => ?_) | refine s_app (fun _ _ => ?_) | refine s_b0 (fun _ => ?_) | ((fail_if_success refine g_lit rfl rfl rfl ?_); first | apply g_partM rfl rfl rfl | apply g_partMB rfl rfl rfl | fail))
        | refine gS ?_ | exact s_m | intro _)
      exact gR false (fun h => by cases h)
    · have hb3 : ¬ 60000 < n2 := fun h => hbad (.inl h)
      have hb4 : ¬ 100 < g.rs.length := fun h => hbad (.inr h)
      refine g_as 33 (v' := .bool false) rfl (congrArg Value.bool (by rw [decide_eq_false hb3, decide_eq_false (show ¬ (100 : Int) < (g.rs.length : Int) by omega)]; rfl)) ?_
      have he := hn3.2 (by omega)
      repeat (first
        | (refine g_ops ?_; first | refine sO ?_ | refine s_n (fun _ => ?_) | refine s_appB (fun _ _ => ?_) | refine s_app (fun _ _ => ?_) | refine s_b0 (fun _ => ?_) | ((fail_if_success refine g_lit rfl rfl rfl ?_); first | apply g_partM rfl rfl rfl | apply g_partMB rfl rfl rfl | fail))
        | refine gS ?_ | exact s_m | intro _)
      refine g_as 4 (v' := int ((i + 1 : Nat) : Int)) rfl (congrArg (Value.int .i64) (by push_cast; rfl)) ?_
      refine g_as 3 (v' := int ((csL (gs.take (i + 1)) : Nat) : Int)) rfl (congrArg (Value.int .i64) (by rw [hst, he])) ?_
      refine gA (i + 1) (by omega) ⟨hi', by rw [hst]; omega, fun j hj hji => ?_⟩
      by_cases e : j = i
      · subst e; rw [hgi]; omega
      · exact g3 j hj (by omega)
  · have hie : i = gs.length := by omega
    rw [hie, List.take_length] at g2
    repeat (first
      | (refine g_ops ?_; first | refine sO ?_ | refine s_n (fun _ => ?_) | refine s_appB (fun _ _ => ?_) | refine s_app (fun _ _ => ?_) | refine s_b0 (fun _ => ?_) | ((fail_if_success refine g_lit rfl rfl rfl ?_); first | apply g_partM rfl rfl rfl | apply g_partMB rfl rfl rfl | fail))
      | refine gS ?_ | exact s_m | intro _)
    refine gR (decide ((gs.length : Int) ≤ 60)) (fun hb => ⟨by simp at hb; omega, fun g hg => ?_, g2⟩)
    obtain ⟨j, hj, rfl⟩ := List.mem_iff_getElem.1 hg
    exact g3 j hj (by omega)
end Go.Proofs.YtdldgbbhagpofaaGreatDoor

namespace Go.Proofs.YtdldgbbhagpofaaGreatDoor
open Go.Sl facts
theorem rel_ind (R : Fi → Fi → Prop) : ∀ {fs gs : List Fi}, gs.length = fs.length → (∀ (i : Nat) (h1 : i < fs.length) (h2 : i < gs.length), R fs[i] gs[i]) → (C : List Fi → List Fi → Prop) → C [] [] → (∀ x y fs gs, R x y → C fs gs → C (x :: fs) (y :: gs)) → C fs gs
  | [], [], _, _, _, h0, _ => h0
  | [], _ :: _, h, _, _, _, _ => by simp at h
  | _ :: _, [], h, _, _, _, _ => by simp at h
  | x :: fs, y :: gs, h, hr, C, h0, hs => hs x y fs gs (hr 0 (by simp) (by simp)) (rel_ind R (by simpa using h) (fun i h1 h2 => hr (i + 1) (Nat.succ_lt_succ h1) (Nat.succ_lt_succ h2)) C h0 hs)
structure Cr1 (fs gs : List Fi) : Prop where
  sort : SortF gs
  used : Go.Proofs.YtdldgbbhagpofaaGreatDoor.used gs ≤ Go.Proofs.YtdldgbbhagpofaaGreatDoor.used fs
  len : gs.length = fs.length
  nms : (∀ x ∈ fs, ∃ i, i < 100 ∧ x.nm = nmB i) → ∀ x ∈ gs, ∃ i, i < 100 ∧ x.nm = nmB i
  at_ : ∀ nm, (fdat fs nm = none ∧ fdat gs nm = none) ∨ ∃ a b k, fdat fs nm = some (a, b) ∧ fdat gs nm = some (a ++ b.take k, [])
structure Cp1 (fs gs : List Fi) : Prop where
  sort : SortF gs
  used : Go.Proofs.YtdldgbbhagpofaaGreatDoor.used gs = Go.Proofs.YtdldgbbhagpofaaGreatDoor.used fs
  len : gs.length = fs.length
  nms : (∀ x ∈ fs, ∃ i, i < 100 ∧ x.nm = nmB i) → ∀ x ∈ gs, ∃ i, i < 100 ∧ x.nm = nmB i
  at_ : ∀ nm, fdat gs nm = fdat fs nm
theorem names_map {fs gs : List Fi} (hl : gs.length = fs.length) (hr : ∀ (i : Nat) (h1 : i < fs.length) (h2 : i < gs.length), gs[i].nm = fs[i].nm) : gs.map Fi.nm = fs.map Fi.nm := by
  apply List.ext_getElem
  · simp [hl]
  · intro i h1 h2
    simp only [List.getElem_map]
    exact hr i (by simpa using h2) (by simpa using h1)
theorem nms_map {fs gs : List Fi} (h : gs.map Fi.nm = fs.map Fi.nm) (hn : ∀ x ∈ fs, ∃ i, i < 100 ∧ x.nm = nmB i) : ∀ x ∈ gs, ∃ i, i < 100 ∧ x.nm = nmB i := fun x hx => by
  have : x.nm ∈ fs.map Fi.nm := by rw [← h]; exact List.mem_map.2 ⟨x, hx, rfl⟩
  obtain ⟨y, hy, e⟩ := List.mem_map.1 this
  rw [← e]; exact hn y hy
theorem Cr1.of {fs gs : List Fi} (hS : SortF fs) (hl : gs.length = fs.length) (hr : ∀ (i : Nat) (h1 : i < fs.length) (h2 : i < gs.length), ∃ k, gs[i].nm = fs[i].nm ∧ gs[i].safe = fs[i].safe ++ fs[i].loose.take k ∧ gs[i].loose = []) : Cr1 fs gs := by
  have hn := names_map hl (fun i h1 h2 => (hr i h1 h2).choose_spec.1)
  refine ⟨by unfold SortF; rw [hn]; exact hS, ?_, hl, nms_map hn, fun nm => ?_⟩
  · refine rel_ind (fun x y => ∃ k, y.nm = x.nm ∧ y.safe = x.safe ++ x.loose.take k ∧ y.loose = []) hl hr (fun fs gs => Go.Proofs.YtdldgbbhagpofaaGreatDoor.used gs ≤ Go.Proofs.YtdldgbbhagpofaaGreatDoor.used fs) (Nat.le_refl _) (fun x y fs gs ⟨k, _, h2, h3⟩ ih => ?_)
    unfold Go.Proofs.YtdldgbbhagpofaaGreatDoor.used
    rw [h2, h3, List.length_append, List.length_take, List.length_nil]
    omega
  · refine rel_ind (fun x y => ∃ k, y.nm = x.nm ∧ y.safe = x.safe ++ x.loose.take k ∧ y.loose = []) hl hr (fun fs gs => (fdat fs nm = none ∧ fdat gs nm = none) ∨ ∃ a b k, fdat fs nm = some (a, b) ∧ fdat gs nm = some (a ++ b.take k, [])) (.inl ⟨rfl, rfl⟩) (fun x y fs gs ⟨k, h1, h2, h3⟩ ih => ?_)
    rw [fdat_cons, fdat_cons, h1]
    by_cases e : x.nm = nm
    · rw [if_pos e, if_pos e, h2, h3]
      exact .inr ⟨_, _, k, rfl, rfl⟩
    · rw [if_neg e, if_neg e]
      exact ih
theorem Cp1.of {fs gs : List Fi} (hS : SortF fs) (hl : gs.length = fs.length) (hr : ∀ (i : Nat) (h1 : i < fs.length) (h2 : i < gs.length), gs[i].nm = fs[i].nm ∧ gs[i].safe = fs[i].safe ∧ gs[i].loose = fs[i].loose) : Cp1 fs gs := by
  have hn := names_map hl (fun i h1 h2 => (hr i h1 h2).1)
  refine ⟨by unfold SortF; rw [hn]; exact hS, ?_, hl, nms_map hn, fun nm => ?_⟩
  · refine rel_ind (fun x y => y.nm = x.nm ∧ y.safe = x.safe ∧ y.loose = x.loose) hl hr (fun fs gs => Go.Proofs.YtdldgbbhagpofaaGreatDoor.used gs = Go.Proofs.YtdldgbbhagpofaaGreatDoor.used fs) rfl (fun x y fs gs ⟨_, h2, h3⟩ ih => ?_)
    unfold Go.Proofs.YtdldgbbhagpofaaGreatDoor.used
    rw [h2, h3, ih]
  · refine rel_ind (fun x y => y.nm = x.nm ∧ y.safe = x.safe ∧ y.loose = x.loose) hl hr (fun fs gs => fdat gs nm = fdat fs nm) rfl (fun x y fs gs ⟨h1, h2, h3⟩ ih => ?_)
    rw [fdat_cons, fdat_cons, h1, h2, h3, ih]
attribute [local irreducible] Code.wp wpList Exit.then Exit.inBlock bodyPost Back MidQ G GP QStep VStep CStep SStep Does Post Reads
theorem crashS (d : Nat) (room : Int) (ops ct : Int) (q : Option Addr) (c : Nat) (fs : List Fi) (hS : SortF fs) (hn : fs.length ≤ 2000) (hu : used fs ≤ 1000000) (k : Pk) {C : Chunk} (hP : PkAt C k) :
    Does Tryz.prog 22 [ptr d, .slice k.p k.l.length k.c] (bagL d room ops ct q c fs [C]) (X := EbX) (fun x => ptr x.d) (fun x => bagL x.d room 0 0 x.x.q x.x.c x.x.fs (bagL d room ops ct q c fs [C])) (fun x => Cr1 fs x.x.fs) :=
  does_map (fun x => x) (take_all _) (fun _ _ => rfl) (fun _ _ _ _ h => h) (fun x ⟨h1, h2⟩ => Cr1.of hS h1 (fun i g1 g2 => ⟨_, h2 i g2 g1⟩)) (crashg d room ops ct q c fs hn hu k hP)
end Go.Proofs.YtdldgbbhagpofaaGreatDoor

namespace Go.Proofs.YtdldgbbhagpofaaGreatDoor
open Go.Sl facts
theorem cutN_b {ct : Int} (h : 0 ≤ ct) : 0 ≤ cutN ct ∧ cutN ct ≤ ct ∧ (ct ≠ 0 → cutN ct ≠ 0) := by unfold cutN; split <;> omega
structure WcX where
  o : Nat
  y : DkX
  ops : Int
  ct : Int
structure WcOk (nm : ByteArray) (l : List UInt8) (fs : List Fi) (ops ct : Int) (w : WcX) : Prop where
  how : (w.o = 0 ∧ Wr nm l fs w.y.fs) ∨ (w.o = 1 ∧ w.y.fs = fs ∧ ct ≠ 0) ∨ (w.o = 2 ∧ Put1 nm l fs w.y.fs ∧ ct ≠ 0)
  opb : ops ≤ w.ops ∧ w.ops ≤ ops + 2
  ctb : 0 ≤ w.ct ∧ w.ct ≤ ct ∧ (ct ≠ 0 → w.ct ≠ 0)
attribute [local irreducible] Code.wp wpList Exit.then Exit.inBlock bodyPost Back MidQ G GP QStep VStep CStep SStep Does Post Reads
attribute [local irreducible] frameB recB
theorem writeC {H : HP} (lg d : Nat) (x : LG) (off : Bool) (room : Int) (q : Option Addr) (c : Nat) (ops ct : Int) (hco : 0 ≤ ops ∧ ops ≤ 100000000) (hcc : 0 ≤ ct ∧ ct ≤ 1000000) (fs : List Fi) (hS : SortF fs) (hn : fs.length ≤ 999) (hr0' : 0 ≤ room ∧ room ≤ 8388608) (hu : used fs ≤ 10000000)
    (z : PV) (hz : z.file < 100) (hz1 : z.first ≤ 1000000000) (hP : PAt H z) (hB : BtsAt H z.l) (hbl : ∀ r ∈ z.l, r.l.length ≤ 131072) (hzl : z.l.length ≤ 1000) (hpl : (partB z).length ≤ 1000000) (hfit : ((partB z).length : Int) ≤ room - used fs) :
    Does Tryz.prog 29 [ptr lg, z.v] (x.row lg d off :: bagL d room ops ct q c fs [Pile H]) (X := WcX) (fun w => int (if w.o = 0 then 0 else 9)) (fun w => x.row lg d off :: bagL d room w.ops w.ct w.y.q w.y.c w.y.fs [Pile H]) (WcOk (nmB z.file) (partB z) fs ops ct) := by
  have hc0 : Cnt ops ct := ⟨by omega, by omega, by omega, by omega⟩
  have hcn := cutN_b hcc.1
  have h : Cnt (ops + 1) (cutN ct) := ⟨by omega, by omega, by omega, by omega⟩
  have hcn1 := cutN_b hcn.1
  have hcn2 : 0 ≤ cutN (cutN ct) ∧ cutN (cutN ct) ≤ ct ∧ (ct ≠ 0 → cutN (cutN ct) ≠ 0) := by omega
  obtain ⟨rq, rc, xs, fq, fc, fs', size, sl⟩ := x
  dsimp only [LG.row]
  have hnm := nm_size z.file hz
  have hpe : partB z = (if z.fresh then frameB (vb z.first) else []) ++ recB z.l := rfl
  refine fn_intro Tryz.func29 rfl Tryz.ntmps29 rfl (by simp only [argFr, Nat.zero_add, Nat.reduceAdd]; rfl) (fun Γ => ?_)
  repeat (first
    | (refine g_ops ?_; first | refine sO ?_ | refine s_n (fun _ => ?_) | refine s_appB (fun _ _ => ?_) | refine s_app (fun _ _ => ?_) | refine s_b0 (fun _ => ?_) | ((fail_if_success refine g_lit rfl rfl rfl ?_); first | apply g_partM rfl rfl rfl | apply g_partMB rfl rfl rfl | fail))
    | refine gS ?_ | exact s_m | intro _)
  rename_i bx
  refine g_cutX (X := OA) (fun y => [(0, ptr lg), (3, ptr bx), (5, .slice y.1 (if z.fresh then frameB (vb z.first) else []).length y.2)])
    (fun y => .own y.1 (if z.fresh then frameB (vb z.first) else []).length y.2 1 (cells8 (if z.fresh then frameB (vb z.first) else [])) 5 :: .row bx z.cells 63 :: lrow lg d (.slice rq xs.length rc) (.slice fq fs'.length fc) size sl off :: bagL d room ops ct q c fs [Pile H]) (fun _ => True) ?_ (fun y _ => ?_)
  · cases hfr : z.fresh with
    | false =>
      refine g_own_nil none 1 5 ?_
      repeat (first
        | (refine g_ops ?_; first | refine sO ?_ | refine s_n (fun _ => ?_) | refine s_appB (fun _ _ => ?_) | refine s_app (fun _ _ => ?_) | refine s_b0 (fun _ => ?_) | ((fail_if_success refine g_lit rfl rfl rfl ?_); first | apply g_partM rfl rfl rfl | apply g_partMB rfl rfl rfl | fail))
        | refine gS ?_ | exact s_m | intro _)
      exact gM ((none, 0) : OA) trivial
    | true =>
      repeat (first
        | (refine g_ops ?_; first | refine sO ?_ | refine s_n (fun _ => ?_) | refine s_appB (fun _ _ => ?_) | refine s_app (fun _ _ => ?_) | refine s_b0 (fun _ => ?_) | ((fail_if_success refine g_lit rfl rfl rfl ?_); first | apply g_partM rfl rfl rfl | apply g_partMB rfl rfl rfl | fail))
        | refine gS ?_ | exact s_m | intro _)
      refine s_q (q := by exact qs_convInt rfl) ?_
      refine g_as 16 (v' := .int .u64 ((z.first : Nat) : Int)) rfl (congrArg (Value.int .u64) (by rw [u64_mod]; omega)) ?_
      have hv := varint z.first (by omega)
      repeat (first
        | (refine g_ops ?_; first | refine sO ?_ | refine s_n (fun _ => ?_) | refine s_appB (fun _ _ => ?_) | refine s_app (fun _ _ => ?_) | refine s_b0 (fun _ => ?_) | ((fail_if_success refine g_lit rfl rfl rfl ?_); first | apply g_partM rfl rfl rfl | apply g_partMB rfl rfl rfl | fail) | refine s_c (hv) (fun _ _ => ?_))
        | refine gS ?_ | exact s_m | intro _)
      rename_i yv _
      obtain ⟨vp, vc⟩ := yv
      dsimp only [List.cons_append, List.nil_append]
      refine g_own (p := vp) (len := (vb z.first).length) (cap := vc) (n := 1) (xs := cells8 (vb z.first)) (e := 5) (by (repeat (first | exact Sel.here | apply Sel.there)); first | done | fail) (fun _ _ hq => ?_)
      have hvl := vb_len10 z.first (by omega)
      have hf := fPut (.own vp (vb z.first).length vc 1 (cells8 (vb z.first)) 5) vp (vb z.first) vc (btAt_own hq rfl) (by omega)
      repeat (first
        | (refine g_ops ?_; first | refine sO ?_ | refine s_n (fun _ => ?_) | refine s_appB (fun _ _ => ?_) | refine s_app (fun _ _ => ?_) | refine s_b0 (fun _ => ?_) | ((fail_if_success refine g_lit rfl rfl rfl ?_); first | apply g_partM rfl rfl rfl | apply g_partMB rfl rfl rfl | fail) | refine s_c (hf) (fun _ _ => ?_))
        | refine gS ?_ | exact s_m | intro _)
      rename_i yf _
      obtain ⟨fp, fcc⟩ := yf
      dsimp only [List.cons_append, List.nil_append]
      exact gM ((fp, fcc) : OA) trivial
  · generalize hB0 : (if z.fresh = true then frameB (vb z.first) else []) = B0 at *
    obtain ⟨q0, c0⟩ := y
    dsimp only
    repeat (first
      | (refine g_ops ?_; first | refine sO ?_ | refine s_n (fun _ => ?_) | refine s_appB (fun _ _ => ?_) | refine s_app (fun _ _ => ?_) | refine s_b0 (fun _ => ?_) | ((fail_if_success refine g_lit rfl rfl rfl ?_); first | apply g_partM rfl rfl rfl | apply g_partMB rfl rfl rfl | fail))
      | refine gS ?_ | exact s_m | intro _)
    refine g_as 24 (v' := int ((0 : Nat) : Int)) rfl rfl ?_
    refine g_loop (X := WrX) (fun y => [(0, ptr lg), (3, ptr bx), (5, .slice y.q (B0 ++ recB (z.l.take y.i)).length y.c), (22, .slice z.p z.l.length z.c), (23, int z.l.length), (24, int y.i)])
      (fun y => .own y.q (B0 ++ recB (z.l.take y.i)).length y.c 1 (cells8 (B0 ++ recB (z.l.take y.i))) 5 :: .row bx z.cells 63 :: lrow lg d (.slice rq xs.length rc) (.slice fq fs'.length fc) size sl off :: bagL d room ops ct q c fs [Pile H]) (fun y => y.i ≤ z.l.length) (fun y => z.l.length - y.i) ⟨0, q0, c0⟩ (Nat.zero_le _) (by rw [rec_0, List.append_nil]; exact ((by (repeat (first | exact FrSub.nil | refine FrSub.cons rfl ?_)); first | done | fail))) (by rw [rec_0, List.append_nil]; exact ((by (repeat (first | exact Take.nil | apply Take.cons | exact Sel.here | apply Sel.there)); first | done | fail))) (fun y hy => ?_)
    obtain ⟨i, q1, c1⟩ := y
    dsimp only at hy ⊢
    repeat (first
      | (refine g_ops ?_; first | refine sO ?_ | refine s_n (fun _ => ?_) | refine s_appB (fun _ _ => ?_) | refine s_app (fun _ _ => ?_) | refine s_b0 (fun _ => ?_) | ((fail_if_success refine g_lit rfl rfl rfl ?_); first | apply g_partM rfl rfl rfl | apply g_partMB rfl rfl rfl | fail))
      | refine gS ?_ | exact s_m | intro _)
    refine g_cond_dec rfl (fun h5 => ?_) (fun h5 => ?_)
    · have hi' : i < z.l.length := by omega
      obtain ⟨rb, ro, hzp, hrow⟩ := slAt_cell hP (i := i) (v := (z.l[i]).v) (by simp [hi'])
      have hst := recB_take z.l i hi'
      have hbt := hB z.l[i] (List.getElem_mem hi')
      have hbn := hbl z.l[i] (List.getElem_mem hi')
      have hlen : (B0 ++ recB (z.l.take i)).length ≤ 1000000 := by
        have : (recB (z.l.take i)).length ≤ (recB z.l).length := rec_le z.l i
        rw [hpe, List.length_append] at hpl
        rw [List.length_append]; omega
      generalize hr0 : z.l[i] = r at hrow hst hbt hbn
      rw [hzp]
      have hr : ∀ k, k = i → Reads (Pile H) ⟨rb, ro + k, none⟩ r.v := fun k hk => by rw [hk]; exact hrow
      have hf := fPut (Pile H) r.p r.l r.c hbt (by omega)
      have hfl := frameB_len r.l
      have hsn : B0 ++ recB (z.l.take (i + 1)) = (B0 ++ recB (z.l.take i)) ++ frameB r.l := by rw [hst, List.append_assoc]
      generalize B0 ++ recB (z.l.take i) = b1 at *
      repeat (first
        | (refine g_ops ?_; first | refine sO ?_ | refine s_n (fun _ => ?_) | refine s_appB (fun _ _ => ?_) | refine s_app (fun _ _ => ?_) | refine s_b0 (fun _ => ?_) | ((fail_if_success refine g_lit rfl rfl rfl ?_); first | apply g_partM rfl rfl rfl | apply g_partMB rfl rfl rfl | fail) | refine s_c (hf) (fun _ _ => ?_))
        | refine gS ?_ | exact s_m | intro _)
      rename_i yf _ q' c'
      rw [← hsn]
      refine g_as 24 (v' := int ((i + 1 : Nat) : Int)) rfl (congrArg (Value.int .i64) (by push_cast; rfl)) ?_
      exact gA ⟨i + 1, q', c'⟩ (by simp only; omega) hi'
    · obtain rfl : i = z.l.length := by omega
      rw [List.take_length, ← hpe]
      have hpl2 := hpl
      generalize hpb : partB z = pb at *
      have hsn := sname z.file hz
      repeat (first
        | (refine g_ops ?_; first | refine sO ?_ | refine s_n (fun _ => ?_) | refine s_appB (fun _ _ => ?_) | refine s_app (fun _ _ => ?_) | refine s_b0 (fun _ => ?_) | ((fail_if_success refine g_lit rfl rfl rfl ?_); first | apply g_partM rfl rfl rfl | apply g_partMB rfl rfl rfl | fail))
        | refine gS ?_ | exact s_m | intro _)
      refine g_own (p := q1) (len := pb.length) (cap := c1) (n := 1) (xs := cells8 pb) (e := 5) (by (repeat (first | exact Sel.here | apply Sel.there)); first | done | fail) (fun _ _ hq => ?_)
      by_cases hct : ct = 1
      · have hof := append_off d room (.slice q fs.length c) ops ct hc0 hct (nmB z.file) (.slice q1 pb.length c1)
        refine g_draw (id := 10) (C := [.row bx z.cells 63, lrow lg d (.slice rq xs.length rc) (.slice fq fs'.length fc) size sl off]) (.take 0 (.take 1 (.take 2 (.see 3 [8,9] (.take 4 (.see 5 [6,8,9] (.see 6 [8,9] (.take 7 (.thaw 8 (.take 9 .done)))))))))) (by kernel_rfl) (by (repeat (first | exact Take.nil | apply Take.cons | exact Sel.here | apply Sel.there)); first | done | fail) (fun k hd hk => ?_)
        repeat (first
          | (refine gp_take ?_; first | refine pT ?_ | ((fail_if_success refine gp_lit rfl rfl rfl rfl ?_); first | apply gp_guard_dec rfl rfl rfl rfl | apply gp_guard rfl rfl rfl rfl | fail) | refine p_p (hsn) ?_)
          | (refine gp_see ?_; first | refine p_f ?_ | refine pS ?_ | ((fail_if_success refine gp_lit rfl rfl rfl rfl ?_); first | apply gp_guard_dec rfl rfl rfl rfl | apply gp_guard rfl rfl rfl rfl | fail) | refine p_sp (hsn) ?_)
          | (refine gp_one ?_; first | refine pO ?_ | refine p_n (fun _ => ?_) | refine p_appB (fun _ _ => ?_) | refine p_app (fun _ _ => ?_) | refine p_b0 (fun _ => ?_) | ((fail_if_success refine gp_lit rfl rfl rfl rfl ?_); first | apply gp_guard_dec rfl rfl rfl rfl | apply gp_guard rfl rfl rfl rfl | fail))
          | refine gp_two ?_ ?_ | refine gp_done hd hk ?_ | intro _ | refine p_tc (hof) hd hk (fun _ _ _ hd hk => ?_) | refine p_ta hd hk (fun _ _ _ hd hk => ?_) | refine p_ts hd hk (fun _ hd hk => ?_))
        repeat (first
          | (refine g_ops ?_; first | refine sO ?_ | refine s_n (fun _ => ?_) | refine s_appB (fun _ _ => ?_) | refine s_app (fun _ _ => ?_) | refine s_b0 (fun _ => ?_) | ((fail_if_success refine g_lit rfl rfl rfl ?_); first | apply g_partM rfl rfl rfl | apply g_partMB rfl rfl rfl | fail))
          | refine gS ?_ | exact s_m | intro _)
        dsimp only [List.append, List.cons_append, List.nil_append]
        exact gR (⟨1, ⟨q, c, fs⟩, ops + 1, ct⟩ : WcX) ⟨.inr (.inl ⟨rfl, rfl, by omega⟩), by dsimp only; omega, by dsimp only; omega⟩
      have happ := appendS d room q c ops ct hc0 hct fs hS (nmB z.file) hnm.2 (by omega) (by omega) hr0' (by omega) (C := .own q1 pb.length c1 1 (cells8 pb) 5) c1 (btAt_own hq rfl) hpl hfit
      refine g_draw (id := 10) (C := [.row bx z.cells 63, lrow lg d (.slice rq xs.length rc) (.slice fq fs'.length fc) size sl off]) (.take 0 (.take 1 (.take 2 (.see 3 [8,9] (.take 4 (.see 5 [6,8,9] (.see 6 [8,9] (.take 7 (.thaw 8 (.take 9 .done)))))))))) (by kernel_rfl) (by (repeat (first | exact Take.nil | apply Take.cons | exact Sel.here | apply Sel.there)); first | done | fail) (fun k hd hk => ?_)
      repeat (first
        | (refine gp_take ?_; first | refine pT ?_ | ((fail_if_success refine gp_lit rfl rfl rfl rfl ?_); first | apply gp_guard_dec rfl rfl rfl rfl | apply gp_guard rfl rfl rfl rfl | fail) | refine p_p (hsn) ?_)
        | (refine gp_see ?_; first | refine p_f ?_ | refine pS ?_ | ((fail_if_success refine gp_lit rfl rfl rfl rfl ?_); first | apply gp_guard_dec rfl rfl rfl rfl | apply gp_guard rfl rfl rfl rfl | fail) | refine p_sp (hsn) ?_)
        | (refine gp_one ?_; first | refine pO ?_ | refine p_n (fun _ => ?_) | refine p_appB (fun _ _ => ?_) | refine p_app (fun _ _ => ?_) | refine p_b0 (fun _ => ?_) | ((fail_if_success refine gp_lit rfl rfl rfl rfl ?_); first | apply gp_guard_dec rfl rfl rfl rfl | apply gp_guard rfl rfl rfl rfl | fail))
        | refine gp_two ?_ ?_ | refine gp_done hd hk ?_ | intro _ | refine p_tc (happ) hd hk (fun _ _ _ hd hk => ?_) | refine p_ta hd hk (fun _ _ _ hd hk => ?_) | refine p_ts hd hk (fun _ hd hk => ?_))
      rename_i y1 m1 hput
      obtain ⟨q2, c2, gs⟩ := y1
      dsimp only [List.cons_append, List.nil_append] at hput ⊢
      repeat (first
        | (refine g_ops ?_; first | refine sO ?_ | refine s_n (fun _ => ?_) | refine s_appB (fun _ _ => ?_) | refine s_app (fun _ _ => ?_) | refine s_b0 (fun _ => ?_) | ((fail_if_success refine g_lit rfl rfl rfl ?_); first | apply g_partM rfl rfl rfl | apply g_partMB rfl rfl rfl | fail))
        | refine gS ?_ | exact s_m | intro _)
      by_cases hct2 : cutN ct = 1
      · have hof := sync_off d room (.slice q2 gs.length c2) (ops + 1) (cutN ct) h hct2 (nmB z.file)
        refine g_draw (id := 13) (C := [.row bx z.cells 63, lrow lg d (.slice rq xs.length rc) (.slice fq fs'.length fc) size sl off]) (.take 0 (.take 1 (.take 2 (.see 3 [7,8] (.take 4 (.see 5 [6,7,8] (.see 6 [7,8] (.thaw 7 (.take 8 .done))))))))) (by kernel_rfl) (by (repeat (first | exact Take.nil | apply Take.cons | exact Sel.here | apply Sel.there)); first | done | fail) (fun k hd hk => ?_)
        repeat (first
          | (refine gp_take ?_; first | refine pT ?_ | ((fail_if_success refine gp_lit rfl rfl rfl rfl ?_); first | apply gp_guard_dec rfl rfl rfl rfl | apply gp_guard rfl rfl rfl rfl | fail) | refine p_p (hsn) ?_)
          | (refine gp_see ?_; first | refine p_f ?_ | refine pS ?_ | ((fail_if_success refine gp_lit rfl rfl rfl rfl ?_); first | apply gp_guard_dec rfl rfl rfl rfl | apply gp_guard rfl rfl rfl rfl | fail) | refine p_sp (hsn) ?_)
          | (refine gp_one ?_; first | refine pO ?_ | refine p_n (fun _ => ?_) | refine p_appB (fun _ _ => ?_) | refine p_app (fun _ _ => ?_) | refine p_b0 (fun _ => ?_) | ((fail_if_success refine gp_lit rfl rfl rfl rfl ?_); first | apply gp_guard_dec rfl rfl rfl rfl | apply gp_guard rfl rfl rfl rfl | fail))
          | refine gp_two ?_ ?_ | refine gp_done hd hk ?_ | intro _ | refine p_tc (hof) hd hk (fun _ _ _ hd hk => ?_) | refine p_ta hd hk (fun _ _ _ hd hk => ?_) | refine p_ts hd hk (fun _ hd hk => ?_))
        repeat (first
          | (refine g_ops ?_; first | refine sO ?_ | refine s_n (fun _ => ?_) | refine s_appB (fun _ _ => ?_) | refine s_app (fun _ _ => ?_) | refine s_b0 (fun _ => ?_) | ((fail_if_success refine g_lit rfl rfl rfl ?_); first | apply g_partM rfl rfl rfl | apply g_partMB rfl rfl rfl | fail))
          | refine gS ?_ | exact s_m | intro _)
        dsimp only [List.append, List.cons_append, List.nil_append]
        exact gR (⟨2, ⟨q2, c2, gs⟩, ops + 1 + 1, cutN ct⟩ : WcX) ⟨.inr (.inr ⟨rfl, hput, fun h0 => by rw [h0] at hct2; exact absurd hct2 (by decide)⟩), by dsimp only; omega, by dsimp only; omega⟩
      have hsy := syncS d room q2 c2 (ops + 1) (cutN ct) h hct2 gs hput.sort (nmB z.file) (by have := hput.len; omega) (by have := hput.used; omega) _ hput.at_
      refine g_draw (id := 13) (C := [.row bx z.cells 63, lrow lg d (.slice rq xs.length rc) (.slice fq fs'.length fc) size sl off]) (.take 0 (.take 1 (.take 2 (.see 3 [7,8] (.take 4 (.see 5 [6,7,8] (.see 6 [7,8] (.thaw 7 (.take 8 .done))))))))) (by kernel_rfl) (by (repeat (first | exact Take.nil | apply Take.cons | exact Sel.here | apply Sel.there)); first | done | fail) (fun k hd hk => ?_)
      repeat (first
        | (refine gp_take ?_; first | refine pT ?_ | ((fail_if_success refine gp_lit rfl rfl rfl rfl ?_); first | apply gp_guard_dec rfl rfl rfl rfl | apply gp_guard rfl rfl rfl rfl | fail) | refine p_p (hsn) ?_)
        | (refine gp_see ?_; first | refine p_f ?_ | refine pS ?_ | ((fail_if_success refine gp_lit rfl rfl rfl rfl ?_); first | apply gp_guard_dec rfl rfl rfl rfl | apply gp_guard rfl rfl rfl rfl | fail) | refine p_sp (hsn) ?_)
        | (refine gp_one ?_; first | refine pO ?_ | refine p_n (fun _ => ?_) | refine p_appB (fun _ _ => ?_) | refine p_app (fun _ _ => ?_) | refine p_b0 (fun _ => ?_) | ((fail_if_success refine gp_lit rfl rfl rfl rfl ?_); first | apply gp_guard_dec rfl rfl rfl rfl | apply gp_guard rfl rfl rfl rfl | fail))
        | refine gp_two ?_ ?_ | refine gp_done hd hk ?_ | intro _ | refine p_tc (hsy) hd hk (fun _ _ _ hd hk => ?_) | refine p_ta hd hk (fun _ _ _ hd hk => ?_) | refine p_ts hd hk (fun _ hd hk => ?_))
      rename_i y2 m2 hsyn
      obtain ⟨q3, c3, hs3⟩ := y2
      dsimp only [List.cons_append, List.nil_append] at hsyn ⊢
      repeat (first
        | (refine g_ops ?_; first | refine sO ?_ | refine s_n (fun _ => ?_) | refine s_appB (fun _ _ => ?_) | refine s_app (fun _ _ => ?_) | refine s_b0 (fun _ => ?_) | ((fail_if_success refine g_lit rfl rfl rfl ?_); first | apply g_partM rfl rfl rfl | apply g_partMB rfl rfl rfl | fail))
        | refine gS ?_ | exact s_m | intro _)
      exact gR (⟨0, ⟨q3, c3, hs3⟩, ops + 1 + 1, cutN (cutN ct)⟩ : WcX) ⟨.inl ⟨rfl, Wr.of hput hsyn⟩, by dsimp only; omega, by dsimp only; omega⟩
end Go.Proofs.YtdldgbbhagpofaaGreatDoor
