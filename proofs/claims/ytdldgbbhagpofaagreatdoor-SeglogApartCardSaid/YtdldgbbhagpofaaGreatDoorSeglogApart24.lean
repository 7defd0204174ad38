/- Contracts and laws that the proof stands on. -/
import Derived.Test.YtdldgbbhagpofaaGreatDoorSeglogApart9
import Derived.Test.YtdldgbbhagpofaaGreatDoorSeglogApart23
import Derived.Test.YtdldgbbhagpofaaGreatDoorSeglogApart20
set_option linter.unusedSimpArgs false
set_option linter.unusedVariables false
namespace Go.Proofs.YtdldgbbhagpofaaGreatDoor
open Go.Sl facts
def most : Int := 1099511627776
def sumF : Int → List Int → Int
  | n, [] => n
  | n, x :: l => if n > most ∨ x > most - n then most else sumF (n + x) l
theorem sumF_ge : ∀ (l : List Int) (n : Int), (∀ x ∈ l, 0 ≤ x) → n ≤ most → n ≤ sumF n l ∧ sumF n l ≤ most
  | [], n, _, h => ⟨Int.le_refl _, h⟩
  | x :: l, n, hl, h => by
    simp only [sumF]
    split
    · exact ⟨h, Int.le_refl _⟩
    · have hx := hl x (List.mem_cons_self ..)
      have := sumF_ge l (n + x) (fun y hy => hl y (List.mem_cons_of_mem _ hy)) (by omega)
      exact ⟨by omega, this.2⟩
theorem sumF_each : ∀ (l : List Int) (n : Int), (∀ x ∈ l, 0 ≤ x) → 0 ≤ n → n ≤ most → ∀ x ∈ l, sumF n l < most → x ≤ sumF n l
  | [], _, _, _, _, x, hx, _ => by cases hx
  | y :: l, n, hl, h0, h, x, hx, hs => by
    simp only [sumF] at hs ⊢
    split at hs
    · exact absurd hs (Int.lt_irrefl _)
    · rename_i hc
      rw [if_neg hc]
      have hy := hl y (List.mem_cons_self ..)
      have hge := sumF_ge l (n + y) (fun z hz => hl z (List.mem_cons_of_mem _ hz)) (by omega)
      rcases List.mem_cons.1 hx with rfl | hx
      · omega
      · exact sumF_each l (n + y) (fun z hz => hl z (List.mem_cons_of_mem _ hz)) (by omega) (by omega) x hx hs
theorem sumF_drop (l : List Int) (i : Nat) (n : Int) (h : i < l.length) : sumF n (l.drop i) = if n > most ∨ l[i] > most - n then most else sumF (n + l[i]) (l.drop (i + 1)) := by
  rw [List.drop_eq_getElem_cons h, sumF]
attribute [local irreducible] Code.wp wpList Exit.then Exit.inBlock bodyPost Back MidQ G GP QStep VStep CStep SStep Does Post Reads
attribute [local irreducible] sumF
theorem sum_any (C : Chunk) (b o cap : Nat) (n : Int) (l : List Int) (hn : 0 ≤ n ∧ n ≤ most) (hl : ∀ x ∈ l, 0 ≤ x ∧ x ≤ 9223372036854775807) (hlen : l.length ≤ 1000000) (hrs : ∀ i (h : i < l.length), Reads C ⟨b, o + i, none⟩ (.int .i64 l[i])) :
    Does1 Tryz.prog 33 [.int .i64 n, .slice (some ⟨b, o, none⟩) l.length cap] [C] (.int .i64 (sumF n l)) := by
  refine fn_intro Tryz.func33 rfl Tryz.ntmps33 rfl (by simp only [argFr, Nat.zero_add, Nat.reduceAdd]; rfl) (fun Γ => ?_)
  repeat (first
    | (refine g_ops ?_; first | refine s_q ?_ | refine s_v ?_ | refine s_s ?_ | refine s_n (fun _ => ?_) | refine s_x ?_ | refine s_y ?_ | ((fail_if_success refine g_lit rfl rfl rfl ?_); first | apply g_partM rfl rfl rfl | apply g_partMB rfl rfl rfl | fail))
    | apply g_regB (id := 4) 22 | refine g_seq ?_ | refine g_region ?_ | refine g_nil ?_ | refine g_then_normal ?_ | refine g_block ?_ | refine g_in_normal ?_
    | refine g_retc ?_ | refine g_then_ret ?_ | refine g_in_ret ?_ | refine g_exit ?_ | refine g_then_exit ?_ | refine g_in_exit ?_ | refine g_in_other rfl ?_
    | refine g_skip ?_ | refine g_label ?_ | refine g_cond_true rfl ?_ | refine g_cond_false rfl ?_ | exact s_m | intro _ | (refine gp_take ?_; first | refine p_q ?_ | refine p_x ?_ | ((fail_if_success refine gp_lit rfl rfl rfl rfl ?_); first | apply gp_guard_dec rfl rfl rfl rfl | apply gp_guard rfl rfl rfl rfl | fail))
    | (refine gp_see ?_; first | refine p_f ?_ | refine p_sx ?_ | ((fail_if_success refine gp_lit rfl rfl rfl rfl ?_); first | apply gp_guard_dec rfl rfl rfl rfl | apply gp_guard rfl rfl rfl rfl | fail) | refine p_sq ?_)
    | (refine gp_one ?_; first | refine p_v ?_ | refine p_s ?_ | refine p_n (fun _ => ?_) | refine p_y ?_ | ((fail_if_success refine gp_lit rfl rfl rfl rfl ?_); first | apply gp_guard_dec rfl rfl rfl rfl | apply gp_guard rfl rfl rfl rfl | fail))
    | refine gp_two ?_ ?_ | refine gp_done hd hk ?_ | intro _)
  refine g_loop (X := Nat × Int) (fun x => [(5, .int .i64 x.1), (4, .int .i64 0), (0, .int .i64 x.2), (1, .slice (some ⟨b, o, none⟩) l.length cap)]) (fun _ => [C]) (fun x => x.1 ≤ l.length ∧ 0 ≤ x.2 ∧ x.2 ≤ most ∧ sumF n l = sumF x.2 (l.drop x.1)) (fun x => l.length - x.1) (0, n) ⟨Nat.zero_le _, hn.1, hn.2, by simp⟩ (by (repeat (first | exact FrSub.nil | refine FrSub.cons rfl ?_)); first | done | fail) (by (repeat (first | exact Take.nil | apply Take.cons | exact Sel.here | apply Sel.there)); first | done | fail) (fun x hx => ?_)
  obtain ⟨i, m⟩ := x
  obtain ⟨hi, hm0, hm1, hs⟩ := hx
  simp only [] at hi hm0 hm1 hs
  have hmost : most = 1099511627776 := rfl
  dsimp only
  repeat (first
    | (refine g_ops ?_; first | refine s_q ?_ | refine s_v ?_ | refine s_s ?_ | refine s_n (fun _ => ?_) | refine s_x ?_ | refine s_y ?_ | ((fail_if_success refine g_lit rfl rfl rfl ?_); first | apply g_partM rfl rfl rfl | apply g_partMB rfl rfl rfl | fail))
    | apply g_regB (id := 4) 22 | refine g_seq ?_ | refine g_region ?_ | refine g_nil ?_ | refine g_then_normal ?_ | refine g_block ?_ | refine g_in_normal ?_
    | refine g_retc ?_ | refine g_then_ret ?_ | refine g_in_ret ?_ | refine g_exit ?_ | refine g_then_exit ?_ | refine g_in_exit ?_ | refine g_in_other rfl ?_
    | refine g_skip ?_ | refine g_label ?_ | refine g_cond_true rfl ?_ | refine g_cond_false rfl ?_ | exact s_m | intro _ | (refine gp_take ?_; first | refine p_q ?_ | refine p_x ?_ | ((fail_if_success refine gp_lit rfl rfl rfl rfl ?_); first | apply gp_guard_dec rfl rfl rfl rfl | apply gp_guard rfl rfl rfl rfl | fail))
    | (refine gp_see ?_; first | refine p_f ?_ | refine p_sx ?_ | ((fail_if_success refine gp_lit rfl rfl rfl rfl ?_); first | apply gp_guard_dec rfl rfl rfl rfl | apply gp_guard rfl rfl rfl rfl | fail) | refine p_sq ?_)
    | (refine gp_one ?_; first | refine p_v ?_ | refine p_s ?_ | refine p_n (fun _ => ?_) | refine p_y ?_ | ((fail_if_success refine gp_lit rfl rfl rfl rfl ?_); first | apply gp_guard_dec rfl rfl rfl rfl | apply gp_guard rfl rfl rfl rfl | fail))
    | refine gp_two ?_ ?_ | refine gp_done hd hk ?_ | intro _)
  refine g_cond_dec rfl (fun h1 => ?_) (fun h1 => ?_)
  · have hi' : i < l.length := by omega
    have hx := hl l[i] (List.getElem_mem _)
    have hr : ∀ (j : Nat), j = i → Reads C ⟨b, o + j, none⟩ (.int .i64 l[i]) := fun j e => by rw [e]; exact hrs i hi'
    rw [sumF_drop l i m hi'] at hs
    repeat (first
      | (refine g_ops ?_; first | refine s_q ?_ | refine s_v ?_ | refine s_s ?_ | refine s_n (fun _ => ?_) | refine s_x ?_ | refine s_y ?_ | ((fail_if_success refine g_lit rfl rfl rfl ?_); first | apply g_partM rfl rfl rfl | apply g_partMB rfl rfl rfl | fail))
      | apply g_regB (id := 4) 22 | refine g_seq ?_ | refine g_region ?_ | refine g_nil ?_ | refine g_then_normal ?_ | refine g_block ?_ | refine g_in_normal ?_
      | refine g_retc ?_ | refine g_then_ret ?_ | refine g_in_ret ?_ | refine g_exit ?_ | refine g_then_exit ?_ | refine g_in_exit ?_ | refine g_in_other rfl ?_
      | refine g_skip ?_ | refine g_label ?_ | refine g_cond_true rfl ?_ | refine g_cond_false rfl ?_ | exact s_m | intro _ | (refine gp_take ?_; first | refine p_q ?_ | refine p_x ?_ | ((fail_if_success refine gp_lit rfl rfl rfl rfl ?_); first | apply gp_guard_dec rfl rfl rfl rfl | apply gp_guard rfl rfl rfl rfl | fail))
      | (refine gp_see ?_; first | refine p_f ?_ | refine p_sx ?_ | ((fail_if_success refine gp_lit rfl rfl rfl rfl ?_); first | apply gp_guard_dec rfl rfl rfl rfl | apply gp_guard rfl rfl rfl rfl | fail) | refine p_sq ?_)
      | (refine gp_one ?_; first | refine p_v ?_ | refine p_s ?_ | refine p_n (fun _ => ?_) | refine p_y ?_ | ((fail_if_success refine gp_lit rfl rfl rfl rfl ?_); first | apply gp_guard_dec rfl rfl rfl rfl | apply gp_guard rfl rfl rfl rfl | fail))
      | refine gp_two ?_ ?_ | refine gp_done hd hk ?_ | intro _)
    refine g_cond rfl (fun h2 => ?_) (fun h2 => ?_)
    · have h3 : m > most ∨ l[i] > most - m := by simp at h2; omega
      rw [if_pos h3] at hs
      repeat (first
        | (refine g_ops ?_; first | refine s_q ?_ | refine s_v ?_ | refine s_s ?_ | refine s_n (fun _ => ?_) | refine s_x ?_ | refine s_y ?_ | ((fail_if_success refine g_lit rfl rfl rfl ?_); first | apply g_partM rfl rfl rfl | apply g_partMB rfl rfl rfl | fail))
        | apply g_regB (id := 4) 22 | refine g_seq ?_ | refine g_region ?_ | refine g_nil ?_ | refine g_then_normal ?_ | refine g_block ?_ | refine g_in_normal ?_
        | refine g_retc ?_ | refine g_then_ret ?_ | refine g_in_ret ?_ | refine g_exit ?_ | refine g_then_exit ?_ | refine g_in_exit ?_ | refine g_in_other rfl ?_
        | refine g_skip ?_ | refine g_label ?_ | refine g_cond_true rfl ?_ | refine g_cond_false rfl ?_ | exact s_m | intro _ | (refine gp_take ?_; first | refine p_q ?_ | refine p_x ?_ | ((fail_if_success refine gp_lit rfl rfl rfl rfl ?_); first | apply gp_guard_dec rfl rfl rfl rfl | apply gp_guard rfl rfl rfl rfl | fail))
        | (refine gp_see ?_; first | refine p_f ?_ | refine p_sx ?_ | ((fail_if_success refine gp_lit rfl rfl rfl rfl ?_); first | apply gp_guard_dec rfl rfl rfl rfl | apply gp_guard rfl rfl rfl rfl | fail) | refine p_sq ?_)
        | (refine gp_one ?_; first | refine p_v ?_ | refine p_s ?_ | refine p_n (fun _ => ?_) | refine p_y ?_ | ((fail_if_success refine gp_lit rfl rfl rfl rfl ?_); first | apply gp_guard_dec rfl rfl rfl rfl | apply gp_guard rfl rfl rfl rfl | fail))
        | refine gp_two ?_ ?_ | refine gp_done hd hk ?_ | intro _)
      exact s_r () (hp := by simp only [pack, hs]; rfl)
    · have h3 : ¬ (m > most ∨ l[i] > most - m) := by simp at h2; omega
      rw [if_neg h3] at hs
      repeat (first
        | (refine g_ops ?_; first | refine s_q ?_ | refine s_v ?_ | refine s_s ?_ | refine s_n (fun _ => ?_) | refine s_x ?_ | refine s_y ?_ | ((fail_if_success refine g_lit rfl rfl rfl ?_); first | apply g_partM rfl rfl rfl | apply g_partMB rfl rfl rfl | fail))
        | apply g_regB (id := 4) 22 | refine g_seq ?_ | refine g_region ?_ | refine g_nil ?_ | refine g_then_normal ?_ | refine g_block ?_ | refine g_in_normal ?_
        | refine g_retc ?_ | refine g_then_ret ?_ | refine g_in_ret ?_ | refine g_exit ?_ | refine g_then_exit ?_ | refine g_in_exit ?_ | refine g_in_other rfl ?_
        | refine g_skip ?_ | refine g_label ?_ | refine g_cond_true rfl ?_ | refine g_cond_false rfl ?_ | exact s_m | intro _ | (refine gp_take ?_; first | refine p_q ?_ | refine p_x ?_ | ((fail_if_success refine gp_lit rfl rfl rfl rfl ?_); first | apply gp_guard_dec rfl rfl rfl rfl | apply gp_guard rfl rfl rfl rfl | fail))
        | (refine gp_see ?_; first | refine p_f ?_ | refine p_sx ?_ | ((fail_if_success refine gp_lit rfl rfl rfl rfl ?_); first | apply gp_guard_dec rfl rfl rfl rfl | apply gp_guard rfl rfl rfl rfl | fail) | refine p_sq ?_)
        | (refine gp_one ?_; first | refine p_v ?_ | refine p_s ?_ | refine p_n (fun _ => ?_) | refine p_y ?_ | ((fail_if_success refine gp_lit rfl rfl rfl rfl ?_); first | apply gp_guard_dec rfl rfl rfl rfl | apply gp_guard rfl rfl rfl rfl | fail))
        | refine gp_two ?_ ?_ | refine gp_done hd hk ?_ | intro _)
      exact g_again (i + 1, m + l[i]) (by simp only []; omega) ⟨hi', by simp only []; omega, by simp only []; omega, hs⟩ (by (repeat (first | exact FrSub.nil | refine FrSub.cons rfl ?_)); first | done | fail) (by (repeat (first | exact Take.nil | apply Take.cons | exact Sel.here | apply Sel.there)); first | done | fail)
  · have hi' : i = l.length := by omega
    subst hi'
    rw [List.drop_length] at hs
    repeat (first
      | (refine g_ops ?_; first | refine s_q ?_ | refine s_v ?_ | refine s_s ?_ | refine s_n (fun _ => ?_) | refine s_x ?_ | refine s_y ?_ | ((fail_if_success refine g_lit rfl rfl rfl ?_); first | apply g_partM rfl rfl rfl | apply g_partMB rfl rfl rfl | fail))
      | apply g_regB (id := 4) 22 | refine g_seq ?_ | refine g_region ?_ | refine g_nil ?_ | refine g_then_normal ?_ | refine g_block ?_ | refine g_in_normal ?_
      | refine g_retc ?_ | refine g_then_ret ?_ | refine g_in_ret ?_ | refine g_exit ?_ | refine g_then_exit ?_ | refine g_in_exit ?_ | refine g_in_other rfl ?_
      | refine g_skip ?_ | refine g_label ?_ | refine g_cond_true rfl ?_ | refine g_cond_false rfl ?_ | exact s_m | intro _ | (refine gp_take ?_; first | refine p_q ?_ | refine p_x ?_ | ((fail_if_success refine gp_lit rfl rfl rfl rfl ?_); first | apply gp_guard_dec rfl rfl rfl rfl | apply gp_guard rfl rfl rfl rfl | fail))
      | (refine gp_see ?_; first | refine p_f ?_ | refine p_sx ?_ | ((fail_if_success refine gp_lit rfl rfl rfl rfl ?_); first | apply gp_guard_dec rfl rfl rfl rfl | apply gp_guard rfl rfl rfl rfl | fail) | refine p_sq ?_)
      | (refine gp_one ?_; first | refine p_v ?_ | refine p_s ?_ | refine p_n (fun _ => ?_) | refine p_y ?_ | ((fail_if_success refine gp_lit rfl rfl rfl rfl ?_); first | apply gp_guard_dec rfl rfl rfl rfl | apply gp_guard rfl rfl rfl rfl | fail))
      | refine gp_two ?_ ?_ | refine gp_done hd hk ?_ | intro _)
    exact s_r () (hp := by simp only [pack, hs, sumF])
theorem sum_row (b cap : Nat) (e : TypeId) (n : Int) (l : List Int) (hn : 0 ≤ n ∧ n ≤ most) (hl : ∀ x ∈ l, 0 ≤ x ∧ x ≤ 9223372036854775807) (hlen : l.length ≤ 1000000) :
    Does1 Tryz.prog 33 [.int .i64 n, .slice (some ⟨b, 0, none⟩) l.length cap] [.row b (l.map (.int .i64 ·)) e] (.int .i64 (sumF n l)) :=
  sum_any _ b 0 cap n l hn hl hlen (fun i h => reads_row (by simp [h]))
end Go.Proofs.YtdldgbbhagpofaaGreatDoor

namespace Go.Proofs.YtdldgbbhagpofaaGreatDoor
open Go.Sl facts
structure GV where
  p : Option Addr
  rs : List BV
  c : Nat
abbrev GV.v (g : GV) : Value := .slice g.p g.rs.length g.c
structure GsAt (H : HP) (p : Option Addr) (gs : List GV) : Prop where
  sl : SlAt (Pile H) 1 p gs.length (gs.map GV.v)
  at_ : ∀ g ∈ gs, RecsAt H g.p g.rs
  big : gs.length ≤ 9223372036854775807
  bigs : ∀ g ∈ gs, g.rs.length ≤ 9223372036854775807 ∧ ∀ r ∈ g.rs, r.l.length ≤ 9223372036854775807
theorem GsAt.grow {H H' : HP} {p : Option Addr} {gs : List GV} (h : GsAt H p gs) (s : HP.sub H H') : GsAt H' p gs := ⟨h.sl.grow s, fun g hg => (h.at_ g hg).grow s, h.big, h.bigs⟩
def cs (g : GV) : Nat := g.rs.length + sumL g.rs + g.rs.length
def csL (gs : List GV) : Nat := (gs.map cs).sum
theorem csL_take (gs : List GV) (i : Nat) (h : i < gs.length) : csL (gs.take (i + 1)) = csL (gs.take i) + cs gs[i] := by
  unfold csL
  rw [List.take_add_one, List.getElem?_eq_getElem h, List.map_append, List.sum_append]
  simp
theorem sumF_one (n a : Int) : sumF n [a] = if n > most ∨ a > most - n then most else n + a := by simp [sumF]
theorem sumF_two (n a b : Int) : sumF n [a, b] = if n > most ∨ a > most - n then most else if n + a > most ∨ b > most - (n + a) then most else n + a + b := by simp [sumF]
structure TbX where
  i : Nat
  n : Int
attribute [local irreducible] Code.wp wpList Exit.then Exit.inBlock bodyPost Back MidQ G GP QStep VStep CStep SStep Does Post Reads
attribute [local irreducible] sumF
theorem total_ {H : HP} (p : Option Addr) (c : Nat) (rs : List BV) (hR : RecsAt H p rs) (h1 : rs.length ≤ 9223372036854775807) (h2 : ∀ r ∈ rs, r.l.length ≤ 9223372036854775807) :
    Does Tryz.prog 34 [.slice p rs.length c, int 60000] [Pile H] (X := Int) (fun n => int n) (fun _ => [Pile H]) (fun n => 0 ≤ n ∧ n ≤ most ∧ (n ≤ 60000 → n = (rs.length + sumL rs : Nat))) := by
  have hmost : most = 1099511627776 := rfl
  refine fn_intro Tryz.func34 rfl Tryz.ntmps34 rfl (by simp only [argFr, Nat.zero_add, Nat.reduceAdd]; rfl) (fun Γ => ?_)
  repeat (first
    | (refine g_ops ?_; first | refine sO ?_ | refine s_n (fun _ => ?_) | refine s_appB (fun _ _ => ?_) | refine s_app (fun _ _ => ?_) | refine s_b0 (fun _ => ?_) | ((fail_if_success refine g_lit rfl rfl rfl ?_); first | apply g_partM rfl rfl rfl | apply g_partMB rfl rfl rfl | fail))
    | refine gS ?_ | exact s_m | intro _)
  rename_i b0
  have hs0 := sum_row b0 1 3 0 [(rs.length : Int)] ⟨Int.le_refl _, by decide⟩ (fun x hx => by rw [List.mem_singleton.1 hx]; omega) (by simp)
  rw [sumF_one] at hs0
  dsimp only [List.length_singleton, List.map_cons, List.map_nil] at hs0
  repeat (first
    | (refine g_ops ?_; first | refine sO ?_ | refine s_n (fun _ => ?_) | refine s_appB (fun _ _ => ?_) | refine s_app (fun _ _ => ?_) | refine s_b0 (fun _ => ?_) | ((fail_if_success refine g_lit rfl rfl rfl ?_); first | apply g_partM rfl rfl rfl | apply g_partMB rfl rfl rfl | fail) | refine s_k (hs0) ?_)
    | refine gS ?_ | exact s_m | intro _)
  obtain ⟨n0, hn0⟩ : ∃ n0 : Int, (if (0 : Int) > most ∨ (rs.length : Int) > most - 0 then most else 0 + (rs.length : Int)) = n0 := ⟨_, rfl⟩
  rw [hn0]
  have hn1 : 0 ≤ n0 ∧ n0 ≤ most ∧ (n0 ≤ 60000 → n0 = ((rs.length + sumL (rs.take 0) : Nat) : Int)) := by
    rw [← hn0]
    split
    · omega
    · simp [sumL]; omega
  refine g_as 6 (v' := int ((0 : Nat) : Int)) rfl rfl ?_
  refine g_loop (X := TbX) (fun x => [(0, .slice p rs.length c), (1, int 60000), (5, int x.n), (6, int x.i)]) (fun _ => [Pile H]) (fun x => x.i ≤ rs.length ∧ 0 ≤ x.n ∧ x.n ≤ most ∧ (x.n ≤ 60000 → x.n = ((rs.length + sumL (rs.take x.i) : Nat) : Int))) (fun x => rs.length - x.i) ⟨0, n0⟩ ⟨Nat.zero_le _, hn1⟩ (by (repeat (first | exact FrSub.nil | refine FrSub.cons rfl ?_)); first | done | fail) (by (repeat (first | exact Take.nil | apply Take.cons | exact Sel.here | apply Sel.there)); first | done | fail) (fun x hx => ?_)
  obtain ⟨i, n⟩ := x
  obtain ⟨g1, g2, g3, g4⟩ := hx
  dsimp only at g1 g2 g3 g4 ⊢
  repeat (first
    | (refine g_ops ?_; first | refine sO ?_ | refine s_n (fun _ => ?_) | refine s_appB (fun _ _ => ?_) | refine s_app (fun _ _ => ?_) | refine s_b0 (fun _ => ?_) | ((fail_if_success refine g_lit rfl rfl rfl ?_); first | apply g_partM rfl rfl rfl | apply g_partMB rfl rfl rfl | fail))
    | apply g_regB (id := 3) 19 | refine gS ?_ | exact s_m | intro _ | (refine gp_take ?_; first | refine pT ?_ | ((fail_if_success refine gp_lit rfl rfl rfl rfl ?_); first | apply gp_guard_dec rfl rfl rfl rfl | apply gp_guard rfl rfl rfl rfl | fail))
    | (refine gp_see ?_; first | refine p_f ?_ | refine pS ?_ | ((fail_if_success refine gp_lit rfl rfl rfl rfl ?_); first | apply gp_guard_dec rfl rfl rfl rfl | apply gp_guard rfl rfl rfl rfl | fail))
    | (refine gp_one ?_; first | refine pO ?_ | refine p_n (fun _ => ?_) | refine p_appB (fun _ _ => ?_) | refine p_app (fun _ _ => ?_) | refine p_b0 (fun _ => ?_) | ((fail_if_success refine gp_lit rfl rfl rfl rfl ?_); first | apply gp_guard_dec rfl rfl rfl rfl | apply gp_guard rfl rfl rfl rfl | fail))
    | refine gp_two ?_ ?_ | refine gp_done hd hk ?_ | intro _ | refine p_ta hd hk (fun _ _ _ hd hk => ?_) | refine p_ts hd hk (fun _ hd hk => ?_))
  by_cases hgo : i < rs.length ∧ n ≤ 60000
  · obtain ⟨hi', hn⟩ := hgo
    refine g_as 19 (v' := .bool true) rfl (congrArg Value.bool (by rw [decide_eq_true (show (i : Int) < (rs.length : Int) by omega), decide_eq_true hn]; rfl)) ?_
    obtain ⟨rb, ro, rfl, hrow⟩ := slAt_cell hR.sl (i := i) (v := (rs[i]).v) (by simp [hi'])
    have hst := sumL_take rs i hi'
    have hbl := h2 rs[i] (List.getElem_mem hi')
    generalize rs[i] = r at hrow hst hbl
    have hr : ∀ k, k = i → Reads (Pile H) ⟨rb, ro + k, none⟩ r.v := fun k hk => by rw [hk]; exact hrow
    repeat (first
      | (refine g_ops ?_; first | refine sO ?_ | refine s_n (fun _ => ?_) | refine s_appB (fun _ _ => ?_) | refine s_app (fun _ _ => ?_) | refine s_b0 (fun _ => ?_) | ((fail_if_success refine g_lit rfl rfl rfl ?_); first | apply g_partM rfl rfl rfl | apply g_partMB rfl rfl rfl | fail))
      | refine gS ?_ | exact s_m | intro _)
    rename_i b1
    have hs1 := sum_row b1 1 3 n [(r.l.length : Int)] ⟨g2, g3⟩ (fun x hx => by rw [List.mem_singleton.1 hx]; omega) (by simp)
    rw [sumF_one] at hs1
    dsimp only [List.length_singleton, List.map_cons, List.map_nil] at hs1
    obtain ⟨n2, hn2⟩ : ∃ n2 : Int, (if n > most ∨ (r.l.length : Int) > most - n then most else n + (r.l.length : Int)) = n2 := ⟨_, rfl⟩
    have hn3 : 0 ≤ n2 ∧ n2 ≤ most ∧ (n2 ≤ 60000 → n2 = ((rs.length + sumL (rs.take (i + 1)) : Nat) : Int)) := by
      rw [← hn2]
      split
      · omega
      · have := g4 hn
        rw [hst]
        omega
    rw [hn2] at hs1
    repeat (first
      | (refine g_ops ?_; first | refine sO ?_ | refine s_n (fun _ => ?_) | refine s_appB (fun _ _ => ?_) | refine s_app (fun _ _ => ?_) | refine s_b0 (fun _ => ?_) | ((fail_if_success refine g_lit rfl rfl rfl ?_); first | apply g_partM rfl rfl rfl | apply g_partMB rfl rfl rfl | fail) | refine s_k (hs1) ?_)
      | refine gS ?_ | exact s_m | intro _)
    refine g_as 6 (v' := int ((i + 1 : Nat) : Int)) rfl (congrArg (Value.int .i64) (by push_cast; rfl)) ?_
    exact gA (⟨i + 1, n2⟩ : TbX) (by simp only; omega) ⟨hi', hn3⟩
  · refine g_as 19 (v' := .bool false) rfl (congrArg Value.bool (by
      by_cases h3 : i < rs.length
      · rw [decide_eq_true (show (i : Int) < (rs.length : Int) by omega), decide_eq_false (fun h => hgo ⟨h3, h⟩)]; rfl
      · rw [decide_eq_false (show ¬ (i : Int) < (rs.length : Int) by omega)]; rfl)) ?_
    repeat (first
      | (refine g_ops ?_; first | refine sO ?_ | refine s_n (fun _ => ?_) | refine s_appB (fun _ _ => ?_) | refine s_app (fun _ _ => ?_) | refine s_b0 (fun _ => ?_) | ((fail_if_success refine g_lit rfl rfl rfl ?_); first | apply g_partM rfl rfl rfl | apply g_partMB rfl rfl rfl | fail))
      | refine gS ?_ | exact s_m | intro _)
    refine gR n ⟨g2, g3, fun h => ?_⟩
    have hi2 : i = rs.length := by
      rcases Nat.lt_or_ge i rs.length with h5 | h5
      · exact (hgo ⟨h5, h⟩).elim
      · omega
    have := g4 h
    rw [hi2, List.take_length] at this
    exact this
theorem small_ {H : HP} (p : Option Addr) (c : Nat) (gs : List GV) (hG : GsAt H p gs) :
    Does Tryz.prog 18 [.slice p gs.length c] [Pile H] (X := Bool) (fun b => .bool b) (fun _ => [Pile H]) (fun b => b = true → gs.length ≤ 60 ∧ (∀ g ∈ gs, g.rs.length ≤ 100) ∧ csL gs ≤ 60000) := by
  have hmost : most = 1099511627776 := rfl
  have hbig := hG.big
  refine fn_intro Tryz.func18 rfl Tryz.ntmps18 rfl (by simp only [argFr, Nat.zero_add, Nat.reduceAdd]; rfl) (fun Γ => ?_)
  repeat (first
    | (refine g_ops ?_; first | refine sO ?_ | refine s_n (fun _ => ?_) | refine s_appB (fun _ _ => ?_) | refine s_app (fun _ _ => ?_) | refine s_b0 (fun _ => ?_) | ((fail_if_success refine g_lit rfl rfl rfl ?_); first | apply g_partM rfl rfl rfl | apply g_partMB rfl rfl rfl | fail))
    | refine gS ?_ | exact s_m | intro _)
  refine g_as 4 (v' := int ((0 : Nat) : Int)) rfl rfl ?_
  refine g_as 3 (v' := int ((csL (gs.take 0) : Nat) : Int)) rfl rfl ?_
  refine g_loop (X := Nat) (fun i => [(0, .slice p gs.length c), (3, int ((csL (gs.take i) : Nat) : Int)), (4, int i)]) (fun _ => [Pile H]) (fun i => i ≤ gs.length ∧ csL (gs.take i) ≤ 60000 ∧ ∀ (j : Nat) (h : j < gs.length), j < i → gs[j].rs.length ≤ 100) (fun i => gs.length - i) 0 ⟨Nat.zero_le _, by simp [csL], fun j _ h => by omega⟩ (by (repeat (first | exact FrSub.nil | refine FrSub.cons rfl ?_)); first | done | fail) (by (repeat (first | exact Take.nil | apply Take.cons | exact Sel.here | apply Sel.there)); first | done | fail) (fun i hx => ?_)
  obtain ⟨g1, g2, g3⟩ := hx
  repeat (first
    | (refine g_ops ?_; first | refine sO ?_ | refine s_n (fun _ => ?_) | refine s_appB (fun _ _ => ?_) | refine s_app (fun _ _ => ?_) | refine s_b0 (fun _ => ?_) | ((fail_if_success refine g_lit rfl rfl rfl ?_); first | apply g_partM rfl rfl rfl | apply g_partMB rfl rfl rfl | fail))
    | refine gS ?_ | exact s_m | intro _)
  refine g_cond_dec rfl (fun h => ?_) (fun h => ?_)
  · have hi' : i < gs.length := by omega
    obtain ⟨rb, ro, rfl, hrow⟩ := slAt_cell hG.sl (i := i) (v := (gs[i]).v) (by simp [hi'])
    have hst := csL_take gs i hi'
    have hat := hG.at_ gs[i] (List.getElem_mem hi')
    obtain ⟨hb1, hb2⟩ := hG.bigs gs[i] (List.getElem_mem hi')
    generalize hgi : gs[i] = g at hrow hst hat hb1 hb2
    have hr : ∀ k, k = i → Reads (Pile H) ⟨rb, ro + k, none⟩ g.v := fun k hk => by rw [hk]; exact hrow
    have htot := total_ g.p g.c g.rs hat hb1 hb2
    generalize hcc : csL (gs.take i) = cc at g2 hst
    repeat (first | refine g_seq ?_ | refine g_then_normal ?_ | refine g_block ?_ | refine g_skip ?_)
    refine g_draw (id := 5) (.take 0 (.take 1 (.take 2 (.take 3 (.see 4 [] (.take 6 (.take 7 (.take 8 (.see 9 [] (.take 10 (.one 5 (.one 11 (.one 12 (.take 13 .done)))))))))))))) (by kernel_rfl) (take_all _) (fun k hd hk => ?_)
    repeat (first
      | (refine gp_take ?_; first | refine pT ?_ | ((fail_if_success refine gp_lit rfl rfl rfl rfl ?_); first | apply gp_guard_dec rfl rfl rfl rfl | apply gp_guard rfl rfl rfl rfl | fail))
      | (refine gp_see ?_; first | refine p_f ?_ | refine pS ?_ | ((fail_if_success refine gp_lit rfl rfl rfl rfl ?_); first | apply gp_guard_dec rfl rfl rfl rfl | apply gp_guard rfl rfl rfl rfl | fail))
      | (refine gp_one ?_; first | refine pO ?_ | refine p_n (fun _ => ?_) | refine p_appB (fun _ _ => ?_) | refine p_app (fun _ _ => ?_) | refine p_b0 (fun _ => ?_) | ((fail_if_success refine gp_lit rfl rfl rfl rfl ?_); first | apply gp_guard_dec rfl rfl rfl rfl | apply gp_guard rfl rfl rfl rfl | fail) | refine p_cP (htot) hd hk (fun _ _ => ?_))
      | refine gp_two ?_ ?_ | refine gp_done hd hk ?_ | intro _ | refine p_ta hd hk (fun _ _ _ hd hk => ?_) | refine p_ts hd hk (fun _ hd hk => ?_))
    rename_i n hn b2
    have hs1 := sum_row b2 2 3 (cc : Int) [n, (g.rs.length : Int)] ⟨by omega, by omega⟩ (fun x hx => by
      rcases List.mem_cons.1 hx with rfl | hx
      · omega
      · rw [List.mem_singleton.1 hx]; omega) (by simp)
    rw [sumF_two] at hs1
    dsimp only [List.length_cons, List.length_nil, List.map_cons, List.map_nil, Nat.zero_add, Nat.reduceAdd] at hs1
    obtain ⟨n2, hn2⟩ : ∃ n2 : Int, (if (cc : Int) > most ∨ n > most - (cc : Int) then most else if (cc : Int) + n > most ∨ (g.rs.length : Int) > most - ((cc : Int) + n) then most else (cc : Int) + n + (g.rs.length : Int)) = n2 := ⟨_, rfl⟩
    have hn3 : 0 ≤ n2 ∧ (n2 ≤ 60000 → n2 = ((cc + cs g : Nat) : Int)) := by
      rw [← hn2]
      unfold cs
      split
      · omega
      · split
        · omega
        · refine ⟨by omega, fun h => ?_⟩
          have := hn.2.2 (by omega)
          omega
    rw [hn2] at hs1
    repeat (first
      | (refine gp_take ?_; first | refine pT ?_ | ((fail_if_success refine gp_lit rfl rfl rfl rfl ?_); first | apply gp_guard_dec rfl rfl rfl rfl | apply gp_guard rfl rfl rfl rfl | fail))
      | (refine gp_see ?_; first | refine p_f ?_ | refine pS ?_ | ((fail_if_success refine gp_lit rfl rfl rfl rfl ?_); first | apply gp_guard_dec rfl rfl rfl rfl | apply gp_guard rfl rfl rfl rfl | fail) | refine p_h (hs1) hd hk ?_)
      | (refine gp_one ?_; first | refine pO ?_ | refine p_n (fun _ => ?_) | refine p_appB (fun _ _ => ?_) | refine p_app (fun _ _ => ?_) | refine p_b0 (fun _ => ?_) | ((fail_if_success refine gp_lit rfl rfl rfl rfl ?_); first | apply gp_guard_dec rfl rfl rfl rfl | apply gp_guard rfl rfl rfl rfl | fail) | refine p_k (hs1) ?_)
      | refine gp_two ?_ ?_ | refine gp_done hd hk ?_ | intro _ | refine p_ta hd hk (fun _ _ _ hd hk => ?_) | refine p_ts hd hk (fun _ hd hk => ?_))
    repeat (first
      | (refine g_ops ?_; first | refine sO ?_ | refine s_n (fun _ => ?_) | refine s_appB (fun _ _ => ?_) | refine s_app (fun _ _ => ?_) | refine s_b0 (fun _ => ?_) | ((fail_if_success refine g_lit rfl rfl rfl ?_); first | apply g_partM rfl rfl rfl | apply g_partMB rfl rfl rfl | fail))
      | apply g_regB (id := 6) 33 | refine gS ?_ | exact s_m | intro _ | (refine gp_take ?_; first | refine pT ?_ | ((fail_if_success refine gp_lit rfl rfl rfl rfl ?_); first | apply gp_guard_dec rfl rfl rfl rfl | apply gp_guard rfl rfl rfl rfl | fail))
      | (refine gp_see ?_; first | refine p_f ?_ | refine pS ?_ | ((fail_if_success refine gp_lit rfl rfl rfl rfl ?_); first | apply gp_guard_dec rfl rfl rfl rfl | apply gp_guard rfl rfl rfl rfl | fail))
      | (refine gp_one ?_; first | refine pO ?_ | refine p_n (fun _ => ?_) | refine p_appB (fun _ _ => ?_) | refine p_app (fun _ _ => ?_) | refine p_b0 (fun _ => ?_) | ((fail_if_success refine gp_lit rfl rfl rfl rfl ?_); first | apply gp_guard_dec rfl rfl rfl rfl | apply gp_guard rfl rfl rfl rfl | fail))
      | refine gp_two ?_ ?_ | refine gp_done hd hk ?_ | intro _ | refine p_ta hd hk (fun _ _ _ hd hk => ?_) | refine p_ts hd hk (fun _ hd hk => ?_))
    by_cases hbad : 60000 < n2 ∨ 100 < g.rs.length
    · refine g_as 33 (v' := .bool true) rfl (congrArg Value.bool (by
        rcases hbad with h | h
        · rw [decide_eq_true h]; rfl
        · rw [decide_eq_true (show (100 : Int) < (g.rs.length : Int) by omega)]; cases decide (60000 < n2) <;> rfl)) ?_
      repeat (first
        | (refine g_ops ?_; first | refine sO ?_ | refine s_n (fun _ => ?_) | refine s_appB (fun _ _ => ?_) | refine s_app (fun _ _ => ?_) | refine s_b0 (fun _ => ?_) | ((fail_if_success refine g_lit rfl rfl rfl ?_); first | apply g_partM rfl rfl rfl | apply g_partMB rfl rfl rfl | fail))
        | refine gS ?_ | exact s_m | intro _)
      exact gR false (fun h => by cases h)
    · have hb3 : ¬ 60000 < n2 := fun h => hbad (.inl h)
      have hb4 : ¬ 100 < g.rs.length := fun h => hbad (.inr h)
      refine g_as 33 (v' := .bool false) rfl (congrArg Value.bool (by rw [decide_eq_false hb3, decide_eq_false (show ¬ (100 : Int) < (g.rs.length : Int) by omega)]; rfl)) ?_
      have he := hn3.2 (by omega)
      repeat (first
        | (refine g_ops ?_; first | refine sO ?_ | refine s_n (fun _ => ?_) | refine s_appB (fun _ _ => ?_) | refine s_app (fun _ _ => ?_) | refine s_b0 (fun _ => ?_) | ((fail_if_success refine g_lit rfl rfl rfl ?_); first | apply g_partM rfl rfl rfl | apply g_partMB rfl rfl rfl | fail))
        | refine gS ?_ | exact s_m | intro _)
      refine g_as 4 (v' := int ((i + 1 : Nat) : Int)) rfl (congrArg (Value.int .i64) (by push_cast; rfl)) ?_
      refine g_as 3 (v' := int ((csL (gs.take (i + 1)) : Nat) : Int)) rfl (congrArg (Value.int .i64) (by rw [hst, he])) ?_
      refine gA (i + 1) (by omega) ⟨hi', by rw [hst]; omega, fun j hj hji => ?_⟩
      by_cases e : j = i
      · subst e; rw [hgi]; omega
      · exact g3 j hj (by omega)
  · have hie : i = gs.length := by omega
    rw [hie, List.take_length] at g2
    repeat (first
      | (refine g_ops ?_; first | refine sO ?_ | refine s_n (fun _ => ?_) | refine s_appB (fun _ _ => ?_) | refine s_app (fun _ _ => ?_) | refine s_b0 (fun _ => ?_) | ((fail_if_success refine g_lit rfl rfl rfl ?_); first | apply g_partM rfl rfl rfl | apply g_partMB rfl rfl rfl | fail))
      | refine gS ?_ | exact s_m | intro _)
    refine gR (decide ((gs.length : Int) ≤ 60)) (fun hb => ⟨by simp at hb; omega, fun g hg => ?_, g2⟩)
    obtain ⟨j, hj, rfl⟩ := List.mem_iff_getElem.1 hg
    exact g3 j hj (by omega)
end Go.Proofs.YtdldgbbhagpofaaGreatDoor

namespace Go.Proofs.YtdldgbbhagpofaaGreatDoor
open Go.Sl facts
theorem rel_ind (R : Fi → Fi → Prop) : ∀ {fs gs : List Fi}, gs.length = fs.length → (∀ (i : Nat) (h1 : i < fs.length) (h2 : i < gs.length), R fs[i] gs[i]) → (C : List Fi → List Fi → Prop) → C [] [] → (∀ x y fs gs, R x y → C fs gs → C (x :: fs) (y :: gs)) → C fs gs
  | [], [], _, _, _, h0, _ => h0
  | [], _ :: _, h, _, _, _, _ => by simp at h
  | _ :: _, [], h, _, _, _, _ => by simp at h
  | x :: fs, y :: gs, h, hr, C, h0, hs => hs x y fs gs (hr 0 (by simp) (by simp)) (rel_ind R (by simpa using h) (fun i h1 h2 => hr (i + 1) (Nat.succ_lt_succ h1) (Nat.succ_lt_succ h2)) C h0 hs)
structure Cr1 (fs gs : List Fi) : Prop where
  sort : SortF gs
  used : Go.Proofs.YtdldgbbhagpofaaGreatDoor.used gs ≤ Go.Proofs.YtdldgbbhagpofaaGreatDoor.used fs
  len : gs.length = fs.length
  nms : (∀ x ∈ fs, ∃ i, i < 100 ∧ x.nm = nmB i) → ∀ x ∈ gs, ∃ i, i < 100 ∧ x.nm = nmB i
  at_ : ∀ nm, (fdat fs nm = none ∧ fdat gs nm = none) ∨ ∃ a b k, fdat fs nm = some (a, b) ∧ fdat gs nm = some (a ++ b.take k, [])
structure Cp1 (fs gs : List Fi) : Prop where
  sort : SortF gs
  used : Go.Proofs.YtdldgbbhagpofaaGreatDoor.used gs = Go.Proofs.YtdldgbbhagpofaaGreatDoor.used fs
  len : gs.length = fs.length
  nms : (∀ x ∈ fs, ∃ i, i < 100 ∧ x.nm = nmB i) → ∀ x ∈ gs, ∃ i, i < 100 ∧ x.nm = nmB i
  at_ : ∀ nm, fdat gs nm = fdat fs nm
theorem names_map {fs gs : List Fi} (hl : gs.length = fs.length) (hr : ∀ (i : Nat) (h1 : i < fs.length) (h2 : i < gs.length), gs[i].nm = fs[i].nm) : gs.map Fi.nm = fs.map Fi.nm := by
  apply List.ext_getElem
  · simp [hl]
  · intro i h1 h2
    simp only [List.getElem_map]
    exact hr i (by simpa using h2) (by simpa using h1)
theorem nms_map {fs gs : List Fi} (h : gs.map Fi.nm = fs.map Fi.nm) (hn : ∀ x ∈ fs, ∃ i, i < 100 ∧ x.nm = nmB i) : ∀ x ∈ gs, ∃ i, i < 100 ∧ x.nm = nmB i := fun x hx => by
  have : x.nm ∈ fs.map Fi.nm := by rw [← h]; exact List.mem_map.2 ⟨x, hx, rfl⟩
  obtain ⟨y, hy, e⟩ := List.mem_map.1 this
  rw [← e]; exact hn y hy
theorem Cr1.of {fs gs : List Fi} (hS : SortF fs) (hl : gs.length = fs.length) (hr : ∀ (i : Nat) (h1 : i < fs.length) (h2 : i < gs.length), ∃ k, gs[i].nm = fs[i].nm ∧ gs[i].safe = fs[i].safe ++ fs[i].loose.take k ∧ gs[i].loose = []) : Cr1 fs gs := by
  have hn := names_map hl (fun i h1 h2 => (hr i h1 h2).choose_spec.1)
  refine ⟨by unfold SortF; rw [hn]; exact hS, ?_, hl, nms_map hn, fun nm => ?_⟩
  · refine rel_ind (fun x y => ∃ k, y.nm = x.nm ∧ y.safe = x.safe ++ x.loose.take k ∧ y.loose = []) hl hr (fun fs gs => Go.Proofs.YtdldgbbhagpofaaGreatDoor.used gs ≤ Go.Proofs.YtdldgbbhagpofaaGreatDoor.used fs) (Nat.le_refl _) (fun x y fs gs ⟨k, _, h2, h3⟩ ih => ?_)
    unfold Go.Proofs.YtdldgbbhagpofaaGreatDoor.used
    rw [h2, h3, List.length_append, List.length_take, List.length_nil]
    omega
  · refine rel_ind (fun x y => ∃ k, y.nm = x.nm ∧ y.safe = x.safe ++ x.loose.take k ∧ y.loose = []) hl hr (fun fs gs => (fdat fs nm = none ∧ fdat gs nm = none) ∨ ∃ a b k, fdat fs nm = some (a, b) ∧ fdat gs nm = some (a ++ b.take k, [])) (.inl ⟨rfl, rfl⟩) (fun x y fs gs ⟨k, h1, h2, h3⟩ ih => ?_)
    rw [fdat_cons, fdat_cons, h1]
    by_cases e : x.nm = nm
    · rw [if_pos e, if_pos e, h2, h3]
      exact .inr ⟨_, _, k, rfl, rfl⟩
    · rw [if_neg e, if_neg e]
      exact ih
theorem Cp1.of {fs gs : List Fi} (hS : SortF fs) (hl : gs.length = fs.length) (hr : ∀ (i : Nat) (h1 : i < fs.length) (h2 : i < gs.length), gs[i].nm = fs[i].nm ∧ gs[i].safe = fs[i].safe ∧ gs[i].loose = fs[i].loose) : Cp1 fs gs := by
  have hn := names_map hl (fun i h1 h2 => (hr i h1 h2).1)
  refine ⟨by unfold SortF; rw [hn]; exact hS, ?_, hl, nms_map hn, fun nm => ?_⟩
  · refine rel_ind (fun x y => y.nm = x.nm ∧ y.safe = x.safe ∧ y.loose = x.loose) hl hr (fun fs gs => Go.Proofs.YtdldgbbhagpofaaGreatDoor.used gs = Go.Proofs.YtdldgbbhagpofaaGreatDoor.used fs) rfl (fun x y fs gs ⟨_, h2, h3⟩ ih => ?_)
    unfold Go.Proofs.YtdldgbbhagpofaaGreatDoor.used
    rw [h2, h3, ih]
  · refine rel_ind (fun x y => y.nm = x.nm ∧ y.safe = x.safe ∧ y.loose = x.loose) hl hr (fun fs gs => fdat gs nm = fdat fs nm) rfl (fun x y fs gs ⟨h1, h2, h3⟩ ih => ?_)
    rw [fdat_cons, fdat_cons, h1, h2, h3, ih]
attribute [local irreducible] Code.wp wpList Exit.then Exit.inBlock bodyPost Back MidQ G GP QStep VStep CStep SStep Does Post Reads
theorem copyS (d : Nat) (room : Int) (ops ct : Int) (q : Option Addr) (c : Nat) (fs : List Fi) (hS : SortF fs) (hn : fs.length ≤ 2000) (hu : used fs ≤ 1000000) :
    Does Tryz.prog 20 [ptr d] (bagL d room ops ct q c fs []) (X := EbX) (fun x => ptr x.d) (fun x => bagL x.d room ops ct x.x.q x.x.c x.x.fs (bagL d room ops ct q c fs [])) (fun x => Cp1 fs x.x.fs) :=
  does_map (fun x => x) (take_all _) (fun _ _ => rfl) (fun _ _ _ _ h => h) (fun x ⟨h1, h2⟩ => Cp1.of hS h1 (fun i g1 g2 => h2 i g2 g1)) (copyg d room ops ct q c fs hn hu)
end Go.Proofs.YtdldgbbhagpofaaGreatDoor

namespace Go.Proofs.YtdldgbbhagpofaaGreatDoor
open Go.Sl facts
theorem JL.mono {S : List Sg} {x : LG} {fs : List Fi} {B U B' U' : Nat} (h : JL S x fs B U) (hB : B ≤ B') (hU : U ≤ U') : JL S x fs B' U' :=
  ⟨h.cons, h.clo, h.is_, h.dlay, h.sort, h.nms, Nat.le_trans h.byt hB, Nat.le_trans h.used hU, h.rec_, Nat.le_trans h.num hU⟩
structure JX where
  x : LG
  y : DkX
  ops : Int
  H : HP
structure JOk (H : HP) (S : List Sg) (rs : List BV) (B U : Nat) (ops : Int) (z : JX) : Prop where
  sub : HP.sub H z.H
  at_ : BtsAt z.H z.x.rs
  jl : ∃ T, JL T z.x z.y.fs (B + sumL rs) (U + (sumL rs + 26 * rs.length)) ∧ flatS T = flatS S ++ bts rs
  ops : ops ≤ z.ops ∧ z.ops ≤ ops + 202
attribute [local irreducible] Code.wp wpList Exit.then Exit.inBlock bodyPost Back MidQ G GP QStep VStep CStep SStep Does Post Reads
attribute [local irreducible] Begin RPost MPost frameB recB partB pbytes frB
theorem appendJ {H : HP} (lg d : Nat) (x : LG) (q : Option Addr) (c : Nat) (ops : Int) (ho : 0 ≤ ops ∧ ops ≤ 1000000) (fs : List Fi) (S : List Sg) (B U : Nat) (hJ : JL S x fs B U) (g : GV) (hR : RecsAt H g.p g.rs) (h0 : 0 < g.rs.length) (hn : g.rs.length ≤ 100) (hr : ∀ r ∈ g.rs, r.l.length ≤ 65536) (hB : B + sumL g.rs ≤ 190000) (hU : U + (sumL g.rs + 26 * g.rs.length) ≤ 900000) (hXB : BtsAt H x.rs) (hnum : (flatS S).length ≤ 100000) :
    Does Tryz.prog 10 [ptr lg, g.v] (x.L lg d false ++ bagL d 1048576 ops 0 q c fs [Pile H]) (X := JX) (fun _ => .tuple #[int (flatS S).length, int 0]) (fun z => z.x.L lg d false ++ bagL d 1048576 z.ops 0 z.y.q z.y.c z.y.fs [Pile z.H]) (JOk H S g.rs B U ops) := by
  obtain ⟨a1, a2, a3, a4, a5⟩ := hJ.args
  have hpk := hJ.pok (rs := g.rs) hn hB (by omega)
  have hlen := fs_len hJ.sort hJ.nms
  have hus := hJ.used
  have hsg := hJ.segs (by omega)
  have hby := hJ.byt
  have hlb : lastB S ≤ sumB (flatS S) := by
    by_cases h0 : S = []
    · subst h0; exact Nat.zero_le _
    · obtain ⟨T, s, rfl⟩ := snoc_of h0
      rw [lastB_snoc, flatS_snoc, sumB_append]; omega
  have hap := append_ (H := H) lg d x 1048576 q c ops ⟨ho.1, by omega⟩ fs hJ.sort (by omega) (by decide) (by omega) g.p g.c g.rs hR h0 hn hr (by omega) (lastB S) a2 (by omega) hXB (by omega) (by omega) (sumL g.rs + 26 * g.rs.length) (by omega) (by omega) (by rw [a1, a3, a4]; exact hpk)
  rw [a1, a3, a4] at hap
  have hol := hpk.len
  refine does_map (fun z : ApX => ⟨z.x, z.y, ops + 2 * ((partsL S.length (lastB S) false (flatS S).length g.rs).out.length : Int), z.H⟩) (take_all _) (fun _ _ => rfl) (fun _ _ _ _ h => h) (fun z hz => ?_) hap
  obtain ⟨h1, h2⟩ := hJ.next h0 hn hr hB (by omega) hz
  exact ⟨hz.sub, hz.at_, ⟨_, h1, h2⟩, by dsimp only; omega⟩
theorem rows2_ {H : HP} (p p' : Option Addr) (c c' : Nat) (a b : List BV) (hS : BtsAt H a) (hS' : BtsAt H b) (he : bts a = bts b) (hl : a.length ≤ 1000000000) (hb : ∀ r ∈ a, r.l.length ≤ 1000000000) : Does1 Tryz.prog 32 [.slice p a.length c, .slice p' b.length c'] [.own p a.length c 1 (a.map BV.v) 28, .own p' b.length c' 1 (b.map BV.v) 28, Pile H] (.bool true) := by
  have hlen := bts_len he
  refine fn_intro Tryz.func32 rfl Tryz.ntmps32 rfl (by simp only [argFr, Nat.zero_add, Nat.reduceAdd]; rfl) (fun Γ => ?_)
  repeat (first
    | (refine g_ops ?_; first | refine sO ?_ | refine s_n (fun _ => ?_) | refine s_appB (fun _ _ => ?_) | refine s_app (fun _ _ => ?_) | refine s_b0 (fun _ => ?_) | ((fail_if_success refine g_lit rfl rfl rfl ?_); first | apply g_partM rfl rfl rfl | apply g_partMB rfl rfl rfl | fail))
    | refine gS ?_ | exact s_m | intro _)
  refine g_as 10 (v' := .bool false) rfl (congrArg Value.bool (by simp [hlen])) ?_
  repeat (first
    | (refine g_ops ?_; first | refine sO ?_ | refine s_n (fun _ => ?_) | refine s_appB (fun _ _ => ?_) | refine s_app (fun _ _ => ?_) | refine s_b0 (fun _ => ?_) | ((fail_if_success refine g_lit rfl rfl rfl ?_); first | apply g_partM rfl rfl rfl | apply g_partMB rfl rfl rfl | fail))
    | refine gS ?_ | exact s_m | intro _)
  refine g_own (p := p) (len := a.length) (cap := c) (n := 1) (xs := a.map BV.v) (e := 28) (by (repeat (first | exact Sel.here | apply Sel.there)); first | done | fail) (fun _ _ hq => ?_)
  refine g_own (p := p') (len := b.length) (cap := c') (n := 1) (xs := b.map BV.v) (e := 28) (by (repeat (first | exact Sel.here | apply Sel.there)); first | done | fail) (fun _ _ hq' => ?_)
  refine g_loop (X := Nat) (fun i => [(0, .slice p a.length c), (1, .slice p' b.length c'), (5, int i)]) (fun _ => [.own p a.length c 1 (a.map BV.v) 28, .own p' b.length c' 1 (b.map BV.v) 28, Pile H]) (fun i => i ≤ a.length) (fun i => a.length - i) 0 (Nat.zero_le _) (by (repeat (first | exact FrSub.nil | refine FrSub.cons rfl ?_)); first | done | fail) (by (repeat (first | exact Take.nil | apply Take.cons | exact Sel.here | apply Sel.there)); first | done | fail) (fun i hi => ?_)
  repeat (first
    | (refine g_ops ?_; first | refine sO ?_ | refine s_n (fun _ => ?_) | refine s_appB (fun _ _ => ?_) | refine s_app (fun _ _ => ?_) | refine s_b0 (fun _ => ?_) | ((fail_if_success refine g_lit rfl rfl rfl ?_); first | apply g_partM rfl rfl rfl | apply g_partMB rfl rfl rfl | fail))
    | refine gS ?_ | exact s_m | intro _)
  refine g_cond_dec rfl (fun h => ?_) (fun h => ?_)
  · have hi' : i < a.length := by omega
    have hi2 : i < b.length := by omega
    obtain ⟨pb, rfl⟩ := hq (by omega)
    obtain ⟨pb', rfl⟩ := hq' (by omega)
    have hr0 := reads_own (b := pb) (len := a.length) (cap := c) (n := 1) (e := 28) (xs := a.map BV.v) (j := i) (v := (a[i]).v) (by simp [hi'])
    have hr0' := reads_own (b := pb') (len := b.length) (cap := c') (n := 1) (e := 28) (xs := b.map BV.v) (j := i) (v := (b[i]).v) (by simp [hi2])
    have hb1 := hS a[i] (List.getElem_mem hi')
    have hb2 := hS' b[i] (List.getElem_mem hi2)
    have hbl := hb a[i] (List.getElem_mem hi')
    have hee := bts_at he hi' hi2
    generalize a[i] = x at hr0 hb1 hbl hee
    generalize b[i] = y at hr0' hb2 hee
    obtain ⟨xp, xl, xc⟩ := x
    obtain ⟨yp, yl, yc⟩ := y
    dsimp only at hee hb1 hb2 hbl
    subst hee
    have hr : ∀ k, k = i → Reads (.own (some ⟨pb, 0, none⟩) a.length c 1 (a.map BV.v) 28) ⟨pb, 0 + k, none⟩ (.slice xp xl.length xc) := fun _ e => by rw [e, Nat.zero_add]; exact hr0
    have hr2 : ∀ k, k = i → Reads (.own (some ⟨pb', 0, none⟩) b.length c' 1 (b.map BV.v) 28) ⟨pb', 0 + k, none⟩ (.slice yp xl.length yc) := fun _ e => by rw [e, Nat.zero_add]; exact hr0'
    have hbb := bytes_ xp yp xc yc xl hb1 hb2 hbl
    repeat (first
      | (refine g_ops ?_; first | refine sO ?_ | refine s_n (fun _ => ?_) | refine s_appB (fun _ _ => ?_) | refine s_app (fun _ _ => ?_) | refine s_b0 (fun _ => ?_) | ((fail_if_success refine g_lit rfl rfl rfl ?_); first | apply g_partM rfl rfl rfl | apply g_partMB rfl rfl rfl | fail))
      | refine g_draw (id := 6) (.take 0 (.take 1 (.take 2 (.see 3 [] (.take 4 (.take 5 (.take 6 (.see 7 [] (.one 8 (.take 9 .done)))))))))) (by kernel_rfl) (take_all _) (fun k hd hk => ?_)
      | refine gS ?_ | exact s_m | intro _ | (refine gp_take ?_; first | refine pT ?_ | ((fail_if_success refine gp_lit rfl rfl rfl rfl ?_); first | apply gp_guard_dec rfl rfl rfl rfl | apply gp_guard rfl rfl rfl rfl | fail))
      | (refine gp_see ?_; first | refine p_f ?_ | refine pS ?_ | ((fail_if_success refine gp_lit rfl rfl rfl rfl ?_); first | apply gp_guard_dec rfl rfl rfl rfl | apply gp_guard rfl rfl rfl rfl | fail))
      | (refine gp_one ?_; first | refine pO ?_ | refine p_n (fun _ => ?_) | refine p_appB (fun _ _ => ?_) | refine p_app (fun _ _ => ?_) | refine p_b0 (fun _ => ?_) | ((fail_if_success refine gp_lit rfl rfl rfl rfl ?_); first | apply gp_guard_dec rfl rfl rfl rfl | apply gp_guard rfl rfl rfl rfl | fail) | refine p_cP (hbb) hd hk (fun _ _ => ?_))
      | refine gp_two ?_ ?_ | refine gp_done hd hk ?_ | intro _ | refine p_ta hd hk (fun _ _ _ hd hk => ?_) | refine p_ts hd hk (fun _ hd hk => ?_))
    refine g_as 5 (v' := int ((i + 1 : Nat) : Int)) rfl (congrArg (Value.int .i64) (by push_cast; rfl)) ?_
    exact gA (i + 1) (by omega) hi'
  · repeat (first
      | (refine g_ops ?_; first | refine sO ?_ | refine s_n (fun _ => ?_) | refine s_appB (fun _ _ => ?_) | refine s_app (fun _ _ => ?_) | refine s_b0 (fun _ => ?_) | ((fail_if_success refine g_lit rfl rfl rfl ?_); first | apply g_partM rfl rfl rfl | apply g_partMB rfl rfl rfl | fail))
      | refine gS ?_ | exact s_m | intro _)
    exact gR () trivial
theorem has2_ {H : HP} (lg d : Nat) (x : LG) (off : Bool) (p : Option Addr) (c : Nat) (ls : List BV) (hL : BtsAt H ls) (hR : BtsAt H x.rs) (he : bts x.rs = bts ls) (hn : x.rs.length ≤ 1000000) (hb : ∀ r ∈ x.rs, r.l.length ≤ 1000000) :
    Does Tryz.prog 12 [ptr lg, .slice p ls.length c] (x.L lg d off ++ [.own p ls.length c 1 (ls.map BV.v) 28, Pile H]) (X := HP) (fun _ => .bool true) (fun H' => x.L lg d off ++ [.own p ls.length c 1 (ls.map BV.v) 28, Pile H']) (fun H' => HP.sub H H') := by
  have hlen := bts_len he
  have hrd := read_ (H := H) lg d x off 0 ((ls.length : Int) + 5) (Nat.zero_le _) hR hn hb
  have hb1 := read_bad lg d x off ((ls.length : Int) + 1) 1 (.inr (by omega))
  have hb2 := read_bad lg d x off (-1) 1 (.inl (by decide))
  rw [bts_rd0 _ _ (by omega)] at hrd
  obtain ⟨rq, rc, xs, fq, fc, fs, size, sl⟩ := x
  dsimp only [LG.L, LG.row, LG.own] at he hlen hn hb hrd hb1 hb2 ⊢
  have hln := len_ lg d rq xs.length rc (.slice fq fs.length fc) size sl off
  dsimp only [List.cons_append, List.nil_append] at hrd ⊢
  refine fn_intro Tryz.func12 rfl Tryz.ntmps12 rfl (by simp only [argFr, Nat.zero_add, Nat.reduceAdd]; rfl) (fun Γ => ?_)
  repeat (first
    | (refine g_ops ?_; first | refine sO ?_ | refine s_n (fun _ => ?_) | refine s_appB (fun _ _ => ?_) | refine s_app (fun _ _ => ?_) | refine s_b0 (fun _ => ?_) | ((fail_if_success refine g_lit rfl rfl rfl ?_); first | apply g_partM rfl rfl rfl | apply g_partMB rfl rfl rfl | fail) | refine s_c (hrd) (fun _ _ => ?_))
    | apply g_regB (id := 6) 4 | refine gS ?_ | exact s_m | intro _ | (refine gp_take ?_; first | refine pT ?_ | ((fail_if_success refine gp_lit rfl rfl rfl rfl ?_); first | apply gp_guard_dec rfl rfl rfl rfl | apply gp_guard rfl rfl rfl rfl | fail))
    | (refine gp_see ?_; first | refine p_f ?_ | refine pS ?_ | ((fail_if_success refine gp_lit rfl rfl rfl rfl ?_); first | apply gp_guard_dec rfl rfl rfl rfl | apply gp_guard rfl rfl rfl rfl | fail))
    | (refine gp_one ?_; first | refine pO ?_ | refine p_n (fun _ => ?_) | refine p_appB (fun _ _ => ?_) | refine p_app (fun _ _ => ?_) | refine p_b0 (fun _ => ?_) | ((fail_if_success refine gp_lit rfl rfl rfl rfl ?_); first | apply gp_guard_dec rfl rfl rfl rfl | apply gp_guard rfl rfl rfl rfl | fail) | refine p_c (hrd) (fun _ _ => ?_))
    | refine gp_two ?_ ?_ | refine gp_done hd hk ?_ | intro _ | refine p_ta hd hk (fun _ _ _ hd hk => ?_) | refine p_ts hd hk (fun _ hd hk => ?_))
  rename_i y hy
  obtain ⟨yq, yc, ws, H1⟩ := y
  obtain ⟨h1, h2, h3⟩ := hy
  dsimp only [List.cons_append, List.nil_append] at h1 h2 h3 ⊢
  have hwl := bts_len h3
  have hrr := rows2_ (H := H1) yq p yc c ws ls h2 (hL.grow h1) (h3.trans he) (by omega) (fun r hr => by
    have : r.l ∈ bts xs := by rw [← h3]; exact List.mem_map.2 ⟨r, hr, rfl⟩
    obtain ⟨r', hr', e⟩ := List.mem_map.1 this
    have := hb r' hr'
    rw [← e]; omega)
  repeat ((fail_if_success refine s_at 24 ?_); first
    | (refine g_ops ?_; first | refine sO ?_ | refine s_n (fun _ => ?_) | refine s_appB (fun _ _ => ?_) | refine s_app (fun _ _ => ?_) | refine s_b0 (fun _ => ?_) | ((fail_if_success refine g_lit rfl rfl rfl ?_); first | apply g_partM rfl rfl rfl | apply g_partMB rfl rfl rfl | fail) | refine s_k (hln) ?_)
    | apply g_regB (id := 2) 33 | apply g_regB (id := 6) 4 | refine gS ?_ | exact s_m | intro _ | (refine gp_take ?_; first | refine pT ?_ | ((fail_if_success refine gp_lit rfl rfl rfl rfl ?_); first | apply gp_guard_dec rfl rfl rfl rfl | apply gp_guard rfl rfl rfl rfl | fail))
    | (refine gp_see ?_; first | refine p_f ?_ | refine pS ?_ | ((fail_if_success refine gp_lit rfl rfl rfl rfl ?_); first | apply gp_guard_dec rfl rfl rfl rfl | apply gp_guard rfl rfl rfl rfl | fail) | refine p_h (hln) hd hk ?_)
    | (refine gp_one ?_; first | refine pO ?_ | refine p_n (fun _ => ?_) | refine p_appB (fun _ _ => ?_) | refine p_app (fun _ _ => ?_) | refine p_b0 (fun _ => ?_) | ((fail_if_success refine gp_lit rfl rfl rfl rfl ?_); first | apply gp_guard_dec rfl rfl rfl rfl | apply gp_guard rfl rfl rfl rfl | fail) | refine p_k (hln) ?_)
    | refine gp_two ?_ ?_ | refine gp_done hd hk ?_ | intro _ | refine p_ta hd hk (fun _ _ _ hd hk => ?_) | refine p_ts hd hk (fun _ hd hk => ?_))
  first
    | (refine g_ops ?_; first | refine sO ?_ | refine s_n (fun _ => ?_) | refine s_appB (fun _ _ => ?_) | refine s_app (fun _ _ => ?_) | refine s_b0 (fun _ => ?_) | ((fail_if_success refine g_lit rfl rfl rfl ?_); first | apply g_partM rfl rfl rfl | apply g_partMB rfl rfl rfl | fail))
    | refine gS ?_ | exact s_m | intro _
  refine g_as 24 (v' := .bool false) rfl (congrArg Value.bool (by simp [hlen])) ?_
  repeat (first
    | (refine g_ops ?_; first | refine sO ?_ | refine s_n (fun _ => ?_) | refine s_appB (fun _ _ => ?_) | refine s_app (fun _ _ => ?_) | refine s_b0 (fun _ => ?_) | ((fail_if_success refine g_lit rfl rfl rfl ?_); first | apply g_partM rfl rfl rfl | apply g_partMB rfl rfl rfl | fail) | refine s_k (hln) ?_ | refine s_k (hrr) ?_ | refine s_k (hb1) ?_ | refine s_k (hb2) ?_)
    | apply g_regB (id := 2) 33 | apply g_regB (id := 6) 4 | refine gS ?_ | exact s_m | intro _ | (refine gp_take ?_; first | refine pT ?_ | ((fail_if_success refine gp_lit rfl rfl rfl rfl ?_); first | apply gp_guard_dec rfl rfl rfl rfl | apply gp_guard rfl rfl rfl rfl | fail))
    | (refine gp_see ?_; first | refine p_f ?_ | refine pS ?_ | ((fail_if_success refine gp_lit rfl rfl rfl rfl ?_); first | apply gp_guard_dec rfl rfl rfl rfl | apply gp_guard rfl rfl rfl rfl | fail) | refine p_h (hln) hd hk ?_ | refine p_h (hrr) hd hk ?_ | refine p_h (hb1) hd hk ?_ | refine p_h (hb2) hd hk ?_)
    | (refine gp_one ?_; first | refine pO ?_ | refine p_n (fun _ => ?_) | refine p_appB (fun _ _ => ?_) | refine p_app (fun _ _ => ?_) | refine p_b0 (fun _ => ?_) | ((fail_if_success refine gp_lit rfl rfl rfl rfl ?_); first | apply gp_guard_dec rfl rfl rfl rfl | apply gp_guard rfl rfl rfl rfl | fail) | refine p_k (hln) ?_ | refine p_k (hrr) ?_ | refine p_k (hb1) ?_ | refine p_k (hb2) ?_)
    | refine gp_two ?_ ?_ | refine gp_done hd hk ?_ | intro _ | refine p_ta hd hk (fun _ _ _ hd hk => ?_) | refine p_ts hd hk (fun _ hd hk => ?_))
  exact gR H1 h1
end Go.Proofs.YtdldgbbhagpofaaGreatDoor

namespace Go.Proofs.YtdldgbbhagpofaaGreatDoor
open Go.Sl facts
attribute [local irreducible] Code.wp wpList Exit.then Exit.inBlock bodyPost Back MidQ G GP QStep VStep CStep SStep Does Post Reads
theorem round11 (p n : Int) (h : 0 < n) (hn : n ≤ 1000000000) : Does1 Tryz.prog 15 [int p, int n] [] (int (lf p n)) := by
  have hb := lf_in p n h
  refine fn_intro Tryz.func15 rfl Tryz.ntmps15 rfl (by simp only [argFr, Nat.zero_add, Nat.reduceAdd]; rfl) (fun Γ => ?_)
  repeat (first
    | (refine g_ops ?_; first | refine sO ?_ | refine s_n (fun _ => ?_) | refine s_appB (fun _ _ => ?_) | refine s_app (fun _ _ => ?_) | refine s_b0 (fun _ => ?_) | ((fail_if_success refine g_lit rfl rfl rfl ?_); first | apply g_partM rfl rfl rfl | apply g_partMB rfl rfl rfl | fail))
    | refine gS ?_ | exact s_m | intro _)
  refine s_q (q := by exact qs_rem rfl rfl (by omega)) ?_
  repeat (first
    | (refine g_ops ?_; first | refine sO ?_ | refine s_n (fun _ => ?_) | refine s_appB (fun _ _ => ?_) | refine s_app (fun _ _ => ?_) | refine s_b0 (fun _ => ?_) | ((fail_if_success refine g_lit rfl rfl rfl ?_); first | apply g_partM rfl rfl rfl | apply g_partMB rfl rfl rfl | fail))
    | refine gS ?_ | exact s_m | intro _)
  refine g_cond_dec rfl (fun h2 => ?_) (fun h2 => ?_)
  · have e : lf p n = p.tmod n + n := if_pos h2
    rw [e] at hb
    repeat (first
      | (refine g_ops ?_; first | refine sO ?_ | refine s_n (fun _ => ?_) | refine s_appB (fun _ _ => ?_) | refine s_app (fun _ _ => ?_) | refine s_b0 (fun _ => ?_) | ((fail_if_success refine g_lit rfl rfl rfl ?_); first | apply g_partM rfl rfl rfl | apply g_partMB rfl rfl rfl | fail))
      | refine gS ?_ | exact s_m | intro _)
    exact g_ret () rfl (by (repeat (first | exact RVs.nil | apply RVs.tmp rfl | apply RVs.cellA rfl (by (repeat (first | exact Sel.here | apply Sel.there)); first | done | fail) (by (repeat (first | exact Cut.zero | apply Cut.take | apply Cut.skip)); first | done | fail) | apply RVs.cell1 rfl (by (repeat (first | exact Sel.here | apply Sel.there)); first | done | fail) rfl)); first | done | fail) (by (repeat (first | exact Take.nil | apply Take.cons | exact Sel.here | apply Sel.there)); first | done | fail) (by simp [pack, e]) trivial
  · have e : lf p n = p.tmod n := if_neg h2
    repeat (first
      | (refine g_ops ?_; first | refine sO ?_ | refine s_n (fun _ => ?_) | refine s_appB (fun _ _ => ?_) | refine s_app (fun _ _ => ?_) | refine s_b0 (fun _ => ?_) | ((fail_if_success refine g_lit rfl rfl rfl ?_); first | apply g_partM rfl rfl rfl | apply g_partMB rfl rfl rfl | fail))
      | refine gS ?_ | exact s_m | intro _)
    exact g_ret () rfl (by (repeat (first | exact RVs.nil | apply RVs.tmp rfl | apply RVs.cellA rfl (by (repeat (first | exact Sel.here | apply Sel.there)); first | done | fail) (by (repeat (first | exact Cut.zero | apply Cut.take | apply Cut.skip)); first | done | fail) | apply RVs.cell1 rfl (by (repeat (first | exact Sel.here | apply Sel.there)); first | done | fail) rfl)); first | done | fail) (by (repeat (first | exact Take.nil | apply Take.cons | exact Sel.here | apply Sel.there)); first | done | fail) (by simp [pack, e]) trivial
end Go.Proofs.YtdldgbbhagpofaaGreatDoor
