/- Contracts and laws that the proof stands on. -/
import Derived.Test.YtfjkfcfmbipfhaaDiskPlays20
import Derived.Test.YtfjkfcfmbipfhaaDiskPlays7
import Derived.Test.YtfjkfcfmbipfhaaDiskPlays6
import Derived.Test.YtfjkfcfmbipfhaaDiskPlays22
set_option linter.unusedSimpArgs false
set_option linter.unusedVariables false
namespace Go.Sl
open Go
theorem slAt_of {W : World} {α : Type} {A : World → α → List Value → Prop} {n : Nat} {p : Option Addr} {xs : List α} {g : α → List Value} (hn : 0 < n) (hnil : p = none → xs = [])
    (h : ∀ (i : Nat) (x : α), xs[i]? = some x → ∃ b o c, p = some ⟨b, o, none⟩ ∧ A W x c ∧ c.length = n ∧ CellsAt W b (o + i * n) c) (hg : ∀ x c, A W x c → c.length = n → c = g x) (h1 : ∀ x, (g x).all (·.oneCell') = true) (hl : ∀ x, (g x).length = n) :
    SlAt (Init W) n p xs.length (xs.flatMap g) := by
  refine ⟨flat_len hl xs, ?_, fun e => by rw [hnil e]; rfl, fun j v hv => ?_⟩
  · rw [List.all_eq_true]
    intro v hv
    obtain ⟨x, _, hv⟩ := List.mem_flatMap.1 hv
    exact List.all_eq_true.1 (h1 x) v hv
  · have hj := (List.getElem?_eq_some_iff.1 hv).1
    rw [flat_len hl] at hj
    have hi : j / n < xs.length := Nat.div_lt_of_lt_mul (by rw [Nat.mul_comm]; exact hj)
    obtain ⟨b, o, c, rfl, ha, hc, hr⟩ := h (j / n) xs[j / n] (by simp [hi])
    refine ⟨b, o, rfl, reads_init' ?_⟩
    have e := hg _ _ ha hc
    have hd := Nat.div_add_mod j n
    have hv2 : c[j % n]? = some v := by
      rw [e]
      have h2 := Nat.mod_lt j hn
      have h3 : (g xs[j / n])[j % n]? = some ((g xs[j / n])[j % n]'(by rw [hl]; exact h2)) := List.getElem?_eq_getElem _
      have h4 := flat_get hl xs (j / n) xs[j / n] (by simp [hi]) (j % n) _ h3
      rw [show j / n * n + j % n = j by rw [Nat.mul_comm]; exact hd] at h4
      rw [h3, ← h4]; exact hv
    have := hr (j % n) v hv2
    rwa [Nat.add_assoc, show j / n * n + j % n = j by rw [Nat.mul_comm]; exact hd] at this
theorem sl_in {W : World} {α β : Type} {A : World → α → List Value → Prop} {n : Nat} {s : SliceOf α} {f : α → β} {g : β → List Value} {R : β → Prop} (hn : 0 < n)
    (h : s.xs.length ≤ s.cap ∧ s.cap ≤ maxLen ∧ (s.place = none → s.xs = [] ∧ s.cap = 0) ∧ (∀ (i : Nat) (x : α), s.xs[i]? = some x → ∃ b o c, s.place = some ⟨b, o, none⟩ ∧ A W x c ∧ c.length = n ∧ CellsAt W b (o + i * n) c))
    (hg : ∀ x c, A W x c → c = g (f x) ∧ R (f x)) (h1 : ∀ x, (g x).all (·.oneCell') = true) (hl : ∀ x, (g x).length = n) :
    SlAt (Init W) n s.place (s.xs.map f).length ((s.xs.map f).flatMap g) ∧ s.xs.length ≤ 9223372036854775807 ∧ ∀ y ∈ s.xs.map f, R y := by
  obtain ⟨g1, g2, g3, g4⟩ := h
  refine ⟨?_, ?_, fun y hy => ?_⟩
  · rw [List.length_map, List.flatMap_map]
    exact slAt_of (g := fun x => g (f x)) hn (fun e => (g3 e).1) g4 (fun x c hx _ => (hg x c hx).1) (fun x => h1 _) (fun x => hl _)
  · unfold maxLen at g2; omega
  · obtain ⟨x, hx, rfl⟩ := List.mem_map.1 hy
    obtain ⟨i, hi, rfl⟩ := List.mem_iff_getElem.1 hx
    obtain ⟨_, _, c, _, ha, _⟩ := g4 i _ (List.getElem?_eq_getElem hi)
    exact (hg _ _ ha).2
end Go.Sl
namespace Go.Proofs.Ytfjkfcfmbipfhaa
open Go Go.Sl facts
theorem ml {n : Nat} (h : n ≤ maxLen) : n ≤ 9223372036854775807 := by unfold maxLen at h; omega
structure StV where
  kind : Int
  a : ByteArray
  b : ByteArray
  n : Int
  pp : Option Addr
  pc : Nat
  ps : List Int
abbrev StV.cells (s : StV) : List Value := [int s.kind, .string s.a, .string s.b, int s.n, .slice s.pp s.ps.length s.pc]
theorem stv_len (s : StV) : s.cells.length = 5 := rfl
structure StepAt (C : Chunk) (s : StV) : Prop where
  ps : IntsAt C s.pp s.ps
  pc : s.ps.length ≤ s.pc
  z1 : s.a.size ≤ 9223372036854775807
  z2 : s.b.size ≤ 9223372036854775807
  z3 : s.ps.length ≤ 9223372036854775807
  z4 : inI s.n
structure StepsAt (C : Chunk) (p : Option Addr) (l : List StV) : Prop where
  sl : SlAt C 5 p l.length (l.flatMap StV.cells)
  at_ : ∀ x ∈ l, StepAt C x
theorem IntsAt.grow {H H' : HP} {p : Option Addr} {l : List Int} (h : IntsAt (Pile H) p l) (s : HP.sub H H') : IntsAt (Pile H') p l := fun i x hx => by
  obtain ⟨h1, b, o, h2, h3⟩ := h i x hx
  exact ⟨h1, b, o, h2, reads_grow s h3⟩
theorem StepAt.grow {H H' : HP} {x : StV} (h : StepAt (Pile H) x) (s : HP.sub H H') : StepAt (Pile H') x := ⟨h.ps.grow s, h.pc, h.z1, h.z2, h.z3, h.z4⟩
theorem StepsAt.grow {H H' : HP} {p : Option Addr} {l : List StV} (h : StepsAt (Pile H) p l) (s : HP.sub H H') : StepsAt (Pile H') p l := ⟨h.sl.grow s, fun x hx => (h.at_ x hx).grow s⟩
abbrev StpT := Int × ByteArray × ByteArray × Int × SliceOf Int × Unit
def stpT (x : StpT) : StV := ⟨x.1, x.2.1, x.2.2.1, x.2.2.2.1, x.2.2.2.2.1.place, x.2.2.2.2.1.cap, x.2.2.2.2.1.xs⟩
set_option synthInstance.maxHeartbeats 400000 in
set_option synthInstance.maxSize 1000 in
theorem stpT_of {W : World} {x : StpT} {c : List Value} (h : Opens.is (P := Try.prog) (t := 56) W x c) : c = (stpT x).cells ∧ StepAt (Init W) (stpT x) := by
  obtain ⟨h0, ⟨h1, _⟩, ⟨h2, g2⟩, ⟨h3, g3⟩, ⟨h4, g4⟩, ⟨h5, g5, g6, g7, g8⟩, _⟩ := h
  match c, h0 with
  | [c0, c1, c2, c3, c4], _ =>
    simp [SliceOf.val] at h1 h2 h3 h4 h5
    subst h1 h2 h3 h4 h5
    refine ⟨rfl, ⟨fun i y hy => ?_, g5, ml g2, ml g3, by have := ml g6; simp only [stpT]; omega, inI_of g4⟩⟩
    obtain ⟨b, o, c, e, hc, hl, g⟩ := g8 i y hy
    have hw : (Lit.int .i64 y).wf = true := hc.2
    refine ⟨inI_of hw, b, o, e, reads_init' ?_⟩
    have hc1 : c = [Value.int .i64 y] := hc.1
    have := g 0 (Value.int .i64 y) (by rw [hc1]; rfl)
    simpa using this
set_option synthInstance.maxHeartbeats 400000 in
set_option synthInstance.maxSize 1000 in
theorem stepsAt_of {W : World} {x : SliceOf StpT} {c : List Value} (h : Opens.is (P := Try.prog) (t := 48) W x c) : StepsAt (Init W) x.place (x.xs.map stpT) ∧ x.xs.length ≤ 9223372036854775807 := by
  obtain ⟨_, g⟩ := h
  obtain ⟨k1, k2, k3⟩ := sl_in (f := stpT) (R := StepAt (Init W)) (by decide) g (fun x c => stpT_of) (fun _ => rfl) stv_len
  exact ⟨⟨k1, k3⟩, k2⟩
end Go.Proofs.Ytfjkfcfmbipfhaa

namespace Go.Proofs.Ytfjkfcfmbipfhaa
open Go.Sl facts
def most : Int := 1099511627776
def sumF : Int → List Int → Int
  | n, [] => n
  | n, x :: l => if n > most ∨ x > most - n then most else sumF (n + x) l
theorem sumF_ge : ∀ (l : List Int) (n : Int), (∀ x ∈ l, 0 ≤ x) → n ≤ most → n ≤ sumF n l ∧ sumF n l ≤ most
  | [], n, _, h => ⟨Int.le_refl _, h⟩
  | x :: l, n, hl, h => by
    simp only [sumF]
    split
    · exact ⟨h, Int.le_refl _⟩
    · have hx := hl x (List.mem_cons_self ..)
      have := sumF_ge l (n + x) (fun y hy => hl y (List.mem_cons_of_mem _ hy)) (by omega)
      exact ⟨by omega, this.2⟩
theorem sumF_each : ∀ (l : List Int) (n : Int), (∀ x ∈ l, 0 ≤ x) → 0 ≤ n → n ≤ most → ∀ x ∈ l, sumF n l < most → x ≤ sumF n l
  | [], _, _, _, _, x, hx, _ => by cases hx
  | y :: l, n, hl, h0, h, x, hx, hs => by
    simp only [sumF] at hs ⊢
    split at hs
    · exact absurd hs (Int.lt_irrefl _)
    · rename_i hc
      rw [if_neg hc]
      have hy := hl y (List.mem_cons_self ..)
      have hge := sumF_ge l (n + y) (fun z hz => hl z (List.mem_cons_of_mem _ hz)) (by omega)
      rcases List.mem_cons.1 hx with rfl | hx
      · omega
      · exact sumF_each l (n + y) (fun z hz => hl z (List.mem_cons_of_mem _ hz)) (by omega) (by omega) x hx hs
theorem sumF_drop (l : List Int) (i : Nat) (n : Int) (h : i < l.length) : sumF n (l.drop i) = if n > most ∨ l[i] > most - n then most else sumF (n + l[i]) (l.drop (i + 1)) := by
  rw [List.drop_eq_getElem_cons h, sumF]
attribute [local irreducible] Code.wp wpList Exit.then Exit.inBlock bodyPost Back MidQ G GP QStep VStep CStep SStep Does Post Reads
attribute [local irreducible] sumF
theorem sum_any (C : Chunk) (b o cap : Nat) (n : Int) (l : List Int) (hn : 0 ≤ n ∧ n ≤ most) (hl : ∀ x ∈ l, 0 ≤ x ∧ x ≤ 9223372036854775807) (hlen : l.length ≤ 1000000) (hrs : ∀ i (h : i < l.length), Reads C ⟨b, o + i, none⟩ (.int .i64 l[i])) :
    Does1 Try.prog 39 [.int .i64 n, .slice (some ⟨b, o, none⟩) l.length cap] [C] (.int .i64 (sumF n l)) := by
  refine fn_intro Try.func39 rfl Try.ntmps39 rfl (by simp only [argFr, Nat.zero_add, Nat.reduceAdd]; rfl) (fun Γ => ?_)
  repeat (first
    | (refine g_ops ?_; first | refine s_q ?_ | refine s_v ?_ | refine s_s ?_ | refine s_n (fun _ => ?_) | refine s_x ?_ | refine s_y ?_ | ((fail_if_success refine g_lit rfl rfl rfl ?_); first | apply g_partM rfl rfl rfl | apply g_partMB rfl rfl rfl | fail))
    | apply g_regB (id := 4) 22 | refine g_seq ?_ | refine g_region ?_ | refine g_nil ?_ | refine g_then_normal ?_ | refine g_block ?_ | refine g_in_normal ?_
    | refine g_retc ?_ | refine g_then_ret ?_ | refine g_in_ret ?_ | refine g_exit ?_ | refine g_then_exit ?_ | refine g_in_exit ?_ | refine g_in_other rfl ?_
    | refine g_skip ?_ | refine g_label ?_ | refine g_cond_true rfl ?_ | refine g_cond_false rfl ?_ | exact s_m | intro _ | (refine gp_take ?_; first | refine p_q ?_ | refine p_x ?_ | ((fail_if_success refine gp_lit rfl rfl rfl rfl ?_); first | apply gp_guard_dec rfl rfl rfl rfl | apply gp_guard rfl rfl rfl rfl | fail))
    | (refine gp_see ?_; first | refine p_f ?_ | refine p_sx ?_ | ((fail_if_success refine gp_lit rfl rfl rfl rfl ?_); first | apply gp_guard_dec rfl rfl rfl rfl | apply gp_guard rfl rfl rfl rfl | fail) | refine p_sq ?_)
    | (refine gp_one ?_; first | refine p_v ?_ | refine p_s ?_ | refine p_n (fun _ => ?_) | refine p_y ?_ | ((fail_if_success refine gp_lit rfl rfl rfl rfl ?_); first | apply gp_guard_dec rfl rfl rfl rfl | apply gp_guard rfl rfl rfl rfl | fail))
    | refine gp_two ?_ ?_ | refine gp_done hd hk ?_ | intro _)
  refine g_loop (X := Nat × Int) (fun x => [(5, .int .i64 x.1), (4, .int .i64 0), (0, .int .i64 x.2), (1, .slice (some ⟨b, o, none⟩) l.length cap)]) (fun _ => [C]) (fun x => x.1 ≤ l.length ∧ 0 ≤ x.2 ∧ x.2 ≤ most ∧ sumF n l = sumF x.2 (l.drop x.1)) (fun x => l.length - x.1) (0, n) ⟨Nat.zero_le _, hn.1, hn.2, by simp⟩ (by (repeat (first | exact FrSub.nil | refine FrSub.cons rfl ?_)); first | done | fail) (by (repeat (first | exact Take.nil | apply Take.cons | exact Sel.here | apply Sel.there)); first | done | fail) (fun x hx => ?_)
  obtain ⟨i, m⟩ := x
  obtain ⟨hi, hm0, hm1, hs⟩ := hx
  simp only [] at hi hm0 hm1 hs
  have hmost : most = 1099511627776 := rfl
  dsimp only
  repeat (first
    | (refine g_ops ?_; first | refine s_q ?_ | refine s_v ?_ | refine s_s ?_ | refine s_n (fun _ => ?_) | refine s_x ?_ | refine s_y ?_ | ((fail_if_success refine g_lit rfl rfl rfl ?_); first | apply g_partM rfl rfl rfl | apply g_partMB rfl rfl rfl | fail))
    | apply g_regB (id := 4) 22 | refine g_seq ?_ | refine g_region ?_ | refine g_nil ?_ | refine g_then_normal ?_ | refine g_block ?_ | refine g_in_normal ?_
    | refine g_retc ?_ | refine g_then_ret ?_ | refine g_in_ret ?_ | refine g_exit ?_ | refine g_then_exit ?_ | refine g_in_exit ?_ | refine g_in_other rfl ?_
    | refine g_skip ?_ | refine g_label ?_ | refine g_cond_true rfl ?_ | refine g_cond_false rfl ?_ | exact s_m | intro _ | (refine gp_take ?_; first | refine p_q ?_ | refine p_x ?_ | ((fail_if_success refine gp_lit rfl rfl rfl rfl ?_); first | apply gp_guard_dec rfl rfl rfl rfl | apply gp_guard rfl rfl rfl rfl | fail))
    | (refine gp_see ?_; first | refine p_f ?_ | refine p_sx ?_ | ((fail_if_success refine gp_lit rfl rfl rfl rfl ?_); first | apply gp_guard_dec rfl rfl rfl rfl | apply gp_guard rfl rfl rfl rfl | fail) | refine p_sq ?_)
    | (refine gp_one ?_; first | refine p_v ?_ | refine p_s ?_ | refine p_n (fun _ => ?_) | refine p_y ?_ | ((fail_if_success refine gp_lit rfl rfl rfl rfl ?_); first | apply gp_guard_dec rfl rfl rfl rfl | apply gp_guard rfl rfl rfl rfl | fail))
    | refine gp_two ?_ ?_ | refine gp_done hd hk ?_ | intro _)
  refine g_cond_dec rfl (fun h1 => ?_) (fun h1 => ?_)
  · have hi' : i < l.length := by omega
    have hx := hl l[i] (List.getElem_mem _)
    have hr : ∀ (j : Nat), j = i → Reads C ⟨b, o + j, none⟩ (.int .i64 l[i]) := fun j e => by rw [e]; exact hrs i hi'
    rw [sumF_drop l i m hi'] at hs
    repeat (first
      | (refine g_ops ?_; first | refine s_q ?_ | refine s_v ?_ | refine s_s ?_ | refine s_n (fun _ => ?_) | refine s_x ?_ | refine s_y ?_ | ((fail_if_success refine g_lit rfl rfl rfl ?_); first | apply g_partM rfl rfl rfl | apply g_partMB rfl rfl rfl | fail))
      | apply g_regB (id := 4) 22 | refine g_seq ?_ | refine g_region ?_ | refine g_nil ?_ | refine g_then_normal ?_ | refine g_block ?_ | refine g_in_normal ?_
      | refine g_retc ?_ | refine g_then_ret ?_ | refine g_in_ret ?_ | refine g_exit ?_ | refine g_then_exit ?_ | refine g_in_exit ?_ | refine g_in_other rfl ?_
      | refine g_skip ?_ | refine g_label ?_ | refine g_cond_true rfl ?_ | refine g_cond_false rfl ?_ | exact s_m | intro _ | (refine gp_take ?_; first | refine p_q ?_ | refine p_x ?_ | ((fail_if_success refine gp_lit rfl rfl rfl rfl ?_); first | apply gp_guard_dec rfl rfl rfl rfl | apply gp_guard rfl rfl rfl rfl | fail))
      | (refine gp_see ?_; first | refine p_f ?_ | refine p_sx ?_ | ((fail_if_success refine gp_lit rfl rfl rfl rfl ?_); first | apply gp_guard_dec rfl rfl rfl rfl | apply gp_guard rfl rfl rfl rfl | fail) | refine p_sq ?_)
      | (refine gp_one ?_; first | refine p_v ?_ | refine p_s ?_ | refine p_n (fun _ => ?_) | refine p_y ?_ | ((fail_if_success refine gp_lit rfl rfl rfl rfl ?_); first | apply gp_guard_dec rfl rfl rfl rfl | apply gp_guard rfl rfl rfl rfl | fail))
      | refine gp_two ?_ ?_ | refine gp_done hd hk ?_ | intro _)
    refine g_cond rfl (fun h2 => ?_) (fun h2 => ?_)
    · have h3 : m > most ∨ l[i] > most - m := by simp at h2; omega
      rw [if_pos h3] at hs
      repeat (first
        | (refine g_ops ?_; first | refine s_q ?_ | refine s_v ?_ | refine s_s ?_ | refine s_n (fun _ => ?_) | refine s_x ?_ | refine s_y ?_ | ((fail_if_success refine g_lit rfl rfl rfl ?_); first | apply g_partM rfl rfl rfl | apply g_partMB rfl rfl rfl | fail))
        | apply g_regB (id := 4) 22 | refine g_seq ?_ | refine g_region ?_ | refine g_nil ?_ | refine g_then_normal ?_ | refine g_block ?_ | refine g_in_normal ?_
        | refine g_retc ?_ | refine g_then_ret ?_ | refine g_in_ret ?_ | refine g_exit ?_ | refine g_then_exit ?_ | refine g_in_exit ?_ | refine g_in_other rfl ?_
        | refine g_skip ?_ | refine g_label ?_ | refine g_cond_true rfl ?_ | refine g_cond_false rfl ?_ | exact s_m | intro _ | (refine gp_take ?_; first | refine p_q ?_ | refine p_x ?_ | ((fail_if_success refine gp_lit rfl rfl rfl rfl ?_); first | apply gp_guard_dec rfl rfl rfl rfl | apply gp_guard rfl rfl rfl rfl | fail))
        | (refine gp_see ?_; first | refine p_f ?_ | refine p_sx ?_ | ((fail_if_success refine gp_lit rfl rfl rfl rfl ?_); first | apply gp_guard_dec rfl rfl rfl rfl | apply gp_guard rfl rfl rfl rfl | fail) | refine p_sq ?_)
        | (refine gp_one ?_; first | refine p_v ?_ | refine p_s ?_ | refine p_n (fun _ => ?_) | refine p_y ?_ | ((fail_if_success refine gp_lit rfl rfl rfl rfl ?_); first | apply gp_guard_dec rfl rfl rfl rfl | apply gp_guard rfl rfl rfl rfl | fail))
        | refine gp_two ?_ ?_ | refine gp_done hd hk ?_ | intro _)
      exact s_r () (hp := by simp only [pack, hs]; rfl)
    · have h3 : ¬ (m > most ∨ l[i] > most - m) := by simp at h2; omega
      rw [if_neg h3] at hs
      repeat (first
        | (refine g_ops ?_; first | refine s_q ?_ | refine s_v ?_ | refine s_s ?_ | refine s_n (fun _ => ?_) | refine s_x ?_ | refine s_y ?_ | ((fail_if_success refine g_lit rfl rfl rfl ?_); first | apply g_partM rfl rfl rfl | apply g_partMB rfl rfl rfl | fail))
        | apply g_regB (id := 4) 22 | refine g_seq ?_ | refine g_region ?_ | refine g_nil ?_ | refine g_then_normal ?_ | refine g_block ?_ | refine g_in_normal ?_
        | refine g_retc ?_ | refine g_then_ret ?_ | refine g_in_ret ?_ | refine g_exit ?_ | refine g_then_exit ?_ | refine g_in_exit ?_ | refine g_in_other rfl ?_
        | refine g_skip ?_ | refine g_label ?_ | refine g_cond_true rfl ?_ | refine g_cond_false rfl ?_ | exact s_m | intro _ | (refine gp_take ?_; first | refine p_q ?_ | refine p_x ?_ | ((fail_if_success refine gp_lit rfl rfl rfl rfl ?_); first | apply gp_guard_dec rfl rfl rfl rfl | apply gp_guard rfl rfl rfl rfl | fail))
        | (refine gp_see ?_; first | refine p_f ?_ | refine p_sx ?_ | ((fail_if_success refine gp_lit rfl rfl rfl rfl ?_); first | apply gp_guard_dec rfl rfl rfl rfl | apply gp_guard rfl rfl rfl rfl | fail) | refine p_sq ?_)
        | (refine gp_one ?_; first | refine p_v ?_ | refine p_s ?_ | refine p_n (fun _ => ?_) | refine p_y ?_ | ((fail_if_success refine gp_lit rfl rfl rfl rfl ?_); first | apply gp_guard_dec rfl rfl rfl rfl | apply gp_guard rfl rfl rfl rfl | fail))
        | refine gp_two ?_ ?_ | refine gp_done hd hk ?_ | intro _)
      exact g_again (i + 1, m + l[i]) (by simp only []; omega) ⟨hi', by simp only []; omega, by simp only []; omega, hs⟩ (by (repeat (first | exact FrSub.nil | refine FrSub.cons rfl ?_)); first | done | fail) (by (repeat (first | exact Take.nil | apply Take.cons | exact Sel.here | apply Sel.there)); first | done | fail)
  · have hi' : i = l.length := by omega
    subst hi'
    rw [List.drop_length] at hs
    repeat (first
      | (refine g_ops ?_; first | refine s_q ?_ | refine s_v ?_ | refine s_s ?_ | refine s_n (fun _ => ?_) | refine s_x ?_ | refine s_y ?_ | ((fail_if_success refine g_lit rfl rfl rfl ?_); first | apply g_partM rfl rfl rfl | apply g_partMB rfl rfl rfl | fail))
      | apply g_regB (id := 4) 22 | refine g_seq ?_ | refine g_region ?_ | refine g_nil ?_ | refine g_then_normal ?_ | refine g_block ?_ | refine g_in_normal ?_
      | refine g_retc ?_ | refine g_then_ret ?_ | refine g_in_ret ?_ | refine g_exit ?_ | refine g_then_exit ?_ | refine g_in_exit ?_ | refine g_in_other rfl ?_
      | refine g_skip ?_ | refine g_label ?_ | refine g_cond_true rfl ?_ | refine g_cond_false rfl ?_ | exact s_m | intro _ | (refine gp_take ?_; first | refine p_q ?_ | refine p_x ?_ | ((fail_if_success refine gp_lit rfl rfl rfl rfl ?_); first | apply gp_guard_dec rfl rfl rfl rfl | apply gp_guard rfl rfl rfl rfl | fail))
      | (refine gp_see ?_; first | refine p_f ?_ | refine p_sx ?_ | ((fail_if_success refine gp_lit rfl rfl rfl rfl ?_); first | apply gp_guard_dec rfl rfl rfl rfl | apply gp_guard rfl rfl rfl rfl | fail) | refine p_sq ?_)
      | (refine gp_one ?_; first | refine p_v ?_ | refine p_s ?_ | refine p_n (fun _ => ?_) | refine p_y ?_ | ((fail_if_success refine gp_lit rfl rfl rfl rfl ?_); first | apply gp_guard_dec rfl rfl rfl rfl | apply gp_guard rfl rfl rfl rfl | fail))
      | refine gp_two ?_ ?_ | refine gp_done hd hk ?_ | intro _)
    exact s_r () (hp := by simp only [pack, hs, sumF])
theorem sum_row (b cap : Nat) (e : TypeId) (n : Int) (l : List Int) (hn : 0 ≤ n ∧ n ≤ most) (hl : ∀ x ∈ l, 0 ≤ x ∧ x ≤ 9223372036854775807) (hlen : l.length ≤ 1000000) :
    Does1 Try.prog 39 [.int .i64 n, .slice (some ⟨b, 0, none⟩) l.length cap] [.row b (l.map (.int .i64 ·)) e] (.int .i64 (sumF n l)) :=
  sum_any _ b 0 cap n l hn hl hlen (fun i h => reads_row (by simp [h]))
end Go.Proofs.Ytfjkfcfmbipfhaa

namespace Go.Proofs.Ytfjkfcfmbipfhaa
open Go.Sl facts
attribute [local irreducible] Code.wp wpList Exit.then Exit.inBlock bodyPost Back MidQ G GP QStep VStep CStep SStep Does Post Reads
def letAt (j : Int) (i : Nat) : UInt8 := UInt8.ofNat (97 + lf ((i : Int) * i + j) 26).toNat
def lettersL (n : Nat) (j : Int) : List UInt8 := (List.range n).map (letAt j)
theorem lettersL_len (n : Nat) (j : Int) : (lettersL n j).length = n := by simp [lettersL]
theorem letters_next (n i : Nat) (j : Int) (h : i < n) : (lettersL i j ++ List.replicate (n - i) 0).set i (letAt j i) = lettersL (i + 1) j ++ List.replicate (n - (i + 1)) 0 := by
  have e : n - i = (n - (i + 1)) + 1 := by omega
  rw [e, List.replicate_succ, List.set_append_right _ _ (by rw [lettersL_len]; exact Nat.le_refl _), lettersL_len, Nat.sub_self, List.set_cons_zero]
  simp only [lettersL, List.range_succ, List.map_append, List.map_cons, List.map_nil, List.append_assoc, List.cons_append, List.nil_append]
theorem letters2 (z : Int) (j : Int) (hn : inI z ∧ z ≤ 100000) (hj : 0 ≤ j ∧ j ≤ 1000000) : Does1 Try.prog 20 [int z, int j] [] (.string ⟨(lettersL z.toNat j).toArray⟩) := by
  obtain ⟨n, hnz⟩ : ∃ n, z.toNat = n := ⟨_, rfl⟩
  rw [hnz]
  have hn2 : n ≤ 100000 := by omega
  refine fn_intro Try.func20 rfl Try.ntmps20 rfl (by simp only [argFr, Nat.zero_add, Nat.reduceAdd]; rfl) (fun Γ => ?_)
  repeat (first
    | (refine g_ops ?_; first | refine s_q ?_ | refine s_v ?_ | refine s_s ?_ | refine s_n (fun _ => ?_) | refine s_x ?_ | refine s_y ?_ | refine s_mq ?_ | refine s_app (fun _ _ => ?_) | refine s_mv ?_ | refine s_ms ?_ | refine s_b0 (fun _ => ?_) | ((fail_if_success refine g_lit rfl rfl rfl ?_); first | apply g_partM rfl rfl rfl | apply g_partMB rfl rfl rfl | fail))
    | refine g_seq ?_ | refine g_region ?_ | refine g_nil ?_ | refine g_then_normal ?_ | refine g_block ?_ | refine g_in_normal ?_ | refine g_retc ?_ | refine g_then_ret ?_
    | refine g_in_ret ?_ | refine g_exit ?_ | refine g_then_exit ?_ | refine g_in_exit ?_ | refine g_in_other rfl ?_ | refine g_skip ?_ | refine g_label ?_
    | refine g_cond_true rfl ?_ | refine g_cond_false rfl ?_ | exact s_m | intro _)
  refine s_q (q := by exact qs_max rfl rfl) ?_
  refine g_as 8 (v' := int (n : Int)) rfl (congrArg (Value.int .i64) (by split <;> omega)) ?_
  refine g_c (cs_make8 (m := n) inferInstance inferInstance inferInstance inferInstance rfl rfl (by omega) (by decide)) rfl rfl (fun b _ => ?_)
  repeat (first
    | (refine g_ops ?_; first | refine s_q ?_ | refine s_v ?_ | refine s_s ?_ | refine s_n (fun _ => ?_) | refine s_x ?_ | refine s_y ?_ | refine s_mq ?_ | refine s_app (fun _ _ => ?_) | refine s_mv ?_ | refine s_ms ?_ | refine s_b0 (fun _ => ?_) | ((fail_if_success refine g_lit rfl rfl rfl ?_); first | apply g_partM rfl rfl rfl | apply g_partMB rfl rfl rfl | fail))
    | refine g_seq ?_ | refine g_region ?_ | refine g_nil ?_ | refine g_then_normal ?_ | refine g_block ?_ | refine g_in_normal ?_ | refine g_retc ?_ | refine g_then_ret ?_
    | refine g_in_ret ?_ | refine g_exit ?_ | refine g_then_exit ?_ | refine g_in_exit ?_ | refine g_in_other rfl ?_ | refine g_skip ?_ | refine g_label ?_
    | refine g_cond_true rfl ?_ | refine g_cond_false rfl ?_ | exact s_m | intro _)
  refine g_loop (X := Nat) (fun i => [(1, int j), (5, .slice (some ⟨b, 0, none⟩) n n), (6, int i)]) (fun i => [.own (some ⟨b, 0, none⟩) n n 1 (cells8 (lettersL i j ++ List.replicate (n - i) 0)) 5]) (fun i => i ≤ n) (fun i => n - i) 0 (Nat.zero_le _) (by (repeat (first | exact FrSub.nil | refine FrSub.cons rfl ?_)); first | done | fail) (by (repeat (first | exact Take.nil | apply Take.cons | exact Sel.here | apply Sel.there)); first | done | fail) (fun i hi => ?_)
  have hl : (lettersL i j ++ List.replicate (n - i) 0).length = n := by rw [List.length_append, lettersL_len, List.length_replicate]; omega
  repeat (first
    | (refine g_ops ?_; first | refine s_q ?_ | refine s_v ?_ | refine s_s ?_ | refine s_n (fun _ => ?_) | refine s_x ?_ | refine s_y ?_ | refine s_mq ?_ | refine s_app (fun _ _ => ?_) | refine s_mv ?_ | refine s_ms ?_ | refine s_b0 (fun _ => ?_) | ((fail_if_success refine g_lit rfl rfl rfl ?_); first | apply g_partM rfl rfl rfl | apply g_partMB rfl rfl rfl | fail))
    | refine g_seq ?_ | refine g_region ?_ | refine g_nil ?_ | refine g_then_normal ?_ | refine g_block ?_ | refine g_in_normal ?_ | refine g_retc ?_ | refine g_then_ret ?_
    | refine g_in_ret ?_ | refine g_exit ?_ | refine g_then_exit ?_ | refine g_in_exit ?_ | refine g_in_other rfl ?_ | refine g_skip ?_ | refine g_label ?_
    | refine g_cond_true rfl ?_ | refine g_cond_false rfl ?_ | exact s_m | intro _)
  refine g_cond_dec rfl (fun h => ?_) (fun h => ?_)
  · have hi2 : i < n := by omega
    have hsq : (i : Int) * i ≤ 10000000000 := by
      have := Int.mul_le_mul (show (i : Int) ≤ 100000 by omega) (show (i : Int) ≤ 100000 by omega) (by omega) (by omega)
      omega
    have hsq0 : 0 ≤ (i : Int) * i := Int.mul_nonneg (by omega) (by omega)
    have hlf := lf_in ((i : Int) * i + j) 26 (by decide)
    have hnx := letters_next n i j hi2
    have hbt : letAt j i = UInt8.ofNat (97 + lf ((i : Int) * i + j) 26).toNat := rfl
    generalize letAt j i = bt at hnx hbt
    generalize hsqv : (i : Int) * i = sq at hsq hsq0 hlf hbt
    generalize lettersL i j ++ List.replicate (n - i) 0 = l at hl hnx ⊢
    repeat ((fail_if_success refine s_at 20 ?_); first
      | (refine g_ops ?_; first | refine s_q ?_ | refine s_v ?_ | refine s_s ?_ | refine s_n (fun _ => ?_) | refine s_x ?_ | refine s_y ?_ | refine s_mq ?_ | refine s_app (fun _ _ => ?_) | refine s_mv ?_ | refine s_ms ?_ | refine s_b0 (fun _ => ?_) | ((fail_if_success refine g_lit rfl rfl rfl ?_); first | apply g_partM rfl rfl rfl | apply g_partMB rfl rfl rfl | fail))
      | refine g_seq ?_ | refine g_region ?_ | refine g_nil ?_ | refine g_then_normal ?_ | refine g_block ?_ | refine g_in_normal ?_ | refine g_retc ?_
      | refine g_then_ret ?_ | refine g_in_ret ?_ | refine g_exit ?_ | refine g_then_exit ?_ | refine g_in_exit ?_ | refine g_in_other rfl ?_ | refine g_skip ?_
      | refine g_label ?_ | refine g_cond_true rfl ?_ | refine g_cond_false rfl ?_ | exact s_m | intro _)
    refine s_q (q := by exact qs_mulI rfl rfl ⟨by omega, by omega⟩) ?_
    refine g_as 20 (v' := int sq) rfl (congrArg (Value.int .i64) hsqv) ?_
    repeat (first
      | (refine g_ops ?_; first | refine s_q ?_ | refine s_v ?_ | refine s_s ?_ | refine s_n (fun _ => ?_) | refine s_x ?_ | refine s_y ?_ | refine s_mq ?_ | refine s_app (fun _ _ => ?_) | refine s_mv ?_ | refine s_ms ?_ | refine s_b0 (fun _ => ?_) | ((fail_if_success refine g_lit rfl rfl rfl ?_); first | apply g_partM rfl rfl rfl | apply g_partMB rfl rfl rfl | fail) | refine s_p (round (sq + j) 26 (by decide) (by decide)) ?_)
      | refine g_seq ?_ | refine g_region ?_ | refine g_nil ?_ | refine g_then_normal ?_ | refine g_block ?_ | refine g_in_normal ?_ | refine g_retc ?_
      | refine g_then_ret ?_ | refine g_in_ret ?_ | refine g_exit ?_ | refine g_then_exit ?_ | refine g_in_exit ?_ | refine g_in_other rfl ?_ | refine g_skip ?_
      | refine g_label ?_ | refine g_cond_true rfl ?_ | refine g_cond_false rfl ?_ | exact s_m | intro _)
    refine s_q (q := by exact qs_convInt rfl) ?_
    refine g_as 25 (v' := .int .u8 (bt.toNat : Int)) rfl (congrArg (Value.int .u8) (by
      rw [wrap_u8 ⟨by omega, by omega⟩, hbt]
      simp
      omega)) ?_
    refine s_q (q := by exact qs_indexSlice1 rfl rfl hi2) ?_
    refine g_s (ss_storeOwn inferInstance rfl rfl rfl (by (repeat (first | exact Sel.here | apply Sel.there)); first | done | fail) (by rw [cells8_len]; omega)) rfl ?_
    rw [Nat.zero_add, cells8_set, hnx]
    repeat (first
      | (refine g_ops ?_; first | refine s_q ?_ | refine s_v ?_ | refine s_s ?_ | refine s_n (fun _ => ?_) | refine s_x ?_ | refine s_y ?_ | refine s_mq ?_ | refine s_app (fun _ _ => ?_) | refine s_mv ?_ | refine s_ms ?_ | refine s_b0 (fun _ => ?_) | ((fail_if_success refine g_lit rfl rfl rfl ?_); first | apply g_partM rfl rfl rfl | apply g_partMB rfl rfl rfl | fail))
      | refine g_seq ?_ | refine g_region ?_ | refine g_nil ?_ | refine g_then_normal ?_ | refine g_block ?_ | refine g_in_normal ?_ | refine g_retc ?_
      | refine g_then_ret ?_ | refine g_in_ret ?_ | refine g_exit ?_ | refine g_then_exit ?_ | refine g_in_exit ?_ | refine g_in_other rfl ?_ | refine g_skip ?_
      | refine g_label ?_ | refine g_cond_true rfl ?_ | refine g_cond_false rfl ?_ | exact s_m | intro _)
    exact g_again (i + 1) (by omega) (by omega) (by (repeat (first | exact FrSub.nil | refine FrSub.cons rfl ?_)); first | done | fail) (by (repeat (first | exact Take.nil | apply Take.cons | exact Sel.here | apply Sel.there)); first | done | fail)
  · obtain rfl : i = n := by omega
    rw [Nat.sub_self, List.replicate_zero, List.append_nil] at hl ⊢
    generalize lettersL i j = l at hl ⊢
    subst hl
    repeat (first
      | (refine g_ops ?_; first | refine s_q ?_ | refine s_v ?_ | refine s_s ?_ | refine s_n (fun _ => ?_) | refine s_x ?_ | refine s_y ?_ | refine s_mq ?_ | refine s_app (fun _ _ => ?_) | refine s_mv ?_ | refine s_ms ?_ | refine s_b0 (fun _ => ?_) | ((fail_if_success refine g_lit rfl rfl rfl ?_); first | apply g_partM rfl rfl rfl | apply g_partMB rfl rfl rfl | fail))
      | refine g_seq ?_ | refine g_region ?_ | refine g_nil ?_ | refine g_then_normal ?_ | refine g_block ?_ | refine g_in_normal ?_ | refine g_retc ?_
      | refine g_then_ret ?_ | refine g_in_ret ?_ | refine g_exit ?_ | refine g_then_exit ?_ | refine g_in_exit ?_ | refine g_in_other rfl ?_ | refine g_skip ?_
      | refine g_label ?_ | refine g_cond_true rfl ?_ | refine g_cond_false rfl ?_ | exact s_m | intro _)
    refine g_v (vs_bytesStr inferInstance inferInstance inferInstance rfl (by (repeat (first | exact Sel.here | apply Sel.there)); first | done | fail)) rfl rfl ?_
    repeat (first
      | (refine g_ops ?_; first | refine s_q ?_ | refine s_v ?_ | refine s_s ?_ | refine s_n (fun _ => ?_) | refine s_x ?_ | refine s_y ?_ | refine s_mq ?_ | refine s_app (fun _ _ => ?_) | refine s_mv ?_ | refine s_ms ?_ | refine s_b0 (fun _ => ?_) | ((fail_if_success refine g_lit rfl rfl rfl ?_); first | apply g_partM rfl rfl rfl | apply g_partMB rfl rfl rfl | fail))
      | refine g_seq ?_ | refine g_region ?_ | refine g_nil ?_ | refine g_then_normal ?_ | refine g_block ?_ | refine g_in_normal ?_ | refine g_retc ?_
      | refine g_then_ret ?_ | refine g_in_ret ?_ | refine g_exit ?_ | refine g_then_exit ?_ | refine g_in_exit ?_ | refine g_in_other rfl ?_ | refine g_skip ?_
      | refine g_label ?_ | refine g_cond_true rfl ?_ | refine g_cond_false rfl ?_ | exact s_m | intro _)
    exact g_ret () rfl (by (repeat (first | exact RVs.nil | apply RVs.tmp rfl | apply RVs.cellA rfl (by (repeat (first | exact Sel.here | apply Sel.there)); first | done | fail) (by (repeat (first | exact Cut.zero | apply Cut.take | apply Cut.skip)); first | done | fail) | apply RVs.cell1 rfl (by (repeat (first | exact Sel.here | apply Sel.there)); first | done | fail) rfl)); first | done | fail) (by (repeat (first | exact Take.nil | apply Take.cons | exact Sel.here | apply Sel.there)); first | done | fail) rfl trivial
theorem bytes2 (z : Int) (j : Int) (hn : inI z ∧ z ≤ 100000) (hj : 0 ≤ j ∧ j ≤ 1000000) : Does Try.prog 11 [int z, int j] [] (X := BsX) (fun x => .slice (some ⟨x.b, 0, none⟩) x.l.length x.cap) (fun x => [x.C]) (fun x => x.l = lettersL z.toNat j ∧ x.l.length ≤ x.cap) := by
  have hle := letters2 z j hn hj
  generalize lettersL z.toNat j = l at hle ⊢
  refine fn_intro Try.func11 rfl Try.ntmps11 rfl (by simp only [argFr, Nat.zero_add, Nat.reduceAdd]; rfl) (fun Γ => ?_)
  repeat (first
    | (refine g_ops ?_; first | refine s_q ?_ | refine s_v ?_ | refine s_s ?_ | refine s_n (fun _ => ?_) | refine s_x ?_ | refine s_y ?_ | refine s_mq ?_ | refine s_app (fun _ _ => ?_) | refine s_mv ?_ | refine s_ms ?_ | refine s_b0 (fun _ => ?_) | ((fail_if_success refine g_lit rfl rfl rfl ?_); first | apply g_partM rfl rfl rfl | apply g_partMB rfl rfl rfl | fail) | refine s_p (hle) ?_)
    | refine g_seq ?_ | refine g_region ?_ | refine g_nil ?_ | refine g_then_normal ?_ | refine g_block ?_ | refine g_in_normal ?_ | refine g_retc ?_ | refine g_then_ret ?_
    | refine g_in_ret ?_ | refine g_exit ?_ | refine g_then_exit ?_ | refine g_in_exit ?_ | refine g_in_other rfl ?_ | refine g_skip ?_ | refine g_label ?_
    | refine g_cond_true rfl ?_ | refine g_cond_false rfl ?_ | exact s_m | intro _)
  refine g_c (cs_strBytes inferInstance inferInstance inferInstance rfl) rfl rfl (fun x hx => ?_)
  obtain ⟨b, cap⟩ := x
  have hsz : ByteArray.size ⟨l.toArray⟩ = l.length := by simp [ByteArray.size]
  dsimp only at hx ⊢
  rw [hsz] at hx
  rw [hsz]
  repeat (first
    | (refine g_ops ?_; first | refine s_q ?_ | refine s_v ?_ | refine s_s ?_ | refine s_n (fun _ => ?_) | refine s_x ?_ | refine s_y ?_ | refine s_mq ?_ | refine s_app (fun _ _ => ?_) | refine s_mv ?_ | refine s_ms ?_ | refine s_b0 (fun _ => ?_) | ((fail_if_success refine g_lit rfl rfl rfl ?_); first | apply g_partM rfl rfl rfl | apply g_partMB rfl rfl rfl | fail))
    | refine g_seq ?_ | refine g_region ?_ | refine g_nil ?_ | refine g_then_normal ?_ | refine g_block ?_ | refine g_in_normal ?_ | refine g_retc ?_ | refine g_then_ret ?_
    | refine g_in_ret ?_ | refine g_exit ?_ | refine g_then_exit ?_ | refine g_in_exit ?_ | refine g_in_other rfl ?_ | refine g_skip ?_ | refine g_label ?_
    | refine g_cond_true rfl ?_ | refine g_cond_false rfl ?_ | exact s_m | intro _)
  exact g_ret (⟨b, cap, l⟩ : BsX) rfl (by (repeat (first | exact RVs.nil | apply RVs.tmp rfl | apply RVs.cellA rfl (by (repeat (first | exact Sel.here | apply Sel.there)); first | done | fail) (by (repeat (first | exact Cut.zero | apply Cut.take | apply Cut.skip)); first | done | fail) | apply RVs.cell1 rfl (by (repeat (first | exact Sel.here | apply Sel.there)); first | done | fail) rfl)); first | done | fail) (by (repeat (first | exact Take.nil | apply Take.cons | exact Sel.here | apply Sel.there)); first | done | fail) rfl ⟨rfl, hx⟩
theorem texts (q q' : Option Addr) (c c' : Nat) (l : List ByteArray) (n : Nat) (hn : l.length = n) (hb : n ≤ 1000000) : Does1 Try.prog 49 [.slice q n c, .slice q' n c'] [.own q n c 1 (l.map .string) 9, .own q' n c' 1 (l.map .string) 9] (.bool true) := by
  subst hn
  refine fn_intro Try.func49 rfl Try.ntmps49 rfl (by simp only [argFr, Nat.zero_add, Nat.reduceAdd]; rfl) (fun Γ => ?_)
  refine g_own (n := 1) (xs := l.map .string) .here (fun _ _ hp => ?_)
  refine g_own (p := q') (n := 1) (xs := l.map .string) (.there .here) (fun _ _ hp2 => ?_)
  repeat (first
    | (refine g_ops ?_; first | refine s_q ?_ | refine s_v ?_ | refine s_s ?_ | refine s_n (fun _ => ?_) | refine s_x ?_ | refine s_y ?_ | refine s_mq ?_ | refine s_app (fun _ _ => ?_) | refine s_mv ?_ | refine s_ms ?_ | refine s_b0 (fun _ => ?_) | ((fail_if_success refine g_lit rfl rfl rfl ?_); first | apply g_partM rfl rfl rfl | apply g_partMB rfl rfl rfl | fail))
    | refine g_seq ?_ | refine g_region ?_ | refine g_nil ?_ | refine g_then_normal ?_ | refine g_block ?_ | refine g_in_normal ?_ | refine g_retc ?_ | refine g_then_ret ?_
    | refine g_in_ret ?_ | refine g_exit ?_ | refine g_then_exit ?_ | refine g_in_exit ?_ | refine g_in_other rfl ?_ | refine g_skip ?_ | refine g_label ?_
    | refine g_cond_true rfl ?_ | refine g_cond_false rfl ?_ | exact s_m | intro _)
  refine g_cond_dec rfl (fun h => absurd rfl h) (fun _ => ?_)
  repeat (first
    | (refine g_ops ?_; first | refine s_q ?_ | refine s_v ?_ | refine s_s ?_ | refine s_n (fun _ => ?_) | refine s_x ?_ | refine s_y ?_ | refine s_mq ?_ | refine s_app (fun _ _ => ?_) | refine s_mv ?_ | refine s_ms ?_ | refine s_b0 (fun _ => ?_) | ((fail_if_success refine g_lit rfl rfl rfl ?_); first | apply g_partM rfl rfl rfl | apply g_partMB rfl rfl rfl | fail))
    | refine g_seq ?_ | refine g_region ?_ | refine g_nil ?_ | refine g_then_normal ?_ | refine g_block ?_ | refine g_in_normal ?_ | refine g_retc ?_ | refine g_then_ret ?_
    | refine g_in_ret ?_ | refine g_exit ?_ | refine g_then_exit ?_ | refine g_in_exit ?_ | refine g_in_other rfl ?_ | refine g_skip ?_ | refine g_label ?_
    | refine g_cond_true rfl ?_ | refine g_cond_false rfl ?_ | exact s_m | intro _)
  refine g_loop (X := Nat) (fun i => [(0, .slice q l.length c), (1, .slice q' l.length c'), (5, .int .i64 i)]) (fun _ => [.own q l.length c 1 (l.map .string) 9, .own q' l.length c' 1 (l.map .string) 9]) (fun i => i ≤ l.length) (fun i => l.length - i) 0 (Nat.zero_le _) (by (repeat (first | exact FrSub.nil | refine FrSub.cons rfl ?_)); first | done | fail) (by (repeat (first | exact Take.nil | apply Take.cons | exact Sel.here | apply Sel.there)); first | done | fail) (fun i hi => ?_)
  repeat (first
    | (refine g_ops ?_; first | refine s_q ?_ | refine s_v ?_ | refine s_s ?_ | refine s_n (fun _ => ?_) | refine s_x ?_ | refine s_y ?_ | refine s_mq ?_ | refine s_app (fun _ _ => ?_) | refine s_mv ?_ | refine s_ms ?_ | refine s_b0 (fun _ => ?_) | ((fail_if_success refine g_lit rfl rfl rfl ?_); first | apply g_partM rfl rfl rfl | apply g_partMB rfl rfl rfl | fail))
    | refine g_seq ?_ | refine g_region ?_ | refine g_nil ?_ | refine g_then_normal ?_ | refine g_block ?_ | refine g_in_normal ?_ | refine g_retc ?_ | refine g_then_ret ?_
    | refine g_in_ret ?_ | refine g_exit ?_ | refine g_then_exit ?_ | refine g_in_exit ?_ | refine g_in_other rfl ?_ | refine g_skip ?_ | refine g_label ?_
    | refine g_cond_true rfl ?_ | refine g_cond_false rfl ?_ | exact s_m | intro _)
  refine g_cond_dec rfl (fun h => ?_) (fun h => ?_)
  · have hi' : i < l.length := by omega
    obtain ⟨b, rfl⟩ := hp (by omega)
    obtain ⟨b2, rfl⟩ := hp2 (by omega)
    have hr : ∀ j, j = i → Reads (.own (some ⟨b, 0, none⟩) l.length c 1 (l.map .string) 9) ⟨b, 0 + j, none⟩ (.string l[i]) := fun j e => by
      subst e; rw [Nat.zero_add]; exact reads_own (by simp [hi'])
    have hr2 : ∀ j, j = i → Reads (.own (some ⟨b2, 0, none⟩) l.length c' 1 (l.map .string) 9) ⟨b2, 0 + j, none⟩ (.string l[i]) := fun j e => by
      subst e; rw [Nat.zero_add]; exact reads_own (by simp [hi'])
    generalize l[i] = s at hr hr2
    repeat (first
      | (refine g_ops ?_; first | refine s_q ?_ | refine s_v ?_ | refine s_s ?_ | refine s_n (fun _ => ?_) | refine s_x ?_ | refine s_y ?_ | refine s_mq ?_ | refine s_app (fun _ _ => ?_) | refine s_mv ?_ | refine s_ms ?_ | refine s_b0 (fun _ => ?_) | ((fail_if_success refine g_lit rfl rfl rfl ?_); first | apply g_partM rfl rfl rfl | apply g_partMB rfl rfl rfl | fail))
      | refine g_seq ?_ | refine g_region ?_ | refine g_nil ?_ | refine g_then_normal ?_ | refine g_block ?_ | refine g_in_normal ?_ | refine g_retc ?_
      | refine g_then_ret ?_ | refine g_in_ret ?_ | refine g_exit ?_ | refine g_then_exit ?_ | refine g_in_exit ?_ | refine g_in_other rfl ?_ | refine g_skip ?_
      | refine g_label ?_ | refine g_cond_true rfl ?_ | refine g_cond_false rfl ?_ | exact s_m | intro _)
    refine g_draw (.take 0 (.take 1 (.take 2 (.see 3 [] (.take 4 (.take 5 (.take 6 (.see 7 [] (.take 8 .done))))))))) (by kernel_rfl) (take_all _) (fun k hd hk => ?_)
    repeat (first
      | (refine gp_take ?_; first | refine p_q ?_ | refine p_x ?_ | refine p_mq ?_ | ((fail_if_success refine gp_lit rfl rfl rfl rfl ?_); first | apply gp_guard_dec rfl rfl rfl rfl | apply gp_guard rfl rfl rfl rfl | fail))
      | (refine gp_see ?_; first | refine p_f ?_ | refine p_sx ?_ | ((fail_if_success refine gp_lit rfl rfl rfl rfl ?_); first | apply gp_guard_dec rfl rfl rfl rfl | apply gp_guard rfl rfl rfl rfl | fail) | refine p_sq ?_)
      | (refine gp_one ?_; first | refine p_v ?_ | refine p_s ?_ | refine p_n (fun _ => ?_) | refine p_y ?_ | refine p_app (fun _ _ => ?_) | refine p_mv ?_ | refine p_ms ?_ | refine p_b0 (fun _ => ?_) | ((fail_if_success refine gp_lit rfl rfl rfl rfl ?_); first | apply gp_guard_dec rfl rfl rfl rfl | apply gp_guard rfl rfl rfl rfl | fail))
      | refine gp_two ?_ ?_ | refine gp_done hd hk ?_ | intro _ | refine p_ta hd hk (fun _ _ _ hd hk => ?_) | refine p_ts hd hk (fun _ hd hk => ?_))
    repeat (first
      | (refine g_ops ?_; first | refine s_q ?_ | refine s_v ?_ | refine s_s ?_ | refine s_n (fun _ => ?_) | refine s_x ?_ | refine s_y ?_ | refine s_mq ?_ | refine s_app (fun _ _ => ?_) | refine s_mv ?_ | refine s_ms ?_ | refine s_b0 (fun _ => ?_) | ((fail_if_success refine g_lit rfl rfl rfl ?_); first | apply g_partM rfl rfl rfl | apply g_partMB rfl rfl rfl | fail))
      | refine g_seq ?_ | refine g_region ?_ | refine g_nil ?_ | refine g_then_normal ?_ | refine g_block ?_ | refine g_in_normal ?_ | refine g_retc ?_
      | refine g_then_ret ?_ | refine g_in_ret ?_ | refine g_exit ?_ | refine g_then_exit ?_ | refine g_in_exit ?_ | refine g_in_other rfl ?_ | refine g_skip ?_
      | refine g_label ?_ | refine g_cond_true rfl ?_ | refine g_cond_false rfl ?_ | exact s_m | intro _)
    refine g_cond_dec rfl (fun h => absurd rfl h) (fun _ => ?_)
    repeat (first
      | (refine g_ops ?_; first | refine s_q ?_ | refine s_v ?_ | refine s_s ?_ | refine s_n (fun _ => ?_) | refine s_x ?_ | refine s_y ?_ | refine s_mq ?_ | refine s_app (fun _ _ => ?_) | refine s_mv ?_ | refine s_ms ?_ | refine s_b0 (fun _ => ?_) | ((fail_if_success refine g_lit rfl rfl rfl ?_); first | apply g_partM rfl rfl rfl | apply g_partMB rfl rfl rfl | fail))
      | refine g_seq ?_ | refine g_region ?_ | refine g_nil ?_ | refine g_then_normal ?_ | refine g_block ?_ | refine g_in_normal ?_ | refine g_retc ?_
      | refine g_then_ret ?_ | refine g_in_ret ?_ | refine g_exit ?_ | refine g_then_exit ?_ | refine g_in_exit ?_ | refine g_in_other rfl ?_ | refine g_skip ?_
      | refine g_label ?_ | refine g_cond_true rfl ?_ | refine g_cond_false rfl ?_ | exact s_m | intro _)
    exact g_again (i + 1) (by omega) hi' (by (repeat (first | exact FrSub.nil | refine FrSub.cons rfl ?_)); first | done | fail) (by (repeat (first | exact Take.nil | apply Take.cons | exact Sel.here | apply Sel.there)); first | done | fail)
  · repeat (first
      | (refine g_ops ?_; first | refine s_q ?_ | refine s_v ?_ | refine s_s ?_ | refine s_n (fun _ => ?_) | refine s_x ?_ | refine s_y ?_ | refine s_mq ?_ | refine s_app (fun _ _ => ?_) | refine s_mv ?_ | refine s_ms ?_ | refine s_b0 (fun _ => ?_) | ((fail_if_success refine g_lit rfl rfl rfl ?_); first | apply g_partM rfl rfl rfl | apply g_partMB rfl rfl rfl | fail))
      | refine g_seq ?_ | refine g_region ?_ | refine g_nil ?_ | refine g_then_normal ?_ | refine g_block ?_ | refine g_in_normal ?_ | refine g_retc ?_
      | refine g_then_ret ?_ | refine g_in_ret ?_ | refine g_exit ?_ | refine g_then_exit ?_ | refine g_in_exit ?_ | refine g_in_other rfl ?_ | refine g_skip ?_
      | refine g_label ?_ | refine g_cond_true rfl ?_ | refine g_cond_false rfl ?_ | exact s_m | intro _)
    exact g_ret () rfl (by (repeat (first | exact RVs.nil | apply RVs.tmp rfl | apply RVs.cellA rfl (by (repeat (first | exact Sel.here | apply Sel.there)); first | done | fail) (by (repeat (first | exact Cut.zero | apply Cut.take | apply Cut.skip)); first | done | fail) | apply RVs.cell1 rfl (by (repeat (first | exact Sel.here | apply Sel.there)); first | done | fail) rfl)); first | done | fail) (by (repeat (first | exact Take.nil | apply Take.cons | exact Sel.here | apply Sel.there)); first | done | fail) rfl trivial
def SmallS (l : List StV) : Prop := l.length ≤ 100 ∧ ∀ x ∈ l, x.n ≤ 3000 ∧ x.a.size ≤ 60000 ∧ x.b.size ≤ 60000 ∧ x.ps.length ≤ 60000
theorem sum_up (n : Int) (l : List Int) (hl : ∀ x ∈ l, 0 ≤ x) (h0 : 0 ≤ n) (h : n ≤ most) : sumF n l ≤ most ∧ n ≤ sumF n l ∧ (sumF n l < most → ∀ x ∈ l, x ≤ sumF n l) :=
  ⟨(sumF_ge l n hl h).2, (sumF_ge l n hl h).1, fun hs x hx => sumF_each l n hl h0 h x hx hs⟩
attribute [local irreducible] sumF
structure ImX where
  i : Nat
  m : Int
set_option maxHeartbeats 4000000 in
theorem small {H : HP} (p : Option Addr) (cap : Nat) (l : List StV) (hS : StepsAt (Pile H) p l) (hlen : l.length ≤ 9223372036854775807) :
    Does Try.prog 24 [.slice p l.length cap] [Pile H] (X := Bool) Value.bool (fun _ => [Pile H]) (fun r => r = true → SmallS l) := by
  refine fn_intro Try.func24 rfl Try.ntmps24 rfl (by simp only [argFr, Nat.zero_add, Nat.reduceAdd]; rfl) (fun Γ => ?_)
  have hmost : most = 1099511627776 := rfl
  repeat (first
    | (refine g_ops ?_; first | refine s_q ?_ | refine s_v ?_ | refine s_s ?_ | refine s_n (fun _ => ?_) | refine s_x ?_ | refine s_y ?_ | refine s_mq ?_ | refine s_app (fun _ _ => ?_) | refine s_mv ?_ | refine s_ms ?_ | refine s_b0 (fun _ => ?_) | ((fail_if_success refine g_lit rfl rfl rfl ?_); first | apply g_partM rfl rfl rfl | apply g_partMB rfl rfl rfl | fail))
    | refine g_seq ?_ | refine g_region ?_ | refine g_nil ?_ | refine g_then_normal ?_ | refine g_block ?_ | refine g_in_normal ?_ | refine g_retc ?_ | refine g_then_ret ?_
    | refine g_in_ret ?_ | refine g_exit ?_ | refine g_then_exit ?_ | refine g_in_exit ?_ | refine g_in_other rfl ?_ | refine g_skip ?_ | refine g_label ?_
    | refine g_cond_true rfl ?_ | refine g_cond_false rfl ?_ | exact s_m | intro _)
  refine g_loop (X := ImX) (fun x => [(4, int x.i), (3, int x.m), (2, .bool false), (0, .slice p l.length cap)]) (fun _ => [Pile H]) (fun x => x.i ≤ l.length ∧ 0 ≤ x.m ∧ x.m ≤ most ∧ ∀ (j : Nat) (hj : j < l.length), j < x.i → l[j].n ≤ 3000 ∧ (x.m < most → (l[j].a.size : Int) ≤ x.m ∧ (l[j].b.size : Int) ≤ x.m ∧ (l[j].ps.length : Int) ≤ x.m)) (fun x => l.length - x.i) ⟨0, 0⟩ ⟨Nat.zero_le _, Int.le_refl _, by decide, fun j _ h => by simp only at h; omega⟩ (by (repeat (first | exact FrSub.nil | refine FrSub.cons rfl ?_)); first | done | fail) (by (repeat (first | exact Take.nil | apply Take.cons | exact Sel.here | apply Sel.there)); first | done | fail) (fun x hx => ?_)
  obtain ⟨i, m⟩ := x
  obtain ⟨hi, hm0, hm1, hm2⟩ := hx
  dsimp only at hi hm0 hm1 hm2 ⊢
  repeat (first
    | (refine g_ops ?_; first | refine s_q ?_ | refine s_v ?_ | refine s_s ?_ | refine s_n (fun _ => ?_) | refine s_x ?_ | refine s_y ?_ | refine s_mq ?_ | refine s_app (fun _ _ => ?_) | refine s_mv ?_ | refine s_ms ?_ | refine s_b0 (fun _ => ?_) | ((fail_if_success refine g_lit rfl rfl rfl ?_); first | apply g_partM rfl rfl rfl | apply g_partMB rfl rfl rfl | fail))
    | refine g_seq ?_ | refine g_region ?_ | refine g_nil ?_ | refine g_then_normal ?_ | refine g_block ?_ | refine g_in_normal ?_ | refine g_retc ?_ | refine g_then_ret ?_
    | refine g_in_ret ?_ | refine g_exit ?_ | refine g_then_exit ?_ | refine g_in_exit ?_ | refine g_in_other rfl ?_ | refine g_skip ?_ | refine g_label ?_
    | refine g_cond_true rfl ?_ | refine g_cond_false rfl ?_ | exact s_m | intro _)
  refine g_cond_dec rfl (fun h2 => ?_) (fun h2 => ?_)
  · have hi' : i < l.length := by omega
    obtain ⟨b, o, rfl, hcell⟩ := slAt_elem hS.sl stv_len (by decide) (i := i) (a := l[i]) (by simp [hi'])
    have hAi := hS.at_ l[i] (List.getElem_mem _)
    generalize hx : l[i] = x at hcell hAi
    have hz1 := hAi.z1
    have hz2 := hAi.z2
    have hz3 := hAi.z3
    have hz4 := hAi.z4
    repeat (first
      | (refine g_ops ?_; first | refine s_q ?_ | refine s_v ?_ | refine s_s ?_ | refine s_n (fun _ => ?_) | refine s_x ?_ | refine s_y ?_ | refine s_mq ?_ | refine s_app (fun _ _ => ?_) | refine s_mv ?_ | refine s_ms ?_ | refine s_b0 (fun _ => ?_) | ((fail_if_success refine g_lit rfl rfl rfl ?_); first | apply g_partM rfl rfl rfl | apply g_partMB rfl rfl rfl | fail))
      | refine g_seq ?_ | refine g_region ?_ | refine g_nil ?_ | refine g_then_normal ?_ | refine g_block ?_ | refine g_in_normal ?_ | refine g_retc ?_
      | refine g_then_ret ?_ | refine g_in_ret ?_ | refine g_exit ?_ | refine g_then_exit ?_ | refine g_in_exit ?_ | refine g_in_other rfl ?_ | refine g_skip ?_
      | refine g_label ?_ | refine g_cond_true rfl ?_ | refine g_cond_false rfl ?_ | exact s_m | intro _)
    refine g_cond_dec rfl (fun h3 => ?_) (fun h3 => ?_)
    · repeat (first
        | (refine g_ops ?_; first | refine s_q ?_ | refine s_v ?_ | refine s_s ?_ | refine s_n (fun _ => ?_) | refine s_x ?_ | refine s_y ?_ | refine s_mq ?_ | refine s_app (fun _ _ => ?_) | refine s_mv ?_ | refine s_ms ?_ | refine s_b0 (fun _ => ?_) | ((fail_if_success refine g_lit rfl rfl rfl ?_); first | apply g_partM rfl rfl rfl | apply g_partMB rfl rfl rfl | fail))
        | refine g_seq ?_ | refine g_region ?_ | refine g_nil ?_ | refine g_then_normal ?_ | refine g_block ?_ | refine g_in_normal ?_ | refine g_retc ?_
        | refine g_then_ret ?_ | refine g_in_ret ?_ | refine g_exit ?_ | refine g_then_exit ?_ | refine g_in_exit ?_ | refine g_in_other rfl ?_ | refine g_skip ?_
        | refine g_label ?_ | refine g_cond_true rfl ?_ | refine g_cond_false rfl ?_ | exact s_m | intro _)
      exact s_r false (hx := fun h => by cases h)
    · repeat (first
        | (refine g_ops ?_; first | refine s_q ?_ | refine s_v ?_ | refine s_s ?_ | refine s_n (fun _ => ?_) | refine s_x ?_ | refine s_y ?_ | refine s_mq ?_ | refine s_app (fun _ _ => ?_) | refine s_mv ?_ | refine s_ms ?_ | refine s_b0 (fun _ => ?_) | ((fail_if_success refine g_lit rfl rfl rfl ?_); first | apply g_partM rfl rfl rfl | apply g_partMB rfl rfl rfl | fail))
        | refine g_seq ?_ | refine g_region ?_ | refine g_nil ?_ | refine g_then_normal ?_ | refine g_block ?_ | refine g_in_normal ?_ | refine g_retc ?_
        | refine g_then_ret ?_ | refine g_in_ret ?_ | refine g_exit ?_ | refine g_then_exit ?_ | refine g_in_exit ?_ | refine g_in_other rfl ?_ | refine g_skip ?_
        | refine g_label ?_ | refine g_cond_true rfl ?_ | refine g_cond_false rfl ?_ | exact s_m | intro _)
      obtain ⟨S, hSS⟩ : ∃ S, S = [max x.n 0, (x.a.size : Int), (x.b.size : Int), (x.ps.length : Int)] := ⟨_, rfl⟩
      have hS0 : ∀ y ∈ S, 0 ≤ y := by rw [hSS]; simp; omega
      have hS1 : ∀ y ∈ S, 0 ≤ y ∧ y ≤ 9223372036854775807 := by rw [hSS]; simp; omega
      have h4 := sum_up m S hS0 hm0 hm1
      refine g_draw (.take 0 (.take 1 (.take 2 (.take 3 (.take 4 (.see 5 [] (.take 6 (.take 7 (.take 8 (.take 9 (.take 10 (.see 11 [] (.take 12 (.take 13 (.take 14 (.take 15 (.take 16 (.see 17 [] (.take 18 (.take 19 (.take 20 (.take 21 (.take 22 (.see 23 [] (.take 24 (.one 25 (.one 26 (.take 27 .done)))))))))))))))))))))))))))) (by kernel_rfl) (take_all _) (fun k hd hk => ?_)
      repeat (first
        | (refine gp_take ?_; first | refine p_q ?_ | refine p_x ?_ | refine p_mq ?_ | ((fail_if_success refine gp_lit rfl rfl rfl rfl ?_); first | apply gp_guard_dec rfl rfl rfl rfl | apply gp_guard rfl rfl rfl rfl | fail))
        | (refine gp_see ?_; first | refine p_f ?_ | refine p_sx ?_ | ((fail_if_success refine gp_lit rfl rfl rfl rfl ?_); first | apply gp_guard_dec rfl rfl rfl rfl | apply gp_guard rfl rfl rfl rfl | fail) | refine p_sq ?_)
        | (refine gp_one ?_; first | refine p_v ?_ | refine p_s ?_ | refine p_n (fun _ => ?_) | refine p_y ?_ | refine p_app (fun _ _ => ?_) | refine p_mv ?_ | refine p_ms ?_ | refine p_b0 (fun _ => ?_) | ((fail_if_success refine gp_lit rfl rfl rfl rfl ?_); first | apply gp_guard_dec rfl rfl rfl rfl | apply gp_guard rfl rfl rfl rfl | fail))
        | refine gp_two ?_ ?_ | refine gp_done hd hk ?_ | intro _ | refine p_ta hd hk (fun _ _ _ hd hk => ?_) | refine p_ts hd hk (fun _ hd hk => ?_))
      refine p_q (q := by intro Δ; exact qs_max rfl rfl) ?_
      refine gp_as 23 (v' := int (max x.n 0)) rfl (congrArg (Value.int .i64) (by split <;> omega)) ?_
      repeat (first
        | (refine gp_take ?_; first | refine p_q ?_ | refine p_x ?_ | refine p_mq ?_ | ((fail_if_success refine gp_lit rfl rfl rfl rfl ?_); first | apply gp_guard_dec rfl rfl rfl rfl | apply gp_guard rfl rfl rfl rfl | fail))
        | (refine gp_see ?_; first | refine p_f ?_ | refine p_sx ?_ | ((fail_if_success refine gp_lit rfl rfl rfl rfl ?_); first | apply gp_guard_dec rfl rfl rfl rfl | apply gp_guard rfl rfl rfl rfl | fail) | refine p_h (sum_row _ _ _ m [max x.n 0, (x.a.size : Int), (x.b.size : Int), (x.ps.length : Int)] ⟨hm0, hm1⟩ (hSS ▸ hS1) (by simp)) hd hk ?_ | refine p_sq ?_)
        | (refine gp_one ?_; first | refine p_v ?_ | refine p_s ?_ | refine p_n (fun _ => ?_) | refine p_y ?_ | refine p_app (fun _ _ => ?_) | refine p_mv ?_ | refine p_ms ?_ | refine p_b0 (fun _ => ?_) | ((fail_if_success refine gp_lit rfl rfl rfl rfl ?_); first | apply gp_guard_dec rfl rfl rfl rfl | apply gp_guard rfl rfl rfl rfl | fail) | refine p_k (sum_row _ _ _ m [max x.n 0, (x.a.size : Int), (x.b.size : Int), (x.ps.length : Int)] ⟨hm0, hm1⟩ (hSS ▸ hS1) (by simp)) ?_)
        | refine gp_two ?_ ?_ | refine gp_done hd hk ?_ | intro _ | refine p_ta hd hk (fun _ _ _ hd hk => ?_) | refine p_ts hd hk (fun _ hd hk => ?_))
      rw [← hSS]
      repeat (first
        | (refine g_ops ?_; first | refine s_q ?_ | refine s_v ?_ | refine s_s ?_ | refine s_n (fun _ => ?_) | refine s_x ?_ | refine s_y ?_ | refine s_mq ?_ | refine s_app (fun _ _ => ?_) | refine s_mv ?_ | refine s_ms ?_ | refine s_b0 (fun _ => ?_) | ((fail_if_success refine g_lit rfl rfl rfl ?_); first | apply g_partM rfl rfl rfl | apply g_partMB rfl rfl rfl | fail))
        | refine g_seq ?_ | refine g_region ?_ | refine g_nil ?_ | refine g_then_normal ?_ | refine g_block ?_ | refine g_in_normal ?_ | refine g_retc ?_
        | refine g_then_ret ?_ | refine g_in_ret ?_ | refine g_exit ?_ | refine g_then_exit ?_ | refine g_in_exit ?_ | refine g_in_other rfl ?_ | refine g_skip ?_
        | refine g_label ?_ | refine g_cond_true rfl ?_ | refine g_cond_false rfl ?_ | exact s_m | intro _)
      refine g_again ⟨i + 1, sumF m S⟩ (by simp only; omega) ⟨hi', by simp only; omega, h4.1, fun j hj hji => ?_⟩ (by (repeat (first | exact FrSub.nil | refine FrSub.cons rfl ?_)); first | done | fail) (by (repeat (first | exact Take.nil | apply Take.cons | exact Sel.here | apply Sel.there)); first | done | fail)
      dsimp only at hji ⊢
      by_cases e : j = i
      · subst e
        rw [hx]
        refine ⟨by omega, fun hlt => ?_⟩
        have g0 := h4.2.2 hlt
        exact ⟨g0 _ (by rw [hSS]; simp), g0 _ (by rw [hSS]; simp), g0 _ (by rw [hSS]; simp)⟩
      · obtain ⟨q1, q2⟩ := hm2 j hj (by omega)
        refine ⟨q1, fun hlt => ?_⟩
        obtain ⟨q3, q4, q5⟩ := q2 (by omega)
        exact ⟨by omega, by omega, by omega⟩
  · obtain rfl : i = l.length := by omega
    repeat (first
      | (refine g_ops ?_; first | refine s_q ?_ | refine s_v ?_ | refine s_s ?_ | refine s_n (fun _ => ?_) | refine s_x ?_ | refine s_y ?_ | refine s_mq ?_ | refine s_app (fun _ _ => ?_) | refine s_mv ?_ | refine s_ms ?_ | refine s_b0 (fun _ => ?_) | ((fail_if_success refine g_lit rfl rfl rfl ?_); first | apply g_partM rfl rfl rfl | apply g_partMB rfl rfl rfl | fail))
      | refine g_seq ?_ | refine g_region ?_ | refine g_nil ?_ | refine g_then_normal ?_ | refine g_block ?_ | refine g_in_normal ?_ | refine g_retc ?_
      | refine g_then_ret ?_ | refine g_in_ret ?_ | refine g_exit ?_ | refine g_then_exit ?_ | refine g_in_exit ?_ | refine g_in_other rfl ?_ | refine g_skip ?_
      | refine g_label ?_ | refine g_cond_true rfl ?_ | refine g_cond_false rfl ?_ | exact s_m | intro _)
    by_cases hl : l.length ≤ 100
    · refine g_as 47 (v' := .bool true) rfl (congrArg Value.bool (decide_eq_true (by omega))) ?_
      repeat (first
        | (refine g_ops ?_; first | refine s_q ?_ | refine s_v ?_ | refine s_s ?_ | refine s_n (fun _ => ?_) | refine s_x ?_ | refine s_y ?_ | refine s_mq ?_ | refine s_app (fun _ _ => ?_) | refine s_mv ?_ | refine s_ms ?_ | refine s_b0 (fun _ => ?_) | ((fail_if_success refine g_lit rfl rfl rfl ?_); first | apply g_partM rfl rfl rfl | apply g_partMB rfl rfl rfl | fail))
        | refine g_seq ?_ | refine g_region ?_ | refine g_nil ?_ | refine g_then_normal ?_ | refine g_block ?_ | refine g_in_normal ?_ | refine g_retc ?_
        | refine g_then_ret ?_ | refine g_in_ret ?_ | refine g_exit ?_ | refine g_then_exit ?_ | refine g_in_exit ?_ | refine g_in_other rfl ?_ | refine g_skip ?_
        | refine g_label ?_ | refine g_cond_true rfl ?_ | refine g_cond_false rfl ?_ | exact s_m | intro _)
      exact s_r (decide (m ≤ 60000)) (hx := fun h => by
        have h' := of_decide_eq_true h
        refine ⟨hl, fun x hx => ?_⟩
        obtain ⟨j, hj, rfl⟩ := List.mem_iff_getElem.1 hx
        obtain ⟨q1, q2⟩ := hm2 j hj hj
        obtain ⟨q3, q4, q5⟩ := q2 (by omega)
        exact ⟨q1, by omega, by omega, by omega⟩)
    · refine g_as 47 (v' := .bool false) rfl (congrArg Value.bool (decide_eq_false (by omega))) ?_
      repeat (first
        | (refine g_ops ?_; first | refine s_q ?_ | refine s_v ?_ | refine s_s ?_ | refine s_n (fun _ => ?_) | refine s_x ?_ | refine s_y ?_ | refine s_mq ?_ | refine s_app (fun _ _ => ?_) | refine s_mv ?_ | refine s_ms ?_ | refine s_b0 (fun _ => ?_) | ((fail_if_success refine g_lit rfl rfl rfl ?_); first | apply g_partM rfl rfl rfl | apply g_partMB rfl rfl rfl | fail))
        | refine g_seq ?_ | refine g_region ?_ | refine g_nil ?_ | refine g_then_normal ?_ | refine g_block ?_ | refine g_in_normal ?_ | refine g_retc ?_
        | refine g_then_ret ?_ | refine g_in_ret ?_ | refine g_exit ?_ | refine g_then_exit ?_ | refine g_in_exit ?_ | refine g_in_other rfl ?_ | refine g_skip ?_
        | refine g_label ?_ | refine g_cond_true rfl ?_ | refine g_cond_false rfl ?_ | exact s_m | intro _)
      exact s_r false (hx := fun h => by cases h)
end Go.Proofs.Ytfjkfcfmbipfhaa
