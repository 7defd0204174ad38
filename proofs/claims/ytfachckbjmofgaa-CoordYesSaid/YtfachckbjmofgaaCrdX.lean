/- The walk of CoordYes. -/
import Derived.Test.YtfachckbjmofgaaCrdW
set_option linter.unusedSimpArgs false
set_option linter.unusedVariables false
namespace Go.Proofs.Ytfachckbjmofgaa
open Go.Sl facts
attribute [local irreducible] Code.wp wpList Exit.then Exit.inBlock bodyPost Back MidQ G GP QStep VStep CStep SStep Does Post Reads
theorem GgAt.wt {C : Chunk} {g : Gg} (h : GgAt C g) (w : Int) : GgAt C { g with wt := w } := ⟨h.bt, h.pts, h.ns, h.ws, h.wl, h.wi, h.an, h.nd, h.sub, h.cut⟩
/-- The answer of a node. -/
def ansD (no code w0 w1 : Int) (i : Nat) : AnD := if no = (i : Int) then ⟨⟨0, 0, 7⟩, code, ⟨0, 0, 0⟩, []⟩ else ⟨⟨0, 0, 7⟩, 0, ⟨[w0, w1].getD i 0, 0, (i : Int) + 1⟩, [10 + (i : Int)]⟩
structure YlX where
  i : Nat
  M : List (Int × An)
  H : HP
structure NmX where
  c : Nat
  n0 : ByteArray
  n1 : ByteArray
  H : HP
theorem nm_put (s : ByteArray) (hs : s.size ≤ 4) {H : HP} {q : Nat} (h : SlAt (Pile H) 3 (some ⟨q, 0, none⟩) 1 [.string s, int 0, .slice none 0 0]) : BtAt' (Pile H) ⟨ByteArray.empty, some ⟨q, 0, none⟩, 1, [⟨s, 0, none, 0, []⟩]⟩ :=
  ⟨h, fun y hy => by
    rw [List.mem_singleton.1 hy]
    exact ⟨⟨rfl, rfl, fun _ => rfl, fun j v hv => by simp at hv⟩, by simp, by simp only; omega⟩, by simp⟩
abbrev yesB (q : Nat) (n0 n1 : ByteArray) : Bt := ⟨ByteArray.empty, some ⟨q, 0, none⟩, 2, [⟨n1, 0, none, 0, []⟩, ⟨n0, 0, none, 0, []⟩]⟩
set_option maxRecDepth 20000 in
set_option maxHeartbeats 16000000 in
theorem yesLaw {H : HP} (wp : Option Addr) (wc : Nat) (walls : List Int) (hwS : SlAt (Pile H) 1 wp walls.length (walls.map int)) (hwl : walls.length ≤ 9223372036854775807) (bad code ticks : Int) :
    Does1 Try.prog 5 [.slice wp walls.length wc, int bad, int code, int ticks] [Pile H] (.bool true) := by
  refine fn_intro Try.func5 rfl Try.ntmps5 rfl (by simp only [argFr, Nat.zero_add, Nat.reduceAdd]; rfl) (fun Γ => ?_)
  repeat (first
    | (refine g_ops ?_; first | refine s_q ?_ | refine s_v ?_ | refine s_s ?_ | refine s_n (fun _ => ?_) | refine s_x ?_ | refine s_y ?_ | refine s_mq ?_ | refine s_app (fun _ _ => ?_) | refine s_mv ?_ | refine s_ms ?_ | refine s_b0 (fun _ => ?_) | ((fail_if_success refine g_lit rfl rfl rfl ?_); first | apply g_partM rfl rfl rfl | apply g_partMB rfl rfl rfl | fail))
    | refine g_seq ?_ | refine g_region ?_ | refine g_nil ?_ | refine g_then_normal ?_ | refine g_block ?_ | refine g_in_normal ?_ | refine g_retc ?_ | refine g_then_ret ?_
    | refine g_in_ret ?_ | refine g_exit ?_ | refine g_then_exit ?_ | refine g_in_exit ?_ | refine g_in_other rfl ?_ | refine g_skip ?_ | refine g_label ?_
    | refine g_cond_true rfl ?_ | refine g_cond_false rfl ?_ | exact s_m | intro _)
  by_cases hl2 : walls.length = 2
  case neg =>
    refine g_as 29 (v' := .bool true) rfl (congrArg Value.bool (by simp; omega)) ?_
    repeat (first
      | (refine g_ops ?_; first | refine s_q ?_ | refine s_v ?_ | refine s_s ?_ | refine s_n (fun _ => ?_) | refine s_x ?_ | refine s_y ?_ | refine s_mq ?_ | refine s_app (fun _ _ => ?_) | refine s_mv ?_ | refine s_ms ?_ | refine s_b0 (fun _ => ?_) | ((fail_if_success refine g_lit rfl rfl rfl ?_); first | apply g_partM rfl rfl rfl | apply g_partMB rfl rfl rfl | fail) | refine s_c (awake_) (fun _ _ => ?_))
      | refine g_seq ?_ | refine g_region ?_ | refine g_nil ?_ | refine g_then_normal ?_ | refine g_block ?_ | refine g_in_normal ?_ | refine g_retc ?_
      | refine g_then_ret ?_ | refine g_in_ret ?_ | refine g_exit ?_ | refine g_then_exit ?_ | refine g_in_exit ?_ | refine g_in_other rfl ?_ | refine g_skip ?_
      | refine g_label ?_ | refine g_cond_true rfl ?_ | refine g_cond_false rfl ?_ | exact s_m | intro _)
    rename_i H2 hs2
    dsimp only [List.cons_append, List.nil_append]
    refine g_unpile hs2 (by (repeat (first | exact Sel.here | apply Sel.there)); first | done | fail) ?_
    exact g_ret () rfl (by (repeat (first | exact RVs.nil | apply RVs.tmp rfl | apply RVs.cellA rfl (by (repeat (first | exact Sel.here | apply Sel.there)); first | done | fail) (by (repeat (first | exact Cut.zero | apply Cut.take | apply Cut.skip)); first | done | fail) | apply RVs.cell1 rfl (by (repeat (first | exact Sel.here | apply Sel.there)); first | done | fail) rfl)); first | done | fail) (by (repeat (first | exact Take.nil | apply Take.cons | exact Sel.here | apply Sel.there)); first | done | fail) rfl trivial
  refine g_as 29 (v' := .bool false) rfl (congrArg Value.bool (by simp; omega)) ?_
  repeat (first
    | (refine g_ops ?_; first | refine s_q ?_ | refine s_v ?_ | refine s_s ?_ | refine s_n (fun _ => ?_) | refine s_x ?_ | refine s_y ?_ | refine s_mq ?_ | refine s_app (fun _ _ => ?_) | refine s_mv ?_ | refine s_ms ?_ | refine s_b0 (fun _ => ?_) | ((fail_if_success refine g_lit rfl rfl rfl ?_); first | apply g_partM rfl rfl rfl | apply g_partMB rfl rfl rfl | fail))
    | refine g_seq ?_ | refine g_region ?_ | refine g_nil ?_ | refine g_then_normal ?_ | refine g_block ?_ | refine g_in_normal ?_ | refine g_retc ?_ | refine g_then_ret ?_
    | refine g_in_ret ?_ | refine g_exit ?_ | refine g_then_exit ?_ | refine g_in_exit ?_ | refine g_in_other rfl ?_ | refine g_skip ?_ | refine g_label ?_
    | refine g_cond_true rfl ?_ | refine g_cond_false rfl ?_ | exact s_m | intro _)
  by_cases ht0 : 0 ≤ ticks
  case neg =>
    refine g_as 33 (v' := .bool true) rfl (congrArg Value.bool (by simp; omega)) ?_
    repeat (first
      | (refine g_ops ?_; first | refine s_q ?_ | refine s_v ?_ | refine s_s ?_ | refine s_n (fun _ => ?_) | refine s_x ?_ | refine s_y ?_ | refine s_mq ?_ | refine s_app (fun _ _ => ?_) | refine s_mv ?_ | refine s_ms ?_ | refine s_b0 (fun _ => ?_) | ((fail_if_success refine g_lit rfl rfl rfl ?_); first | apply g_partM rfl rfl rfl | apply g_partMB rfl rfl rfl | fail) | refine s_c (awake_) (fun _ _ => ?_))
      | refine g_seq ?_ | refine g_region ?_ | refine g_nil ?_ | refine g_then_normal ?_ | refine g_block ?_ | refine g_in_normal ?_ | refine g_retc ?_
      | refine g_then_ret ?_ | refine g_in_ret ?_ | refine g_exit ?_ | refine g_then_exit ?_ | refine g_in_exit ?_ | refine g_in_other rfl ?_ | refine g_skip ?_
      | refine g_label ?_ | refine g_cond_true rfl ?_ | refine g_cond_false rfl ?_ | exact s_m | intro _)
    rename_i H2 hs2
    dsimp only [List.cons_append, List.nil_append]
    refine g_unpile hs2 (by (repeat (first | exact Sel.here | apply Sel.there)); first | done | fail) ?_
    exact g_ret () rfl (by (repeat (first | exact RVs.nil | apply RVs.tmp rfl | apply RVs.cellA rfl (by (repeat (first | exact Sel.here | apply Sel.there)); first | done | fail) (by (repeat (first | exact Cut.zero | apply Cut.take | apply Cut.skip)); first | done | fail) | apply RVs.cell1 rfl (by (repeat (first | exact Sel.here | apply Sel.there)); first | done | fail) rfl)); first | done | fail) (by (repeat (first | exact Take.nil | apply Take.cons | exact Sel.here | apply Sel.there)); first | done | fail) rfl trivial
  refine g_as 33 (v' := .bool false) rfl (congrArg Value.bool (by simp; omega)) ?_
  repeat (first
    | (refine g_ops ?_; first | refine s_q ?_ | refine s_v ?_ | refine s_s ?_ | refine s_n (fun _ => ?_) | refine s_x ?_ | refine s_y ?_ | refine s_mq ?_ | refine s_app (fun _ _ => ?_) | refine s_mv ?_ | refine s_ms ?_ | refine s_b0 (fun _ => ?_) | ((fail_if_success refine g_lit rfl rfl rfl ?_); first | apply g_partM rfl rfl rfl | apply g_partMB rfl rfl rfl | fail))
    | refine g_seq ?_ | refine g_region ?_ | refine g_nil ?_ | refine g_then_normal ?_ | refine g_block ?_ | refine g_in_normal ?_ | refine g_retc ?_ | refine g_then_ret ?_
    | refine g_in_ret ?_ | refine g_exit ?_ | refine g_then_exit ?_ | refine g_in_exit ?_ | refine g_in_other rfl ?_ | refine g_skip ?_ | refine g_label ?_
    | refine g_cond_true rfl ?_ | refine g_cond_false rfl ?_ | exact s_m | intro _)
  by_cases ht1 : ticks ≤ 40
  case neg =>
    refine g_as 36 (v' := .bool true) rfl (congrArg Value.bool (by simp; omega)) ?_
    repeat (first
      | (refine g_ops ?_; first | refine s_q ?_ | refine s_v ?_ | refine s_s ?_ | refine s_n (fun _ => ?_) | refine s_x ?_ | refine s_y ?_ | refine s_mq ?_ | refine s_app (fun _ _ => ?_) | refine s_mv ?_ | refine s_ms ?_ | refine s_b0 (fun _ => ?_) | ((fail_if_success refine g_lit rfl rfl rfl ?_); first | apply g_partM rfl rfl rfl | apply g_partMB rfl rfl rfl | fail) | refine s_c (awake_) (fun _ _ => ?_))
      | refine g_seq ?_ | refine g_region ?_ | refine g_nil ?_ | refine g_then_normal ?_ | refine g_block ?_ | refine g_in_normal ?_ | refine g_retc ?_
      | refine g_then_ret ?_ | refine g_in_ret ?_ | refine g_exit ?_ | refine g_then_exit ?_ | refine g_in_exit ?_ | refine g_in_other rfl ?_ | refine g_skip ?_
      | refine g_label ?_ | refine g_cond_true rfl ?_ | refine g_cond_false rfl ?_ | exact s_m | intro _)
    rename_i H2 hs2
    dsimp only [List.cons_append, List.nil_append]
    refine g_unpile hs2 (by (repeat (first | exact Sel.here | apply Sel.there)); first | done | fail) ?_
    exact g_ret () rfl (by (repeat (first | exact RVs.nil | apply RVs.tmp rfl | apply RVs.cellA rfl (by (repeat (first | exact Sel.here | apply Sel.there)); first | done | fail) (by (repeat (first | exact Cut.zero | apply Cut.take | apply Cut.skip)); first | done | fail) | apply RVs.cell1 rfl (by (repeat (first | exact Sel.here | apply Sel.there)); first | done | fail) rfl)); first | done | fail) (by (repeat (first | exact Take.nil | apply Take.cons | exact Sel.here | apply Sel.there)); first | done | fail) rfl trivial
  refine g_as 36 (v' := .bool false) rfl (congrArg Value.bool (by simp; omega)) ?_
  obtain ⟨w0, w1, rfl⟩ : ∃ w0 w1, walls = [w0, w1] := by
    match walls, hl2 with
    | [a, b], _ => exact ⟨a, b, rfl⟩
  obtain ⟨wb, wo, rfl, _⟩ := slAt_cell hwS (i := 0) (v := int w0) rfl
  have hwR : ∀ H', HP.sub H H' → ∀ i (h : i < 2), Reads (Pile H') ⟨wb, wo + i, none⟩ (int ([w0, w1][i]'h)) := fun H' hs i h => by
    obtain ⟨b', o', e1, e2⟩ := slAt_cell (hwS.grow hs) (i := i) (v := int ([w0, w1][i]'h)) (by rw [List.getElem?_map, List.getElem?_eq_getElem h]; rfl)
    cases e1
    exact e2
  repeat (first
    | (refine g_ops ?_; first | refine s_q ?_ | refine s_v ?_ | refine s_s ?_ | refine s_n (fun _ => ?_) | refine s_x ?_ | refine s_y ?_ | refine s_mq ?_ | refine s_app (fun _ _ => ?_) | refine s_mv ?_ | refine s_ms ?_ | refine s_b0 (fun _ => ?_) | ((fail_if_success refine g_lit rfl rfl rfl ?_); first | apply g_partM rfl rfl rfl | apply g_partMB rfl rfl rfl | fail))
    | refine g_seq ?_ | refine g_region ?_ | refine g_nil ?_ | refine g_then_normal ?_ | refine g_block ?_ | refine g_in_normal ?_ | refine g_retc ?_ | refine g_then_ret ?_
    | refine g_in_ret ?_ | refine g_exit ?_ | refine g_then_exit ?_ | refine g_in_exit ?_ | refine g_in_other rfl ?_ | refine g_skip ?_ | refine g_label ?_
    | refine g_cond_true rfl ?_ | refine g_cond_false rfl ?_ | exact s_m | intro _)
  refine g_loop (X := Nat) (fun y => [(0, .slice (some ⟨wb, wo, none⟩) 2 wc), (1, int bad), (2, int code), (3, int ticks), (9, int y)]) (fun _ => [Pile H]) (fun y => y ≤ 2 ∧ ∀ i (h : i < 2), i < y → 0 ≤ [w0, w1][i]'h ∧ [w0, w1][i]'h ≤ 1099511627776) (fun y => 2 - y) 0 ⟨by omega, fun i _ h => by omega⟩ (by (repeat (first | exact FrSub.nil | refine FrSub.cons rfl ?_)); first | done | fail) (by (repeat (first | exact Take.nil | apply Take.cons | exact Sel.here | apply Sel.there)); first | done | fail) (fun y hy => ?_)
  obtain ⟨hy, hgd⟩ := hy
  repeat (first
    | (refine g_ops ?_; first | refine s_q ?_ | refine s_v ?_ | refine s_s ?_ | refine s_n (fun _ => ?_) | refine s_x ?_ | refine s_y ?_ | refine s_mq ?_ | refine s_app (fun _ _ => ?_) | refine s_mv ?_ | refine s_ms ?_ | refine s_b0 (fun _ => ?_) | ((fail_if_success refine g_lit rfl rfl rfl ?_); first | apply g_partM rfl rfl rfl | apply g_partMB rfl rfl rfl | fail))
    | refine g_seq ?_ | refine g_region ?_ | refine g_nil ?_ | refine g_then_normal ?_ | refine g_block ?_ | refine g_in_normal ?_ | refine g_retc ?_ | refine g_then_ret ?_
    | refine g_in_ret ?_ | refine g_exit ?_ | refine g_then_exit ?_ | refine g_in_exit ?_ | refine g_in_other rfl ?_ | refine g_skip ?_ | refine g_label ?_
    | refine g_cond_true rfl ?_ | refine g_cond_false rfl ?_ | exact s_m | intro _)
  refine g_cond_dec rfl (fun h => ?_) (fun h => ?_)
  · have hy2 : y < 2 := by omega
    have hr : ∀ k, k = y → Reads (Pile H) ⟨wb, wo + k, none⟩ (int ([w0, w1][y]'hy2)) := fun k e => by subst e; exact hwR H (HP.sub.refl _) k hy2
    obtain ⟨v, hv⟩ : ∃ v, v = [w0, w1][y]'hy2 := ⟨_, rfl⟩
    rw [← hv] at hr
    repeat (first
      | (refine g_ops ?_; first | refine s_q ?_ | refine s_v ?_ | refine s_s ?_ | refine s_n (fun _ => ?_) | refine s_x ?_ | refine s_y ?_ | refine s_mq ?_ | refine s_app (fun _ _ => ?_) | refine s_mv ?_ | refine s_ms ?_ | refine s_b0 (fun _ => ?_) | ((fail_if_success refine g_lit rfl rfl rfl ?_); first | apply g_partM rfl rfl rfl | apply g_partMB rfl rfl rfl | fail))
      | refine g_seq ?_ | refine g_region ?_ | refine g_nil ?_ | refine g_then_normal ?_ | refine g_block ?_ | refine g_in_normal ?_ | refine g_retc ?_
      | refine g_then_ret ?_ | refine g_in_ret ?_ | refine g_exit ?_ | refine g_then_exit ?_ | refine g_in_exit ?_ | refine g_in_other rfl ?_ | refine g_skip ?_
      | refine g_label ?_ | refine g_cond_true rfl ?_ | refine g_cond_false rfl ?_ | exact s_m | intro _)
    by_cases hv0 : 0 ≤ v
    case neg =>
      refine g_as 47 (v' := .bool true) rfl (congrArg Value.bool (by simp; omega)) ?_
      repeat (first
        | (refine g_ops ?_; first | refine s_q ?_ | refine s_v ?_ | refine s_s ?_ | refine s_n (fun _ => ?_) | refine s_x ?_ | refine s_y ?_ | refine s_mq ?_ | refine s_app (fun _ _ => ?_) | refine s_mv ?_ | refine s_ms ?_ | refine s_b0 (fun _ => ?_) | ((fail_if_success refine g_lit rfl rfl rfl ?_); first | apply g_partM rfl rfl rfl | apply g_partMB rfl rfl rfl | fail) | refine s_c (awake_) (fun _ _ => ?_))
        | refine g_seq ?_ | refine g_region ?_ | refine g_nil ?_ | refine g_then_normal ?_ | refine g_block ?_ | refine g_in_normal ?_ | refine g_retc ?_
        | refine g_then_ret ?_ | refine g_in_ret ?_ | refine g_exit ?_ | refine g_then_exit ?_ | refine g_in_exit ?_ | refine g_in_other rfl ?_ | refine g_skip ?_
        | refine g_label ?_ | refine g_cond_true rfl ?_ | refine g_cond_false rfl ?_ | exact s_m | intro _)
      rename_i H2 hs2
      dsimp only [List.cons_append, List.nil_append]
      refine g_unpile hs2 (by (repeat (first | exact Sel.here | apply Sel.there)); first | done | fail) ?_
      exact g_ret () rfl (by (repeat (first | exact RVs.nil | apply RVs.tmp rfl | apply RVs.cellA rfl (by (repeat (first | exact Sel.here | apply Sel.there)); first | done | fail) (by (repeat (first | exact Cut.zero | apply Cut.take | apply Cut.skip)); first | done | fail) | apply RVs.cell1 rfl (by (repeat (first | exact Sel.here | apply Sel.there)); first | done | fail) rfl)); first | done | fail) (by (repeat (first | exact Take.nil | apply Take.cons | exact Sel.here | apply Sel.there)); first | done | fail) rfl trivial
    refine g_as 47 (v' := .bool false) rfl (congrArg Value.bool (by simp; omega)) ?_
    repeat (first
      | (refine g_ops ?_; first | refine s_q ?_ | refine s_v ?_ | refine s_s ?_ | refine s_n (fun _ => ?_) | refine s_x ?_ | refine s_y ?_ | refine s_mq ?_ | refine s_app (fun _ _ => ?_) | refine s_mv ?_ | refine s_ms ?_ | refine s_b0 (fun _ => ?_) | ((fail_if_success refine g_lit rfl rfl rfl ?_); first | apply g_partM rfl rfl rfl | apply g_partMB rfl rfl rfl | fail))
      | refine g_seq ?_ | refine g_region ?_ | refine g_nil ?_ | refine g_then_normal ?_ | refine g_block ?_ | refine g_in_normal ?_ | refine g_retc ?_
      | refine g_then_ret ?_ | refine g_in_ret ?_ | refine g_exit ?_ | refine g_then_exit ?_ | refine g_in_exit ?_ | refine g_in_other rfl ?_ | refine g_skip ?_
      | refine g_label ?_ | refine g_cond_true rfl ?_ | refine g_cond_false rfl ?_ | exact s_m | intro _)
    by_cases hv1 : v ≤ 1099511627776
    case neg =>
      refine g_as 53 (v' := .bool true) rfl (congrArg Value.bool (by simp; omega)) ?_
      repeat (first
        | (refine g_ops ?_; first | refine s_q ?_ | refine s_v ?_ | refine s_s ?_ | refine s_n (fun _ => ?_) | refine s_x ?_ | refine s_y ?_ | refine s_mq ?_ | refine s_app (fun _ _ => ?_) | refine s_mv ?_ | refine s_ms ?_ | refine s_b0 (fun _ => ?_) | ((fail_if_success refine g_lit rfl rfl rfl ?_); first | apply g_partM rfl rfl rfl | apply g_partMB rfl rfl rfl | fail) | refine s_c (awake_) (fun _ _ => ?_))
        | refine g_seq ?_ | refine g_region ?_ | refine g_nil ?_ | refine g_then_normal ?_ | refine g_block ?_ | refine g_in_normal ?_ | refine g_retc ?_
        | refine g_then_ret ?_ | refine g_in_ret ?_ | refine g_exit ?_ | refine g_then_exit ?_ | refine g_in_exit ?_ | refine g_in_other rfl ?_ | refine g_skip ?_
        | refine g_label ?_ | refine g_cond_true rfl ?_ | refine g_cond_false rfl ?_ | exact s_m | intro _)
      rename_i H2 hs2
      dsimp only [List.cons_append, List.nil_append]
      refine g_unpile hs2 (by (repeat (first | exact Sel.here | apply Sel.there)); first | done | fail) ?_
      exact g_ret () rfl (by (repeat (first | exact RVs.nil | apply RVs.tmp rfl | apply RVs.cellA rfl (by (repeat (first | exact Sel.here | apply Sel.there)); first | done | fail) (by (repeat (first | exact Cut.zero | apply Cut.take | apply Cut.skip)); first | done | fail) | apply RVs.cell1 rfl (by (repeat (first | exact Sel.here | apply Sel.there)); first | done | fail) rfl)); first | done | fail) (by (repeat (first | exact Take.nil | apply Take.cons | exact Sel.here | apply Sel.there)); first | done | fail) rfl trivial
    refine g_as 53 (v' := .bool false) rfl (congrArg Value.bool (by simp; omega)) ?_
    repeat (first
      | (refine g_ops ?_; first | refine s_q ?_ | refine s_v ?_ | refine s_s ?_ | refine s_n (fun _ => ?_) | refine s_x ?_ | refine s_y ?_ | refine s_mq ?_ | refine s_app (fun _ _ => ?_) | refine s_mv ?_ | refine s_ms ?_ | refine s_b0 (fun _ => ?_) | ((fail_if_success refine g_lit rfl rfl rfl ?_); first | apply g_partM rfl rfl rfl | apply g_partMB rfl rfl rfl | fail))
      | refine g_seq ?_ | refine g_region ?_ | refine g_nil ?_ | refine g_then_normal ?_ | refine g_block ?_ | refine g_in_normal ?_ | refine g_retc ?_
      | refine g_then_ret ?_ | refine g_in_ret ?_ | refine g_exit ?_ | refine g_then_exit ?_ | refine g_in_exit ?_ | refine g_in_other rfl ?_ | refine g_skip ?_
      | refine g_label ?_ | refine g_cond_true rfl ?_ | refine g_cond_false rfl ?_ | exact s_m | intro _)
    refine g_as 9 (v' := int ((y + 1 : Nat) : Int)) rfl (congrArg (Value.int .i64) (by push_cast; rfl)) ?_
    exact g_again (y + 1) (by omega) ⟨hy2, fun i hi hiy => by
      by_cases e : i = y
      · subst e; rw [← hv]; exact ⟨hv0, hv1⟩
      · exact hgd i hi (by omega)⟩ (by (repeat (first | exact FrSub.nil | refine FrSub.cons rfl ?_)); first | done | fail) (by (repeat (first | exact Take.nil | apply Take.cons | exact Sel.here | apply Sel.there)); first | done | fail)
  obtain rfl : y = 2 := by omega
  have hg0 := hgd 0 (by omega) (by omega)
  have hg1 := hgd 1 (by omega) (by omega)
  simp only [List.getElem_cons_zero, List.getElem_cons_succ] at hg0 hg1
  clear hgd hy
  repeat (first
    | (refine g_ops ?_; first | refine s_q ?_ | refine s_v ?_ | refine s_s ?_ | refine s_n (fun _ => ?_) | refine s_x ?_ | refine s_y ?_ | refine s_mq ?_ | refine s_app (fun _ _ => ?_) | refine s_mv ?_ | refine s_ms ?_ | refine s_b0 (fun _ => ?_) | ((fail_if_success refine g_lit rfl rfl rfl ?_); first | apply g_partM rfl rfl rfl | apply g_partMB rfl rfl rfl | fail))
    | refine g_seq ?_ | refine g_region ?_ | refine g_nil ?_ | refine g_then_normal ?_ | refine g_block ?_ | refine g_in_normal ?_ | refine g_retc ?_ | refine g_then_ret ?_
    | refine g_in_ret ?_ | refine g_exit ?_ | refine g_then_exit ?_ | refine g_in_exit ?_ | refine g_in_other rfl ?_ | refine g_skip ?_ | refine g_label ?_
    | refine g_cond_true rfl ?_ | refine g_cond_false rfl ?_ | exact s_m | intro _)
  rename_i nb
  refine g_loop (X := NmX) (fun y => [(0, .slice (some ⟨wb, wo, none⟩) 2 wc), (1, int bad), (2, int code), (3, int ticks), (10, .slice (some ⟨nb, 0, none⟩) 2 2), (11, int y.c)]) (fun y => [.row nb [.string y.n0, .string y.n1] 9, Pile y.H])
    (fun y => y.c ≤ 676 ∧ HP.sub H y.H ∧ (y.n0.size ≤ 4 ∧ y.n1.size ≤ 4) ∧ (whose twoL y.n0 = 1 ∨ ∀ j, j < y.c → whose twoL (strN j) ≠ 1) ∧ (whose twoL y.n1 = 2 ∨ ∀ j, j < y.c → whose twoL (strN j) ≠ 2)) (fun y => 676 - y.c) ⟨0, ⟨#[]⟩, ⟨#[]⟩, H⟩ ⟨Nat.zero_le _, HP.sub.refl _, ⟨by show 0 ≤ 4; omega, by show 0 ≤ 4; omega⟩, .inr (fun j hj => absurd hj (Nat.not_lt_zero _)), .inr (fun j hj => absurd hj (Nat.not_lt_zero _))⟩ (by (repeat (first | exact FrSub.nil | refine FrSub.cons rfl ?_)); first | done | fail) (by (repeat (first | exact Take.nil | apply Take.cons | exact Sel.here | apply Sel.there)); first | done | fail) (fun y hy => ?_)
  obtain ⟨c, n0, n1, H1⟩ := y
  obtain ⟨hc, hs1, ⟨hz0, hz1⟩, hn0, hn1⟩ := hy
  dsimp only at hc hs1 hz0 hz1 hn0 hn1 ⊢
  repeat (first
    | (refine g_ops ?_; first | refine s_q ?_ | refine s_v ?_ | refine s_s ?_ | refine s_n (fun _ => ?_) | refine s_x ?_ | refine s_y ?_ | refine s_mq ?_ | refine s_app (fun _ _ => ?_) | refine s_mv ?_ | refine s_ms ?_ | refine s_b0 (fun _ => ?_) | ((fail_if_success refine g_lit rfl rfl rfl ?_); first | apply g_partM rfl rfl rfl | apply g_partMB rfl rfl rfl | fail))
    | refine g_seq ?_ | refine g_region ?_ | refine g_nil ?_ | refine g_then_normal ?_ | refine g_block ?_ | refine g_in_normal ?_ | refine g_retc ?_ | refine g_then_ret ?_
    | refine g_in_ret ?_ | refine g_exit ?_ | refine g_then_exit ?_ | refine g_in_exit ?_ | refine g_in_other rfl ?_ | refine g_skip ?_ | refine g_label ?_
    | refine g_cond_true rfl ?_ | refine g_cond_false rfl ?_ | exact s_m | intro _)
  refine g_cond_dec rfl (fun h2 => ?_) (fun h2 => ?_)
  · have hc' : c < 676 := by omega
    have hst := stream_ c hc'
    have hss : (strN c).size = 4 := rfl
    repeat (first
      | (refine g_ops ?_; first | refine s_q ?_ | refine s_v ?_ | refine s_s ?_ | refine s_n (fun _ => ?_) | refine s_x ?_ | refine s_y ?_ | refine s_mq ?_ | refine s_app (fun _ _ => ?_) | refine s_mv ?_ | refine s_ms ?_ | refine s_b0 (fun _ => ?_) | ((fail_if_success refine g_lit rfl rfl rfl ?_); first | apply g_partM rfl rfl rfl | apply g_partMB rfl rfl rfl | fail) | refine s_k (hst) ?_ | refine s_c (two_) (fun _ _ => ?_))
      | refine g_seq ?_ | refine g_region ?_ | refine g_nil ?_ | refine g_then_normal ?_ | refine g_block ?_ | refine g_in_normal ?_ | refine g_retc ?_
      | refine g_then_ret ?_ | refine g_in_ret ?_ | refine g_exit ?_ | refine g_then_exit ?_ | refine g_in_exit ?_ | refine g_in_other rfl ?_ | refine g_skip ?_
      | refine g_label ?_ | refine g_cond_true rfl ?_ | refine g_cond_false rfl ?_ | exact s_m | intro _)
    rename_i y2 hy2 q
    obtain ⟨rb, H2⟩ := y2
    obtain ⟨hs2, hR⟩ := hy2
    dsimp only [List.cons_append, List.nil_append] at hs2 hR ⊢
    refine g_toOwn (b := q) (len := 1) (n := 3) (by (repeat (first | exact Sel.here | apply Sel.there)); first | done | fail) rfl rfl ?_
    refine g_pile (p := some ⟨q, 0, none⟩) (m := 1) (c := 1) (n := 3) (xs := [.string (strN c), int 0, .slice none 0 0]) (e := 34) (by (repeat (first | exact Sel.here | apply Sel.there)); first | done | fail) (by (repeat (first | exact Sel.here | apply Sel.there)); first | done | fail) (fun H3 hs3 hA3 => ?_)
    have hpa := parts_ (some ⟨rb, 0, none⟩) 2 twoL (hR.grow hs3) (by simp [twoL]) two_in _ (nm_put (strN c) (by rw [hss]; decide) hA3)
    repeat (first
      | (refine g_ops ?_; first | refine s_q ?_ | refine s_v ?_ | refine s_s ?_ | refine s_n (fun _ => ?_) | refine s_x ?_ | refine s_y ?_ | refine s_mq ?_ | refine s_app (fun _ _ => ?_) | refine s_mv ?_ | refine s_ms ?_ | refine s_b0 (fun _ => ?_) | ((fail_if_success refine g_lit rfl rfl rfl ?_); first | apply g_partM rfl rfl rfl | apply g_partMB rfl rfl rfl | fail) | refine s_c (hpa) (fun _ _ => ?_))
      | refine g_seq ?_ | refine g_region ?_ | refine g_nil ?_ | refine g_then_normal ?_ | refine g_block ?_ | refine g_in_normal ?_ | refine g_retc ?_
      | refine g_then_ret ?_ | refine g_in_ret ?_ | refine g_exit ?_ | refine g_then_exit ?_ | refine g_in_exit ?_ | refine g_in_other rfl ?_ | refine g_skip ?_
      | refine g_label ?_ | refine g_cond_true rfl ?_ | refine g_cond_false rfl ?_ | exact s_m | intro _)
    rename_i y6 hy6
    obtain ⟨np, nc, ns, qp, qc, T, H6⟩ := y6
    obtain ⟨hs6, hpt, hcut⟩ := hy6
    dsimp only [List.cons_append, List.nil_append] at hs6 hpt hcut ⊢
    have hk12 := two_whose (strN c)
    simp only [ownersL, List.map_cons, List.map_nil] at hcut
    obtain ⟨rfl, _⟩ := one_part hpt (by rcases hk12 with h | h <;> omega) rfl hcut
    have hsn := hs1.trans (hs2.trans (hs3.trans hs6))
    have hkl : [whose twoL (strN c)].length = 1 := rfl
    refine g_own (p := np) (len := 1) (cap := nc) (n := 1) (xs := [int (whose twoL (strN c))]) (e := 3) (by (repeat (first | exact Sel.here | apply Sel.there)); first | done | fail) (fun _ _ hq => ?_)
    obtain ⟨ob, rfl⟩ := hq (by omega)
    repeat (first
      | (refine g_ops ?_; first | refine s_q ?_ | refine s_v ?_ | refine s_s ?_ | refine s_n (fun _ => ?_) | refine s_x ?_ | refine s_y ?_ | refine s_mq ?_ | refine s_app (fun _ _ => ?_) | refine s_mv ?_ | refine s_ms ?_ | refine s_b0 (fun _ => ?_) | ((fail_if_success refine g_lit rfl rfl rfl ?_); first | apply g_partM rfl rfl rfl | apply g_partMB rfl rfl rfl | fail))
      | refine g_seq ?_ | refine g_region ?_ | refine g_nil ?_ | refine g_then_normal ?_ | refine g_block ?_ | refine g_in_normal ?_ | refine g_retc ?_
      | refine g_then_ret ?_ | refine g_in_ret ?_ | refine g_exit ?_ | refine g_then_exit ?_ | refine g_in_exit ?_ | refine g_in_other rfl ?_ | refine g_skip ?_
      | refine g_label ?_ | refine g_cond_true rfl ?_ | refine g_cond_false rfl ?_ | exact s_m | intro _)
    refine g_as 73 (v' := .bool true) rfl (congrArg Value.bool (by simp)) ?_
    rcases hk12 with hk | hk
    · rw [hk]
      have hkl : [(1 : Int)].length = 1 := rfl
      have hr : ∀ k', k' = 0 → Reads (.own (some ⟨ob, 0, none⟩) 1 nc 1 [int 1] 3) ⟨ob, 0 + k', none⟩ (int 1) := fun k' e => by
        subst e; exact reads_own rfl
      repeat (first
        | (refine g_ops ?_; first | refine s_q ?_ | refine s_v ?_ | refine s_s ?_ | refine s_n (fun _ => ?_) | refine s_x ?_ | refine s_y ?_ | refine s_mq ?_ | refine s_app (fun _ _ => ?_) | refine s_mv ?_ | refine s_ms ?_ | refine s_b0 (fun _ => ?_) | ((fail_if_success refine g_lit rfl rfl rfl ?_); first | apply g_partM rfl rfl rfl | apply g_partMB rfl rfl rfl | fail))
        | refine g_seq ?_ | refine g_region ?_ | refine g_nil ?_ | refine g_then_normal ?_ | refine g_block ?_ | refine g_in_normal ?_ | refine g_retc ?_
        | refine g_then_ret ?_ | refine g_in_ret ?_ | refine g_exit ?_ | refine g_then_exit ?_ | refine g_in_exit ?_ | refine g_in_other rfl ?_ | refine g_skip ?_
        | refine g_label ?_ | refine g_cond_true rfl ?_ | refine g_cond_false rfl ?_ | exact s_m | intro _)
      refine g_as 11 (v' := int ((c + 1 : Nat) : Int)) rfl (congrArg (Value.int .i64) (by push_cast; rfl)) ?_
      exact g_again ⟨c + 1, strN c, n1, H6⟩ (by simp only; omega) ⟨hc', hsn, ⟨by simp only; rw [hss]; omega, hz1⟩, .inl hk, hn1.imp id (fun h j hj => by
        by_cases e : j = c
        · rw [e, hk]; decide
        · exact h j (by simp only at hj; omega))⟩ (by (repeat (first | exact FrSub.nil | refine FrSub.cons rfl ?_)); first | done | fail) (by (repeat (first | exact Take.nil | apply Take.cons | exact Sel.here | apply Sel.there)); first | done | fail)
    · rw [hk]
      have hkl : [(2 : Int)].length = 1 := rfl
      have hr : ∀ k', k' = 0 → Reads (.own (some ⟨ob, 0, none⟩) 1 nc 1 [int 2] 3) ⟨ob, 0 + k', none⟩ (int 2) := fun k' e => by
        subst e; exact reads_own rfl
      repeat (first
        | (refine g_ops ?_; first | refine s_q ?_ | refine s_v ?_ | refine s_s ?_ | refine s_n (fun _ => ?_) | refine s_x ?_ | refine s_y ?_ | refine s_mq ?_ | refine s_app (fun _ _ => ?_) | refine s_mv ?_ | refine s_ms ?_ | refine s_b0 (fun _ => ?_) | ((fail_if_success refine g_lit rfl rfl rfl ?_); first | apply g_partM rfl rfl rfl | apply g_partMB rfl rfl rfl | fail))
        | refine g_seq ?_ | refine g_region ?_ | refine g_nil ?_ | refine g_then_normal ?_ | refine g_block ?_ | refine g_in_normal ?_ | refine g_retc ?_
        | refine g_then_ret ?_ | refine g_in_ret ?_ | refine g_exit ?_ | refine g_then_exit ?_ | refine g_in_exit ?_ | refine g_in_other rfl ?_ | refine g_skip ?_
        | refine g_label ?_ | refine g_cond_true rfl ?_ | refine g_cond_false rfl ?_ | exact s_m | intro _)
      refine g_as 11 (v' := int ((c + 1 : Nat) : Int)) rfl (congrArg (Value.int .i64) (by push_cast; rfl)) ?_
      exact g_again ⟨c + 1, n0, strN c, H6⟩ (by simp only; omega) ⟨hc', hsn, ⟨hz0, by simp only; rw [hss]; omega⟩, hn0.imp id (fun h j hj => by
        by_cases e : j = c
        · rw [e, hk]; decide
        · exact h j (by simp only at hj; omega)), .inl hk⟩ (by (repeat (first | exact FrSub.nil | refine FrSub.cons rfl ?_)); first | done | fail) (by (repeat (first | exact Take.nil | apply Take.cons | exact Sel.here | apply Sel.there)); first | done | fail)
  · have hc6 : c = 676 := by omega
    have ho0 : whose twoL n0 = 1 := hn0.elim id fun h => absurd str_one (h 1 (by omega))
    have ho1 : whose twoL n1 = 2 := hn1.elim id fun h => absurd str_two (h 0 (by omega))
    clear hn0 hn1
    repeat (first
      | (refine g_ops ?_; first | refine s_q ?_ | refine s_v ?_ | refine s_s ?_ | refine s_n (fun _ => ?_) | refine s_x ?_ | refine s_y ?_ | refine s_mq ?_ | refine s_app (fun _ _ => ?_) | refine s_mv ?_ | refine s_ms ?_ | refine s_b0 (fun _ => ?_) | ((fail_if_success refine g_lit rfl rfl rfl ?_); first | apply g_partM rfl rfl rfl | apply g_partMB rfl rfl rfl | fail))
      | refine g_seq ?_ | refine g_region ?_ | refine g_nil ?_ | refine g_then_normal ?_ | refine g_block ?_ | refine g_in_normal ?_ | refine g_retc ?_
      | refine g_then_ret ?_ | refine g_in_ret ?_ | refine g_exit ?_ | refine g_then_exit ?_ | refine g_in_exit ?_ | refine g_in_other rfl ?_ | refine g_skip ?_
      | refine g_label ?_ | refine g_cond_true rfl ?_ | refine g_cond_false rfl ?_ | exact s_m | intro _)
    refine g_cutX (X := Nat × Nat) (fun y => [(0, .slice (some ⟨wb, wo, none⟩) 2 wc), (1, int bad), (2, int code), (3, int ticks), (15, ptr y.1)]) (fun y => [.row y.1 [.string ByteArray.empty, .slice (some ⟨y.2, 0, none⟩) 2 2] 25, .row y.2 [.string n1, int 0, .slice none 0 0, .string n0, int 0, .slice none 0 0] 34, Pile H1]) (fun _ => True) ?_ (fun y _ => ?_)
    · refine g_draw (.take 0 (.take 1 (.see 2 [] (.take 3 (.take 4 (.take 5 (.see 6 [] (.take 7 (.two 8 (.take 9 (.one 10 (.one 11 .done))) 10 (.one 8 (.take 9 (.one 11 .done)))))))))))) (by kernel_rfl) (C := [.row nb [.string n0, .string n1] 9]) (by (repeat (first | exact Take.nil | apply Take.cons | exact Sel.here | apply Sel.there)); first | done | fail) (fun k hd hk => ?_)
      repeat (first
        | (refine gp_take ?_; first | refine p_q ?_ | refine p_x ?_ | refine p_mq ?_ | ((fail_if_success refine gp_lit rfl rfl rfl rfl ?_); first | apply gp_guard_dec rfl rfl rfl rfl | apply gp_guard rfl rfl rfl rfl | fail))
        | (refine gp_see ?_; first | refine p_f ?_ | refine p_sx ?_ | ((fail_if_success refine gp_lit rfl rfl rfl rfl ?_); first | apply gp_guard_dec rfl rfl rfl rfl | apply gp_guard rfl rfl rfl rfl | fail) | refine p_sq ?_)
        | (refine gp_one ?_; first | refine p_v ?_ | refine p_s ?_ | refine p_n (fun _ => ?_) | refine p_y ?_ | refine p_app (fun _ _ => ?_) | refine p_mv ?_ | refine p_ms ?_ | refine p_b0 (fun _ => ?_) | ((fail_if_success refine gp_lit rfl rfl rfl rfl ?_); first | apply gp_guard_dec rfl rfl rfl rfl | apply gp_guard rfl rfl rfl rfl | fail))
        | refine gp_two ?_ ?_ | refine gp_done hd hk ?_ | intro _ | refine p_ta hd hk (fun _ _ _ hd hk => ?_) | refine p_ts hd hk (fun _ hd hk => ?_))
      · rename_i q b15
        exact g_midX (b15, q) trivial (by (repeat (first | exact FrSub.nil | refine FrSub.cons rfl ?_)); first | done | fail) (by (repeat (first | exact Take.nil | apply Take.cons | exact Sel.here | apply Sel.there)); first | done | fail)
      · repeat (first
          | (refine gp_take ?_; first | refine p_q ?_ | refine p_x ?_ | refine p_mq ?_ | ((fail_if_success refine gp_lit rfl rfl rfl rfl ?_); first | apply gp_guard_dec rfl rfl rfl rfl | apply gp_guard rfl rfl rfl rfl | fail))
          | (refine gp_see ?_; first | refine p_f ?_ | refine p_sx ?_ | ((fail_if_success refine gp_lit rfl rfl rfl rfl ?_); first | apply gp_guard_dec rfl rfl rfl rfl | apply gp_guard rfl rfl rfl rfl | fail) | refine p_sq ?_)
          | (refine gp_one ?_; first | refine p_v ?_ | refine p_s ?_ | refine p_n (fun _ => ?_) | refine p_y ?_ | refine p_app (fun _ _ => ?_) | refine p_mv ?_ | refine p_ms ?_ | refine p_b0 (fun _ => ?_) | ((fail_if_success refine gp_lit rfl rfl rfl rfl ?_); first | apply gp_guard_dec rfl rfl rfl rfl | apply gp_guard rfl rfl rfl rfl | fail))
          | refine gp_two ?_ ?_ | refine gp_done hd hk ?_ | intro _ | refine p_ta hd hk (fun _ _ _ hd hk => ?_) | refine p_ts hd hk (fun _ hd hk => ?_))
        rename_i b15 q
        exact g_midX (b15, q) trivial (by (repeat (first | exact FrSub.nil | refine FrSub.cons rfl ?_)); first | done | fail) (by (repeat (first | exact Take.nil | apply Take.cons | exact Sel.here | apply Sel.there)); first | done | fail)
    · obtain ⟨b15, q⟩ := y
      dsimp only
      refine g_toOwn (b := q) (len := 2) (n := 3) (by (repeat (first | exact Sel.here | apply Sel.there)); first | done | fail) rfl rfl ?_
      refine g_pile (p := some ⟨q, 0, none⟩) (m := 2) (c := 2) (n := 3) (xs := [.string n1, int 0, .slice none 0 0, .string n0, int 0, .slice none 0 0]) (e := 34) (by (repeat (first | exact Sel.here | apply Sel.there)); first | done | fail) (by (repeat (first | exact Sel.here | apply Sel.there)); first | done | fail) (fun H3 hs3 hA3 => ?_)
      have hx : BtAt' (Pile H3) (yesB q n0 n1) := ⟨hA3, fun y hy => by
        have hnil : ∀ C, SlAt C 1 none 0 (([] : List ByteArray).map Value.string) := fun C => ⟨rfl, rfl, fun _ => rfl, fun j v hv => by simp at hv⟩
        simp only [List.mem_cons, List.not_mem_nil, or_false] at hy
        rcases hy with rfl | rfl
        · exact ⟨hnil _, by simp, by simp only; omega⟩
        · exact ⟨hnil _, by simp, by simp only; omega⟩, by simp⟩
      repeat (first
        | (refine g_ops ?_; first | refine s_q ?_ | refine s_v ?_ | refine s_s ?_ | refine s_n (fun _ => ?_) | refine s_x ?_ | refine s_y ?_ | refine s_mq ?_ | refine s_app (fun _ _ => ?_) | refine s_mv ?_ | refine s_ms ?_ | refine s_b0 (fun _ => ?_) | ((fail_if_success refine g_lit rfl rfl rfl ?_); first | apply g_partM rfl rfl rfl | apply g_partMB rfl rfl rfl | fail))
        | refine g_seq ?_ | refine g_region ?_ | refine g_nil ?_ | refine g_then_normal ?_ | refine g_block ?_ | refine g_in_normal ?_ | refine g_retc ?_
        | refine g_then_ret ?_ | refine g_in_ret ?_ | refine g_exit ?_ | refine g_then_exit ?_ | refine g_in_exit ?_ | refine g_in_other rfl ?_ | refine g_skip ?_
        | refine g_label ?_ | refine g_cond_true rfl ?_ | refine g_cond_false rfl ?_ | exact s_m | intro _)
      refine g_draw (.take 0 (.see 2 [] (.one 1 (.one 3 (.take 4 .done))))) (by kernel_rfl) (C := [.row b15 [.string ByteArray.empty, .slice (some ⟨q, 0, none⟩) 2 2] 25]) (by (repeat (first | exact Take.nil | apply Take.cons | exact Sel.here | apply Sel.there)); first | done | fail) (fun k hd hk => ?_)
      repeat (first
        | (refine gp_take ?_; first | refine p_q ?_ | refine p_x ?_ | refine p_mq ?_ | ((fail_if_success refine gp_lit rfl rfl rfl rfl ?_); first | apply gp_guard_dec rfl rfl rfl rfl | apply gp_guard rfl rfl rfl rfl | fail))
        | (refine gp_see ?_; first | refine p_f ?_ | refine p_sx ?_ | ((fail_if_success refine gp_lit rfl rfl rfl rfl ?_); first | apply gp_guard_dec rfl rfl rfl rfl | apply gp_guard rfl rfl rfl rfl | fail) | refine p_sq ?_)
        | (refine gp_one ?_; first | refine p_v ?_ | refine p_s ?_ | refine p_n (fun _ => ?_) | refine p_y ?_ | refine p_app (fun _ _ => ?_) | refine p_mv ?_ | refine p_ms ?_ | refine p_b0 (fun _ => ?_) | ((fail_if_success refine gp_lit rfl rfl rfl rfl ?_); first | apply gp_guard_dec rfl rfl rfl rfl | apply gp_guard rfl rfl rfl rfl | fail) | refine p_c (two_) (fun _ _ => ?_))
        | refine gp_two ?_ ?_ | refine gp_done hd hk ?_ | intro _ | refine p_ta hd hk (fun _ _ _ hd hk => ?_) | refine p_ts hd hk (fun _ hd hk => ?_))
      rename_i y2 hy2
      obtain ⟨rb, H4⟩ := y2
      obtain ⟨hs4, hR⟩ := hy2
      dsimp only [List.cons_append, List.nil_append] at hs4 hR ⊢
      have hbg := begin_ ⟨0, 0, 7⟩ (some ⟨rb, 0, none⟩) 2 twoL hR (by simp [twoL]) two_in (yesB q n0 n1) (hx.grow hs4)
      repeat (first
        | (refine gp_take ?_; first | refine p_q ?_ | refine p_x ?_ | refine p_mq ?_ | ((fail_if_success refine gp_lit rfl rfl rfl rfl ?_); first | apply gp_guard_dec rfl rfl rfl rfl | apply gp_guard rfl rfl rfl rfl | fail))
        | (refine gp_see ?_; first | refine p_f ?_ | refine p_sx ?_ | ((fail_if_success refine gp_lit rfl rfl rfl rfl ?_); first | apply gp_guard_dec rfl rfl rfl rfl | apply gp_guard rfl rfl rfl rfl | fail) | refine p_sq ?_)
        | (refine gp_one ?_; first | refine p_v ?_ | refine p_s ?_ | refine p_n (fun _ => ?_) | refine p_y ?_ | refine p_app (fun _ _ => ?_) | refine p_mv ?_ | refine p_ms ?_ | refine p_b0 (fun _ => ?_) | ((fail_if_success refine gp_lit rfl rfl rfl rfl ?_); first | apply gp_guard_dec rfl rfl rfl rfl | apply gp_guard rfl rfl rfl rfl | fail) | refine p_c (hbg) (fun _ _ => ?_))
        | refine gp_two ?_ ?_ | refine gp_done hd hk ?_ | intro _ | refine p_ta hd hk (fun _ _ _ hd hk => ?_) | refine p_ts hd hk (fun _ hd hk => ?_))
      rename_i y4 hy4
      obtain ⟨g, H5⟩ := y4
      obtain ⟨hs5, hg, htx, hky, hpd, hws, hM, hwt⟩ := hy4
      dsimp only [List.cons_append, List.nil_append] at hs5 hg htx hky hpd hws hM hwt ⊢
      simp only [ownersL, List.map_cons, List.map_nil, ho0, ho1] at hws
      obtain ⟨hns, hpn⟩ := two_parts hg.pts hpd (by rw [hg.cut, hws])
      have hsn : HP.sub H H5 := hs1.trans (hs3.trans (hs4.trans hs5))
      have hnd := nodes_ (C := Pile H5) g hg.ns hg.pts.len
      have hnl : g.ns.length = 2 := by rw [hns]; rfl
      rw [hnl] at hnd
      repeat (first
        | (refine g_ops ?_; first | refine s_q ?_ | refine s_v ?_ | refine s_s ?_ | refine s_n (fun _ => ?_) | refine s_x ?_ | refine s_y ?_ | refine s_mq ?_ | refine s_app (fun _ _ => ?_) | refine s_mv ?_ | refine s_ms ?_ | refine s_b0 (fun _ => ?_) | ((fail_if_success refine g_lit rfl rfl rfl ?_); first | apply g_partM rfl rfl rfl | apply g_partMB rfl rfl rfl | fail) | refine s_c (hnd) (fun _ _ => ?_))
        | refine g_seq ?_ | refine g_region ?_ | refine g_nil ?_ | refine g_then_normal ?_ | refine g_block ?_ | refine g_in_normal ?_ | refine g_retc ?_
        | refine g_then_ret ?_ | refine g_in_ret ?_ | refine g_exit ?_ | refine g_then_exit ?_ | refine g_in_exit ?_ | refine g_in_other rfl ?_ | refine g_skip ?_
        | refine g_label ?_ | refine g_cond_true rfl ?_ | refine g_cond_false rfl ?_ | exact s_m | intro _)
      rename_i ynd _
      dsimp only [List.cons_append, List.nil_append]
      have h0 : g.cells = Gg.cells { g with wt := ((0 : Nat) : Int) } := by simp only [Gg.cells, hwt]; rfl
      rw [h0]
      refine g_loop (X := Nat) (fun y => [(0, .slice (some ⟨wb, wo, none⟩) 2 wc), (1, int bad), (2, int code), (3, int ticks), (16, ptr g.b), (17, .bool (decide (30 ≤ (y : Int)))), (18, int y)]) (fun y => [.row g.b (Gg.cells { g with wt := (y : Int) }) 79, .map g.mp (pmap g.bt.key g.T), .map g.ma (amap g.M), Pile H5])
        (fun y => (y : Int) ≤ ticks) (fun y => ticks.toNat - y) 0 (by simpa using ht0) (by (repeat (first | exact FrSub.nil | refine FrSub.cons rfl ?_)); first | done | fail) (by (repeat (first | exact Take.nil | apply Take.cons | exact Sel.here | apply Sel.there)); first | done | fail) (fun y hy => ?_)
      have htk := tick_ { g with wt := (y : Int) } ⟨by simp only; omega, by simp only; omega⟩
      repeat (first
        | (refine g_ops ?_; first | refine s_q ?_ | refine s_v ?_ | refine s_s ?_ | refine s_n (fun _ => ?_) | refine s_x ?_ | refine s_y ?_ | refine s_mq ?_ | refine s_app (fun _ _ => ?_) | refine s_mv ?_ | refine s_ms ?_ | refine s_b0 (fun _ => ?_) | ((fail_if_success refine g_lit rfl rfl rfl ?_); first | apply g_partM rfl rfl rfl | apply g_partMB rfl rfl rfl | fail))
        | refine g_seq ?_ | refine g_region ?_ | refine g_nil ?_ | refine g_then_normal ?_ | refine g_block ?_ | refine g_in_normal ?_ | refine g_retc ?_
        | refine g_then_ret ?_ | refine g_in_ret ?_ | refine g_exit ?_ | refine g_then_exit ?_ | refine g_in_exit ?_ | refine g_in_other rfl ?_ | refine g_skip ?_
        | refine g_label ?_ | refine g_cond_true rfl ?_ | refine g_cond_false rfl ?_ | exact s_m | intro _)
      refine g_cond_dec rfl (fun h3 => ?_) (fun h3 => ?_)
      · repeat (first
          | (refine g_ops ?_; first | refine s_q ?_ | refine s_v ?_ | refine s_s ?_ | refine s_n (fun _ => ?_) | refine s_x ?_ | refine s_y ?_ | refine s_mq ?_ | refine s_app (fun _ _ => ?_) | refine s_mv ?_ | refine s_ms ?_ | refine s_b0 (fun _ => ?_) | ((fail_if_success refine g_lit rfl rfl rfl ?_); first | apply g_partM rfl rfl rfl | apply g_partMB rfl rfl rfl | fail) | refine s_c (htk) (fun _ _ => ?_))
          | refine g_seq ?_ | refine g_region ?_ | refine g_nil ?_ | refine g_then_normal ?_ | refine g_block ?_ | refine g_in_normal ?_ | refine g_retc ?_
          | refine g_then_ret ?_ | refine g_in_ret ?_ | refine g_exit ?_ | refine g_then_exit ?_ | refine g_in_exit ?_ | refine g_in_other rfl ?_ | refine g_skip ?_
          | refine g_label ?_ | refine g_cond_true rfl ?_ | refine g_cond_false rfl ?_ | exact s_m | intro _)
        dsimp only [List.cons_append, List.nil_append]
        refine g_as 18 (v' := int ((y + 1 : Nat) : Int)) rfl (congrArg (Value.int .i64) (by push_cast; rfl)) ?_
        exact g_again (y + 1) (by omega) (by omega) (by (repeat (first | exact FrSub.nil | refine FrSub.cons rfl ?_)); first | done | fail) (by (repeat (first | exact Take.nil | apply Take.cons | exact Sel.here | apply Sel.there)); first | done | fail)
      · have hyt : (y : Int) = ticks := by omega
        have hrp := ripe_ { g with wt := (y : Int) } (hg.wt y)
        have hrb : ripeB { g with wt := (y : Int) } = decide (30 ≤ (y : Int)) := by simp [ripeB, hM, hns, wrongL, badOf, aget]
        rw [hrb] at hrp
        repeat (first
          | (refine g_ops ?_; first | refine s_q ?_ | refine s_v ?_ | refine s_s ?_ | refine s_n (fun _ => ?_) | refine s_x ?_ | refine s_y ?_ | refine s_mq ?_ | refine s_app (fun _ _ => ?_) | refine s_mv ?_ | refine s_ms ?_ | refine s_b0 (fun _ => ?_) | ((fail_if_success refine g_lit rfl rfl rfl ?_); first | apply g_partM rfl rfl rfl | apply g_partMB rfl rfl rfl | fail))
          | refine g_seq ?_ | refine g_region ?_ | refine g_nil ?_ | refine g_then_normal ?_ | refine g_block ?_ | refine g_in_normal ?_ | refine g_retc ?_
          | refine g_then_ret ?_ | refine g_in_ret ?_ | refine g_exit ?_ | refine g_then_exit ?_ | refine g_in_exit ?_ | refine g_in_other rfl ?_ | refine g_skip ?_
          | refine g_label ?_ | refine g_cond_true rfl ?_ | refine g_cond_false rfl ?_ | exact s_m | intro _)
        refine g_as 114 (v' := .bool false) rfl (congrArg Value.bool (by rw [hyt]; simp)) ?_
        repeat (first
          | (refine g_ops ?_; first | refine s_q ?_ | refine s_v ?_ | refine s_s ?_ | refine s_n (fun _ => ?_) | refine s_x ?_ | refine s_y ?_ | refine s_mq ?_ | refine s_app (fun _ _ => ?_) | refine s_mv ?_ | refine s_ms ?_ | refine s_b0 (fun _ => ?_) | ((fail_if_success refine g_lit rfl rfl rfl ?_); first | apply g_partM rfl rfl rfl | apply g_partMB rfl rfl rfl | fail) | refine s_k (hrp) ?_)
          | refine g_seq ?_ | refine g_region ?_ | refine g_nil ?_ | refine g_then_normal ?_ | refine g_block ?_ | refine g_in_normal ?_ | refine g_retc ?_
          | refine g_then_ret ?_ | refine g_in_ret ?_ | refine g_exit ?_ | refine g_then_exit ?_ | refine g_in_exit ?_ | refine g_in_other rfl ?_ | refine g_skip ?_
          | refine g_label ?_ | refine g_cond_true rfl ?_ | refine g_cond_false rfl ?_ | exact s_m | intro _)
        dsimp only [List.cons_append, List.nil_append]
        refine g_as 119 (v' := .bool false) rfl (congrArg Value.bool (by simp)) ?_
        repeat ((fail_if_success refine s_at 19 ?_); first
          | (refine g_ops ?_; first | refine s_q ?_ | refine s_v ?_ | refine s_s ?_ | refine s_n (fun _ => ?_) | refine s_x ?_ | refine s_y ?_ | refine s_mq ?_ | refine s_app (fun _ _ => ?_) | refine s_mv ?_ | refine s_ms ?_ | refine s_b0 (fun _ => ?_) | ((fail_if_success refine g_lit rfl rfl rfl ?_); first | apply g_partM rfl rfl rfl | apply g_partMB rfl rfl rfl | fail))
          | refine g_seq ?_ | refine g_region ?_ | refine g_nil ?_ | refine g_then_normal ?_ | refine g_block ?_ | refine g_in_normal ?_ | refine g_retc ?_
          | refine g_then_ret ?_ | refine g_in_ret ?_ | refine g_exit ?_ | refine g_then_exit ?_ | refine g_in_exit ?_ | refine g_in_other rfl ?_ | refine g_skip ?_
          | refine g_label ?_ | refine g_cond_true rfl ?_ | refine g_cond_false rfl ?_ | exact s_m | intro _)
        repeat (first | (refine g_ops ?_; refine s_q ?_) | refine g_nil ?_ | refine g_then_normal ?_ | refine g_seq ?_)
        refine g_cutX (X := Unit) (fun _ => [(0, .slice (some ⟨wb, wo, none⟩) 2 wc), (1, int bad), (2, int code), (3, int ticks), (16, ptr g.b), (19, int (-1)), (129, .bool (decide (0 < code ∧ code ≤ 12 ∧ code ≠ 4)))]) (fun _ => [.row g.b (Gg.cells { g with wt := (y : Int) }) 79, .map g.mp (pmap g.bt.key g.T), .map g.ma (amap g.M), Pile H5]) (fun _ => True) ?_ (fun _ _ => ?_)
        · repeat (first
            | (refine g_ops ?_; first | refine s_q ?_ | refine s_v ?_ | refine s_s ?_ | refine s_n (fun _ => ?_) | refine s_x ?_ | refine s_y ?_ | refine s_mq ?_ | refine s_app (fun _ _ => ?_) | refine s_mv ?_ | refine s_ms ?_ | refine s_b0 (fun _ => ?_) | ((fail_if_success refine g_lit rfl rfl rfl ?_); first | apply g_partM rfl rfl rfl | apply g_partMB rfl rfl rfl | fail))
            | refine g_seq ?_ | refine g_region ?_ | refine g_nil ?_ | refine g_then_normal ?_ | refine g_block ?_ | refine g_in_normal ?_ | refine g_retc ?_
            | refine g_then_ret ?_ | refine g_in_ret ?_ | refine g_exit ?_ | refine g_then_exit ?_ | refine g_in_exit ?_ | refine g_in_other rfl ?_ | refine g_skip ?_
            | refine g_label ?_ | refine g_cond_true rfl ?_ | refine g_cond_false rfl ?_ | exact s_m | intro _)
          by_cases c1 : 0 < code
          · refine g_as 122 (v' := .bool true) rfl (congrArg Value.bool (by simp [c1])) ?_
            repeat (first
              | (refine g_ops ?_; first | refine s_q ?_ | refine s_v ?_ | refine s_s ?_ | refine s_n (fun _ => ?_) | refine s_x ?_ | refine s_y ?_ | refine s_mq ?_ | refine s_app (fun _ _ => ?_) | refine s_mv ?_ | refine s_ms ?_ | refine s_b0 (fun _ => ?_) | ((fail_if_success refine g_lit rfl rfl rfl ?_); first | apply g_partM rfl rfl rfl | apply g_partMB rfl rfl rfl | fail))
              | refine g_seq ?_ | refine g_region ?_ | refine g_nil ?_ | refine g_then_normal ?_ | refine g_block ?_ | refine g_in_normal ?_ | refine g_retc ?_
              | refine g_then_ret ?_ | refine g_in_ret ?_ | refine g_exit ?_ | refine g_then_exit ?_ | refine g_in_exit ?_ | refine g_in_other rfl ?_ | refine g_skip ?_
              | refine g_label ?_ | refine g_cond_true rfl ?_ | refine g_cond_false rfl ?_ | exact s_m | intro _)
            by_cases c2 : code ≤ 12
            · refine g_as 126 (v' := .bool true) rfl (congrArg Value.bool (by simp [c2])) ?_
              repeat (first
                | (refine g_ops ?_; first | refine s_q ?_ | refine s_v ?_ | refine s_s ?_ | refine s_n (fun _ => ?_) | refine s_x ?_ | refine s_y ?_ | refine s_mq ?_ | refine s_app (fun _ _ => ?_) | refine s_mv ?_ | refine s_ms ?_ | refine s_b0 (fun _ => ?_) | ((fail_if_success refine g_lit rfl rfl rfl ?_); first | apply g_partM rfl rfl rfl | apply g_partMB rfl rfl rfl | fail))
                | refine g_seq ?_ | refine g_region ?_ | refine g_nil ?_ | refine g_then_normal ?_ | refine g_block ?_ | refine g_in_normal ?_ | refine g_retc ?_
                | refine g_then_ret ?_ | refine g_in_ret ?_ | refine g_exit ?_ | refine g_then_exit ?_ | refine g_in_exit ?_ | refine g_in_other rfl ?_
                | refine g_skip ?_ | refine g_label ?_ | refine g_cond_true rfl ?_ | refine g_cond_false rfl ?_ | exact s_m | intro _)
              refine g_as 129 (v' := .bool (decide (0 < code ∧ code ≤ 12 ∧ code ≠ 4))) rfl (congrArg Value.bool (by simp [c1, c2])) ?_
              exact g_midX () trivial (by (repeat (first | exact FrSub.nil | refine FrSub.cons rfl ?_)); first | done | fail) (by (repeat (first | exact Take.nil | apply Take.cons | exact Sel.here | apply Sel.there)); first | done | fail)
            · refine g_as 126 (v' := .bool false) rfl (congrArg Value.bool (by simp; omega)) ?_
              repeat (first
                | (refine g_ops ?_; first | refine s_q ?_ | refine s_v ?_ | refine s_s ?_ | refine s_n (fun _ => ?_) | refine s_x ?_ | refine s_y ?_ | refine s_mq ?_ | refine s_app (fun _ _ => ?_) | refine s_mv ?_ | refine s_ms ?_ | refine s_b0 (fun _ => ?_) | ((fail_if_success refine g_lit rfl rfl rfl ?_); first | apply g_partM rfl rfl rfl | apply g_partMB rfl rfl rfl | fail))
                | refine g_seq ?_ | refine g_region ?_ | refine g_nil ?_ | refine g_then_normal ?_ | refine g_block ?_ | refine g_in_normal ?_ | refine g_retc ?_
                | refine g_then_ret ?_ | refine g_in_ret ?_ | refine g_exit ?_ | refine g_then_exit ?_ | refine g_in_exit ?_ | refine g_in_other rfl ?_
                | refine g_skip ?_ | refine g_label ?_ | refine g_cond_true rfl ?_ | refine g_cond_false rfl ?_ | exact s_m | intro _)
              refine g_as 129 (v' := .bool (decide (0 < code ∧ code ≤ 12 ∧ code ≠ 4))) rfl (congrArg Value.bool (by simp [c2])) ?_
              exact g_midX () trivial (by (repeat (first | exact FrSub.nil | refine FrSub.cons rfl ?_)); first | done | fail) (by (repeat (first | exact Take.nil | apply Take.cons | exact Sel.here | apply Sel.there)); first | done | fail)
          · refine g_as 122 (v' := .bool false) rfl (congrArg Value.bool (by simp; omega)) ?_
            repeat (first
              | (refine g_ops ?_; first | refine s_q ?_ | refine s_v ?_ | refine s_s ?_ | refine s_n (fun _ => ?_) | refine s_x ?_ | refine s_y ?_ | refine s_mq ?_ | refine s_app (fun _ _ => ?_) | refine s_mv ?_ | refine s_ms ?_ | refine s_b0 (fun _ => ?_) | ((fail_if_success refine g_lit rfl rfl rfl ?_); first | apply g_partM rfl rfl rfl | apply g_partMB rfl rfl rfl | fail))
              | refine g_seq ?_ | refine g_region ?_ | refine g_nil ?_ | refine g_then_normal ?_ | refine g_block ?_ | refine g_in_normal ?_ | refine g_retc ?_
              | refine g_then_ret ?_ | refine g_in_ret ?_ | refine g_exit ?_ | refine g_then_exit ?_ | refine g_in_exit ?_ | refine g_in_other rfl ?_ | refine g_skip ?_
              | refine g_label ?_ | refine g_cond_true rfl ?_ | refine g_cond_false rfl ?_ | exact s_m | intro _)
            refine g_as 129 (v' := .bool (decide (0 < code ∧ code ≤ 12 ∧ code ≠ 4))) rfl (congrArg Value.bool (by simp [c1])) ?_
            exact g_midX () trivial (by (repeat (first | exact FrSub.nil | refine FrSub.cons rfl ?_)); first | done | fail) (by (repeat (first | exact Take.nil | apply Take.cons | exact Sel.here | apply Sel.there)); first | done | fail)
        repeat (first | refine g_then_normal ?_ | refine g_seq ?_)
        refine g_cutX (X := Int) (fun no => [(0, .slice (some ⟨wb, wo, none⟩) 2 wc), (1, int bad), (2, int code), (3, int ticks), (16, ptr g.b), (19, int no)]) (fun _ => [.row g.b (Gg.cells { g with wt := (y : Int) }) 79, .map g.mp (pmap g.bt.key g.T), .map g.ma (amap g.M), Pile H5]) (fun no => (no = -1 ∧ ¬ (0 < code ∧ code ≤ 12 ∧ code ≠ 4)) ∨ ((no = 0 ∨ no = 1) ∧ 0 < code ∧ code ≤ 12 ∧ code ≠ 4)) ?_ (fun no hno => ?_)
        · have hrd := round bad 2 (by decide) (by decide)
          have hlf := lf_in bad 2 (by decide)
          by_cases hc3 : 0 < code ∧ code ≤ 12 ∧ code ≠ 4
          · rw [decide_eq_true hc3]
            repeat (first
              | (refine g_ops ?_; first | refine s_q ?_ | refine s_v ?_ | refine s_s ?_ | refine s_n (fun _ => ?_) | refine s_x ?_ | refine s_y ?_ | refine s_mq ?_ | refine s_app (fun _ _ => ?_) | refine s_mv ?_ | refine s_ms ?_ | refine s_b0 (fun _ => ?_) | ((fail_if_success refine g_lit rfl rfl rfl ?_); first | apply g_partM rfl rfl rfl | apply g_partMB rfl rfl rfl | fail) | refine s_k (hrd) ?_)
              | refine g_seq ?_ | refine g_region ?_ | refine g_nil ?_ | refine g_then_normal ?_ | refine g_block ?_ | refine g_in_normal ?_ | refine g_retc ?_
              | refine g_then_ret ?_ | refine g_in_ret ?_ | refine g_exit ?_ | refine g_then_exit ?_ | refine g_in_exit ?_ | refine g_in_other rfl ?_ | refine g_skip ?_
              | refine g_label ?_ | refine g_cond_true rfl ?_ | refine g_cond_false rfl ?_ | exact s_m | intro _)
            exact g_midX (lf bad 2) (.inr ⟨by omega, hc3⟩) (by (repeat (first | exact FrSub.nil | refine FrSub.cons rfl ?_)); first | done | fail) (by (repeat (first | exact Take.nil | apply Take.cons | exact Sel.here | apply Sel.there)); first | done | fail)
          · rw [decide_eq_false hc3]
            repeat (first
              | (refine g_ops ?_; first | refine s_q ?_ | refine s_v ?_ | refine s_s ?_ | refine s_n (fun _ => ?_) | refine s_x ?_ | refine s_y ?_ | refine s_mq ?_ | refine s_app (fun _ _ => ?_) | refine s_mv ?_ | refine s_ms ?_ | refine s_b0 (fun _ => ?_) | ((fail_if_success refine g_lit rfl rfl rfl ?_); first | apply g_partM rfl rfl rfl | apply g_partMB rfl rfl rfl | fail))
              | refine g_seq ?_ | refine g_region ?_ | refine g_nil ?_ | refine g_then_normal ?_ | refine g_block ?_ | refine g_in_normal ?_ | refine g_retc ?_
              | refine g_then_ret ?_ | refine g_in_ret ?_ | refine g_exit ?_ | refine g_then_exit ?_ | refine g_in_exit ?_ | refine g_in_other rfl ?_ | refine g_skip ?_
              | refine g_label ?_ | refine g_cond_true rfl ?_ | refine g_cond_false rfl ?_ | exact s_m | intro _)
            exact g_midX (-1) (.inl ⟨rfl, hc3⟩) (by (repeat (first | exact FrSub.nil | refine FrSub.cons rfl ?_)); first | done | fail) (by (repeat (first | exact Take.nil | apply Take.cons | exact Sel.here | apply Sel.there)); first | done | fail)
        repeat (first
          | (refine g_ops ?_; first | refine s_q ?_ | refine s_v ?_ | refine s_s ?_ | refine s_n (fun _ => ?_) | refine s_x ?_ | refine s_y ?_ | refine s_mq ?_ | refine s_app (fun _ _ => ?_) | refine s_mv ?_ | refine s_ms ?_ | refine s_b0 (fun _ => ?_) | ((fail_if_success refine g_lit rfl rfl rfl ?_); first | apply g_partM rfl rfl rfl | apply g_partMB rfl rfl rfl | fail))
          | refine g_seq ?_ | refine g_region ?_ | refine g_nil ?_ | refine g_then_normal ?_ | refine g_block ?_ | refine g_in_normal ?_ | refine g_retc ?_
          | refine g_then_ret ?_ | refine g_in_ret ?_ | refine g_exit ?_ | refine g_then_exit ?_ | refine g_in_exit ?_ | refine g_in_other rfl ?_ | refine g_skip ?_
          | refine g_label ?_ | refine g_cond_true rfl ?_ | refine g_cond_false rfl ?_ | exact s_m | intro _)
        refine g_loop (X := YlX) (fun y => [(0, .slice (some ⟨wb, wo, none⟩) 2 wc), (1, int bad), (2, int code), (3, int ticks), (16, ptr g.b), (19, int no), (20, int y.i)]) (fun z => [.row g.b (Gg.cells { g with wt := (y : Int) }) 79, .map g.mp (pmap g.bt.key g.T), .map g.ma (amap z.M), Pile z.H])
          (fun z => z.i ≤ 2 ∧ HP.sub H5 z.H ∧ GgAt (Pile z.H) { g with M := z.M, wt := (y : Int) } ∧ z.M.map (fun x => (x.1, x.2.d)) = (List.range z.i).map fun (j : Nat) => ((j : Int) + 1, ansD no code w0 w1 j)) (fun z => 2 - z.i) ⟨0, g.M, H5⟩ ⟨by simp only; omega, HP.sub.refl _, hg.wt y, by simp only [hM]; rfl⟩ (by (repeat (first | exact FrSub.nil | refine FrSub.cons rfl ?_)); first | done | fail) (by (repeat (first | exact Take.nil | apply Take.cons | exact Sel.here | apply Sel.there)); first | done | fail) (fun z hz => ?_)
        obtain ⟨i, M, H6⟩ := z
        obtain ⟨hi, hs6, hgM, hkd⟩ := hz
        dsimp only at hi hs6 hgM hkd ⊢
        repeat (first
          | (refine g_ops ?_; first | refine s_q ?_ | refine s_v ?_ | refine s_s ?_ | refine s_n (fun _ => ?_) | refine s_x ?_ | refine s_y ?_ | refine s_mq ?_ | refine s_app (fun _ _ => ?_) | refine s_mv ?_ | refine s_ms ?_ | refine s_b0 (fun _ => ?_) | ((fail_if_success refine g_lit rfl rfl rfl ?_); first | apply g_partM rfl rfl rfl | apply g_partMB rfl rfl rfl | fail))
          | refine g_seq ?_ | refine g_region ?_ | refine g_nil ?_ | refine g_then_normal ?_ | refine g_block ?_ | refine g_in_normal ?_ | refine g_retc ?_
          | refine g_then_ret ?_ | refine g_in_ret ?_ | refine g_exit ?_ | refine g_then_exit ?_ | refine g_in_exit ?_ | refine g_in_other rfl ?_ | refine g_skip ?_
          | refine g_label ?_ | refine g_cond_true rfl ?_ | refine g_cond_false rfl ?_ | exact s_m | intro _)
        refine g_cond_dec rfl (fun h4 => ?_) (fun h4 => ?_)
        · have hi2 : i < 2 := by omega
          have hr : ∀ k, k = i → Reads (Pile H6) ⟨wb, wo + k, none⟩ (int ([w0, w1].getD i 0)) := fun k e => by
            subst e
            have h1 := hwR H6 (hsn.trans hs6) k hi2
            rwa [show [w0, w1][k] = [w0, w1].getD k 0 by simp [List.getD_eq_getElem?_getD, hi2]] at h1
          have hv : 0 ≤ [w0, w1].getD i 0 ∧ [w0, w1].getD i 0 ≤ 1099511627776 := by
            match i, hi2 with
            | 0, _ => exact hg0
            | 1, _ => exact hg1
          have han : ansD no code w0 w1 i = if no = (i : Int) then ⟨⟨0, 0, 7⟩, code, ⟨0, 0, 0⟩, []⟩ else ⟨⟨0, 0, 7⟩, 0, ⟨[w0, w1].getD i 0, 0, (i : Int) + 1⟩, [10 + (i : Int)]⟩ := rfl
          generalize [w0, w1].getD i 0 = v at hr hv han
          repeat (first
            | (refine g_ops ?_; first | refine s_q ?_ | refine s_v ?_ | refine s_s ?_ | refine s_n (fun _ => ?_) | refine s_x ?_ | refine s_y ?_ | refine s_mq ?_ | refine s_app (fun _ _ => ?_) | refine s_mv ?_ | refine s_ms ?_ | refine s_b0 (fun _ => ?_) | ((fail_if_success refine g_lit rfl rfl rfl ?_); first | apply g_partM rfl rfl rfl | apply g_partMB rfl rfl rfl | fail))
            | refine g_seq ?_ | refine g_region ?_ | refine g_nil ?_ | refine g_then_normal ?_ | refine g_block ?_ | refine g_in_normal ?_ | refine g_retc ?_
            | refine g_then_ret ?_ | refine g_in_ret ?_ | refine g_exit ?_ | refine g_then_exit ?_ | refine g_in_exit ?_ | refine g_in_other rfl ?_ | refine g_skip ?_
            | refine g_label ?_ | refine g_cond_true rfl ?_ | refine g_cond_false rfl ?_ | exact s_m | intro _)
          rename_i fb b21
          refine g_toOwn (b := fb) (len := 1) (n := 1) (by (repeat (first | exact Sel.here | apply Sel.there)); first | done | fail) rfl rfl ?_
          refine g_pile (p := some ⟨fb, 0, none⟩) (m := 1) (c := 1) (n := 1) (xs := [int (10 + (i : Int))]) (e := 3) (by (repeat (first | exact Sel.here | apply Sel.there)); first | done | fail) (by (repeat (first | exact Sel.here | apply Sel.there)); first | done | fail) (fun H7 hs7 hA7 => ?_)
          refine g_cutX (X := An) (fun _ => [(0, .slice (some ⟨wb, wo, none⟩) 2 wc), (1, int bad), (2, int code), (3, int ticks), (16, ptr g.b), (19, int no), (20, int i), (21, ptr b21)]) (fun a => [.row b21 a.cells 45, .row g.b (Gg.cells { g with wt := (y : Int) }) 79, .map g.mp (pmap g.bt.key g.T), .map g.ma (amap M), Pile H7]) (fun a => a.d = ansD no code w0 w1 i ∧ SlAt (Pile H7) 1 a.fp a.fs.length (a.fs.map int)) ?_ (fun a ha => ?_)
          · by_cases hni : no = (i : Int)
            · rw [if_pos hni] at han
              refine g_as 150 (v' := .bool true) rfl (congrArg Value.bool (by simp; omega)) ?_
              repeat (first
                | (refine g_ops ?_; first | refine s_q ?_ | refine s_v ?_ | refine s_s ?_ | refine s_n (fun _ => ?_) | refine s_x ?_ | refine s_y ?_ | refine s_mq ?_ | refine s_app (fun _ _ => ?_) | refine s_mv ?_ | refine s_ms ?_ | refine s_b0 (fun _ => ?_) | ((fail_if_success refine g_lit rfl rfl rfl ?_); first | apply g_partM rfl rfl rfl | apply g_partMB rfl rfl rfl | fail))
                | refine g_seq ?_ | refine g_region ?_ | refine g_nil ?_ | refine g_then_normal ?_ | refine g_block ?_ | refine g_in_normal ?_ | refine g_retc ?_
                | refine g_then_ret ?_ | refine g_in_ret ?_ | refine g_exit ?_ | refine g_then_exit ?_ | refine g_in_exit ?_ | refine g_in_other rfl ?_
                | refine g_skip ?_ | refine g_label ?_ | refine g_cond_true rfl ?_ | refine g_cond_false rfl ?_ | exact s_m | intro _)
              exact g_midX (⟨⟨0, 0, 7⟩, code, ⟨0, 0, 0⟩, none, 0, []⟩ : An) ⟨by rw [han]; rfl, ⟨rfl, rfl, fun _ => rfl, fun j v hv => by simp at hv⟩⟩ (by (repeat (first | exact FrSub.nil | refine FrSub.cons rfl ?_)); first | done | fail) (by (repeat (first | exact Take.nil | apply Take.cons | exact Sel.here | apply Sel.there)); first | done | fail)
            · rw [if_neg hni] at han
              refine g_as 150 (v' := .bool false) rfl (congrArg Value.bool (by simp; omega)) ?_
              repeat (first
                | (refine g_ops ?_; first | refine s_q ?_ | refine s_v ?_ | refine s_s ?_ | refine s_n (fun _ => ?_) | refine s_x ?_ | refine s_y ?_ | refine s_mq ?_ | refine s_app (fun _ _ => ?_) | refine s_mv ?_ | refine s_ms ?_ | refine s_b0 (fun _ => ?_) | ((fail_if_success refine g_lit rfl rfl rfl ?_); first | apply g_partM rfl rfl rfl | apply g_partMB rfl rfl rfl | fail))
                | refine g_seq ?_ | refine g_region ?_ | refine g_nil ?_ | refine g_then_normal ?_ | refine g_block ?_ | refine g_in_normal ?_ | refine g_retc ?_
                | refine g_then_ret ?_ | refine g_in_ret ?_ | refine g_exit ?_ | refine g_then_exit ?_ | refine g_in_exit ?_ | refine g_in_other rfl ?_
                | refine g_skip ?_ | refine g_label ?_ | refine g_cond_true rfl ?_ | refine g_cond_false rfl ?_ | exact s_m | intro _)
              exact g_midX (⟨⟨0, 0, 7⟩, 0, ⟨v, 0, (i : Int) + 1⟩, some ⟨fb, 0, none⟩, 1, [10 + (i : Int)]⟩ : An) ⟨by rw [han]; rfl, hA7⟩ (by (repeat (first | exact FrSub.nil | refine FrSub.cons rfl ?_)); first | done | fail) (by (repeat (first | exact Take.nil | apply Take.cons | exact Sel.here | apply Sel.there)); first | done | fail)
          obtain ⟨had, haS⟩ := ha
          have hgM7 := hgM.grow hs7
          have hkeys : M.map (·.1) = (List.range i).map fun (j : Nat) => (j : Int) + 1 := by
            have h1 := congrArg (List.map (·.1)) hkd
            rw [List.map_map, List.map_map] at h1
            exact h1
          have hag : aget M ((i : Int) + 1) = none := by
            rw [aget_none, hkeys]
            intro h5
            obtain ⟨j, hj, e⟩ := List.mem_map.1 h5
            have := List.mem_range.1 hj
            omega
          have hmem : (i : Int) + 1 ∈ g.ns := by
            rw [hns]
            match i, hi2 with
            | 0, _ => simp
            | 1, _ => simp
          have hfl : a.fs.length ≤ 1 := by
            have h5 : a.fs = a.d.fs := rfl
            rw [h5, had]
            unfold ansD
            split <;> simp
          have htb : takeB { g with M := M, wt := (y : Int) } ((i : Int) + 1) a = true := by
            have h5 : a.tx = a.d.tx ∧ a.code = a.d.code ∧ a.st = a.d.st ∧ a.fs = a.d.fs := ⟨rfl, rfl, rfl, rfl⟩
            rw [had] at h5
            have hp1 : partN { g with M := M, wt := (y : Int) } ((i : Int) + 1) = 1 := by
              unfold partN
              match i, hi2 with
              | 0, _ => exact (hpn _).1
              | 1, _ => exact (hpn _).2
            have hvv : 0 ≤ [w0, w1].getD i 0 ∧ [w0, w1].getD i 0 ≤ 1099511627776 := by
              match i, hi2 with
              | 0, _ => exact hg0
              | 1, _ => exact hg1
            obtain ⟨h5, h6, h7, h8⟩ := h5
            simp only [takeB, h5, h6, h7, h8, hp1, htx, hag]
            unfold ansD
            by_cases hni : no = (i : Int)
            · rw [if_pos hni]
              have hcd : goodB code = false := by
                rcases hno with ⟨e, _⟩ | ⟨_, e1, e2, e3⟩
                · omega
                · simp only [goodB, Bool.or_eq_false_iff, decide_eq_false_iff_not]; exact ⟨by omega, e3⟩
              simp [hcd, hmem]
            · rw [if_neg hni]
              have hsd : soundB ([w0, w1].getD i 0) 0 ((i : Int) + 1) = true := by
                simp only [soundB, inB, Bool.and_eq_true, decide_eq_true_eq]
                omega
              simp only [hsd]
              simp [hmem]
              exact .inr hp1.symm
          have htk1 := take_ { g with M := M, wt := (y : Int) } hgM7 ((i : Int) + 1) a haS (by omega)
          rw [htb] at htk1
          dsimp only [Gg.L, List.cons_append, List.nil_append] at htk1
          repeat (first
            | (refine g_ops ?_; first | refine s_q ?_ | refine s_v ?_ | refine s_s ?_ | refine s_n (fun _ => ?_) | refine s_x ?_ | refine s_y ?_ | refine s_mq ?_ | refine s_app (fun _ _ => ?_) | refine s_mv ?_ | refine s_ms ?_ | refine s_b0 (fun _ => ?_) | ((fail_if_success refine g_lit rfl rfl rfl ?_); first | apply g_partM rfl rfl rfl | apply g_partMB rfl rfl rfl | fail) | refine s_c (htk1) (fun _ _ => ?_))
            | refine g_seq ?_ | refine g_region ?_ | refine g_nil ?_ | refine g_then_normal ?_ | refine g_block ?_ | refine g_in_normal ?_ | refine g_retc ?_
            | refine g_then_ret ?_ | refine g_in_ret ?_ | refine g_exit ?_ | refine g_then_exit ?_ | refine g_in_exit ?_ | refine g_in_other rfl ?_ | refine g_skip ?_
            | refine g_label ?_ | refine g_cond_true rfl ?_ | refine g_cond_false rfl ?_ | exact s_m | intro _)
          rename_i y8 hy8
          obtain ⟨M1, H8⟩ := y8
          obtain ⟨hs8, hgM8, hkd1⟩ := hy8
          dsimp only [List.cons_append, List.nil_append] at hs8 hgM8 hkd1 ⊢
          have htb2 : takeB { g with M := M1, wt := (y : Int) } ((i : Int) + 1) a = false := by
            have h5 : ((i : Int) + 1) ∈ M1.map (·.1) := by
              have h6 : ((i : Int) + 1, a.d) ∈ M1.map (fun x => (x.1, x.2.d)) := by rw [hkd1]; simp
              obtain ⟨z, hz, e⟩ := List.mem_map.1 h6
              simp only [Prod.mk.injEq] at e
              exact List.mem_map.2 ⟨z, hz, e.1⟩
            have h7 : (aget M1 ((i : Int) + 1)).isNone = false := by
              cases e : aget M1 ((i : Int) + 1) with
              | none => exact absurd h5 (aget_none.1 e)
              | some _ => rfl
            simp only [takeB, h7]
            simp
          have htk2 := take_ { g with M := M1, wt := (y : Int) } hgM8 ((i : Int) + 1) a (haS.grow hs8) (by omega)
          rw [htb2] at htk2
          dsimp only [Gg.L, List.cons_append, List.nil_append] at htk2
          repeat (first
            | (refine g_ops ?_; first | refine s_q ?_ | refine s_v ?_ | refine s_s ?_ | refine s_n (fun _ => ?_) | refine s_x ?_ | refine s_y ?_ | refine s_mq ?_ | refine s_app (fun _ _ => ?_) | refine s_mv ?_ | refine s_ms ?_ | refine s_b0 (fun _ => ?_) | ((fail_if_success refine g_lit rfl rfl rfl ?_); first | apply g_partM rfl rfl rfl | apply g_partMB rfl rfl rfl | fail) | refine s_c (htk2) (fun _ _ => ?_))
            | refine g_seq ?_ | refine g_region ?_ | refine g_nil ?_ | refine g_then_normal ?_ | refine g_block ?_ | refine g_in_normal ?_ | refine g_retc ?_
            | refine g_then_ret ?_ | refine g_in_ret ?_ | refine g_exit ?_ | refine g_then_exit ?_ | refine g_in_exit ?_ | refine g_in_other rfl ?_ | refine g_skip ?_
            | refine g_label ?_ | refine g_cond_true rfl ?_ | refine g_cond_false rfl ?_ | exact s_m | intro _)
          rename_i y9 hy9
          obtain ⟨M2, H9⟩ := y9
          obtain ⟨hs9, hgM9, hkd2⟩ := hy9
          dsimp only [List.cons_append, List.nil_append] at hs9 hgM9 hkd2 ⊢
          refine g_as 20 (v' := int ((i + 1 : Nat) : Int)) rfl (congrArg (Value.int .i64) (by push_cast; rfl)) ?_
          exact g_again ⟨i + 1, M2, H9⟩ (by simp only; omega) ⟨hi2, hs6.trans (hs7.trans (hs8.trans hs9)), hgM9, by
            simp only
            rw [hkd2, hkd1, List.range_succ, List.map_append, hkd, had]
            simp⟩ (by (repeat (first | exact FrSub.nil | refine FrSub.cons rfl ?_)); first | done | fail) (by (repeat (first | exact Take.nil | apply Take.cons | exact Sel.here | apply Sel.there)); first | done | fail)
        · obtain rfl : i = 2 := by omega
          obtain ⟨hMl, hd0, hd1, ha0, ha1⟩ := two_ans (M := M) (d0 := ansD no code w0 w1 0) (d1 := ansD no code w0 w1 1) (by rw [hkd]; rfl)
          have hfull : ripeB { g with M := M, wt := (y : Int) } = true := by simp [ripeB, hMl, hns]
          have hrp2 := ripe_ { g with M := M, wt := (y : Int) } hgM
          rw [hfull] at hrp2
          rcases hno with ⟨rfl, hnc⟩ | ⟨hn01, hcd⟩
          · have h5 : (anOf M 1).code = 0 ∧ (anOf M 1).st = ⟨w0, 0, 1⟩ ∧ (anOf M 1).fs = [10] := by
              have e : (anOf M 1).code = (anOf M 1).d.code ∧ (anOf M 1).st = (anOf M 1).d.st ∧ (anOf M 1).fs = (anOf M 1).d.fs := ⟨rfl, rfl, rfl⟩
              rw [hd0] at e
              exact ⟨e.1.trans rfl, e.2.1.trans rfl, e.2.2.trans rfl⟩
            have h6 : (anOf M 2).code = 0 ∧ (anOf M 2).st = ⟨w1, 0, 2⟩ ∧ (anOf M 2).fs = [11] := by
              have e : (anOf M 2).code = (anOf M 2).d.code ∧ (anOf M 2).st = (anOf M 2).d.st ∧ (anOf M 2).fs = (anOf M 2).d.fs := ⟨rfl, rfl, rfl⟩
              rw [hd1] at e
              exact ⟨e.1.trans rfl, e.2.1.trans rfl, e.2.2.trans rfl⟩
            have hbo : wrongL M g.ns = none := by
              rw [hns]
              simp [wrongL, badOf, ha0, ha1, h5.1, h6.1, goodB]
            have hof : outF M g.ws g.ws.length = [11, 10] := by
              rw [hws]
              simp [outF, fst1, h5.2.2, h6.2.2]
            have hmx : mostL 1 (g.ns.map fun k => (anOf M k).st) = max7 ⟨w0, 0, 1⟩ ⟨w1, 0, 2⟩ := by
              rw [hns]
              simp only [List.map_cons, List.map_nil, h5.2.1, h6.2.1]
              exact max_eq w0 w1
            have hvd := verdict_ok { g with M := M, wt := (y : Int) } hgM hbo (by simp only; rw [hMl, hns]; rfl) (by simp only; rw [hns]; simp) (by simp only; rw [hns]; intro k hk; simp only [List.mem_cons, List.not_mem_nil, or_false] at hk; rcases hk with rfl | rfl; exact h5.1; exact h6.1)
            simp only [hof, hmx] at hvd
            generalize hmm : max7 ⟨w0, 0, 1⟩ ⟨w1, 0, 2⟩ = mm at hvd
            obtain ⟨m1, m2, m3⟩ := mm
            dsimp only [S3.v] at hvd
            repeat (first
              | (refine g_ops ?_; first | refine s_q ?_ | refine s_v ?_ | refine s_s ?_ | refine s_n (fun _ => ?_) | refine s_x ?_ | refine s_y ?_ | refine s_mq ?_ | refine s_app (fun _ _ => ?_) | refine s_mv ?_ | refine s_ms ?_ | refine s_b0 (fun _ => ?_) | ((fail_if_success refine g_lit rfl rfl rfl ?_); first | apply g_partM rfl rfl rfl | apply g_partMB rfl rfl rfl | fail) | refine s_c (hvd) (fun _ _ => ?_))
              | refine g_seq ?_ | refine g_region ?_ | refine g_nil ?_ | refine g_then_normal ?_ | refine g_block ?_ | refine g_in_normal ?_ | refine g_retc ?_
              | refine g_then_ret ?_ | refine g_in_ret ?_ | refine g_exit ?_ | refine g_then_exit ?_ | refine g_in_exit ?_ | refine g_in_other rfl ?_ | refine g_skip ?_
              | refine g_label ?_ | refine g_cond_true rfl ?_ | refine g_cond_false rfl ?_ | exact s_m | intro _)
            rename_i yv _ b23
            obtain ⟨yq, yc⟩ := yv
            dsimp only [List.cons_append, List.nil_append]
            refine g_pile (p := yq) (m := 2) (c := yc) (n := 1) (xs := [int 11, int 10]) (e := 3) (by (repeat (first | exact Sel.here | apply Sel.there)); first | done | fail) (by (repeat (first | exact Sel.here | apply Sel.there)); first | done | fail) (fun H7 hs7 hA7 => ?_)
            have hrp3 := ripe_ { g with M := M, wt := (y : Int) } (hgM.grow hs7)
            rw [hfull] at hrp3
            have hs67 := hsn.trans (hs6.trans hs7)
            refine g_cutX (X := Nat) (fun b25 => [(0, .slice (some ⟨wb, wo, none⟩) 2 wc), (16, ptr g.b), (22, int 0), (23, ptr b23), (24, .slice yq 2 yc), (25, ptr b25)]) (fun b25 => [.row b25 [int m1, int m2, int m3] 42, .row b23 [int m1, int m2, int m3] 42, .row g.b (Gg.cells { g with wt := (y : Int) }) 79, .map g.ma (amap M), Pile H7]) (fun _ => True) ?_ (fun b25 _ => ?_)
            · have hr : ∀ k, k = 0 → Reads (Pile H7) ⟨wb, wo + k, none⟩ (int w0) := fun k e => by subst e; exact hwR H7 hs67 0 (by omega)
              have hr2 : ∀ k, k = 1 → Reads (Pile H7) ⟨wb, wo + k, none⟩ (int w1) := fun k e => by subst e; exact hwR H7 hs67 1 (by omega)
              refine g_draw (.take 0 (.take 1 (.see 2 [] (.take 3 (.take 4 (.take 5 (.see 6 [] (.take 7 (.two 8 (.two 9 (.one 10 (.one 11 .done)) 10 (.one 9 (.one 11 .done))) 10 (.one 8 (.one 9 (.one 11 .done)))))))))))) (by kernel_rfl) (take_all _) (fun k hd hk => ?_)
              have hrm : ∀ rb, Does1 Try.prog 21 [.slice (some ⟨rb, 0, none⟩) 2 2] [.row rb [int w0, int 0, int 1, int w1, int 0, int 2] 42] (.agg [int m1, int m2, int m3].toArray) := fun rb => by
                have := rmax rb ⟨w0, 0, 1⟩ ⟨w1, 0, 2⟩
                rw [hmm] at this
                exact this
              repeat (first
                | (refine gp_take ?_; first | refine p_q ?_ | refine p_x ?_ | refine p_mq ?_ | ((fail_if_success refine gp_lit rfl rfl rfl rfl ?_); first | apply gp_guard_dec rfl rfl rfl rfl | apply gp_guard rfl rfl rfl rfl | fail))
                | (refine gp_see ?_; first | refine p_f ?_ | refine p_sx ?_ | ((fail_if_success refine gp_lit rfl rfl rfl rfl ?_); first | apply gp_guard_dec rfl rfl rfl rfl | apply gp_guard rfl rfl rfl rfl | fail) | refine p_h (hrm _) hd hk ?_ | refine p_sq ?_)
                | (refine gp_one ?_; first | refine p_v ?_ | refine p_s ?_ | refine p_n (fun _ => ?_) | refine p_y ?_ | refine p_app (fun _ _ => ?_) | refine p_mv ?_ | refine p_ms ?_ | refine p_b0 (fun _ => ?_) | ((fail_if_success refine gp_lit rfl rfl rfl rfl ?_); first | apply gp_guard_dec rfl rfl rfl rfl | apply gp_guard rfl rfl rfl rfl | fail) | refine p_k (hrm _) ?_)
                | refine gp_two ?_ ?_ | refine gp_done hd hk ?_ | intro _ | refine p_ta hd hk (fun _ _ _ hd hk => ?_) | refine p_ts hd hk (fun _ hd hk => ?_))
              · rename_i rb b25
                exact g_midX b25 trivial (by (repeat (first | exact FrSub.nil | refine FrSub.cons rfl ?_)); first | done | fail) (by (repeat (first | exact Take.nil | apply Take.cons | exact Sel.here | apply Sel.there)); first | done | fail)
              · repeat (first
                  | (refine gp_take ?_; first | refine p_q ?_ | refine p_x ?_ | refine p_mq ?_ | ((fail_if_success refine gp_lit rfl rfl rfl rfl ?_); first | apply gp_guard_dec rfl rfl rfl rfl | apply gp_guard rfl rfl rfl rfl | fail))
                  | (refine gp_see ?_; first | refine p_f ?_ | refine p_sx ?_ | ((fail_if_success refine gp_lit rfl rfl rfl rfl ?_); first | apply gp_guard_dec rfl rfl rfl rfl | apply gp_guard rfl rfl rfl rfl | fail) | refine p_h (hrm _) hd hk ?_ | refine p_sq ?_)
                  | (refine gp_one ?_; first | refine p_v ?_ | refine p_s ?_ | refine p_n (fun _ => ?_) | refine p_y ?_ | refine p_app (fun _ _ => ?_) | refine p_mv ?_ | refine p_ms ?_ | refine p_b0 (fun _ => ?_) | ((fail_if_success refine gp_lit rfl rfl rfl rfl ?_); first | apply gp_guard_dec rfl rfl rfl rfl | apply gp_guard rfl rfl rfl rfl | fail) | refine p_k (hrm _) ?_)
                  | refine gp_two ?_ ?_ | refine gp_done hd hk ?_ | intro _ | refine p_ta hd hk (fun _ _ _ hd hk => ?_) | refine p_ts hd hk (fun _ hd hk => ?_))
                rename_i rb b25
                exact g_midX b25 trivial (by (repeat (first | exact FrSub.nil | refine FrSub.cons rfl ?_)); first | done | fail) (by (repeat (first | exact Take.nil | apply Take.cons | exact Sel.here | apply Sel.there)); first | done | fail)
              · repeat (first
                  | (refine gp_take ?_; first | refine p_q ?_ | refine p_x ?_ | refine p_mq ?_ | ((fail_if_success refine gp_lit rfl rfl rfl rfl ?_); first | apply gp_guard_dec rfl rfl rfl rfl | apply gp_guard rfl rfl rfl rfl | fail))
                  | (refine gp_see ?_; first | refine p_f ?_ | refine p_sx ?_ | ((fail_if_success refine gp_lit rfl rfl rfl rfl ?_); first | apply gp_guard_dec rfl rfl rfl rfl | apply gp_guard rfl rfl rfl rfl | fail) | refine p_h (hrm _) hd hk ?_ | refine p_sq ?_)
                  | (refine gp_one ?_; first | refine p_v ?_ | refine p_s ?_ | refine p_n (fun _ => ?_) | refine p_y ?_ | refine p_app (fun _ _ => ?_) | refine p_mv ?_ | refine p_ms ?_ | refine p_b0 (fun _ => ?_) | ((fail_if_success refine gp_lit rfl rfl rfl rfl ?_); first | apply gp_guard_dec rfl rfl rfl rfl | apply gp_guard rfl rfl rfl rfl | fail) | refine p_k (hrm _) ?_)
                  | refine gp_two ?_ ?_ | refine gp_done hd hk ?_ | intro _ | refine p_ta hd hk (fun _ _ _ hd hk => ?_) | refine p_ts hd hk (fun _ hd hk => ?_))
                rename_i b25 rb
                exact g_midX b25 trivial (by (repeat (first | exact FrSub.nil | refine FrSub.cons rfl ?_)); first | done | fail) (by (repeat (first | exact Take.nil | apply Take.cons | exact Sel.here | apply Sel.there)); first | done | fail)
            · have hsi : ∀ rb, Does1 Try.prog 22 [.slice yq 2 yc, .slice (some ⟨rb, 0, none⟩) 2 2] [Pile H7, .row rb [int 11, int 10] 3] (.bool true) := fun rb => sameInts (C := Pile H7) yq yc rb [11, 10] hA7 (by simp)
              repeat (first
                | (refine g_ops ?_; first | refine s_q ?_ | refine s_v ?_ | refine s_s ?_ | refine s_n (fun _ => ?_) | refine s_x ?_ | refine s_y ?_ | refine s_mq ?_ | refine s_app (fun _ _ => ?_) | refine s_mv ?_ | refine s_ms ?_ | refine s_b0 (fun _ => ?_) | ((fail_if_success refine g_lit rfl rfl rfl ?_); first | apply g_partM rfl rfl rfl | apply g_partMB rfl rfl rfl | fail) | refine s_k (hrp3) ?_)
                | refine g_seq ?_ | refine g_region ?_ | refine g_nil ?_ | refine g_then_normal ?_ | refine g_block ?_ | refine g_in_normal ?_ | refine g_retc ?_
                | refine g_then_ret ?_ | refine g_in_ret ?_ | refine g_exit ?_ | refine g_then_exit ?_ | refine g_in_exit ?_ | refine g_in_other rfl ?_
                | refine g_skip ?_ | refine g_label ?_ | refine g_cond_true rfl ?_ | refine g_cond_false rfl ?_ | exact s_m | intro _)
              dsimp only [List.cons_append, List.nil_append]
              refine g_as 216 (v' := .bool true) rfl (congrArg Value.bool (by simp)) ?_
              repeat (first
                | (refine g_ops ?_; first | refine s_q ?_ | refine s_v ?_ | refine s_s ?_ | refine s_n (fun _ => ?_) | refine s_x ?_ | refine s_y ?_ | refine s_mq ?_ | refine s_app (fun _ _ => ?_) | refine s_mv ?_ | refine s_ms ?_ | refine s_b0 (fun _ => ?_) | ((fail_if_success refine g_lit rfl rfl rfl ?_); first | apply g_partM rfl rfl rfl | apply g_partMB rfl rfl rfl | fail) | refine s_k (hsi _) ?_ | refine s_c (awake_) (fun _ _ => ?_))
                | refine g_seq ?_ | refine g_region ?_ | refine g_nil ?_ | refine g_then_normal ?_ | refine g_block ?_ | refine g_in_normal ?_ | refine g_retc ?_
                | refine g_then_ret ?_ | refine g_in_ret ?_ | refine g_exit ?_ | refine g_then_exit ?_ | refine g_in_exit ?_ | refine g_in_other rfl ?_
                | refine g_skip ?_ | refine g_label ?_ | refine g_cond_true rfl ?_ | refine g_cond_false rfl ?_ | exact s_m | intro _)
              rename_i H9 hs9
              dsimp only [List.cons_append, List.nil_append]
              refine g_unpile (hs67.trans hs9) (by (repeat (first | exact Sel.here | apply Sel.there)); first | done | fail) ?_
              exact g_ret () rfl (by (repeat (first | exact RVs.nil | apply RVs.tmp rfl | apply RVs.cellA rfl (by (repeat (first | exact Sel.here | apply Sel.there)); first | done | fail) (by (repeat (first | exact Cut.zero | apply Cut.take | apply Cut.skip)); first | done | fail) | apply RVs.cell1 rfl (by (repeat (first | exact Sel.here | apply Sel.there)); first | done | fail) rfl)); first | done | fail) (by (repeat (first | exact Take.nil | apply Take.cons | exact Sel.here | apply Sel.there)); first | done | fail) rfl trivial
          · have h5 : ∀ i : Nat, i < 2 → (no = (i : Int) → (ansD no code w0 w1 i).code = code) ∧ (no ≠ (i : Int) → (ansD no code w0 w1 i).code = 0) := fun i _ => ⟨fun e => by unfold ansD; rw [if_pos e], fun e => by unfold ansD; rw [if_neg e]⟩
            have hgb : goodB code = false := by
              simp only [goodB, Bool.or_eq_false_iff, decide_eq_false_iff_not]; exact ⟨by omega, hcd.2.2⟩
            have e0 : (anOf M 1).code = (ansD no code w0 w1 0).code := by rw [← hd0]; rfl
            have e1 : (anOf M 2).code = (ansD no code w0 w1 1).code := by rw [← hd1]; rfl
            have hbo : wrongL M g.ns = some code := by
              rw [hns]
              rcases hn01 with rfl | rfl
              · have c0 := (h5 0 (by omega)).1 rfl
                simp [wrongL, badOf, ha0, e0, c0, hgb]
              · have c0 := (h5 0 (by omega)).2 (by simp)
                have c1 := (h5 1 (by omega)).1 rfl
                have g0 : goodB 0 = true := rfl
                simp [wrongL, badOf, ha0, ha1, e0, e1, c0, c1, hgb, g0]
            have hvd := verdict_bad { g with M := M, wt := (y : Int) } hgM code hbo
            dsimp only [S3.zero, S3.cells] at hvd
            have hno0 : 0 ≤ no := by omega
            repeat (first
              | (refine g_ops ?_; first | refine s_q ?_ | refine s_v ?_ | refine s_s ?_ | refine s_n (fun _ => ?_) | refine s_x ?_ | refine s_y ?_ | refine s_mq ?_ | refine s_app (fun _ _ => ?_) | refine s_mv ?_ | refine s_ms ?_ | refine s_b0 (fun _ => ?_) | ((fail_if_success refine g_lit rfl rfl rfl ?_); first | apply g_partM rfl rfl rfl | apply g_partMB rfl rfl rfl | fail) | refine s_k (hvd) ?_)
              | refine g_seq ?_ | refine g_region ?_ | refine g_nil ?_ | refine g_then_normal ?_ | refine g_block ?_ | refine g_in_normal ?_ | refine g_retc ?_
              | refine g_then_ret ?_ | refine g_in_ret ?_ | refine g_exit ?_ | refine g_then_exit ?_ | refine g_in_exit ?_ | refine g_in_other rfl ?_ | refine g_skip ?_
              | refine g_label ?_ | refine g_cond_true rfl ?_ | refine g_cond_false rfl ?_ | exact s_m | intro _)
            dsimp only [List.cons_append, List.nil_append]
            refine g_as 174 (v' := .bool true) rfl (congrArg Value.bool (by simpa using hno0)) ?_
            repeat (first
              | (refine g_ops ?_; first | refine s_q ?_ | refine s_v ?_ | refine s_s ?_ | refine s_n (fun _ => ?_) | refine s_x ?_ | refine s_y ?_ | refine s_mq ?_ | refine s_app (fun _ _ => ?_) | refine s_mv ?_ | refine s_ms ?_ | refine s_b0 (fun _ => ?_) | ((fail_if_success refine g_lit rfl rfl rfl ?_); first | apply g_partM rfl rfl rfl | apply g_partMB rfl rfl rfl | fail) | refine s_k (hrp2) ?_)
              | refine g_seq ?_ | refine g_region ?_ | refine g_nil ?_ | refine g_then_normal ?_ | refine g_block ?_ | refine g_in_normal ?_ | refine g_retc ?_
              | refine g_then_ret ?_ | refine g_in_ret ?_ | refine g_exit ?_ | refine g_then_exit ?_ | refine g_in_exit ?_ | refine g_in_other rfl ?_ | refine g_skip ?_
              | refine g_label ?_ | refine g_cond_true rfl ?_ | refine g_cond_false rfl ?_ | exact s_m | intro _)
            dsimp only [List.cons_append, List.nil_append]
            refine g_as 182 (v' := .bool true) rfl (congrArg Value.bool (by simp)) ?_
            repeat (first
              | (refine g_ops ?_; first | refine s_q ?_ | refine s_v ?_ | refine s_s ?_ | refine s_n (fun _ => ?_) | refine s_x ?_ | refine s_y ?_ | refine s_mq ?_ | refine s_app (fun _ _ => ?_) | refine s_mv ?_ | refine s_ms ?_ | refine s_b0 (fun _ => ?_) | ((fail_if_success refine g_lit rfl rfl rfl ?_); first | apply g_partM rfl rfl rfl | apply g_partMB rfl rfl rfl | fail) | refine s_c (awake_) (fun _ _ => ?_))
              | refine g_seq ?_ | refine g_region ?_ | refine g_nil ?_ | refine g_then_normal ?_ | refine g_block ?_ | refine g_in_normal ?_ | refine g_retc ?_
              | refine g_then_ret ?_ | refine g_in_ret ?_ | refine g_exit ?_ | refine g_then_exit ?_ | refine g_in_exit ?_ | refine g_in_other rfl ?_ | refine g_skip ?_
              | refine g_label ?_ | refine g_cond_true rfl ?_ | refine g_cond_false rfl ?_ | exact s_m | intro _)
            rename_i H9 hs9
            dsimp only [List.cons_append, List.nil_append]
            refine g_unpile (hsn.trans (hs6.trans hs9)) (by (repeat (first | exact Sel.here | apply Sel.there)); first | done | fail) ?_
            exact g_ret () rfl (by (repeat (first | exact RVs.nil | apply RVs.tmp rfl | apply RVs.cellA rfl (by (repeat (first | exact Sel.here | apply Sel.there)); first | done | fail) (by (repeat (first | exact Cut.zero | apply Cut.take | apply Cut.skip)); first | done | fail) | apply RVs.cell1 rfl (by (repeat (first | exact Sel.here | apply Sel.there)); first | done | fail) rfl)); first | done | fail) (by (repeat (first | exact Take.nil | apply Take.cons | exact Sel.here | apply Sel.there)); first | done | fail) rfl trivial
end Go.Proofs.Ytfachckbjmofgaa
