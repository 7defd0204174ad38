/- Contracts: what the document fixes of the clock; the document's own clock. -/
import Derived.Test.YtbgjcgaodchneaaClkA
import Derived.Test.YtbgjcgaodchneaaSlg
set_option linter.unusedSimpArgs false
set_option linter.unusedVariables false
namespace Go.Proofs.Ytbgjcgaodchneaa
open Go.Sl facts
attribute [local irreducible] Code.wp wpList Exit.then Exit.inBlock bodyPost Back MidQ G GP QStep VStep CStep SStep Does Post Reads
theorem readAt {b : Nat} (c : Ck) (x : Int) (c' : Ck) (hn : c.n ≠ 0) (e : c.read x = c') : Does Try.prog 12 [ptr b, int x] [clk b c] (X := Unit) (fun _ => .tuple [].toArray) (fun _ => [clk b c']) (fun _ => True) := by
  subst e; exact read b c x hn
theorem tickAt {b : Nat} (c : Ck) (s : S3) (f : Int) (c' : Ck) (hn : c.n ≠ 0) (hl : 0 ≤ c.l ∧ c.l ≤ 65536) (e1 : c.tickS = s) (e2 : c.tickE = f) (e3 : c.tick = c') : Does Try.prog 13 [ptr b] [clk b c] (X := Unit) (fun _ => .tuple [s.v, int f].toArray) (fun _ => [clk b c']) (fun _ => True) := by
  subst e1 e2 e3; exact tick b c hn hl
theorem mergeAt {b : Nat} (c : Ck) (s : S3) (f : Int) (c' : Ck) (hn : c.n ≠ 0) (hr : 0 ≤ c.r ∧ c.r ≤ 1125899906842624) (e1 : c.mergeE s = f) (e2 : c.merge s = c') : Does Try.prog 11 [ptr b, .agg [.int .i64 s.w, .int .i64 s.l, .int .i64 s.n].toArray] [clk b c] (X := Unit) (fun _ => int f) (fun _ => [clk b c']) (fun _ => True) := by
  subst e1 e2; exact merge b c s hn hr
theorem awake : Does1 Try.prog 9 [] [] (.bool true) := by
  refine fn_intro Try.func9 rfl Try.ntmps9 rfl (by simp only [argFr, Nat.zero_add, Nat.reduceAdd]; rfl) (fun Γ => ?_)
  repeat (first
    | (refine g_ops ?_; first | refine s_q ?_ | refine s_v ?_ | refine s_s ?_ | refine s_n (fun _ => ?_) | refine s_x ?_ | refine s_y ?_ | ((fail_if_success refine g_lit rfl rfl rfl ?_); first | apply g_partM rfl rfl rfl | apply g_partMB rfl rfl rfl | fail) | refine s_c (new_ok 1 0 (by simp [newOk])) (fun _ _ => ?_) | refine s_c (readAt ⟨0, 0, 0, 1⟩ 5 ⟨5, 0, 0, 1⟩ (by decide) rfl) (fun _ _ => ?_) | refine s_c (tickAt ⟨5, 0, 0, 1⟩ ⟨5, 0, 1⟩ 0 ⟨5, 5, 0, 1⟩ (by decide) (by decide) rfl rfl rfl) (fun _ _ => ?_) | refine s_c (tickAt ⟨5, 5, 0, 1⟩ ⟨5, 1, 1⟩ 0 ⟨5, 5, 1, 1⟩ (by decide) (by decide) rfl rfl rfl) (fun _ _ => ?_) | refine s_c (mergeAt ⟨5, 5, 1, 1⟩ ⟨9, 3, 2⟩ 0 ⟨5, 9, 3, 1⟩ (by decide) (by decide) rfl rfl) (fun _ _ => ?_) | refine s_c (tickAt ⟨5, 9, 3, 1⟩ ⟨9, 4, 1⟩ 0 ⟨5, 9, 4, 1⟩ (by decide) (by decide) rfl rfl rfl) (fun _ _ => ?_))
    | apply g_regB (id := 2) 19 | apply g_regB (id := 9) 0 | refine g_seq ?_ | refine g_region ?_ | refine g_nil ?_ | refine g_then_normal ?_ | refine g_block ?_
    | refine g_in_normal ?_ | refine g_retc ?_ | refine g_then_ret ?_ | refine g_in_ret ?_ | refine g_exit ?_ | refine g_then_exit ?_ | refine g_in_exit ?_
    | refine g_in_other rfl ?_ | refine g_skip ?_ | refine g_label ?_ | refine g_cond_true rfl ?_ | refine g_cond_false rfl ?_ | exact s_m | intro _ | (refine gp_take ?_; first | refine p_q ?_ | refine p_f ?_ | refine p_x ?_ | ((fail_if_success refine gp_lit rfl rfl rfl ?_); first | apply gp_guard_dec rfl rfl rfl | apply gp_guard rfl rfl rfl | fail))
    | (refine gp_one ?_; first | refine p_v ?_ | refine p_s ?_ | refine p_n (fun _ => ?_) | refine p_y ?_ | refine p_c (new_ok 1 0 (by simp [newOk])) (fun _ _ => ?_) | refine p_c (readAt ⟨0, 0, 0, 1⟩ 5 ⟨5, 0, 0, 1⟩ (by decide) rfl) (fun _ _ => ?_) | refine p_c (tickAt ⟨5, 0, 0, 1⟩ ⟨5, 0, 1⟩ 0 ⟨5, 5, 0, 1⟩ (by decide) (by decide) rfl rfl rfl) (fun _ _ => ?_) | refine p_c (tickAt ⟨5, 5, 0, 1⟩ ⟨5, 1, 1⟩ 0 ⟨5, 5, 1, 1⟩ (by decide) (by decide) rfl rfl rfl) (fun _ _ => ?_) | refine p_c (mergeAt ⟨5, 5, 1, 1⟩ ⟨9, 3, 2⟩ 0 ⟨5, 9, 3, 1⟩ (by decide) (by decide) rfl rfl) (fun _ _ => ?_) | refine p_c (tickAt ⟨5, 9, 3, 1⟩ ⟨9, 4, 1⟩ 0 ⟨5, 9, 4, 1⟩ (by decide) (by decide) rfl rfl rfl) (fun _ _ => ?_))
    | refine gp_done hd hk ?_ | intro _)
  exact g_ret () rfl (by (repeat (first | exact RVs.nil | apply RVs.tmp rfl | apply RVs.cellA rfl (by (repeat (first | exact Sel.here | apply Sel.there)); first | done | fail) (by (repeat (first | exact Cut.zero | apply Cut.take | apply Cut.skip)); first | done | fail) | apply RVs.cell1 rfl (by (repeat (first | exact Sel.here | apply Sel.there)); first | done | fail) rfl)); first | done | fail) (by (repeat (first | exact Take.nil | apply Take.cons | exact Sel.here | apply Sel.there)); first | done | fail) rfl trivial
end Go.Proofs.Ytbgjcgaodchneaa
