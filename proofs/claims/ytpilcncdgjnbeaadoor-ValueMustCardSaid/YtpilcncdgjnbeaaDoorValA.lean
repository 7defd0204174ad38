/- Contracts: what panics: MustInt, MustText of what is none; panics. -/
import Derived.Test.YtpilcncdgjnbeaaDoorSpn
import Derived.Test.YtpilcncdgjnbeaaDoorSlz
import Derived.Test.YtpilcncdgjnbeaaDoorFacts
import Derived.Test.YtpilcncdgjnbeaaDoorRunV
set_option linter.unusedSimpArgs false
set_option linter.unusedVariables false
namespace Go.Sl
theorem sel_behind {α : Type} {c : α} {R : List α} : ∀ (X : List α), Sel (X ++ c :: R) c (X ++ R)
  | [] => .here
  | _ :: X => .there (sel_behind X)
theorem take_behind {α : Type} (X : List α) : ∀ A : List α, Take (X ++ A) A X
  | [] => by rw [List.append_nil]; exact .nil
  | _ :: A => .cons (sel_behind X) (take_behind X A)
end Go.Sl
namespace Go.Proofs.YtpilcncdgjnbeaaDoor
open Go.Sl facts
theorem fr2 {x y z : Value} : Fr.ok [(1, y), (0, x)] ({ tmps := #[x, y, z], defers := [] } : Act) := fun s u h => by
  match s, h with
  | 0, h => exact Option.some.inj h
  | 1, h => exact Option.some.inj h
  | s + 2, h => cases h
theorem fr3 {x y z : Value} : Fr.ok [(2, z), (1, y), (0, x)] ({ tmps := #[x, y, z], defers := [] } : Act) := fun s u h => by
  match s, h with
  | 0, h => exact Option.some.inj h
  | 1, h => exact Option.some.inj h
  | 2, h => exact Option.some.inj h
  | s + 3, h => cases h
set_option maxRecDepth 20000 in
set_option maxHeartbeats 1000000 in
/-- What the deferred closure does while its caller panics: it says so, and recovers. -/
theorem recovers (b : Nat) (t : TypeId) (v : Value) (Γ : Ctx) (L : List Chunk) (w : World) (hh : Holds Γ (.row b [.bool false] 4 :: L) w) :
    CallsD Tryd.prog 40 #[ptr b] (.panicking [{ v := .iface t v, recovered := false }]) w fun e u' w' => e = .returned (.tuple #[]) ∧ u' = .panicking [{ v := .iface t v, recovered := true }] ∧ Holds Γ (.row b [.bool true] 4 :: L) w' := by
  refine callsD_of_wpS Tryd.func40 rfl fun c₀ cs hu => wpS_region ?_
  rw [show List.range _ = [0, 1, 2] from rfl]
  generalize hT : (#[ptr b] ++ Array.replicate (Tryd.f40.ntmps - #[ptr b].size) undef : Array Value) = T
  have hT' : T = #[ptr b, undef, undef] := by rw [← hT]; rfl
  subst hT'
  clear hT
  refine wpOpsS_recover (dst := some 1) (older := []) (v := .iface t v) (ho := rfl) (hm := hu) ?_
  change wpOpsS _ _ _ [1, 2] { tmps := #[ptr b, .iface t v, undef], defers := [] } _ _
  refine wpOpsS_step (ho := rfl) (hw := rfl) ?_
  refine ((qs_neqHeld (fr := [(1, .iface t v), (0, ptr b)]) (by kernel_rfl) rfl) _ fr2 _ w hh).mono (fun u w' ⟨hu', hh'⟩ => ?_)
  subst hu'
  change wpOpsS _ _ _ [2] { tmps := #[ptr b, .iface t v, .bool true], defers := [] } _ _
  refine wpOpsS_step (ho := rfl) (hw := rfl) ?_
  refine ((ss_store (fr := [(2, .bool true), (1, .iface t v), (0, ptr b)]) (xs := [.bool false]) (ys := [.bool true]) rfl rfl rfl .here (.here .nil)) _ fr3 w' hh').mono (fun _ w'' hM => ⟨rfl, _, rfl, .tuple #[], by simp [results, show Tryd.f40.results = #[] from rfl], rfl, rfl, hM⟩)
/-- A function value that panics. -/
theorem inner {f : FuncId} {caps : List Value} {A B : List Chunk} [C : Callable Tryd.prog f] (fn : Dies Tryd.prog f caps A B) (b1 b2 : Nat) :
    Does Tryd.prog 39 [ptr b2, ptr b1] (.row b2 [.bool false] 4 :: .row b1 [.func (.func f) #[] caps.toArray] 1 :: A) (X := Unit) (fun _ => .tuple #[]) (fun _ => .row b2 [.bool true] 4 :: B) (fun _ => True) := by
  refine fn_introDf Tryd.func39 rfl Tryd.ntmps39 rfl (by simp only [argFr, Nat.zero_add, Nat.reduceAdd]; rfl) (fun Γ => ?_)
  refine gd_seq (gd_region ?_)
  refine gd_c (qs_makeFunc (vs := [ptr b2]) (by (repeat (first | exact Evs.nil | refine Evs.cons rfl ?_)); first | done | fail)).v.c rfl rfl (fun _ _ => ?_)
  refine gd_defer (caps := [ptr b2]) (vs := []) rfl rfl .nil ?_
  refine gd_nil (gd_then_normal (gd_region ?_))
  refine gd_c (VStep.c (vs_load (b := b1) (o := 0) rfl (.there .here) rfl)) rfl rfl (fun _ _ => ?_)
  refine gd_callVD fn rfl rfl .nil rfl (R := [.row b2 [.bool false] 4, .row b1 [.func (.func f) #[] caps.toArray] 1]) ?_ (fun t v => ?_)
  · exact take_behind [_, _] A
  refine gd_leave (args := []) (caps := [ptr b2]) (M := .row b2 [.bool true] 4 :: B) rfl (fun w hh => ?_) (fun w hM => ⟨(), trivial, rfl, hM⟩)
  refine (recovers b2 t v Γ _ w (hh.sel (sel_behind B))).mono ?_
  rintro e u' w' ⟨h1, h2, h3⟩
  exact ⟨h1, h2, h3.mono fun _ a => All.drop_right (A := .row b2 [.bool true] 4 :: B) a⟩
attribute [local irreducible] Code.wp wpList Exit.then Exit.inBlock bodyPost Back MidQ G GP QStep VStep CStep SStep Does Post Reads
theorem panics_ {f : FuncId} {caps : List Value} {A B : List Chunk} [C : Callable Tryd.prog f] (fn : Dies Tryd.prog f caps A B) :
    Does Tryd.prog 20 [.func (.func f) #[] caps.toArray] A (X := Unit) (fun _ => .bool true) (fun _ => B) (fun _ => True) := by
  refine fn_intro Tryd.func20 rfl Tryd.ntmps20 rfl (by simp only [argFr, Nat.zero_add, Nat.reduceAdd]; rfl) (fun Γ => ?_)
  repeat (first
    | (refine g_ops ?_; first | refine s_q ?_ | refine s_v ?_ | refine s_s ?_ | refine s_n (fun _ => ?_) | refine s_x ?_ | refine s_y ?_ | refine s_mq ?_ | refine s_app (fun _ _ => ?_) | refine s_mv ?_ | refine s_ms ?_ | refine s_b0 (fun _ => ?_) | ((fail_if_success refine g_lit rfl rfl rfl ?_); first | apply g_partM rfl rfl rfl | apply g_partMB rfl rfl rfl | fail))
    | refine g_seq ?_ | refine g_region ?_ | refine g_nil ?_ | refine g_then_normal ?_ | refine g_block ?_ | refine g_in_normal ?_ | refine g_retc ?_ | refine g_then_ret ?_
    | refine g_in_ret ?_ | refine g_exit ?_ | refine g_then_exit ?_ | refine g_in_exit ?_ | refine g_in_other rfl ?_ | refine g_skip ?_ | refine g_label ?_
    | refine g_cond_true rfl ?_ | refine g_cond_false rfl ?_ | exact s_m | intro _)
  rename_i b1 b2
  refine s_q (q := by exact qs_makeFunc (vs := [ptr b2, ptr b1]) (by (repeat (first | exact Evs.nil | refine Evs.cons rfl ?_)); first | done | fail)) ?_
  refine g_c (cs_callV (inner fn b1 b2) rfl .nil rfl (.cons .here (.cons .here (take_behind [] A)))) rfl rfl (fun _ _ => ?_)
  dsimp only [List.cons_append, List.nil_append]
  repeat (first
    | (refine g_ops ?_; first | refine s_q ?_ | refine s_v ?_ | refine s_s ?_ | refine s_n (fun _ => ?_) | refine s_x ?_ | refine s_y ?_ | refine s_mq ?_ | refine s_app (fun _ _ => ?_) | refine s_mv ?_ | refine s_ms ?_ | refine s_b0 (fun _ => ?_) | ((fail_if_success refine g_lit rfl rfl rfl ?_); first | apply g_partM rfl rfl rfl | apply g_partMB rfl rfl rfl | fail))
    | refine g_seq ?_ | refine g_region ?_ | refine g_nil ?_ | refine g_then_normal ?_ | refine g_block ?_ | refine g_in_normal ?_ | refine g_retc ?_ | refine g_then_ret ?_
    | refine g_in_ret ?_ | refine g_exit ?_ | refine g_then_exit ?_ | refine g_in_exit ?_ | refine g_in_other rfl ?_ | refine g_skip ?_ | refine g_label ?_
    | refine g_cond_true rfl ?_ | refine g_cond_false rfl ?_ | exact s_m | intro _)
  rw [List.append_nil]
  exact g_ret () rfl (.cell1 rfl .here rfl .nil) (take_behind [_] B) rfl trivial
theorem mustInt_dies (t : TypeId) (v : Value) (ne : Nat.beq t 3 = false) : Dies Tryd.prog 22 [.iface t v] [] [] := by
  refine fn_introD Tryd.func22 rfl Tryd.ntmps22 rfl (by simp only [argFr, Nat.zero_add, Nat.reduceAdd]; rfl) (fun Γ => ?_)
  repeat (first
    | (refine g_ops ?_; first | refine s_q ?_ | refine s_v ?_ | refine s_s ?_ | refine s_n (fun _ => ?_) | refine s_x ?_ | refine s_y ?_ | refine s_mq ?_ | refine s_app (fun _ _ => ?_) | refine s_mv ?_ | refine s_ms ?_ | refine s_b0 (fun _ => ?_) | ((fail_if_success refine g_lit rfl rfl rfl ?_); first | apply g_partM rfl rfl rfl | apply g_partMB rfl rfl rfl | fail))
    | refine g_seq ?_ | refine g_region ?_ | refine g_nil ?_ | refine g_then_normal ?_ | refine g_block ?_ | refine g_in_normal ?_ | refine g_retc ?_ | refine g_then_ret ?_
    | refine g_in_ret ?_ | refine g_exit ?_ | refine g_then_exit ?_ | refine g_in_exit ?_ | refine g_in_other rfl ?_ | refine g_skip ?_ | refine g_label ?_
    | refine g_cond_true rfl ?_ | refine g_cond_false rfl ?_ | exact s_m | intro _)
  refine g_assertD (T := 171) inferInstance rfl (by kernel_rfl) rfl ne rfl (fun t v => ?_)
  exact g_then_panic (g_dead .nil)
theorem awake1_dies : Dies Tryd.prog 34 [] [] [] := by
  refine fn_introD Tryd.func34 rfl Tryd.ntmps34 rfl (by simp only [argFr, Nat.zero_add, Nat.reduceAdd]; rfl) (fun Γ => ?_)
  repeat (first
    | (refine g_ops ?_; first | refine s_q ?_ | refine s_v ?_ | refine s_s ?_ | refine s_n (fun _ => ?_) | refine s_x ?_ | refine s_y ?_ | refine s_mq ?_ | refine s_app (fun _ _ => ?_) | refine s_mv ?_ | refine s_ms ?_ | refine s_b0 (fun _ => ?_) | ((fail_if_success refine g_lit rfl rfl rfl ?_); first | apply g_partM rfl rfl rfl | apply g_partMB rfl rfl rfl | fail))
    | refine g_seq ?_ | refine g_region ?_ | refine g_nil ?_ | refine g_then_normal ?_ | refine g_block ?_ | refine g_in_normal ?_ | refine g_retc ?_ | refine g_then_ret ?_
    | refine g_in_ret ?_ | refine g_exit ?_ | refine g_then_exit ?_ | refine g_in_exit ?_ | refine g_in_other rfl ?_ | refine g_skip ?_ | refine g_label ?_
    | refine g_cond_true rfl ?_ | refine g_cond_false rfl ?_ | exact s_m | intro _)
  refine s_q (q := by exact qs_makeI inferInstance rfl rfl) ?_
  refine g_callD (mustInt_dies _ _ rfl) rfl (by (repeat (first | exact Evs.nil | refine Evs.cons rfl ?_)); first | done | fail) .nil (fun t v => ?_)
  exact g_dead .nil
/-- MustInt of a text panics, says awake. -/
theorem awake_panics : Does1 Tryd.prog 20 [.func (.func 34) #[] #[]] [] (.bool true) := panics_ (caps := []) awake1_dies
end Go.Proofs.YtpilcncdgjnbeaaDoor
