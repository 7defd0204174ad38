/- The law of the late poll: the walk. -/
import Derived.Test.YtkejdilmdpgbpaaCliG
set_option linter.unusedSimpArgs false
set_option linter.unusedVariables false
namespace Go.Proofs.Ytkejdilmdpgbpaa
open Go.Sl facts
attribute [local irreducible] Code.wp wpList Exit.then Exit.inBlock bodyPost Back MidQ G GP QStep VStep CStep SStep Does Post Reads
abbrev bA : ByteArray := ⟨#[97]⟩
abbrev bL : ByteArray := ⟨#[108, 97, 116, 101]⟩
abbrev bStar : ByteArray := ⟨#[42]⟩
/-- Where the loop stands. -/
structure LS where
  i : Nat
  mp : Option Nat
  M : List (Int × Value)
  cur : Cur
  tok : S3
  fp : Option Addr
  fl : Nat
  fc : Nat
  fs : List Ev
  rp : Option Addr
  rl : Nat
  rc : Nat
  rs : List Value
  np : Option Addr
  nc : Nat
def curAt (i : Nat) : Cur := if i = 1 then Cur.zero else ⟨⟨(i : Int) - 1, 0, 1⟩, 0, bA⟩
structure LOk (n : Int) (x : LS) : Prop where
  le : (x.i : Int) ≤ n
  fs : x.fs.length = x.fl
  fl : x.fl = x.i - 1
  rl : x.rl = x.i - 1
  st : (x.i = 0 ∧ x.mp = none ∧ x.M = [] ∧ x.cur = Cur.zero) ∨ (1 ≤ x.i ∧ (∃ m, x.mp = some m) ∧ x.M = [(1, askV true Cur.zero)] ∧ x.cur = curAt x.i)
abbrev numC (j : Nat) : List Value := [int ((j : Int) + 1)]
theorem num_len (a : Nat) : (numC a).length = 1 := rfl
abbrev nums (i : Nat) : List Value := (List.range i).flatMap numC
theorem nums_snoc (i : Nat) : nums i ++ [int ((i : Int) + 1)] = nums (i + 1) := by
  simp [nums, List.range_succ, numC]
theorem nums_at {b i c : Nat} {e : TypeId} (j : Nat) (h : j < i) : Reads (.own (some ⟨b, 0, none⟩) i c 1 (nums i) e) ⟨b, 0 + j, none⟩ (int ((j : Int) + 1)) := by
  have := own_at (b := b) (len := i) (cap := c) (e := e) num_len (l := List.range i) (i := j) (a := j) (by simp [h]) 0 (int ((j : Int) + 1)) rfl
  simpa using this
theorem mdel_two (k : Int) (h : k ≠ 1) (v w : Value) : mdel (mput [((1 : Int), v)] k w) k = [(1, v)] := by
  have h' : ¬ k = 1 := h
  simp [mput, mdel, h']
theorem sameC_self (c : Cur) : sameC c c = true := by simp [sameC]
def evA (i : Nat) : Ev := ⟨bA, i, ByteArray.empty, ⟨i, 0, 1⟩, 0⟩
theorem flat_one (e : Ev) : [e].flatMap Ev.cells = e.cells := by simp
theorem curAt_succ (i : Nat) (h : 1 ≤ i) : (⟨⟨i, 0, 1⟩, 0, bA⟩ : Cur) = curAt (i + 1) := by
  have h1 : ¬ i + 1 = 1 := by omega
  have h2 : ((i + 1 : Nat) : Int) - 1 = i := by omega
  simp only [curAt, if_neg h1, h2]
def repL : RepV := ⟨0, S3.zero, ⟨⟨1, 0, 2⟩, 0, bL⟩, 0⟩
def evL : Ev := ⟨bL, 1, ByteArray.empty, ⟨1, 0, 2⟩, 0⟩
set_option maxHeartbeats 8000000 in
theorem late (n a : Int) : Does1 Try.prog 4 [int n, int a] [] (.bool true) := by
  refine fn_intro Try.func4 rfl Try.ntmps4 rfl (by simp only [argFr, Nat.zero_add, Nat.reduceAdd]; rfl) (fun Γ => ?_)
  repeat (first
    | (refine g_ops ?_; first | refine s_q ?_ | refine s_v ?_ | refine s_s ?_ | refine s_n (fun _ => ?_) | refine s_x ?_ | refine s_y ?_ | refine s_mq ?_ | refine s_app (fun _ _ => ?_) | refine s_mv ?_ | refine s_ms ?_ | refine s_b0 (fun _ => ?_) | ((fail_if_success refine g_lit rfl rfl rfl ?_); first | apply g_partM rfl rfl rfl | apply g_partMB rfl rfl rfl | fail) | refine s_k (awake) ?_ | refine s_c (new) (fun _ _ => ?_))
    | apply g_regB (id := 1) 19 | apply g_regB (id := 18) 4 | apply g_regB (id := 19) 4 | refine g_seq ?_ | refine g_region ?_ | refine g_nil ?_ | refine g_then_normal ?_
    | refine g_block ?_ | refine g_in_normal ?_ | refine g_retc ?_ | refine g_then_ret ?_ | refine g_in_ret ?_ | refine g_exit ?_ | refine g_then_exit ?_
    | refine g_in_exit ?_ | refine g_in_other rfl ?_ | refine g_skip ?_ | refine g_label ?_ | refine g_cond_true rfl ?_ | refine g_cond_false rfl ?_ | exact s_m
    | intro _ | (refine gp_take ?_; first | refine p_q ?_ | refine p_x ?_ | refine p_mq ?_ | ((fail_if_success refine gp_lit rfl rfl rfl rfl ?_); first | apply gp_guard_dec rfl rfl rfl rfl | apply gp_guard rfl rfl rfl rfl | fail))
    | (refine gp_see ?_; first | refine p_f ?_ | refine p_sx ?_ | ((fail_if_success refine gp_lit rfl rfl rfl rfl ?_); first | apply gp_guard_dec rfl rfl rfl rfl | apply gp_guard rfl rfl rfl rfl | fail) | refine p_h (awake) hd hk ?_ | refine p_sq ?_)
    | (refine gp_one ?_; first | refine p_v ?_ | refine p_s ?_ | refine p_n (fun _ => ?_) | refine p_y ?_ | refine p_app (fun _ _ => ?_) | refine p_mv ?_ | refine p_ms ?_ | refine p_b0 (fun _ => ?_) | refine p_k (awake) ?_ | refine p_c (new) (fun _ _ => ?_))
    | refine gp_done hd hk ?_ | intro _ | refine p_ta hd hk (fun _ _ _ hd hk => ?_))
  refine g_cond rfl (fun h => ?_) (fun h => ?_)
  · repeat (first
      | (refine g_ops ?_; first | refine s_q ?_ | refine s_v ?_ | refine s_s ?_ | refine s_n (fun _ => ?_) | refine s_x ?_ | refine s_y ?_ | refine s_mq ?_ | refine s_app (fun _ _ => ?_) | refine s_mv ?_ | refine s_ms ?_ | refine s_b0 (fun _ => ?_) | ((fail_if_success refine g_lit rfl rfl rfl ?_); first | apply g_partM rfl rfl rfl | apply g_partMB rfl rfl rfl | fail) | refine s_k (awake) ?_)
      | apply g_regB (id := 1) 19 | apply g_regB (id := 18) 4 | apply g_regB (id := 19) 4 | refine g_seq ?_ | refine g_region ?_ | refine g_nil ?_ | refine g_then_normal ?_
      | refine g_block ?_ | refine g_in_normal ?_ | refine g_retc ?_ | refine g_then_ret ?_ | refine g_in_ret ?_ | refine g_exit ?_ | refine g_then_exit ?_
      | refine g_in_exit ?_ | refine g_in_other rfl ?_ | refine g_skip ?_ | refine g_label ?_ | refine g_cond_true rfl ?_ | refine g_cond_false rfl ?_
      | exact s_m | intro _ | (refine gp_take ?_; first | refine p_q ?_ | refine p_x ?_ | refine p_mq ?_ | ((fail_if_success refine gp_lit rfl rfl rfl rfl ?_); first | apply gp_guard_dec rfl rfl rfl rfl | apply gp_guard rfl rfl rfl rfl | fail))
      | (refine gp_see ?_; first | refine p_f ?_ | refine p_sx ?_ | ((fail_if_success refine gp_lit rfl rfl rfl rfl ?_); first | apply gp_guard_dec rfl rfl rfl rfl | apply gp_guard rfl rfl rfl rfl | fail) | refine p_h (awake) hd hk ?_ | refine p_sq ?_)
      | (refine gp_one ?_; first | refine p_v ?_ | refine p_s ?_ | refine p_n (fun _ => ?_) | refine p_y ?_ | refine p_app (fun _ _ => ?_) | refine p_mv ?_ | refine p_ms ?_ | refine p_b0 (fun _ => ?_) | refine p_k (awake) ?_)
      | refine gp_done hd hk ?_ | intro _ | refine p_ta hd hk (fun _ _ _ hd hk => ?_))
    exact s_r ()
  · have hn : 1 ≤ n ∧ n ≤ 20 := by simp at h; omega
    repeat (first
      | (refine g_ops ?_; first | refine s_q ?_ | refine s_v ?_ | refine s_s ?_ | refine s_n (fun _ => ?_) | refine s_x ?_ | refine s_y ?_ | refine s_mq ?_ | refine s_app (fun _ _ => ?_) | refine s_mv ?_ | refine s_ms ?_ | refine s_b0 (fun _ => ?_) | ((fail_if_success refine g_lit rfl rfl rfl ?_); first | apply g_partM rfl rfl rfl | apply g_partMB rfl rfl rfl | fail) | refine s_c (new) (fun _ _ => ?_))
      | apply g_regB (id := 1) 19 | refine g_seq ?_ | refine g_region ?_ | refine g_nil ?_ | refine g_then_normal ?_ | refine g_block ?_ | refine g_in_normal ?_
      | refine g_retc ?_ | refine g_then_ret ?_ | refine g_in_ret ?_ | refine g_exit ?_ | refine g_then_exit ?_ | refine g_in_exit ?_ | refine g_in_other rfl ?_
      | refine g_skip ?_ | refine g_label ?_ | refine g_cond_true rfl ?_ | refine g_cond_false rfl ?_ | exact s_m | intro _ | (refine gp_take ?_; first | refine p_q ?_ | refine p_x ?_ | refine p_mq ?_ | ((fail_if_success refine gp_lit rfl rfl rfl rfl ?_); first | apply gp_guard_dec rfl rfl rfl rfl | apply gp_guard rfl rfl rfl rfl | fail))
      | (refine gp_see ?_; first | refine p_f ?_ | refine p_sx ?_ | ((fail_if_success refine gp_lit rfl rfl rfl rfl ?_); first | apply gp_guard_dec rfl rfl rfl rfl | apply gp_guard rfl rfl rfl rfl | fail) | refine p_sq ?_)
      | (refine gp_one ?_; first | refine p_v ?_ | refine p_s ?_ | refine p_n (fun _ => ?_) | refine p_y ?_ | refine p_app (fun _ _ => ?_) | refine p_mv ?_ | refine p_ms ?_ | refine p_b0 (fun _ => ?_) | refine p_c (new) (fun _ _ => ?_))
      | refine gp_done hd hk ?_ | intro _ | refine p_ta hd hk (fun _ _ _ hd hk => ?_))
    rename_i b _
    refine g_emp (A := mapO none ([] : List (Int × Value))) rfl ?_
    refine g_own_nil none 1 3 ?_
    refine g_loop (X := LS) (fun x => [(7, int x.i), (6, .slice x.np x.i x.nc), (5, ptr b), (4, .bool false), (0, int n), (1, int a)])
      (fun x => [clr b ⟨x.i, x.tok, x.cur⟩ x.mp x.fp x.fl x.fc x.rp x.rl x.rc, .asn (mapO x.mp x.M), .own x.fp x.fl x.fc 7 (x.fs.flatMap Ev.cells) 53, .own x.rp x.rl x.rc 15 x.rs 74, .own x.np x.i x.nc 1 (nums x.i) 3])
      (fun x => LOk n x) (fun x => 20 - x.i) ⟨0, none, [], Cur.zero, S3.zero, none, 0, 0, [], none, 0, 0, [], none, 0⟩ ⟨by simp only []; omega, rfl, rfl, rfl, .inl ⟨rfl, rfl, rfl, rfl⟩⟩ (by (repeat (first | exact FrSub.nil | refine FrSub.cons rfl ?_)); first | done | fail) (by (repeat (first | exact Take.nil | apply Take.cons | exact Sel.here | apply Sel.there)); first | done | fail) (fun x hx => ?_)
    obtain ⟨i, mp, M, cur, tok, fp, fl, fc, fs, rp, rl, rc, rs, np, nc⟩ := x
    obtain ⟨hle, hfs, hfl, hrl, hst⟩ := hx
    simp only [] at hle hfs hfl hrl hst
    dsimp only
    repeat (first
      | (refine g_ops ?_; first | refine s_q ?_ | refine s_v ?_ | refine s_s ?_ | refine s_n (fun _ => ?_) | refine s_x ?_ | refine s_y ?_ | refine s_mq ?_ | refine s_app (fun _ _ => ?_) | refine s_mv ?_ | refine s_ms ?_ | refine s_b0 (fun _ => ?_) | ((fail_if_success refine g_lit rfl rfl rfl ?_); first | apply g_partM rfl rfl rfl | apply g_partMB rfl rfl rfl | fail))
      | apply g_regB (id := 1) 19 | refine g_seq ?_ | refine g_region ?_ | refine g_nil ?_ | refine g_then_normal ?_ | refine g_block ?_ | refine g_in_normal ?_
      | refine g_retc ?_ | refine g_then_ret ?_ | refine g_in_ret ?_ | refine g_exit ?_ | refine g_then_exit ?_ | refine g_in_exit ?_ | refine g_in_other rfl ?_
      | refine g_skip ?_ | refine g_label ?_ | refine g_cond_true rfl ?_ | refine g_cond_false rfl ?_ | exact s_m | intro _ | (refine gp_take ?_; first | refine p_q ?_ | refine p_x ?_ | refine p_mq ?_ | ((fail_if_success refine gp_lit rfl rfl rfl rfl ?_); first | apply gp_guard_dec rfl rfl rfl rfl | apply gp_guard rfl rfl rfl rfl | fail))
      | (refine gp_see ?_; first | refine p_f ?_ | refine p_sx ?_ | ((fail_if_success refine gp_lit rfl rfl rfl rfl ?_); first | apply gp_guard_dec rfl rfl rfl rfl | apply gp_guard rfl rfl rfl rfl | fail) | refine p_sq ?_)
      | (refine gp_one ?_; first | refine p_v ?_ | refine p_s ?_ | refine p_n (fun _ => ?_) | refine p_y ?_ | refine p_app (fun _ _ => ?_) | refine p_mv ?_ | refine p_ms ?_ | refine p_b0 (fun _ => ?_))
      | refine gp_done hd hk ?_ | intro _ | refine p_ta hd hk (fun _ _ _ hd hk => ?_))
    refine g_cond_dec rfl (fun h1 => ?_) (fun h1 => ?_)
    · have hi' : (i : Int) < n := h1
      repeat (first
        | (refine g_ops ?_; first | refine s_q ?_ | refine s_v ?_ | refine s_s ?_ | refine s_n (fun _ => ?_) | refine s_x ?_ | refine s_y ?_ | refine s_mq ?_ | refine s_app (fun _ _ => ?_) | refine s_mv ?_ | refine s_ms ?_ | refine s_b0 (fun _ => ?_) | ((fail_if_success refine g_lit rfl rfl rfl ?_); first | apply g_partM rfl rfl rfl | apply g_partMB rfl rfl rfl | fail) | refine s_c (ask_gen b ⟨i, tok, cur⟩ ⟨3, S3.zero, ByteArray.empty, ByteArray.empty, 0, Cur.zero, bStar, 1, 0, 0, 0, 0, 0⟩ mp M fp fl fc rp rl rc ⟨by simp only []; omega, by simp only []; omega⟩ rfl rfl) (fun _ _ => ?_))
        | apply g_regB (id := 1) 19 | refine g_seq ?_ | refine g_region ?_ | refine g_nil ?_ | refine g_then_normal ?_ | refine g_block ?_ | refine g_in_normal ?_
        | refine g_retc ?_ | refine g_then_ret ?_ | refine g_in_ret ?_ | refine g_exit ?_ | refine g_then_exit ?_ | refine g_in_exit ?_ | refine g_in_other rfl ?_
        | refine g_skip ?_ | refine g_label ?_ | refine g_cond_true rfl ?_ | refine g_cond_false rfl ?_ | exact s_m | intro _ | (refine gp_take ?_; first | refine p_q ?_ | refine p_x ?_ | refine p_mq ?_ | ((fail_if_success refine gp_lit rfl rfl rfl rfl ?_); first | apply gp_guard_dec rfl rfl rfl rfl | apply gp_guard rfl rfl rfl rfl | fail))
        | (refine gp_see ?_; first | refine p_f ?_ | refine p_sx ?_ | ((fail_if_success refine gp_lit rfl rfl rfl rfl ?_); first | apply gp_guard_dec rfl rfl rfl rfl | apply gp_guard rfl rfl rfl rfl | fail) | refine p_sq ?_)
        | (refine gp_one ?_; first | refine p_v ?_ | refine p_s ?_ | refine p_n (fun _ => ?_) | refine p_y ?_ | refine p_app (fun _ _ => ?_) | refine p_mv ?_ | refine p_ms ?_ | refine p_b0 (fun _ => ?_) | refine p_c (ask_gen b ⟨i, tok, cur⟩ ⟨3, S3.zero, ByteArray.empty, ByteArray.empty, 0, Cur.zero, bStar, 1, 0, 0, 0, 0, 0⟩ mp M fp fl fc rp rl rc ⟨by simp only []; omega, by simp only []; omega⟩ rfl rfl) (fun _ _ => ?_))
        | refine gp_done hd hk ?_ | intro _ | refine p_ta hd hk (fun _ _ _ hd hk => ?_))
      rename_i m _ xb eb0 np' nc'
      rw [nums_snoc]
      refine g_cond_dec rfl (fun h2 => ?_) (fun h2 => ?_)
      · have h0 : i = 0 := by omega
        subst h0
        obtain ⟨-, rfl, rfl, rfl⟩ : (0 : Nat) = 0 ∧ mp = none ∧ M = [] ∧ cur = Cur.zero := by
          rcases hst with h | h
          · exact h
          · exact absurd h.1 (by omega)
        repeat (first
          | (refine g_ops ?_; first | refine s_q ?_ | refine s_v ?_ | refine s_s ?_ | refine s_n (fun _ => ?_) | refine s_x ?_ | refine s_y ?_ | refine s_mq ?_ | refine s_app (fun _ _ => ?_) | refine s_mv ?_ | refine s_ms ?_ | refine s_b0 (fun _ => ?_) | ((fail_if_success refine g_lit rfl rfl rfl ?_); first | apply g_partM rfl rfl rfl | apply g_partMB rfl rfl rfl | fail))
          | apply g_regB (id := 1) 19 | refine g_seq ?_ | refine g_region ?_ | refine g_nil ?_ | refine g_then_normal ?_ | refine g_block ?_ | refine g_in_normal ?_
          | refine g_retc ?_ | refine g_then_ret ?_ | refine g_in_ret ?_ | refine g_exit ?_ | refine g_then_exit ?_ | refine g_in_exit ?_ | refine g_in_other rfl ?_
          | refine g_skip ?_ | refine g_label ?_ | refine g_cond_true rfl ?_ | refine g_cond_false rfl ?_ | exact s_m | intro _ | (refine gp_take ?_; first | refine p_q ?_ | refine p_x ?_ | refine p_mq ?_ | ((fail_if_success refine gp_lit rfl rfl rfl rfl ?_); first | apply gp_guard_dec rfl rfl rfl rfl | apply gp_guard rfl rfl rfl rfl | fail))
          | (refine gp_see ?_; first | refine p_f ?_ | refine p_sx ?_ | ((fail_if_success refine gp_lit rfl rfl rfl rfl ?_); first | apply gp_guard_dec rfl rfl rfl rfl | apply gp_guard rfl rfl rfl rfl | fail) | refine p_sq ?_)
          | (refine gp_one ?_; first | refine p_v ?_ | refine p_s ?_ | refine p_n (fun _ => ?_) | refine p_y ?_ | refine p_app (fun _ _ => ?_) | refine p_mv ?_ | refine p_ms ?_ | refine p_b0 (fun _ => ?_))
          | refine gp_done hd hk ?_ | intro _ | refine p_ta hd hk (fun _ _ _ hd hk => ?_))
        exact g_again ⟨1, some m, [(1, askV true Cur.zero)], Cur.zero, tok, fp, fl, fc, fs, rp, rl, rc, rs, np', nc'⟩ (by simp only []; omega) ⟨by simp only []; omega, hfs, hfl, hrl, .inr ⟨Nat.le_refl _, ⟨m, rfl⟩, rfl, rfl⟩⟩ (by (repeat (first | exact FrSub.nil | refine FrSub.cons rfl ?_)); first | done | fail) (by (repeat (first | exact Take.nil | apply Take.cons | exact Sel.here | apply Sel.there)); first | done | fail)
      · have hi : 1 ≤ i := by omega
        obtain ⟨rfl, hcur⟩ : M = [(1, askV true Cur.zero)] ∧ cur = curAt i := by
          rcases hst with h | h
          · exact absurd h.1 (by omega)
          · exact h.2.2
        repeat (first
          | (refine g_ops ?_; first | refine s_q ?_ | refine s_v ?_ | refine s_s ?_ | refine s_n (fun _ => ?_) | refine s_x ?_ | refine s_y ?_ | refine s_mq ?_ | refine s_app (fun _ _ => ?_) | refine s_mv ?_ | refine s_ms ?_ | refine s_b0 (fun _ => ?_) | ((fail_if_success refine g_lit rfl rfl rfl ?_); first | apply g_partM rfl rfl rfl | apply g_partMB rfl rfl rfl | fail))
          | apply g_regB (id := 1) 19 | refine g_seq ?_ | refine g_region ?_ | refine g_nil ?_ | refine g_then_normal ?_ | refine g_block ?_ | refine g_in_normal ?_
          | refine g_retc ?_ | refine g_then_ret ?_ | refine g_in_ret ?_ | refine g_exit ?_ | refine g_then_exit ?_ | refine g_in_exit ?_ | refine g_in_other rfl ?_
          | refine g_skip ?_ | refine g_label ?_ | refine g_cond_true rfl ?_ | refine g_cond_false rfl ?_ | exact s_m | intro _ | (refine gp_take ?_; first | refine p_q ?_ | refine p_x ?_ | refine p_mq ?_ | ((fail_if_success refine gp_lit rfl rfl rfl rfl ?_); first | apply gp_guard_dec rfl rfl rfl rfl | apply gp_guard rfl rfl rfl rfl | fail))
          | (refine gp_see ?_; first | refine p_f ?_ | refine p_sx ?_ | ((fail_if_success refine gp_lit rfl rfl rfl rfl ?_); first | apply gp_guard_dec rfl rfl rfl rfl | apply gp_guard rfl rfl rfl rfl | fail) | refine p_sq ?_)
          | (refine gp_one ?_; first | refine p_v ?_ | refine p_s ?_ | refine p_n (fun _ => ?_) | refine p_y ?_ | refine p_app (fun _ _ => ?_) | refine p_mv ?_ | refine p_ms ?_ | refine p_b0 (fun _ => ?_))
          | refine gp_done hd hk ?_ | intro _ | refine p_ta hd hk (fun _ _ _ hd hk => ?_))
        rename_i xv eb
        repeat (first
          | (refine g_ops ?_; first | refine s_q ?_ | refine s_v ?_ | refine s_s ?_ | refine s_n (fun _ => ?_) | refine s_x ?_ | refine s_y ?_ | refine s_mq ?_ | refine s_app (fun _ _ => ?_) | refine s_mv ?_ | refine s_ms ?_ | refine s_b0 (fun _ => ?_) | ((fail_if_success refine g_lit rfl rfl rfl ?_); first | apply g_partM rfl rfl rfl | apply g_partMB rfl rfl rfl | fail) | refine s_c (take_moved b ⟨(i : Int) + 1, tok, cur⟩ m (mput [((1 : Int), askV true Cur.zero)] ((i : Int) + 1) (askV true cur)) fp fl fc (fs.flatMap Ev.cells) rp rl rc rs ((i : Int) + 1) ⟨0, ⟨i, 0, 1⟩, ⟨⟨i, 0, 1⟩, 0, bA⟩, 0⟩ (some ⟨eb, 0, none⟩) 1 1 true cur (C := .row eb (evA i).cells 53) (news := (evA i).cells) (mget_self _ _ _) (slAt_row rfl rfl) (by omega) (by omega) (by omega) (by rw [sameC_self]; rfl)) (fun _ _ => ?_))
          | apply g_regB (id := 1) 19 | refine g_seq ?_ | refine g_region ?_ | refine g_nil ?_ | refine g_then_normal ?_ | refine g_block ?_ | refine g_in_normal ?_
          | refine g_retc ?_ | refine g_then_ret ?_ | refine g_in_ret ?_ | refine g_exit ?_ | refine g_then_exit ?_ | refine g_in_exit ?_ | refine g_in_other rfl ?_
          | refine g_skip ?_ | refine g_label ?_ | refine g_cond_true rfl ?_ | refine g_cond_false rfl ?_ | exact s_m | intro _ | (refine gp_take ?_; first | refine p_q ?_ | refine p_x ?_ | refine p_mq ?_ | ((fail_if_success refine gp_lit rfl rfl rfl rfl ?_); first | apply gp_guard_dec rfl rfl rfl rfl | apply gp_guard rfl rfl rfl rfl | fail))
          | (refine gp_see ?_; first | refine p_f ?_ | refine p_sx ?_ | ((fail_if_success refine gp_lit rfl rfl rfl rfl ?_); first | apply gp_guard_dec rfl rfl rfl rfl | apply gp_guard rfl rfl rfl rfl | fail) | refine p_sq ?_)
          | (refine gp_one ?_; first | refine p_v ?_ | refine p_s ?_ | refine p_n (fun _ => ?_) | refine p_y ?_ | refine p_app (fun _ _ => ?_) | refine p_mv ?_ | refine p_ms ?_ | refine p_b0 (fun _ => ?_) | refine p_c (take_moved b ⟨(i : Int) + 1, tok, cur⟩ m (mput [((1 : Int), askV true Cur.zero)] ((i : Int) + 1) (askV true cur)) fp fl fc (fs.flatMap Ev.cells) rp rl rc rs ((i : Int) + 1) ⟨0, ⟨i, 0, 1⟩, ⟨⟨i, 0, 1⟩, 0, bA⟩, 0⟩ (some ⟨eb, 0, none⟩) 1 1 true cur (C := .row eb (evA i).cells 53) (news := (evA i).cells) (mget_self _ _ _) (slAt_row rfl rfl) (by omega) (by omega) (by omega) (by rw [sameC_self]; rfl)) (fun _ _ => ?_))
          | refine gp_done hd hk ?_ | intro _ | refine p_ta hd hk (fun _ _ _ hd hk => ?_))
        rename_i q _
        obtain ⟨⟨q1, q2⟩, ⟨q3, q4⟩, ⟨q5, q6⟩⟩ := q
        rw [mdel_two _ (by omega), ← flat_one (evA i), ← List.flatMap_append]
        exact g_again ⟨i + 1, some m, [(1, askV true Cur.zero)], ⟨⟨i, 0, 1⟩, 0, bA⟩, _, q5, fl + 1, q6, fs ++ [evA i], q1, rl + 1, q2, _, np', nc'⟩ (by simp only []; omega) ⟨by simp only []; omega, by simp [hfs], by simp only []; omega, by simp only []; omega, .inr ⟨by simp only []; omega, ⟨m, rfl⟩, rfl, curAt_succ i hi⟩⟩ (by (repeat (first | exact FrSub.nil | refine FrSub.cons rfl ?_)); first | done | fail) (by (repeat (first | exact Take.nil | apply Take.cons | exact Sel.here | apply Sel.there)); first | done | fail)
    · have hin : (i : Int) = n := by omega
      obtain ⟨⟨m, rfl⟩, rfl, hcur⟩ : (∃ m, mp = some m) ∧ M = [(1, askV true Cur.zero)] ∧ cur = curAt i := by
        rcases hst with h | h
        · exact absurd h.1 (by omega)
        · exact ⟨h.2.1, h.2.2.1, h.2.2.2⟩
      subst hfs
      repeat (first
        | (refine g_ops ?_; first | refine s_q ?_ | refine s_v ?_ | refine s_s ?_ | refine s_n (fun _ => ?_) | refine s_x ?_ | refine s_y ?_ | refine s_mq ?_ | refine s_app (fun _ _ => ?_) | refine s_mv ?_ | refine s_ms ?_ | refine s_b0 (fun _ => ?_) | ((fail_if_success refine g_lit rfl rfl rfl ?_); first | apply g_partM rfl rfl rfl | apply g_partMB rfl rfl rfl | fail) | refine s_c (feed b ⟨i, tok, cur⟩ (some m) fp fs.length fc (fs.flatMap Ev.cells) rp rl rc (by omega)) (fun _ _ => ?_))
        | apply g_regB (id := 1) 19 | refine g_seq ?_ | refine g_region ?_ | refine g_nil ?_ | refine g_then_normal ?_ | refine g_block ?_ | refine g_in_normal ?_
        | refine g_retc ?_ | refine g_then_ret ?_ | refine g_in_ret ?_ | refine g_exit ?_ | refine g_then_exit ?_ | refine g_in_exit ?_ | refine g_in_other rfl ?_
        | refine g_skip ?_ | refine g_label ?_ | refine g_cond_true rfl ?_ | refine g_cond_false rfl ?_ | exact s_m | intro _ | (refine gp_take ?_; first | refine p_q ?_ | refine p_x ?_ | refine p_mq ?_ | ((fail_if_success refine gp_lit rfl rfl rfl rfl ?_); first | apply gp_guard_dec rfl rfl rfl rfl | apply gp_guard rfl rfl rfl rfl | fail))
        | (refine gp_see ?_; first | refine p_f ?_ | refine p_sx ?_ | ((fail_if_success refine gp_lit rfl rfl rfl rfl ?_); first | apply gp_guard_dec rfl rfl rfl rfl | apply gp_guard rfl rfl rfl rfl | fail) | refine p_sq ?_)
        | (refine gp_one ?_; first | refine p_v ?_ | refine p_s ?_ | refine p_n (fun _ => ?_) | refine p_y ?_ | refine p_app (fun _ _ => ?_) | refine p_mv ?_ | refine p_ms ?_ | refine p_b0 (fun _ => ?_) | refine p_c (feed b ⟨i, tok, cur⟩ (some m) fp fs.length fc (fs.flatMap Ev.cells) rp rl rc (by omega)) (fun _ _ => ?_))
        | refine gp_done hd hk ?_ | intro _ | refine p_ta hd hk (fun _ _ _ hd hk => ?_))
      rename_i wq _
      obtain ⟨wp, wc⟩ := wq
      refine g_ops ?_
      refine s_c (round a n ⟨by omega, by omega⟩) (fun k hk => ?_)
      obtain ⟨kn, rfl⟩ : ∃ kn : Nat, k = kn := ⟨k.toNat, by omega⟩
      refine g_own (p := np) (len := i) (cap := nc) (by (repeat (first | exact Sel.here | apply Sel.there)); first | done | fail) (fun _ _ g1 => ?_)
      obtain ⟨nb, rfl⟩ := g1 (by omega)
      have hkn : kn < i := by omega
      have hr : ∀ j, j < i → Reads (.own (some ⟨nb, 0, none⟩) i nc 1 (nums i) 3) ⟨nb, 0 + j, none⟩ (int ((j : Int) + 1)) := fun j hj => nums_at j hj
      repeat (first
        | (refine g_ops ?_; first | refine s_q ?_ | refine s_v ?_ | refine s_s ?_ | refine s_n (fun _ => ?_) | refine s_x ?_ | refine s_y ?_ | refine s_mq ?_ | refine s_app (fun _ _ => ?_) | refine s_mv ?_ | refine s_ms ?_ | refine s_b0 (fun _ => ?_) | ((fail_if_success refine g_lit rfl rfl rfl ?_); first | apply g_partM rfl rfl rfl | apply g_partMB rfl rfl rfl | fail))
        | apply g_regB (id := 1) 19 | refine g_seq ?_ | refine g_region ?_ | refine g_nil ?_ | refine g_then_normal ?_ | refine g_block ?_ | refine g_in_normal ?_
        | refine g_retc ?_ | refine g_then_ret ?_ | refine g_in_ret ?_ | refine g_exit ?_ | refine g_then_exit ?_ | refine g_in_exit ?_ | refine g_in_other rfl ?_
        | refine g_skip ?_ | refine g_label ?_ | refine g_cond_true rfl ?_ | refine g_cond_false rfl ?_ | exact s_m | intro _ | (refine gp_take ?_; first | refine p_q ?_ | refine p_x ?_ | refine p_mq ?_ | ((fail_if_success refine gp_lit rfl rfl rfl rfl ?_); first | apply gp_guard_dec rfl rfl rfl rfl | apply gp_guard rfl rfl rfl rfl | fail))
        | (refine gp_see ?_; first | refine p_f ?_ | refine p_sx ?_ | ((fail_if_success refine gp_lit rfl rfl rfl rfl ?_); first | apply gp_guard_dec rfl rfl rfl rfl | apply gp_guard rfl rfl rfl rfl | fail) | refine p_sq ?_)
        | (refine gp_one ?_; first | refine p_v ?_ | refine p_s ?_ | refine p_n (fun _ => ?_) | refine p_y ?_ | refine p_app (fun _ _ => ?_) | refine p_mv ?_ | refine p_ms ?_ | refine p_b0 (fun _ => ?_))
        | refine gp_done hd hk ?_ | intro _ | refine p_ta hd hk (fun _ _ _ hd hk => ?_))
      rename_i eb
      by_cases hk0 : kn = 0
      · subst hk0
        by_cases h1i : i = 1
        · subst h1i
          obtain rfl : n = 1 := by omega
          obtain rfl : cur = Cur.zero := hcur
          have heq : ((fs.length + 1 : Nat) : Int) = 1 := by omega
          repeat (first
            | (refine g_ops ?_; first | refine s_q ?_ | refine s_v ?_ | refine s_s ?_ | refine s_n (fun _ => ?_) | refine s_x ?_ | refine s_y ?_ | refine s_mq ?_ | refine s_app (fun _ _ => ?_) | refine s_mv ?_ | refine s_ms ?_ | refine s_b0 (fun _ => ?_) | ((fail_if_success refine g_lit rfl rfl rfl ?_); first | apply g_partM rfl rfl rfl | apply g_partMB rfl rfl rfl | fail) | refine s_c (take_moved b ⟨((1 : Nat) : Int), tok, Cur.zero⟩ m [((1 : Int), askV true Cur.zero)] fp fs.length fc (fs.flatMap Ev.cells) rp rl rc rs (((0 : Nat) : Int) + 1) repL (some ⟨eb, 0, none⟩) 1 1 true Cur.zero (C := .row eb evL.cells 53) (news := evL.cells) (by simp [mget]) (slAt_row rfl rfl) (by omega) (by omega) (by omega) rfl) (fun _ _ => ?_))
            | apply g_regB (id := 1) 19 | refine g_seq ?_ | refine g_region ?_ | refine g_nil ?_ | refine g_then_normal ?_ | refine g_block ?_ | refine g_in_normal ?_
            | refine g_retc ?_ | refine g_then_ret ?_ | refine g_in_ret ?_ | refine g_exit ?_ | refine g_then_exit ?_ | refine g_in_exit ?_ | refine g_in_other rfl ?_
            | refine g_skip ?_ | refine g_label ?_ | refine g_cond_true rfl ?_ | refine g_cond_false rfl ?_ | exact s_m | intro _ | (refine gp_take ?_; first | refine p_q ?_ | refine p_x ?_ | refine p_mq ?_ | ((fail_if_success refine gp_lit rfl rfl rfl rfl ?_); first | apply gp_guard_dec rfl rfl rfl rfl | apply gp_guard rfl rfl rfl rfl | fail))
            | (refine gp_see ?_; first | refine p_f ?_ | refine p_sx ?_ | ((fail_if_success refine gp_lit rfl rfl rfl rfl ?_); first | apply gp_guard_dec rfl rfl rfl rfl | apply gp_guard rfl rfl rfl rfl | fail) | refine p_sq ?_)
            | (refine gp_one ?_; first | refine p_v ?_ | refine p_s ?_ | refine p_n (fun _ => ?_) | refine p_y ?_ | refine p_app (fun _ _ => ?_) | refine p_mv ?_ | refine p_ms ?_ | refine p_b0 (fun _ => ?_) | refine p_c (take_moved b ⟨((1 : Nat) : Int), tok, Cur.zero⟩ m [((1 : Int), askV true Cur.zero)] fp fs.length fc (fs.flatMap Ev.cells) rp rl rc rs (((0 : Nat) : Int) + 1) repL (some ⟨eb, 0, none⟩) 1 1 true Cur.zero (C := .row eb evL.cells 53) (news := evL.cells) (by simp [mget]) (slAt_row rfl rfl) (by omega) (by omega) (by omega) rfl) (fun _ _ => ?_))
            | refine gp_done hd hk ?_ | intro _ | refine p_ta hd hk (fun _ _ _ hd hk => ?_))
          rename_i q _
          obtain ⟨⟨q1, q2⟩, ⟨q3, q4⟩, ⟨q5, q6⟩⟩ := q
          repeat (first
            | (refine g_ops ?_; first | refine s_qe ?_ | refine s_q ?_ | refine s_v ?_ | refine s_s ?_ | refine s_n (fun _ => ?_) | refine s_x ?_ | refine s_y ?_ | refine s_mq ?_ | refine s_app (fun _ _ => ?_) | refine s_mv ?_ | refine s_ms ?_ | refine s_b0 (fun _ => ?_) | ((fail_if_success refine g_lit rfl rfl rfl ?_); first | apply g_partM rfl rfl rfl | apply g_partMB rfl rfl rfl | fail) | refine s_k (awake) ?_ | refine s_c (feed b ⟨((1 : Nat) : Int), tokOf ⟨((1 : Nat) : Int), tok, Cur.zero⟩ repL, repL.cur⟩ (some m) q5 (fs.length + 1) q6 (fs.flatMap Ev.cells ++ evL.cells) q1 (rl + 1) q2 (by omega)) (fun _ _ => ?_))
            | apply g_regB (id := 1) 19 | refine g_seq ?_ | refine g_region ?_ | refine g_nil ?_ | refine g_then_normal ?_ | refine g_block ?_ | refine g_in_normal ?_
            | refine g_retc ?_ | refine g_then_ret ?_ | refine g_in_ret ?_ | refine g_exit ?_ | refine g_then_exit ?_ | refine g_in_exit ?_ | refine g_in_other rfl ?_
            | refine g_skip ?_ | refine g_label ?_ | refine g_cond_true rfl ?_ | refine g_cond_false rfl ?_ | exact s_m | intro _ | (refine gp_take ?_; first | refine p_qe ?_ | refine p_q ?_ | refine p_x ?_ | refine p_mq ?_ | ((fail_if_success refine gp_lit rfl rfl rfl rfl ?_); first | apply gp_guard_dec rfl rfl rfl rfl | apply gp_guard rfl rfl rfl rfl | fail))
            | (refine gp_see ?_; first | refine p_f ?_ | refine p_sx ?_ | ((fail_if_success refine gp_lit rfl rfl rfl rfl ?_); first | apply gp_guard_dec rfl rfl rfl rfl | apply gp_guard rfl rfl rfl rfl | fail) | refine p_h (awake) hd hk ?_ | refine p_sq ?_)
            | (refine gp_one ?_; first | refine p_v ?_ | refine p_s ?_ | refine p_n (fun _ => ?_) | refine p_y ?_ | refine p_app (fun _ _ => ?_) | refine p_mv ?_ | refine p_ms ?_ | refine p_b0 (fun _ => ?_) | refine p_k (awake) ?_ | refine p_c (feed b ⟨((1 : Nat) : Int), tokOf ⟨((1 : Nat) : Int), tok, Cur.zero⟩ repL, repL.cur⟩ (some m) q5 (fs.length + 1) q6 (fs.flatMap Ev.cells ++ evL.cells) q1 (rl + 1) q2 (by omega)) (fun _ _ => ?_))
            | refine gp_done hd hk ?_ | intro _ | refine p_ta hd hk (fun _ _ _ hd hk => ?_))
          exact s_r ()
        · have hmv : (true && sameC Cur.zero cur && decide (repL.code = 0)) = false := by
            rw [hcur, curAt, if_neg h1i]
            have : ¬ (0 : Int) = (i : Int) - 1 := by omega
            simp [sameC, Cur.zero, S3.zero, this]
          have heq : ((fs.length : Nat) : Int) = n - 1 := by omega
          repeat (first
            | (refine g_ops ?_; first | refine s_q ?_ | refine s_v ?_ | refine s_s ?_ | refine s_n (fun _ => ?_) | refine s_x ?_ | refine s_y ?_ | refine s_mq ?_ | refine s_app (fun _ _ => ?_) | refine s_mv ?_ | refine s_ms ?_ | refine s_b0 (fun _ => ?_) | ((fail_if_success refine g_lit rfl rfl rfl ?_); first | apply g_partM rfl rfl rfl | apply g_partMB rfl rfl rfl | fail) | refine s_c (take_still b ⟨i, tok, cur⟩ m [((1 : Int), askV true Cur.zero)] fp fs.length fc rp rl rc rs (((0 : Nat) : Int) + 1) repL (some ⟨eb, 0, none⟩) 1 1 true Cur.zero (C := .row eb evL.cells 53) (news := evL.cells) (by simp [mget]) (slAt_row rfl rfl) (by omega) (by omega) hmv) (fun _ _ => ?_))
            | apply g_regB (id := 1) 19 | refine g_seq ?_ | refine g_region ?_ | refine g_nil ?_ | refine g_then_normal ?_ | refine g_block ?_ | refine g_in_normal ?_
            | refine g_retc ?_ | refine g_then_ret ?_ | refine g_in_ret ?_ | refine g_exit ?_ | refine g_then_exit ?_ | refine g_in_exit ?_ | refine g_in_other rfl ?_
            | refine g_skip ?_ | refine g_label ?_ | refine g_cond_true rfl ?_ | refine g_cond_false rfl ?_ | exact s_m | intro _ | (refine gp_take ?_; first | refine p_q ?_ | refine p_x ?_ | refine p_mq ?_ | ((fail_if_success refine gp_lit rfl rfl rfl rfl ?_); first | apply gp_guard_dec rfl rfl rfl rfl | apply gp_guard rfl rfl rfl rfl | fail))
            | (refine gp_see ?_; first | refine p_f ?_ | refine p_sx ?_ | ((fail_if_success refine gp_lit rfl rfl rfl rfl ?_); first | apply gp_guard_dec rfl rfl rfl rfl | apply gp_guard rfl rfl rfl rfl | fail) | refine p_sq ?_)
            | (refine gp_one ?_; first | refine p_v ?_ | refine p_s ?_ | refine p_n (fun _ => ?_) | refine p_y ?_ | refine p_app (fun _ _ => ?_) | refine p_mv ?_ | refine p_ms ?_ | refine p_b0 (fun _ => ?_) | refine p_c (take_still b ⟨i, tok, cur⟩ m [((1 : Int), askV true Cur.zero)] fp fs.length fc rp rl rc rs (((0 : Nat) : Int) + 1) repL (some ⟨eb, 0, none⟩) 1 1 true Cur.zero (C := .row eb evL.cells 53) (news := evL.cells) (by simp [mget]) (slAt_row rfl rfl) (by omega) (by omega) hmv) (fun _ _ => ?_))
            | refine gp_done hd hk ?_ | intro _ | refine p_ta hd hk (fun _ _ _ hd hk => ?_))
          rename_i q _
          obtain ⟨⟨q1, q2⟩, ⟨q3, q4⟩⟩ := q
          refine g_cond_dec rfl (fun h => absurd h (by omega)) (fun _ => ?_)
          repeat (first
            | (refine g_ops ?_; first | refine s_qe ?_ | refine s_q ?_ | refine s_v ?_ | refine s_s ?_ | refine s_n (fun _ => ?_) | refine s_x ?_ | refine s_y ?_ | refine s_mq ?_ | refine s_app (fun _ _ => ?_) | refine s_mv ?_ | refine s_ms ?_ | refine s_b0 (fun _ => ?_) | ((fail_if_success refine g_lit rfl rfl rfl ?_); first | apply g_partM rfl rfl rfl | apply g_partMB rfl rfl rfl | fail) | refine s_c (feed b ⟨i, tokOf ⟨i, tok, cur⟩ repL, cur⟩ (some m) fp fs.length fc (fs.flatMap Ev.cells) q1 (rl + 1) q2 (by omega)) (fun _ _ => ?_))
            | apply g_regB (id := 1) 19 | refine g_seq ?_ | refine g_region ?_ | refine g_nil ?_ | refine g_then_normal ?_ | refine g_block ?_ | refine g_in_normal ?_
            | refine g_retc ?_ | refine g_then_ret ?_ | refine g_in_ret ?_ | refine g_exit ?_ | refine g_then_exit ?_ | refine g_in_exit ?_ | refine g_in_other rfl ?_
            | refine g_skip ?_ | refine g_label ?_ | refine g_cond_true rfl ?_ | refine g_cond_false rfl ?_ | exact s_m | intro _ | (refine gp_take ?_; first | refine p_qe ?_ | refine p_q ?_ | refine p_x ?_ | refine p_mq ?_ | ((fail_if_success refine gp_lit rfl rfl rfl rfl ?_); first | apply gp_guard_dec rfl rfl rfl rfl | apply gp_guard rfl rfl rfl rfl | fail))
            | (refine gp_see ?_; first | refine p_f ?_ | refine p_sx ?_ | ((fail_if_success refine gp_lit rfl rfl rfl rfl ?_); first | apply gp_guard_dec rfl rfl rfl rfl | apply gp_guard rfl rfl rfl rfl | fail) | refine p_sq ?_)
            | (refine gp_one ?_; first | refine p_v ?_ | refine p_s ?_ | refine p_n (fun _ => ?_) | refine p_y ?_ | refine p_app (fun _ _ => ?_) | refine p_mv ?_ | refine p_ms ?_ | refine p_b0 (fun _ => ?_) | refine p_c (feed b ⟨i, tokOf ⟨i, tok, cur⟩ repL, cur⟩ (some m) fp fs.length fc (fs.flatMap Ev.cells) q1 (rl + 1) q2 (by omega)) (fun _ _ => ?_))
            | refine gp_done hd hk ?_ | intro _ | refine p_ta hd hk (fun _ _ _ hd hk => ?_))
          rename_i fq _
          obtain ⟨f1, f2⟩ := fq
          repeat (first
            | (refine g_ops ?_; first | refine s_qe ?_ | refine s_q ?_ | refine s_v ?_ | refine s_s ?_ | refine s_n (fun _ => ?_) | refine s_x ?_ | refine s_y ?_ | refine s_mq ?_ | refine s_app (fun _ _ => ?_) | refine s_mv ?_ | refine s_ms ?_ | refine s_b0 (fun _ => ?_) | ((fail_if_success refine g_lit rfl rfl rfl ?_); first | apply g_partM rfl rfl rfl | apply g_partMB rfl rfl rfl | fail) | refine s_k (awake) ?_ | refine s_k (sameEv f1 fs.length f2 fs wp fs.length wc fs fs.length f2 wc (Nat.le_refl _) (Nat.le_refl _) rfl rfl (fun _ _ => rfl) (by omega)) ?_)
            | apply g_regB (id := 1) 19 | refine g_seq ?_ | refine g_region ?_ | refine g_nil ?_ | refine g_then_normal ?_ | refine g_block ?_ | refine g_in_normal ?_
            | refine g_retc ?_ | refine g_then_ret ?_ | refine g_in_ret ?_ | refine g_exit ?_ | refine g_then_exit ?_ | refine g_in_exit ?_ | refine g_in_other rfl ?_
            | refine g_skip ?_ | refine g_label ?_ | refine g_cond_true rfl ?_ | refine g_cond_false rfl ?_ | exact s_m | intro _ | (refine gp_take ?_; first | refine p_qe ?_ | refine p_q ?_ | refine p_x ?_ | refine p_mq ?_ | ((fail_if_success refine gp_lit rfl rfl rfl rfl ?_); first | apply gp_guard_dec rfl rfl rfl rfl | apply gp_guard rfl rfl rfl rfl | fail))
            | (refine gp_see ?_; first | refine p_f ?_ | refine p_sx ?_ | ((fail_if_success refine gp_lit rfl rfl rfl rfl ?_); first | apply gp_guard_dec rfl rfl rfl rfl | apply gp_guard rfl rfl rfl rfl | fail) | refine p_h (awake) hd hk ?_ | refine p_h (sameEv f1 fs.length f2 fs wp fs.length wc fs fs.length f2 wc (Nat.le_refl _) (Nat.le_refl _) rfl rfl (fun _ _ => rfl) (by omega)) hd hk ?_ | refine p_sq ?_)
            | (refine gp_one ?_; first | refine p_v ?_ | refine p_s ?_ | refine p_n (fun _ => ?_) | refine p_y ?_ | refine p_app (fun _ _ => ?_) | refine p_mv ?_ | refine p_ms ?_ | refine p_b0 (fun _ => ?_) | refine p_k (awake) ?_ | refine p_k (sameEv f1 fs.length f2 fs wp fs.length wc fs fs.length f2 wc (Nat.le_refl _) (Nat.le_refl _) rfl rfl (fun _ _ => rfl) (by omega)) ?_)
            | refine gp_done hd hk ?_ | intro _ | refine p_ta hd hk (fun _ _ _ hd hk => ?_))
          exact s_r ()
      · have hmg : mget [((1 : Int), askV true Cur.zero)] ((kn : Int) + 1) = none := by
          have : ¬ (kn : Int) + 1 = 1 := by omega
          rw [mget, if_neg this, mget]
        have heq : ((fs.length : Nat) : Int) = n - 1 := by omega
        have hne : (kn : Int) + 1 ≠ 1 := by omega
        repeat (first
          | (refine g_ops ?_; first | refine s_q ?_ | refine s_v ?_ | refine s_s ?_ | refine s_n (fun _ => ?_) | refine s_x ?_ | refine s_y ?_ | refine s_mq ?_ | refine s_app (fun _ _ => ?_) | refine s_mv ?_ | refine s_ms ?_ | refine s_b0 (fun _ => ?_) | ((fail_if_success refine g_lit rfl rfl rfl ?_); first | apply g_partM rfl rfl rfl | apply g_partMB rfl rfl rfl | fail) | refine s_k (take_no b ⟨i, tok, cur⟩ m [((1 : Int), askV true Cur.zero)] fp fs.length fc rp rl rc ((kn : Int) + 1) repL (some ⟨eb, 0, none⟩) 1 1 hmg) ?_)
          | apply g_regB (id := 1) 19 | refine g_seq ?_ | refine g_region ?_ | refine g_nil ?_ | refine g_then_normal ?_ | refine g_block ?_ | refine g_in_normal ?_
          | refine g_retc ?_ | refine g_then_ret ?_ | refine g_in_ret ?_ | refine g_exit ?_ | refine g_then_exit ?_ | refine g_in_exit ?_ | refine g_in_other rfl ?_
          | refine g_skip ?_ | refine g_label ?_ | refine g_cond_true rfl ?_ | refine g_cond_false rfl ?_ | exact s_m | intro _ | (refine gp_take ?_; first | refine p_q ?_ | refine p_x ?_ | refine p_mq ?_ | ((fail_if_success refine gp_lit rfl rfl rfl rfl ?_); first | apply gp_guard_dec rfl rfl rfl rfl | apply gp_guard rfl rfl rfl rfl | fail))
          | (refine gp_see ?_; first | refine p_f ?_ | refine p_sx ?_ | ((fail_if_success refine gp_lit rfl rfl rfl rfl ?_); first | apply gp_guard_dec rfl rfl rfl rfl | apply gp_guard rfl rfl rfl rfl | fail) | refine p_h (take_no b ⟨i, tok, cur⟩ m [((1 : Int), askV true Cur.zero)] fp fs.length fc rp rl rc ((kn : Int) + 1) repL (some ⟨eb, 0, none⟩) 1 1 hmg) hd hk ?_ | refine p_sq ?_)
          | (refine gp_one ?_; first | refine p_v ?_ | refine p_s ?_ | refine p_n (fun _ => ?_) | refine p_y ?_ | refine p_app (fun _ _ => ?_) | refine p_mv ?_ | refine p_ms ?_ | refine p_b0 (fun _ => ?_) | refine p_k (take_no b ⟨i, tok, cur⟩ m [((1 : Int), askV true Cur.zero)] fp fs.length fc rp rl rc ((kn : Int) + 1) repL (some ⟨eb, 0, none⟩) 1 1 hmg) ?_)
          | refine gp_done hd hk ?_ | intro _ | refine p_ta hd hk (fun _ _ _ hd hk => ?_))
        refine g_cond_dec rfl (fun h => absurd h (by omega)) (fun _ => ?_)
        repeat (first
          | (refine g_ops ?_; first | refine s_qe ?_ | refine s_q ?_ | refine s_v ?_ | refine s_s ?_ | refine s_n (fun _ => ?_) | refine s_x ?_ | refine s_y ?_ | refine s_mq ?_ | refine s_app (fun _ _ => ?_) | refine s_mv ?_ | refine s_ms ?_ | refine s_b0 (fun _ => ?_) | ((fail_if_success refine g_lit rfl rfl rfl ?_); first | apply g_partM rfl rfl rfl | apply g_partMB rfl rfl rfl | fail) | refine s_c (feed b ⟨i, tok, cur⟩ (some m) fp fs.length fc (fs.flatMap Ev.cells) rp rl rc (by omega)) (fun _ _ => ?_))
          | apply g_regB (id := 1) 19 | refine g_seq ?_ | refine g_region ?_ | refine g_nil ?_ | refine g_then_normal ?_ | refine g_block ?_ | refine g_in_normal ?_
          | refine g_retc ?_ | refine g_then_ret ?_ | refine g_in_ret ?_ | refine g_exit ?_ | refine g_then_exit ?_ | refine g_in_exit ?_ | refine g_in_other rfl ?_
          | refine g_skip ?_ | refine g_label ?_ | refine g_cond_true rfl ?_ | refine g_cond_false rfl ?_ | exact s_m | intro _ | (refine gp_take ?_; first | refine p_qe ?_ | refine p_q ?_ | refine p_x ?_ | refine p_mq ?_ | ((fail_if_success refine gp_lit rfl rfl rfl rfl ?_); first | apply gp_guard_dec rfl rfl rfl rfl | apply gp_guard rfl rfl rfl rfl | fail))
          | (refine gp_see ?_; first | refine p_f ?_ | refine p_sx ?_ | ((fail_if_success refine gp_lit rfl rfl rfl rfl ?_); first | apply gp_guard_dec rfl rfl rfl rfl | apply gp_guard rfl rfl rfl rfl | fail) | refine p_sq ?_)
          | (refine gp_one ?_; first | refine p_v ?_ | refine p_s ?_ | refine p_n (fun _ => ?_) | refine p_y ?_ | refine p_app (fun _ _ => ?_) | refine p_mv ?_ | refine p_ms ?_ | refine p_b0 (fun _ => ?_) | refine p_c (feed b ⟨i, tok, cur⟩ (some m) fp fs.length fc (fs.flatMap Ev.cells) rp rl rc (by omega)) (fun _ _ => ?_))
          | refine gp_done hd hk ?_ | intro _ | refine p_ta hd hk (fun _ _ _ hd hk => ?_))
        rename_i fq _
        obtain ⟨f1, f2⟩ := fq
        repeat (first
          | (refine g_ops ?_; first | refine s_qe ?_ | refine s_q ?_ | refine s_v ?_ | refine s_s ?_ | refine s_n (fun _ => ?_) | refine s_x ?_ | refine s_y ?_ | refine s_mq ?_ | refine s_app (fun _ _ => ?_) | refine s_mv ?_ | refine s_ms ?_ | refine s_b0 (fun _ => ?_) | ((fail_if_success refine g_lit rfl rfl rfl ?_); first | apply g_partM rfl rfl rfl | apply g_partMB rfl rfl rfl | fail) | refine s_k (awake) ?_ | refine s_k (sameEv f1 fs.length f2 fs wp fs.length wc fs fs.length f2 wc (Nat.le_refl _) (Nat.le_refl _) rfl rfl (fun _ _ => rfl) (by omega)) ?_)
          | apply g_regB (id := 1) 19 | refine g_seq ?_ | refine g_region ?_ | refine g_nil ?_ | refine g_then_normal ?_ | refine g_block ?_ | refine g_in_normal ?_
          | refine g_retc ?_ | refine g_then_ret ?_ | refine g_in_ret ?_ | refine g_exit ?_ | refine g_then_exit ?_ | refine g_in_exit ?_ | refine g_in_other rfl ?_
          | refine g_skip ?_ | refine g_label ?_ | refine g_cond_true rfl ?_ | refine g_cond_false rfl ?_ | exact s_m | intro _ | (refine gp_take ?_; first | refine p_qe ?_ | refine p_q ?_ | refine p_x ?_ | refine p_mq ?_ | ((fail_if_success refine gp_lit rfl rfl rfl rfl ?_); first | apply gp_guard_dec rfl rfl rfl rfl | apply gp_guard rfl rfl rfl rfl | fail))
          | (refine gp_see ?_; first | refine p_f ?_ | refine p_sx ?_ | ((fail_if_success refine gp_lit rfl rfl rfl rfl ?_); first | apply gp_guard_dec rfl rfl rfl rfl | apply gp_guard rfl rfl rfl rfl | fail) | refine p_h (awake) hd hk ?_ | refine p_h (sameEv f1 fs.length f2 fs wp fs.length wc fs fs.length f2 wc (Nat.le_refl _) (Nat.le_refl _) rfl rfl (fun _ _ => rfl) (by omega)) hd hk ?_ | refine p_sq ?_)
          | (refine gp_one ?_; first | refine p_v ?_ | refine p_s ?_ | refine p_n (fun _ => ?_) | refine p_y ?_ | refine p_app (fun _ _ => ?_) | refine p_mv ?_ | refine p_ms ?_ | refine p_b0 (fun _ => ?_) | refine p_k (awake) ?_ | refine p_k (sameEv f1 fs.length f2 fs wp fs.length wc fs fs.length f2 wc (Nat.le_refl _) (Nat.le_refl _) rfl rfl (fun _ _ => rfl) (by omega)) ?_)
          | refine gp_done hd hk ?_ | intro _ | refine p_ta hd hk (fun _ _ _ hd hk => ?_))
        exact s_r ()
end Go.Proofs.Ytkejdilmdpgbpaa
