/- The law of polls that bring a part once: the walk. -/
import Derived.Test.YtkejdilmdpgbpaaCliI
set_option linter.unusedSimpArgs false
set_option linter.unusedVariables false
namespace Go.Sl
theorem qs_min {P : Program} {Γ : Ctx} {fr : Fr} {d : Nat} {ty : TypeId} {pos : String} {aft : Array Edge} {gd : Option (Nat × Bool)} {x y : Operand} {t t2 : TypeId} {a b : Int} (hx : ev fr x = some (.int .i64 a)) (hy : ev fr y = some (.int .i64 b)) :
    QStep P Γ fr ⟨some d, .call ⟨.builtin .min, [x, y].toArray, [t, t2].toArray⟩, ty, pos, aft, gd⟩ (.int .i64 (if b < a then b else a)) := qs_of (fun c w hf => by
  have hb : ∀ {ats : Array TypeId} {cs : Array Bool} {args : Array Value}, builtin .min ats ty cs args = (do pure (.value (← Builtin.min_ ats ty args))) := rfl
  simp [execOp, resolve, hf.ev hx, hf.ev hy, invoke, hb, run_min_int2])
end Go.Sl
namespace Go.Proofs.Ytkejdilmdpgbpaa
open Go.Sl facts
attribute [local irreducible] Code.wp wpList Exit.then Exit.inBlock bodyPost Back MidQ G GP QStep VStep CStep SStep Does Post Reads
def place (k : Nat) : Cur := if k = 0 then Cur.zero else ⟨⟨k, 0, 1⟩, 0, bA⟩
def allTo (i : Nat) : List Ev := (List.range i).map fun j => evA (j + 1)
theorem allTo_snoc (i : Nat) : allTo i ++ [evA (i + 1)] = allTo (i + 1) := by simp [allTo, List.range_succ]
theorem allTo_len (i : Nat) : (allTo i).length = i := by simp [allTo]
theorem ev_one (a : Ev) : a.cells.all (·.oneCell') = true := rfl
theorem allTo_at (k i : Nat) (h : i < k) : (allTo k)[i]? = some (evA (i + 1)) := by simp [allTo, h]
theorem place_apart (a c : Nat) (h : a < c) : sameC (place a) (place c) = false := by
  have h1 : ¬ c = 0 := by omega
  by_cases h2 : a = 0
  · have : ¬ (0 : Int) = (c : Int) := by omega
    simp [place, sameC, h2, h1, Cur.zero, S3.zero, this]
  · have : ¬ (a : Int) = (c : Int) := by omega
    simp [place, sameC, h2, h1, this]
/-- Numbers of a list, where they stand. -/
def IntsAt (C : Chunk) (p : Option Addr) (l : List Int) : Prop := ∀ (i : Nat) (x : Int), l[i]? = some x → ∃ b o, p = some ⟨b, o, none⟩ ∧ Reads C ⟨b, o + i, none⟩ (int x)
abbrev numB (base : Nat) (j : Nat) : List Value := [int ((base : Int) + (j : Int) + 1)]
theorem numB_len (base a : Nat) : (numB base a).length = 1 := rfl
abbrev numsB (base i : Nat) : List Value := (List.range i).flatMap (numB base)
theorem numsB_snoc (base i : Nat) : numsB base i ++ [int ((base : Int) + (i : Int) + 1)] = numsB base (i + 1) := by simp [numsB, List.range_succ, numB]
theorem numsB_at {b base i c : Nat} {e : TypeId} (j : Nat) (h : j < i) : Reads (.own (some ⟨b, 0, none⟩) i c 1 (numsB base i) e) ⟨b, 0 + j, none⟩ (int ((base : Int) + (j : Int) + 1)) := by
  have := own_at (b := b) (len := i) (cap := c) (e := e) (numB_len base) (l := List.range i) (i := j) (a := j) (by simp [h]) 0 (int ((base : Int) + (j : Int) + 1)) rfl
  simpa using this
/-- All that was asked behind base was asked from one place. -/
def Keys (M : List (Int × Value)) (base last : Int) (a : Nat) : Prop := ∀ k v, (k, v) ∈ M → k ≤ last ∧ (base < k → v = askV true (place a))
theorem Keys.put {M : List (Int × Value)} {base last : Int} {a : Nat} (h : Keys M base last a) : Keys (mput M (last + 1) (askV true (place a))) base (last + 1) a := fun k v hm => by
  rcases mem_mput hm with ⟨e1, e2⟩ | hm
  · exact ⟨by omega, fun _ => e2⟩
  · have := h k v hm
    exact ⟨by omega, this.2⟩
theorem Keys.del {M : List (Int × Value)} {base last x : Int} {a : Nat} (h : Keys M base last a) : Keys (mdel M x) base last a := fun k v hm => h k v (mem_mdel hm)
theorem Keys.next {M : List (Int × Value)} {base last : Int} {a c : Nat} (h : Keys M base last a) : Keys M last last c := fun k v hm => ⟨(h k v hm).1, fun hk => absurd (h k v hm).1 (by omega)⟩
abbrev placeC (k : Nat) : List Value := [int (place k).s.w, int (place k).s.l, int (place k).s.n, int (place k).i, .string (place k).t]
theorem placeC_pos {k : Nat} (h : 0 < k) : placeC k = [int k, int 0, int 1, int 0, .string bA] := by
  have : ¬ k = 0 := by omega
  simp only [placeC, place, if_neg this]
theorem placeC_zero {k : Nat} (h : k = 0) : placeC k = [int 0, int 0, int 0, int 0, .string ByteArray.empty] := by
  subst h; rfl
theorem evAt {b ac k o : Nat} {e : TypeId} (h : 0 < k) (h2 : k ≤ 60) (ho : o = (k - 1) * 7) : ∀ (j : Nat) (v : Value), [Value.string bA, int k, Value.string ByteArray.empty, int k, int 0, int 1, int 0][j]? = some v → Reads (.own (some ⟨b, 0, none⟩) 60 ac 7 ((allTo 60).flatMap Ev.cells) e) ⟨b, o + j, none⟩ v := fun j v hv => by
  have q := own_at (b := b) (len := 60) (cap := ac) (e := e) ev_len (allTo_at 60 (k - 1) (by omega)) j v
  rw [show k - 1 + 1 = k by omega] at q
  rw [ho]
  rw [Nat.zero_add] at q
  exact q hv
structure OS where
  mp : Option Nat
  M : List (Int × Value)
  last : Nat
  tok : S3
  fl : Nat
  fp : Option Addr
  fc : Nat
  rp : Option Addr
  rl : Nat
  rc : Nat
  rs : List Value
abbrev OS.L (x : OS) (b : Nat) : List Chunk := [clr b ⟨x.last, x.tok, place x.fl⟩ x.mp x.fp x.fl x.fc x.rp x.rl x.rc, .asn (mapO x.mp x.M), .own x.fp x.fl x.fc 7 (((allTo 60).take x.fl).flatMap Ev.cells) 53, .own x.rp x.rl x.rc 15 x.rs 74]
structure OOk (x : OS) (r : Nat) (base : Int) (a : Nat) : Prop where
  fl : x.fl ≤ 60
  rl : x.rl ≤ 10 * r
  last : x.last ≤ 10 * r
  keys : Keys x.M base x.last a
set_option maxHeartbeats 8000000 in
theorem once (W : World) (n : Int) (p1 : Option Addr) (l1 : List Int) (cap1 : Nat) (hs1 : IntsAt (Init W) p1 l1) (p2 : Option Addr) (l2 : List Int) (cap2 : Nat) (hs2 : IntsAt (Init W) p2 l2) :
    Does1 Try.prog 5 [int n, .slice p1 l1.length cap1, .slice p2 l2.length cap2] [Init W] (.bool true) := by
  refine fn_intro Try.func5 rfl Try.ntmps5 rfl (by simp only [argFr, Nat.zero_add, Nat.reduceAdd]; rfl) (fun Γ => ?_)
  repeat (first
    | (refine g_ops ?_; first | refine s_q ?_ | refine s_v ?_ | refine s_s ?_ | refine s_n (fun _ => ?_) | refine s_x ?_ | refine s_y ?_ | refine s_mq ?_ | refine s_app (fun _ _ => ?_) | refine s_mv ?_ | refine s_ms ?_ | refine s_b0 (fun _ => ?_) | ((fail_if_success refine g_lit rfl rfl rfl ?_); first | apply g_partM rfl rfl rfl | apply g_partMB rfl rfl rfl | fail) | refine s_k (awake) ?_)
    | apply g_regB (id := 1) 37 | refine g_draw (id := 18) (.take 0 (.see 1 [] (.take 2 (.see 3 [] (.take 4 .done))))) (by kernel_rfl) (take_all _) (fun k hd hk => ?_)
    | refine g_drawS (id := 36) 9 (.take 0 (.take 1 (.take 2 (.take 3 (.see 4 [] (.take 5 (.see 6 [] (.take 7 (.see 8 [] (.take 9 (.one 10 .done))))))))))) (fun k hd hk => ?_)
    | apply g_regB (id := 38) 176 | refine g_seq ?_ | refine g_region ?_ | refine g_nil ?_ | refine g_then_normal ?_ | refine g_block ?_ | refine g_in_normal ?_
    | refine g_retc ?_ | refine g_then_ret ?_ | refine g_in_ret ?_ | refine g_exit ?_ | refine g_then_exit ?_ | refine g_in_exit ?_ | refine g_in_other rfl ?_
    | refine g_skip ?_ | refine g_label ?_ | refine g_cond_true rfl ?_ | refine g_cond_false rfl ?_ | exact s_m | intro _ | (refine gp_take ?_; first | refine p_q ?_ | refine p_x ?_ | refine p_mq ?_ | ((fail_if_success refine gp_lit rfl rfl rfl rfl ?_); first | apply gp_guard_dec rfl rfl rfl rfl | apply gp_guard rfl rfl rfl rfl | fail))
    | (refine gp_see ?_; first | refine p_f ?_ | refine p_sx ?_ | ((fail_if_success refine gp_lit rfl rfl rfl rfl ?_); first | apply gp_guard_dec rfl rfl rfl rfl | apply gp_guard rfl rfl rfl rfl | fail) | refine p_h (awake) hd hk ?_ | refine p_sq ?_)
    | (refine gp_one ?_; first | refine p_v ?_ | refine p_s ?_ | refine p_n (fun _ => ?_) | refine p_y ?_ | refine p_app (fun _ _ => ?_) | refine p_mv ?_ | refine p_ms ?_ | refine p_b0 (fun _ => ?_) | refine p_k (awake) ?_)
    | refine gp_done hd hk ?_ | intro _ | refine p_ta hd hk (fun _ _ _ hd hk => ?_))
  refine g_cond rfl (fun h => ?_) (fun h => ?_)
  · repeat (first
      | (refine g_ops ?_; first | refine s_q ?_ | refine s_v ?_ | refine s_s ?_ | refine s_n (fun _ => ?_) | refine s_x ?_ | refine s_y ?_ | refine s_mq ?_ | refine s_app (fun _ _ => ?_) | refine s_mv ?_ | refine s_ms ?_ | refine s_b0 (fun _ => ?_) | ((fail_if_success refine g_lit rfl rfl rfl ?_); first | apply g_partM rfl rfl rfl | apply g_partMB rfl rfl rfl | fail) | refine s_k (awake) ?_)
      | apply g_regB (id := 1) 37 | refine g_draw (id := 18) (.take 0 (.see 1 [] (.take 2 (.see 3 [] (.take 4 .done))))) (by kernel_rfl) (take_all _) (fun k hd hk => ?_)
      | refine g_drawS (id := 36) 9 (.take 0 (.take 1 (.take 2 (.take 3 (.see 4 [] (.take 5 (.see 6 [] (.take 7 (.see 8 [] (.take 9 (.one 10 .done))))))))))) (fun k hd hk => ?_)
      | apply g_regB (id := 38) 176 | refine g_seq ?_ | refine g_region ?_ | refine g_nil ?_ | refine g_then_normal ?_ | refine g_block ?_ | refine g_in_normal ?_
      | refine g_retc ?_ | refine g_then_ret ?_ | refine g_in_ret ?_ | refine g_exit ?_ | refine g_then_exit ?_ | refine g_in_exit ?_ | refine g_in_other rfl ?_
      | refine g_skip ?_ | refine g_label ?_ | refine g_cond_true rfl ?_ | refine g_cond_false rfl ?_ | exact s_m | intro _ | (refine gp_take ?_; first | refine p_q ?_ | refine p_x ?_ | refine p_mq ?_ | ((fail_if_success refine gp_lit rfl rfl rfl rfl ?_); first | apply gp_guard_dec rfl rfl rfl rfl | apply gp_guard rfl rfl rfl rfl | fail))
      | (refine gp_see ?_; first | refine p_f ?_ | refine p_sx ?_ | ((fail_if_success refine gp_lit rfl rfl rfl rfl ?_); first | apply gp_guard_dec rfl rfl rfl rfl | apply gp_guard rfl rfl rfl rfl | fail) | refine p_h (awake) hd hk ?_ | refine p_sq ?_)
      | (refine gp_one ?_; first | refine p_v ?_ | refine p_s ?_ | refine p_n (fun _ => ?_) | refine p_y ?_ | refine p_app (fun _ _ => ?_) | refine p_mv ?_ | refine p_ms ?_ | refine p_b0 (fun _ => ?_) | refine p_k (awake) ?_)
      | refine gp_done hd hk ?_ | intro _ | refine p_ta hd hk (fun _ _ _ hd hk => ?_))
    exact s_r ()
  · have hn : 1 ≤ n ∧ n ≤ 10 := by simp at h; omega
    have hl1 : l1.length ≤ 30 := by simp at h; omega
    have hl2 : l2.length ≤ 30 := by simp at h; omega
    obtain ⟨nn, rfl⟩ : ∃ nn : Nat, n = nn := ⟨n.toNat, by omega⟩
    repeat (first
      | (refine g_ops ?_; first | refine s_q ?_ | refine s_v ?_ | refine s_s ?_ | refine s_n (fun _ => ?_) | refine s_x ?_ | refine s_y ?_ | refine s_mq ?_ | refine s_app (fun _ _ => ?_) | refine s_mv ?_ | refine s_ms ?_ | refine s_b0 (fun _ => ?_) | ((fail_if_success refine g_lit rfl rfl rfl ?_); first | apply g_partM rfl rfl rfl | apply g_partMB rfl rfl rfl | fail))
      | apply g_regB (id := 1) 37 | refine g_draw (id := 18) (.take 0 (.see 1 [] (.take 2 (.see 3 [] (.take 4 .done))))) (by kernel_rfl) (take_all _) (fun k hd hk => ?_)
      | refine g_drawS (id := 36) 9 (.take 0 (.take 1 (.take 2 (.take 3 (.see 4 [] (.take 5 (.see 6 [] (.take 7 (.see 8 [] (.take 9 (.one 10 .done))))))))))) (fun k hd hk => ?_)
      | refine g_seq ?_ | refine g_region ?_ | refine g_nil ?_ | refine g_then_normal ?_ | refine g_block ?_ | refine g_in_normal ?_ | refine g_retc ?_
      | refine g_then_ret ?_ | refine g_in_ret ?_ | refine g_exit ?_ | refine g_then_exit ?_ | refine g_in_exit ?_ | refine g_in_other rfl ?_ | refine g_skip ?_
      | refine g_label ?_ | refine g_cond_true rfl ?_ | refine g_cond_false rfl ?_ | exact s_m | intro _ | (refine gp_take ?_; first | refine p_q ?_ | refine p_x ?_ | refine p_mq ?_ | ((fail_if_success refine gp_lit rfl rfl rfl rfl ?_); first | apply gp_guard_dec rfl rfl rfl rfl | apply gp_guard rfl rfl rfl rfl | fail))
      | (refine gp_see ?_; first | refine p_f ?_ | refine p_sx ?_ | ((fail_if_success refine gp_lit rfl rfl rfl rfl ?_); first | apply gp_guard_dec rfl rfl rfl rfl | apply gp_guard rfl rfl rfl rfl | fail) | refine p_sq ?_)
      | (refine gp_one ?_; first | refine p_v ?_ | refine p_s ?_ | refine p_n (fun _ => ?_) | refine p_y ?_ | refine p_app (fun _ _ => ?_) | refine p_mv ?_ | refine p_ms ?_ | refine p_b0 (fun _ => ?_))
      | refine gp_done hd hk ?_ | intro _ | refine p_ta hd hk (fun _ _ _ hd hk => ?_))
    refine g_own_nil none 7 53 ?_
    refine g_loop (X := Nat × Option Addr × Nat) (fun x => [(8, int x.1), (7, .slice x.2.1 x.1 x.2.2), (6, .bool false), (0, int nn), (1, .slice p1 l1.length cap1), (2, .slice p2 l2.length cap2)])
      (fun x => [.own x.2.1 x.1 x.2.2 7 ((allTo x.1).flatMap Ev.cells) 53, Init W]) (fun x => x.1 ≤ 60) (fun x => 60 - x.1) (0, none, 0) (Nat.zero_le _) (by (repeat (first | exact FrSub.nil | refine FrSub.cons rfl ?_)); first | done | fail) (by (repeat (first | exact Take.nil | apply Take.cons | exact Sel.here | apply Sel.there)); first | done | fail) (fun x hx => ?_)
    obtain ⟨i, ap, ac⟩ := x
    have hi : i ≤ 60 := hx
    dsimp only
    repeat (first
      | (refine g_ops ?_; first | refine s_q ?_ | refine s_v ?_ | refine s_s ?_ | refine s_n (fun _ => ?_) | refine s_x ?_ | refine s_y ?_ | refine s_mq ?_ | refine s_app (fun _ _ => ?_) | refine s_mv ?_ | refine s_ms ?_ | refine s_b0 (fun _ => ?_) | ((fail_if_success refine g_lit rfl rfl rfl ?_); first | apply g_partM rfl rfl rfl | apply g_partMB rfl rfl rfl | fail))
      | apply g_regB (id := 1) 37 | refine g_draw (id := 18) (.take 0 (.see 1 [] (.take 2 (.see 3 [] (.take 4 .done))))) (by kernel_rfl) (take_all _) (fun k hd hk => ?_)
      | refine g_drawS (id := 36) 9 (.take 0 (.take 1 (.take 2 (.take 3 (.see 4 [] (.take 5 (.see 6 [] (.take 7 (.see 8 [] (.take 9 (.one 10 .done))))))))))) (fun k hd hk => ?_)
      | refine g_seq ?_ | refine g_region ?_ | refine g_nil ?_ | refine g_then_normal ?_ | refine g_block ?_ | refine g_in_normal ?_ | refine g_retc ?_
      | refine g_then_ret ?_ | refine g_in_ret ?_ | refine g_exit ?_ | refine g_then_exit ?_ | refine g_in_exit ?_ | refine g_in_other rfl ?_ | refine g_skip ?_
      | refine g_label ?_ | refine g_cond_true rfl ?_ | refine g_cond_false rfl ?_ | exact s_m | intro _ | (refine gp_take ?_; first | refine p_q ?_ | refine p_x ?_ | refine p_mq ?_ | ((fail_if_success refine gp_lit rfl rfl rfl rfl ?_); first | apply gp_guard_dec rfl rfl rfl rfl | apply gp_guard rfl rfl rfl rfl | fail))
      | (refine gp_see ?_; first | refine p_f ?_ | refine p_sx ?_ | ((fail_if_success refine gp_lit rfl rfl rfl rfl ?_); first | apply gp_guard_dec rfl rfl rfl rfl | apply gp_guard rfl rfl rfl rfl | fail) | refine p_sq ?_)
      | (refine gp_one ?_; first | refine p_v ?_ | refine p_s ?_ | refine p_n (fun _ => ?_) | refine p_y ?_ | refine p_app (fun _ _ => ?_) | refine p_mv ?_ | refine p_ms ?_ | refine p_b0 (fun _ => ?_))
      | refine gp_done hd hk ?_ | intro _ | refine p_ta hd hk (fun _ _ _ hd hk => ?_))
    refine g_cond_dec rfl (fun h1 => ?_) (fun h1 => ?_)
    · have hi' : i < 60 := by omega
      repeat (first
        | (refine g_ops ?_; first | refine s_q ?_ | refine s_v ?_ | refine s_s ?_ | refine s_n (fun _ => ?_) | refine s_x ?_ | refine s_y ?_ | refine s_mq ?_ | refine s_app (fun _ _ => ?_) | refine s_mv ?_ | refine s_ms ?_ | refine s_b0 (fun _ => ?_) | ((fail_if_success refine g_lit rfl rfl rfl ?_); first | apply g_partM rfl rfl rfl | apply g_partMB rfl rfl rfl | fail))
        | apply g_regB (id := 1) 37 | refine g_draw (id := 18) (.take 0 (.see 1 [] (.take 2 (.see 3 [] (.take 4 .done))))) (by kernel_rfl) (take_all _) (fun k hd hk => ?_)
        | refine g_drawS (id := 36) 9 (.take 0 (.take 1 (.take 2 (.take 3 (.see 4 [] (.take 5 (.see 6 [] (.take 7 (.see 8 [] (.take 9 (.one 10 .done))))))))))) (fun k hd hk => ?_)
        | refine g_seq ?_ | refine g_region ?_ | refine g_nil ?_ | refine g_then_normal ?_ | refine g_block ?_ | refine g_in_normal ?_ | refine g_retc ?_
        | refine g_then_ret ?_ | refine g_in_ret ?_ | refine g_exit ?_ | refine g_then_exit ?_ | refine g_in_exit ?_ | refine g_in_other rfl ?_ | refine g_skip ?_
        | refine g_label ?_ | refine g_cond_true rfl ?_ | refine g_cond_false rfl ?_ | exact s_m | intro _ | (refine gp_take ?_; first | refine p_q ?_ | refine p_x ?_ | refine p_mq ?_ | ((fail_if_success refine gp_lit rfl rfl rfl rfl ?_); first | apply gp_guard_dec rfl rfl rfl rfl | apply gp_guard rfl rfl rfl rfl | fail))
        | (refine gp_see ?_; first | refine p_f ?_ | refine p_sx ?_ | ((fail_if_success refine gp_lit rfl rfl rfl rfl ?_); first | apply gp_guard_dec rfl rfl rfl rfl | apply gp_guard rfl rfl rfl rfl | fail) | refine p_sq ?_)
        | (refine gp_one ?_; first | refine p_v ?_ | refine p_s ?_ | refine p_n (fun _ => ?_) | refine p_y ?_ | refine p_app (fun _ _ => ?_) | refine p_mv ?_ | refine p_ms ?_ | refine p_b0 (fun _ => ?_))
        | refine gp_done hd hk ?_ | intro _ | refine p_ta hd hk (fun _ _ _ hd hk => ?_))
      rename_i eb ap' ac'
      exact g_again (i + 1, ap', ac') (by simp only []; omega) hi' (by (repeat (first | exact FrSub.nil | refine FrSub.cons rfl ?_)); first | done | fail) (by simp only [← allTo_snoc, flat_snoc]; exact (by (repeat (first | exact Take.nil | apply Take.cons | exact Sel.here | apply Sel.there)); first | done | fail))
    · obtain rfl : i = 60 := by omega
      refine g_own .here (fun _ hac g1 => ?_)
      obtain ⟨ab, rfl⟩ := g1 (by omega)
      repeat (first
        | (refine g_ops ?_; first | refine s_q ?_ | refine s_v ?_ | refine s_s ?_ | refine s_n (fun _ => ?_) | refine s_x ?_ | refine s_y ?_ | refine s_mq ?_ | refine s_app (fun _ _ => ?_) | refine s_mv ?_ | refine s_ms ?_ | refine s_b0 (fun _ => ?_) | ((fail_if_success refine g_lit rfl rfl rfl ?_); first | apply g_partM rfl rfl rfl | apply g_partMB rfl rfl rfl | fail) | refine s_c (new) (fun _ _ => ?_))
        | apply g_regB (id := 1) 37 | refine g_draw (id := 18) (.take 0 (.see 1 [] (.take 2 (.see 3 [] (.take 4 .done))))) (by kernel_rfl) (take_all _) (fun k hd hk => ?_)
        | refine g_drawS (id := 36) 9 (.take 0 (.take 1 (.take 2 (.take 3 (.see 4 [] (.take 5 (.see 6 [] (.take 7 (.see 8 [] (.take 9 (.one 10 .done))))))))))) (fun k hd hk => ?_)
        | refine g_seq ?_ | refine g_region ?_ | refine g_nil ?_ | refine g_then_normal ?_ | refine g_block ?_ | refine g_in_normal ?_ | refine g_retc ?_
        | refine g_then_ret ?_ | refine g_in_ret ?_ | refine g_exit ?_ | refine g_then_exit ?_ | refine g_in_exit ?_ | refine g_in_other rfl ?_ | refine g_skip ?_
        | refine g_label ?_ | refine g_cond_true rfl ?_ | refine g_cond_false rfl ?_ | exact s_m | intro _ | (refine gp_take ?_; first | refine p_q ?_ | refine p_x ?_ | refine p_mq ?_ | ((fail_if_success refine gp_lit rfl rfl rfl rfl ?_); first | apply gp_guard_dec rfl rfl rfl rfl | apply gp_guard rfl rfl rfl rfl | fail))
        | (refine gp_see ?_; first | refine p_f ?_ | refine p_sx ?_ | ((fail_if_success refine gp_lit rfl rfl rfl rfl ?_); first | apply gp_guard_dec rfl rfl rfl rfl | apply gp_guard rfl rfl rfl rfl | fail) | refine p_sq ?_)
        | (refine gp_one ?_; first | refine p_v ?_ | refine p_s ?_ | refine p_n (fun _ => ?_) | refine p_y ?_ | refine p_app (fun _ _ => ?_) | refine p_mv ?_ | refine p_ms ?_ | refine p_b0 (fun _ => ?_) | refine p_c (new) (fun _ _ => ?_))
        | refine gp_done hd hk ?_ | intro _ | refine p_ta hd hk (fun _ _ _ hd hk => ?_))
      rename_i b _
      refine g_emp (A := mapO none ([] : List (Int × Value))) rfl ?_
      refine g_loop (X := Nat × OS) (fun x => [(10, int x.1), (9, ptr b), (7, .slice (some ⟨ab, 0, none⟩) 60 ac), (6, .bool false), (0, int nn), (1, .slice p1 l1.length cap1), (2, .slice p2 l2.length cap2)])
        (fun x => x.2.L b ++ [.own (some ⟨ab, 0, none⟩) 60 ac 7 ((allTo 60).flatMap Ev.cells) 53, Init W]) (fun x => x.1 ≤ 4 ∧ OOk x.2 x.1 x.2.last 0) (fun x => 4 - x.1) (0, ⟨none, [], 0, S3.zero, 0, none, 0, none, 0, 0, []⟩) ⟨by omega, by simp only []; omega, by simp only []; omega, by simp only []; omega, fun k v hm => by cases hm⟩ (by (repeat (first | exact FrSub.nil | refine FrSub.cons rfl ?_)); first | done | fail) (by (repeat (first | exact Take.nil | apply Take.cons | exact Sel.here | apply Sel.there)); first | done | fail) (fun x hx => ?_)
      obtain ⟨r, mp, M, base, tok, at0, fp, fc, rp, rl, rc, rs⟩ := x
      obtain ⟨hr, hfl, hrl, hlast, hkeys⟩ := hx
      simp only [] at hr hfl hrl hlast hkeys
      dsimp only
      repeat (first
        | (refine g_ops ?_; first | refine s_q ?_ | refine s_v ?_ | refine s_s ?_ | refine s_n (fun _ => ?_) | refine s_x ?_ | refine s_y ?_ | refine s_mq ?_ | refine s_app (fun _ _ => ?_) | refine s_mv ?_ | refine s_ms ?_ | refine s_b0 (fun _ => ?_) | ((fail_if_success refine g_lit rfl rfl rfl ?_); first | apply g_partM rfl rfl rfl | apply g_partMB rfl rfl rfl | fail))
        | apply g_regB (id := 1) 37 | refine g_draw (id := 18) (.take 0 (.see 1 [] (.take 2 (.see 3 [] (.take 4 .done))))) (by kernel_rfl) (take_all _) (fun k hd hk => ?_)
        | refine g_drawS (id := 36) 9 (.take 0 (.take 1 (.take 2 (.take 3 (.see 4 [] (.take 5 (.see 6 [] (.take 7 (.see 8 [] (.take 9 (.one 10 .done))))))))))) (fun k hd hk => ?_)
        | refine g_seq ?_ | refine g_region ?_ | refine g_nil ?_ | refine g_then_normal ?_ | refine g_block ?_ | refine g_in_normal ?_ | refine g_retc ?_
        | refine g_then_ret ?_ | refine g_in_ret ?_ | refine g_exit ?_ | refine g_then_exit ?_ | refine g_in_exit ?_ | refine g_in_other rfl ?_ | refine g_skip ?_
        | refine g_label ?_ | refine g_cond_true rfl ?_ | refine g_cond_false rfl ?_ | exact s_m | intro _ | (refine gp_take ?_; first | refine p_q ?_ | refine p_x ?_ | refine p_mq ?_ | ((fail_if_success refine gp_lit rfl rfl rfl rfl ?_); first | apply gp_guard_dec rfl rfl rfl rfl | apply gp_guard rfl rfl rfl rfl | fail))
        | (refine gp_see ?_; first | refine p_f ?_ | refine p_sx ?_ | ((fail_if_success refine gp_lit rfl rfl rfl rfl ?_); first | apply gp_guard_dec rfl rfl rfl rfl | apply gp_guard rfl rfl rfl rfl | fail) | refine p_sq ?_)
        | (refine gp_one ?_; first | refine p_v ?_ | refine p_s ?_ | refine p_n (fun _ => ?_) | refine p_y ?_ | refine p_app (fun _ _ => ?_) | refine p_mv ?_ | refine p_ms ?_ | refine p_b0 (fun _ => ?_))
        | refine gp_done hd hk ?_ | intro _ | refine p_ta hd hk (fun _ _ _ hd hk => ?_))
      refine g_cond_dec rfl (fun h2 => ?_) (fun h2 => ?_)
      · repeat (first
          | (refine g_ops ?_; first | refine s_q ?_ | refine s_v ?_ | refine s_s ?_ | refine s_n (fun _ => ?_) | refine s_x ?_ | refine s_y ?_ | refine s_mq ?_ | refine s_app (fun _ _ => ?_) | refine s_mv ?_ | refine s_ms ?_ | refine s_b0 (fun _ => ?_) | ((fail_if_success refine g_lit rfl rfl rfl ?_); first | apply g_partM rfl rfl rfl | apply g_partMB rfl rfl rfl | fail) | refine s_c (feed b ⟨base, tok, place at0⟩ mp fp at0 fc (((allTo 60).take at0).flatMap Ev.cells) rp rl rc (by omega)) (fun _ _ => ?_))
          | apply g_regB (id := 1) 37 | refine g_draw (id := 18) (.take 0 (.see 1 [] (.take 2 (.see 3 [] (.take 4 .done))))) (by kernel_rfl) (take_all _) (fun k hd hk => ?_)
          | refine g_drawS (id := 36) 9 (.take 0 (.take 1 (.take 2 (.take 3 (.see 4 [] (.take 5 (.see 6 [] (.take 7 (.see 8 [] (.take 9 (.one 10 .done))))))))))) (fun k hd hk => ?_)
          | refine g_seq ?_ | refine g_region ?_ | refine g_nil ?_ | refine g_then_normal ?_ | refine g_block ?_ | refine g_in_normal ?_ | refine g_retc ?_
          | refine g_then_ret ?_ | refine g_in_ret ?_ | refine g_exit ?_ | refine g_then_exit ?_ | refine g_in_exit ?_ | refine g_in_other rfl ?_ | refine g_skip ?_
          | refine g_label ?_ | refine g_cond_true rfl ?_ | refine g_cond_false rfl ?_ | exact s_m | intro _ | (refine gp_take ?_; first | refine p_q ?_ | refine p_x ?_ | refine p_mq ?_ | ((fail_if_success refine gp_lit rfl rfl rfl rfl ?_); first | apply gp_guard_dec rfl rfl rfl rfl | apply gp_guard rfl rfl rfl rfl | fail))
          | (refine gp_see ?_; first | refine p_f ?_ | refine p_sx ?_ | ((fail_if_success refine gp_lit rfl rfl rfl rfl ?_); first | apply gp_guard_dec rfl rfl rfl rfl | apply gp_guard rfl rfl rfl rfl | fail) | refine p_sq ?_)
          | (refine gp_one ?_; first | refine p_v ?_ | refine p_s ?_ | refine p_n (fun _ => ?_) | refine p_y ?_ | refine p_app (fun _ _ => ?_) | refine p_mv ?_ | refine p_ms ?_ | refine p_b0 (fun _ => ?_) | refine p_c (feed b ⟨base, tok, place at0⟩ mp fp at0 fc (((allTo 60).take at0).flatMap Ev.cells) rp rl rc (by omega)) (fun _ _ => ?_))
          | refine gp_done hd hk ?_ | intro _ | refine p_ta hd hk (fun _ _ _ hd hk => ?_))
        refine g_own_nil none 1 3 ?_
        refine g_loop (X := Nat × Option Nat × List (Int × Value) × Option Addr × Nat) (fun x => [(13, int x.1), (12, .slice x.2.2.2.1 x.1 x.2.2.2.2), (11, int at0), (10, int r), (9, ptr b), (7, .slice (some ⟨ab, 0, none⟩) 60 ac), (6, .bool false), (0, int nn), (1, .slice p1 l1.length cap1), (2, .slice p2 l2.length cap2)])
          (fun x => [.own x.2.2.2.1 x.1 x.2.2.2.2 1 (numsB base x.1) 3, clr b ⟨(base : Int) + (x.1 : Int), tok, place at0⟩ x.2.1 fp at0 fc rp rl rc, .asn (mapO x.2.1 x.2.2.1), .own fp at0 fc 7 (((allTo 60).take at0).flatMap Ev.cells) 53, .own rp rl rc 15 rs 74, .own (some ⟨ab, 0, none⟩) 60 ac 7 ((allTo 60).flatMap Ev.cells) 53, Init W])
          (fun x => x.1 ≤ nn ∧ Keys x.2.2.1 base ((base : Int) + (x.1 : Int)) at0 ∧ (0 < x.1 → ∃ m, x.2.1 = some m) ∧ ∀ c, c < x.1 → ∃ v, mget x.2.2.1 ((base : Int) + (c : Int) + 1) = some v) (fun x => nn - x.1) (0, mp, M, none, 0) ⟨Nat.zero_le _, by simp only []; rw [show (base : Int) + ((0 : Nat) : Int) = base by omega]; exact hkeys.next, fun h => absurd h (by simp), fun c hc => absurd hc (by simp)⟩ (by (repeat (first | exact FrSub.nil | refine FrSub.cons rfl ?_)); first | done | fail) (by (repeat (first | exact Take.nil | apply Take.cons | exact Sel.here | apply Sel.there)); first | done | fail) (fun x hx => ?_)
        obtain ⟨c, mp', M', np, nc⟩ := x
        obtain ⟨hc, hky, hmp, hhas⟩ := hx
        simp only [] at hc hky hmp hhas
        dsimp only
        repeat (first
          | (refine g_ops ?_; first | refine s_q ?_ | refine s_v ?_ | refine s_s ?_ | refine s_n (fun _ => ?_) | refine s_x ?_ | refine s_y ?_ | refine s_mq ?_ | refine s_app (fun _ _ => ?_) | refine s_mv ?_ | refine s_ms ?_ | refine s_b0 (fun _ => ?_) | ((fail_if_success refine g_lit rfl rfl rfl ?_); first | apply g_partM rfl rfl rfl | apply g_partMB rfl rfl rfl | fail))
          | apply g_regB (id := 1) 37 | refine g_drawS (id := 36) 9 (.take 0 (.take 1 (.take 2 (.take 3 (.see 4 [] (.take 5 (.see 6 [] (.take 7 (.see 8 [] (.take 9 (.one 10 .done))))))))))) (fun k hd hk => ?_)
          | refine g_seq ?_ | refine g_region ?_ | refine g_nil ?_ | refine g_then_normal ?_ | refine g_block ?_ | refine g_in_normal ?_ | refine g_retc ?_
          | refine g_then_ret ?_ | refine g_in_ret ?_ | refine g_exit ?_ | refine g_then_exit ?_ | refine g_in_exit ?_ | refine g_in_other rfl ?_ | refine g_skip ?_
          | refine g_label ?_ | refine g_cond_true rfl ?_ | refine g_cond_false rfl ?_ | exact s_m | intro _ | (refine gp_take ?_; first | refine p_q ?_ | refine p_x ?_ | refine p_mq ?_ | ((fail_if_success refine gp_lit rfl rfl rfl rfl ?_); first | apply gp_guard_dec rfl rfl rfl rfl | apply gp_guard rfl rfl rfl rfl | fail))
          | (refine gp_see ?_; first | refine p_f ?_ | refine p_sx ?_ | ((fail_if_success refine gp_lit rfl rfl rfl rfl ?_); first | apply gp_guard_dec rfl rfl rfl rfl | apply gp_guard rfl rfl rfl rfl | fail) | refine p_sq ?_)
          | (refine gp_one ?_; first | refine p_v ?_ | refine p_s ?_ | refine p_n (fun _ => ?_) | refine p_y ?_ | refine p_app (fun _ _ => ?_) | refine p_mv ?_ | refine p_ms ?_ | refine p_b0 (fun _ => ?_))
          | refine gp_done hd hk ?_ | intro _ | refine p_ta hd hk (fun _ _ _ hd hk => ?_))
        refine g_cond_dec rfl (fun h3 => ?_) (fun h3 => ?_)
        · have hc' : c < nn := by omega
          repeat (first
            | (refine g_ops ?_; first | refine s_q ?_ | refine s_v ?_ | refine s_s ?_ | refine s_n (fun _ => ?_) | refine s_x ?_ | refine s_y ?_ | refine s_mq ?_ | refine s_app (fun _ _ => ?_) | refine s_mv ?_ | refine s_ms ?_ | refine s_b0 (fun _ => ?_) | ((fail_if_success refine g_lit rfl rfl rfl ?_); first | apply g_partM rfl rfl rfl | apply g_partMB rfl rfl rfl | fail) | refine s_c (ask_gen b ⟨(base : Int) + (c : Int), tok, place at0⟩ ⟨3, S3.zero, ByteArray.empty, ByteArray.empty, 0, Cur.zero, bStar, 9, 0, 0, 0, 0, 0⟩ mp' M' fp at0 fc rp rl rc ⟨by simp only []; omega, by simp only []; omega⟩ rfl rfl) (fun _ _ => ?_))
            | apply g_regB (id := 1) 37 | refine g_drawS (id := 36) 9 (.take 0 (.take 1 (.take 2 (.take 3 (.see 4 [] (.take 5 (.see 6 [] (.take 7 (.see 8 [] (.take 9 (.one 10 .done))))))))))) (fun k hd hk => ?_)
            | refine g_seq ?_ | refine g_region ?_ | refine g_nil ?_ | refine g_then_normal ?_ | refine g_block ?_ | refine g_in_normal ?_ | refine g_retc ?_
            | refine g_then_ret ?_ | refine g_in_ret ?_ | refine g_exit ?_ | refine g_then_exit ?_ | refine g_in_exit ?_ | refine g_in_other rfl ?_ | refine g_skip ?_
            | refine g_label ?_ | refine g_cond_true rfl ?_ | refine g_cond_false rfl ?_ | exact s_m | intro _ | (refine gp_take ?_; first | refine p_q ?_ | refine p_x ?_ | refine p_mq ?_ | ((fail_if_success refine gp_lit rfl rfl rfl rfl ?_); first | apply gp_guard_dec rfl rfl rfl rfl | apply gp_guard rfl rfl rfl rfl | fail))
            | (refine gp_see ?_; first | refine p_f ?_ | refine p_sx ?_ | ((fail_if_success refine gp_lit rfl rfl rfl rfl ?_); first | apply gp_guard_dec rfl rfl rfl rfl | apply gp_guard rfl rfl rfl rfl | fail) | refine p_sq ?_)
            | (refine gp_one ?_; first | refine p_v ?_ | refine p_s ?_ | refine p_n (fun _ => ?_) | refine p_y ?_ | refine p_app (fun _ _ => ?_) | refine p_mv ?_ | refine p_ms ?_ | refine p_b0 (fun _ => ?_) | refine p_c (ask_gen b ⟨(base : Int) + (c : Int), tok, place at0⟩ ⟨3, S3.zero, ByteArray.empty, ByteArray.empty, 0, Cur.zero, bStar, 9, 0, 0, 0, 0, 0⟩ mp' M' fp at0 fc rp rl rc ⟨by simp only []; omega, by simp only []; omega⟩ rfl rfl) (fun _ _ => ?_))
            | refine gp_done hd hk ?_ | intro _ | refine p_ta hd hk (fun _ _ _ hd hk => ?_))
          rename_i m _ xb
          repeat (first
            | (refine g_ops ?_; first | refine s_qa ?_ | refine s_q ?_ | refine s_v ?_ | refine s_s ?_ | refine s_n (fun _ => ?_) | refine s_x ?_ | refine s_y ?_ | refine s_mq ?_ | refine s_app (fun _ _ => ?_) | refine s_mv ?_ | refine s_ms ?_ | refine s_b0 (fun _ => ?_) | ((fail_if_success refine g_lit rfl rfl rfl ?_); first | apply g_partM rfl rfl rfl | apply g_partMB rfl rfl rfl | fail) | refine s_k (cursor b ⟨(base : Int) + (c : Int) + 1, tok, place at0⟩ (some m) fp at0 fc rp rl rc) ?_)
            | apply g_regB (id := 1) 37 | refine g_draw (id := 18) (.take 0 (.see 1 [] (.take 2 (.see 3 [] (.take 4 .done))))) (by kernel_rfl) (take_all _) (fun k hd hk => ?_)
            | refine g_drawS (id := 36) 9 (.take 0 (.take 1 (.take 2 (.take 3 (.see 4 [] (.take 5 (.see 6 [] (.take 7 (.see 8 [] (.take 9 (.one 10 .done))))))))))) (fun k hd hk => ?_)
            | refine g_seq ?_ | refine g_region ?_ | refine g_nil ?_ | refine g_then_normal ?_ | refine g_block ?_ | refine g_in_normal ?_ | refine g_retc ?_
            | refine g_then_ret ?_ | refine g_in_ret ?_ | refine g_exit ?_ | refine g_then_exit ?_ | refine g_in_exit ?_ | refine g_in_other rfl ?_ | refine g_skip ?_
            | refine g_label ?_ | refine g_cond_true rfl ?_ | refine g_cond_false rfl ?_ | exact s_m | intro _ | (refine gp_take ?_; first | refine p_qa ?_ | refine p_q ?_ | refine p_x ?_ | refine p_mq ?_ | ((fail_if_success refine gp_lit rfl rfl rfl rfl ?_); first | apply gp_guard_dec rfl rfl rfl rfl | apply gp_guard rfl rfl rfl rfl | fail))
            | (refine gp_see ?_; first | refine p_f ?_ | refine p_sx ?_ | ((fail_if_success refine gp_lit rfl rfl rfl rfl ?_); first | apply gp_guard_dec rfl rfl rfl rfl | apply gp_guard rfl rfl rfl rfl | fail) | refine p_h (cursor b ⟨(base : Int) + (c : Int) + 1, tok, place at0⟩ (some m) fp at0 fc rp rl rc) hd hk ?_ | refine p_sq ?_)
            | (refine gp_one ?_; first | refine p_v ?_ | refine p_s ?_ | refine p_n (fun _ => ?_) | refine p_y ?_ | refine p_app (fun _ _ => ?_) | refine p_mv ?_ | refine p_ms ?_ | refine p_b0 (fun _ => ?_) | refine p_k (cursor b ⟨(base : Int) + (c : Int) + 1, tok, place at0⟩ (some m) fp at0 fc rp rl rc) ?_)
            | refine gp_done hd hk ?_ | intro _ | refine p_ta hd hk (fun _ _ _ hd hk => ?_))
          rename_i np' nc'
          rw [numsB_snoc]
          have hc1 : (base : Int) + ((c + 1 : Nat) : Int) = base + c + 1 := by omega
          refine g_again (c + 1, some m, mput M' ((base : Int) + (c : Int) + 1) (askV true (place at0)), np', nc') (by simp only []; omega) ⟨hc', by simp only []; rw [hc1]; exact hky.put, fun _ => ⟨m, rfl⟩, fun c2 hc2 => ?_⟩ (by (repeat (first | exact FrSub.nil | refine FrSub.cons rfl ?_)); first | done | fail) (by simp only []; rw [hc1]; exact (by (repeat (first | exact Take.nil | apply Take.cons | exact Sel.here | apply Sel.there)); first | done | fail))
          by_cases e : c2 = c
          · subst e; exact ⟨_, mget_self _ _ _⟩
          · have h4 : c2 < c := by simp only [] at hc2; omega
            simp only []
            rw [mget_other (by omega)]
            exact hhas c2 h4
        · obtain rfl : c = nn := by omega
          obtain ⟨m, rfl⟩ := hmp (by omega)
          repeat (first
            | (refine g_ops ?_; first | refine s_q ?_ | refine s_v ?_ | refine s_s ?_ | refine s_n (fun _ => ?_) | refine s_x ?_ | refine s_y ?_ | refine s_mq ?_ | refine s_app (fun _ _ => ?_) | refine s_mv ?_ | refine s_ms ?_ | refine s_b0 (fun _ => ?_) | ((fail_if_success refine g_lit rfl rfl rfl ?_); first | apply g_partM rfl rfl rfl | apply g_partMB rfl rfl rfl | fail))
            | apply g_regB (id := 1) 37 | refine g_draw (id := 18) (.take 0 (.see 1 [] (.take 2 (.see 3 [] (.take 4 .done))))) (by kernel_rfl) (take_all _) (fun k hd hk => ?_)
            | refine g_drawS (id := 36) 9 (.take 0 (.take 1 (.take 2 (.take 3 (.see 4 [] (.take 5 (.see 6 [] (.take 7 (.see 8 [] (.take 9 (.one 10 .done))))))))))) (fun k hd hk => ?_)
            | refine g_seq ?_ | refine g_region ?_ | refine g_nil ?_ | refine g_then_normal ?_ | refine g_block ?_ | refine g_in_normal ?_ | refine g_retc ?_
            | refine g_then_ret ?_ | refine g_in_ret ?_ | refine g_exit ?_ | refine g_then_exit ?_ | refine g_in_exit ?_ | refine g_in_other rfl ?_ | refine g_skip ?_
            | refine g_label ?_ | refine g_cond_true rfl ?_ | refine g_cond_false rfl ?_ | exact s_m | intro _ | (refine gp_take ?_; first | refine p_q ?_ | refine p_x ?_ | refine p_mq ?_ | ((fail_if_success refine gp_lit rfl rfl rfl rfl ?_); first | apply gp_guard_dec rfl rfl rfl rfl | apply gp_guard rfl rfl rfl rfl | fail))
            | (refine gp_see ?_; first | refine p_f ?_ | refine p_sx ?_ | ((fail_if_success refine gp_lit rfl rfl rfl rfl ?_); first | apply gp_guard_dec rfl rfl rfl rfl | apply gp_guard rfl rfl rfl rfl | fail) | refine p_sq ?_)
            | (refine gp_one ?_; first | refine p_v ?_ | refine p_s ?_ | refine p_n (fun _ => ?_) | refine p_y ?_ | refine p_app (fun _ _ => ?_) | refine p_mv ?_ | refine p_ms ?_ | refine p_b0 (fun _ => ?_))
            | refine gp_done hd hk ?_ | intro _ | refine p_ta hd hk (fun _ _ _ hd hk => ?_))
          refine g_own (p := np) (len := c) (cap := nc) (by (repeat (first | exact Sel.here | apply Sel.there)); first | done | fail) (fun _ _ g1 => ?_)
          obtain ⟨nb, rfl⟩ := g1 (by omega)
          refine g_loop (X := Nat × OS) (fun x => [(16, int x.1), (12, .slice (some ⟨nb, 0, none⟩) c nc), (11, int at0), (10, int r), (9, ptr b), (7, .slice (some ⟨ab, 0, none⟩) 60 ac), (6, .bool false), (0, int c), (1, .slice p1 l1.length cap1), (2, .slice p2 l2.length cap2)])
            (fun x => [clr b ⟨(base : Int) + (c : Int), x.2.tok, place x.2.fl⟩ (some m) x.2.fp x.2.fl x.2.fc x.2.rp x.2.rl x.2.rc, .map m x.2.M, .own x.2.fp x.2.fl x.2.fc 7 (((allTo 60).take x.2.fl).flatMap Ev.cells) 53, .own x.2.rp x.2.rl x.2.rc 15 x.2.rs 74, .own (some ⟨nb, 0, none⟩) c nc 1 (numsB base c) 3, .own (some ⟨ab, 0, none⟩) 60 ac 7 ((allTo 60).flatMap Ev.cells) 53, Init W])
            (fun x => x.1 ≤ c ∧ x.2.fl ≤ 60 ∧ at0 ≤ x.2.fl ∧ x.2.rl ≤ 10 * r + x.1 ∧ Keys x.2.M base ((base : Int) + (c : Int)) at0 ∧ (x.1 = 0 → x.2.fl = at0 ∧ ∀ c', c' < c → ∃ v, mget x.2.M ((base : Int) + (c' : Int) + 1) = some v) ∧ (0 < x.1 → at0 < 60 → at0 < x.2.fl)) (fun x => c - x.1) (0, ⟨none, M', 0, tok, at0, fp, fc, rp, rl, rc, rs⟩) ⟨Nat.zero_le _, hfl, Nat.le_refl _, by simp only []; omega, hky, fun _ => ⟨rfl, hhas⟩, fun h => absurd h (by simp)⟩ (by (repeat (first | exact FrSub.nil | refine FrSub.cons rfl ?_)); first | done | fail) (by (repeat (first | exact Take.nil | apply Take.cons | exact Sel.here | apply Sel.there)); first | done | fail) (fun x hx => ?_)
          obtain ⟨i, _, M2, _, tok', fl, fp', fc', rp', rl', rc', rs'⟩ := x
          obtain ⟨hi, hfl', hat0, hrl', hky2, hz, hp⟩ := hx
          simp only [] at hi hfl' hat0 hrl' hky2 hz hp
          dsimp only
          repeat (first
            | (refine g_ops ?_; first | refine s_q ?_ | refine s_v ?_ | refine s_s ?_ | refine s_n (fun _ => ?_) | refine s_x ?_ | refine s_y ?_ | refine s_mq ?_ | refine s_app (fun _ _ => ?_) | refine s_mv ?_ | refine s_ms ?_ | refine s_b0 (fun _ => ?_) | ((fail_if_success refine g_lit rfl rfl rfl ?_); first | apply g_partM rfl rfl rfl | apply g_partMB rfl rfl rfl | fail))
            | apply g_regB (id := 1) 37 | refine g_draw (id := 18) (.take 0 (.see 1 [] (.take 2 (.see 3 [] (.take 4 .done))))) (by kernel_rfl) (take_all _) (fun k hd hk => ?_)
            | refine g_seq ?_ | refine g_region ?_ | refine g_nil ?_ | refine g_then_normal ?_ | refine g_block ?_ | refine g_in_normal ?_ | refine g_retc ?_
            | refine g_then_ret ?_ | refine g_in_ret ?_ | refine g_exit ?_ | refine g_then_exit ?_ | refine g_in_exit ?_ | refine g_in_other rfl ?_ | refine g_skip ?_
            | refine g_label ?_ | refine g_cond_true rfl ?_ | refine g_cond_false rfl ?_ | exact s_m | intro _ | (refine gp_take ?_; first | refine p_q ?_ | refine p_x ?_ | refine p_mq ?_ | ((fail_if_success refine gp_lit rfl rfl rfl rfl ?_); first | apply gp_guard_dec rfl rfl rfl rfl | apply gp_guard rfl rfl rfl rfl | fail))
            | (refine gp_see ?_; first | refine p_f ?_ | refine p_sx ?_ | ((fail_if_success refine gp_lit rfl rfl rfl rfl ?_); first | apply gp_guard_dec rfl rfl rfl rfl | apply gp_guard rfl rfl rfl rfl | fail) | refine p_sq ?_)
            | (refine gp_one ?_; first | refine p_v ?_ | refine p_s ?_ | refine p_n (fun _ => ?_) | refine p_y ?_ | refine p_app (fun _ _ => ?_) | refine p_mv ?_ | refine p_ms ?_ | refine p_b0 (fun _ => ?_))
            | refine gp_done hd hk ?_ | intro _ | refine p_ta hd hk (fun _ _ _ hd hk => ?_))
          refine g_cond_dec rfl (fun h4 => ?_) (fun h4 => ?_)
          · have hi' : i < c := by omega
            repeat (first
              | (refine g_ops ?_; first | refine s_q ?_ | refine s_v ?_ | refine s_s ?_ | refine s_n (fun _ => ?_) | refine s_x ?_ | refine s_y ?_ | refine s_mq ?_ | refine s_app (fun _ _ => ?_) | refine s_mv ?_ | refine s_ms ?_ | refine s_b0 (fun _ => ?_) | ((fail_if_success refine g_lit rfl rfl rfl ?_); first | apply g_partM rfl rfl rfl | apply g_partMB rfl rfl rfl | fail))
              | apply g_regB (id := 1) 37 | refine g_draw (id := 18) (.take 0 (.see 1 [] (.take 2 (.see 3 [] (.take 4 .done))))) (by kernel_rfl) (take_all _) (fun k hd hk => ?_)
              | refine g_seq ?_ | refine g_region ?_ | refine g_nil ?_ | refine g_then_normal ?_ | refine g_block ?_ | refine g_in_normal ?_ | refine g_retc ?_
              | refine g_then_ret ?_ | refine g_in_ret ?_ | refine g_exit ?_ | refine g_then_exit ?_ | refine g_in_exit ?_ | refine g_in_other rfl ?_ | refine g_skip ?_
              | refine g_label ?_ | refine g_cond_true rfl ?_ | refine g_cond_false rfl ?_ | exact s_m | intro _ | (refine gp_take ?_; first | refine p_q ?_ | refine p_x ?_ | refine p_mq ?_ | ((fail_if_success refine gp_lit rfl rfl rfl rfl ?_); first | apply gp_guard_dec rfl rfl rfl rfl | apply gp_guard rfl rfl rfl rfl | fail))
              | (refine gp_see ?_; first | refine p_f ?_ | refine p_sx ?_ | ((fail_if_success refine gp_lit rfl rfl rfl rfl ?_); first | apply gp_guard_dec rfl rfl rfl rfl | apply gp_guard rfl rfl rfl rfl | fail) | refine p_sq ?_)
              | (refine gp_one ?_; first | refine p_v ?_ | refine p_s ?_ | refine p_n (fun _ => ?_) | refine p_y ?_ | refine p_app (fun _ _ => ?_) | refine p_mv ?_ | refine p_ms ?_ | refine p_b0 (fun _ => ?_))
              | refine gp_done hd hk ?_ | intro _ | refine p_ta hd hk (fun _ _ _ hd hk => ?_))
            refine g_cutX (X := Nat) (fun k => [(17, int k), (16, int i), (12, .slice (some ⟨nb, 0, none⟩) c nc), (11, int at0), (10, int r), (9, ptr b), (7, .slice (some ⟨ab, 0, none⟩) 60 ac), (6, .bool false), (0, int c), (1, .slice p1 l1.length cap1), (2, .slice p2 l2.length cap2)]) (fun _ => [clr b ⟨(base : Int) + (c : Int), tok', place fl⟩ (some m) fp' fl fc' rp' rl' rc', .map m M2, .own fp' fl fc' 7 (((allTo 60).take fl).flatMap Ev.cells) 53, .own rp' rl' rc' 15 rs' 74, .own (some ⟨nb, 0, none⟩) c nc 1 (numsB base c) 3, .own (some ⟨ab, 0, none⟩) 60 ac 7 ((allTo 60).flatMap Ev.cells) 53, Init W]) (fun k => k < c) ?_ (fun k hkc => ?_)
            · refine g_cond_dec rfl (fun h5 => ?_) (fun h5 => ?_)
              · have h5' : i < l1.length := by omega
                obtain ⟨lb, lo, rfl, hr0⟩ := hs1 i l1[i] (by simp [h5'])
                have hr : ∀ (j : Nat), j = i → Reads (Init W) ⟨lb, lo + j, none⟩ (int l1[i]) := fun j e => by rw [e]; exact hr0
                repeat (first
                  | (refine g_ops ?_; first | refine s_q ?_ | refine s_v ?_ | refine s_s ?_ | refine s_n (fun _ => ?_) | refine s_x ?_ | refine s_y ?_ | refine s_mq ?_ | refine s_app (fun _ _ => ?_) | refine s_mv ?_ | refine s_ms ?_ | refine s_b0 (fun _ => ?_) | ((fail_if_success refine g_lit rfl rfl rfl ?_); first | apply g_partM rfl rfl rfl | apply g_partMB rfl rfl rfl | fail))
                  | apply g_regB (id := 1) 37 | refine g_draw (id := 18) (.take 0 (.see 1 [] (.take 2 (.see 3 [] (.take 4 .done))))) (by kernel_rfl) (take_all _) (fun k hd hk => ?_)
                  | refine g_seq ?_ | refine g_region ?_ | refine g_nil ?_ | refine g_then_normal ?_ | refine g_block ?_ | refine g_in_normal ?_ | refine g_retc ?_
                  | refine g_then_ret ?_ | refine g_in_ret ?_ | refine g_exit ?_ | refine g_then_exit ?_ | refine g_in_exit ?_ | refine g_in_other rfl ?_
                  | refine g_skip ?_ | refine g_label ?_ | refine g_cond_true rfl ?_ | refine g_cond_false rfl ?_ | exact s_m | intro _ | (refine gp_take ?_; first | refine p_q ?_ | refine p_x ?_ | refine p_mq ?_ | ((fail_if_success refine gp_lit rfl rfl rfl rfl ?_); first | apply gp_guard_dec rfl rfl rfl rfl | apply gp_guard rfl rfl rfl rfl | fail))
                  | (refine gp_see ?_; first | refine p_f ?_ | refine p_sx ?_ | ((fail_if_success refine gp_lit rfl rfl rfl rfl ?_); first | apply gp_guard_dec rfl rfl rfl rfl | apply gp_guard rfl rfl rfl rfl | fail) | refine p_sq ?_)
                  | (refine gp_one ?_; first | refine p_v ?_ | refine p_s ?_ | refine p_n (fun _ => ?_) | refine p_y ?_ | refine p_app (fun _ _ => ?_) | refine p_mv ?_ | refine p_ms ?_ | refine p_b0 (fun _ => ?_))
                  | refine gp_done hd hk ?_ | intro _ | refine p_ta hd hk (fun _ _ _ hd hk => ?_))
                refine g_ops ?_
                refine s_c (round l1[i] c ⟨by omega, by omega⟩) (fun k hk => ?_)
                obtain ⟨kn, rfl⟩ : ∃ kn : Nat, k = kn := ⟨k.toNat, by omega⟩
                repeat (first
                  | (refine g_ops ?_; first | refine s_q ?_ | refine s_v ?_ | refine s_s ?_ | refine s_n (fun _ => ?_) | refine s_x ?_ | refine s_y ?_ | refine s_mq ?_ | refine s_app (fun _ _ => ?_) | refine s_mv ?_ | refine s_ms ?_ | refine s_b0 (fun _ => ?_) | ((fail_if_success refine g_lit rfl rfl rfl ?_); first | apply g_partM rfl rfl rfl | apply g_partMB rfl rfl rfl | fail))
                  | apply g_regB (id := 1) 37 | refine g_draw (id := 18) (.take 0 (.see 1 [] (.take 2 (.see 3 [] (.take 4 .done))))) (by kernel_rfl) (take_all _) (fun k hd hk => ?_)
                  | refine g_seq ?_ | refine g_region ?_ | refine g_nil ?_ | refine g_then_normal ?_ | refine g_block ?_ | refine g_in_normal ?_ | refine g_retc ?_
                  | refine g_then_ret ?_ | refine g_in_ret ?_ | refine g_exit ?_ | refine g_then_exit ?_ | refine g_in_exit ?_ | refine g_in_other rfl ?_
                  | refine g_skip ?_ | refine g_label ?_ | refine g_cond_true rfl ?_ | refine g_cond_false rfl ?_ | exact s_m | intro _ | (refine gp_take ?_; first | refine p_q ?_ | refine p_x ?_ | refine p_mq ?_ | ((fail_if_success refine gp_lit rfl rfl rfl rfl ?_); first | apply gp_guard_dec rfl rfl rfl rfl | apply gp_guard rfl rfl rfl rfl | fail))
                  | (refine gp_see ?_; first | refine p_f ?_ | refine p_sx ?_ | ((fail_if_success refine gp_lit rfl rfl rfl rfl ?_); first | apply gp_guard_dec rfl rfl rfl rfl | apply gp_guard rfl rfl rfl rfl | fail) | refine p_sq ?_)
                  | (refine gp_one ?_; first | refine p_v ?_ | refine p_s ?_ | refine p_n (fun _ => ?_) | refine p_y ?_ | refine p_app (fun _ _ => ?_) | refine p_mv ?_ | refine p_ms ?_ | refine p_b0 (fun _ => ?_))
                  | refine gp_done hd hk ?_ | intro _ | refine p_ta hd hk (fun _ _ _ hd hk => ?_))
                exact g_midX kn (by omega) (by (repeat (first | exact FrSub.nil | refine FrSub.cons rfl ?_)); first | done | fail) (by (repeat (first | exact Take.nil | apply Take.cons | exact Sel.here | apply Sel.there)); first | done | fail)
              · repeat (first
                  | (refine g_ops ?_; first | refine s_q ?_ | refine s_v ?_ | refine s_s ?_ | refine s_n (fun _ => ?_) | refine s_x ?_ | refine s_y ?_ | refine s_mq ?_ | refine s_app (fun _ _ => ?_) | refine s_mv ?_ | refine s_ms ?_ | refine s_b0 (fun _ => ?_) | ((fail_if_success refine g_lit rfl rfl rfl ?_); first | apply g_partM rfl rfl rfl | apply g_partMB rfl rfl rfl | fail))
                  | apply g_regB (id := 1) 37 | refine g_draw (id := 18) (.take 0 (.see 1 [] (.take 2 (.see 3 [] (.take 4 .done))))) (by kernel_rfl) (take_all _) (fun k hd hk => ?_)
                  | refine g_seq ?_ | refine g_region ?_ | refine g_nil ?_ | refine g_then_normal ?_ | refine g_block ?_ | refine g_in_normal ?_ | refine g_retc ?_
                  | refine g_then_ret ?_ | refine g_in_ret ?_ | refine g_exit ?_ | refine g_then_exit ?_ | refine g_in_exit ?_ | refine g_in_other rfl ?_
                  | refine g_skip ?_ | refine g_label ?_ | refine g_cond_true rfl ?_ | refine g_cond_false rfl ?_ | exact s_m | intro _ | (refine gp_take ?_; first | refine p_q ?_ | refine p_x ?_ | refine p_mq ?_ | ((fail_if_success refine gp_lit rfl rfl rfl rfl ?_); first | apply gp_guard_dec rfl rfl rfl rfl | apply gp_guard rfl rfl rfl rfl | fail))
                  | (refine gp_see ?_; first | refine p_f ?_ | refine p_sx ?_ | ((fail_if_success refine gp_lit rfl rfl rfl rfl ?_); first | apply gp_guard_dec rfl rfl rfl rfl | apply gp_guard rfl rfl rfl rfl | fail) | refine p_sq ?_)
                  | (refine gp_one ?_; first | refine p_v ?_ | refine p_s ?_ | refine p_n (fun _ => ?_) | refine p_y ?_ | refine p_app (fun _ _ => ?_) | refine p_mv ?_ | refine p_ms ?_ | refine p_b0 (fun _ => ?_))
                  | refine gp_done hd hk ?_ | intro _ | refine p_ta hd hk (fun _ _ _ hd hk => ?_))
                exact g_midX i hi' (by (repeat (first | exact FrSub.nil | refine FrSub.cons rfl ?_)); first | done | fail) (by (repeat (first | exact Take.nil | apply Take.cons | exact Sel.here | apply Sel.there)); first | done | fail)
            · repeat (first
                | (refine g_ops ?_; first | refine s_q ?_ | refine s_v ?_ | refine s_s ?_ | refine s_n (fun _ => ?_) | refine s_x ?_ | refine s_y ?_ | refine s_mq ?_ | refine s_app (fun _ _ => ?_) | refine s_mv ?_ | refine s_ms ?_ | refine s_b0 (fun _ => ?_) | ((fail_if_success refine g_lit rfl rfl rfl ?_); first | apply g_partM rfl rfl rfl | apply g_partMB rfl rfl rfl | fail))
                | apply g_regB (id := 1) 37 | refine g_draw (id := 18) (.take 0 (.see 1 [] (.take 2 (.see 3 [] (.take 4 .done))))) (by kernel_rfl) (take_all _) (fun k hd hk => ?_)
                | refine g_seq ?_ | refine g_region ?_ | refine g_nil ?_ | refine g_then_normal ?_ | refine g_block ?_ | refine g_in_normal ?_ | refine g_retc ?_
                | refine g_then_ret ?_ | refine g_in_ret ?_ | refine g_exit ?_ | refine g_then_exit ?_ | refine g_in_exit ?_ | refine g_in_other rfl ?_
                | refine g_skip ?_ | refine g_label ?_ | refine g_cond_true rfl ?_ | refine g_cond_false rfl ?_ | exact s_m | intro _ | (refine gp_take ?_; first | refine p_q ?_ | refine p_x ?_ | refine p_mq ?_ | ((fail_if_success refine gp_lit rfl rfl rfl rfl ?_); first | apply gp_guard_dec rfl rfl rfl rfl | apply gp_guard rfl rfl rfl rfl | fail))
                | (refine gp_see ?_; first | refine p_f ?_ | refine p_sx ?_ | ((fail_if_success refine gp_lit rfl rfl rfl rfl ?_); first | apply gp_guard_dec rfl rfl rfl rfl | apply gp_guard rfl rfl rfl rfl | fail) | refine p_sq ?_)
                | (refine gp_one ?_; first | refine p_v ?_ | refine p_s ?_ | refine p_n (fun _ => ?_) | refine p_y ?_ | refine p_app (fun _ _ => ?_) | refine p_mv ?_ | refine p_ms ?_ | refine p_b0 (fun _ => ?_))
                | refine gp_done hd hk ?_ | intro _ | refine p_ta hd hk (fun _ _ _ hd hk => ?_))
              refine g_cutX (X := Int) (fun z => [(18, int z), (17, int k), (16, int i), (12, .slice (some ⟨nb, 0, none⟩) c nc), (11, int at0), (10, int r), (9, ptr b), (7, .slice (some ⟨ab, 0, none⟩) 60 ac), (6, .bool false), (0, int c), (1, .slice p1 l1.length cap1), (2, .slice p2 l2.length cap2)]) (fun _ => [clr b ⟨(base : Int) + (c : Int), tok', place fl⟩ (some m) fp' fl fc' rp' rl' rc', .map m M2, .own fp' fl fc' 7 (((allTo 60).take fl).flatMap Ev.cells) 53, .own rp' rl' rc' 15 rs' 74, .own (some ⟨nb, 0, none⟩) c nc 1 (numsB base c) 3, .own (some ⟨ab, 0, none⟩) 60 ac 7 ((allTo 60).flatMap Ev.cells) 53, Init W]) (fun z => 1 ≤ z ∧ z ≤ 11) ?_ (fun z hz2 => ?_)
              · refine g_cond_dec rfl (fun h5 => ?_) (fun h5 => ?_)
                · have h5' : i < l2.length := by omega
                  obtain ⟨lb, lo, rfl, hr0⟩ := hs2 i l2[i] (by simp [h5'])
                  have hr : ∀ (j : Nat), j = i → Reads (Init W) ⟨lb, lo + j, none⟩ (int l2[i]) := fun j e => by rw [e]; exact hr0
                  repeat (first
                    | (refine g_ops ?_; first | refine s_q ?_ | refine s_v ?_ | refine s_s ?_ | refine s_n (fun _ => ?_) | refine s_x ?_ | refine s_y ?_ | refine s_mq ?_ | refine s_app (fun _ _ => ?_) | refine s_mv ?_ | refine s_ms ?_ | refine s_b0 (fun _ => ?_) | ((fail_if_success refine g_lit rfl rfl rfl ?_); first | apply g_partM rfl rfl rfl | apply g_partMB rfl rfl rfl | fail))
                    | apply g_regB (id := 1) 37 | refine g_draw (id := 18) (.take 0 (.see 1 [] (.take 2 (.see 3 [] (.take 4 .done))))) (by kernel_rfl) (take_all _) (fun k hd hk => ?_)
                    | refine g_seq ?_ | refine g_region ?_ | refine g_nil ?_ | refine g_then_normal ?_ | refine g_block ?_ | refine g_in_normal ?_ | refine g_retc ?_
                    | refine g_then_ret ?_ | refine g_in_ret ?_ | refine g_exit ?_ | refine g_then_exit ?_ | refine g_in_exit ?_ | refine g_in_other rfl ?_
                    | refine g_skip ?_ | refine g_label ?_ | refine g_cond_true rfl ?_ | refine g_cond_false rfl ?_ | exact s_m | intro _ | (refine gp_take ?_; first | refine p_q ?_ | refine p_x ?_ | refine p_mq ?_ | ((fail_if_success refine gp_lit rfl rfl rfl rfl ?_); first | apply gp_guard_dec rfl rfl rfl rfl | apply gp_guard rfl rfl rfl rfl | fail))
                    | (refine gp_see ?_; first | refine p_f ?_ | refine p_sx ?_ | ((fail_if_success refine gp_lit rfl rfl rfl rfl ?_); first | apply gp_guard_dec rfl rfl rfl rfl | apply gp_guard rfl rfl rfl rfl | fail) | refine p_sq ?_)
                    | (refine gp_one ?_; first | refine p_v ?_ | refine p_s ?_ | refine p_n (fun _ => ?_) | refine p_y ?_ | refine p_app (fun _ _ => ?_) | refine p_mv ?_ | refine p_ms ?_ | refine p_b0 (fun _ => ?_))
                    | refine gp_done hd hk ?_ | intro _ | refine p_ta hd hk (fun _ _ _ hd hk => ?_))
                  refine g_ops ?_
                  refine s_c (round l2[i] 9 ⟨by decide, by decide⟩) (fun z hz => ?_)
                  repeat (first
                    | (refine g_ops ?_; first | refine s_q ?_ | refine s_v ?_ | refine s_s ?_ | refine s_n (fun _ => ?_) | refine s_x ?_ | refine s_y ?_ | refine s_mq ?_ | refine s_app (fun _ _ => ?_) | refine s_mv ?_ | refine s_ms ?_ | refine s_b0 (fun _ => ?_) | ((fail_if_success refine g_lit rfl rfl rfl ?_); first | apply g_partM rfl rfl rfl | apply g_partMB rfl rfl rfl | fail))
                    | apply g_regB (id := 1) 37 | refine g_draw (id := 18) (.take 0 (.see 1 [] (.take 2 (.see 3 [] (.take 4 .done))))) (by kernel_rfl) (take_all _) (fun k hd hk => ?_)
                    | refine g_seq ?_ | refine g_region ?_ | refine g_nil ?_ | refine g_then_normal ?_ | refine g_block ?_ | refine g_in_normal ?_ | refine g_retc ?_
                    | refine g_then_ret ?_ | refine g_in_ret ?_ | refine g_exit ?_ | refine g_then_exit ?_ | refine g_in_exit ?_ | refine g_in_other rfl ?_
                    | refine g_skip ?_ | refine g_label ?_ | refine g_cond_true rfl ?_ | refine g_cond_false rfl ?_ | exact s_m | intro _ | (refine gp_take ?_; first | refine p_q ?_ | refine p_x ?_ | refine p_mq ?_ | ((fail_if_success refine gp_lit rfl rfl rfl rfl ?_); first | apply gp_guard_dec rfl rfl rfl rfl | apply gp_guard rfl rfl rfl rfl | fail))
                    | (refine gp_see ?_; first | refine p_f ?_ | refine p_sx ?_ | ((fail_if_success refine gp_lit rfl rfl rfl rfl ?_); first | apply gp_guard_dec rfl rfl rfl rfl | apply gp_guard rfl rfl rfl rfl | fail) | refine p_sq ?_)
                    | (refine gp_one ?_; first | refine p_v ?_ | refine p_s ?_ | refine p_n (fun _ => ?_) | refine p_y ?_ | refine p_app (fun _ _ => ?_) | refine p_mv ?_ | refine p_ms ?_ | refine p_b0 (fun _ => ?_))
                    | refine gp_done hd hk ?_ | intro _ | refine p_ta hd hk (fun _ _ _ hd hk => ?_))
                  exact g_midX (1 + z) ⟨by omega, by omega⟩ (by (repeat (first | exact FrSub.nil | refine FrSub.cons rfl ?_)); first | done | fail) (by (repeat (first | exact Take.nil | apply Take.cons | exact Sel.here | apply Sel.there)); first | done | fail)
                · repeat (first
                    | (refine g_ops ?_; first | refine s_q ?_ | refine s_v ?_ | refine s_s ?_ | refine s_n (fun _ => ?_) | refine s_x ?_ | refine s_y ?_ | refine s_mq ?_ | refine s_app (fun _ _ => ?_) | refine s_mv ?_ | refine s_ms ?_ | refine s_b0 (fun _ => ?_) | ((fail_if_success refine g_lit rfl rfl rfl ?_); first | apply g_partM rfl rfl rfl | apply g_partMB rfl rfl rfl | fail))
                    | apply g_regB (id := 1) 37 | refine g_draw (id := 18) (.take 0 (.see 1 [] (.take 2 (.see 3 [] (.take 4 .done))))) (by kernel_rfl) (take_all _) (fun k hd hk => ?_)
                    | refine g_seq ?_ | refine g_region ?_ | refine g_nil ?_ | refine g_then_normal ?_ | refine g_block ?_ | refine g_in_normal ?_ | refine g_retc ?_
                    | refine g_then_ret ?_ | refine g_in_ret ?_ | refine g_exit ?_ | refine g_then_exit ?_ | refine g_in_exit ?_ | refine g_in_other rfl ?_
                    | refine g_skip ?_ | refine g_label ?_ | refine g_cond_true rfl ?_ | refine g_cond_false rfl ?_ | exact s_m | intro _ | (refine gp_take ?_; first | refine p_q ?_ | refine p_x ?_ | refine p_mq ?_ | ((fail_if_success refine gp_lit rfl rfl rfl rfl ?_); first | apply gp_guard_dec rfl rfl rfl rfl | apply gp_guard rfl rfl rfl rfl | fail))
                    | (refine gp_see ?_; first | refine p_f ?_ | refine p_sx ?_ | ((fail_if_success refine gp_lit rfl rfl rfl rfl ?_); first | apply gp_guard_dec rfl rfl rfl rfl | apply gp_guard rfl rfl rfl rfl | fail) | refine p_sq ?_)
                    | (refine gp_one ?_; first | refine p_v ?_ | refine p_s ?_ | refine p_n (fun _ => ?_) | refine p_y ?_ | refine p_app (fun _ _ => ?_) | refine p_mv ?_ | refine p_ms ?_ | refine p_b0 (fun _ => ?_))
                    | refine gp_done hd hk ?_ | intro _ | refine p_ta hd hk (fun _ _ _ hd hk => ?_))
                  exact g_midX (1 + (i : Int)) ⟨by omega, by omega⟩ (by (repeat (first | exact FrSub.nil | refine FrSub.cons rfl ?_)); first | done | fail) (by (repeat (first | exact Take.nil | apply Take.cons | exact Sel.here | apply Sel.there)); first | done | fail)
              · repeat (first
                  | (refine g_ops ?_; first | refine s_q ?_ | refine s_v ?_ | refine s_s ?_ | refine s_n (fun _ => ?_) | refine s_x ?_ | refine s_y ?_ | refine s_mq ?_ | refine s_app (fun _ _ => ?_) | refine s_mv ?_ | refine s_ms ?_ | refine s_b0 (fun _ => ?_) | ((fail_if_success refine g_lit rfl rfl rfl ?_); first | apply g_partM rfl rfl rfl | apply g_partMB rfl rfl rfl | fail))
                  | apply g_regB (id := 1) 37 | refine g_draw (id := 18) (.take 0 (.see 1 [] (.take 2 (.see 3 [] (.take 4 .done))))) (by kernel_rfl) (take_all _) (fun k hd hk => ?_)
                  | refine g_seq ?_ | refine g_region ?_ | refine g_nil ?_ | refine g_then_normal ?_ | refine g_block ?_ | refine g_in_normal ?_ | refine g_retc ?_
                  | refine g_then_ret ?_ | refine g_in_ret ?_ | refine g_exit ?_ | refine g_then_exit ?_ | refine g_in_exit ?_ | refine g_in_other rfl ?_
                  | refine g_skip ?_ | refine g_label ?_ | refine g_cond_true rfl ?_ | refine g_cond_false rfl ?_ | exact s_m | intro _ | (refine gp_take ?_; first | refine p_q ?_ | refine p_x ?_ | refine p_mq ?_ | ((fail_if_success refine gp_lit rfl rfl rfl rfl ?_); first | apply gp_guard_dec rfl rfl rfl rfl | apply gp_guard rfl rfl rfl rfl | fail))
                  | (refine gp_see ?_; first | refine p_f ?_ | refine p_sx ?_ | ((fail_if_success refine gp_lit rfl rfl rfl rfl ?_); first | apply gp_guard_dec rfl rfl rfl rfl | apply gp_guard rfl rfl rfl rfl | fail) | refine p_sq ?_)
                  | (refine gp_one ?_; first | refine p_v ?_ | refine p_s ?_ | refine p_n (fun _ => ?_) | refine p_y ?_ | refine p_app (fun _ _ => ?_) | refine p_mv ?_ | refine p_ms ?_ | refine p_b0 (fun _ => ?_))
                  | refine gp_done hd hk ?_ | intro _ | refine p_ta hd hk (fun _ _ _ hd hk => ?_))
                refine g_ops ?_
                refine g_q (qs_min rfl rfl) rfl rfl ?_
                obtain ⟨hN, e, b1, b2, b3⟩ : ∃ h : Nat, (if ((60 : Nat) : Int) < (at0 : Int) + z then ((60 : Nat) : Int) else (at0 : Int) + z) = (h : Int) ∧ at0 ≤ h ∧ h ≤ 60 ∧ (at0 < 60 → at0 < h) :=
                  ⟨min (at0 + z.toNat) 60, by split <;> omega, by omega, by omega, by omega⟩
                rw [e]
                refine g_q (qs_slice (l := at0) (h := hN) inferInstance inferInstance rfl (.some rfl rfl) (.some rfl rfl) b1 (by omega)) rfl rfl ?_
                have hpp : at0 < hN → (if ac = at0 then some (⟨ab, 0, none⟩ : Addr) else (some (⟨ab, 0, none⟩ : Addr)).map (·.add (at0 * 7))) = some ⟨ab, at0 * 7, none⟩ := fun hlt => by
                  rw [if_neg (by omega)]
                  simp [Addr.add_lit]
                have hat : SlAt (.own (some ⟨ab, 0, none⟩) 60 ac 7 ((allTo 60).flatMap Ev.cells) 53) 7 (if ac = at0 then some (⟨ab, 0, none⟩ : Addr) else (some (⟨ab, 0, none⟩ : Addr)).map (·.add (at0 * 7))) (hN - at0) ((((allTo 60).drop at0).take (hN - at0)).flatMap Ev.cells) := by
                  by_cases e2 : hN = at0
                  · rw [e2, Nat.sub_self]
                    simp only [List.take_zero, List.flatMap_nil]
                    exact SlAt.empty
                  · rw [hpp (by omega)]
                    exact slAt_sub ev_len ev_one (allTo 60) (allTo_len 60) b1 b2
                generalize (if ac = at0 then some (⟨ab, 0, none⟩ : Addr) else (some (⟨ab, 0, none⟩ : Addr)).map (·.add (at0 * 7))) = pp at hpp hat
                repeat (first
                  | (refine g_ops ?_; first | refine s_q ?_ | refine s_v ?_ | refine s_s ?_ | refine s_n (fun _ => ?_) | refine s_x ?_ | refine s_y ?_ | refine s_mq ?_ | refine s_app (fun _ _ => ?_) | refine s_mv ?_ | refine s_ms ?_ | refine s_b0 (fun _ => ?_) | ((fail_if_success refine g_lit rfl rfl rfl ?_); first | apply g_partM rfl rfl rfl | apply g_partMB rfl rfl rfl | fail))
                  | apply g_regB (id := 1) 37 | refine g_draw (id := 18) (.take 0 (.see 1 [] (.take 2 (.see 3 [] (.take 4 .done))))) (by kernel_rfl) (take_all _) (fun k hd hk => ?_)
                  | refine g_seq ?_ | refine g_region ?_ | refine g_nil ?_ | refine g_then_normal ?_ | refine g_block ?_ | refine g_in_normal ?_ | refine g_retc ?_
                  | refine g_then_ret ?_ | refine g_in_ret ?_ | refine g_exit ?_ | refine g_then_exit ?_ | refine g_in_exit ?_ | refine g_in_other rfl ?_
                  | refine g_skip ?_ | refine g_label ?_ | refine g_cond_true rfl ?_ | refine g_cond_false rfl ?_ | exact s_m | intro _ | (refine gp_take ?_; first | refine p_q ?_ | refine p_x ?_ | refine p_mq ?_ | ((fail_if_success refine gp_lit rfl rfl rfl rfl ?_); first | apply gp_guard_dec rfl rfl rfl rfl | apply gp_guard rfl rfl rfl rfl | fail))
                  | (refine gp_see ?_; first | refine p_f ?_ | refine p_sx ?_ | ((fail_if_success refine gp_lit rfl rfl rfl rfl ?_); first | apply gp_guard_dec rfl rfl rfl rfl | apply gp_guard rfl rfl rfl rfl | fail) | refine p_sq ?_)
                  | (refine gp_one ?_; first | refine p_v ?_ | refine p_s ?_ | refine p_n (fun _ => ?_) | refine p_y ?_ | refine p_app (fun _ _ => ?_) | refine p_mv ?_ | refine p_ms ?_ | refine p_b0 (fun _ => ?_))
                  | refine gp_done hd hk ?_ | intro _ | refine p_ta hd hk (fun _ _ _ hd hk => ?_))
                rename_i tb
                refine g_cutX (X := Unit) (fun _ => [(20, ptr tb), (19, .slice pp (hN - at0) (ac - at0)), (17, int k), (16, int i), (12, .slice (some ⟨nb, 0, none⟩) c nc), (11, int at0), (10, int r), (9, ptr b), (7, .slice (some ⟨ab, 0, none⟩) 60 ac), (6, .bool false), (0, int c), (1, .slice p1 l1.length cap1), (2, .slice p2 l2.length cap2)]) (fun _ => [.row tb (placeC at0) 27, clr b ⟨(base : Int) + (c : Int), tok', place fl⟩ (some m) fp' fl fc' rp' rl' rc', .map m M2, .own fp' fl fc' 7 (((allTo 60).take fl).flatMap Ev.cells) 53, .own rp' rl' rc' 15 rs' 74, .own (some ⟨nb, 0, none⟩) c nc 1 (numsB base c) 3, .own (some ⟨ab, 0, none⟩) 60 ac 7 ((allTo 60).flatMap Ev.cells) 53, Init W]) (fun _ => True) ?_ (fun _ _ => ?_)
                · refine g_cond_dec rfl (fun h5 => ?_) (fun h5 => ?_)
                  · have h5' : 0 < at0 := by omega
                    have hcell := evAt (e := 53) (b := ab) (ac := ac) (k := at0) (o := 0 + ((at0 : Int) - 1).toNat * 7) h5' hfl (by omega)
                    repeat (first
                      | (refine g_ops ?_; first | refine s_q ?_ | refine s_v ?_ | refine s_s ?_ | refine s_n (fun _ => ?_) | refine s_x ?_ | refine s_y ?_ | refine s_mq ?_ | refine s_app (fun _ _ => ?_) | refine s_mv ?_ | refine s_ms ?_ | refine s_b0 (fun _ => ?_) | ((fail_if_success refine g_lit rfl rfl rfl ?_); first | apply g_partM rfl rfl rfl | apply g_partMB rfl rfl rfl | fail))
                      | apply g_regB (id := 1) 37 | refine g_draw (id := 18) (.take 0 (.see 1 [] (.take 2 (.see 3 [] (.take 4 .done))))) (by kernel_rfl) (take_all _) (fun k hd hk => ?_)
                      | refine g_seq ?_ | refine g_region ?_ | refine g_nil ?_ | refine g_then_normal ?_ | refine g_block ?_ | refine g_in_normal ?_ | refine g_retc ?_
                      | refine g_then_ret ?_ | refine g_in_ret ?_ | refine g_exit ?_ | refine g_then_exit ?_ | refine g_in_exit ?_ | refine g_in_other rfl ?_
                      | refine g_skip ?_ | refine g_label ?_ | refine g_cond_true rfl ?_ | refine g_cond_false rfl ?_ | exact s_m | intro _ | (refine gp_take ?_; first | refine p_q ?_ | refine p_x ?_ | refine p_mq ?_ | ((fail_if_success refine gp_lit rfl rfl rfl rfl ?_); first | apply gp_guard_dec rfl rfl rfl rfl | apply gp_guard rfl rfl rfl rfl | fail))
                      | (refine gp_see ?_; first | refine p_f ?_ | refine p_sx ?_ | ((fail_if_success refine gp_lit rfl rfl rfl rfl ?_); first | apply gp_guard_dec rfl rfl rfl rfl | apply gp_guard rfl rfl rfl rfl | fail) | refine p_sq ?_)
                      | (refine gp_one ?_; first | refine p_v ?_ | refine p_s ?_ | refine p_n (fun _ => ?_) | refine p_y ?_ | refine p_app (fun _ _ => ?_) | refine p_mv ?_ | refine p_ms ?_ | refine p_b0 (fun _ => ?_))
                      | refine gp_done hd hk ?_ | intro _ | refine p_ta hd hk (fun _ _ _ hd hk => ?_))
                    exact g_midX () trivial (by (repeat (first | exact FrSub.nil | refine FrSub.cons rfl ?_)); first | done | fail) (by rw [placeC_pos h5']; exact (by (repeat (first | exact Take.nil | apply Take.cons | exact Sel.here | apply Sel.there)); first | done | fail))
                  · repeat (first
                      | (refine g_ops ?_; first | refine s_q ?_ | refine s_v ?_ | refine s_s ?_ | refine s_n (fun _ => ?_) | refine s_x ?_ | refine s_y ?_ | refine s_mq ?_ | refine s_app (fun _ _ => ?_) | refine s_mv ?_ | refine s_ms ?_ | refine s_b0 (fun _ => ?_) | ((fail_if_success refine g_lit rfl rfl rfl ?_); first | apply g_partM rfl rfl rfl | apply g_partMB rfl rfl rfl | fail))
                      | apply g_regB (id := 1) 37 | refine g_draw (id := 18) (.take 0 (.see 1 [] (.take 2 (.see 3 [] (.take 4 .done))))) (by kernel_rfl) (take_all _) (fun k hd hk => ?_)
                      | refine g_seq ?_ | refine g_region ?_ | refine g_nil ?_ | refine g_then_normal ?_ | refine g_block ?_ | refine g_in_normal ?_ | refine g_retc ?_
                      | refine g_then_ret ?_ | refine g_in_ret ?_ | refine g_exit ?_ | refine g_then_exit ?_ | refine g_in_exit ?_ | refine g_in_other rfl ?_
                      | refine g_skip ?_ | refine g_label ?_ | refine g_cond_true rfl ?_ | refine g_cond_false rfl ?_ | exact s_m | intro _ | (refine gp_take ?_; first | refine p_q ?_ | refine p_x ?_ | refine p_mq ?_ | ((fail_if_success refine gp_lit rfl rfl rfl rfl ?_); first | apply gp_guard_dec rfl rfl rfl rfl | apply gp_guard rfl rfl rfl rfl | fail))
                      | (refine gp_see ?_; first | refine p_f ?_ | refine p_sx ?_ | ((fail_if_success refine gp_lit rfl rfl rfl rfl ?_); first | apply gp_guard_dec rfl rfl rfl rfl | apply gp_guard rfl rfl rfl rfl | fail) | refine p_sq ?_)
                      | (refine gp_one ?_; first | refine p_v ?_ | refine p_s ?_ | refine p_n (fun _ => ?_) | refine p_y ?_ | refine p_app (fun _ _ => ?_) | refine p_mv ?_ | refine p_ms ?_ | refine p_b0 (fun _ => ?_))
                      | refine gp_done hd hk ?_ | intro _ | refine p_ta hd hk (fun _ _ _ hd hk => ?_))
                    have h5' : at0 = 0 := by omega
                    exact g_midX () trivial (by (repeat (first | exact FrSub.nil | refine FrSub.cons rfl ?_)); first | done | fail) (by rw [placeC_zero h5']; exact (by (repeat (first | exact Take.nil | apply Take.cons | exact Sel.here | apply Sel.there)); first | done | fail))
                · repeat (first
                    | (refine g_ops ?_; first | refine s_q ?_ | refine s_v ?_ | refine s_s ?_ | refine s_n (fun _ => ?_) | refine s_x ?_ | refine s_y ?_ | refine s_mq ?_ | refine s_app (fun _ _ => ?_) | refine s_mv ?_ | refine s_ms ?_ | refine s_b0 (fun _ => ?_) | ((fail_if_success refine g_lit rfl rfl rfl ?_); first | apply g_partM rfl rfl rfl | apply g_partMB rfl rfl rfl | fail))
                    | apply g_regB (id := 1) 37 | refine g_draw (id := 18) (.take 0 (.see 1 [] (.take 2 (.see 3 [] (.take 4 .done))))) (by kernel_rfl) (take_all _) (fun k hd hk => ?_)
                    | refine g_seq ?_ | refine g_region ?_ | refine g_nil ?_ | refine g_then_normal ?_ | refine g_block ?_ | refine g_in_normal ?_ | refine g_retc ?_
                    | refine g_then_ret ?_ | refine g_in_ret ?_ | refine g_exit ?_ | refine g_then_exit ?_ | refine g_in_exit ?_ | refine g_in_other rfl ?_
                    | refine g_skip ?_ | refine g_label ?_ | refine g_cond_true rfl ?_ | refine g_cond_false rfl ?_ | exact s_m | intro _ | (refine gp_take ?_; first | refine p_q ?_ | refine p_x ?_ | refine p_mq ?_ | ((fail_if_success refine gp_lit rfl rfl rfl rfl ?_); first | apply gp_guard_dec rfl rfl rfl rfl | apply gp_guard rfl rfl rfl rfl | fail))
                    | (refine gp_see ?_; first | refine p_f ?_ | refine p_sx ?_ | ((fail_if_success refine gp_lit rfl rfl rfl rfl ?_); first | apply gp_guard_dec rfl rfl rfl rfl | apply gp_guard rfl rfl rfl rfl | fail) | refine p_sq ?_)
                    | (refine gp_one ?_; first | refine p_v ?_ | refine p_s ?_ | refine p_n (fun _ => ?_) | refine p_y ?_ | refine p_app (fun _ _ => ?_) | refine p_mv ?_ | refine p_ms ?_ | refine p_b0 (fun _ => ?_))
                    | refine gp_done hd hk ?_ | intro _ | refine p_ta hd hk (fun _ _ _ hd hk => ?_))
                  refine g_cutX (X := Unit) (fun _ => [(20, ptr tb), (19, .slice pp (hN - at0) (ac - at0)), (17, int k), (16, int i), (12, .slice (some ⟨nb, 0, none⟩) c nc), (11, int at0), (10, int r), (9, ptr b), (7, .slice (some ⟨ab, 0, none⟩) 60 ac), (6, .bool false), (0, int c), (1, .slice p1 l1.length cap1), (2, .slice p2 l2.length cap2)]) (fun _ => [.row tb (placeC hN) 27, clr b ⟨(base : Int) + (c : Int), tok', place fl⟩ (some m) fp' fl fc' rp' rl' rc', .map m M2, .own fp' fl fc' 7 (((allTo 60).take fl).flatMap Ev.cells) 53, .own rp' rl' rc' 15 rs' 74, .own (some ⟨nb, 0, none⟩) c nc 1 (numsB base c) 3, .own (some ⟨ab, 0, none⟩) 60 ac 7 ((allTo 60).flatMap Ev.cells) 53, Init W]) (fun _ => True) ?_ (fun _ _ => ?_)
                  · refine g_cond_dec rfl (fun h5 => ?_) (fun h5 => ?_)
                    · have h5' : at0 < hN := by omega
                      obtain rfl := hpp h5'
                      have hcell := evAt (e := 53) (b := ab) (ac := ac) (k := hN) (o := at0 * 7 + (((hN - at0 : Nat) : Int) - 1).toNat * 7) (by omega) b2 (by omega)
                      repeat (first
                        | (refine g_ops ?_; first | refine s_q ?_ | refine s_v ?_ | refine s_s ?_ | refine s_n (fun _ => ?_) | refine s_x ?_ | refine s_y ?_ | refine s_mq ?_ | refine s_app (fun _ _ => ?_) | refine s_mv ?_ | refine s_ms ?_ | refine s_b0 (fun _ => ?_) | ((fail_if_success refine g_lit rfl rfl rfl ?_); first | apply g_partM rfl rfl rfl | apply g_partMB rfl rfl rfl | fail))
                        | apply g_regB (id := 1) 37 | refine g_draw (id := 18) (.take 0 (.see 1 [] (.take 2 (.see 3 [] (.take 4 .done))))) (by kernel_rfl) (take_all _) (fun k hd hk => ?_)
                        | refine g_seq ?_ | refine g_region ?_ | refine g_nil ?_ | refine g_then_normal ?_ | refine g_block ?_ | refine g_in_normal ?_
                        | refine g_retc ?_ | refine g_then_ret ?_ | refine g_in_ret ?_ | refine g_exit ?_ | refine g_then_exit ?_ | refine g_in_exit ?_
                        | refine g_in_other rfl ?_ | refine g_skip ?_ | refine g_label ?_ | refine g_cond_true rfl ?_ | refine g_cond_false rfl ?_ | exact s_m
                        | intro _ | (refine gp_take ?_; first | refine p_q ?_ | refine p_x ?_ | refine p_mq ?_ | ((fail_if_success refine gp_lit rfl rfl rfl rfl ?_); first | apply gp_guard_dec rfl rfl rfl rfl | apply gp_guard rfl rfl rfl rfl | fail))
                        | (refine gp_see ?_; first | refine p_f ?_ | refine p_sx ?_ | ((fail_if_success refine gp_lit rfl rfl rfl rfl ?_); first | apply gp_guard_dec rfl rfl rfl rfl | apply gp_guard rfl rfl rfl rfl | fail) | refine p_sq ?_)
                        | (refine gp_one ?_; first | refine p_v ?_ | refine p_s ?_ | refine p_n (fun _ => ?_) | refine p_y ?_ | refine p_app (fun _ _ => ?_) | refine p_mv ?_ | refine p_ms ?_ | refine p_b0 (fun _ => ?_))
                        | refine gp_done hd hk ?_ | intro _ | refine p_ta hd hk (fun _ _ _ hd hk => ?_))
                      exact g_midX () trivial (by (repeat (first | exact FrSub.nil | refine FrSub.cons rfl ?_)); first | done | fail) (by rw [placeC_pos (show 0 < hN by omega)]; exact (by (repeat (first | exact Take.nil | apply Take.cons | exact Sel.here | apply Sel.there)); first | done | fail))
                    · repeat (first
                        | (refine g_ops ?_; first | refine s_q ?_ | refine s_v ?_ | refine s_s ?_ | refine s_n (fun _ => ?_) | refine s_x ?_ | refine s_y ?_ | refine s_mq ?_ | refine s_app (fun _ _ => ?_) | refine s_mv ?_ | refine s_ms ?_ | refine s_b0 (fun _ => ?_) | ((fail_if_success refine g_lit rfl rfl rfl ?_); first | apply g_partM rfl rfl rfl | apply g_partMB rfl rfl rfl | fail))
                        | apply g_regB (id := 1) 37 | refine g_draw (id := 18) (.take 0 (.see 1 [] (.take 2 (.see 3 [] (.take 4 .done))))) (by kernel_rfl) (take_all _) (fun k hd hk => ?_)
                        | refine g_seq ?_ | refine g_region ?_ | refine g_nil ?_ | refine g_then_normal ?_ | refine g_block ?_ | refine g_in_normal ?_
                        | refine g_retc ?_ | refine g_then_ret ?_ | refine g_in_ret ?_ | refine g_exit ?_ | refine g_then_exit ?_ | refine g_in_exit ?_
                        | refine g_in_other rfl ?_ | refine g_skip ?_ | refine g_label ?_ | refine g_cond_true rfl ?_ | refine g_cond_false rfl ?_ | exact s_m
                        | intro _ | (refine gp_take ?_; first | refine p_q ?_ | refine p_x ?_ | refine p_mq ?_ | ((fail_if_success refine gp_lit rfl rfl rfl rfl ?_); first | apply gp_guard_dec rfl rfl rfl rfl | apply gp_guard rfl rfl rfl rfl | fail))
                        | (refine gp_see ?_; first | refine p_f ?_ | refine p_sx ?_ | ((fail_if_success refine gp_lit rfl rfl rfl rfl ?_); first | apply gp_guard_dec rfl rfl rfl rfl | apply gp_guard rfl rfl rfl rfl | fail) | refine p_sq ?_)
                        | (refine gp_one ?_; first | refine p_v ?_ | refine p_s ?_ | refine p_n (fun _ => ?_) | refine p_y ?_ | refine p_app (fun _ _ => ?_) | refine p_mv ?_ | refine p_ms ?_ | refine p_b0 (fun _ => ?_))
                        | refine gp_done hd hk ?_ | intro _ | refine p_ta hd hk (fun _ _ _ hd hk => ?_))
                      have h5' : hN = at0 := by omega
                      exact g_midX () trivial (by (repeat (first | exact FrSub.nil | refine FrSub.cons rfl ?_)); first | done | fail) (by rw [h5']; exact (by (repeat (first | exact Take.nil | apply Take.cons | exact Sel.here | apply Sel.there)); first | done | fail))
                  · repeat (first
                      | (refine g_ops ?_; first | refine s_q ?_ | refine s_v ?_ | refine s_s ?_ | refine s_n (fun _ => ?_) | refine s_x ?_ | refine s_y ?_ | refine s_mq ?_ | refine s_app (fun _ _ => ?_) | refine s_mv ?_ | refine s_ms ?_ | refine s_b0 (fun _ => ?_) | ((fail_if_success refine g_lit rfl rfl rfl ?_); first | apply g_partM rfl rfl rfl | apply g_partMB rfl rfl rfl | fail))
                      | apply g_regB (id := 1) 37 | refine g_draw (id := 18) (.take 0 (.see 1 [] (.take 2 (.see 3 [] (.take 4 .done))))) (by kernel_rfl) (take_all _) (fun k hd hk => ?_)
                      | refine g_seq ?_ | refine g_region ?_ | refine g_nil ?_ | refine g_then_normal ?_ | refine g_block ?_ | refine g_in_normal ?_ | refine g_retc ?_
                      | refine g_then_ret ?_ | refine g_in_ret ?_ | refine g_exit ?_ | refine g_then_exit ?_ | refine g_in_exit ?_ | refine g_in_other rfl ?_
                      | refine g_skip ?_ | refine g_label ?_ | refine g_cond_true rfl ?_ | refine g_cond_false rfl ?_ | exact s_m | intro _ | (refine gp_take ?_; first | refine p_q ?_ | refine p_x ?_ | refine p_mq ?_ | ((fail_if_success refine gp_lit rfl rfl rfl rfl ?_); first | apply gp_guard_dec rfl rfl rfl rfl | apply gp_guard rfl rfl rfl rfl | fail))
                      | (refine gp_see ?_; first | refine p_f ?_ | refine p_sx ?_ | ((fail_if_success refine gp_lit rfl rfl rfl rfl ?_); first | apply gp_guard_dec rfl rfl rfl rfl | apply gp_guard rfl rfl rfl rfl | fail) | refine p_sq ?_)
                      | (refine gp_one ?_; first | refine p_v ?_ | refine p_s ?_ | refine p_n (fun _ => ?_) | refine p_y ?_ | refine p_app (fun _ _ => ?_) | refine p_mv ?_ | refine p_ms ?_ | refine p_b0 (fun _ => ?_))
                      | refine gp_done hd hk ?_ | intro _ | refine p_ta hd hk (fun _ _ _ hd hk => ?_))
                    have hr : ∀ (j : Nat), j < c → Reads (.own (some ⟨nb, 0, none⟩) c nc 1 (numsB base c) 3) ⟨nb, 0 + j, none⟩ (int ((base : Int) + (j : Int) + 1)) := fun j hj => numsB_at j hj
                    refine g_draw (.take 0 (.take 1 (.take 2 (.take 3 (.see 4 [] (.take 5 (.see 6 [] (.take 7 (.see 8 [] (.take 9 (.one 10 .done))))))))))) (by kernel_rfl) (C := [.own (some ⟨nb, 0, none⟩) c nc 1 (numsB base c) 3, .row tb (placeC hN) 27]) (by (repeat (first | exact Take.nil | apply Take.cons | exact Sel.here | apply Sel.there)); first | done | fail) (fun kk hd hk => ?_)
                    cases hg : mget M2 ((base : Int) + (k : Int) + 1) with
                    | none =>
                      have hi0 : 0 < i := by
                        rcases Nat.eq_zero_or_pos i with h0 | h0
                        · obtain ⟨v, hv⟩ := (hz h0).2 k hkc
                          rw [hg] at hv; cases hv
                        · exact h0
                      repeat (first
                        | (refine gp_take ?_; first | refine p_q ?_ | refine p_x ?_ | refine p_mq ?_ | ((fail_if_success refine gp_lit rfl rfl rfl rfl ?_); first | apply gp_guard_dec rfl rfl rfl rfl | apply gp_guard rfl rfl rfl rfl | fail))
                        | (refine gp_see ?_; first | refine p_f ?_ | refine p_sx ?_ | ((fail_if_success refine gp_lit rfl rfl rfl rfl ?_); first | apply gp_guard_dec rfl rfl rfl rfl | apply gp_guard rfl rfl rfl rfl | fail) | refine p_h (take_no b ⟨(base : Int) + (c : Int), tok', place fl⟩ m M2 fp' fl fc' rp' rl' rc' ((base : Int) + (k : Int) + 1) ⟨0, (place hN).s, place hN, 0⟩ pp (hN - at0) (ac - at0) hg) hd hk ?_ | refine p_sq ?_)
                        | (refine gp_one ?_; first | refine p_v ?_ | refine p_s ?_ | refine p_n (fun _ => ?_) | refine p_y ?_ | refine p_app (fun _ _ => ?_) | refine p_mv ?_ | refine p_ms ?_ | refine p_b0 (fun _ => ?_) | refine p_k (take_no b ⟨(base : Int) + (c : Int), tok', place fl⟩ m M2 fp' fl fc' rp' rl' rc' ((base : Int) + (k : Int) + 1) ⟨0, (place hN).s, place hN, 0⟩ pp (hN - at0) (ac - at0) hg) ?_)
                        | refine gp_done hd hk ?_ | intro _ | refine p_ta hd hk (fun _ _ _ hd hk => ?_))
                      repeat (first
                        | (refine g_ops ?_; first | refine s_q ?_ | refine s_v ?_ | refine s_s ?_ | refine s_n (fun _ => ?_) | refine s_x ?_ | refine s_y ?_ | refine s_mq ?_ | refine s_app (fun _ _ => ?_) | refine s_mv ?_ | refine s_ms ?_ | refine s_b0 (fun _ => ?_) | ((fail_if_success refine g_lit rfl rfl rfl ?_); first | apply g_partM rfl rfl rfl | apply g_partMB rfl rfl rfl | fail))
                        | apply g_regB (id := 1) 37 | refine g_draw (id := 18) (.take 0 (.see 1 [] (.take 2 (.see 3 [] (.take 4 .done))))) (by kernel_rfl) (take_all _) (fun k hd hk => ?_)
                        | refine g_seq ?_ | refine g_region ?_ | refine g_nil ?_ | refine g_then_normal ?_ | refine g_block ?_ | refine g_in_normal ?_
                        | refine g_retc ?_ | refine g_then_ret ?_ | refine g_in_ret ?_ | refine g_exit ?_ | refine g_then_exit ?_ | refine g_in_exit ?_
                        | refine g_in_other rfl ?_ | refine g_skip ?_ | refine g_label ?_ | refine g_cond_true rfl ?_ | refine g_cond_false rfl ?_ | exact s_m
                        | intro _ | (refine gp_take ?_; first | refine p_q ?_ | refine p_x ?_ | refine p_mq ?_ | ((fail_if_success refine gp_lit rfl rfl rfl rfl ?_); first | apply gp_guard_dec rfl rfl rfl rfl | apply gp_guard rfl rfl rfl rfl | fail))
                        | (refine gp_see ?_; first | refine p_f ?_ | refine p_sx ?_ | ((fail_if_success refine gp_lit rfl rfl rfl rfl ?_); first | apply gp_guard_dec rfl rfl rfl rfl | apply gp_guard rfl rfl rfl rfl | fail) | refine p_sq ?_)
                        | (refine gp_one ?_; first | refine p_v ?_ | refine p_s ?_ | refine p_n (fun _ => ?_) | refine p_y ?_ | refine p_app (fun _ _ => ?_) | refine p_mv ?_ | refine p_ms ?_ | refine p_b0 (fun _ => ?_))
                        | refine gp_done hd hk ?_ | intro _ | refine p_ta hd hk (fun _ _ _ hd hk => ?_))
                      exact g_again (i + 1, ⟨none, M2, 0, tok', fl, fp', fc', rp', rl', rc', rs'⟩) (by simp only []; omega) ⟨hi', hfl', hat0, by simp only []; omega, hky2, fun h => absurd h (by simp), fun _ h => hp hi0 h⟩ (by (repeat (first | exact FrSub.nil | refine FrSub.cons rfl ?_)); first | done | fail) (by (repeat (first | exact Take.nil | apply Take.cons | exact Sel.here | apply Sel.there)); first | done | fail)
                    | some v =>
                      obtain rfl := (hky2 _ v (mget_mem hg)).2 (by omega)
                      by_cases hfe : fl = at0
                      · subst hfe
                        repeat (first
                          | (refine gp_take ?_; first | refine p_q ?_ | refine p_x ?_ | refine p_mq ?_ | ((fail_if_success refine gp_lit rfl rfl rfl rfl ?_); first | apply gp_guard_dec rfl rfl rfl rfl | apply gp_guard rfl rfl rfl rfl | fail))
                          | (refine gp_see ?_; first | refine p_f ?_ | refine p_sx ?_ | ((fail_if_success refine gp_lit rfl rfl rfl rfl ?_); first | apply gp_guard_dec rfl rfl rfl rfl | apply gp_guard rfl rfl rfl rfl | fail) | refine p_sq ?_)
                          | (refine gp_one ?_; first | refine p_v ?_ | refine p_s ?_ | refine p_n (fun _ => ?_) | refine p_y ?_ | refine p_app (fun _ _ => ?_) | refine p_mv ?_ | refine p_ms ?_ | refine p_b0 (fun _ => ?_) | refine p_c (take_moved b ⟨(base : Int) + (c : Int), tok', place fl⟩ m M2 fp' fl fc' (((allTo 60).take fl).flatMap Ev.cells) rp' rl' rc' rs' ((base : Int) + (k : Int) + 1) ⟨0, (place hN).s, place hN, 0⟩ pp (hN - fl) (ac - fl) true (place fl) hg hat (by omega) (by omega) (by omega) (by rw [sameC_self]; rfl)) (fun _ _ => ?_))
                          | refine gp_done hd hk ?_ | intro _ | refine p_ta hd hk (fun _ _ _ hd hk => ?_))
                        rename_i q _
                        obtain ⟨⟨q1, q2⟩, ⟨q3, q4⟩, ⟨q5, q6⟩⟩ := q
                        rw [show fl + (hN - fl) = hN by omega, flat_join _ _ _ b1]
                        repeat (first
                          | (refine g_ops ?_; first | refine s_q ?_ | refine s_v ?_ | refine s_s ?_ | refine s_n (fun _ => ?_) | refine s_x ?_ | refine s_y ?_ | refine s_mq ?_ | refine s_app (fun _ _ => ?_) | refine s_mv ?_ | refine s_ms ?_ | refine s_b0 (fun _ => ?_) | ((fail_if_success refine g_lit rfl rfl rfl ?_); first | apply g_partM rfl rfl rfl | apply g_partMB rfl rfl rfl | fail))
                          | apply g_regB (id := 1) 37 | refine g_draw (id := 18) (.take 0 (.see 1 [] (.take 2 (.see 3 [] (.take 4 .done))))) (by kernel_rfl) (take_all _) (fun k hd hk => ?_)
                          | refine g_seq ?_ | refine g_region ?_ | refine g_nil ?_ | refine g_then_normal ?_ | refine g_block ?_ | refine g_in_normal ?_
                          | refine g_retc ?_ | refine g_then_ret ?_ | refine g_in_ret ?_ | refine g_exit ?_ | refine g_then_exit ?_ | refine g_in_exit ?_
                          | refine g_in_other rfl ?_ | refine g_skip ?_ | refine g_label ?_ | refine g_cond_true rfl ?_ | refine g_cond_false rfl ?_ | exact s_m
                          | intro _ | (refine gp_take ?_; first | refine p_q ?_ | refine p_x ?_ | refine p_mq ?_ | ((fail_if_success refine gp_lit rfl rfl rfl rfl ?_); first | apply gp_guard_dec rfl rfl rfl rfl | apply gp_guard rfl rfl rfl rfl | fail))
                          | (refine gp_see ?_; first | refine p_f ?_ | refine p_sx ?_ | ((fail_if_success refine gp_lit rfl rfl rfl rfl ?_); first | apply gp_guard_dec rfl rfl rfl rfl | apply gp_guard rfl rfl rfl rfl | fail) | refine p_sq ?_)
                          | (refine gp_one ?_; first | refine p_v ?_ | refine p_s ?_ | refine p_n (fun _ => ?_) | refine p_y ?_ | refine p_app (fun _ _ => ?_) | refine p_mv ?_ | refine p_ms ?_ | refine p_b0 (fun _ => ?_))
                          | refine gp_done hd hk ?_ | intro _ | refine p_ta hd hk (fun _ _ _ hd hk => ?_))
                        exact g_again (i + 1, ⟨none, mdel M2 ((base : Int) + (k : Int) + 1), 0, _, hN, q5, q6, q1, rl' + 1, q2, _⟩) (by simp only []; omega) ⟨hi', b2, b1, by simp only []; omega, hky2.del, fun h => absurd h (by simp), fun _ h => b3 h⟩ (by (repeat (first | exact FrSub.nil | refine FrSub.cons rfl ?_)); first | done | fail) (by (repeat (first | exact Take.nil | apply Take.cons | exact Sel.here | apply Sel.there)); first | done | fail)
                      · have hlt : at0 < fl := by omega
                        repeat (first
                          | (refine gp_take ?_; first | refine p_q ?_ | refine p_x ?_ | refine p_mq ?_ | ((fail_if_success refine gp_lit rfl rfl rfl rfl ?_); first | apply gp_guard_dec rfl rfl rfl rfl | apply gp_guard rfl rfl rfl rfl | fail))
                          | (refine gp_see ?_; first | refine p_f ?_ | refine p_sx ?_ | ((fail_if_success refine gp_lit rfl rfl rfl rfl ?_); first | apply gp_guard_dec rfl rfl rfl rfl | apply gp_guard rfl rfl rfl rfl | fail) | refine p_sq ?_)
                          | (refine gp_one ?_; first | refine p_v ?_ | refine p_s ?_ | refine p_n (fun _ => ?_) | refine p_y ?_ | refine p_app (fun _ _ => ?_) | refine p_mv ?_ | refine p_ms ?_ | refine p_b0 (fun _ => ?_) | refine p_c (take_still b ⟨(base : Int) + (c : Int), tok', place fl⟩ m M2 fp' fl fc' rp' rl' rc' rs' ((base : Int) + (k : Int) + 1) ⟨0, (place hN).s, place hN, 0⟩ pp (hN - at0) (ac - at0) true (place at0) hg hat (by omega) (by omega) (by rw [place_apart at0 fl hlt]; rfl)) (fun _ _ => ?_))
                          | refine gp_done hd hk ?_ | intro _ | refine p_ta hd hk (fun _ _ _ hd hk => ?_))
                        rename_i q _
                        obtain ⟨⟨q1, q2⟩, ⟨q3, q4⟩⟩ := q
                        repeat (first
                          | (refine g_ops ?_; first | refine s_q ?_ | refine s_v ?_ | refine s_s ?_ | refine s_n (fun _ => ?_) | refine s_x ?_ | refine s_y ?_ | refine s_mq ?_ | refine s_app (fun _ _ => ?_) | refine s_mv ?_ | refine s_ms ?_ | refine s_b0 (fun _ => ?_) | ((fail_if_success refine g_lit rfl rfl rfl ?_); first | apply g_partM rfl rfl rfl | apply g_partMB rfl rfl rfl | fail))
                          | apply g_regB (id := 1) 37 | refine g_draw (id := 18) (.take 0 (.see 1 [] (.take 2 (.see 3 [] (.take 4 .done))))) (by kernel_rfl) (take_all _) (fun k hd hk => ?_)
                          | refine g_seq ?_ | refine g_region ?_ | refine g_nil ?_ | refine g_then_normal ?_ | refine g_block ?_ | refine g_in_normal ?_
                          | refine g_retc ?_ | refine g_then_ret ?_ | refine g_in_ret ?_ | refine g_exit ?_ | refine g_then_exit ?_ | refine g_in_exit ?_
                          | refine g_in_other rfl ?_ | refine g_skip ?_ | refine g_label ?_ | refine g_cond_true rfl ?_ | refine g_cond_false rfl ?_ | exact s_m
                          | intro _ | (refine gp_take ?_; first | refine p_q ?_ | refine p_x ?_ | refine p_mq ?_ | ((fail_if_success refine gp_lit rfl rfl rfl rfl ?_); first | apply gp_guard_dec rfl rfl rfl rfl | apply gp_guard rfl rfl rfl rfl | fail))
                          | (refine gp_see ?_; first | refine p_f ?_ | refine p_sx ?_ | ((fail_if_success refine gp_lit rfl rfl rfl rfl ?_); first | apply gp_guard_dec rfl rfl rfl rfl | apply gp_guard rfl rfl rfl rfl | fail) | refine p_sq ?_)
                          | (refine gp_one ?_; first | refine p_v ?_ | refine p_s ?_ | refine p_n (fun _ => ?_) | refine p_y ?_ | refine p_app (fun _ _ => ?_) | refine p_mv ?_ | refine p_ms ?_ | refine p_b0 (fun _ => ?_))
                          | refine gp_done hd hk ?_ | intro _ | refine p_ta hd hk (fun _ _ _ hd hk => ?_))
                        exact g_again (i + 1, ⟨none, mdel M2 ((base : Int) + (k : Int) + 1), 0, _, fl, fp', fc', q1, rl' + 1, q2, _⟩) (by simp only []; omega) ⟨hi', hfl', hat0, by simp only []; omega, hky2.del, fun h => absurd h (by simp), fun _ _ => hlt⟩ (by (repeat (first | exact FrSub.nil | refine FrSub.cons rfl ?_)); first | done | fail) (by (repeat (first | exact Take.nil | apply Take.cons | exact Sel.here | apply Sel.there)); first | done | fail)
          · have hic : i = c := by omega
            subst hic
            have hi0 : 0 < i := by omega
            repeat (first
              | (refine g_ops ?_; first | refine s_q ?_ | refine s_v ?_ | refine s_s ?_ | refine s_n (fun _ => ?_) | refine s_x ?_ | refine s_y ?_ | refine s_mq ?_ | refine s_app (fun _ _ => ?_) | refine s_mv ?_ | refine s_ms ?_ | refine s_b0 (fun _ => ?_) | ((fail_if_success refine g_lit rfl rfl rfl ?_); first | apply g_partM rfl rfl rfl | apply g_partMB rfl rfl rfl | fail) | refine s_c (feed b ⟨(base : Int) + (i : Int), tok', place fl⟩ (some m) fp' fl fc' (((allTo 60).take fl).flatMap Ev.cells) rp' rl' rc' (by omega)) (fun _ _ => ?_))
              | apply g_regB (id := 1) 37 | refine g_draw (id := 18) (.take 0 (.see 1 [] (.take 2 (.see 3 [] (.take 4 .done))))) (by kernel_rfl) (take_all _) (fun k hd hk => ?_)
              | apply g_regB (id := 38) 176 | refine g_seq ?_ | refine g_region ?_ | refine g_nil ?_ | refine g_then_normal ?_ | refine g_block ?_ | refine g_in_normal ?_
              | refine g_retc ?_ | refine g_then_ret ?_ | refine g_in_ret ?_ | refine g_exit ?_ | refine g_then_exit ?_ | refine g_in_exit ?_ | refine g_in_other rfl ?_
              | refine g_skip ?_ | refine g_label ?_ | refine g_cond_true rfl ?_ | refine g_cond_false rfl ?_ | exact s_m | intro _ | (refine gp_take ?_; first | refine p_q ?_ | refine p_x ?_ | refine p_mq ?_ | ((fail_if_success refine gp_lit rfl rfl rfl rfl ?_); first | apply gp_guard_dec rfl rfl rfl rfl | apply gp_guard rfl rfl rfl rfl | fail))
              | (refine gp_see ?_; first | refine p_f ?_ | refine p_sx ?_ | ((fail_if_success refine gp_lit rfl rfl rfl rfl ?_); first | apply gp_guard_dec rfl rfl rfl rfl | apply gp_guard rfl rfl rfl rfl | fail) | refine p_sq ?_)
              | (refine gp_one ?_; first | refine p_v ?_ | refine p_s ?_ | refine p_n (fun _ => ?_) | refine p_y ?_ | refine p_app (fun _ _ => ?_) | refine p_mv ?_ | refine p_ms ?_ | refine p_b0 (fun _ => ?_) | refine p_c (feed b ⟨(base : Int) + (i : Int), tok', place fl⟩ (some m) fp' fl fc' (((allTo 60).take fl).flatMap Ev.cells) rp' rl' rc' (by omega)) (fun _ _ => ?_))
              | refine gp_done hd hk ?_ | intro _ | refine p_ta hd hk (fun _ _ _ hd hk => ?_))
            · rename_i fq _ _
              obtain ⟨f1, f2⟩ := fq
              refine g_ops ?_
              refine g_q (qs_slice (l := 0) (h := fl) inferInstance inferInstance rfl .none (.some rfl rfl) (Nat.zero_le _) (by omega)) rfl rfl ?_
              have hsl : (if ac = 0 then some (⟨ab, 0, none⟩ : Addr) else (some (⟨ab, 0, none⟩ : Addr)).map (·.add (0 * 7))) = some ⟨ab, 0, none⟩ := by
                rw [if_neg (by omega)]
                simp [Addr.add_lit]
              rw [hsl]
              repeat (first
                | (refine g_ops ?_; first | refine s_q ?_ | refine s_v ?_ | refine s_s ?_ | refine s_n (fun _ => ?_) | refine s_x ?_ | refine s_y ?_ | refine s_mq ?_ | refine s_app (fun _ _ => ?_) | refine s_mv ?_ | refine s_ms ?_ | refine s_b0 (fun _ => ?_) | ((fail_if_success refine g_lit rfl rfl rfl ?_); first | apply g_partM rfl rfl rfl | apply g_partMB rfl rfl rfl | fail) | refine s_k (sameEv f1 fl f2 ((allTo 60).take fl) (some ⟨ab, 0, none⟩) 60 ac (allTo 60) fl f2 (ac - 0) (Nat.le_refl _) hfl' (by rw [List.length_take, allTo_len]; omega) (allTo_len 60) (fun i hi => by simp [List.getElem?_take, hi]) (by omega)) ?_)
                | apply g_regB (id := 1) 37 | refine g_draw (id := 18) (.take 0 (.see 1 [] (.take 2 (.see 3 [] (.take 4 .done))))) (by kernel_rfl) (take_all _) (fun k hd hk => ?_)
                | refine g_drawS (id := 36) 9 (.take 0 (.take 1 (.take 2 (.take 3 (.see 4 [] (.take 5 (.see 6 [] (.take 7 (.see 8 [] (.take 9 (.one 10 .done))))))))))) (fun k hd hk => ?_)
                | apply g_regB (id := 38) 176 | refine g_seq ?_ | refine g_region ?_ | refine g_nil ?_ | refine g_then_normal ?_ | refine g_block ?_ | refine g_in_normal ?_
                | refine g_retc ?_ | refine g_then_ret ?_ | refine g_in_ret ?_ | refine g_exit ?_ | refine g_then_exit ?_ | refine g_in_exit ?_ | refine g_in_other rfl ?_
                | refine g_skip ?_ | refine g_label ?_ | refine g_cond_true rfl ?_ | refine g_cond_false rfl ?_ | exact s_m | intro _ | (refine gp_take ?_; first | refine p_q ?_ | refine p_x ?_ | refine p_mq ?_ | ((fail_if_success refine gp_lit rfl rfl rfl rfl ?_); first | apply gp_guard_dec rfl rfl rfl rfl | apply gp_guard rfl rfl rfl rfl | fail))
                | (refine gp_see ?_; first | refine p_f ?_ | refine p_sx ?_ | ((fail_if_success refine gp_lit rfl rfl rfl rfl ?_); first | apply gp_guard_dec rfl rfl rfl rfl | apply gp_guard rfl rfl rfl rfl | fail) | refine p_h (sameEv f1 fl f2 ((allTo 60).take fl) (some ⟨ab, 0, none⟩) 60 ac (allTo 60) fl f2 (ac - 0) (Nat.le_refl _) hfl' (by rw [List.length_take, allTo_len]; omega) (allTo_len 60) (fun i hi => by simp [List.getElem?_take, hi]) (by omega)) hd hk ?_ | refine p_sq ?_)
                | (refine gp_one ?_; first | refine p_v ?_ | refine p_s ?_ | refine p_n (fun _ => ?_) | refine p_y ?_ | refine p_app (fun _ _ => ?_) | refine p_mv ?_ | refine p_ms ?_ | refine p_b0 (fun _ => ?_) | refine p_k (sameEv f1 fl f2 ((allTo 60).take fl) (some ⟨ab, 0, none⟩) 60 ac (allTo 60) fl f2 (ac - 0) (Nat.le_refl _) hfl' (by rw [List.length_take, allTo_len]; omega) (allTo_len 60) (fun i hi => by simp [List.getElem?_take, hi]) (by omega)) ?_)
                | refine gp_done hd hk ?_ | intro _ | refine p_ta hd hk (fun _ _ _ hd hk => ?_))
            · rename_i fq _
              repeat (first
                | (refine g_ops ?_; first | refine s_q ?_ | refine s_v ?_ | refine s_s ?_ | refine s_n (fun _ => ?_) | refine s_x ?_ | refine s_y ?_ | refine s_mq ?_ | refine s_app (fun _ _ => ?_) | refine s_mv ?_ | refine s_ms ?_ | refine s_b0 (fun _ => ?_) | ((fail_if_success refine g_lit rfl rfl rfl ?_); first | apply g_partM rfl rfl rfl | apply g_partMB rfl rfl rfl | fail))
                | apply g_regB (id := 1) 37 | refine g_draw (id := 18) (.take 0 (.see 1 [] (.take 2 (.see 3 [] (.take 4 .done))))) (by kernel_rfl) (take_all _) (fun k hd hk => ?_)
                | refine g_seq ?_ | refine g_region ?_ | refine g_nil ?_ | refine g_then_normal ?_ | refine g_block ?_ | refine g_in_normal ?_ | refine g_retc ?_
                | refine g_then_ret ?_ | refine g_in_ret ?_ | refine g_exit ?_ | refine g_then_exit ?_ | refine g_in_exit ?_ | refine g_in_other rfl ?_
                | refine g_skip ?_ | refine g_label ?_ | refine g_cond_true rfl ?_ | refine g_cond_false rfl ?_ | exact s_m | intro _ | (refine gp_take ?_; first | refine p_q ?_ | refine p_x ?_ | refine p_mq ?_ | ((fail_if_success refine gp_lit rfl rfl rfl rfl ?_); first | apply gp_guard_dec rfl rfl rfl rfl | apply gp_guard rfl rfl rfl rfl | fail))
                | (refine gp_see ?_; first | refine p_f ?_ | refine p_sx ?_ | ((fail_if_success refine gp_lit rfl rfl rfl rfl ?_); first | apply gp_guard_dec rfl rfl rfl rfl | apply gp_guard rfl rfl rfl rfl | fail) | refine p_sq ?_)
                | (refine gp_one ?_; first | refine p_v ?_ | refine p_s ?_ | refine p_n (fun _ => ?_) | refine p_y ?_ | refine p_app (fun _ _ => ?_) | refine p_mv ?_ | refine p_ms ?_ | refine p_b0 (fun _ => ?_))
                | refine gp_done hd hk ?_ | intro _ | refine p_ta hd hk (fun _ _ _ hd hk => ?_))
              refine g_cond rfl (fun h => ?_) (fun _ => ?_)
              · exfalso
                have q1 : ¬ ((60 : Nat) : Int) < (fl : Int) := by omega
                by_cases q2 : (fl : Int) ≤ (at0 : Int)
                · by_cases q3 : at0 < 60
                  · have := hp hi0 q3
                    omega
                  · have q4 : ¬ (at0 : Int) < ((60 : Nat) : Int) := by omega
                    rw [decide_eq_false q1, decide_eq_true q2, decide_eq_false q4] at h
                    cases h
                · rw [decide_eq_false q1, decide_eq_false q2] at h
                  cases h
              · repeat (first
                  | (refine g_ops ?_; first | refine s_q ?_ | refine s_v ?_ | refine s_s ?_ | refine s_n (fun _ => ?_) | refine s_x ?_ | refine s_y ?_ | refine s_mq ?_ | refine s_app (fun _ _ => ?_) | refine s_mv ?_ | refine s_ms ?_ | refine s_b0 (fun _ => ?_) | ((fail_if_success refine g_lit rfl rfl rfl ?_); first | apply g_partM rfl rfl rfl | apply g_partMB rfl rfl rfl | fail))
                  | apply g_regB (id := 1) 37 | refine g_draw (id := 18) (.take 0 (.see 1 [] (.take 2 (.see 3 [] (.take 4 .done))))) (by kernel_rfl) (take_all _) (fun k hd hk => ?_)
                  | refine g_seq ?_ | refine g_region ?_ | refine g_nil ?_ | refine g_then_normal ?_ | refine g_block ?_ | refine g_in_normal ?_ | refine g_retc ?_
                  | refine g_then_ret ?_ | refine g_in_ret ?_ | refine g_exit ?_ | refine g_then_exit ?_ | refine g_in_exit ?_ | refine g_in_other rfl ?_
                  | refine g_skip ?_ | refine g_label ?_ | refine g_cond_true rfl ?_ | refine g_cond_false rfl ?_ | exact s_m | intro _ | (refine gp_take ?_; first | refine p_q ?_ | refine p_x ?_ | refine p_mq ?_ | ((fail_if_success refine gp_lit rfl rfl rfl rfl ?_); first | apply gp_guard_dec rfl rfl rfl rfl | apply gp_guard rfl rfl rfl rfl | fail))
                  | (refine gp_see ?_; first | refine p_f ?_ | refine p_sx ?_ | ((fail_if_success refine gp_lit rfl rfl rfl rfl ?_); first | apply gp_guard_dec rfl rfl rfl rfl | apply gp_guard rfl rfl rfl rfl | fail) | refine p_sq ?_)
                  | (refine gp_one ?_; first | refine p_v ?_ | refine p_s ?_ | refine p_n (fun _ => ?_) | refine p_y ?_ | refine p_app (fun _ _ => ?_) | refine p_mv ?_ | refine p_ms ?_ | refine p_b0 (fun _ => ?_))
                  | refine gp_done hd hk ?_ | intro _ | refine p_ta hd hk (fun _ _ _ hd hk => ?_))
                have hc2 : ((base + i : Nat) : Int) = (base : Int) + (i : Int) := by omega
                exact g_again (r + 1, ⟨some m, M2, base + i, tok', fl, fp', fc', rp', rl', rc', rs'⟩) (by simp only []; omega) ⟨by simp only []; omega, hfl', by simp only []; omega, by simp only []; omega, by simp only []; rw [hc2]; exact hky2.next⟩ (by (repeat (first | exact FrSub.nil | refine FrSub.cons rfl ?_)); first | done | fail) (by simp only [OS.L]; rw [hc2]; exact (by (repeat (first | exact Take.nil | apply Take.cons | exact Sel.here | apply Sel.there)); first | done | fail))
      · repeat (first
          | (refine g_ops ?_; first | refine s_q ?_ | refine s_v ?_ | refine s_s ?_ | refine s_n (fun _ => ?_) | refine s_x ?_ | refine s_y ?_ | refine s_mq ?_ | refine s_app (fun _ _ => ?_) | refine s_mv ?_ | refine s_ms ?_ | refine s_b0 (fun _ => ?_) | ((fail_if_success refine g_lit rfl rfl rfl ?_); first | apply g_partM rfl rfl rfl | apply g_partMB rfl rfl rfl | fail) | refine s_k (awake) ?_)
          | apply g_regB (id := 1) 37 | refine g_draw (id := 18) (.take 0 (.see 1 [] (.take 2 (.see 3 [] (.take 4 .done))))) (by kernel_rfl) (take_all _) (fun k hd hk => ?_)
          | refine g_drawS (id := 36) 9 (.take 0 (.take 1 (.take 2 (.take 3 (.see 4 [] (.take 5 (.see 6 [] (.take 7 (.see 8 [] (.take 9 (.one 10 .done))))))))))) (fun k hd hk => ?_)
          | refine g_seq ?_ | refine g_region ?_ | refine g_nil ?_ | refine g_then_normal ?_ | refine g_block ?_ | refine g_in_normal ?_ | refine g_retc ?_
          | refine g_then_ret ?_ | refine g_in_ret ?_ | refine g_exit ?_ | refine g_then_exit ?_ | refine g_in_exit ?_ | refine g_in_other rfl ?_ | refine g_skip ?_
          | refine g_label ?_ | refine g_cond_true rfl ?_ | refine g_cond_false rfl ?_ | exact s_m | intro _ | (refine gp_take ?_; first | refine p_q ?_ | refine p_x ?_ | refine p_mq ?_ | ((fail_if_success refine gp_lit rfl rfl rfl rfl ?_); first | apply gp_guard_dec rfl rfl rfl rfl | apply gp_guard rfl rfl rfl rfl | fail))
          | (refine gp_see ?_; first | refine p_f ?_ | refine p_sx ?_ | ((fail_if_success refine gp_lit rfl rfl rfl rfl ?_); first | apply gp_guard_dec rfl rfl rfl rfl | apply gp_guard rfl rfl rfl rfl | fail) | refine p_h (awake) hd hk ?_ | refine p_sq ?_)
          | (refine gp_one ?_; first | refine p_v ?_ | refine p_s ?_ | refine p_n (fun _ => ?_) | refine p_y ?_ | refine p_app (fun _ _ => ?_) | refine p_mv ?_ | refine p_ms ?_ | refine p_b0 (fun _ => ?_) | refine p_k (awake) ?_)
          | refine gp_done hd hk ?_ | intro _ | refine p_ta hd hk (fun _ _ _ hd hk => ?_))
        exact s_r ()
end Go.Proofs.Ytkejdilmdpgbpaa
