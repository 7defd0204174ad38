/- The law of the client's token: the walk. -/
import Derived.Test.YtkejdilmdpgbpaaCliD
import Derived.Test.YtkejdilmdpgbpaaStmpR
set_option linter.unusedSimpArgs false
set_option linter.unusedVariables false
namespace Go.Proofs.Ytkejdilmdpgbpaa
open Go.Sl facts
theorem g_emp {Γ : Ctx} {N : Nat} {fr : Fr} {L : List Chunk} {φ : Act → World → Prop} {A : HP → Prop} (hA : A fun _ => none) (g : G Γ N fr (.asn A :: L) φ) : G Γ N fr L φ :=
  fun a w hN hd hf hh => g a w hN hd hf (hh.mono fun h al => ⟨fun _ => none, h, fun _ => .inl rfl, (fun _ _ q => by cases q), HP.sub.refl _, hA, al⟩)
theorem ask_any (b : Nat) (s : Cl) (x : CallV) (mp : Option Nat) (fp : Option Addr) (fl fc : Nat) (rp : Option Addr) (rl rc : Nat) (hl : 0 ≤ s.last ∧ s.last ≤ 1000000) :
    Does Try.prog 8 [ptr b, x.v] [clr b s mp fp fl fc rp rl rc, .asn (mapO mp ([] : List (Int × Value)))] (X := Nat × Bool) (fun _ => .tuple [(sent s x).v, int (s.last + 1)].toArray)
      (fun q => [clr b { s with last := s.last + 1 } (some q.1) fp fl fc rp rl rc, .map q.1 (mput ([] : List (Int × Value)) (s.last + 1) (askV q.2 (sent s x).cur))]) (fun q => q.2 = (decide (x.kind = 3) && sameC (sent s x).cur s.cur)) := by
  cases mp with
  | none => exact does_pre (fun h al => All.drop_right (A := [clr b s none fp fl fc rp rl rc]) (R := [_]) al) (ask_none b s x fp fl fc rp rl rc hl)
  | some m => exact does_post (fun q h => h.2) (ask_some b s x m [] fp fl fc rp rl rc hl)
abbrev CallV.at6 (x : CallV) (t : S3) : CallV := ⟨x.kind, t, x.key, x.stream, x.frm, x.cur, x.pat, x.max, x.r1, x.r2, x.r3, x.r4, x.to⟩
abbrev CallV.at3 (x : CallV) (t : S3) (c : Cur) : CallV := ⟨x.kind, t, x.key, x.stream, x.frm, c, x.pat, x.max, x.r1, x.r2, x.r3, x.r4, x.to⟩
theorem ask6 (b : Nat) (s : Cl) (x : CallV) (mp : Option Nat) (fp : Option Addr) (fl fc : Nat) (rp : Option Addr) (rl rc : Nat) (hl : 0 ≤ s.last ∧ s.last ≤ 1000000) (hk : x.kind = 6) :
    Does Try.prog 8 [ptr b, x.v] [clr b s mp fp fl fc rp rl rc, .asn (mapO mp ([] : List (Int × Value)))] (X := Nat) (fun _ => .tuple [(x.at6 s.tok).v, int (s.last + 1)].toArray)
      (fun q => [clr b { s with last := s.last + 1 } (some q) fp fl fc rp rl rc, .map q (mput ([] : List (Int × Value)) (s.last + 1) (askV false x.cur))]) (fun _ => True) := fun Γ w hh => by
  have hs : sent s x = x.at6 s.tok := by
    have : ¬ (x.kind = 3 ∧ sameC x.cur Cur.zero = true) := fun h => by omega
    simp [sent, this]
  refine (ask_any b s x mp fp fl fc rp rl rc hl Γ w hh).mono ?_
  rintro e w' ⟨⟨m, pb⟩, hx, rfl, hB⟩
  have hpb : pb = false := by
    have h3 : ¬ x.kind = 3 := by omega
    simpa [h3] using hx
  subst hpb
  exact ⟨m, trivial, by rw [hs], by rw [hs] at hB; exact hB⟩
theorem askP (b : Nat) (s : Cl) (x : CallV) (mp : Option Nat) (fp : Option Addr) (fl fc : Nat) (rp : Option Addr) (rl rc : Nat) (hl : 0 ≤ s.last ∧ s.last ≤ 1000000) (hk : x.kind = 3) (hc : x.cur = Cur.zero) :
    Does Try.prog 8 [ptr b, x.v] [clr b s mp fp fl fc rp rl rc, .asn (mapO mp ([] : List (Int × Value)))] (X := Nat) (fun _ => .tuple [(x.at3 s.tok s.cur).v, int (s.last + 1)].toArray)
      (fun q => [clr b { s with last := s.last + 1 } (some q) fp fl fc rp rl rc, .map q (mput ([] : List (Int × Value)) (s.last + 1) (askV true s.cur))]) (fun _ => True) := fun Γ w hh => by
  have hs : sent s x = x.at3 s.tok s.cur := by
    have : x.kind = 3 ∧ sameC x.cur Cur.zero = true := ⟨hk, by rw [hc]; rfl⟩
    rw [sent, if_pos this]
  refine (ask_any b s x mp fp fl fc rp rl rc hl Γ w hh).mono ?_
  rintro e w' ⟨⟨m, pb⟩, hx, rfl, hB⟩
  have hpb : pb = true := by
    have : sameC s.cur s.cur = true := by simp [sameC]
    simpa [hk, hs, this] using hx
  subst hpb
  exact ⟨m, trivial, by rw [hs], by rw [hs] at hB; exact hB⟩
attribute [local irreducible] Code.wp wpList Exit.then Exit.inBlock bodyPost Back MidQ G GP QStep VStep CStep SStep Does Post Reads
/-- An answer that was taken, its events none. -/
structure Ans where
  num : Int
  r : RepV
  p : Option Addr
  c : Nat
abbrev Ans.cells (a : Ans) : List Value := ansCells a.num a.r a.p 0 a.c
theorem ans_len (a : Ans) : a.cells.length = 15 := rfl
theorem kept0 (r : RepV) (p : Option Addr) (c : Nat) : Does Try.prog 25 [.agg (r.cells p 0 c).toArray] [] (X := Option Addr × Nat) (fun q => .agg (r.cells q.1 0 q.2).toArray) (fun q => [.own q.1 0 q.2 7 [] 53]) (fun _ => True) :=
  does_noC (kept r (C := .pure True) (p := p) (m := 0) (c := c) (news := []) SlAt.empty (by omega))
set_option maxHeartbeats 2000000 in
theorem replies (b : Nat) (s : Cl) (mp : Option Nat) (fp : Option Addr) (fl fc : Nat) (rp : Option Addr) (rc : Nat) (l : List Ans) (hl : l.length ≤ 100000) :
    Does Try.prog 19 [ptr b] [clr b s mp fp fl fc rp l.length rc, .own rp l.length rc 15 (l.flatMap Ans.cells) 74] (X := Option Addr × Nat) (fun q => .slice q.1 l.length q.2) (fun q => [clr b s mp fp fl fc rp l.length rc, .own rp l.length rc 15 (l.flatMap Ans.cells) 74]) (fun _ => True) := by
  refine fn_intro Try.func19 rfl Try.ntmps19 rfl (by simp only [argFr, Nat.zero_add, Nat.reduceAdd]; rfl) (fun Γ => ?_)
  repeat (first
    | (refine g_ops ?_; first | refine s_q ?_ | refine s_v ?_ | refine s_s ?_ | refine s_n (fun _ => ?_) | refine s_x ?_ | refine s_y ?_ | refine s_mq ?_ | refine s_app (fun _ _ => ?_) | refine s_mv ?_ | refine s_ms ?_ | refine s_b0 (fun _ => ?_) | ((fail_if_success refine g_lit rfl rfl rfl ?_); first | apply g_partM rfl rfl rfl | apply g_partMB rfl rfl rfl | fail))
    | refine g_seq ?_ | refine g_region ?_ | refine g_nil ?_ | refine g_then_normal ?_ | refine g_block ?_ | refine g_in_normal ?_ | refine g_retc ?_ | refine g_then_ret ?_
    | refine g_in_ret ?_ | refine g_exit ?_ | refine g_then_exit ?_ | refine g_in_exit ?_ | refine g_in_other rfl ?_ | refine g_skip ?_ | refine g_label ?_
    | refine g_cond_true rfl ?_ | refine g_cond_false rfl ?_ | exact s_m | intro _ | (refine gp_take ?_; first | refine p_q ?_ | refine p_x ?_ | refine p_mq ?_ | ((fail_if_success refine gp_lit rfl rfl rfl rfl ?_); first | apply gp_guard_dec rfl rfl rfl rfl | apply gp_guard rfl rfl rfl rfl | fail))
    | (refine gp_see ?_; first | refine p_f ?_ | refine p_sx ?_ | ((fail_if_success refine gp_lit rfl rfl rfl rfl ?_); first | apply gp_guard_dec rfl rfl rfl rfl | apply gp_guard rfl rfl rfl rfl | fail) | refine p_sq ?_)
    | (refine gp_one ?_; first | refine p_v ?_ | refine p_s ?_ | refine p_n (fun _ => ?_) | refine p_y ?_ | refine p_app (fun _ _ => ?_) | refine p_mv ?_ | refine p_ms ?_ | refine p_b0 (fun _ => ?_))
    | refine gp_done hd hk ?_ | intro _ | refine p_ta hd hk (fun _ _ _ hd hk => ?_))
  refine g_own_nil none 15 74 ?_
  refine g_loop (X := Nat × Option Addr × Nat × List Value) (fun x => [(12, int x.1), (11, int l.length), (10, .slice rp l.length rc), (2, .slice x.2.1 x.1 x.2.2.1)])
    (fun x => [.own x.2.1 x.1 x.2.2.1 15 x.2.2.2 74, clr b s mp fp fl fc rp l.length rc, .own rp l.length rc 15 (l.flatMap Ans.cells) 74]) (fun x => x.1 ≤ l.length) (fun x => l.length - x.1) (0, none, 0, []) (Nat.zero_le _) (by (repeat (first | exact FrSub.nil | refine FrSub.cons rfl ?_)); first | done | fail) (by (repeat (first | exact Take.nil | apply Take.cons | exact Sel.here | apply Sel.there)); first | done | fail) (fun x hx => ?_)
  obtain ⟨i, op, oc, os⟩ := x
  have hi : i ≤ l.length := hx
  repeat (first
    | (refine g_ops ?_; first | refine s_q ?_ | refine s_v ?_ | refine s_s ?_ | refine s_n (fun _ => ?_) | refine s_x ?_ | refine s_y ?_ | refine s_mq ?_ | refine s_app (fun _ _ => ?_) | refine s_mv ?_ | refine s_ms ?_ | refine s_b0 (fun _ => ?_) | ((fail_if_success refine g_lit rfl rfl rfl ?_); first | apply g_partM rfl rfl rfl | apply g_partMB rfl rfl rfl | fail))
    | refine g_seq ?_ | refine g_region ?_ | refine g_nil ?_ | refine g_then_normal ?_ | refine g_block ?_ | refine g_in_normal ?_ | refine g_retc ?_ | refine g_then_ret ?_
    | refine g_in_ret ?_ | refine g_exit ?_ | refine g_then_exit ?_ | refine g_in_exit ?_ | refine g_in_other rfl ?_ | refine g_skip ?_ | refine g_label ?_
    | refine g_cond_true rfl ?_ | refine g_cond_false rfl ?_ | exact s_m | intro _ | (refine gp_take ?_; first | refine p_q ?_ | refine p_x ?_ | refine p_mq ?_ | ((fail_if_success refine gp_lit rfl rfl rfl rfl ?_); first | apply gp_guard_dec rfl rfl rfl rfl | apply gp_guard rfl rfl rfl rfl | fail))
    | (refine gp_see ?_; first | refine p_f ?_ | refine p_sx ?_ | ((fail_if_success refine gp_lit rfl rfl rfl rfl ?_); first | apply gp_guard_dec rfl rfl rfl rfl | apply gp_guard rfl rfl rfl rfl | fail) | refine p_sq ?_)
    | (refine gp_one ?_; first | refine p_v ?_ | refine p_s ?_ | refine p_n (fun _ => ?_) | refine p_y ?_ | refine p_app (fun _ _ => ?_) | refine p_mv ?_ | refine p_ms ?_ | refine p_b0 (fun _ => ?_))
    | refine gp_done hd hk ?_ | intro _ | refine p_ta hd hk (fun _ _ _ hd hk => ?_))
  refine g_cond_dec rfl (fun h1 => ?_) (fun h1 => ?_)
  · have hi' : i < l.length := by simp only [] at h1; omega
    refine g_own (p := rp) (len := l.length) (cap := rc) (by (repeat (first | exact Sel.here | apply Sel.there)); first | done | fail) (fun _ _ h3 => ?_)
    obtain ⟨lb, rfl⟩ := h3 (by omega)
    have hx : l[i]? = some l[i] := by simp [hi']
    generalize l[i] = a at hx
    have hrow := own_at (b := lb) (len := l.length) (cap := rc) (e := 74) ans_len hx
    repeat (first
      | (refine g_ops ?_; first | refine s_q ?_ | refine s_v ?_ | refine s_s ?_ | refine s_n (fun _ => ?_) | refine s_x ?_ | refine s_y ?_ | refine s_mq ?_ | refine s_app (fun _ _ => ?_) | refine s_mv ?_ | refine s_ms ?_ | refine s_b0 (fun _ => ?_) | ((fail_if_success refine g_lit rfl rfl rfl ?_); first | apply g_partM rfl rfl rfl | apply g_partMB rfl rfl rfl | fail) | refine s_c (kept0 a.r a.p a.c) (fun _ _ => ?_))
      | refine g_seq ?_ | refine g_region ?_ | refine g_nil ?_ | refine g_then_normal ?_ | refine g_block ?_ | refine g_in_normal ?_ | refine g_retc ?_
      | refine g_then_ret ?_ | refine g_in_ret ?_ | refine g_exit ?_ | refine g_then_exit ?_ | refine g_in_exit ?_ | refine g_in_other rfl ?_ | refine g_skip ?_
      | refine g_label ?_ | refine g_cond_true rfl ?_ | refine g_cond_false rfl ?_ | exact s_m | intro _ | (refine gp_take ?_; first | refine p_q ?_ | refine p_x ?_ | refine p_mq ?_ | ((fail_if_success refine gp_lit rfl rfl rfl rfl ?_); first | apply gp_guard_dec rfl rfl rfl rfl | apply gp_guard rfl rfl rfl rfl | fail))
      | (refine gp_see ?_; first | refine p_f ?_ | refine p_sx ?_ | ((fail_if_success refine gp_lit rfl rfl rfl rfl ?_); first | apply gp_guard_dec rfl rfl rfl rfl | apply gp_guard rfl rfl rfl rfl | fail) | refine p_sq ?_)
      | (refine gp_one ?_; first | refine p_v ?_ | refine p_s ?_ | refine p_n (fun _ => ?_) | refine p_y ?_ | refine p_app (fun _ _ => ?_) | refine p_mv ?_ | refine p_ms ?_ | refine p_b0 (fun _ => ?_) | refine p_c (kept0 a.r a.p a.c) (fun _ _ => ?_))
      | refine gp_done hd hk ?_ | intro _ | refine p_ta hd hk (fun _ _ _ hd hk => ?_))
    rename_i q _ f1 f2
    exact g_again (i + 1, f1, f2, _) (by simp only []; omega) hi' (by (repeat (first | exact FrSub.nil | refine FrSub.cons rfl ?_)); first | done | fail) (by (repeat (first | exact Take.nil | apply Take.cons | exact Sel.here | apply Sel.there)); first | done | fail)
  · obtain rfl : i = l.length := by simp only [] at h1; omega
    repeat (first
      | (refine g_ops ?_; first | refine s_q ?_ | refine s_v ?_ | refine s_s ?_ | refine s_n (fun _ => ?_) | refine s_x ?_ | refine s_y ?_ | refine s_mq ?_ | refine s_app (fun _ _ => ?_) | refine s_mv ?_ | refine s_ms ?_ | refine s_b0 (fun _ => ?_) | ((fail_if_success refine g_lit rfl rfl rfl ?_); first | apply g_partM rfl rfl rfl | apply g_partMB rfl rfl rfl | fail))
      | refine g_seq ?_ | refine g_region ?_ | refine g_nil ?_ | refine g_then_normal ?_ | refine g_block ?_ | refine g_in_normal ?_ | refine g_retc ?_
      | refine g_then_ret ?_ | refine g_in_ret ?_ | refine g_exit ?_ | refine g_then_exit ?_ | refine g_in_exit ?_ | refine g_in_other rfl ?_ | refine g_skip ?_
      | refine g_label ?_ | refine g_cond_true rfl ?_ | refine g_cond_false rfl ?_ | exact s_m | intro _ | (refine gp_take ?_; first | refine p_q ?_ | refine p_x ?_ | refine p_mq ?_ | ((fail_if_success refine gp_lit rfl rfl rfl rfl ?_); first | apply gp_guard_dec rfl rfl rfl rfl | apply gp_guard rfl rfl rfl rfl | fail))
      | (refine gp_see ?_; first | refine p_f ?_ | refine p_sx ?_ | ((fail_if_success refine gp_lit rfl rfl rfl rfl ?_); first | apply gp_guard_dec rfl rfl rfl rfl | apply gp_guard rfl rfl rfl rfl | fail) | refine p_sq ?_)
      | (refine gp_one ?_; first | refine p_v ?_ | refine p_s ?_ | refine p_n (fun _ => ?_) | refine p_y ?_ | refine p_app (fun _ _ => ?_) | refine p_mv ?_ | refine p_ms ?_ | refine p_b0 (fun _ => ?_))
      | refine gp_done hd hk ?_ | intro _ | refine p_ta hd hk (fun _ _ _ hd hk => ?_))
    exact s_r (op, oc)
/-- Stamps of a list, where they stand. -/
def StampsAt (C : Chunk) (p : Option Addr) (l : List S3) : Prop := ∀ (i : Nat) (x : S3), l[i]? = some x → ∃ b o, p = some ⟨b, o, none⟩ ∧ ∀ (j : Nat) (v : Value), [Value.int .i64 x.w, Value.int .i64 x.l, Value.int .i64 x.n][j]? = some v → Reads C ⟨b, o + i * 3 + j, none⟩ v
theorem tok_if (t st : S3) (n : Int) (c : Cur) (h : (bif soundB st.w st.l st.n then decide (ltS t st) else false) = true) : tokOf ⟨n, t, c⟩ (repZ st) = st := by
  have h1 : soundB st.w st.l st.n = true := by cases hb : soundB st.w st.l st.n <;> simp [hb] at h ⊢
  have h2 : ltS t st := by rw [h1] at h; simpa using h
  show (if soundB st.w st.l st.n = true then maxS t st else t) = st
  rw [if_pos h1, maxS_eq, if_pos h2]
theorem tok_not (t st : S3) (n : Int) (c : Cur) (h : (bif soundB st.w st.l st.n then decide (ltS t st) else false) = false) : tokOf ⟨n, t, c⟩ (repZ st) = t := by
  show (if soundB st.w st.l st.n = true then maxS t st else t) = t
  by_cases h1 : soundB st.w st.l st.n = true
  · have h2 : ¬ ltS t st := by rw [h1] at h; simpa using h
    rw [if_pos h1, maxS_eq, if_neg h2]
  · rw [if_neg h1]
abbrev srow (b : Nat) (t : S3) : Chunk := .row b [int t.w, int t.l, int t.n] 25
attribute [local irreducible] tokOf soundB ltS maxS
set_option maxHeartbeats 4000000 in
theorem seen (W : World) (p : Option Addr) (l : List S3) (cap : Nat) (hs : StampsAt (Init W) p l) : Does1 Try.prog 6 [.slice p l.length cap] [Init W] (.bool true) := by
  refine fn_intro Try.func6 rfl Try.ntmps6 rfl (by simp only [argFr, Nat.zero_add, Nat.reduceAdd]; rfl) (fun Γ => ?_)
  repeat (first
    | (refine g_ops ?_; first | refine s_q ?_ | refine s_v ?_ | refine s_s ?_ | refine s_n (fun _ => ?_) | refine s_x ?_ | refine s_y ?_ | refine s_mq ?_ | refine s_app (fun _ _ => ?_) | refine s_mv ?_ | refine s_ms ?_ | refine s_b0 (fun _ => ?_) | ((fail_if_success refine g_lit rfl rfl rfl ?_); first | apply g_partM rfl rfl rfl | apply g_partMB rfl rfl rfl | fail) | refine s_k (awake) ?_ | refine s_c (new) (fun _ _ => ?_))
    | apply g_regB (id := 9) 40 | (apply g_drawB (id := 11) 53 (.take 0 (.take 1 (.take 2 (.see 3 [] (.see 4 [] (.take 5 (.see 6 [] (.take 7 (.take 8 (.take 9 (.see 10 [] (.see 11 [] (.take 12 .done))))))))))))) (by kernel_rfl); intro k hd hk)
    | refine g_draw (id := 13) (.take 0 (.see 1 [] (.see 2 [] (.take 3 .done)))) (by kernel_rfl) (take_all _) (fun k hd hk => ?_) | apply g_regB (id := 15) 2
    | refine g_seq ?_ | refine g_region ?_ | refine g_nil ?_ | refine g_then_normal ?_ | refine g_block ?_ | refine g_in_normal ?_ | refine g_retc ?_ | refine g_then_ret ?_
    | refine g_in_ret ?_ | refine g_exit ?_ | refine g_then_exit ?_ | refine g_in_exit ?_ | refine g_in_other rfl ?_ | refine g_skip ?_ | refine g_label ?_
    | refine g_cond_true rfl ?_ | refine g_cond_false rfl ?_ | exact s_m | intro _ | (refine gp_take ?_; first | refine p_q ?_ | refine p_x ?_ | refine p_mq ?_ | ((fail_if_success refine gp_lit rfl rfl rfl rfl ?_); first | apply gp_guard_dec rfl rfl rfl rfl | apply gp_guard rfl rfl rfl rfl | fail))
    | (refine gp_see ?_; first | refine p_f ?_ | refine p_sx ?_ | ((fail_if_success refine gp_lit rfl rfl rfl rfl ?_); first | apply gp_guard_dec rfl rfl rfl rfl | apply gp_guard rfl rfl rfl rfl | fail) | refine p_h (awake) hd hk ?_ | refine p_sq ?_)
    | (refine gp_one ?_; first | refine p_v ?_ | refine p_s ?_ | refine p_n (fun _ => ?_) | refine p_y ?_ | refine p_app (fun _ _ => ?_) | refine p_mv ?_ | refine p_ms ?_ | refine p_b0 (fun _ => ?_) | refine p_k (awake) ?_ | refine p_c (new) (fun _ _ => ?_))
    | refine gp_done hd hk ?_ | intro _ | refine p_ta hd hk (fun _ _ _ hd hk => ?_))
  refine g_cond_dec rfl (fun h => ?_) (fun h => ?_)
  · repeat (first
      | (refine g_ops ?_; first | refine s_q ?_ | refine s_v ?_ | refine s_s ?_ | refine s_n (fun _ => ?_) | refine s_x ?_ | refine s_y ?_ | refine s_mq ?_ | refine s_app (fun _ _ => ?_) | refine s_mv ?_ | refine s_ms ?_ | refine s_b0 (fun _ => ?_) | ((fail_if_success refine g_lit rfl rfl rfl ?_); first | apply g_partM rfl rfl rfl | apply g_partMB rfl rfl rfl | fail) | refine s_k (awake) ?_)
      | apply g_regB (id := 9) 40 | (apply g_drawB (id := 11) 53 (.take 0 (.take 1 (.take 2 (.see 3 [] (.see 4 [] (.take 5 (.see 6 [] (.take 7 (.take 8 (.take 9 (.see 10 [] (.see 11 [] (.take 12 .done))))))))))))) (by kernel_rfl); intro k hd hk)
      | refine g_draw (id := 13) (.take 0 (.see 1 [] (.see 2 [] (.take 3 .done)))) (by kernel_rfl) (take_all _) (fun k hd hk => ?_) | apply g_regB (id := 15) 2
      | refine g_seq ?_ | refine g_region ?_ | refine g_nil ?_ | refine g_then_normal ?_ | refine g_block ?_ | refine g_in_normal ?_ | refine g_retc ?_
      | refine g_then_ret ?_ | refine g_in_ret ?_ | refine g_exit ?_ | refine g_then_exit ?_ | refine g_in_exit ?_ | refine g_in_other rfl ?_ | refine g_skip ?_
      | refine g_label ?_ | refine g_cond_true rfl ?_ | refine g_cond_false rfl ?_ | exact s_m | intro _ | (refine gp_take ?_; first | refine p_q ?_ | refine p_x ?_ | refine p_mq ?_ | ((fail_if_success refine gp_lit rfl rfl rfl rfl ?_); first | apply gp_guard_dec rfl rfl rfl rfl | apply gp_guard rfl rfl rfl rfl | fail))
      | (refine gp_see ?_; first | refine p_f ?_ | refine p_sx ?_ | ((fail_if_success refine gp_lit rfl rfl rfl rfl ?_); first | apply gp_guard_dec rfl rfl rfl rfl | apply gp_guard rfl rfl rfl rfl | fail) | refine p_h (awake) hd hk ?_ | refine p_sq ?_)
      | (refine gp_one ?_; first | refine p_v ?_ | refine p_s ?_ | refine p_n (fun _ => ?_) | refine p_y ?_ | refine p_app (fun _ _ => ?_) | refine p_mv ?_ | refine p_ms ?_ | refine p_b0 (fun _ => ?_) | refine p_k (awake) ?_)
      | refine gp_done hd hk ?_ | intro _ | refine p_ta hd hk (fun _ _ _ hd hk => ?_))
    exact s_r ()
  · have hlen : (l.length : Int) ≤ 100 := by omega
    repeat (first
      | (refine g_ops ?_; first | refine s_q ?_ | refine s_v ?_ | refine s_s ?_ | refine s_n (fun _ => ?_) | refine s_x ?_ | refine s_y ?_ | refine s_mq ?_ | refine s_app (fun _ _ => ?_) | refine s_mv ?_ | refine s_ms ?_ | refine s_b0 (fun _ => ?_) | ((fail_if_success refine g_lit rfl rfl rfl ?_); first | apply g_partM rfl rfl rfl | apply g_partMB rfl rfl rfl | fail) | refine s_c (new) (fun _ _ => ?_))
      | (apply g_drawB (id := 11) 53 (.take 0 (.take 1 (.take 2 (.see 3 [] (.see 4 [] (.take 5 (.see 6 [] (.take 7 (.take 8 (.take 9 (.see 10 [] (.see 11 [] (.take 12 .done))))))))))))) (by kernel_rfl); intro k hd hk)
      | refine g_draw (id := 13) (.take 0 (.see 1 [] (.see 2 [] (.take 3 .done)))) (by kernel_rfl) (take_all _) (fun k hd hk => ?_) | refine g_seq ?_ | refine g_region ?_
      | refine g_nil ?_ | refine g_then_normal ?_ | refine g_block ?_ | refine g_in_normal ?_ | refine g_retc ?_ | refine g_then_ret ?_ | refine g_in_ret ?_
      | refine g_exit ?_ | refine g_then_exit ?_ | refine g_in_exit ?_ | refine g_in_other rfl ?_ | refine g_skip ?_ | refine g_label ?_ | refine g_cond_true rfl ?_
      | refine g_cond_false rfl ?_ | exact s_m | intro _ | (refine gp_take ?_; first | refine p_q ?_ | refine p_x ?_ | refine p_mq ?_ | ((fail_if_success refine gp_lit rfl rfl rfl rfl ?_); first | apply gp_guard_dec rfl rfl rfl rfl | apply gp_guard rfl rfl rfl rfl | fail))
      | (refine gp_see ?_; first | refine p_f ?_ | refine p_sx ?_ | ((fail_if_success refine gp_lit rfl rfl rfl rfl ?_); first | apply gp_guard_dec rfl rfl rfl rfl | apply gp_guard rfl rfl rfl rfl | fail) | refine p_sq ?_)
      | (refine gp_one ?_; first | refine p_v ?_ | refine p_s ?_ | refine p_n (fun _ => ?_) | refine p_y ?_ | refine p_app (fun _ _ => ?_) | refine p_mv ?_ | refine p_ms ?_ | refine p_b0 (fun _ => ?_) | refine p_c (new) (fun _ _ => ?_))
      | refine gp_done hd hk ?_ | intro _ | refine p_ta hd hk (fun _ _ _ hd hk => ?_))
    rename_i b _ tb
    refine g_emp (A := mapO none ([] : List (Int × Value))) rfl ?_
    refine g_loop (X := Nat × Option Nat × S3 × (Option Addr × Nat) × List Ans) (fun x => [(5, int x.1), (4, ptr tb), (3, ptr b), (2, .bool false), (0, .slice p l.length cap)])
      (fun x => [srow tb x.2.2.1, clr b ⟨x.1, x.2.2.1, Cur.zero⟩ x.2.1 none 0 0 x.2.2.2.1.1 x.1 x.2.2.2.1.2, .asn (mapO x.2.1 ([] : List (Int × Value))), .own x.2.2.2.1.1 x.1 x.2.2.2.1.2 15 (x.2.2.2.2.flatMap Ans.cells) 74, Init W, .own none 0 0 7 [] 53])
      (fun x => x.2.2.2.2.length = x.1 ∧ x.1 ≤ l.length) (fun x => l.length - x.1) (0, none, S3.zero, (none, 0), []) ⟨rfl, Nat.zero_le _⟩ (by (repeat (first | exact FrSub.nil | refine FrSub.cons rfl ?_)); first | done | fail) (by (repeat (first | exact Take.nil | apply Take.cons | exact Sel.here | apply Sel.there)); first | done | fail) (fun x hx => ?_)
    obtain ⟨i, mp, t, ⟨rp, rc⟩, an⟩ := x
    obtain ⟨hr, hi⟩ := hx
    have hr : an.length = i := hr
    have hi : i ≤ l.length := hi
    repeat (first
      | (refine g_ops ?_; first | refine s_q ?_ | refine s_v ?_ | refine s_s ?_ | refine s_n (fun _ => ?_) | refine s_x ?_ | refine s_y ?_ | refine s_mq ?_ | refine s_app (fun _ _ => ?_) | refine s_mv ?_ | refine s_ms ?_ | refine s_b0 (fun _ => ?_) | ((fail_if_success refine g_lit rfl rfl rfl ?_); first | apply g_partM rfl rfl rfl | apply g_partMB rfl rfl rfl | fail))
      | (apply g_drawB (id := 11) 53 (.take 0 (.take 1 (.take 2 (.see 3 [] (.see 4 [] (.take 5 (.see 6 [] (.take 7 (.take 8 (.take 9 (.see 10 [] (.see 11 [] (.take 12 .done))))))))))))) (by kernel_rfl); intro k hd hk)
      | refine g_draw (id := 13) (.take 0 (.see 1 [] (.see 2 [] (.take 3 .done)))) (by kernel_rfl) (take_all _) (fun k hd hk => ?_) | refine g_seq ?_ | refine g_region ?_
      | refine g_nil ?_ | refine g_then_normal ?_ | refine g_block ?_ | refine g_in_normal ?_ | refine g_retc ?_ | refine g_then_ret ?_ | refine g_in_ret ?_
      | refine g_exit ?_ | refine g_then_exit ?_ | refine g_in_exit ?_ | refine g_in_other rfl ?_ | refine g_skip ?_ | refine g_label ?_ | refine g_cond_true rfl ?_
      | refine g_cond_false rfl ?_ | exact s_m | intro _ | (refine gp_take ?_; first | refine p_q ?_ | refine p_x ?_ | refine p_mq ?_ | ((fail_if_success refine gp_lit rfl rfl rfl rfl ?_); first | apply gp_guard_dec rfl rfl rfl rfl | apply gp_guard rfl rfl rfl rfl | fail))
      | (refine gp_see ?_; first | refine p_f ?_ | refine p_sx ?_ | ((fail_if_success refine gp_lit rfl rfl rfl rfl ?_); first | apply gp_guard_dec rfl rfl rfl rfl | apply gp_guard rfl rfl rfl rfl | fail) | refine p_sq ?_)
      | (refine gp_one ?_; first | refine p_v ?_ | refine p_s ?_ | refine p_n (fun _ => ?_) | refine p_y ?_ | refine p_app (fun _ _ => ?_) | refine p_mv ?_ | refine p_ms ?_ | refine p_b0 (fun _ => ?_))
      | refine gp_done hd hk ?_ | intro _ | refine p_ta hd hk (fun _ _ _ hd hk => ?_))
    refine g_cond_dec rfl (fun h1 => ?_) (fun h1 => ?_)
    · have hi' : i < l.length := by simp only [] at h1; omega
      obtain ⟨lb, lo, rfl, hrow⟩ := hs i l[i] (by simp [hi'])
      generalize l[i] = st at hrow
      repeat (first
        | (refine g_ops ?_; first | refine s_qa ?_ | refine s_q ?_ | refine s_v ?_ | refine s_s ?_ | refine s_n (fun _ => ?_) | refine s_x ?_ | refine s_y ?_ | refine s_mq ?_ | refine s_app (fun _ _ => ?_) | refine s_mv ?_ | refine s_ms ?_ | refine s_b0 (fun _ => ?_) | ((fail_if_success refine g_lit rfl rfl rfl ?_); first | apply g_partM rfl rfl rfl | apply g_partMB rfl rfl rfl | fail) | refine s_c (ask6 b ⟨i, t, Cur.zero⟩ ⟨6, ⟨99, 0, 1⟩, ByteArray.empty, ByteArray.empty, 0, Cur.zero, ByteArray.empty, 0, 0, 0, 0, 0, 0⟩ mp none 0 0 rp i rc ⟨by simp only []; omega, by simp only []; omega⟩ rfl) (fun _ _ => ?_))
        | (apply g_drawB (id := 11) 53 (.take 0 (.take 1 (.take 2 (.see 3 [] (.see 4 [] (.take 5 (.see 6 [] (.take 7 (.take 8 (.take 9 (.see 10 [] (.see 11 [] (.take 12 .done))))))))))))) (by kernel_rfl); intro k hd hk)
        | refine g_draw (id := 13) (.take 0 (.see 1 [] (.see 2 [] (.take 3 .done)))) (by kernel_rfl) (take_all _) (fun k hd hk => ?_) | refine g_seq ?_
        | refine g_region ?_ | refine g_nil ?_ | refine g_then_normal ?_ | refine g_block ?_ | refine g_in_normal ?_ | refine g_retc ?_ | refine g_then_ret ?_
        | refine g_in_ret ?_ | refine g_exit ?_ | refine g_then_exit ?_ | refine g_in_exit ?_ | refine g_in_other rfl ?_ | refine g_skip ?_ | refine g_label ?_
        | refine g_cond_true rfl ?_ | refine g_cond_false rfl ?_ | exact s_m | intro _ | (refine gp_take ?_; first | refine p_qa ?_ | refine p_q ?_ | refine p_x ?_ | refine p_mq ?_ | ((fail_if_success refine gp_lit rfl rfl rfl rfl ?_); first | apply gp_guard_dec rfl rfl rfl rfl | apply gp_guard rfl rfl rfl rfl | fail))
        | (refine gp_see ?_; first | refine p_f ?_ | refine p_sx ?_ | ((fail_if_success refine gp_lit rfl rfl rfl rfl ?_); first | apply gp_guard_dec rfl rfl rfl rfl | apply gp_guard rfl rfl rfl rfl | fail) | refine p_sq ?_)
        | (refine gp_one ?_; first | refine p_v ?_ | refine p_s ?_ | refine p_n (fun _ => ?_) | refine p_y ?_ | refine p_app (fun _ _ => ?_) | refine p_mv ?_ | refine p_ms ?_ | refine p_b0 (fun _ => ?_) | refine p_c (ask6 b ⟨i, t, Cur.zero⟩ ⟨6, ⟨99, 0, 1⟩, ByteArray.empty, ByteArray.empty, 0, Cur.zero, ByteArray.empty, 0, 0, 0, 0, 0, 0⟩ mp none 0 0 rp i rc ⟨by simp only []; omega, by simp only []; omega⟩ rfl) (fun _ _ => ?_))
        | refine gp_done hd hk ?_ | intro _ | refine p_ta hd hk (fun _ _ _ hd hk => ?_))
      rename_i m _ xb
      repeat (first
        | (refine g_ops ?_; first | refine s_qa ?_ | refine s_q ?_ | refine s_v ?_ | refine s_s ?_ | refine s_n (fun _ => ?_) | refine s_x ?_ | refine s_y ?_ | refine s_mq ?_ | refine s_app (fun _ _ => ?_) | refine s_mv ?_ | refine s_ms ?_ | refine s_b0 (fun _ => ?_) | ((fail_if_success refine g_lit rfl rfl rfl ?_); first | apply g_partM rfl rfl rfl | apply g_partMB rfl rfl rfl | fail) | refine s_p (rsound st.w st.l st.n) ?_ | refine s_p (rless t st) ?_ | refine s_c (take_still0 b ⟨(i : Int) + 1, t, Cur.zero⟩ m (mput ([] : List (Int × Value)) ((i : Int) + 1) (askV false Cur.zero)) none 0 0 rp i rc (an.flatMap Ans.cells) ((i : Int) + 1) (repZ st) false Cur.zero (mget_self _ _ _) (by omega) rfl) (fun _ _ => ?_))
        | (apply g_drawB (id := 11) 53 (.take 0 (.take 1 (.take 2 (.see 3 [] (.see 4 [] (.take 5 (.see 6 [] (.take 7 (.take 8 (.take 9 (.see 10 [] (.see 11 [] (.take 12 .done))))))))))))) (by kernel_rfl); intro k hd hk)
        | refine g_draw (id := 13) (.take 0 (.see 1 [] (.see 2 [] (.take 3 .done)))) (by kernel_rfl) (take_all _) (fun k hd hk => ?_) | refine g_seq ?_
        | refine g_region ?_ | refine g_nil ?_ | refine g_then_normal ?_ | refine g_block ?_ | refine g_in_normal ?_ | refine g_retc ?_ | refine g_then_ret ?_
        | refine g_in_ret ?_ | refine g_exit ?_ | refine g_then_exit ?_ | refine g_in_exit ?_ | refine g_in_other rfl ?_ | refine g_skip ?_ | refine g_label ?_
        | refine g_cond_true rfl ?_ | refine g_cond_false rfl ?_ | exact s_m | intro _ | (refine gp_take ?_; first | refine p_qa ?_ | refine p_q ?_ | refine p_x ?_ | refine p_mq ?_ | ((fail_if_success refine gp_lit rfl rfl rfl rfl ?_); first | apply gp_guard_dec rfl rfl rfl rfl | apply gp_guard rfl rfl rfl rfl | fail) | refine p_p (rsound st.w st.l st.n) ?_ | refine p_p (rless t st) ?_)
        | (refine gp_see ?_; first | refine p_f ?_ | refine p_sx ?_ | ((fail_if_success refine gp_lit rfl rfl rfl rfl ?_); first | apply gp_guard_dec rfl rfl rfl rfl | apply gp_guard rfl rfl rfl rfl | fail) | refine p_sp (rsound st.w st.l st.n) ?_ | refine p_sp (rless t st) ?_ | refine p_sq ?_)
        | (refine gp_one ?_; first | refine p_v ?_ | refine p_s ?_ | refine p_n (fun _ => ?_) | refine p_y ?_ | refine p_app (fun _ _ => ?_) | refine p_mv ?_ | refine p_ms ?_ | refine p_b0 (fun _ => ?_) | refine p_c (take_still0 b ⟨(i : Int) + 1, t, Cur.zero⟩ m (mput ([] : List (Int × Value)) ((i : Int) + 1) (askV false Cur.zero)) none 0 0 rp i rc (an.flatMap Ans.cells) ((i : Int) + 1) (repZ st) false Cur.zero (mget_self _ _ _) (by omega) rfl) (fun _ _ => ?_))
        | refine gp_done hd hk ?_ | intro _ | refine p_ta hd hk (fun _ _ _ hd hk => ?_))
      rename_i q _
      obtain ⟨⟨q1, q2⟩, ⟨e1, e2⟩⟩ := q
      rw [mdel_one]
      refine g_cond rfl (fun h2 => ?_) (fun h2 => ?_)
      · rw [tok_if t st _ _ h2]
        repeat (first
          | (refine g_ops ?_; first | refine s_qa ?_ | refine s_q ?_ | refine s_v ?_ | refine s_s ?_ | refine s_n (fun _ => ?_) | refine s_x ?_ | refine s_y ?_ | refine s_mq ?_ | refine s_app (fun _ _ => ?_) | refine s_mv ?_ | refine s_ms ?_ | refine s_b0 (fun _ => ?_) | ((fail_if_success refine g_lit rfl rfl rfl ?_); first | apply g_partM rfl rfl rfl | apply g_partMB rfl rfl rfl | fail) | refine s_k (token b ⟨(i : Int) + 1, st, Cur.zero⟩ (some m) none 0 0 q1 (i + 1) q2) ?_)
          | (apply g_drawB (id := 11) 53 (.take 0 (.take 1 (.take 2 (.see 3 [] (.see 4 [] (.take 5 (.see 6 [] (.take 7 (.take 8 (.take 9 (.see 10 [] (.see 11 [] (.take 12 .done))))))))))))) (by kernel_rfl); intro k hd hk)
          | refine g_draw (id := 13) (.take 0 (.see 1 [] (.see 2 [] (.take 3 .done)))) (by kernel_rfl) (take_all _) (fun k hd hk => ?_) | refine g_seq ?_
          | refine g_region ?_ | refine g_nil ?_ | refine g_then_normal ?_ | refine g_block ?_ | refine g_in_normal ?_ | refine g_retc ?_ | refine g_then_ret ?_
          | refine g_in_ret ?_ | refine g_exit ?_ | refine g_then_exit ?_ | refine g_in_exit ?_ | refine g_in_other rfl ?_ | refine g_skip ?_ | refine g_label ?_
          | refine g_cond_true rfl ?_ | refine g_cond_false rfl ?_ | exact s_m | intro _ | (refine gp_take ?_; first | refine p_qa ?_ | refine p_q ?_ | refine p_x ?_ | refine p_mq ?_ | ((fail_if_success refine gp_lit rfl rfl rfl rfl ?_); first | apply gp_guard_dec rfl rfl rfl rfl | apply gp_guard rfl rfl rfl rfl | fail))
          | (refine gp_see ?_; first | refine p_f ?_ | refine p_sx ?_ | ((fail_if_success refine gp_lit rfl rfl rfl rfl ?_); first | apply gp_guard_dec rfl rfl rfl rfl | apply gp_guard rfl rfl rfl rfl | fail) | refine p_h (token b ⟨(i : Int) + 1, st, Cur.zero⟩ (some m) none 0 0 q1 (i + 1) q2) hd hk ?_ | refine p_sq ?_)
          | (refine gp_one ?_; first | refine p_v ?_ | refine p_s ?_ | refine p_n (fun _ => ?_) | refine p_y ?_ | refine p_app (fun _ _ => ?_) | refine p_mv ?_ | refine p_ms ?_ | refine p_b0 (fun _ => ?_) | refine p_k (token b ⟨(i : Int) + 1, st, Cur.zero⟩ (some m) none 0 0 q1 (i + 1) q2) ?_)
          | refine gp_done hd hk ?_ | intro _ | refine p_ta hd hk (fun _ _ _ hd hk => ?_))
        exact g_again (i + 1, some m, st, (q1, q2), an ++ [⟨(i : Int) + 1, repZ st, e1, e2⟩]) (by simp only []; omega) ⟨by simp [hr], hi'⟩ (by (repeat (first | exact FrSub.nil | refine FrSub.cons rfl ?_)); first | done | fail) (by simp only [flat_snoc]; exact (by (repeat (first | exact Take.nil | apply Take.cons | exact Sel.here | apply Sel.there)); first | done | fail))
      · rw [tok_not t st _ _ h2]
        repeat (first
          | (refine g_ops ?_; first | refine s_qa ?_ | refine s_q ?_ | refine s_v ?_ | refine s_s ?_ | refine s_n (fun _ => ?_) | refine s_x ?_ | refine s_y ?_ | refine s_mq ?_ | refine s_app (fun _ _ => ?_) | refine s_mv ?_ | refine s_ms ?_ | refine s_b0 (fun _ => ?_) | ((fail_if_success refine g_lit rfl rfl rfl ?_); first | apply g_partM rfl rfl rfl | apply g_partMB rfl rfl rfl | fail) | refine s_k (token b ⟨(i : Int) + 1, t, Cur.zero⟩ (some m) none 0 0 q1 (i + 1) q2) ?_)
          | (apply g_drawB (id := 11) 53 (.take 0 (.take 1 (.take 2 (.see 3 [] (.see 4 [] (.take 5 (.see 6 [] (.take 7 (.take 8 (.take 9 (.see 10 [] (.see 11 [] (.take 12 .done))))))))))))) (by kernel_rfl); intro k hd hk)
          | refine g_draw (id := 13) (.take 0 (.see 1 [] (.see 2 [] (.take 3 .done)))) (by kernel_rfl) (take_all _) (fun k hd hk => ?_) | refine g_seq ?_
          | refine g_region ?_ | refine g_nil ?_ | refine g_then_normal ?_ | refine g_block ?_ | refine g_in_normal ?_ | refine g_retc ?_ | refine g_then_ret ?_
          | refine g_in_ret ?_ | refine g_exit ?_ | refine g_then_exit ?_ | refine g_in_exit ?_ | refine g_in_other rfl ?_ | refine g_skip ?_ | refine g_label ?_
          | refine g_cond_true rfl ?_ | refine g_cond_false rfl ?_ | exact s_m | intro _ | (refine gp_take ?_; first | refine p_qa ?_ | refine p_q ?_ | refine p_x ?_ | refine p_mq ?_ | ((fail_if_success refine gp_lit rfl rfl rfl rfl ?_); first | apply gp_guard_dec rfl rfl rfl rfl | apply gp_guard rfl rfl rfl rfl | fail))
          | (refine gp_see ?_; first | refine p_f ?_ | refine p_sx ?_ | ((fail_if_success refine gp_lit rfl rfl rfl rfl ?_); first | apply gp_guard_dec rfl rfl rfl rfl | apply gp_guard rfl rfl rfl rfl | fail) | refine p_h (token b ⟨(i : Int) + 1, t, Cur.zero⟩ (some m) none 0 0 q1 (i + 1) q2) hd hk ?_ | refine p_sq ?_)
          | (refine gp_one ?_; first | refine p_v ?_ | refine p_s ?_ | refine p_n (fun _ => ?_) | refine p_y ?_ | refine p_app (fun _ _ => ?_) | refine p_mv ?_ | refine p_ms ?_ | refine p_b0 (fun _ => ?_) | refine p_k (token b ⟨(i : Int) + 1, t, Cur.zero⟩ (some m) none 0 0 q1 (i + 1) q2) ?_)
          | refine gp_done hd hk ?_ | intro _ | refine p_ta hd hk (fun _ _ _ hd hk => ?_))
        exact g_again (i + 1, some m, t, (q1, q2), an ++ [⟨(i : Int) + 1, repZ st, e1, e2⟩]) (by simp only []; omega) ⟨by simp [hr], hi'⟩ (by (repeat (first | exact FrSub.nil | refine FrSub.cons rfl ?_)); first | done | fail) (by simp only [flat_snoc]; exact (by (repeat (first | exact Take.nil | apply Take.cons | exact Sel.here | apply Sel.there)); first | done | fail))
    · subst hr
      have heq : ((an.length : Nat) : Int) = ((l.length : Nat) : Int) := by simp only [] at h1; omega
      repeat (first
        | (refine g_ops ?_; first | refine s_qe ?_ | refine s_q ?_ | refine s_v ?_ | refine s_s ?_ | refine s_n (fun _ => ?_) | refine s_x ?_ | refine s_y ?_ | refine s_mq ?_ | refine s_app (fun _ _ => ?_) | refine s_mv ?_ | refine s_ms ?_ | refine s_b0 (fun _ => ?_) | ((fail_if_success refine g_lit rfl rfl rfl ?_); first | apply g_partM rfl rfl rfl | apply g_partMB rfl rfl rfl | fail) | refine s_k (awake) ?_ | refine s_c (replies b ⟨an.length, t, Cur.zero⟩ mp none 0 0 rp rc an (by omega)) (fun _ _ => ?_) | refine s_c (feed b ⟨an.length, t, Cur.zero⟩ mp none 0 0 [] rp an.length rc (by omega)) (fun _ _ => ?_))
        | apply g_regB (id := 9) 40 | (apply g_drawB (id := 11) 53 (.take 0 (.take 1 (.take 2 (.see 3 [] (.see 4 [] (.take 5 (.see 6 [] (.take 7 (.take 8 (.take 9 (.see 10 [] (.see 11 [] (.take 12 .done))))))))))))) (by kernel_rfl); intro k hd hk)
        | refine g_draw (id := 13) (.take 0 (.see 1 [] (.see 2 [] (.take 3 .done)))) (by kernel_rfl) (take_all _) (fun k hd hk => ?_) | refine g_seq ?_
        | refine g_region ?_ | refine g_nil ?_ | refine g_then_normal ?_ | refine g_block ?_ | refine g_in_normal ?_ | refine g_retc ?_ | refine g_then_ret ?_
        | refine g_in_ret ?_ | refine g_exit ?_ | refine g_then_exit ?_ | refine g_in_exit ?_ | refine g_in_other rfl ?_ | refine g_skip ?_ | refine g_label ?_
        | refine g_cond_true rfl ?_ | refine g_cond_false rfl ?_ | exact s_m | intro _ | (refine gp_take ?_; first | refine p_qe ?_ | refine p_q ?_ | refine p_x ?_ | refine p_mq ?_ | ((fail_if_success refine gp_lit rfl rfl rfl rfl ?_); first | apply gp_guard_dec rfl rfl rfl rfl | apply gp_guard rfl rfl rfl rfl | fail))
        | (refine gp_see ?_; first | refine p_f ?_ | refine p_sx ?_ | ((fail_if_success refine gp_lit rfl rfl rfl rfl ?_); first | apply gp_guard_dec rfl rfl rfl rfl | apply gp_guard rfl rfl rfl rfl | fail) | refine p_h (awake) hd hk ?_ | refine p_sq ?_)
        | (refine gp_one ?_; first | refine p_v ?_ | refine p_s ?_ | refine p_n (fun _ => ?_) | refine p_y ?_ | refine p_app (fun _ _ => ?_) | refine p_mv ?_ | refine p_ms ?_ | refine p_b0 (fun _ => ?_) | refine p_k (awake) ?_ | refine p_c (replies b ⟨an.length, t, Cur.zero⟩ mp none 0 0 rp rc an (by omega)) (fun _ _ => ?_) | refine p_c (feed b ⟨an.length, t, Cur.zero⟩ mp none 0 0 [] rp an.length rc (by omega)) (fun _ _ => ?_))
        | refine gp_done hd hk ?_ | intro _ | refine p_ta hd hk (fun _ _ _ hd hk => ?_))
      exact s_r ()
end Go.Proofs.Ytkejdilmdpgbpaa
