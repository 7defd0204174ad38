/- Contracts: what the client of the program tells: Token, Cursor, Feed, Replies. -/
import Derived.Test.YtkejdilmdpgbpaaPlaC
set_option linter.unusedSimpArgs false
set_option linter.unusedVariables false
namespace Go.Sl
theorem slAt_own {q : Option Addr} {len c n : Nat} {xs : List Value} {e : TypeId} (hl : xs.length = len * n) (ho : xs.all (·.oneCell') = true) (h : 0 < len → ∃ b, q = some ⟨b, 0, none⟩) : SlAt (.own q len c n xs e) n q len xs := by
  refine ⟨hl, ho, fun e => ?_, fun j v hv => ?_⟩
  · by_cases h0 : 0 < len
    · obtain ⟨b, hb⟩ := h h0
      rw [hb] at e; cases e
    · omega
  · have hj := (List.getElem?_eq_some_iff.1 hv).1
    have h0 : 0 < len := by
      by_cases h0 : 0 < len
      · exact h0
      · have : len = 0 := by omega
        rw [hl, this, Nat.zero_mul] at hj; omega
    obtain ⟨b, rfl⟩ := h h0
    exact ⟨b, 0, rfl, by simpa using reads_own hv⟩
end Go.Sl
namespace Go.Proofs.Ytkejdilmdpgbpaa
open Go.Sl facts
theorem ev_one (l : List Ev) : (l.flatMap Ev.cells).all (·.oneCell') = true := by
  rw [List.all_eq_true]
  intro v hv
  obtain ⟨x, _, hv⟩ := List.mem_flatMap.1 hv
  have : x.cells.all (·.oneCell') = true := rfl
  exact List.all_eq_true.1 this v hv
attribute [local irreducible] Code.wp wpList Exit.then Exit.inBlock bodyPost Back MidQ G GP QStep VStep CStep SStep Does Post Reads
abbrev Cur.cells (c : Cur) : List Value := [int c.s.w, int c.s.l, int c.s.n, int c.i, .string c.t]
theorem token_ (b : Nat) (s : Cl) (mp : Option Nat) (fp : Option Addr) (fl fc : Nat) (rp : Option Addr) (rl rc : Nat) : Does1 Try.prog 10 [ptr b] [clr b s mp fp fl fc rp rl rc] (.agg [int s.tok.w, int s.tok.l, int s.tok.n].toArray) := by
  refine fn_intro Try.func10 rfl Try.ntmps10 rfl (by simp only [argFr, Nat.zero_add, Nat.reduceAdd]; rfl) (fun Γ => ?_)
  repeat (first
    | (refine g_ops ?_; first | refine s_q ?_ | refine s_v ?_ | refine s_s ?_ | refine s_n (fun _ => ?_) | refine s_x ?_ | refine s_y ?_ | refine s_mq ?_ | refine s_app (fun _ _ => ?_) | refine s_mv ?_ | refine s_ms ?_ | refine s_b0 (fun _ => ?_) | ((fail_if_success refine g_lit rfl rfl rfl ?_); first | apply g_partM rfl rfl rfl | apply g_partMB rfl rfl rfl | fail))
    | refine g_seq ?_ | refine g_region ?_ | refine g_nil ?_ | refine g_then_normal ?_ | refine g_block ?_ | refine g_in_normal ?_ | refine g_retc ?_ | refine g_then_ret ?_
    | refine g_in_ret ?_ | refine g_exit ?_ | refine g_then_exit ?_ | refine g_in_exit ?_ | refine g_in_other rfl ?_ | refine g_skip ?_ | refine g_label ?_
    | refine g_cond_true rfl ?_ | refine g_cond_false rfl ?_ | exact s_m | intro _)
  exact g_ret () rfl (by (repeat (first | exact RVs.nil | apply RVs.tmp rfl | apply RVs.cellA rfl (by (repeat (first | exact Sel.here | apply Sel.there)); first | done | fail) (by (repeat (first | exact Cut.zero | apply Cut.take | apply Cut.skip)); first | done | fail) | apply RVs.cell1 rfl (by (repeat (first | exact Sel.here | apply Sel.there)); first | done | fail) rfl)); first | done | fail) (by (repeat (first | exact Take.nil | apply Take.cons | exact Sel.here | apply Sel.there)); first | done | fail) rfl trivial
theorem cursor_ (b : Nat) (s : Cl) (mp : Option Nat) (fp : Option Addr) (fl fc : Nat) (rp : Option Addr) (rl rc : Nat) : Does1 Try.prog 16 [ptr b] [clr b s mp fp fl fc rp rl rc] (.agg s.cur.cells.toArray) := by
  refine fn_intro Try.func16 rfl Try.ntmps16 rfl (by simp only [argFr, Nat.zero_add, Nat.reduceAdd]; rfl) (fun Γ => ?_)
  repeat (first
    | (refine g_ops ?_; first | refine s_q ?_ | refine s_v ?_ | refine s_s ?_ | refine s_n (fun _ => ?_) | refine s_x ?_ | refine s_y ?_ | refine s_mq ?_ | refine s_app (fun _ _ => ?_) | refine s_mv ?_ | refine s_ms ?_ | refine s_b0 (fun _ => ?_) | ((fail_if_success refine g_lit rfl rfl rfl ?_); first | apply g_partM rfl rfl rfl | apply g_partMB rfl rfl rfl | fail))
    | refine g_seq ?_ | refine g_region ?_ | refine g_nil ?_ | refine g_then_normal ?_ | refine g_block ?_ | refine g_in_normal ?_ | refine g_retc ?_ | refine g_then_ret ?_
    | refine g_in_ret ?_ | refine g_exit ?_ | refine g_then_exit ?_ | refine g_in_exit ?_ | refine g_in_other rfl ?_ | refine g_skip ?_ | refine g_label ?_
    | refine g_cond_true rfl ?_ | refine g_cond_false rfl ?_ | exact s_m | intro _)
  exact g_ret () rfl (by (repeat (first | exact RVs.nil | apply RVs.tmp rfl | apply RVs.cellA rfl (by (repeat (first | exact Sel.here | apply Sel.there)); first | done | fail) (by (repeat (first | exact Cut.zero | apply Cut.take | apply Cut.skip)); first | done | fail) | apply RVs.cell1 rfl (by (repeat (first | exact Sel.here | apply Sel.there)); first | done | fail) rfl)); first | done | fail) (by (repeat (first | exact Take.nil | apply Take.cons | exact Sel.here | apply Sel.there)); first | done | fail) rfl trivial
theorem feed_ (b : Nat) (s : Cl) (mp : Option Nat) (fp : Option Addr) (fc : Nat) (fs : List Ev) (rp : Option Addr) (rl rc : Nat) (hl : fs.length ≤ 1000000000) : Does Try.prog 11 [ptr b] [clr b s mp fp fs.length fc rp rl rc, .own fp fs.length fc 7 (fs.flatMap Ev.cells) 53] (X := Option Addr × Nat) (fun q => .slice q.1 fs.length q.2)
    (fun q => [.own q.1 fs.length q.2 7 (fs.flatMap Ev.cells) 53, clr b s mp fp fs.length fc rp rl rc, .own fp fs.length fc 7 (fs.flatMap Ev.cells) 53]) (fun _ => True) := by
  refine fn_intro Try.func11 rfl Try.ntmps11 rfl (by simp only [argFr, Nat.zero_add, Nat.reduceAdd]; rfl) (fun Γ => ?_)
  refine g_own (p := fp) (len := fs.length) (cap := fc) (n := 7) (xs := fs.flatMap Ev.cells) (e := 53) (by (repeat (first | exact Sel.here | apply Sel.there)); first | done | fail) (fun hql _ hqe => ?_)
  have hSe := slAt_own (c := fc) (e := 53) hql (ev_one fs) hqe
  repeat (first
    | (refine g_ops ?_; first | refine s_q ?_ | refine s_v ?_ | refine s_s ?_ | refine s_n (fun _ => ?_) | refine s_x ?_ | refine s_y ?_ | refine s_mq ?_ | refine s_app (fun _ _ => ?_) | refine s_mv ?_ | refine s_ms ?_ | refine s_b0 (fun _ => ?_) | ((fail_if_success refine g_lit rfl rfl rfl ?_); first | apply g_partM rfl rfl rfl | apply g_partMB rfl rfl rfl | fail) | refine s_c (clone_evs hSe hl) (fun _ _ => ?_))
    | refine g_seq ?_ | refine g_region ?_ | refine g_nil ?_ | refine g_then_normal ?_ | refine g_block ?_ | refine g_in_normal ?_ | refine g_retc ?_ | refine g_then_ret ?_
    | refine g_in_ret ?_ | refine g_exit ?_ | refine g_then_exit ?_ | refine g_in_exit ?_ | refine g_in_other rfl ?_ | refine g_skip ?_ | refine g_label ?_
    | refine g_cond_true rfl ?_ | refine g_cond_false rfl ?_ | exact s_m | intro _)
  rename_i q _
  obtain ⟨q1, q2⟩ := q
  exact g_ret (q1, q2) rfl (by (repeat (first | exact RVs.nil | apply RVs.tmp rfl | apply RVs.cellA rfl (by (repeat (first | exact Sel.here | apply Sel.there)); first | done | fail) (by (repeat (first | exact Cut.zero | apply Cut.take | apply Cut.skip)); first | done | fail) | apply RVs.cell1 rfl (by (repeat (first | exact Sel.here | apply Sel.there)); first | done | fail) rfl)); first | done | fail) (by (repeat (first | exact Take.nil | apply Take.cons | exact Sel.here | apply Sel.there)); first | done | fail) rfl trivial
structure RpX where
  i : Nat
  q : Option Addr
  c : Nat
  o : List Ans
  H : HP
structure RpY where
  q : Option Addr
  c : Nat
  o : List Ans
  H : HP
/-- What an answer says. -/
def Ans.d (a : Ans) : Int × RepV × List Ev := (a.num, a.r.v, a.r.evs)
set_option maxHeartbeats 8000000 in
theorem replies_ (b : Nat) (s : Cl) (mp : Option Nat) (fp : Option Addr) (fl fc : Nat) (rp : Option Addr) (rc : Nat) (as_ : List Ans) (hal : as_.length ≤ 1000000000) {H : HP} (hA : ∀ a ∈ as_, RpAt (Pile H) a.r) :
    Does Try.prog 19 [ptr b] [clr b s mp fp fl fc rp as_.length rc, .own rp as_.length rc 15 (as_.flatMap Ans.cells) 74, Pile H] (X := RpY) (fun y => .slice y.q y.o.length y.c)
      (fun y => [.own y.q y.o.length y.c 15 (y.o.flatMap Ans.cells) 74, clr b s mp fp fl fc rp as_.length rc, .own rp as_.length rc 15 (as_.flatMap Ans.cells) 74, Pile y.H])
      (fun y => HP.sub H y.H ∧ (∀ a ∈ y.o, RpAt (Pile y.H) a.r) ∧ y.o.map Ans.d = as_.map Ans.d) := by
  refine fn_intro Try.func19 rfl Try.ntmps19 rfl (by simp only [argFr, Nat.zero_add, Nat.reduceAdd]; rfl) (fun Γ => ?_)
  repeat (first
    | (refine g_ops ?_; first | refine s_q ?_ | refine s_v ?_ | refine s_s ?_ | refine s_n (fun _ => ?_) | refine s_x ?_ | refine s_y ?_ | refine s_mq ?_ | refine s_app (fun _ _ => ?_) | refine s_mv ?_ | refine s_ms ?_ | refine s_b0 (fun _ => ?_) | ((fail_if_success refine g_lit rfl rfl rfl ?_); first | apply g_partM rfl rfl rfl | apply g_partMB rfl rfl rfl | fail))
    | refine g_seq ?_ | refine g_region ?_ | refine g_nil ?_ | refine g_then_normal ?_ | refine g_block ?_ | refine g_in_normal ?_ | refine g_retc ?_ | refine g_then_ret ?_
    | refine g_in_ret ?_ | refine g_exit ?_ | refine g_then_exit ?_ | refine g_in_exit ?_ | refine g_in_other rfl ?_ | refine g_skip ?_ | refine g_label ?_
    | refine g_cond_true rfl ?_ | refine g_cond_false rfl ?_ | exact s_m | intro _)
  refine g_own (p := rp) (len := as_.length) (cap := rc) (n := 15) (xs := as_.flatMap Ans.cells) (e := 74) (by (repeat (first | exact Sel.here | apply Sel.there)); first | done | fail) (fun _ _ hq => ?_)
  refine g_own_nil none 15 74 ?_
  refine g_loop (X := RpX) (fun y => [(0, ptr b), (2, .slice y.q y.o.length y.c), (10, .slice rp as_.length rc), (11, int as_.length), (12, int y.i)])
    (fun y => [.own y.q y.o.length y.c 15 (y.o.flatMap Ans.cells) 74, .own rp as_.length rc 15 (as_.flatMap Ans.cells) 74, clr b s mp fp fl fc rp as_.length rc, Pile y.H])
    (fun y => y.i ≤ as_.length ∧ y.o.length = y.i ∧ HP.sub H y.H ∧ (∀ a ∈ y.o, RpAt (Pile y.H) a.r) ∧ y.o.map Ans.d = (as_.take y.i).map Ans.d) (fun y => as_.length - y.i) ⟨0, none, 0, [], H⟩ ⟨Nat.zero_le _, rfl, HP.sub.refl _, (fun a ha => by cases ha), rfl⟩ (by (repeat (first | exact FrSub.nil | refine FrSub.cons rfl ?_)); first | done | fail) (by (repeat (first | exact Take.nil | apply Take.cons | exact Sel.here | apply Sel.there)); first | done | fail) (fun y hy => ?_)
  obtain ⟨i, q, c, o, H1⟩ := y
  obtain ⟨hi, hol, hs1, ho, hd⟩ := hy
  dsimp only at hi hol hs1 ho hd ⊢
  repeat (first
    | (refine g_ops ?_; first | refine s_q ?_ | refine s_v ?_ | refine s_s ?_ | refine s_n (fun _ => ?_) | refine s_x ?_ | refine s_y ?_ | refine s_mq ?_ | refine s_app (fun _ _ => ?_) | refine s_mv ?_ | refine s_ms ?_ | refine s_b0 (fun _ => ?_) | ((fail_if_success refine g_lit rfl rfl rfl ?_); first | apply g_partM rfl rfl rfl | apply g_partMB rfl rfl rfl | fail))
    | refine g_seq ?_ | refine g_region ?_ | refine g_nil ?_ | refine g_then_normal ?_ | refine g_block ?_ | refine g_in_normal ?_ | refine g_retc ?_ | refine g_then_ret ?_
    | refine g_in_ret ?_ | refine g_exit ?_ | refine g_then_exit ?_ | refine g_in_exit ?_ | refine g_in_other rfl ?_ | refine g_skip ?_ | refine g_label ?_
    | refine g_cond_true rfl ?_ | refine g_cond_false rfl ?_ | exact s_m | intro _)
  refine g_cond_dec rfl (fun h => ?_) (fun h => ?_)
  · have hi' : i < as_.length := by omega
    obtain ⟨ab, rfl⟩ := hq (by omega)
    have hrow := own_at (b := ab) (len := as_.length) (cap := rc) (e := 74) ans_len (l := as_) (i := i) (a := as_[i]) (by simp [hi'])
    have hai := (hA as_[i] (List.getElem_mem _)).grow hs1
    have htk : (as_.take (i + 1)).map Ans.d = (as_.take i).map Ans.d ++ [as_[i].d] := by rw [List.take_succ_eq_append_getElem hi', List.map_append]; rfl
    generalize as_[i] = a at hrow hai htk
    obtain ⟨num, r⟩ := a
    have hke := kept_ r hai
    repeat (first
      | (refine g_ops ?_; first | refine s_q ?_ | refine s_v ?_ | refine s_s ?_ | refine s_n (fun _ => ?_) | refine s_x ?_ | refine s_y ?_ | refine s_mq ?_ | refine s_app (fun _ _ => ?_) | refine s_mv ?_ | refine s_ms ?_ | refine s_b0 (fun _ => ?_) | ((fail_if_success refine g_lit rfl rfl rfl ?_); first | apply g_partM rfl rfl rfl | apply g_partMB rfl rfl rfl | fail) | refine s_c (hke) (fun _ _ => ?_))
      | refine g_seq ?_ | refine g_region ?_ | refine g_nil ?_ | refine g_then_normal ?_ | refine g_block ?_ | refine g_in_normal ?_ | refine g_retc ?_
      | refine g_then_ret ?_ | refine g_in_ret ?_ | refine g_exit ?_ | refine g_then_exit ?_ | refine g_in_exit ?_ | refine g_in_other rfl ?_ | refine g_skip ?_
      | refine g_label ?_ | refine g_cond_true rfl ?_ | refine g_cond_false rfl ?_ | exact s_m | intro _)
    rename_i b4 y hy b22 q2 c2
    obtain ⟨r', H2⟩ := y
    obtain ⟨hs2, hr', hv, he⟩ := hy
    dsimp only at hs2 hr' hv he ⊢
    rw [show o.flatMap Ans.cells ++ Ans.cells ⟨num, r'⟩ = (o ++ [(⟨num, r'⟩ : Ans)]).flatMap Ans.cells by simp, show o.length + 1 = (o ++ [(⟨num, r'⟩ : Ans)]).length by simp]
    refine g_as 12 (v' := int ((i + 1 : Nat) : Int)) rfl (congrArg (Value.int .i64) (by push_cast; rfl)) ?_
    exact g_again ⟨i + 1, q2, c2, o ++ [(⟨num, r'⟩ : Ans)], H2⟩ (by simp only; omega) ⟨hi', by simp only [List.length_append, List.length_cons, List.length_nil]; omega, hs1.trans hs2, fun a ha => by
      rcases List.mem_append.1 ha with ha | ha
      · exact (ho a ha).grow hs2
      · rw [List.mem_singleton.1 ha]; exact hr', by
      simp only
      rw [htk, ← hd, List.map_append]
      simp [Ans.d, hv, he]⟩ (by (repeat (first | exact FrSub.nil | refine FrSub.cons rfl ?_)); first | done | fail) (by (repeat (first | exact Take.nil | apply Take.cons | exact Sel.here | apply Sel.there)); first | done | fail)
  · obtain rfl : i = as_.length := by omega
    rw [List.take_length] at hd
    repeat (first
      | (refine g_ops ?_; first | refine s_q ?_ | refine s_v ?_ | refine s_s ?_ | refine s_n (fun _ => ?_) | refine s_x ?_ | refine s_y ?_ | refine s_mq ?_ | refine s_app (fun _ _ => ?_) | refine s_mv ?_ | refine s_ms ?_ | refine s_b0 (fun _ => ?_) | ((fail_if_success refine g_lit rfl rfl rfl ?_); first | apply g_partM rfl rfl rfl | apply g_partMB rfl rfl rfl | fail))
      | refine g_seq ?_ | refine g_region ?_ | refine g_nil ?_ | refine g_then_normal ?_ | refine g_block ?_ | refine g_in_normal ?_ | refine g_retc ?_
      | refine g_then_ret ?_ | refine g_in_ret ?_ | refine g_exit ?_ | refine g_then_exit ?_ | refine g_in_exit ?_ | refine g_in_other rfl ?_ | refine g_skip ?_
      | refine g_label ?_ | refine g_cond_true rfl ?_ | refine g_cond_false rfl ?_ | exact s_m | intro _)
    exact g_ret (⟨q, c, o, H1⟩ : RpY) rfl (by (repeat (first | exact RVs.nil | apply RVs.tmp rfl | apply RVs.cellA rfl (by (repeat (first | exact Sel.here | apply Sel.there)); first | done | fail) (by (repeat (first | exact Cut.zero | apply Cut.take | apply Cut.skip)); first | done | fail) | apply RVs.cell1 rfl (by (repeat (first | exact Sel.here | apply Sel.there)); first | done | fail) rfl)); first | done | fail) (by (repeat (first | exact Take.nil | apply Take.cons | exact Sel.here | apply Sel.there)); first | done | fail) rfl ⟨hs1, ho, hd⟩
end Go.Proofs.Ytkejdilmdpgbpaa
