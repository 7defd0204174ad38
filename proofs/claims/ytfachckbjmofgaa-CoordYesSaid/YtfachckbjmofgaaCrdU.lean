/- Contracts: firsts, Verdict. -/
import Derived.Test.YtfachckbjmofgaaCrdT
set_option linter.unusedSimpArgs false
set_option linter.unusedVariables false
namespace Go.Proofs.Ytfachckbjmofgaa
open Go.Sl facts
attribute [local irreducible] Code.wp wpList Exit.then Exit.inBlock bodyPost Back MidQ G GP QStep VStep CStep SStep Does Post Reads
def An.zero : An := ⟨S3.zero, 0, S3.zero, none, 0, []⟩
def anOf (M : List (Int × An)) (k : Int) : An := (aget M k).getD An.zero
theorem anOf_v (M : List (Int × An)) (k : Int) : (mget (amap M) k).getD (.agg [int 0, int 0, int 0, int 0, int 0, int 0, int 0, .slice none 0 0].toArray) = .agg (anOf M k).cells.toArray := by
  rw [mget_amap]
  unfold anOf
  cases aget M k <;> rfl
theorem aget_mem {M : List (Int × An)} {k : Int} {a : An} (h : aget M k = some a) : (k, a) ∈ M := by
  induction M with
  | nil => cases h
  | cons x M ih =>
    obtain ⟨b, x⟩ := x
    simp only [aget] at h
    split at h
    · rename_i e; cases h; subst e; simp
    · exact List.mem_cons_of_mem _ (ih h)
theorem GgAt.fs {C : Chunk} {g : Gg} (h : GgAt C g) (k : Int) : SlAt C 1 (anOf g.M k).fp (anOf g.M k).fs.length ((anOf g.M k).fs.map int) ∧ (anOf g.M k).fs.length ≤ 1000000000 := by
  unfold anOf
  cases e : aget g.M k with
  | none => exact ⟨⟨rfl, rfl, fun _ => rfl, fun j v hv => by simp [An.zero] at hv⟩, by simp [An.zero]⟩
  | some a => exact h.an (k, a) (aget_mem e)
/-- What the firsts of one put are. -/
def fst1 (M : List (Int × An)) (pre : List Int) (k : Int) : List Int := match (anOf M k).fs[pre.count k]? with
  | some v => [v]
  | none => []
def outF (M : List (Int × An)) (ws : List Int) : Nat → List Int
  | 0 => []
  | j + 1 => outF M ws j ++ fst1 M (ws.take j) (ws.getD j 0)
def Cnt (A : List (Int × Value)) (pre : List Int) : Prop := ∀ k, (mget A k).getD (int 0) = int (pre.count k : Nat)
theorem Cnt.next {A : List (Int × Value)} {pre : List Int} (h : Cnt A pre) (k : Int) : Cnt (mput A k (int ((pre.count k : Nat) + 1))) (pre ++ [k]) := fun y => by
  rw [mget_mputI, List.count_append]
  by_cases e : y = k
  · subst e; simp
  · rw [if_neg e, h y]
    have : List.count y [k] = 0 := by simp [List.count_singleton]; exact fun e2 => e e2.symm
    rw [this]; rfl
structure FiX where
  j : Nat
  q : Option Addr
  c : Nat
  o : List Int
  A : List (Int × Value)
set_option maxHeartbeats 8000000 in
theorem firsts_ {H : HP} (g : Gg) (hg : GgAt (Pile H) g) :
    Does Try.prog 37 [ptr g.b] [.row g.b g.cells 79, .map g.ma (amap g.M), Pile H] (X := OA) (fun y => .slice y.1 (outF g.M g.ws g.ws.length).length y.2) (fun y => [.own y.1 (outF g.M g.ws g.ws.length).length y.2 1 ((outF g.M g.ws g.ws.length).map int) 3, .row g.b g.cells 79, .map g.ma (amap g.M), Pile H]) (fun _ => True) := by
  have hfs := hg.fs
  have hS := hg.ws
  have hwl : g.ws.length ≤ 1000000000 := by rw [hg.wl]; exact hg.bt.len
  obtain ⟨b, ⟨t1, t2, t3⟩, bt, np, nc, ns, mp, T, ma, M, op, oc, ws, wt⟩ := g
  dsimp only [Gg.cells] at hfs hS hwl ⊢
  refine fn_intro Try.func37 rfl Try.ntmps37 rfl (by simp only [argFr, Nat.zero_add, Nat.reduceAdd]; rfl) (fun Γ => ?_)
  repeat (first
    | (refine g_ops ?_; first | refine s_q ?_ | refine s_v ?_ | refine s_s ?_ | refine s_n (fun _ => ?_) | refine s_x ?_ | refine s_y ?_ | refine s_mq ?_ | refine s_app (fun _ _ => ?_) | refine s_mv ?_ | refine s_ms ?_ | refine s_b0 (fun _ => ?_) | ((fail_if_success refine g_lit rfl rfl rfl ?_); first | apply g_partM rfl rfl rfl | apply g_partMB rfl rfl rfl | fail))
    | refine g_seq ?_ | refine g_region ?_ | refine g_nil ?_ | refine g_then_normal ?_ | refine g_block ?_ | refine g_in_normal ?_ | refine g_retc ?_ | refine g_then_ret ?_
    | refine g_in_ret ?_ | refine g_exit ?_ | refine g_then_exit ?_ | refine g_in_exit ?_ | refine g_in_other rfl ?_ | refine g_skip ?_ | refine g_label ?_
    | refine g_cond_true rfl ?_ | refine g_cond_false rfl ?_ | exact s_m | intro _)
  refine s_mkI (fun m => ?_)
  repeat (first
    | (refine g_ops ?_; first | refine s_q ?_ | refine s_v ?_ | refine s_s ?_ | refine s_n (fun _ => ?_) | refine s_x ?_ | refine s_y ?_ | refine s_mq ?_ | refine s_app (fun _ _ => ?_) | refine s_mv ?_ | refine s_ms ?_ | refine s_b0 (fun _ => ?_) | ((fail_if_success refine g_lit rfl rfl rfl ?_); first | apply g_partM rfl rfl rfl | apply g_partMB rfl rfl rfl | fail))
    | refine g_seq ?_ | refine g_region ?_ | refine g_nil ?_ | refine g_then_normal ?_ | refine g_block ?_ | refine g_in_normal ?_ | refine g_retc ?_ | refine g_then_ret ?_
    | refine g_in_ret ?_ | refine g_exit ?_ | refine g_then_exit ?_ | refine g_in_exit ?_ | refine g_in_other rfl ?_ | refine g_skip ?_ | refine g_label ?_
    | refine g_cond_true rfl ?_ | refine g_cond_false rfl ?_ | exact s_m | intro _)
  refine g_own_nil none 1 3 ?_
  refine g_loop (X := FiX) (fun y => [(0, ptr b), (2, .slice y.q y.o.length y.c), (3, .map (some m)), (11, .slice op ws.length oc), (12, int ws.length), (13, int y.j)])
    (fun y => [.own y.q y.o.length y.c 1 (y.o.map int) 3, .map m y.A, .row b [int t1, int t2, int t3, .string bt.key, .slice bt.pp bt.puts.length bt.pc, .slice np ns.length nc, .map (some mp), .map (some ma), .slice op ws.length oc, int wt] 79, .map ma (amap M), Pile H])
    (fun y => y.j ≤ ws.length ∧ y.o.length ≤ y.j ∧ y.o = outF M ws y.j ∧ Cnt y.A (ws.take y.j)) (fun y => ws.length - y.j) ⟨0, none, 0, [], []⟩ ⟨Nat.zero_le _, Nat.zero_le _, rfl, fun k => rfl⟩ (by (repeat (first | exact FrSub.nil | refine FrSub.cons rfl ?_)); first | done | fail) (by (repeat (first | exact Take.nil | apply Take.cons | exact Sel.here | apply Sel.there)); first | done | fail) (fun y hy => ?_)
  obtain ⟨j, q, c, o, A⟩ := y
  obtain ⟨hj, hol, ho, hA⟩ := hy
  dsimp only at hj hol ho hA ⊢
  repeat (first
    | (refine g_ops ?_; first | refine s_q ?_ | refine s_v ?_ | refine s_s ?_ | refine s_n (fun _ => ?_) | refine s_x ?_ | refine s_y ?_ | refine s_mq ?_ | refine s_app (fun _ _ => ?_) | refine s_mv ?_ | refine s_ms ?_ | refine s_b0 (fun _ => ?_) | ((fail_if_success refine g_lit rfl rfl rfl ?_); first | apply g_partM rfl rfl rfl | apply g_partMB rfl rfl rfl | fail))
    | refine g_seq ?_ | refine g_region ?_ | refine g_nil ?_ | refine g_then_normal ?_ | refine g_block ?_ | refine g_in_normal ?_ | refine g_retc ?_ | refine g_then_ret ?_
    | refine g_in_ret ?_ | refine g_exit ?_ | refine g_then_exit ?_ | refine g_in_exit ?_ | refine g_in_other rfl ?_ | refine g_skip ?_ | refine g_label ?_
    | refine g_cond_true rfl ?_ | refine g_cond_false rfl ?_ | exact s_m | intro _)
  refine g_cond_dec rfl (fun h => ?_) (fun h => ?_)
  · have hj' : j < ws.length := by omega
    obtain ⟨wb, wo, rfl, hr0⟩ := slAt_cell hS (i := j) (v := int ws[j]) (by simp [hj'])
    have htk : ws.take (j + 1) = ws.take j ++ [ws[j]] := List.take_succ_eq_append_getElem hj'
    have hgd : ws.getD j 0 = ws[j] := by simp [List.getD_eq_getElem?_getD, hj']
    have hnx : outF M ws (j + 1) = outF M ws j ++ fst1 M (ws.take j) ws[j] := by rw [← hgd]; rfl
    have hcl : (ws.take j).count ws[j] ≤ j := Nat.le_trans (List.count_le_length) (by simp only [List.length_take]; omega)
    generalize ws[j] = k at hr0 htk hnx hcl
    have hr : ∀ k', k' = j → Reads (Pile H) ⟨wb, wo + k', none⟩ (int k) := fun _ e => e ▸ hr0
    obtain ⟨hf1, hf2⟩ := hfs k
    have hAk := hA k
    have hAn := hA.next k
    rw [← htk] at hAn
    obtain ⟨n, hn⟩ : ∃ n, n = (ws.take j).count k := ⟨_, rfl⟩
    have hf1' : fst1 M (ws.take j) k = match (anOf M k).fs[n]? with | some v => [v] | none => [] := by rw [hn]; rfl
    rw [← hn] at hAk hAn hcl
    repeat (first
      | (refine g_ops ?_; first | refine s_q ?_ | refine s_v ?_ | refine s_s ?_ | refine s_n (fun _ => ?_) | refine s_x ?_ | refine s_y ?_ | refine s_mq ?_ | refine s_app (fun _ _ => ?_) | refine s_mv ?_ | refine s_ms ?_ | refine s_b0 (fun _ => ?_) | ((fail_if_success refine g_lit rfl rfl rfl ?_); first | apply g_partM rfl rfl rfl | apply g_partMB rfl rfl rfl | fail))
      | refine g_seq ?_ | refine g_region ?_ | refine g_nil ?_ | refine g_then_normal ?_ | refine g_block ?_ | refine g_in_normal ?_ | refine g_retc ?_
      | refine g_then_ret ?_ | refine g_in_ret ?_ | refine g_exit ?_ | refine g_then_exit ?_ | refine g_in_exit ?_ | refine g_in_other rfl ?_ | refine g_skip ?_
      | refine g_label ?_ | refine g_cond_true rfl ?_ | refine g_cond_false rfl ?_ | exact s_m | intro _)
    refine g_v (vs_lookup (κ := Int) (k := k) inferInstance inferInstance inferInstance kindI rfl rfl (by (repeat (first | exact Sel.here | apply Sel.there)); first | done | fail)) rfl rfl ?_
    refine g_as 22 (v' := .agg (anOf M k).cells.toArray) rfl (by exact anOf_v M k) ?_
    generalize anOf M k = an at hf1 hf2 hf1'
    obtain ⟨_, _, _, fp, fc, fs⟩ := an
    dsimp only at hf1 hf2 hf1'
    clear hr
    repeat (first
      | (refine g_ops ?_; first | refine s_q ?_ | refine s_v ?_ | refine s_s ?_ | refine s_n (fun _ => ?_) | refine s_x ?_ | refine s_y ?_ | refine s_mq ?_ | refine s_app (fun _ _ => ?_) | refine s_mv ?_ | refine s_ms ?_ | refine s_b0 (fun _ => ?_) | ((fail_if_success refine g_lit rfl rfl rfl ?_); first | apply g_partM rfl rfl rfl | apply g_partMB rfl rfl rfl | fail))
      | refine g_seq ?_ | refine g_region ?_ | refine g_nil ?_ | refine g_then_normal ?_ | refine g_block ?_ | refine g_in_normal ?_ | refine g_retc ?_
      | refine g_then_ret ?_ | refine g_in_ret ?_ | refine g_exit ?_ | refine g_then_exit ?_ | refine g_in_exit ?_ | refine g_in_other rfl ?_ | refine g_skip ?_
      | refine g_label ?_ | refine g_cond_true rfl ?_ | refine g_cond_false rfl ?_ | exact s_m | intro _)
    refine g_v (vs_lookup (κ := Int) (k := k) inferInstance inferInstance inferInstance kindI rfl rfl (by (repeat (first | exact Sel.here | apply Sel.there)); first | done | fail)) rfl rfl ?_
    refine g_as 26 (v' := int (n : Nat)) rfl (by exact hAk) ?_
    repeat (first
      | (refine g_ops ?_; first | refine s_q ?_ | refine s_v ?_ | refine s_s ?_ | refine s_n (fun _ => ?_) | refine s_x ?_ | refine s_y ?_ | refine s_mq ?_ | refine s_app (fun _ _ => ?_) | refine s_mv ?_ | refine s_ms ?_ | refine s_b0 (fun _ => ?_) | ((fail_if_success refine g_lit rfl rfl rfl ?_); first | apply g_partM rfl rfl rfl | apply g_partMB rfl rfl rfl | fail))
      | refine g_seq ?_ | refine g_region ?_ | refine g_nil ?_ | refine g_then_normal ?_ | refine g_block ?_ | refine g_in_normal ?_ | refine g_retc ?_
      | refine g_then_ret ?_ | refine g_in_ret ?_ | refine g_exit ?_ | refine g_then_exit ?_ | refine g_in_exit ?_ | refine g_in_other rfl ?_ | refine g_skip ?_
      | refine g_label ?_ | refine g_cond_true rfl ?_ | refine g_cond_false rfl ?_ | exact s_m | intro _)
    refine g_cond_dec rfl (fun h2 => ?_) (fun h2 => ?_)
    · have hn' : n < fs.length := by dsimp only at h2; omega
      obtain ⟨fb, fo, rfl, hr0⟩ := slAt_cell hf1 (i := n) (v := int fs[n]) (by simp [hn'])
      rw [List.getElem?_eq_getElem hn'] at hf1'
      generalize fs[n] = v at hr0 hf1'
      have hr : ∀ k', k' = n → Reads (Pile H) ⟨fb, fo + k', none⟩ (int v) := fun _ e => e ▸ hr0
      repeat (first
        | (refine g_ops ?_; first | refine s_q ?_ | refine s_v ?_ | refine s_s ?_ | refine s_n (fun _ => ?_) | refine s_x ?_ | refine s_y ?_ | refine s_mq ?_ | refine s_app (fun _ _ => ?_) | refine s_mv ?_ | refine s_ms ?_ | refine s_b0 (fun _ => ?_) | ((fail_if_success refine g_lit rfl rfl rfl ?_); first | apply g_partM rfl rfl rfl | apply g_partMB rfl rfl rfl | fail))
        | refine g_seq ?_ | refine g_region ?_ | refine g_nil ?_ | refine g_then_normal ?_ | refine g_block ?_ | refine g_in_normal ?_ | refine g_retc ?_
        | refine g_then_ret ?_ | refine g_in_ret ?_ | refine g_exit ?_ | refine g_then_exit ?_ | refine g_in_exit ?_ | refine g_in_other rfl ?_ | refine g_skip ?_
        | refine g_label ?_ | refine g_cond_true rfl ?_ | refine g_cond_false rfl ?_ | exact s_m | intro _)
      refine g_v (vs_lookup (κ := Int) (k := k) inferInstance inferInstance inferInstance kindI rfl rfl (by (repeat (first | exact Sel.here | apply Sel.there)); first | done | fail)) rfl rfl ?_
      refine g_as 34 (v' := int (n : Nat)) rfl (by exact hAk) ?_
      repeat (first
        | (refine g_ops ?_; first | refine s_q ?_ | refine s_v ?_ | refine s_s ?_ | refine s_n (fun _ => ?_) | refine s_x ?_ | refine s_y ?_ | refine s_mq ?_ | refine s_app (fun _ _ => ?_) | refine s_mv ?_ | refine s_ms ?_ | refine s_b0 (fun _ => ?_) | ((fail_if_success refine g_lit rfl rfl rfl ?_); first | apply g_partM rfl rfl rfl | apply g_partMB rfl rfl rfl | fail))
        | refine g_seq ?_ | refine g_region ?_ | refine g_nil ?_ | refine g_then_normal ?_ | refine g_block ?_ | refine g_in_normal ?_ | refine g_retc ?_
        | refine g_then_ret ?_ | refine g_in_ret ?_ | refine g_exit ?_ | refine g_then_exit ?_ | refine g_in_exit ?_ | refine g_in_other rfl ?_ | refine g_skip ?_
        | refine g_label ?_ | refine g_cond_true rfl ?_ | refine g_cond_false rfl ?_ | exact s_m | intro _)
      rename_i b37 q2 c2
      rw [show o.map int ++ [int v] = (o ++ [v]).map int by simp, show o.length + 1 = (o ++ [v]).length by simp]
      refine g_v (vs_lookup (κ := Int) (k := k) inferInstance inferInstance inferInstance kindI rfl rfl (by (repeat (first | exact Sel.here | apply Sel.there)); first | done | fail)) rfl rfl ?_
      refine g_as 41 (v' := int (n : Nat)) rfl (by exact hAk) ?_
      repeat (first
        | (refine g_ops ?_; first | refine s_q ?_ | refine s_v ?_ | refine s_s ?_ | refine s_n (fun _ => ?_) | refine s_x ?_ | refine s_y ?_ | refine s_mq ?_ | refine s_app (fun _ _ => ?_) | refine s_mv ?_ | refine s_ms ?_ | refine s_b0 (fun _ => ?_) | ((fail_if_success refine g_lit rfl rfl rfl ?_); first | apply g_partM rfl rfl rfl | apply g_partMB rfl rfl rfl | fail))
        | refine g_seq ?_ | refine g_region ?_ | refine g_nil ?_ | refine g_then_normal ?_ | refine g_block ?_ | refine g_in_normal ?_ | refine g_retc ?_
        | refine g_then_ret ?_ | refine g_in_ret ?_ | refine g_exit ?_ | refine g_then_exit ?_ | refine g_in_exit ?_ | refine g_in_other rfl ?_ | refine g_skip ?_
        | refine g_label ?_ | refine g_cond_true rfl ?_ | refine g_cond_false rfl ?_ | exact s_m | intro _)
      refine g_as 13 (v' := int ((j + 1 : Nat) : Int)) rfl (congrArg (Value.int .i64) (by push_cast; rfl)) ?_
      exact g_again ⟨j + 1, q2, c2, o ++ [v], mput A k (int ((n : Nat) + 1))⟩ (by simp only; omega) ⟨hj', by simp only [List.length_append, List.length_cons, List.length_nil]; omega, by simp only; rw [hnx, ho, hf1'], hAn⟩ (by (repeat (first | exact FrSub.nil | refine FrSub.cons rfl ?_)); first | done | fail) (by (repeat (first | exact Take.nil | apply Take.cons | exact Sel.here | apply Sel.there)); first | done | fail)
    · rw [List.getElem?_eq_none (by dsimp only at h2; omega)] at hf1'
      repeat (first
        | (refine g_ops ?_; first | refine s_q ?_ | refine s_v ?_ | refine s_s ?_ | refine s_n (fun _ => ?_) | refine s_x ?_ | refine s_y ?_ | refine s_mq ?_ | refine s_app (fun _ _ => ?_) | refine s_mv ?_ | refine s_ms ?_ | refine s_b0 (fun _ => ?_) | ((fail_if_success refine g_lit rfl rfl rfl ?_); first | apply g_partM rfl rfl rfl | apply g_partMB rfl rfl rfl | fail))
        | refine g_seq ?_ | refine g_region ?_ | refine g_nil ?_ | refine g_then_normal ?_ | refine g_block ?_ | refine g_in_normal ?_ | refine g_retc ?_
        | refine g_then_ret ?_ | refine g_in_ret ?_ | refine g_exit ?_ | refine g_then_exit ?_ | refine g_in_exit ?_ | refine g_in_other rfl ?_ | refine g_skip ?_
        | refine g_label ?_ | refine g_cond_true rfl ?_ | refine g_cond_false rfl ?_ | exact s_m | intro _)
      refine g_v (vs_lookup (κ := Int) (k := k) inferInstance inferInstance inferInstance kindI rfl rfl (by (repeat (first | exact Sel.here | apply Sel.there)); first | done | fail)) rfl rfl ?_
      refine g_as 41 (v' := int (n : Nat)) rfl (by exact hAk) ?_
      repeat (first
        | (refine g_ops ?_; first | refine s_q ?_ | refine s_v ?_ | refine s_s ?_ | refine s_n (fun _ => ?_) | refine s_x ?_ | refine s_y ?_ | refine s_mq ?_ | refine s_app (fun _ _ => ?_) | refine s_mv ?_ | refine s_ms ?_ | refine s_b0 (fun _ => ?_) | ((fail_if_success refine g_lit rfl rfl rfl ?_); first | apply g_partM rfl rfl rfl | apply g_partMB rfl rfl rfl | fail))
        | refine g_seq ?_ | refine g_region ?_ | refine g_nil ?_ | refine g_then_normal ?_ | refine g_block ?_ | refine g_in_normal ?_ | refine g_retc ?_
        | refine g_then_ret ?_ | refine g_in_ret ?_ | refine g_exit ?_ | refine g_then_exit ?_ | refine g_in_exit ?_ | refine g_in_other rfl ?_ | refine g_skip ?_
        | refine g_label ?_ | refine g_cond_true rfl ?_ | refine g_cond_false rfl ?_ | exact s_m | intro _)
      refine g_as 13 (v' := int ((j + 1 : Nat) : Int)) rfl (congrArg (Value.int .i64) (by push_cast; rfl)) ?_
      exact g_again ⟨j + 1, q, c, o, mput A k (int ((n : Nat) + 1))⟩ (by simp only; omega) ⟨hj', by simp only; omega, by simp only; rw [hnx, ho, hf1', List.append_nil], hAn⟩ (by (repeat (first | exact FrSub.nil | refine FrSub.cons rfl ?_)); first | done | fail) (by (repeat (first | exact Take.nil | apply Take.cons | exact Sel.here | apply Sel.there)); first | done | fail)
  · obtain rfl : j = ws.length := by omega
    subst ho
    repeat (first
      | (refine g_ops ?_; first | refine s_q ?_ | refine s_v ?_ | refine s_s ?_ | refine s_n (fun _ => ?_) | refine s_x ?_ | refine s_y ?_ | refine s_mq ?_ | refine s_app (fun _ _ => ?_) | refine s_mv ?_ | refine s_ms ?_ | refine s_b0 (fun _ => ?_) | ((fail_if_success refine g_lit rfl rfl rfl ?_); first | apply g_partM rfl rfl rfl | apply g_partMB rfl rfl rfl | fail))
      | refine g_seq ?_ | refine g_region ?_ | refine g_nil ?_ | refine g_then_normal ?_ | refine g_block ?_ | refine g_in_normal ?_ | refine g_retc ?_
      | refine g_then_ret ?_ | refine g_in_ret ?_ | refine g_exit ?_ | refine g_then_exit ?_ | refine g_in_exit ?_ | refine g_in_other rfl ?_ | refine g_skip ?_
      | refine g_label ?_ | refine g_cond_true rfl ?_ | refine g_cond_false rfl ?_ | exact s_m | intro _)
    exact g_ret (q, c) rfl (by (repeat (first | exact RVs.nil | apply RVs.tmp rfl | apply RVs.cellA rfl (by (repeat (first | exact Sel.here | apply Sel.there)); first | done | fail) (by (repeat (first | exact Cut.zero | apply Cut.take | apply Cut.skip)); first | done | fail) | apply RVs.cell1 rfl (by (repeat (first | exact Sel.here | apply Sel.there)); first | done | fail) rfl)); first | done | fail) (by (repeat (first | exact Take.nil | apply Take.cons | exact Sel.here | apply Sel.there)); first | done | fail) rfl trivial
end Go.Proofs.Ytfachckbjmofgaa
