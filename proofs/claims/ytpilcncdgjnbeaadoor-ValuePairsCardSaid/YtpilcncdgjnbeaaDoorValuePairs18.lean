/- Contracts and laws that the proof stands on. -/
import Derived.Test.YtpilcncdgjnbeaaDoorValuePairs17
import Derived.Handed
import Derived.Test.YtpilcncdgjnbeaaDoorValuePairs16
set_option linter.unusedSimpArgs false
set_option linter.unusedVariables false
namespace Go.Proofs.YtpilcncdgjnbeaaDoor
open Go.Sl facts
attribute [local irreducible] Code.wp wpList Exit.then Exit.inBlock bodyPost Back MidQ G GP QStep VStep CStep SStep Does Post Reads
structure LnX where
  j : Nat
  x : Value
  H : HP
structure LgX where
  i : Nat
  H : HP
structure LpX where
  i : Nat
  q : Option Addr
  c : Nat
  ps : List Pr
  H : HP
set_option maxHeartbeats 4000000 in
theorem pairsW {H : HP} (hT : Tb H) (hE : ErrH H) (hI : VarI H 2) (p : Option Addr) (c : Nat) (n deep : Int) (hn : inI n) (hd0 : inI deep) (ls : List ByteArray) (hS : SlAt (Pile H) 1 p ls.length (ls.map .string)) (hlen : ls.length ≤ 9223372036854775807) (hO : ∀ t ∈ ls, t.size ≤ 9223372036854775807) :
    Does1 Tryd.prog 9 [.slice p ls.length c, int n, int deep] [Pile H] (.bool true) := by
  have htot := total (H := H) p c 1000 ls hS (by decide) hlen hO
  have aw := awake1 hT
  refine fn_intro Tryd.func9 rfl Tryd.ntmps9 rfl (by simp only [argFr, Nat.zero_add, Nat.reduceAdd]; rfl) (fun Γ => ?_)
  repeat ((fail_if_success refine s_at 24 ?_); first
    | (refine g_ops ?_; first | refine sO ?_ | refine s_n (fun _ => ?_) | refine s_app (fun _ _ => ?_) | refine s_b0 (fun _ => ?_) | ((fail_if_success refine g_lit rfl rfl rfl ?_); first | apply g_partM rfl rfl rfl | apply g_partMB rfl rfl rfl | fail))
    | refine gS ?_ | exact s_m | intro _)
  first
    | (refine g_ops ?_; first | refine sO ?_ | refine s_n (fun _ => ?_) | refine s_app (fun _ _ => ?_) | refine s_b0 (fun _ => ?_) | ((fail_if_success refine g_lit rfl rfl rfl ?_); first | apply g_partM rfl rfl rfl | apply g_partMB rfl rfl rfl | fail))
    | refine gS ?_ | exact s_m | intro _
  by_cases c1 : 20 < ls.length
  · refine g_as 24 (v' := .bool true) rfl (congrArg Value.bool (decide_eq_true (by omega))) ?_
    repeat (first
      | (refine g_ops ?_; first | refine sO ?_ | refine s_n (fun _ => ?_) | refine s_app (fun _ _ => ?_) | refine s_b0 (fun _ => ?_) | ((fail_if_success refine g_lit rfl rfl rfl ?_); first | apply g_partM rfl rfl rfl | apply g_partMB rfl rfl rfl | fail) | refine s_k (aw) ?_)
      | refine gS ?_ | exact s_m | intro _)
    exact s_r ()
  refine g_as 24 (v' := .bool false) rfl (congrArg Value.bool (decide_eq_false (by omega))) ?_
  repeat ((fail_if_success refine s_at 29 ?_); first
    | (refine g_ops ?_; first | refine sO ?_ | refine s_n (fun _ => ?_) | refine s_app (fun _ _ => ?_) | refine s_b0 (fun _ => ?_) | ((fail_if_success refine g_lit rfl rfl rfl ?_); first | apply g_partM rfl rfl rfl | apply g_partMB rfl rfl rfl | fail) | refine s_c (htot) (fun _ _ => ?_))
    | refine gS ?_ | exact s_m | intro _)
  rename_i r hr
  obtain ⟨_, _, hr⟩ := hr
  by_cases c2 : 1000 < r
  · refine g_as 28 (v' := .bool true) rfl (congrArg Value.bool (decide_eq_true c2)) ?_
    repeat (first
      | (refine g_ops ?_; first | refine sO ?_ | refine s_n (fun _ => ?_) | refine s_app (fun _ _ => ?_) | refine s_b0 (fun _ => ?_) | ((fail_if_success refine g_lit rfl rfl rfl ?_); first | apply g_partM rfl rfl rfl | apply g_partMB rfl rfl rfl | fail) | refine s_k (aw) ?_)
      | refine gS ?_ | exact s_m | intro _)
    exact s_r ()
  refine g_as 28 (v' := .bool false) rfl (congrArg Value.bool (decide_eq_false c2)) ?_
  have hsz := hr (by omega)
  repeat ((fail_if_success refine s_at 33 ?_); first
    | (refine g_ops ?_; first | refine sO ?_ | refine s_n (fun _ => ?_) | refine s_app (fun _ _ => ?_) | refine s_b0 (fun _ => ?_) | ((fail_if_success refine g_lit rfl rfl rfl ?_); first | apply g_partM rfl rfl rfl | apply g_partMB rfl rfl rfl | fail))
    | refine gS ?_ | exact s_m | intro _)
  by_cases c3 : deep < 0
  · refine g_as 32 (v' := .bool true) rfl (congrArg Value.bool (decide_eq_true c3)) ?_
    repeat (first
      | (refine g_ops ?_; first | refine sO ?_ | refine s_n (fun _ => ?_) | refine s_app (fun _ _ => ?_) | refine s_b0 (fun _ => ?_) | ((fail_if_success refine g_lit rfl rfl rfl ?_); first | apply g_partM rfl rfl rfl | apply g_partMB rfl rfl rfl | fail) | refine s_k (aw) ?_)
      | refine gS ?_ | exact s_m | intro _)
    exact s_r ()
  refine g_as 32 (v' := .bool false) rfl (congrArg Value.bool (decide_eq_false c3)) ?_
  repeat (first
    | (refine g_ops ?_; first | refine sO ?_ | refine s_n (fun _ => ?_) | refine s_app (fun _ _ => ?_) | refine s_b0 (fun _ => ?_) | ((fail_if_success refine g_lit rfl rfl rfl ?_); first | apply g_partM rfl rfl rfl | apply g_partMB rfl rfl rfl | fail))
    | refine gS ?_ | exact s_m | intro _)
  refine g_cond_dec rfl (fun c4 => ?_) (fun c4 => ?_)
  · repeat (first
      | (refine g_ops ?_; first | refine sO ?_ | refine s_n (fun _ => ?_) | refine s_app (fun _ _ => ?_) | refine s_b0 (fun _ => ?_) | ((fail_if_success refine g_lit rfl rfl rfl ?_); first | apply g_partM rfl rfl rfl | apply g_partMB rfl rfl rfl | fail) | refine s_k (aw) ?_)
      | refine gS ?_ | exact s_m | intro _)
    exact s_r ()
  obtain ⟨d, rfl⟩ : ∃ d : Nat, deep = d := ⟨deep.toNat, by omega⟩
  repeat (first
    | (refine g_ops ?_; first | refine sO ?_ | refine s_n (fun _ => ?_) | refine s_app (fun _ _ => ?_) | refine s_b0 (fun _ => ?_) | ((fail_if_success refine g_lit rfl rfl rfl ?_); first | apply g_partM rfl rfl rfl | apply g_partMB rfl rfl rfl | fail))
    | refine gS ?_ | exact s_m | intro _)
  rename_i b0
  dsimp only [List.cons_append, List.nil_append, List.append_eq]
  refine g_loop (X := LpX) (fun x => [(0, .slice p ls.length c), (1, int n), (2, int d), (6, .bool false), (7, .slice x.q x.ps.length x.c), (8, int x.i)]) (fun x => [.own x.q x.ps.length x.c 2 (x.ps.flatMap Pr.cells) 42, Pile x.H])
    (fun x => x.i ≤ ls.length ∧ x.ps.length = x.i ∧ x.ps.map Pr.k = ls.take x.i ∧ HP.sub H x.H ∧ ∀ (j : Nat) q, x.ps[j]? = some q → TAt x.H (listV [intV j, intV n]) q.v) (fun x => ls.length - x.i) ⟨0, some ⟨b0, 0, none⟩, 0, [], H⟩ ⟨Nat.zero_le _, rfl, rfl, HP.sub.refl _, fun j q h => by simp at h⟩ (by (repeat (first | exact FrSub.nil | refine FrSub.cons rfl ?_)); first | done | fail) (by (repeat (first | exact Take.nil | apply Take.cons | exact Sel.here | apply Sel.there)); first | done | fail) (fun x hx => ?_)
  obtain ⟨i, q, c5, ps, H1⟩ := x
  obtain ⟨hi, hpl, hpk, hs1, hpt⟩ := hx
  dsimp only at hi hpl hpk hs1 hpt ⊢
  repeat (first
    | (refine g_ops ?_; first | refine sO ?_ | refine s_n (fun _ => ?_) | refine s_app (fun _ _ => ?_) | refine s_b0 (fun _ => ?_) | ((fail_if_success refine g_lit rfl rfl rfl ?_); first | apply g_partM rfl rfl rfl | apply g_partMB rfl rfl rfl | fail))
    | refine gS ?_ | exact s_m | intro _)
  refine g_cond_dec rfl (fun h2 => ?_) (fun h2 => ?_)
  · have hi' : i < ls.length := by omega
    obtain ⟨b3, o, rfl, hr0⟩ := slAt_cell (hS.grow hs1) (i := i) (v := .string ls[i]) (by simp [hi'])
    have hr : ∀ k', k' = i → Reads (Pile H1) ⟨b3, o + k', none⟩ (.string ls[i]) := fun _ e => e ▸ hr0
    repeat (first
      | (refine g_ops ?_; first | refine sO ?_ | refine s_n (fun _ => ?_) | refine s_app (fun _ _ => ?_) | refine s_b0 (fun _ => ?_) | ((fail_if_success refine g_lit rfl rfl rfl ?_); first | apply g_partM rfl rfl rfl | apply g_partMB rfl rfl rfl | fail))
      | refine gS ?_ | exact s_m | intro _)
    rename_i lb pb2 q2 c6
    refine g_toOwn (b := lb) (len := 2) (n := 1) (by (repeat (first | exact Sel.here | apply Sel.there)); first | done | fail) rfl rfl ?_
    refine g_pile (n := 1) (by (repeat (first | exact Sel.here | apply Sel.there)); first | done | fail) (by (repeat (first | exact Sel.here | apply Sel.there)); first | done | fail) (fun H2 hs2 hS2 => ?_)
    have hnew : TAt H2 (listV [intV i, intV n]) (.iface 35 (.slice (some ⟨lb, 0, none⟩) 2 2)) := .list [.iface 3 (int i), .iface 3 (int n)] rfl (by simp) hS2 fun j x v h1 h2 => by
      match j with
      | 0 => cases h1; cases h2; exact .int ⟨by omega, by omega⟩
      | 1 => cases h1; cases h2; exact .int hn
      | j + 2 => simp at h1
    refine g_as 8 (v' := int ((i + 1 : Nat) : Int)) rfl (congrArg (Value.int .i64) (by push_cast; rfl)) ?_
    rw [show ps.length + 1 = (ps ++ [(⟨ls[i], .iface 35 (.slice (some ⟨lb, 0, none⟩) 2 2)⟩ : Pr)]).length by simp, show ps.flatMap Pr.cells ++ [.string ls[i], .iface 35 (.slice (some ⟨lb, 0, none⟩) 2 2)] = (ps ++ [(⟨ls[i], .iface 35 (.slice (some ⟨lb, 0, none⟩) 2 2)⟩ : Pr)]).flatMap Pr.cells by simp [Pr.cells]]
    refine gA ⟨i + 1, q2, c6, ps ++ [⟨ls[i], .iface 35 (.slice (some ⟨lb, 0, none⟩) 2 2)⟩], H2⟩ (by simp only; omega) ⟨hi', by simp [hpl], by dsimp only; rw [List.map_append, hpk, List.take_add_one, List.getElem?_eq_getElem hi']; rfl, hs1.trans hs2, fun j q' hj => ?_⟩
    dsimp only at hj
    rcases Nat.lt_or_ge j ps.length with hlt | hge
    · rw [List.getElem?_append_left hlt] at hj
      exact (hpt j q' hj).grow hs2
    · rw [List.getElem?_append_right hge] at hj
      have hj2 : j = i := by
        have := (List.getElem?_eq_some_iff.1 hj).1
        simp only [List.length_singleton] at this
        omega
      subst hj2
      rw [hpl, Nat.sub_self] at hj
      cases hj
      exact hnew
  · obtain rfl : i = ls.length := by omega
    rw [List.take_length] at hpk
    repeat (first
      | (refine g_ops ?_; first | refine sO ?_ | refine s_n (fun _ => ?_) | refine s_app (fun _ _ => ?_) | refine s_b0 (fun _ => ?_) | ((fail_if_success refine g_lit rfl rfl rfl ?_); first | apply g_partM rfl rfl rfl | apply g_partMB rfl rfl rfl | fail))
      | refine gS ?_ | exact s_m | intro _)
    refine g_pile (n := 2) (by (repeat (first | exact Sel.here | apply Sel.there)); first | done | fail) (by (repeat (first | exact Sel.here | apply Sel.there)); first | done | fail) (fun H2 hs2 hS2 => ?_)
    have hkl : (kidsV n ls.length).length = ls.length := by simp [kidsV]
    have hbase : TAt H2 (pairsV ls (kidsV n ls.length)) (.iface 47 (.slice q ps.length c5)) := by
      rw [show ps.length = (kidsV n ls.length).length by rw [hkl, hpl]] at hS2 ⊢
      exact .pairs ps (by rw [hkl, hpl]) (by omega) hpk.symm (fun q' hq => hO _ (by rw [← hpk]; exact List.mem_map_of_mem hq)) hS2 fun j x q' h1 h2 => by
        have := (hpt j q' h2).grow hs2
        simp only [kidsV, List.getElem?_map] at h1
        cases hj : (List.range ls.length)[j]? with
        | none => rw [hj] at h1; cases h1
        | some m =>
          rw [hj] at h1
          have hm : m = j := by
            rw [List.getElem?_range (by have := (List.getElem?_eq_some_iff.1 hj).1; simpa using this)] at hj
            injection hj with hj; exact hj.symm
          subst hm
          cases h1
          exact this
    refine g_loop (X := LnX) (fun x => [(0, .slice p ls.length c), (1, int n), (2, int d), (6, .bool false), (9, x.x), (10, .string (txt (ones x.j))), (11, int x.j)]) (fun x => [Pile x.H])
      (fun x => x.j ≤ d ∧ HP.sub H2 x.H ∧ TAt x.H (nestV x.j (pairsV ls (kidsV n ls.length))) x.x) (fun x => d - x.j) ⟨0, _, H2⟩ ⟨Nat.zero_le _, HP.sub.refl _, hbase⟩ (by (repeat (first | exact FrSub.nil | refine FrSub.cons rfl ?_)); first | done | fail) (by (repeat (first | exact Take.nil | apply Take.cons | exact Sel.here | apply Sel.there)); first | done | fail) (fun x hx => ?_)
    obtain ⟨j, x, H3⟩ := x
    obtain ⟨hj, hs3, hx⟩ := hx
    dsimp only at hj hs3 hx ⊢
    repeat (first
      | (refine g_ops ?_; first | refine sO ?_ | refine s_n (fun _ => ?_) | refine s_app (fun _ _ => ?_) | refine s_b0 (fun _ => ?_) | ((fail_if_success refine g_lit rfl rfl rfl ?_); first | apply g_partM rfl rfl rfl | apply g_partMB rfl rfl rfl | fail))
      | refine gS ?_ | exact s_m | intro _)
    refine g_cond_dec rfl (fun h3 => ?_) (fun h3 => ?_)
    · have hj' : j < d := by omega
      have hol := ones_len j
      rcases hx.shape with rfl | ⟨t, u, rfl⟩
      · repeat (first
          | (refine g_ops ?_; first | refine sO ?_ | refine s_n (fun _ => ?_) | refine s_app (fun _ _ => ?_) | refine s_b0 (fun _ => ?_) | ((fail_if_success refine g_lit rfl rfl rfl ?_); first | apply g_partM rfl rfl rfl | apply g_partMB rfl rfl rfl | fail))
          | refine gS ?_ | exact s_m | intro _)
        rename_i lb
        refine s_q (q := by exact qs_addT (ones j) [49, 47] rfl rfl (by simp only [List.length_cons, List.length_nil]; omega)) ?_
        repeat (first
          | (refine g_ops ?_; first | refine sO ?_ | refine s_n (fun _ => ?_) | refine s_app (fun _ _ => ?_) | refine s_b0 (fun _ => ?_) | ((fail_if_success refine g_lit rfl rfl rfl ?_); first | apply g_partM rfl rfl rfl | apply g_partMB rfl rfl rfl | fail))
          | refine gS ?_ | exact s_m | intro _)
        refine g_toOwn (b := lb) (len := 2) (n := 1) (by (repeat (first | exact Sel.here | apply Sel.there)); first | done | fail) rfl rfl ?_
        refine g_pile (n := 1) (by (repeat (first | exact Sel.here | apply Sel.there)); first | done | fail) (by (repeat (first | exact Sel.here | apply Sel.there)); first | done | fail) (fun H4 hs4 hS4 => ?_)
        have hnew : TAt H4 (nestV (j + 1) (pairsV ls (kidsV n ls.length))) (.iface 35 (.slice (some ⟨lb, 0, none⟩) 2 2)) := .list [.nilIface, .nilIface] rfl (by simp) hS4 fun k a v h1 h2 => by
          match k with
          | 0 => cases h1; cases h2; exact .nil
          | 1 => cases h1; cases h2; exact hx.grow hs4
          | k + 2 => simp at h1
        refine g_as 11 (v' := int ((j + 1 : Nat) : Int)) rfl (congrArg (Value.int .i64) (by push_cast; rfl)) ?_
        exact gA ⟨j + 1, _, H4⟩ (by simp only; omega) ⟨hj', hs3.trans hs4, hnew⟩
      · repeat (first
          | (refine g_ops ?_; first | refine sO ?_ | refine s_n (fun _ => ?_) | refine s_app (fun _ _ => ?_) | refine s_b0 (fun _ => ?_) | ((fail_if_success refine g_lit rfl rfl rfl ?_); first | apply g_partM rfl rfl rfl | apply g_partMB rfl rfl rfl | fail))
          | refine gS ?_ | exact s_m | intro _)
        rename_i lb
        refine s_q (q := by exact qs_addT (ones j) [49, 47] rfl rfl (by simp only [List.length_cons, List.length_nil]; omega)) ?_
        repeat (first
          | (refine g_ops ?_; first | refine sO ?_ | refine s_n (fun _ => ?_) | refine s_app (fun _ _ => ?_) | refine s_b0 (fun _ => ?_) | ((fail_if_success refine g_lit rfl rfl rfl ?_); first | apply g_partM rfl rfl rfl | apply g_partMB rfl rfl rfl | fail))
          | refine gS ?_ | exact s_m | intro _)
        refine g_toOwn (b := lb) (len := 2) (n := 1) (by (repeat (first | exact Sel.here | apply Sel.there)); first | done | fail) rfl rfl ?_
        refine g_pile (n := 1) (by (repeat (first | exact Sel.here | apply Sel.there)); first | done | fail) (by (repeat (first | exact Sel.here | apply Sel.there)); first | done | fail) (fun H4 hs4 hS4 => ?_)
        have hnew : TAt H4 (nestV (j + 1) (pairsV ls (kidsV n ls.length))) (.iface 35 (.slice (some ⟨lb, 0, none⟩) 2 2)) := .list [.nilIface, .iface t u] rfl (by simp) hS4 fun k a v h1 h2 => by
          match k with
          | 0 => cases h1; cases h2; exact .nil
          | 1 => cases h1; cases h2; exact hx.grow hs4
          | k + 2 => simp at h1
        refine g_as 11 (v' := int ((j + 1 : Nat) : Int)) rfl (congrArg (Value.int .i64) (by push_cast; rfl)) ?_
        exact gA ⟨j + 1, _, H4⟩ (by simp only; omega) ⟨hj', hs3.trans hs4, hnew⟩
    · obtain rfl : j = d := by omega
      have hs03 := (hs1.trans hs2).trans hs3
      have hT3 := hT.grow hs03
      have hc := check1 hT3.vs hx
      have aw3 := awake1 hT3
      repeat (first
        | (refine g_ops ?_; first | refine sO ?_ | refine s_n (fun _ => ?_) | refine s_app (fun _ _ => ?_) | refine s_b0 (fun _ => ?_) | ((fail_if_success refine g_lit rfl rfl rfl ?_); first | apply g_partM rfl rfl rfl | apply g_partMB rfl rfl rfl | fail) | refine s_k (hc) ?_)
        | refine gS ?_ | exact s_m | intro _)
      by_cases hw : (weigh (nestV j (pairsV ls (kidsV n ls.length))) 0 0).1 = 0
      case neg =>
        refine g_as 73 (v' := .bool true) rfl (congrArg Value.bool (decide_eq_true hw)) ?_
        repeat (first
          | (refine g_ops ?_; first | refine sO ?_ | refine s_n (fun _ => ?_) | refine s_app (fun _ _ => ?_) | refine s_b0 (fun _ => ?_) | ((fail_if_success refine g_lit rfl rfl rfl ?_); first | apply g_partM rfl rfl rfl | apply g_partMB rfl rfl rfl | fail) | refine s_k (aw3) ?_)
          | refine gS ?_ | exact s_m | intro _)
        refine g_unpile hs03 (by (repeat (first | exact Sel.here | apply Sel.there)); first | done | fail) ?_
        exact s_r ()
      refine g_as 73 (v' := .bool false) rfl (congrArg Value.bool (decide_eq_false (fun h => h hw))) ?_
      repeat (first
        | (refine g_ops ?_; first | refine sO ?_ | refine s_n (fun _ => ?_) | refine s_app (fun _ _ => ?_) | refine s_b0 (fun _ => ?_) | ((fail_if_success refine g_lit rfl rfl rfl ?_); first | apply g_partM rfl rfl rfl | apply g_partMB rfl rfl rfl | fail))
        | refine gS ?_ | exact s_m | intro _)
      refine g_loop (X := LgX) (fun y => [(0, .slice p ls.length c), (1, int n), (2, int j), (6, .bool false), (9, x), (10, .string (txt (ones j))), (12, int y.i)]) (fun y => [Pile y.H]) (fun y => y.i ≤ ls.length ∧ HP.sub H3 y.H) (fun y => ls.length - y.i) ⟨0, H3⟩ ⟨Nat.zero_le _, HP.sub.refl _⟩ (by (repeat (first | exact FrSub.nil | refine FrSub.cons rfl ?_)); first | done | fail) (by (repeat (first | exact Take.nil | apply Take.cons | exact Sel.here | apply Sel.there)); first | done | fail) (fun y hy => ?_)
      obtain ⟨i, H4⟩ := y
      obtain ⟨hi4, hs4⟩ := hy
      dsimp only at hi4 hs4 ⊢
      repeat (first
        | (refine g_ops ?_; first | refine sO ?_ | refine s_n (fun _ => ?_) | refine s_app (fun _ _ => ?_) | refine s_b0 (fun _ => ?_) | ((fail_if_success refine g_lit rfl rfl rfl ?_); first | apply g_partM rfl rfl rfl | apply g_partMB rfl rfl rfl | fail))
        | refine gS ?_ | exact s_m | intro _)
      refine g_cond_dec rfl (fun h5 => ?_) (fun h5 => ?_)
      · have hi' : i < ls.length := by omega
        obtain ⟨b3, o, rfl, hr0⟩ := slAt_cell (hS.grow (hs03.trans hs4)) (i := i) (v := .string ls[i]) (by simp [hi'])
        have hr : ∀ k', k' = i → Reads (Pile H4) ⟨b3, o + k', none⟩ (.string ls[i]) := fun _ e => e ▸ hr0
        have hzi : ls[i].size ≤ 1000 := by
          have := szS_mem (List.getElem_mem (l := ls) hi')
          omega
        have hT4 := hT3.grow hs4
        have hI4 := hI.grow (hs03.trans hs4)
        generalize hkey : ls[i] = key at hr hzi
        obtain ⟨L, rfl⟩ : ∃ L, key = txt L := ⟨key.data.toList, (txt_of _).symm⟩
        rw [txt_size] at hzi
        repeat (first
          | (refine g_ops ?_; first | refine sO ?_ | refine s_n (fun _ => ?_) | refine s_app (fun _ _ => ?_) | refine s_b0 (fun _ => ?_) | ((fail_if_success refine g_lit rfl rfl rfl ?_); first | apply g_partM rfl rfl rfl | apply g_partMB rfl rfl rfl | fail))
          | refine gS ?_ | exact s_m | intro _)
        refine g_loop (X := Nat) (fun k => [(0, .slice (some ⟨b3, o, none⟩) ls.length c), (1, int n), (2, int j), (6, .bool false), (9, x), (10, .string (txt (ones j))), (12, int i), (13, .bool ((L.take k).any (· == 47))), (14, int k)]) (fun _ => [Pile H4]) (fun k => k ≤ L.length) (fun k => L.length - k) 0 (Nat.zero_le _) (by (repeat (first | exact FrSub.nil | refine FrSub.cons rfl ?_)); first | done | fail) (by (repeat (first | exact Take.nil | apply Take.cons | exact Sel.here | apply Sel.there)); first | done | fail) (fun k hk => ?_)
        repeat (first
          | (refine g_ops ?_; first | refine sO ?_ | refine s_n (fun _ => ?_) | refine s_app (fun _ _ => ?_) | refine s_b0 (fun _ => ?_) | ((fail_if_success refine g_lit rfl rfl rfl ?_); first | apply g_partM rfl rfl rfl | apply g_partMB rfl rfl rfl | fail))
          | refine gS ?_ | exact s_m | intro _)
        refine g_cond_dec rfl (fun h6 => ?_) (fun h6 => ?_)
        · have hk' : k < L.length := by rw [txt_size] at h6; omega
          have hstep : (L.take (k + 1)).any (· == 47) = ((L.take k).any (· == 47) || L[k] == 47) := by
            rw [List.take_add_one, List.any_append]
            simp [hk']
          generalize hA : (L.take k).any (· == 47) = A at hstep ⊢
          have h8 := (L[k]).toNat_lt
          cases A
          · repeat (first
              | (refine g_ops ?_; first | refine sO ?_ | refine s_n (fun _ => ?_) | refine s_app (fun _ _ => ?_) | refine s_b0 (fun _ => ?_) | ((fail_if_success refine g_lit rfl rfl rfl ?_); first | apply g_partM rfl rfl rfl | apply g_partMB rfl rfl rfl | fail))
              | refine gS ?_ | exact s_m | intro _)
            refine s_q (q := by exact qs_indexStr inferInstance rfl rfl (by rw [txt_size]; exact hk')) ?_
            repeat (first
              | (refine g_ops ?_; first | refine sO ?_ | refine s_n (fun _ => ?_) | refine s_app (fun _ _ => ?_) | refine s_b0 (fun _ => ?_) | ((fail_if_success refine g_lit rfl rfl rfl ?_); first | apply g_partM rfl rfl rfl | apply g_partMB rfl rfl rfl | fail))
              | refine gS ?_ | exact s_m | intro _)
            refine g_as 13 (v' := .bool ((L.take (k + 1)).any (· == 47))) rfl (congrArg Value.bool (by
              rw [hstep]
              have e : at8 (txt L) k = L[k] := by simp [at8, txt_list, List.getD, hk']
              rw [e]
              cases hc : (L[k] == 47) with
              | true => have : L[k] = 47 := by simpa using hc
                        simp [this]
              | false => have : L[k] ≠ 47 := by simpa using hc
                         have h9 : ((L[k]).toNat : Int) ≠ 47 := fun e => this (UInt8.toNat_inj.1 (by simpa using Int.ofNat_inj.1 e))
                         simpa using h9)) ?_
            refine g_as 14 (v' := int ((k + 1 : Nat) : Int)) rfl (congrArg (Value.int .i64) (by push_cast; rfl)) ?_
            exact gA (k + 1) (by omega) hk'
          · repeat (first
              | (refine g_ops ?_; first | refine sO ?_ | refine s_n (fun _ => ?_) | refine s_app (fun _ _ => ?_) | refine s_b0 (fun _ => ?_) | ((fail_if_success refine g_lit rfl rfl rfl ?_); first | apply g_partM rfl rfl rfl | apply g_partMB rfl rfl rfl | fail))
              | refine gS ?_ | exact s_m | intro _)
            refine g_as 13 (v' := .bool ((L.take (k + 1)).any (· == 47))) rfl (congrArg Value.bool (by rw [hstep]; rfl)) ?_
            refine g_as 14 (v' := int ((k + 1 : Nat) : Int)) rfl (congrArg (Value.int .i64) (by push_cast; rfl)) ?_
            exact gA (k + 1) (by omega) hk'
        · obtain rfl : k = L.length := by rw [txt_size] at h6; omega
          rw [List.take_length]
          cases hA : L.any (· == 47)
          · have hno : ∀ b ∈ L, b ≠ 47 := fun b hb e => by
              have : L.any (· == 47) = true := List.any_eq_true.2 ⟨b, hb, by simp [e]⟩
              rw [hA] at this; cases this
            have hg := fun (H' : HP) (hs : HP.sub H4 H') => pair_gets (hT4.grow hs) (hE.grow ((hs03.trans hs4).trans hs)) (hI4.grow hs) (hx.grow (hs4.trans hs)) hw (by omega) (by omega) i hi' L hkey hzi hno
            have hol := ones_len j
            have g0 := (hg H4 (HP.sub.refl _)).1
            repeat (first
              | (refine g_ops ?_; first | refine sO ?_ | refine s_n (fun _ => ?_) | refine s_app (fun _ _ => ?_) | refine s_b0 (fun _ => ?_) | ((fail_if_success refine g_lit rfl rfl rfl ?_); first | apply g_partM rfl rfl rfl | apply g_partMB rfl rfl rfl | fail))
              | refine gS ?_ | exact s_m | intro _)
            refine s_q (q := by exact qs_addT (ones j) L rfl rfl (by omega)) ?_
            refine s_q (q := by exact qs_addT (ones j ++ L) [47, 48] rfl rfl (by simp; omega)) ?_
            rw [List.append_assoc]
            repeat ((fail_if_success refine s_at 114 ?_); first
              | (refine g_ops ?_; first | refine sO ?_ | refine s_n (fun _ => ?_) | refine s_app (fun _ _ => ?_) | refine s_b0 (fun _ => ?_) | ((fail_if_success refine g_lit rfl rfl rfl ?_); first | apply g_partM rfl rfl rfl | apply g_partMB rfl rfl rfl | fail) | refine s_c (g0) (fun _ _ => ?_))
              | refine gS ?_ | exact s_m | intro _)
            rename_i y1 hy1
            obtain ⟨H5, w5⟩ := y1
            obtain ⟨hs5, hw5⟩ := hy1
            dsimp only at hs5 hw5 ⊢
            subst hw5
            have g2 := (hg H5 hs5).2
            have hiy := int_yes (i : Nat)
            have hr : ∀ k', k' = i → Reads (Pile H5) ⟨b3, o + k', none⟩ (.string (txt L)) := fun k' e => reads_grow hs5 (hr k' e)
            dsimp only [List.cons_append, List.nil_append]
            repeat (first
              | (refine g_ops ?_; first | refine sO ?_ | refine s_n (fun _ => ?_) | refine s_app (fun _ _ => ?_) | refine s_b0 (fun _ => ?_) | ((fail_if_success refine g_lit rfl rfl rfl ?_); first | apply g_partM rfl rfl rfl | apply g_partMB rfl rfl rfl | fail) | refine s_k (hiy) ?_)
              | refine gS ?_ | exact s_m | intro _)
            refine g_as 128 (v' := .bool false) rfl (congrArg Value.bool (by simp)) ?_
            dsimp only [List.cons_append, List.nil_append]
            repeat (first
              | (refine g_ops ?_; first | refine sO ?_ | refine s_n (fun _ => ?_) | refine s_app (fun _ _ => ?_) | refine s_b0 (fun _ => ?_) | ((fail_if_success refine g_lit rfl rfl rfl ?_); first | apply g_partM rfl rfl rfl | apply g_partMB rfl rfl rfl | fail))
              | refine gS ?_ | exact s_m | intro _)
            refine s_q (q := by exact qs_addT (ones j) L rfl rfl (by omega)) ?_
            refine s_q (q := by exact qs_addT (ones j ++ L) [47, 50] rfl rfl (by simp; omega)) ?_
            rw [List.append_assoc]
            repeat (first
              | (refine g_ops ?_; first | refine sO ?_ | refine s_n (fun _ => ?_) | refine s_app (fun _ _ => ?_) | refine s_b0 (fun _ => ?_) | ((fail_if_success refine g_lit rfl rfl rfl ?_); first | apply g_partM rfl rfl rfl | apply g_partMB rfl rfl rfl | fail) | refine s_c (g2) (fun _ _ => ?_))
              | refine gS ?_ | exact s_m | intro _)
            rename_i y2 hs6
            obtain ⟨H6, w6⟩ := y2
            dsimp only [List.cons_append, List.nil_append] at hs6 ⊢
            refine g_as 142 (v' := .bool false) rfl (congrArg Value.bool (by simp)) ?_
            repeat (first
              | (refine g_ops ?_; first | refine sO ?_ | refine s_n (fun _ => ?_) | refine s_app (fun _ _ => ?_) | refine s_b0 (fun _ => ?_) | ((fail_if_success refine g_lit rfl rfl rfl ?_); first | apply g_partM rfl rfl rfl | apply g_partMB rfl rfl rfl | fail))
              | refine gS ?_ | exact s_m | intro _)
            refine g_as 12 (v' := int ((i + 1 : Nat) : Int)) rfl (congrArg (Value.int .i64) (by push_cast; rfl)) ?_
            exact gA ⟨i + 1, H6⟩ (by simp only; omega) ⟨hi', hs4.trans (hs5.trans hs6)⟩
          · repeat (first
              | (refine g_ops ?_; first | refine sO ?_ | refine s_n (fun _ => ?_) | refine s_app (fun _ _ => ?_) | refine s_b0 (fun _ => ?_) | ((fail_if_success refine g_lit rfl rfl rfl ?_); first | apply g_partM rfl rfl rfl | apply g_partMB rfl rfl rfl | fail))
              | refine gS ?_ | exact s_m | intro _)
            refine g_as 12 (v' := int ((i + 1 : Nat) : Int)) rfl (congrArg (Value.int .i64) (by push_cast; rfl)) ?_
            exact gA ⟨i + 1, H4⟩ (by simp only; omega) ⟨hi', hs4⟩
      · have aw4 := awake1 (hT3.grow hs4)
        repeat (first
          | (refine g_ops ?_; first | refine sO ?_ | refine s_n (fun _ => ?_) | refine s_app (fun _ _ => ?_) | refine s_b0 (fun _ => ?_) | ((fail_if_success refine g_lit rfl rfl rfl ?_); first | apply g_partM rfl rfl rfl | apply g_partMB rfl rfl rfl | fail) | refine s_k (aw4) ?_)
          | refine gS ?_ | exact s_m | intro _)
        refine g_unpile (hs03.trans hs4) (by (repeat (first | exact Sel.here | apply Sel.there)); first | done | fail) ?_
        exact s_r ()
end Go.Proofs.YtpilcncdgjnbeaaDoor

namespace Go
variable {H : Type} {enc : TypeId × Value → H}
theorem returnsInHanded_and_shaped {a : Assume} {C : Checked} {os : Os} {f : FuncId} {fn : Func} {s : ChangeSpec} {conds : List PathCond} {apart fresh handsOn again : Bool} {X : World → Array Value → Prop}
    (hX : ∀ (w w' : World) (args : Array Value), w.heap = w'.heap → X w args → X w' args)
    (own : ownKnob C.prog.godebug = none) (started : os.Started) (noInit : C.prog.inits.idxOf? f = none) (hfn : C.prog.funcs[f]? = some fn)
    (witness : ∃ (w : World) (tape : Tape) (i : Input), w.os = os ∧ (w.forCall tape i).Shaped C.prog ∧ i.vars = [] ∧ Input.okWide C.prog (w.forCall tape i) .any w.heap.size f i ∧
      ((s.pre enc C.prog fn conds apart (w.forCall tape i).memory i.args ∧ X (w.forCall tape i).memory i.args) ∧ sizedMet enc C.prog fn (OpenSpec.ofChange s) apart (w.forCall tape i).memory i.args) ∧ a.holds C.prog (lone (Frame.enter C.prog f i.args .normal) [] (w.forCall tape i)))
    (contract : ∀ (W : World) (base : Nat) (args : Array Value) (ds gs : List (DataW H)) (before : List MemPlace), W.ShapedOpen C.prog →
      (∀ (j : Nat) t v, fn.params[j]? = some t → args[j]? = some v → Value.okWide C.prog W .any base t v) →
      DataW.Whole enc C.prog fn.params.toList s.vars apart W args.toList ds gs before →
      (DataW.weightsEach C.prog (fn.params.toList ++ s.plain.varTypes C.prog) (ds ++ gs)).all (· ≤ reachBytes) = true → X W args →
      Calls C.prog f args W fun e W' => ∃ v, e = .returned v ∧ s.post enc C.prog fn apart fresh handsOn again W args v W') :
    ReturnsInHanded a C os f .any (fun w args => (s.pre enc C.prog fn conds apart w args ∧ X w args) ∧ sizedMet enc C.prog fn (OpenSpec.ofChange s) apart w args) (s.post enc C.prog fn apart fresh handsOn again) := by
  refine returnsInHanded_of_calls own started noInit witness fun w tape i _ hs _ hok hpre _ => ?_
  obtain ⟨_, _, _, fn', hfn', _, _, _, _, hval⟩ := hok
  obtain rfl : fn' = fn := Option.some.inj (hfn'.symm.trans hfn)
  obtain ⟨⟨⟨ds, gs, before, hw, _⟩, hx⟩, hz⟩ := hpre
  refine (contract (w.forCall tape i) w.heap.size i.args ds gs before hs hval (DataW.Whole.of_heap (w' := w.forCall tape i) (by rfl) hw) (hz.weights hw) (hX _ _ _ (by rfl) hx)).mono fun e W' ⟨v, he, hp⟩ => ?_
  subst he
  exact ChangeSpec.post_blind hp
end Go
namespace Go.Proofs.YtpilcncdgjnbeaaDoor
open Go Go.Sl facts
theorem varI_of {W : World} (h : W.ShapedOpen Tryd.prog) : VarI (wheap W) 2 := by
  obtain ⟨m, hm⟩ := Tryd.laysMNm146.s1_3 W h
  have hm' : W.cell? ⟨2, 0, none⟩ = some (.int .i64 m) := hm
  unfold World.cell? at hm'
  dsimp only at hm'
  split at hm'
  · rename_i cs e fz hb
    exact ⟨m, cs, e, fz, hb, by simpa using hm'⟩
  · cases hm'
theorem strs_of {W : World} {x : SliceOf ByteArray} (h : x.xs.length ≤ x.cap ∧ x.cap ≤ maxLen ∧ (x.place = none → x.xs = [] ∧ x.cap = 0) ∧ ∀ (i : Nat) (y : ByteArray), x.xs[i]? = some y → ∃ b o c, x.place = some ⟨b, o, none⟩ ∧ Opens.is Tryd.prog 9 W y c ∧ c.length = 1 ∧ CellsAt W b (o + i * 1) c) : SlAt (Init W) 1 x.place x.xs.length (x.xs.map .string) ∧ x.xs.length ≤ 9223372036854775807 ∧ ∀ y ∈ x.xs, y.size ≤ 9223372036854775807 := by
  obtain ⟨g1, g2, g3, g4⟩ := h
  have e1 := slAt_of (g := fun t => [Value.string t]) (n := 1) (by decide) (fun e => (g3 e).1) g4 (fun x c hx _ => hx.1) (fun _ => rfl) (fun _ => rfl)
  rw [flat_one] at e1
  refine ⟨e1, ?_, fun y hy => ?_⟩
  · unfold maxLen at g2; omega
  · obtain ⟨i, hi, rfl⟩ := List.mem_iff_getElem.1 hy
    obtain ⟨_, _, c, _, ha, _⟩ := g4 i _ (List.getElem?_eq_getElem hi)
    have := ha.2
    unfold maxLen at this; omega
end Go.Proofs.YtpilcncdgjnbeaaDoor
