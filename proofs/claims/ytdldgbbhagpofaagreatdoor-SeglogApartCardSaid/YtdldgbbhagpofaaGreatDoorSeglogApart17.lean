/- Contracts and laws that the proof stands on. -/
import Derived.Test.YtdldgbbhagpofaaGreatDoorSeglogApart16
set_option linter.unusedSimpArgs false
set_option linter.unusedVariables false
namespace Go.Proofs.YtdldgbbhagpofaaGreatDoor
open Go.Sl facts
structure BV where
  p : Option Addr
  l : List UInt8
  c : Nat
abbrev BV.v (r : BV) : Value := .slice r.p r.l.length r.c
structure RecsAt (H : HP) (p : Option Addr) (rs : List BV) : Prop where
  sl : SlAt (Pile H) 1 p rs.length (rs.map BV.v)
  at_ : ∀ r ∈ rs, BtAt (Pile H) r.p r.l
theorem BtAt.grow {H H' : HP} {p : Option Addr} {l : List UInt8} (h : BtAt (Pile H) p l) (s : HP.sub H H') : BtAt (Pile H') p l := fun j hj => by
  obtain ⟨b, o, e, r⟩ := h j hj
  exact ⟨b, o, e, reads_grow s r⟩
theorem RecsAt.grow {H H' : HP} {p : Option Addr} {rs : List BV} (h : RecsAt H p rs) (s : HP.sub H H') : RecsAt H' p rs := ⟨h.sl.grow s, fun r hr => BtAt.grow (h.at_ r hr) s⟩
abbrev lrow (lg d : Nat) (rv fv : Value) (size : Int) (sl off : Bool) : Chunk := .row lg [ptr d, rv, fv, int size, .bool sl, .bool off] 67
abbrev bigB (r : BV) : Bool := decide (65536 < r.l.length)
def sumL (rs : List BV) : Nat := (rs.map fun r => r.l.length).sum
theorem sumL_take (rs : List BV) (i : Nat) (h : i < rs.length) : sumL (rs.take (i + 1)) = sumL (rs.take i) + rs[i].l.length := by
  unfold sumL
  rw [List.take_add_one, List.getElem?_eq_getElem h, List.map_append, List.sum_append]
  simp
theorem sumL_take_le (rs : List BV) (i : Nat) : sumL (rs.take i) ≤ sumL rs := by
  unfold sumL
  conv => rhs; rw [← List.take_append_drop i rs]
  simp only [List.map_append, List.sum_append]
  omega
attribute [local irreducible] Code.wp wpList Exit.then Exit.inBlock bodyPost Back MidQ G GP QStep VStep CStep SStep Does Post Reads
theorem len_ (lg d : Nat) (q : Option Addr) (n c : Nat) (fv : Value) (size : Int) (sl off : Bool) : Does1 Tryz.prog 11 [ptr lg] [lrow lg d (.slice q n c) fv size sl off] (int n) := by
  refine fn_intro Tryz.func11 rfl Tryz.ntmps11 rfl (by simp only [argFr, Nat.zero_add, Nat.reduceAdd]; rfl) (fun Γ => ?_)
  repeat (first
    | (refine g_ops ?_; first | refine sO ?_ | refine s_n (fun _ => ?_) | refine s_appB (fun _ _ => ?_) | refine s_app (fun _ _ => ?_) | refine s_b0 (fun _ => ?_) | ((fail_if_success refine g_lit rfl rfl rfl ?_); first | apply g_partM rfl rfl rfl | apply g_partMB rfl rfl rfl | fail))
    | refine gS ?_ | exact s_m | intro _)
  exact gR () trivial
theorem dead_ (lg d : Nat) (rv fv : Value) (size : Int) (sl off : Bool) : Does1 Tryz.prog 17 [ptr lg] [lrow lg d rv fv size sl off] (.bool off) := by
  refine fn_intro Tryz.func17 rfl Tryz.ntmps17 rfl (by simp only [argFr, Nat.zero_add, Nat.reduceAdd]; rfl) (fun Γ => ?_)
  repeat (first
    | (refine g_ops ?_; first | refine sO ?_ | refine s_n (fun _ => ?_) | refine s_appB (fun _ _ => ?_) | refine s_app (fun _ _ => ?_) | refine s_b0 (fun _ => ?_) | ((fail_if_success refine g_lit rfl rfl rfl ?_); first | apply g_partM rfl rfl rfl | apply g_partMB rfl rfl rfl | fail))
    | apply g_regB (id := 1) 2 | refine gS ?_ | exact s_m | intro _ | (refine gp_take ?_; first | refine pT ?_ | ((fail_if_success refine gp_lit rfl rfl rfl rfl ?_); first | apply gp_guard_dec rfl rfl rfl rfl | apply gp_guard rfl rfl rfl rfl | fail))
    | (refine gp_see ?_; first | refine p_f ?_ | refine pS ?_ | ((fail_if_success refine gp_lit rfl rfl rfl rfl ?_); first | apply gp_guard_dec rfl rfl rfl rfl | apply gp_guard rfl rfl rfl rfl | fail))
    | (refine gp_one ?_; first | refine pO ?_ | refine p_n (fun _ => ?_) | refine p_appB (fun _ _ => ?_) | refine p_app (fun _ _ => ?_) | refine p_b0 (fun _ => ?_) | ((fail_if_success refine gp_lit rfl rfl rfl rfl ?_); first | apply gp_guard_dec rfl rfl rfl rfl | apply gp_guard rfl rfl rfl rfl | fail))
    | refine gp_two ?_ ?_ | refine gp_done hd hk ?_ | intro _ | refine p_ta hd hk (fun _ _ _ hd hk => ?_) | refine p_ts hd hk (fun _ hd hk => ?_))
  exact gR () trivial
theorem big1 (r : BV) : Does1 Tryz.prog 25 [r.v] [] (.bool (bigB r)) := by
  refine fn_intro Tryz.func25 rfl Tryz.ntmps25 rfl (by simp only [argFr, Nat.zero_add, Nat.reduceAdd]; rfl) (fun Γ => ?_)
  repeat (first
    | (refine g_ops ?_; first | refine sO ?_ | refine s_n (fun _ => ?_) | refine s_appB (fun _ _ => ?_) | refine s_app (fun _ _ => ?_) | refine s_b0 (fun _ => ?_) | ((fail_if_success refine g_lit rfl rfl rfl ?_); first | apply g_partM rfl rfl rfl | apply g_partMB rfl rfl rfl | fail))
    | refine gS ?_ | exact s_m | intro _)
  exact g_ret () rfl (by (repeat (first | exact RVs.nil | apply RVs.tmp rfl | apply RVs.cellA rfl (by (repeat (first | exact Sel.here | apply Sel.there)); first | done | fail) (by (repeat (first | exact Cut.zero | apply Cut.take | apply Cut.skip)); first | done | fail) | apply RVs.cell1 rfl (by (repeat (first | exact Sel.here | apply Sel.there)); first | done | fail) rfl)); first | done | fail) (by (repeat (first | exact Take.nil | apply Take.cons | exact Sel.here | apply Sel.there)); first | done | fail) (by simp only [pack, bigB]; congr 2; exact propext ⟨fun h => by omega, fun h => by omega⟩) trivial
abbrev fBig : FuncId := 25
theorem indexB {H : HP} (p : Option Addr) (c : Nat) (l : List BV) (hR : RecsAt H p l) (hl : l.length ≤ 1000000000) :
    Does Tryz.prog 45 [.slice p l.length c, .func (.func fBig) #[] #[]] [Pile H] (X := Int) (fun k => int k) (fun _ => [Pile H]) (fun k => decide (0 ≤ k) = l.any bigB) := by
  refine fn_intro Tryz.func45 rfl Tryz.ntmps45 rfl (by simp only [argFr, Nat.zero_add, Nat.reduceAdd]; rfl) (fun Γ => ?_)
  repeat (first
    | (refine g_ops ?_; first | refine sO ?_ | refine s_n (fun _ => ?_) | refine s_appB (fun _ _ => ?_) | refine s_app (fun _ _ => ?_) | refine s_b0 (fun _ => ?_) | ((fail_if_success refine g_lit rfl rfl rfl ?_); first | apply g_partM rfl rfl rfl | apply g_partMB rfl rfl rfl | fail))
    | refine gS ?_ | exact s_m | intro _)
  refine g_loop (X := Nat) (fun i => [(0, .slice p l.length c), (1, .func (.func fBig) #[] #[]), (7, int l.length), (8, int i)]) (fun _ => [Pile H]) (fun i => i ≤ l.length ∧ ∀ j (hj : j < l.length), j < i → bigB l[j] = false) (fun i => l.length - i) 0 ⟨Nat.zero_le _, fun j _ h => by omega⟩ (by (repeat (first | exact FrSub.nil | refine FrSub.cons rfl ?_)); first | done | fail) (by (repeat (first | exact Take.nil | apply Take.cons | exact Sel.here | apply Sel.there)); first | done | fail) (fun i hi => ?_)
  obtain ⟨hi, hb⟩ := hi
  repeat (first
    | (refine g_ops ?_; first | refine sO ?_ | refine s_n (fun _ => ?_) | refine s_appB (fun _ _ => ?_) | refine s_app (fun _ _ => ?_) | refine s_b0 (fun _ => ?_) | ((fail_if_success refine g_lit rfl rfl rfl ?_); first | apply g_partM rfl rfl rfl | apply g_partMB rfl rfl rfl | fail))
    | refine gS ?_ | exact s_m | intro _)
  refine g_cond_dec rfl (fun h2 => ?_) (fun h2 => ?_)
  · have hi' : i < l.length := by omega
    obtain ⟨rb, ro, rfl, hrow⟩ := slAt_cell hR.sl (i := i) (v := (l[i]).v) (by simp [hi'])
    generalize hr0 : l[i] = r at hrow
    have hr : ∀ k, k = i → Reads (Pile H) ⟨rb, ro + k, none⟩ r.v := fun k hk => by rw [hk]; exact hrow
    repeat (first
      | (refine g_ops ?_; first | refine sO ?_ | refine s_n (fun _ => ?_) | refine s_appB (fun _ _ => ?_) | refine s_app (fun _ _ => ?_) | refine s_b0 (fun _ => ?_) | ((fail_if_success refine g_lit rfl rfl rfl ?_); first | apply g_partM rfl rfl rfl | apply g_partMB rfl rfl rfl | fail))
      | refine gS ?_ | exact s_m | intro _)
    refine g_c (cs_callV (big1 r) (vs := [r.v]) (caps := []) rfl (by (repeat (first | exact Evs.nil | refine Evs.cons rfl ?_)); first | done | fail) rfl (by (repeat (first | exact Take.nil | apply Take.cons | exact Sel.here | apply Sel.there)); first | done | fail)) rfl rfl (fun _ _ => ?_)
    repeat (first
      | (refine g_ops ?_; first | refine sO ?_ | refine s_n (fun _ => ?_) | refine s_appB (fun _ _ => ?_) | refine s_app (fun _ _ => ?_) | refine s_b0 (fun _ => ?_) | ((fail_if_success refine g_lit rfl rfl rfl ?_); first | apply g_partM rfl rfl rfl | apply g_partMB rfl rfl rfl | fail))
      | refine gS ?_ | exact s_m | intro _)
    refine g_cond rfl (fun h3 => ?_) (fun h3 => ?_)
    · have ha : l.any bigB = true := List.any_eq_true.2 ⟨l[i], List.getElem_mem hi', by rw [hr0]; exact h3⟩
      repeat (first
        | (refine g_ops ?_; first | refine sO ?_ | refine s_n (fun _ => ?_) | refine s_appB (fun _ _ => ?_) | refine s_app (fun _ _ => ?_) | refine s_b0 (fun _ => ?_) | ((fail_if_success refine g_lit rfl rfl rfl ?_); first | apply g_partM rfl rfl rfl | apply g_partMB rfl rfl rfl | fail))
        | refine gS ?_ | exact s_m | intro _)
      exact gR (i : Int) (by rw [ha]; simp)
    · repeat (first
        | (refine g_ops ?_; first | refine sO ?_ | refine s_n (fun _ => ?_) | refine s_appB (fun _ _ => ?_) | refine s_app (fun _ _ => ?_) | refine s_b0 (fun _ => ?_) | ((fail_if_success refine g_lit rfl rfl rfl ?_); first | apply g_partM rfl rfl rfl | apply g_partMB rfl rfl rfl | fail))
        | refine gS ?_ | exact s_m | intro _)
      refine g_as 8 (v' := int ((i + 1 : Nat) : Int)) rfl (congrArg (Value.int .i64) (by push_cast; rfl)) ?_
      exact g_again (i + 1) (by omega) ⟨hi', fun j hj hji => by
        by_cases e : j = i
        · subst e; rw [hr0]; exact h3
        · exact hb j hj (by omega)⟩ (by (repeat (first | exact FrSub.nil | refine FrSub.cons rfl ?_)); first | done | fail) (by (repeat (first | exact Take.nil | apply Take.cons | exact Sel.here | apply Sel.there)); first | done | fail)
  · have ha : l.any bigB = false := by
      rw [List.any_eq_false]
      intro x hx
      obtain ⟨j, hj, rfl⟩ := List.mem_iff_getElem.1 hx
      rw [hb j hj (by omega)]; simp
    repeat (first
      | (refine g_ops ?_; first | refine sO ?_ | refine s_n (fun _ => ?_) | refine s_appB (fun _ _ => ?_) | refine s_app (fun _ _ => ?_) | refine s_b0 (fun _ => ?_) | ((fail_if_success refine g_lit rfl rfl rfl ?_); first | apply g_partM rfl rfl rfl | apply g_partMB rfl rfl rfl | fail))
      | refine gS ?_ | exact s_m | intro _)
    exact gR (-1 : Int) (by rw [ha]; rfl)
theorem anyB {H : HP} (p : Option Addr) (c : Nat) (l : List BV) (hR : RecsAt H p l) (hl : l.length ≤ 1000000000) :
    Does1 Tryz.prog 24 [.slice p l.length c, .func (.func fBig) #[] #[]] [Pile H] (.bool (l.any bigB)) := by
  have hI := indexB p c l hR hl
  refine fn_intro Tryz.func24 rfl Tryz.ntmps24 rfl (by simp only [argFr, Nat.zero_add, Nat.reduceAdd]; rfl) (fun Γ => ?_)
  repeat (first
    | (refine g_ops ?_; first | refine sO ?_ | refine s_n (fun _ => ?_) | refine s_appB (fun _ _ => ?_) | refine s_app (fun _ _ => ?_) | refine s_b0 (fun _ => ?_) | ((fail_if_success refine g_lit rfl rfl rfl ?_); first | apply g_partM rfl rfl rfl | apply g_partMB rfl rfl rfl | fail))
    | refine gS ?_ | exact s_m | intro _)
  refine g_call hI rfl rfl (by (repeat (first | exact Evs.nil | refine Evs.cons rfl ?_)); first | done | fail) (by (repeat (first | exact Take.nil | apply Take.cons | exact Sel.here | apply Sel.there)); first | done | fail) (fun k hk => ?_)
  repeat (first
    | (refine g_ops ?_; first | refine sO ?_ | refine s_n (fun _ => ?_) | refine s_appB (fun _ _ => ?_) | refine s_app (fun _ _ => ?_) | refine s_b0 (fun _ => ?_) | ((fail_if_success refine g_lit rfl rfl rfl ?_); first | apply g_partM rfl rfl rfl | apply g_partMB rfl rfl rfl | fail))
    | refine gS ?_ | exact s_m | intro _)
  exact g_ret () rfl (by (repeat (first | exact RVs.nil | apply RVs.tmp rfl | apply RVs.cellA rfl (by (repeat (first | exact Sel.here | apply Sel.there)); first | done | fail) (by (repeat (first | exact Cut.zero | apply Cut.take | apply Cut.skip)); first | done | fail) | apply RVs.cell1 rfl (by (repeat (first | exact Sel.here | apply Sel.there)); first | done | fail) rfl)); first | done | fail) (by (repeat (first | exact Take.nil | apply Take.cons | exact Sel.here | apply Sel.there)); first | done | fail) (by simp only [pack]; rw [hk]) trivial
theorem lsum {H : HP} (p : Option Addr) (c : Nat) (l : List BV) (hR : RecsAt H p l) (hl : l.length ≤ 1000000000) (hs : sumL l ≤ 8388608) :
    Does1 Tryz.prog 26 [.slice p l.length c] [Pile H] (int (sumL l)) := by
  refine fn_intro Tryz.func26 rfl Tryz.ntmps26 rfl (by simp only [argFr, Nat.zero_add, Nat.reduceAdd]; rfl) (fun Γ => ?_)
  repeat (first
    | (refine g_ops ?_; first | refine sO ?_ | refine s_n (fun _ => ?_) | refine s_appB (fun _ _ => ?_) | refine s_app (fun _ _ => ?_) | refine s_b0 (fun _ => ?_) | ((fail_if_success refine g_lit rfl rfl rfl ?_); first | apply g_partM rfl rfl rfl | apply g_partMB rfl rfl rfl | fail))
    | refine gS ?_ | exact s_m | intro _)
  refine g_loop (X := Nat) (fun i => [(2, int (sumL (l.take i))), (5, .slice p l.length c), (6, int l.length), (7, int i)]) (fun _ => [Pile H]) (fun i => i ≤ l.length) (fun i => l.length - i) 0 (Nat.zero_le _) (by (repeat (first | exact FrSub.nil | refine FrSub.cons rfl ?_)); first | done | fail) (by (repeat (first | exact Take.nil | apply Take.cons | exact Sel.here | apply Sel.there)); first | done | fail) (fun i hi => ?_)
  repeat (first
    | (refine g_ops ?_; first | refine sO ?_ | refine s_n (fun _ => ?_) | refine s_appB (fun _ _ => ?_) | refine s_app (fun _ _ => ?_) | refine s_b0 (fun _ => ?_) | ((fail_if_success refine g_lit rfl rfl rfl ?_); first | apply g_partM rfl rfl rfl | apply g_partMB rfl rfl rfl | fail))
    | refine gS ?_ | exact s_m | intro _)
  refine g_cond_dec rfl (fun h2 => ?_) (fun h2 => ?_)
  · have hi' : i < l.length := by omega
    obtain ⟨rb, ro, rfl, hrow⟩ := slAt_cell hR.sl (i := i) (v := (l[i]).v) (by simp [hi'])
    have hst := sumL_take l i hi'
    have hle := sumL_take_le l (i + 1)
    generalize hr0 : l[i] = r at hrow hst
    have hr : ∀ k, k = i → Reads (Pile H) ⟨rb, ro + k, none⟩ r.v := fun k hk => by rw [hk]; exact hrow
    repeat (first
      | (refine g_ops ?_; first | refine sO ?_ | refine s_n (fun _ => ?_) | refine s_appB (fun _ _ => ?_) | refine s_app (fun _ _ => ?_) | refine s_b0 (fun _ => ?_) | ((fail_if_success refine g_lit rfl rfl rfl ?_); first | apply g_partM rfl rfl rfl | apply g_partMB rfl rfl rfl | fail))
      | refine gS ?_ | exact s_m | intro _)
    refine g_as 2 (v' := int (sumL (l.take (i + 1)))) rfl (congrArg (Value.int .i64) (by rw [hst]; push_cast; rfl)) ?_
    refine g_as 14 (v' := int (sumL (l.take (i + 1)))) rfl (congrArg (Value.int .i64) (by rw [hst]; push_cast; rfl)) ?_
    repeat (first
      | (refine g_ops ?_; first | refine sO ?_ | refine s_n (fun _ => ?_) | refine s_appB (fun _ _ => ?_) | refine s_app (fun _ _ => ?_) | refine s_b0 (fun _ => ?_) | ((fail_if_success refine g_lit rfl rfl rfl ?_); first | apply g_partM rfl rfl rfl | apply g_partMB rfl rfl rfl | fail))
      | refine gS ?_ | exact s_m | intro _)
    refine g_cond_dec rfl (fun h3 => by omega) (fun h3 => ?_)
    repeat (first
      | (refine g_ops ?_; first | refine sO ?_ | refine s_n (fun _ => ?_) | refine s_appB (fun _ _ => ?_) | refine s_app (fun _ _ => ?_) | refine s_b0 (fun _ => ?_) | ((fail_if_success refine g_lit rfl rfl rfl ?_); first | apply g_partM rfl rfl rfl | apply g_partMB rfl rfl rfl | fail))
      | refine gS ?_ | exact s_m | intro _)
    refine g_as 7 (v' := int ((i + 1 : Nat) : Int)) rfl (congrArg (Value.int .i64) (by push_cast; rfl)) ?_
    exact gA (i + 1) (by omega) (by omega)
  · have e : l.take i = l := List.take_of_length_le (by omega)
    rw [e]
    repeat (first
      | (refine g_ops ?_; first | refine sO ?_ | refine s_n (fun _ => ?_) | refine s_appB (fun _ _ => ?_) | refine s_app (fun _ _ => ?_) | refine s_b0 (fun _ => ?_) | ((fail_if_success refine g_lit rfl rfl rfl ?_); first | apply g_partM rfl rfl rfl | apply g_partMB rfl rfl rfl | fail))
      | refine gS ?_ | exact s_m | intro _)
    exact gR () trivial
end Go.Proofs.YtdldgbbhagpofaaGreatDoor

namespace Go.Proofs.YtdldgbbhagpofaaGreatDoor
open Go.Sl facts
theorem btAt_of {C : Chunk} {p : Option Addr} {l : List UInt8} {m : Nat} (hm : m = l.length) (h : SlAt C 1 p m (cells8 l)) : BtAt C p l := fun j hj => slAt_cell h (cells8_get l j hj)
structure LG where
  rq : Option Addr
  rc : Nat
  rs : List BV
  fq : Option Addr
  fc : Nat
  fs : List Int
  size : Int
  sl : Bool
abbrev LG.own (x : LG) : List Chunk := [.own x.rq x.rs.length x.rc 1 (x.rs.map BV.v) 28, .own x.fq x.fs.length x.fc 1 (x.fs.map int) 3]
abbrev LG.row (x : LG) (lg d : Nat) (off : Bool) : Chunk := lrow lg d (.slice x.rq x.rs.length x.rc) (.slice x.fq x.fs.length x.fc) x.size x.sl off
abbrev LG.L (x : LG) (lg d : Nat) (off : Bool) : List Chunk := x.row lg d off :: x.own
def BtsAt (H : HP) (rs : List BV) : Prop := ∀ r ∈ rs, BtAt (Pile H) r.p r.l
theorem BtsAt.grow {H H' : HP} {rs : List BV} (h : BtsAt H rs) (s : HP.sub H H') : BtsAt H' rs := fun r hr => BtAt.grow (h r hr) s
structure RdX where
  q : Option Addr
  c : Nat
  ws : List BV
  H : HP
abbrev bts (rs : List BV) : List (List UInt8) := rs.map (·.l)
attribute [local irreducible] Code.wp wpList Exit.then Exit.inBlock bodyPost Back MidQ G GP QStep VStep CStep SStep Does Post Reads
theorem read_bad (lg d : Nat) (x : LG) (off : Bool) (from_ max : Int) (h : from_ < 0 ∨ (x.rs.length : Int) < from_) : Does1 Tryz.prog 16 [ptr lg, int from_, int max] [x.row lg d off] (.tuple #[.slice none 0 0, int 4]) := by
  have hL := len_ lg d x.rq x.rs.length x.rc (.slice x.fq x.fs.length x.fc) x.size x.sl off
  refine fn_intro Tryz.func16 rfl Tryz.ntmps16 rfl (by simp only [argFr, Nat.zero_add, Nat.reduceAdd]; rfl) (fun Γ => ?_)
  repeat (first
    | (refine g_ops ?_; first | refine sO ?_ | refine s_n (fun _ => ?_) | refine s_appB (fun _ _ => ?_) | refine s_app (fun _ _ => ?_) | refine s_b0 (fun _ => ?_) | ((fail_if_success refine g_lit rfl rfl rfl ?_); first | apply g_partM rfl rfl rfl | apply g_partMB rfl rfl rfl | fail) | refine s_k (hL) ?_)
    | apply g_regB (id := 1) 16 | apply g_regB (id := 4) 27 | refine gS ?_ | exact s_m | intro _ | (refine gp_take ?_; first | refine pT ?_ | ((fail_if_success refine gp_lit rfl rfl rfl rfl ?_); first | apply gp_guard_dec rfl rfl rfl rfl | apply gp_guard rfl rfl rfl rfl | fail))
    | (refine gp_see ?_; first | refine p_f ?_ | refine pS ?_ | ((fail_if_success refine gp_lit rfl rfl rfl rfl ?_); first | apply gp_guard_dec rfl rfl rfl rfl | apply gp_guard rfl rfl rfl rfl | fail) | refine p_h (hL) hd hk ?_)
    | (refine gp_one ?_; first | refine pO ?_ | refine p_n (fun _ => ?_) | refine p_appB (fun _ _ => ?_) | refine p_app (fun _ _ => ?_) | refine p_b0 (fun _ => ?_) | ((fail_if_success refine gp_lit rfl rfl rfl rfl ?_); first | apply gp_guard_dec rfl rfl rfl rfl | apply gp_guard rfl rfl rfl rfl | fail) | refine p_k (hL) ?_)
    | refine gp_two ?_ ?_ | refine gp_done hd hk ?_ | intro _ | refine p_ta hd hk (fun _ _ _ hd hk => ?_) | refine p_ts hd hk (fun _ hd hk => ?_))
  refine g_as 16 (v' := .bool true) rfl (congrArg Value.bool (by rcases h with h | h <;> simp [h])) ?_
  repeat (first
    | (refine g_ops ?_; first | refine sO ?_ | refine s_n (fun _ => ?_) | refine s_appB (fun _ _ => ?_) | refine s_app (fun _ _ => ?_) | refine s_b0 (fun _ => ?_) | ((fail_if_success refine g_lit rfl rfl rfl ?_); first | apply g_partM rfl rfl rfl | apply g_partMB rfl rfl rfl | fail))
    | refine gS ?_ | exact s_m | intro _)
  exact gR () trivial
def rdL (rs : List BV) (from_ : Nat) (max : Int) : List BV := (rs.drop from_).take max.toNat
theorem bts_snoc (ws : List BV) (w : BV) : bts (ws ++ [w]) = bts ws ++ [w.l] := by simp
theorem rd_snoc {rs : List BV} {f k : Nat} (h : f + k < rs.length) : bts ((rs.drop f).take (k + 1)) = bts ((rs.drop f).take k) ++ [rs[f + k].l] := by
  rw [List.take_add_one, List.getElem?_drop, List.getElem?_eq_getElem h]
  simp
theorem read_ {H : HP} (lg d : Nat) (x : LG) (off : Bool) (f : Nat) (max : Int) (hf : f ≤ x.rs.length) (hR : BtsAt H x.rs) (hn : x.rs.length ≤ 1000000) (hb : ∀ r ∈ x.rs, r.l.length ≤ 1000000) :
    Does Tryz.prog 16 [ptr lg, int f, int max] (x.L lg d off ++ [Pile H]) (X := RdX) (fun y => .tuple #[.slice y.q y.ws.length y.c, int 0]) (fun y => x.L lg d off ++ [.own y.q y.ws.length y.c 1 (y.ws.map BV.v) 28, Pile y.H])
      (fun y => HP.sub H y.H ∧ BtsAt y.H y.ws ∧ bts y.ws = bts (rdL x.rs f max)) := by
  obtain ⟨rq, rc, rs, fq, fc, fs, size, sl⟩ := x
  dsimp only [LG.L, LG.row, LG.own] at hf hR hn hb ⊢
  have hL := len_ lg d rq rs.length rc (.slice fq fs.length fc) size sl off
  refine fn_intro Tryz.func16 rfl Tryz.ntmps16 rfl (by simp only [argFr, Nat.zero_add, Nat.reduceAdd]; rfl) (fun Γ => ?_)
  dsimp only [List.cons_append, List.nil_append]
  repeat (first
    | (refine g_ops ?_; first | refine sO ?_ | refine s_n (fun _ => ?_) | refine s_appB (fun _ _ => ?_) | refine s_app (fun _ _ => ?_) | refine s_b0 (fun _ => ?_) | ((fail_if_success refine g_lit rfl rfl rfl ?_); first | apply g_partM rfl rfl rfl | apply g_partMB rfl rfl rfl | fail) | refine s_k (hL) ?_)
    | apply g_regB (id := 1) 16 | apply g_regB (id := 4) 27 | refine gS ?_ | exact s_m | intro _ | (refine gp_take ?_; first | refine pT ?_ | ((fail_if_success refine gp_lit rfl rfl rfl rfl ?_); first | apply gp_guard_dec rfl rfl rfl rfl | apply gp_guard rfl rfl rfl rfl | fail))
    | (refine gp_see ?_; first | refine p_f ?_ | refine pS ?_ | ((fail_if_success refine gp_lit rfl rfl rfl rfl ?_); first | apply gp_guard_dec rfl rfl rfl rfl | apply gp_guard rfl rfl rfl rfl | fail) | refine p_h (hL) hd hk ?_)
    | (refine gp_one ?_; first | refine pO ?_ | refine p_n (fun _ => ?_) | refine p_appB (fun _ _ => ?_) | refine p_app (fun _ _ => ?_) | refine p_b0 (fun _ => ?_) | ((fail_if_success refine gp_lit rfl rfl rfl rfl ?_); first | apply gp_guard_dec rfl rfl rfl rfl | apply gp_guard rfl rfl rfl rfl | fail) | refine p_k (hL) ?_)
    | refine gp_two ?_ ?_ | refine gp_done hd hk ?_ | intro _ | refine p_ta hd hk (fun _ _ _ hd hk => ?_) | refine p_ts hd hk (fun _ hd hk => ?_))
  refine g_as 16 (v' := .bool false) rfl (congrArg Value.bool (by simp; omega)) ?_
  repeat (first
    | (refine g_ops ?_; first | refine sO ?_ | refine s_n (fun _ => ?_) | refine s_appB (fun _ _ => ?_) | refine s_app (fun _ _ => ?_) | refine s_b0 (fun _ => ?_) | ((fail_if_success refine g_lit rfl rfl rfl ?_); first | apply g_partM rfl rfl rfl | apply g_partMB rfl rfl rfl | fail))
    | refine gS ?_ | exact s_m | intro _)
  refine g_own_nil none 1 28 ?_
  refine g_loop (X := RdX) (fun y => [(0, ptr lg), (2, int max), (6, .slice y.q y.ws.length y.c), (8, int ((f + y.ws.length : Nat) : Int))]) (fun y => (LG.mk rq rc rs fq fc fs size sl).L lg d off ++ [.own y.q y.ws.length y.c 1 (y.ws.map BV.v) 28, Pile y.H])
    (fun y => HP.sub H y.H ∧ BtsAt y.H y.ws ∧ f + y.ws.length ≤ rs.length ∧ (y.ws.length = 0 ∨ (y.ws.length : Int) ≤ max) ∧ bts y.ws = bts ((rs.drop f).take y.ws.length)) (fun y => rs.length - y.ws.length) ⟨none, 0, [], H⟩ ⟨HP.sub.refl _, fun r hr => by simp at hr, by simpa using hf, .inl rfl, by simp⟩ (by (repeat (first | exact FrSub.nil | refine FrSub.cons rfl ?_)); first | done | fail) (by (repeat (first | exact Take.nil | apply Take.cons | exact Sel.here | apply Sel.there)); first | done | fail) (fun y hy => ?_)
  obtain ⟨q, c, ws, H1⟩ := y
  obtain ⟨hsub, hW, hle, hmx, heq⟩ := hy
  dsimp only at hsub hW hle hmx heq ⊢
  dsimp only [List.cons_append, List.nil_append]
  repeat (first
    | (refine g_ops ?_; first | refine sO ?_ | refine s_n (fun _ => ?_) | refine s_appB (fun _ _ => ?_) | refine s_app (fun _ _ => ?_) | refine s_b0 (fun _ => ?_) | ((fail_if_success refine g_lit rfl rfl rfl ?_); first | apply g_partM rfl rfl rfl | apply g_partMB rfl rfl rfl | fail) | refine s_k (hL) ?_)
    | apply g_regB (id := 1) 16 | apply g_regB (id := 4) 27 | refine gS ?_ | exact s_m | intro _ | (refine gp_take ?_; first | refine pT ?_ | ((fail_if_success refine gp_lit rfl rfl rfl rfl ?_); first | apply gp_guard_dec rfl rfl rfl rfl | apply gp_guard rfl rfl rfl rfl | fail))
    | (refine gp_see ?_; first | refine p_f ?_ | refine pS ?_ | ((fail_if_success refine gp_lit rfl rfl rfl rfl ?_); first | apply gp_guard_dec rfl rfl rfl rfl | apply gp_guard rfl rfl rfl rfl | fail) | refine p_h (hL) hd hk ?_)
    | (refine gp_one ?_; first | refine pO ?_ | refine p_n (fun _ => ?_) | refine p_appB (fun _ _ => ?_) | refine p_app (fun _ _ => ?_) | refine p_b0 (fun _ => ?_) | ((fail_if_success refine gp_lit rfl rfl rfl rfl ?_); first | apply gp_guard_dec rfl rfl rfl rfl | apply gp_guard rfl rfl rfl rfl | fail) | refine p_k (hL) ?_)
    | refine gp_two ?_ ?_ | refine gp_done hd hk ?_ | intro _ | refine p_ta hd hk (fun _ _ _ hd hk => ?_) | refine p_ts hd hk (fun _ hd hk => ?_))
  by_cases hgo : f + ws.length < rs.length ∧ (ws.length : Int) < max
  · obtain ⟨hi, hm⟩ := hgo
    refine g_as 27 (v' := .bool true) rfl (congrArg Value.bool (by rw [decide_eq_true (show ((f + ws.length : Nat) : Int) < (rs.length : Int) by omega), decide_eq_true hm]; rfl)) ?_
    refine g_own (p := rq) (len := rs.length) (cap := rc) (n := 1) (xs := rs.map BV.v) (e := 28) (by (repeat (first | exact Sel.here | apply Sel.there)); first | done | fail) (fun _ _ hq => ?_)
    obtain ⟨b, rfl⟩ := hq (by omega)
    have hrow := reads_own (b := b) (len := rs.length) (cap := rc) (n := 1) (e := 28) (xs := rs.map BV.v) (j := f + ws.length) (v := (rs[f + ws.length]).v) (by simp [hi])
    have hrd := rd_snoc hi
    have hbb := hR rs[f + ws.length] (List.getElem_mem hi)
    have hbl := hb rs[f + ws.length] (List.getElem_mem hi)
    generalize hr0 : rs[f + ws.length] = r at hrow hrd hbb hbl
    have hr : ∀ k, k = f + ws.length → Reads (.own (some ⟨b, 0, none⟩) rs.length rc 1 (rs.map BV.v) 28) ⟨b, k, none⟩ r.v := fun k hk => by rw [hk]; exact hrow
    have hcl := cloneB (C := Pile H1) (p := r.p) (m := r.l.length) (c := r.c) (news := cells8 r.l) (btAt_slAt (BtAt.grow hbb hsub)) (by omega)
    repeat (first
      | (refine g_ops ?_; first | refine sO ?_ | refine s_n (fun _ => ?_) | refine s_appB (fun _ _ => ?_) | refine s_app (fun _ _ => ?_) | refine s_b0 (fun _ => ?_) | ((fail_if_success refine g_lit rfl rfl rfl ?_); first | apply g_partM rfl rfl rfl | apply g_partMB rfl rfl rfl | fail) | refine s_c (hcl) (fun _ _ => ?_))
      | refine gS ?_ | exact s_m | intro _)
    rename_i y _ rb q' c'
    obtain ⟨yp, yc⟩ := y
    dsimp only
    refine g_pile (p := yp) (m := r.l.length) (c := yc) (n := 1) (xs := cells8 r.l) (e := 5) (by (repeat (first | exact Sel.here | apply Sel.there)); first | done | fail) (by (repeat (first | exact Sel.here | apply Sel.there)); first | done | fail) (fun H2 hs2 hA2 => ?_)
    have hlen : (ws ++ [BV.mk yp r.l yc]).length = ws.length + 1 := by simp
    have hmap : (ws ++ [BV.mk yp r.l yc]).map BV.v = ws.map BV.v ++ [.slice yp r.l.length yc] := by simp
    refine g_as 8 (v' := int ((f + (ws.length + 1) : Nat) : Int)) rfl (congrArg (Value.int .i64) (by push_cast; omega)) ?_
    rw [← hlen, ← hmap]
    refine gA ⟨q', c', ws ++ [BV.mk yp r.l yc], H2⟩ (by simp only; omega) ⟨hsub.trans hs2, fun z hz => ?_, by simp only; omega, .inr (by simp only; rw [hlen]; push_cast; omega), ?_⟩
    · rcases List.mem_append.1 hz with h | h
      · exact BtAt.grow (hW z h) hs2
      · rw [List.mem_singleton.1 h]
        exact btAt_of rfl hA2
    · dsimp only
      rw [hlen, hrd, bts_snoc, ← heq]
  · refine g_as 27 (v' := .bool false) rfl (congrArg Value.bool (by
      by_cases h1 : ((f + ws.length : Nat) : Int) < (rs.length : Int)
      · rw [decide_eq_true h1, decide_eq_false (fun h2 => hgo ⟨by omega, h2⟩)]; rfl
      · rw [decide_eq_false h1]; rfl)) ?_
    repeat (first
      | (refine g_ops ?_; first | refine sO ?_ | refine s_n (fun _ => ?_) | refine s_appB (fun _ _ => ?_) | refine s_app (fun _ _ => ?_) | refine s_b0 (fun _ => ?_) | ((fail_if_success refine g_lit rfl rfl rfl ?_); first | apply g_partM rfl rfl rfl | apply g_partMB rfl rfl rfl | fail))
      | refine gS ?_ | exact s_m | intro _)
    refine gR ⟨q, c, ws, H1⟩ ⟨hsub, hW, ?_⟩
    rw [heq]
    unfold rdL
    congr 1
    by_cases h1 : f + ws.length < rs.length
    · have : ¬ (ws.length : Int) < max := fun h => hgo ⟨h1, h⟩
      rcases hmx with h0 | h0
      · rw [h0]
        have : max.toNat = 0 := by omega
        rw [this]
      · have : max.toNat = ws.length := by omega
        rw [this]
    · rw [List.take_of_length_le (by rw [List.length_drop]; omega)]
      rcases hmx with h0 | h0
      · have : rs.drop f = [] := List.drop_eq_nil_of_le (by omega)
        rw [this]; simp
      · rw [List.take_of_length_le (by rw [List.length_drop]; omega)]
end Go.Proofs.YtdldgbbhagpofaaGreatDoor

namespace Go.Proofs.YtdldgbbhagpofaaGreatDoor
open Go.Sl facts
structure PA where
  file : Nat
  first : Nat
  fresh : Bool
  l : List BV
structure PV where
  file : Nat
  first : Nat
  fresh : Bool
  l : List BV
  p : Option Addr
  c : Nat
abbrev PV.a (x : PV) : PA := ⟨x.file, x.first, x.fresh, x.l⟩
abbrev PV.cells (x : PV) : List Value := [int x.file, int x.first, .bool x.fresh, .slice x.p x.l.length x.c]
abbrev PV.v (x : PV) : Value := .agg x.cells.toArray
def PAt (H : HP) (x : PV) : Prop := SlAt (Pile H) 1 x.p x.l.length (x.l.map BV.v)
theorem PAt.grow {H H' : HP} {x : PV} (h : PAt H x) (s : HP.sub H H') : PAt H' x := SlAt.grow h s
structure St where
  out : List PA
  next : Nat
  size : Nat
  opn : Bool
def addLast (r : BV) : List PA → List PA
  | [] => []
  | [a] => [{ a with l := a.l ++ [r] }]
  | a :: b :: t => a :: addLast r (b :: t)
theorem addLast_snoc (r : BV) (a : PA) : ∀ d : List PA, addLast r (d ++ [a]) = d ++ [{ a with l := a.l ++ [r] }]
  | [] => rfl
  | [b] => rfl
  | b :: c :: t => by
    have := addLast_snoc r a (c :: t)
    simp only [List.cons_append] at this ⊢
    show b :: addLast r (c :: (t ++ [a])) = _
    rw [this]
def St.step (f0 i : Nat) (r : BV) (s : St) : St :=
  if s.opn = false ∨ 2000 ≤ s.size then ⟨s.out ++ [⟨s.next, f0 + i, true, [r]⟩], s.next + 1, r.l.length, true⟩
  else ⟨addLast r s.out, s.next, s.size + r.l.length, s.opn⟩
def pgo (f0 : Nat) : Nat → List BV → St → St
  | _, [], s => s
  | i, r :: t, s => pgo f0 (i + 1) t (s.step f0 i r)
def st0 (segs size : Nat) (sealed_ : Bool) (f0 : Nat) : St :=
  if 0 < segs ∧ sealed_ = false ∧ size < 2000 then ⟨[⟨segs - 1, f0, false, []⟩], segs, size, true⟩ else ⟨[], segs, size, false⟩
def partsL (segs size : Nat) (sealed_ : Bool) (f0 : Nat) (rs : List BV) : St := pgo f0 0 rs (st0 segs size sealed_ f0)
structure PsX where
  i : Nat
  ps : List PV
  q : Option Addr
  ll : List BV
  c : Nat
  next : Nat
  size : Nat
  opn : Bool
  oq : Option Addr
  oc : Nat
  H : HP
structure PrX where
  ps : List PV
  oq : Option Addr
  oc : Nat
  H : HP
structure MdX where
  dn : List PV
  la : PV
  next : Nat
  size : Nat
  oq : Option Addr
  oc : Nat
  H : HP
theorem pv_len (x : PV) : x.cells.length = 4 := rfl
structure PsOk (f0 : Nat) (rs : List BV) (fin : St) (n0 b0 : Nat) (H0 : HP) (x : PsX) : Prop where
  le : x.i ≤ rs.length
  sub : HP.sub H0 x.H
  fin : pgo f0 x.i (rs.drop x.i) ⟨x.ps.map PV.a, x.next, x.size, x.opn⟩ = fin
  opn : x.opn = true → ∃ dn la, x.ps = dn ++ [la] ∧ la.p = x.q ∧ la.l = x.ll ∧ la.c = x.c ∧ ∀ p ∈ dn, PAt x.H p
  shut : x.opn = false → x.ps = []
  ll : x.ll.length ≤ x.i
  pl : x.ps.length ≤ x.i + 1
  nx : x.next ≤ n0 + x.i
  sz : x.size ≤ b0 + sumL (rs.take x.i)
theorem flat_set (dn : List PV) (la : PV) (l : List BV) (q : Option Addr) (c : Nat) : ((dn ++ [la]).flatMap PV.cells).set (dn.length * 4 + 3) (.slice q l.length c) = (dn ++ [{ la with l := l, p := q, c := c }]).flatMap PV.cells := by
  have hl : (dn.flatMap PV.cells).length = dn.length * 4 := flat_len pv_len dn
  rw [List.flatMap_append, List.flatMap_append, List.set_append_right _ _ (by omega), hl, Nat.add_sub_cancel_left]
  rfl
structure MdOk (f0 i : Nat) (r : BV) (s0 : St) (n0 b0 : Nat) (H1 : HP) (y : MdX) : Prop where
  sub : HP.sub H1 y.H
  dn : ∀ z ∈ y.dn, PAt y.H z
  step : St.step f0 i r s0 = ⟨addLast r ((y.dn ++ [y.la]).map PV.a), y.next, y.size + r.l.length, true⟩
  ll : y.la.l.length ≤ i
  pl : (y.dn ++ [y.la]).length ≤ i + 2
  nx : y.next ≤ n0 + i + 1
  sz : y.size ≤ b0
attribute [local irreducible] Code.wp wpList Exit.then Exit.inBlock bodyPost Back MidQ G GP QStep VStep CStep SStep Does Post Reads
theorem parts_ {H : HP} (lg d : Nat) (x : LG) (off : Bool) (p : Option Addr) (c : Nat) (rs : List BV) (size0 : Nat) (hz : x.size = size0) (hR : RecsAt H p rs) (hn : rs.length ≤ 100) (hs : sumL rs ≤ 8388608) (hz1 : size0 ≤ 1000000000) (h1 : x.rs.length ≤ 1000000) (h2 : x.fs.length ≤ 1000000) :
    Does Tryz.prog 27 [ptr lg, .slice p rs.length c] [x.row lg d off, Pile H] (X := PrX) (fun y => .tuple #[.slice y.oq y.ps.length y.oc, int (partsL x.fs.length size0 x.sl x.rs.length rs).size])
      (fun y => [x.row lg d off, .own y.oq y.ps.length y.oc 4 (y.ps.flatMap PV.cells) 63, Pile y.H])
      (fun y => HP.sub H y.H ∧ y.ps.map PV.a = (partsL x.fs.length size0 x.sl x.rs.length rs).out ∧ ∀ z ∈ y.ps, PAt y.H z) := by
  obtain ⟨rq, rc, xs, fq, fc, fs, size, sl⟩ := x
  dsimp only [LG.row] at hz h1 h2 ⊢
  subst hz
  have hfin : pgo xs.length 0 rs (st0 fs.length size0 sl xs.length) = partsL fs.length size0 sl xs.length rs := rfl
  generalize partsL fs.length size0 sl xs.length rs = fin at hfin ⊢
  refine fn_intro Tryz.func27 rfl Tryz.ntmps27 rfl (by simp only [argFr, Nat.zero_add, Nat.reduceAdd]; rfl) (fun Γ => ?_)
  repeat (first
    | (refine g_ops ?_; first | refine sO ?_ | refine s_n (fun _ => ?_) | refine s_appB (fun _ _ => ?_) | refine s_app (fun _ _ => ?_) | refine s_b0 (fun _ => ?_) | ((fail_if_success refine g_lit rfl rfl rfl ?_); first | apply g_partM rfl rfl rfl | apply g_partMB rfl rfl rfl | fail))
    | refine g_draw (id := 1) (.take 0 (.take 1 (.take 2 (.see 3 [] (.take 4 (.take 5 (.take 6 (.take 7 (.see 8 [] (.take 9 (.take 10 (.take 11 (.see 12 [] (.take 13 (.take 14 (.take 15 (.take 16 .done))))))))))))))))) (by kernel_rfl) (take_all _) (fun k hd hk => ?_)
    | apply g_regB (id := 2) 8 | apply g_regB (id := 8) 59 | refine gS ?_ | exact s_m | intro _ | (refine gp_take ?_; first | refine pT ?_ | ((fail_if_success refine gp_lit rfl rfl rfl rfl ?_); first | apply gp_guard_dec rfl rfl rfl rfl | apply gp_guard rfl rfl rfl rfl | fail))
    | (refine gp_see ?_; first | refine p_f ?_ | refine pS ?_ | ((fail_if_success refine gp_lit rfl rfl rfl rfl ?_); first | apply gp_guard_dec rfl rfl rfl rfl | apply gp_guard rfl rfl rfl rfl | fail))
    | (refine gp_one ?_; first | refine pO ?_ | refine p_n (fun _ => ?_) | refine p_appB (fun _ _ => ?_) | refine p_app (fun _ _ => ?_) | refine p_b0 (fun _ => ?_) | ((fail_if_success refine gp_lit rfl rfl rfl rfl ?_); first | apply gp_guard_dec rfl rfl rfl rfl | apply gp_guard rfl rfl rfl rfl | fail))
    | refine gp_two ?_ ?_ | refine gp_done hd hk ?_ | intro _ | refine p_ta hd hk (fun _ _ _ hd hk => ?_) | refine p_ts hd hk (fun _ hd hk => ?_))
  dsimp only [List.nil_append]
  refine g_own_nil none 4 63 ?_
  refine g_own_nil none 1 28 ?_
  refine g_cutX (X := PsX) (fun y => [(1, .slice p rs.length c), (4, .slice y.oq y.ps.length y.oc), (5, int y.size), (6, int y.next), (7, int xs.length), (8, .bool y.opn)])
    (fun y => [lrow lg d (.slice rq xs.length rc) (.slice fq fs.length fc) size0 sl off, .own y.oq y.ps.length y.oc 4 (y.ps.flatMap PV.cells) 63, .own y.q y.ll.length y.c 1 (y.ll.map BV.v) 28, Pile y.H]) (fun y => y.i = 0 ∧ PsOk xs.length rs fin fs.length size0 H y) ?_ (fun y hy => ?_)
  · by_cases hop : 0 < fs.length ∧ sl = false ∧ size0 < 2000
    · have e0 : st0 fs.length size0 sl xs.length = ⟨[⟨fs.length - 1, xs.length, false, []⟩], fs.length, size0, true⟩ := by unfold st0; rw [if_pos hop]
      rw [e0] at hfin
      obtain ⟨g1, g2, g3⟩ := hop
      subst g2
      refine g_as 39 (v' := .bool true) rfl (congrArg Value.bool (by rw [decide_eq_true (show (0 : Int) < (fs.length : Int) by omega), decide_eq_true (show (size0 : Int) < 2000 by omega)]; rfl)) ?_
      refine g_as 8 (v' := .bool true) rfl (congrArg Value.bool (by rw [decide_eq_true (show (0 : Int) < (fs.length : Int) by omega), decide_eq_true (show (size0 : Int) < 2000 by omega)]; rfl)) ?_
      repeat (first
        | (refine g_ops ?_; first | refine sO ?_ | refine s_n (fun _ => ?_) | refine s_appB (fun _ _ => ?_) | refine s_app (fun _ _ => ?_) | refine s_b0 (fun _ => ?_) | ((fail_if_success refine g_lit rfl rfl rfl ?_); first | apply g_partM rfl rfl rfl | apply g_partMB rfl rfl rfl | fail))
        | refine gS ?_ | exact s_m | intro _)
      rename_i vb' q' c'
      dsimp only [List.nil_append]
      have e1 : ((fs.length : Int) - 1) = ((fs.length - 1 : Nat) : Int) := by omega
      rw [e1]
      exact gM (⟨0, [⟨fs.length - 1, xs.length, false, [], none, 0⟩], none, [], 0, fs.length, size0, true, q', c', H⟩ : PsX) ⟨rfl, Nat.zero_le _, HP.sub.refl _, hfin, fun _ => ⟨[], _, rfl, rfl, rfl, rfl, fun z hz => by simp at hz⟩, fun h => (by cases h), Nat.zero_le _, by simp, by simp, by simp⟩
    · have e0 : st0 fs.length size0 sl xs.length = ⟨[], fs.length, size0, false⟩ := by unfold st0; rw [if_neg hop]
      rw [e0] at hfin
      have eb : (bif decide ((0 : Int) < (fs.length : Int)) then bif !sl then decide ((size0 : Int) < 2000) else false else false) = false := by
        by_cases g1 : 0 < fs.length
        · cases sl with
          | true => simp
          | false =>
            have g3 : ¬ size0 < 2000 := fun h => hop ⟨g1, rfl, h⟩
            simp; omega
        · rw [decide_eq_false (by omega)]; rfl
      refine g_as 39 (v' := .bool false) rfl (congrArg Value.bool eb) ?_
      refine g_as 8 (v' := .bool false) rfl (congrArg Value.bool eb) ?_
      repeat (first
        | (refine g_ops ?_; first | refine sO ?_ | refine s_n (fun _ => ?_) | refine s_appB (fun _ _ => ?_) | refine s_app (fun _ _ => ?_) | refine s_b0 (fun _ => ?_) | ((fail_if_success refine g_lit rfl rfl rfl ?_); first | apply g_partM rfl rfl rfl | apply g_partMB rfl rfl rfl | fail))
        | refine gS ?_ | exact s_m | intro _)
      exact gM (⟨0, [], none, [], 0, fs.length, size0, false, none, 0, H⟩ : PsX) ⟨rfl, Nat.zero_le _, HP.sub.refl _, hfin, fun h => (by cases h), fun _ => rfl, Nat.zero_le _, by simp, by simp, by simp⟩
  · obtain ⟨hi0, hok⟩ := hy
    obtain ⟨i0, ps, q, ll, c1, next, size, opn, oq, oc, H1⟩ := y
    dsimp only at hi0
    subst hi0
    dsimp only
    repeat (first
      | (refine g_ops ?_; first | refine sO ?_ | refine s_n (fun _ => ?_) | refine s_appB (fun _ _ => ?_) | refine s_app (fun _ _ => ?_) | refine s_b0 (fun _ => ?_) | ((fail_if_success refine g_lit rfl rfl rfl ?_); first | apply g_partM rfl rfl rfl | apply g_partMB rfl rfl rfl | fail))
      | refine gS ?_ | exact s_m | intro _)
    refine g_as 49 (v' := int ((0 : Nat) : Int)) rfl rfl ?_
    refine g_loop (X := PsX) (fun y => [(1, .slice p rs.length c), (4, .slice y.oq y.ps.length y.oc), (5, int y.size), (6, int y.next), (7, int xs.length), (8, .bool y.opn), (47, .slice p rs.length c), (48, int rs.length), (49, int y.i)])
      (fun y => [lrow lg d (.slice rq xs.length rc) (.slice fq fs.length fc) size0 sl off, .own y.oq y.ps.length y.oc 4 (y.ps.flatMap PV.cells) 63, .own y.q y.ll.length y.c 1 (y.ll.map BV.v) 28, Pile y.H]) (PsOk xs.length rs fin fs.length size0 H) (fun y => rs.length - y.i) ⟨0, ps, q, ll, c1, next, size, opn, oq, oc, H1⟩ hok (by (repeat (first | exact FrSub.nil | refine FrSub.cons rfl ?_)); first | done | fail) (by (repeat (first | exact Take.nil | apply Take.cons | exact Sel.here | apply Sel.there)); first | done | fail) (fun y hy => ?_)
    clear hok
    obtain ⟨i, ps, q, ll, c1, next, size, opn, oq, oc, H1⟩ := y
    obtain ⟨hle, hsub, hfn, hop, hsh, hll, hpl, hnx, hsz⟩ := hy
    dsimp only at hle hsub hfn hop hsh hll hpl hnx hsz ⊢
    repeat (first
      | (refine g_ops ?_; first | refine sO ?_ | refine s_n (fun _ => ?_) | refine s_appB (fun _ _ => ?_) | refine s_app (fun _ _ => ?_) | refine s_b0 (fun _ => ?_) | ((fail_if_success refine g_lit rfl rfl rfl ?_); first | apply g_partM rfl rfl rfl | apply g_partMB rfl rfl rfl | fail))
      | refine gS ?_ | exact s_m | intro _)
    refine g_cond_dec rfl (fun h5 => ?_) (fun h5 => ?_)
    · have hi' : i < rs.length := by omega
      obtain ⟨rb, ro, rfl, hrow⟩ := slAt_cell (hR.grow hsub).sl (i := i) (v := (rs[i]).v) (by simp [hi'])
      have hst := sumL_take rs i hi'
      have hsl := sumL_take_le rs (i + 1)
      rw [List.drop_eq_getElem_cons hi'] at hfn
      generalize hr0 : rs[i] = r at hrow hst hfn
      have hr : ∀ k, k = i → Reads (Pile H1) ⟨rb, ro + k, none⟩ r.v := fun k hk => by rw [hk]; exact hrow
      replace hfn : pgo xs.length (i + 1) (rs.drop (i + 1)) (St.step xs.length i r ⟨ps.map PV.a, next, size, opn⟩) = fin := hfn
      repeat (first
        | (refine g_ops ?_; first | refine sO ?_ | refine s_n (fun _ => ?_) | refine s_appB (fun _ _ => ?_) | refine s_app (fun _ _ => ?_) | refine s_b0 (fun _ => ?_) | ((fail_if_success refine g_lit rfl rfl rfl ?_); first | apply g_partM rfl rfl rfl | apply g_partMB rfl rfl rfl | fail))
        | refine g_draw (id := 1) (.take 0 (.take 1 (.take 2 (.see 3 [] (.take 4 (.take 5 (.take 6 (.take 7 (.see 8 [] (.take 9 (.take 10 (.take 11 (.see 12 [] (.take 13 (.take 14 (.take 15 (.take 16 .done))))))))))))))))) (by kernel_rfl) (take_all _) (fun k hd hk => ?_)
        | apply g_regB (id := 2) 8 | apply g_regB (id := 8) 59 | refine gS ?_ | exact s_m | intro _ | (refine gp_take ?_; first | refine pT ?_ | ((fail_if_success refine gp_lit rfl rfl rfl rfl ?_); first | apply gp_guard_dec rfl rfl rfl rfl | apply gp_guard rfl rfl rfl rfl | fail))
        | (refine gp_see ?_; first | refine p_f ?_ | refine pS ?_ | ((fail_if_success refine gp_lit rfl rfl rfl rfl ?_); first | apply gp_guard_dec rfl rfl rfl rfl | apply gp_guard rfl rfl rfl rfl | fail))
        | (refine gp_one ?_; first | refine pO ?_ | refine p_n (fun _ => ?_) | refine p_appB (fun _ _ => ?_) | refine p_app (fun _ _ => ?_) | refine p_b0 (fun _ => ?_) | ((fail_if_success refine gp_lit rfl rfl rfl rfl ?_); first | apply gp_guard_dec rfl rfl rfl rfl | apply gp_guard rfl rfl rfl rfl | fail))
        | refine gp_two ?_ ?_ | refine gp_done hd hk ?_ | intro _ | refine p_ta hd hk (fun _ _ _ hd hk => ?_) | refine p_ts hd hk (fun _ hd hk => ?_))
      refine g_cutX (X := MdX) (fun y => [(1, .slice (some ⟨rb, ro, none⟩) rs.length c), (4, .slice y.oq (y.dn ++ [y.la]).length y.oc), (5, int y.size), (6, int y.next), (7, int xs.length), (8, .bool true), (10, r.v), (47, .slice (some ⟨rb, ro, none⟩) rs.length c), (48, int rs.length), (49, int i)])
        (fun y => [lrow lg d (.slice rq xs.length rc) (.slice fq fs.length fc) size0 sl off, .own y.oq (y.dn ++ [y.la]).length y.oc 4 ((y.dn ++ [y.la]).flatMap PV.cells) 63, .own y.la.p y.la.l.length y.la.c 1 (y.la.l.map BV.v) 28, Pile y.H]) (MdOk xs.length i r ⟨ps.map PV.a, next, size, opn⟩ fs.length (size0 + sumL (rs.take i)) H1) ?_ (fun y hy => ?_)
      · by_cases hc : opn = false ∨ 2000 ≤ size
        · refine g_as 59 (v' := .bool true) rfl (congrArg Value.bool (by
            rcases hc with h | h
            · rw [h]; rfl
            · rw [decide_eq_true (show (2000 : Int) ≤ (size : Int) by omega)]; cases opn <;> rfl)) ?_
          have hstep : St.step xs.length i r ⟨ps.map PV.a, next, size, opn⟩ = ⟨ps.map PV.a ++ [⟨next, xs.length + i, true, [r]⟩], next + 1, r.l.length, true⟩ := by unfold St.step; rw [if_pos hc]
          repeat (first
            | (refine g_ops ?_; first | refine sO ?_ | refine s_n (fun _ => ?_) | refine s_appB (fun _ _ => ?_) | refine s_app (fun _ _ => ?_) | refine s_b0 (fun _ => ?_) | ((fail_if_success refine g_lit rfl rfl rfl ?_); first | apply g_partM rfl rfl rfl | apply g_partMB rfl rfl rfl | fail))
            | refine gS ?_ | exact s_m | intro _)
          rename_i vb' q' c'
          refine g_pile (p := q) (m := ll.length) (c := c1) (n := 1) (xs := ll.map BV.v) (e := 28) (by (repeat (first | exact Sel.here | apply Sel.there)); first | done | fail) (by (repeat (first | exact Sel.here | apply Sel.there)); first | done | fail) (fun H2 hs2 hA2 => ?_)
          refine g_own_nil none 1 28 ?_
          have e1 : ((xs.length : Int) + (i : Int)) = ((xs.length + i : Nat) : Int) := by push_cast; rfl
          have e2 : ((next : Int) + 1) = ((next + 1 : Nat) : Int) := by push_cast; rfl
          rw [e1, e2]
          have hpa : ∀ z ∈ ps, PAt H2 z := fun z hz => by
            cases opn with
            | false => rw [hsh rfl] at hz; simp at hz
            | true =>
              obtain ⟨dn, la, rfl, rfl, rfl, rfl, hdn⟩ := hop rfl
              rcases List.mem_append.1 hz with h | h
              · exact PAt.grow (hdn z h) hs2
              · rw [List.mem_singleton.1 h]; exact hA2
          have hfl : ps.flatMap PV.cells ++ [int next, int ((xs.length + i : Nat) : Int), .bool true, .slice none 0 0] = (ps ++ [(⟨next, xs.length + i, true, [], none, 0⟩ : PV)]).flatMap PV.cells := by simp
          rw [hfl]
          have hlp : (ps ++ [(⟨next, xs.length + i, true, [], none, 0⟩ : PV)]).length = ps.length + 1 := by simp
          rw [← hlp]
          refine gM (⟨ps, ⟨next, xs.length + i, true, [], none, 0⟩, next + 1, 0, q', c', H2⟩ : MdX) ⟨hs2, hpa, ?_, Nat.zero_le _, ?_, ?_, Nat.zero_le _⟩
          · rw [hstep]
            dsimp only
            rw [List.map_append, List.map_singleton, addLast_snoc, Nat.zero_add]
            rfl
          · dsimp only; rw [hlp]; omega
          · dsimp only; omega
        · have ho : opn = true := by cases opn <;> simp_all
          subst ho
          have hz2 : ¬ 2000 ≤ size := fun h => hc (.inr h)
          obtain ⟨dn, la, rfl, rfl, rfl, rfl, hdn⟩ := hop rfl
          refine g_as 59 (v' := .bool false) rfl (congrArg Value.bool (by rw [decide_eq_false (show ¬ (2000 : Int) ≤ (size : Int) by omega)]; rfl)) ?_
          have hstep : St.step xs.length i r ⟨(dn ++ [la]).map PV.a, next, size, true⟩ = ⟨addLast r ((dn ++ [la]).map PV.a), next, size + r.l.length, true⟩ := by unfold St.step; rw [if_neg hc]
          repeat (first
            | (refine g_ops ?_; first | refine sO ?_ | refine s_n (fun _ => ?_) | refine s_appB (fun _ _ => ?_) | refine s_app (fun _ _ => ?_) | refine s_b0 (fun _ => ?_) | ((fail_if_success refine g_lit rfl rfl rfl ?_); first | apply g_partM rfl rfl rfl | apply g_partMB rfl rfl rfl | fail))
            | refine gS ?_ | exact s_m | intro _)
          exact gM (⟨dn, la, next, size, oq, oc, H1⟩ : MdX) ⟨HP.sub.refl _, hdn, hstep, hll, Nat.le_succ_of_le hpl, Nat.le_succ_of_le hnx, hsz⟩
      · obtain ⟨dn, ⟨f1, f2, f3, ll2, lq2, lc2⟩, next2, size2, oq2, oc2, H2⟩ := y
        obtain ⟨m1, m2, m3, m4, m5, m6, m7⟩ := hy
        dsimp only at m1 m2 m3 m4 m5 m6 m7 ⊢
        repeat (first
          | (refine g_ops ?_; first | refine sO ?_ | refine s_n (fun _ => ?_) | refine s_appB (fun _ _ => ?_) | refine s_app (fun _ _ => ?_) | refine s_b0 (fun _ => ?_) | ((fail_if_success refine g_lit rfl rfl rfl ?_); first | apply g_partM rfl rfl rfl | apply g_partMB rfl rfl rfl | fail))
          | refine gS ?_ | exact s_m | intro _)
        have hdl : (dn ++ [(⟨f1, f2, f3, ll2, lq2, lc2⟩ : PV)]).length = dn.length + 1 := by simp
        refine g_own (p := oq2) (len := (dn ++ [(⟨f1, f2, f3, ll2, lq2, lc2⟩ : PV)]).length) (cap := oc2) (n := 4) (xs := (dn ++ [(⟨f1, f2, f3, ll2, lq2, lc2⟩ : PV)]).flatMap PV.cells) (e := 63) (by (repeat (first | exact Sel.here | apply Sel.there)); first | done | fail) (fun hxl _ hq => ?_)
        obtain ⟨ob, rfl⟩ := hq (by omega)
        refine g_as 73 (v' := int ((dn.length : Nat) : Int)) rfl (congrArg (Value.int .i64) (by rw [hdl]; push_cast; omega)) ?_
        have hcell2 := own_at (b := ob) (len := (dn ++ [(⟨f1, f2, f3, ll2, lq2, lc2⟩ : PV)]).length) (cap := oc2) (e := 63) pv_len (l := dn ++ [(⟨f1, f2, f3, ll2, lq2, lc2⟩ : PV)]) (i := dn.length) (a := ⟨f1, f2, f3, ll2, lq2, lc2⟩) (by simp) 3 (.slice lq2 ll2.length lc2) rfl
        have hr2 : ∀ k, k = dn.length * 4 + 3 → Reads (.own (some ⟨ob, 0, none⟩) (dn ++ [(⟨f1, f2, f3, ll2, lq2, lc2⟩ : PV)]).length oc2 4 ((dn ++ [(⟨f1, f2, f3, ll2, lq2, lc2⟩ : PV)]).flatMap PV.cells) 63) ⟨ob, k, none⟩ (.slice lq2 ll2.length lc2) := fun k hk => by rw [hk]; simpa only [Nat.zero_add] using hcell2
        repeat (first
          | (refine g_ops ?_; first | refine sO ?_ | refine s_n (fun _ => ?_) | refine s_appB (fun _ _ => ?_) | refine s_app (fun _ _ => ?_) | refine s_b0 (fun _ => ?_) | ((fail_if_success refine g_lit rfl rfl rfl ?_); first | apply g_partM rfl rfl rfl | apply g_partMB rfl rfl rfl | fail))
          | refine gS ?_ | exact s_m | intro _)
        rename_i vb' q' c'
        refine g_s (ss_storeOwn (v := .slice q' (ll2.length + 1) c') inferInstance rfl rfl rfl (by (repeat (first | exact Sel.here | apply Sel.there)); first | done | fail) (by rw [hxl, hdl]; omega)) rfl ?_
        have hset := flat_set dn ⟨f1, f2, f3, ll2, lq2, lc2⟩ (ll2 ++ [r]) q' c'
        have hlr : (ll2 ++ [r]).length = ll2.length + 1 := by simp
        have hmr : (ll2 ++ [r]).map BV.v = ll2.map BV.v ++ [r.v] := by simp
        rw [hlr] at hset
        rw [show 0 + dn.length * 4 + 3 = dn.length * 4 + 3 by omega, hset, ← hmr]
        repeat (first
          | (refine g_ops ?_; first | refine sO ?_ | refine s_n (fun _ => ?_) | refine s_appB (fun _ _ => ?_) | refine s_app (fun _ _ => ?_) | refine s_b0 (fun _ => ?_) | ((fail_if_success refine g_lit rfl rfl rfl ?_); first | apply g_partM rfl rfl rfl | apply g_partMB rfl rfl rfl | fail))
          | refine gS ?_ | exact s_m | intro _)
        refine g_as 5 (v' := int ((size2 + r.l.length : Nat) : Int)) rfl (congrArg (Value.int .i64) (by push_cast; rfl)) ?_
        refine g_as 49 (v' := int ((i + 1 : Nat) : Int)) rfl (congrArg (Value.int .i64) (by push_cast; rfl)) ?_
        have hdl2 : (dn ++ [(⟨f1, f2, f3, ll2 ++ [r], q', c'⟩ : PV)]).length = dn.length + 1 := by simp
        rw [hdl, ← hdl2, ← hlr]
        refine gA ⟨i + 1, dn ++ [⟨f1, f2, f3, ll2 ++ [r], q', c'⟩], q', ll2 ++ [r], c', next2, size2 + r.l.length, true, _, oc2, H2⟩ (by simp only; omega) ⟨?_, hsub.trans m1, ?_, fun _ => ⟨dn, _, rfl, rfl, rfl, rfl, m2⟩, fun h => (by cases h), ?_, ?_, ?_, ?_⟩
        · exact hi'
        · dsimp only
          rw [← hfn, m3]
          congr 2
          rw [List.map_append, List.map_append, List.map_singleton, List.map_singleton, addLast_snoc]
        · dsimp only; omega
        · dsimp only; omega
        · dsimp only; omega
        · dsimp only; omega
    · obtain rfl : i = rs.length := by omega
      rw [List.drop_length] at hfn
      replace hfn : (⟨ps.map PV.a, next, size, opn⟩ : St) = fin := hfn
      subst hfn
      refine g_pile (p := q) (m := ll.length) (c := c1) (n := 1) (xs := ll.map BV.v) (e := 28) (by (repeat (first | exact Sel.here | apply Sel.there)); first | done | fail) (by (repeat (first | exact Sel.here | apply Sel.there)); first | done | fail) (fun H2 hs2 hA2 => ?_)
      have hpa : ∀ z ∈ ps, PAt H2 z := fun z hz => by
        cases opn with
        | false => rw [hsh rfl] at hz; simp at hz
        | true =>
          obtain ⟨dn, la, rfl, rfl, rfl, rfl, hdn⟩ := hop rfl
          rcases List.mem_append.1 hz with h | h
          · exact PAt.grow (hdn z h) hs2
          · rw [List.mem_singleton.1 h]; exact hA2
      repeat (first
        | (refine g_ops ?_; first | refine sO ?_ | refine s_n (fun _ => ?_) | refine s_appB (fun _ _ => ?_) | refine s_app (fun _ _ => ?_) | refine s_b0 (fun _ => ?_) | ((fail_if_success refine g_lit rfl rfl rfl ?_); first | apply g_partM rfl rfl rfl | apply g_partMB rfl rfl rfl | fail))
        | refine gS ?_ | exact s_m | intro _)
      exact gR (⟨ps, oq, oc, H2⟩ : PrX) ⟨hsub.trans hs2, rfl, hpa⟩
end Go.Proofs.YtdldgbbhagpofaaGreatDoor
