/- Contracts: Crash on a disk with at most one file; awake. -/
import Derived.Test.YtfjkfcfmbipfhaaDskD
set_option linter.unusedSimpArgs false
set_option linter.unusedVariables false
namespace Go.Proofs.Ytfjkfcfmbipfhaa
open Go.Sl facts
attribute [local irreducible] Code.wp wpList Exit.then Exit.inBlock bodyPost Back MidQ G GP QStep VStep CStep SStep Does Post Reads
abbrev cfv (pb : Nat) : Value := .func (.func 35) #[] #[ptr pb]
abbrev eachM (o : One) (d d2 pb : Nat) (room ops ct : Int) (pp : Option Addr) (pn pc : Nat) (C : Chunk) : Option One → List Chunk
  | none => drow d2 room (.slice none 0 0) 0 0 :: .row pb [.slice pp pn pc] 22 :: oneL o d room ops ct [C]
  | some o2 => oneL o2 d2 room 0 0 (oneL o d room ops ct [C])
abbrev eachI : Option One → Int
  | none => 0
  | some _ => 1
abbrev eachP (o : One) (pn : Nat) (v : Int) : Option One → Prop
  | none => True
  | some o2 => o2.nm = o.nm ∧ o2.safe = o.safe ++ o.loose.take (keep o.loose.length pn v) ∧ o2.loose = []
theorem each_1 (d : Nat) (room : Int) (ops ct : Int) (o : One) (pb : Nat) (pp : Option Addr) (pn pc : Nat) (hpc : pn ≤ pc) {C : Chunk} {v : Int} (hP : PickAt C pp pn v) (hl1 : o.safe.length ≤ 1000000) (hl2 : o.loose.length ≤ 1000000) :
    Does Try.prog 34 [ptr d, cfv pb] (.row pb [.slice pp pn pc] 22 :: oneL o d room ops ct [C]) (X := Nat × One) (fun x => ptr x.1) (fun x => oneL x.2 x.1 room 0 0 (oneL o d room ops ct [C]))
      (fun x => x.2.nm = o.nm ∧ x.2.safe = o.safe ++ o.loose.take (keep o.loose.length pn v) ∧ x.2.loose = []) := by
  have hr : ∀ j, j = 0 → Reads (.own (some ⟨o.b, 0, none⟩) 1 o.c 1 [ptr o.f] 67) ⟨o.b, 0 + j, none⟩ (ptr o.f) := fun j e => by subst e; exact reads_own rfl
  refine fn_intro Try.func34 rfl Try.ntmps34 rfl (by simp only [argFr, Nat.zero_add, Nat.reduceAdd]; rfl) (fun Γ => ?_)
  repeat (first
    | (refine g_ops ?_; first | refine s_q ?_ | refine s_v ?_ | refine s_s ?_ | refine s_n (fun _ => ?_) | refine s_x ?_ | refine s_y ?_ | refine s_mq ?_ | refine s_app (fun _ _ => ?_) | refine s_mv ?_ | refine s_ms ?_ | refine s_b0 (fun _ => ?_) | ((fail_if_success refine g_lit rfl rfl rfl ?_); first | apply g_partM rfl rfl rfl | apply g_partMB rfl rfl rfl | fail))
    | refine g_seq ?_ | refine g_region ?_ | refine g_nil ?_ | refine g_then_normal ?_ | refine g_block ?_ | refine g_in_normal ?_ | refine g_retc ?_ | refine g_then_ret ?_
    | refine g_in_ret ?_ | refine g_exit ?_ | refine g_then_exit ?_ | refine g_in_exit ?_ | refine g_in_other rfl ?_ | refine g_skip ?_ | refine g_label ?_
    | refine g_cond_true rfl ?_ | refine g_cond_false rfl ?_ | exact s_m | intro _)
  rename_i d2
  refine g_loop (X := Option One) (fun s => [(0, ptr d), (1, cfv pb), (5, ptr d2), (24, .slice (some ⟨o.b, 0, none⟩) 1 o.c), (25, int 1), (26, int (eachI s))]) (eachM o d d2 pb room ops ct pp pn pc C) (eachP o pn v) (fun s => (1 - eachI s).toNat) none trivial (by (repeat (first | exact FrSub.nil | refine FrSub.cons rfl ?_)); first | done | fail) (by (repeat (first | exact Take.nil | apply Take.cons | exact Sel.here | apply Sel.there)); first | done | fail) (fun s hs => ?_)
  cases s with
  | none =>
    dsimp only [eachM, eachI]
    repeat (first
      | (refine g_ops ?_; first | refine s_q ?_ | refine s_v ?_ | refine s_s ?_ | refine s_n (fun _ => ?_) | refine s_x ?_ | refine s_y ?_ | refine s_mq ?_ | refine s_app (fun _ _ => ?_) | refine s_mv ?_ | refine s_ms ?_ | refine s_b0 (fun _ => ?_) | ((fail_if_success refine g_lit rfl rfl rfl ?_); first | apply g_partM rfl rfl rfl | apply g_partMB rfl rfl rfl | fail))
      | refine g_seq ?_ | refine g_region ?_ | refine g_nil ?_ | refine g_then_normal ?_ | refine g_block ?_ | refine g_in_normal ?_ | refine g_retc ?_
      | refine g_then_ret ?_ | refine g_in_ret ?_ | refine g_exit ?_ | refine g_then_exit ?_ | refine g_in_exit ?_ | refine g_in_other rfl ?_ | refine g_skip ?_
      | refine g_label ?_ | refine g_cond_true rfl ?_ | refine g_cond_false rfl ?_ | exact s_m | intro _)
    refine g_c (cs_callV (crash1 o.f pb o.nm o.sp o.safe o.sc o.lp o.loose o.lc pp pn pc hpc hP hl1 hl2) (vs := [ptr o.f]) (caps := [ptr pb]) rfl (by (repeat (first | exact Evs.nil | refine Evs.cons rfl ?_)); first | done | fail) rfl (by (repeat (first | exact Take.nil | apply Take.cons | exact Sel.here | apply Sel.there)); first | done | fail)) rfl rfl (fun x _ => ?_)
    obtain ⟨q, c⟩ := x
    dsimp only
    refine g_own_nil none 1 67 ?_
    repeat (first
      | (refine g_ops ?_; first | refine s_q ?_ | refine s_v ?_ | refine s_s ?_ | refine s_n (fun _ => ?_) | refine s_x ?_ | refine s_y ?_ | refine s_mq ?_ | refine s_app (fun _ _ => ?_) | refine s_mv ?_ | refine s_ms ?_ | refine s_b0 (fun _ => ?_) | ((fail_if_success refine g_lit rfl rfl rfl ?_); first | apply g_partM rfl rfl rfl | apply g_partMB rfl rfl rfl | fail))
      | refine g_seq ?_ | refine g_region ?_ | refine g_nil ?_ | refine g_then_normal ?_ | refine g_block ?_ | refine g_in_normal ?_ | refine g_retc ?_
      | refine g_then_ret ?_ | refine g_in_ret ?_ | refine g_exit ?_ | refine g_then_exit ?_ | refine g_in_exit ?_ | refine g_in_other rfl ?_ | refine g_skip ?_
      | refine g_label ?_ | refine g_cond_true rfl ?_ | refine g_cond_false rfl ?_ | exact s_m | intro _)
    rename_i xb vb fq fc
    refine g_own (p := fq) (len := 0 + 1) (cap := fc) (n := 1) (xs := [] ++ [ptr xb]) (e := 67) (by (repeat (first | exact Sel.here | apply Sel.there)); first | done | fail) (fun _ _ hp => ?_)
    obtain ⟨b, rfl⟩ := hp (by decide)
    refine g_own_nil none 1 5 ?_
    exact g_again (some ⟨b, fc, xb, o.nm, q, o.safe ++ o.loose.take (keep o.loose.length pn v), c, none, [], 0⟩) (by simp [eachI]) ⟨rfl, rfl, rfl⟩ (by (repeat (first | exact FrSub.nil | refine FrSub.cons rfl ?_)); first | done | fail) (by (repeat (first | exact Take.nil | apply Take.cons | exact Sel.here | apply Sel.there)); first | done | fail)
  | some o2 =>
    dsimp only [eachM, eachI]
    repeat (first
      | (refine g_ops ?_; first | refine s_q ?_ | refine s_v ?_ | refine s_s ?_ | refine s_n (fun _ => ?_) | refine s_x ?_ | refine s_y ?_ | refine s_mq ?_ | refine s_app (fun _ _ => ?_) | refine s_mv ?_ | refine s_ms ?_ | refine s_b0 (fun _ => ?_) | ((fail_if_success refine g_lit rfl rfl rfl ?_); first | apply g_partM rfl rfl rfl | apply g_partMB rfl rfl rfl | fail))
      | refine g_seq ?_ | refine g_region ?_ | refine g_nil ?_ | refine g_then_normal ?_ | refine g_block ?_ | refine g_in_normal ?_ | refine g_retc ?_
      | refine g_then_ret ?_ | refine g_in_ret ?_ | refine g_exit ?_ | refine g_then_exit ?_ | refine g_in_exit ?_ | refine g_in_other rfl ?_ | refine g_skip ?_
      | refine g_label ?_ | refine g_cond_true rfl ?_ | refine g_cond_false rfl ?_ | exact s_m | intro _)
    exact g_ret (d2, o2) rfl (by (repeat (first | exact RVs.nil | apply RVs.tmp rfl | apply RVs.cellA rfl (by (repeat (first | exact Sel.here | apply Sel.there)); first | done | fail) (by (repeat (first | exact Cut.zero | apply Cut.take | apply Cut.skip)); first | done | fail) | apply RVs.cell1 rfl (by (repeat (first | exact Sel.here | apply Sel.there)); first | done | fail) rfl)); first | done | fail) (by (repeat (first | exact Take.nil | apply Take.cons | exact Sel.here | apply Sel.there)); first | done | fail) rfl hs
theorem each_0 (d : Nat) (room : Int) (q : Option Addr) (c : Nat) (ops ct : Int) (fv : Value) :
    Does Try.prog 34 [ptr d, fv] [drow d room (.slice q 0 c) ops ct] (X := Nat) (fun d2 => ptr d2) (fun d2 => [drow d2 room (.slice none 0 0) 0 0, drow d room (.slice q 0 c) ops ct]) (fun _ => True) := by
  refine fn_intro Try.func34 rfl Try.ntmps34 rfl (by simp only [argFr, Nat.zero_add, Nat.reduceAdd]; rfl) (fun Γ => ?_)
  repeat (first
    | (refine g_ops ?_; first | refine s_q ?_ | refine s_v ?_ | refine s_s ?_ | refine s_n (fun _ => ?_) | refine s_x ?_ | refine s_y ?_ | refine s_mq ?_ | refine s_app (fun _ _ => ?_) | refine s_mv ?_ | refine s_ms ?_ | refine s_b0 (fun _ => ?_) | ((fail_if_success refine g_lit rfl rfl rfl ?_); first | apply g_partM rfl rfl rfl | apply g_partMB rfl rfl rfl | fail))
    | refine g_seq ?_ | refine g_region ?_ | refine g_nil ?_ | refine g_then_normal ?_ | refine g_block ?_ | refine g_in_normal ?_ | refine g_retc ?_ | refine g_then_ret ?_
    | refine g_in_ret ?_ | refine g_exit ?_ | refine g_then_exit ?_ | refine g_in_exit ?_ | refine g_in_other rfl ?_ | refine g_skip ?_ | refine g_label ?_
    | refine g_cond_true rfl ?_ | refine g_cond_false rfl ?_ | exact s_m | intro _)
  rename_i d2
  refine g_loop (X := Unit) (fun _ => [(5, ptr d2), (25, int 0), (26, int 0)]) (fun _ => [drow d2 room (.slice none 0 0) 0 0, drow d room (.slice q 0 c) ops ct]) (fun _ => True) (fun _ => 0) () trivial (by (repeat (first | exact FrSub.nil | refine FrSub.cons rfl ?_)); first | done | fail) (by (repeat (first | exact Take.nil | apply Take.cons | exact Sel.here | apply Sel.there)); first | done | fail) (fun _ _ => ?_)
  repeat (first
    | (refine g_ops ?_; first | refine s_q ?_ | refine s_v ?_ | refine s_s ?_ | refine s_n (fun _ => ?_) | refine s_x ?_ | refine s_y ?_ | refine s_mq ?_ | refine s_app (fun _ _ => ?_) | refine s_mv ?_ | refine s_ms ?_ | refine s_b0 (fun _ => ?_) | ((fail_if_success refine g_lit rfl rfl rfl ?_); first | apply g_partM rfl rfl rfl | apply g_partMB rfl rfl rfl | fail))
    | refine g_seq ?_ | refine g_region ?_ | refine g_nil ?_ | refine g_then_normal ?_ | refine g_block ?_ | refine g_in_normal ?_ | refine g_retc ?_ | refine g_then_ret ?_
    | refine g_in_ret ?_ | refine g_exit ?_ | refine g_then_exit ?_ | refine g_in_exit ?_ | refine g_in_other rfl ?_ | refine g_skip ?_ | refine g_label ?_
    | refine g_cond_true rfl ?_ | refine g_cond_false rfl ?_ | exact s_m | intro _)
  exact g_ret d2 rfl (by (repeat (first | exact RVs.nil | apply RVs.tmp rfl | apply RVs.cellA rfl (by (repeat (first | exact Sel.here | apply Sel.there)); first | done | fail) (by (repeat (first | exact Cut.zero | apply Cut.take | apply Cut.skip)); first | done | fail) | apply RVs.cell1 rfl (by (repeat (first | exact Sel.here | apply Sel.there)); first | done | fail) rfl)); first | done | fail) (by (repeat (first | exact Take.nil | apply Take.cons | exact Sel.here | apply Sel.there)); first | done | fail) rfl trivial
theorem crash_1 (d : Nat) (room : Int) (ops ct : Int) (o : One) (pp : Option Addr) (pn pc : Nat) (hpc : pn ≤ pc) {C : Chunk} {v : Int} (hP : PickAt C pp pn v) (hl1 : o.safe.length ≤ 1000000) (hl2 : o.loose.length ≤ 1000000) :
    Does Try.prog 14 [ptr d, .slice pp pn pc] (oneL o d room ops ct [C]) (X := Nat × One) (fun x => ptr x.1) (fun x => oneL x.2 x.1 room 0 0 (oneL o d room ops ct [C]))
      (fun x => x.2.nm = o.nm ∧ x.2.safe = o.safe ++ o.loose.take (keep o.loose.length pn v) ∧ x.2.loose = []) := by
  refine fn_intro Try.func14 rfl Try.ntmps14 rfl (by simp only [argFr, Nat.zero_add, Nat.reduceAdd]; rfl) (fun Γ => ?_)
  repeat (first
    | (refine g_ops ?_; first | refine s_q ?_ | refine s_v ?_ | refine s_s ?_ | refine s_n (fun _ => ?_) | refine s_x ?_ | refine s_y ?_ | refine s_mq ?_ | refine s_app (fun _ _ => ?_) | refine s_mv ?_ | refine s_ms ?_ | refine s_b0 (fun _ => ?_) | ((fail_if_success refine g_lit rfl rfl rfl ?_); first | apply g_partM rfl rfl rfl | apply g_partMB rfl rfl rfl | fail))
    | refine g_seq ?_ | refine g_region ?_ | refine g_nil ?_ | refine g_then_normal ?_ | refine g_block ?_ | refine g_in_normal ?_ | refine g_retc ?_ | refine g_then_ret ?_
    | refine g_in_ret ?_ | refine g_exit ?_ | refine g_then_exit ?_ | refine g_in_exit ?_ | refine g_in_other rfl ?_ | refine g_skip ?_ | refine g_label ?_
    | refine g_cond_true rfl ?_ | refine g_cond_false rfl ?_ | exact s_m | intro _)
  rename_i pb
  refine s_q (q := by exact qs_makeFunc (vs := [ptr pb]) (by (repeat (first | exact Evs.nil | refine Evs.cons rfl ?_)); first | done | fail)) ?_
  repeat (first
    | (refine g_ops ?_; first | refine s_q ?_ | refine s_v ?_ | refine s_s ?_ | refine s_n (fun _ => ?_) | refine s_x ?_ | refine s_y ?_ | refine s_mq ?_ | refine s_app (fun _ _ => ?_) | refine s_mv ?_ | refine s_ms ?_ | refine s_b0 (fun _ => ?_) | ((fail_if_success refine g_lit rfl rfl rfl ?_); first | apply g_partM rfl rfl rfl | apply g_partMB rfl rfl rfl | fail) | refine s_c (each_1 d room ops ct o pb pp pn pc hpc hP hl1 hl2) (fun _ _ => ?_))
    | refine g_seq ?_ | refine g_region ?_ | refine g_nil ?_ | refine g_then_normal ?_ | refine g_block ?_ | refine g_in_normal ?_ | refine g_retc ?_ | refine g_then_ret ?_
    | refine g_in_ret ?_ | refine g_exit ?_ | refine g_then_exit ?_ | refine g_in_exit ?_ | refine g_in_other rfl ?_ | refine g_skip ?_ | refine g_label ?_
    | refine g_cond_true rfl ?_ | refine g_cond_false rfl ?_ | exact s_m | intro _)
  rename_i x hx
  exact g_ret x rfl (by (repeat (first | exact RVs.nil | apply RVs.tmp rfl | apply RVs.cellA rfl (by (repeat (first | exact Sel.here | apply Sel.there)); first | done | fail) (by (repeat (first | exact Cut.zero | apply Cut.take | apply Cut.skip)); first | done | fail) | apply RVs.cell1 rfl (by (repeat (first | exact Sel.here | apply Sel.there)); first | done | fail) rfl)); first | done | fail) (by (repeat (first | exact Take.nil | apply Take.cons | exact Sel.here | apply Sel.there)); first | done | fail) rfl hx
theorem slAt_row {b : Nat} {xs : List Value} {e : TypeId} {fz : Nat × Nat} (l : List UInt8) (h : xs = cells8 l) : SlAt (.row b xs e fz) 1 (some ⟨b, 0, none⟩) l.length (cells8 l) := by
  subst h
  exact ⟨by simp [cells8], cells8_one _, (fun e => by cases e), fun j v hv => ⟨b, 0, rfl, by rw [Nat.zero_add]; exact reads_row hv⟩⟩
end Go.Proofs.Ytfjkfcfmbipfhaa
