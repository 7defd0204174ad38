/- Contracts and laws that the proof stands on. -/
import Derived.Test.YtcgmliaahdpmcaaGreatDoorTablePlays14
import Derived.Test.YtcgmliaahdpmcaaGreatDoorTablePlays7
import Derived.Maps.Own
import Derived.Sort.KeysCollected
import Derived.Sort.Walk0
import Derived.Shelf.SlIter.Nil
import Derived.Shelf.SortM.Plain
import Derived.Shelf.SortM.SortNone
import Derived.Ground.GgzProg
import Derived.Ground.SlgmProg
import Derived.Test.YtcgmliaahdpmcaaGreatDoorProg
import Derived.Test.YtcgmliaahdpmcaaGreatDoorTablePlays13
set_option linter.unusedSimpArgs false
set_option linter.unusedVariables false
namespace Go.Proofs.YtcgmliaahdpmcaaGreatDoor
open Go.Sl facts
attribute [local irreducible] Code.wp wpList Exit.then Exit.inBlock bodyPost Back MidQ G GP QStep VStep CStep SStep Does Post Reads
theorem rsound (w l n : Int) : Does1 Tryz.prog 52 [.agg [.int .i64 w, .int .i64 l, .int .i64 n].toArray] [] (.bool (soundB w l n)) := by
  refine fn_intro Tryz.func52 rfl Tryz.ntmps52 rfl (by simp only [argFr, Nat.zero_add, Nat.reduceAdd]; rfl) (fun Γ => ?_)
  repeat (first
    | (refine g_ops ?_; first | refine sO ?_ | refine s_n (fun _ => ?_) | refine s_app (fun _ _ => ?_) | refine s_b0 (fun _ => ?_) | ((fail_if_success refine g_lit rfl rfl rfl ?_); first | apply g_partM rfl rfl rfl | apply g_partMB rfl rfl rfl | fail))
    | apply g_regB (id := 1) 2 | refine gS ?_ | exact s_m | intro _ | (refine gp_take ?_; first | refine pT ?_ | ((fail_if_success refine gp_lit rfl rfl rfl rfl ?_); first | apply gp_guard_dec rfl rfl rfl rfl | apply gp_guard rfl rfl rfl rfl | fail))
    | (refine gp_see ?_; first | refine p_f ?_ | refine pS ?_ | ((fail_if_success refine gp_lit rfl rfl rfl rfl ?_); first | apply gp_guard_dec rfl rfl rfl rfl | apply gp_guard rfl rfl rfl rfl | fail))
    | (refine gp_one ?_; first | refine pO ?_ | refine p_n (fun _ => ?_) | refine p_app (fun _ _ => ?_) | refine p_b0 (fun _ => ?_) | ((fail_if_success refine gp_lit rfl rfl rfl rfl ?_); first | apply gp_guard_dec rfl rfl rfl rfl | apply gp_guard rfl rfl rfl rfl | fail))
    | refine gp_two ?_ ?_ | refine gp_done hd hk ?_ | intro _ | refine p_ta hd hk (fun _ _ _ hd hk => ?_) | refine p_ts hd hk (fun _ hd hk => ?_))
  exact g_ret () rfl (by (repeat (first | exact RVs.nil | apply RVs.tmp rfl | apply RVs.cellA rfl (by (repeat (first | exact Sel.here | apply Sel.there)); first | done | fail) (by (repeat (first | exact Cut.zero | apply Cut.take | apply Cut.skip)); first | done | fail) | apply RVs.cell1 rfl (by (repeat (first | exact Sel.here | apply Sel.there)); first | done | fail) rfl)); first | done | fail) (by (repeat (first | exact Take.nil | apply Take.cons | exact Sel.here | apply Sel.there)); first | done | fail) (by simp [pack, soundB, inB, Bool.cond_eq_ite, Bool.and_assoc]; have : decide (l < 65536) = decide (l ≤ 65535) := decide_eq_decide.2 (by omega); rw [this]) trivial
theorem rvarint (v : Nat) (hv : v < 18446744073709551616) : Does Tryz.prog 72 [.int .u64 v] [] (X := Option Addr × Nat) (fun x => .slice x.1 (vb v).length x.2) (fun x => [.own x.1 (vb v).length x.2 1 (cells8 (vb v)) 5]) (fun _ => True) := by
  refine fn_intro Tryz.func72 rfl Tryz.ntmps72 rfl (by simp only [argFr, Nat.zero_add, Nat.reduceAdd]; rfl) (fun Γ => ?_)
  repeat (first
    | (refine g_ops ?_; first | refine sO ?_ | refine s_n (fun _ => ?_) | refine s_app (fun _ _ => ?_) | refine s_b0 (fun _ => ?_) | ((fail_if_success refine g_lit rfl rfl rfl ?_); first | apply g_partM rfl rfl rfl | apply g_partMB rfl rfl rfl | fail))
    | refine gS ?_ | exact s_m | intro _)
  refine g_own_nil none 1 5 ?_
  refine g_loop (X := DecX) (fun x => [(0, .int .u64 x.u), (3, .slice x.q x.bs.length x.c), (2, .slice none 0 0)]) (fun x => [.own x.q x.bs.length x.c 1 (cells8 x.bs) 5]) (fun x => x.u < 18446744073709551616 ∧ vb v = x.bs ++ vb x.u) (fun x => x.u)
    ⟨v, [], none, 0⟩ ⟨hv, rfl⟩ (by (repeat (first | exact FrSub.nil | refine FrSub.cons rfl ?_)); first | done | fail) (by (repeat (first | exact Take.nil | apply Take.cons | exact Sel.here | apply Sel.there)); first | done | fail) (fun x hx => ?_)
  obtain ⟨u, bs, q, c⟩ := x
  obtain ⟨hle, hinv⟩ := hx
  simp only at hle hinv
  have hbl : bs.length ≤ 10 := by have := vb_len10 v hv; rw [hinv, List.length_append] at this; omega
  dsimp only
  repeat (first
    | (refine g_ops ?_; first | refine sO ?_ | refine s_n (fun _ => ?_) | refine s_app (fun _ _ => ?_) | refine s_b0 (fun _ => ?_) | ((fail_if_success refine g_lit rfl rfl rfl ?_); first | apply g_partM rfl rfl rfl | apply g_partMB rfl rfl rfl | fail))
    | refine gS ?_ | exact s_m | intro _)
  refine g_cond_dec rfl (fun h => ?_) (fun h => ?_)
  · have hu : ¬ u < 128 := by omega
    rw [vb_big hu] at hinv
    repeat (first
      | (refine g_ops ?_; first | refine sO ?_ | refine s_n (fun _ => ?_) | refine s_app (fun _ _ => ?_) | refine s_b0 (fun _ => ?_) | ((fail_if_success refine g_lit rfl rfl rfl ?_); first | apply g_partM rfl rfl rfl | apply g_partMB rfl rfl rfl | fail))
      | refine gS ?_ | exact s_m | intro _)
    refine s_q (q := by exact qs_and64 (b := 127) rfl rfl hle (by decide)) ?_
    refine g_as 8 (v' := .int .u64 ((u % 128 : Nat) : Int)) rfl (congrArg (Value.int .u64) (by rw [and127])) ?_
    refine s_q (q := by exact qs_or64 (b := 128) rfl rfl (by omega) (by decide)) ?_
    refine g_as 9 (v' := .int .u64 ((u % 128 + 128 : Nat) : Int)) rfl (congrArg (Value.int .u64) (by rw [or128 _ (by omega)]; omega)) ?_
    refine s_q (q := by exact qs_convInt rfl) ?_
    refine g_as 10 (v' := .int .u8 ((UInt8.ofNat (u % 128 + 128)).toNat : Int)) rfl (congrArg (Value.int .u8) (by rw [u8_mod, byte_of _ (by omega)]; omega)) ?_
    generalize hbb : UInt8.ofNat (u % 128 + 128) = bb at hinv ⊢
    repeat (first
      | (refine g_ops ?_; first | refine sO ?_ | refine s_n (fun _ => ?_) | refine s_app (fun _ _ => ?_) | refine s_b0 (fun _ => ?_) | ((fail_if_success refine g_lit rfl rfl rfl ?_); first | apply g_partM rfl rfl rfl | apply g_partMB rfl rfl rfl | fail))
      | refine gS ?_ | exact s_m | intro _)
    refine s_q (q := by exact qs_shr64 (n := 7) rfl rfl (by decide)) ?_
    refine g_as 14 (v' := .int .u64 ((u / 128 : Nat) : Int)) rfl rfl ?_
    repeat (first
      | (refine g_ops ?_; first | refine sO ?_ | refine s_n (fun _ => ?_) | refine s_app (fun _ _ => ?_) | refine s_b0 (fun _ => ?_) | ((fail_if_success refine g_lit rfl rfl rfl ?_); first | apply g_partM rfl rfl rfl | apply g_partMB rfl rfl rfl | fail))
      | refine gS ?_ | exact s_m | intro _)
    rename_i q' c'
    rw [cells8_snoc, show bs.length + 1 = (bs ++ [bb]).length by simp]
    exact gA ⟨u / 128, bs ++ [bb], q', c'⟩ (by simp only; omega) ⟨by simp only; omega, by simp [hinv]⟩
  · have hu : u < 128 := by omega
    rw [vb_small hu] at hinv
    repeat (first
      | (refine g_ops ?_; first | refine sO ?_ | refine s_n (fun _ => ?_) | refine s_app (fun _ _ => ?_) | refine s_b0 (fun _ => ?_) | ((fail_if_success refine g_lit rfl rfl rfl ?_); first | apply g_partM rfl rfl rfl | apply g_partMB rfl rfl rfl | fail))
      | refine gS ?_ | exact s_m | intro _)
    refine s_q (q := by exact qs_convInt rfl) ?_
    refine g_as 17 (v' := .int .u8 ((UInt8.ofNat u).toNat : Int)) rfl (congrArg (Value.int .u8) (by rw [u8_mod, byte_of _ (by omega)]; omega)) ?_
    generalize hbb : UInt8.ofNat u = bb at hinv ⊢
    repeat (first
      | (refine g_ops ?_; first | refine sO ?_ | refine s_n (fun _ => ?_) | refine s_app (fun _ _ => ?_) | refine s_b0 (fun _ => ?_) | ((fail_if_success refine g_lit rfl rfl rfl ?_); first | apply g_partM rfl rfl rfl | apply g_partMB rfl rfl rfl | fail))
      | refine gS ?_ | exact s_m | intro _)
    rename_i q' c'
    rw [cells8_snoc, show bs.length + 1 = (bs ++ [bb]).length by simp, ← hinv]
    exact gR (q', c') trivial
theorem rnum (q : Option Addr) (c : Nat) (bs : List UInt8) (n : Int) (h0 : 0 ≤ n) (h1 : n ≤ 1125899906842624) (hb : bs.length ≤ 100000000) :
    Does Tryz.prog 54 [.slice q bs.length c, .int .i64 n] [.own q bs.length c 1 (cells8 bs) 5] (X := OA) (fun x => .slice x.1 (bs ++ vb n.toNat).length x.2) (fun x => [.own x.1 (bs ++ vb n.toNat).length x.2 1 (cells8 (bs ++ vb n.toNat)) 5]) (fun _ => True) := by
  have hv8 := vb_len8 n.toNat (by omega)
  refine fn_intro Tryz.func54 rfl Tryz.ntmps54 rfl (by simp only [argFr, Nat.zero_add, Nat.reduceAdd]; rfl) (fun Γ => ?_)
  repeat (first
    | (refine g_ops ?_; first | refine sO ?_ | refine s_n (fun _ => ?_) | refine s_app (fun _ _ => ?_) | refine s_b0 (fun _ => ?_) | ((fail_if_success refine g_lit rfl rfl rfl ?_); first | apply g_partM rfl rfl rfl | apply g_partMB rfl rfl rfl | fail))
    | refine gS ?_ | exact s_m | intro _)
  refine s_q (q := by exact qs_convInt rfl) ?_
  refine g_as 7 (v' := .int .u64 ((n.toNat : Nat) : Int)) rfl (congrArg (Value.int .u64) (by rw [u64_mod]; omega)) ?_
  repeat (first
    | (refine g_ops ?_; first | refine sO ?_ | refine s_n (fun _ => ?_) | refine s_app (fun _ _ => ?_) | refine s_b0 (fun _ => ?_) | ((fail_if_success refine g_lit rfl rfl rfl ?_); first | apply g_partM rfl rfl rfl | apply g_partMB rfl rfl rfl | fail) | refine s_c (rvarint n.toNat (by omega)) (fun _ _ => ?_))
    | refine gS ?_ | exact s_m | intro _ | (refine gp_take ?_; first | refine pT ?_ | ((fail_if_success refine gp_lit rfl rfl rfl rfl ?_); first | apply gp_guard_dec rfl rfl rfl rfl | apply gp_guard rfl rfl rfl rfl | fail))
    | (refine gp_see ?_; first | refine p_f ?_ | refine pS ?_ | ((fail_if_success refine gp_lit rfl rfl rfl rfl ?_); first | apply gp_guard_dec rfl rfl rfl rfl | apply gp_guard rfl rfl rfl rfl | fail))
    | (refine gp_one ?_; first | refine pO ?_ | refine p_n (fun _ => ?_) | refine p_app (fun _ _ => ?_) | refine p_b0 (fun _ => ?_) | ((fail_if_success refine gp_lit rfl rfl rfl rfl ?_); first | apply gp_guard_dec rfl rfl rfl rfl | apply gp_guard rfl rfl rfl rfl | fail) | refine p_c (rvarint n.toNat (by omega)) (fun _ _ => ?_))
    | refine gp_two ?_ ?_ | refine gp_done hd hk ?_ | intro _ | refine p_ta hd hk (fun _ _ _ hd hk => ?_) | refine p_ts hd hk (fun _ hd hk => ?_))
  rename_i q' c'
  rw [cells8_append, show bs.length + (vb n.toNat).length = (bs ++ vb n.toNat).length by simp]
  exact gR (q', c') trivial
theorem rencode (a : S3) : Does Tryz.prog 55 [a.v] [] (X := OA) (fun x => .slice x.1 a.enc.length x.2) (fun x => [.own x.1 a.enc.length x.2 1 (cells8 a.enc) 5]) (fun _ => True) := by
  refine fn_intro Tryz.func55 rfl Tryz.ntmps55 rfl (by simp only [argFr, Nat.zero_add, Nat.reduceAdd]; rfl) (fun Γ => ?_)
  repeat (first
    | (refine g_ops ?_; first | refine sO ?_ | refine s_n (fun _ => ?_) | refine s_app (fun _ _ => ?_) | refine s_b0 (fun _ => ?_) | ((fail_if_success refine g_lit rfl rfl rfl ?_); first | apply g_partM rfl rfl rfl | apply g_partMB rfl rfl rfl | fail) | refine s_p (rsound a.w a.l a.n) ?_)
    | refine gS ?_ | exact s_m | intro _ | (refine gp_take ?_; first | refine pT ?_ | ((fail_if_success refine gp_lit rfl rfl rfl rfl ?_); first | apply gp_guard_dec rfl rfl rfl rfl | apply gp_guard rfl rfl rfl rfl | fail) | refine p_p (rsound a.w a.l a.n) ?_)
    | (refine gp_see ?_; first | refine p_f ?_ | refine pS ?_ | ((fail_if_success refine gp_lit rfl rfl rfl rfl ?_); first | apply gp_guard_dec rfl rfl rfl rfl | apply gp_guard rfl rfl rfl rfl | fail) | refine p_sp (rsound a.w a.l a.n) ?_)
    | (refine gp_one ?_; first | refine pO ?_ | refine p_n (fun _ => ?_) | refine p_app (fun _ _ => ?_) | refine p_b0 (fun _ => ?_) | ((fail_if_success refine gp_lit rfl rfl rfl rfl ?_); first | apply gp_guard_dec rfl rfl rfl rfl | apply gp_guard rfl rfl rfl rfl | fail))
    | refine gp_two ?_ ?_ | refine gp_done hd hk ?_ | intro _ | refine p_ta hd hk (fun _ _ _ hd hk => ?_) | refine p_ts hd hk (fun _ hd hk => ?_))
  refine g_cond rfl (fun h => ?_) (fun h => ?_)
  · have e : a.enc = [] := by unfold S3.enc; rw [if_neg]; intro hs; rw [show soundB a.w a.l a.n = a.sound from rfl, hs] at h; cases h
    rw [e]
    repeat (first
      | (refine g_ops ?_; first | refine sO ?_ | refine s_n (fun _ => ?_) | refine s_app (fun _ _ => ?_) | refine s_b0 (fun _ => ?_) | ((fail_if_success refine g_lit rfl rfl rfl ?_); first | apply g_partM rfl rfl rfl | apply g_partMB rfl rfl rfl | fail))
      | refine gS ?_ | exact s_m | intro _)
    refine g_own_nil none 1 5 ?_
    exact gR (none, 0) trivial
  · have hs : soundB a.w a.l a.n = true := by simpa using h
    have hb := (soundB_iff _ _ _).1 hs
    have e : a.enc = ([] ++ vb a.w.toNat ++ vb a.l.toNat) ++ vb a.n.toNat := by unfold S3.enc encL; rw [if_pos (show a.sound = true from hs)]; simp
    rw [e]
    have l0 := vb_len8 a.w.toNat (by omega)
    have l1 := vb_len8 a.l.toNat (by omega)
    have l2 := vb_len8 a.n.toNat (by omega)
    repeat (first
      | (refine g_ops ?_; first | refine sO ?_ | refine s_n (fun _ => ?_) | refine s_app (fun _ _ => ?_) | refine s_b0 (fun _ => ?_) | ((fail_if_success refine g_lit rfl rfl rfl ?_); first | apply g_partM rfl rfl rfl | apply g_partMB rfl rfl rfl | fail))
      | refine gS ?_ | exact s_m | intro _ | (refine gp_take ?_; first | refine pT ?_ | ((fail_if_success refine gp_lit rfl rfl rfl rfl ?_); first | apply gp_guard_dec rfl rfl rfl rfl | apply gp_guard rfl rfl rfl rfl | fail))
      | (refine gp_see ?_; first | refine p_f ?_ | refine pS ?_ | ((fail_if_success refine gp_lit rfl rfl rfl rfl ?_); first | apply gp_guard_dec rfl rfl rfl rfl | apply gp_guard rfl rfl rfl rfl | fail))
      | (refine gp_one ?_; first | refine pO ?_ | refine p_n (fun _ => ?_) | refine p_app (fun _ _ => ?_) | refine p_b0 (fun _ => ?_) | ((fail_if_success refine gp_lit rfl rfl rfl rfl ?_); first | apply gp_guard_dec rfl rfl rfl rfl | apply gp_guard rfl rfl rfl rfl | fail))
      | refine gp_two ?_ ?_ | refine gp_done hd hk ?_ | intro _ | refine p_ta hd hk (fun _ _ _ hd hk => ?_) | refine p_ts hd hk (fun _ hd hk => ?_))
    refine g_own_nil none 1 5 ?_
    refine g_drawO (.take 0 (.see 1 [] (.take 3 (.see 4 [] (.take 6 (.see 7 [] (.one 2 (.one 5 (.one 8 (.take 9 .done)))))))))) .here (fun k hd hk => ?_)
    repeat (first
      | (refine gp_take ?_; first | refine pT ?_ | ((fail_if_success refine gp_lit rfl rfl rfl rfl ?_); first | apply gp_guard_dec rfl rfl rfl rfl | apply gp_guard rfl rfl rfl rfl | fail))
      | (refine gp_see ?_; first | refine p_f ?_ | refine pS ?_ | ((fail_if_success refine gp_lit rfl rfl rfl rfl ?_); first | apply gp_guard_dec rfl rfl rfl rfl | apply gp_guard rfl rfl rfl rfl | fail))
      | (refine gp_one ?_; first | refine pO ?_ | refine p_n (fun _ => ?_) | refine p_app (fun _ _ => ?_) | refine p_b0 (fun _ => ?_) | ((fail_if_success refine gp_lit rfl rfl rfl rfl ?_); first | apply gp_guard_dec rfl rfl rfl rfl | apply gp_guard rfl rfl rfl rfl | fail) | refine p_c (rnum none 0 [] a.w (by omega) (by omega) (by decide)) (fun _ _ => ?_))
      | refine gp_two ?_ ?_ | refine gp_done hd hk ?_ | intro _ | refine p_ta hd hk (fun _ _ _ hd hk => ?_) | refine p_ts hd hk (fun _ hd hk => ?_))
    rename_i x1 _
    obtain ⟨q1, c1⟩ := x1
    dsimp only
    repeat (first
      | (refine gp_take ?_; first | refine pT ?_ | ((fail_if_success refine gp_lit rfl rfl rfl rfl ?_); first | apply gp_guard_dec rfl rfl rfl rfl | apply gp_guard rfl rfl rfl rfl | fail))
      | (refine gp_see ?_; first | refine p_f ?_ | refine pS ?_ | ((fail_if_success refine gp_lit rfl rfl rfl rfl ?_); first | apply gp_guard_dec rfl rfl rfl rfl | apply gp_guard rfl rfl rfl rfl | fail))
      | (refine gp_one ?_; first | refine pO ?_ | refine p_n (fun _ => ?_) | refine p_app (fun _ _ => ?_) | refine p_b0 (fun _ => ?_) | ((fail_if_success refine gp_lit rfl rfl rfl rfl ?_); first | apply gp_guard_dec rfl rfl rfl rfl | apply gp_guard rfl rfl rfl rfl | fail) | refine p_c (rnum q1 c1 ([] ++ vb a.w.toNat) a.l (by omega) (by omega) (by simp; omega)) (fun _ _ => ?_))
      | refine gp_two ?_ ?_ | refine gp_done hd hk ?_ | intro _ | refine p_ta hd hk (fun _ _ _ hd hk => ?_) | refine p_ts hd hk (fun _ hd hk => ?_))
    rename_i x2 _
    obtain ⟨q2, c2⟩ := x2
    dsimp only
    repeat (first
      | (refine gp_take ?_; first | refine pT ?_ | ((fail_if_success refine gp_lit rfl rfl rfl rfl ?_); first | apply gp_guard_dec rfl rfl rfl rfl | apply gp_guard rfl rfl rfl rfl | fail))
      | (refine gp_see ?_; first | refine p_f ?_ | refine pS ?_ | ((fail_if_success refine gp_lit rfl rfl rfl rfl ?_); first | apply gp_guard_dec rfl rfl rfl rfl | apply gp_guard rfl rfl rfl rfl | fail))
      | (refine gp_one ?_; first | refine pO ?_ | refine p_n (fun _ => ?_) | refine p_app (fun _ _ => ?_) | refine p_b0 (fun _ => ?_) | ((fail_if_success refine gp_lit rfl rfl rfl rfl ?_); first | apply gp_guard_dec rfl rfl rfl rfl | apply gp_guard rfl rfl rfl rfl | fail) | refine p_c (rnum q2 c2 ([] ++ vb a.w.toNat ++ vb a.l.toNat) a.n (by omega) (by omega) (by simp; omega)) (fun _ _ => ?_))
      | refine gp_two ?_ ?_ | refine gp_done hd hk ?_ | intro _ | refine p_ta hd hk (fun _ _ _ hd hk => ?_) | refine p_ts hd hk (fun _ hd hk => ?_))
    repeat (first
      | (refine g_ops ?_; first | refine sO ?_ | refine s_n (fun _ => ?_) | refine s_app (fun _ _ => ?_) | refine s_b0 (fun _ => ?_) | ((fail_if_success refine g_lit rfl rfl rfl ?_); first | apply g_partM rfl rfl rfl | apply g_partMB rfl rfl rfl | fail))
      | refine gS ?_ | exact s_m | intro _)
    rename_i x3 _
    exact gR x3 trivial
theorem rtext (q : Option Addr) (c : Nat) (bs : List UInt8) (s : ByteArray) (hb : bs.length ≤ 100000000) (hs : s.size ≤ 100000000) : Does Tryz.prog 53 [.slice q bs.length c, .string s] [.own q bs.length c 1 (cells8 bs) 5] (X := OA) (fun x => .slice x.1 (bs ++ txE s).length x.2) (fun x => [.own x.1 (bs ++ txE s).length x.2 1 (cells8 (bs ++ txE s)) 5]) (fun _ => True) := by
  have hv := vb_len10 s.size (by omega)
  have e1 : cells8 bs ++ cells8 (vb s.size) ++ byteCells s = cells8 (bs ++ txE s) := by
    rw [cells8_append, txE, ← List.append_assoc]
    simp [cells8, byteCells]
  have e2 : bs.length + (vb s.size).length + s.size = (bs ++ txE s).length := by simp [txE]; omega
  refine fn_intro Tryz.func53 rfl Tryz.ntmps53 rfl (by simp only [argFr, Nat.zero_add, Nat.reduceAdd]; rfl) (fun Γ => ?_)
  repeat ((fail_if_success refine s_at 12 ?_); first
    | (refine g_ops ?_; first | refine sO ?_ | refine s_n (fun _ => ?_) | refine s_app (fun _ _ => ?_) | refine s_b0 (fun _ => ?_) | ((fail_if_success refine g_lit rfl rfl rfl ?_); first | apply g_partM rfl rfl rfl | apply g_partMB rfl rfl rfl | fail))
    | refine gS ?_ | exact s_m | intro _)
  refine s_q (q := by exact qs_convInt rfl) ?_
  refine g_as 12 (v' := .int .u64 ((s.size : Nat) : Int)) rfl (congrArg (Value.int .u64) (by rw [u64_mod]; omega)) ?_
  rw [Nat.zero_add, List.nil_append]
  repeat (first
    | (refine g_ops ?_; first | refine sO ?_ | refine s_n (fun _ => ?_) | refine s_app (fun _ _ => ?_) | refine s_b0 (fun _ => ?_) | ((fail_if_success refine g_lit rfl rfl rfl ?_); first | apply g_partM rfl rfl rfl | apply g_partMB rfl rfl rfl | fail) | refine s_c (rvarint s.size (by omega)) (fun _ _ => ?_))
    | refine gS ?_ | exact s_m | intro _)
  rename_i q' c'
  rw [e1, e2]
  exact gR (q', c') trivial
set_option maxHeartbeats 1000000 in
theorem rencodeEvent {H : HP} (x : Ev) (h1 : x.st.size ≤ 1000000000) (h2 : x.data.size ≤ 1000000000) : Does Tryz.prog 32 [x.v] [Pile H] (X := OA) (fun y => .slice y.1 x.enc.length y.2) (fun y => [.own y.1 x.enc.length y.2 1 (cells8 x.enc) 5, Pile H]) (fun _ => True) := by
  refine fn_intro Tryz.func32 rfl Tryz.ntmps32 rfl (by simp only [argFr, Nat.zero_add, Nat.reduceAdd]; rfl) (fun Γ => ?_)
  repeat (first
    | (refine g_ops ?_; first | refine sO ?_ | refine s_n (fun _ => ?_) | refine s_appB (fun _ _ => ?_) | refine s_app (fun _ _ => ?_) | refine s_b0 (fun _ => ?_) | ((fail_if_success refine g_lit rfl rfl rfl ?_); first | apply g_partM rfl rfl rfl | apply g_partMB rfl rfl rfl | fail) | refine s_p (rsound x.s.w x.s.l x.s.n) ?_ | refine s_k (name1d H x.st h1) ?_ | refine s_k (valid1 H x.data h2) ?_)
    | apply g_regB (id := 1) 45 | refine gS ?_ | exact s_m | intro _ | (refine gp_take ?_; first | refine pT ?_ | ((fail_if_success refine gp_lit rfl rfl rfl rfl ?_); first | apply gp_guard_dec rfl rfl rfl rfl | apply gp_guard rfl rfl rfl rfl | fail) | refine p_p (rsound x.s.w x.s.l x.s.n) ?_)
    | (refine gp_see ?_; first | refine p_f ?_ | refine pS ?_ | ((fail_if_success refine gp_lit rfl rfl rfl rfl ?_); first | apply gp_guard_dec rfl rfl rfl rfl | apply gp_guard rfl rfl rfl rfl | fail) | refine p_sp (rsound x.s.w x.s.l x.s.n) ?_ | refine p_h (name1d H x.st h1) hd hk ?_ | refine p_h (valid1 H x.data h2) hd hk ?_)
    | (refine gp_one ?_; first | refine pO ?_ | refine p_n (fun _ => ?_) | refine p_appB (fun _ _ => ?_) | refine p_app (fun _ _ => ?_) | refine p_b0 (fun _ => ?_) | ((fail_if_success refine gp_lit rfl rfl rfl rfl ?_); first | apply gp_guard_dec rfl rfl rfl rfl | apply gp_guard rfl rfl rfl rfl | fail) | refine p_k (name1d H x.st h1) ?_ | refine p_k (valid1 H x.data h2) ?_)
    | refine gp_two ?_ ?_ | refine gp_done hd hk ?_ | intro _ | refine p_ta hd hk (fun _ _ _ hd hk => ?_) | refine p_ts hd hk (fun _ hd hk => ?_))
  refine g_as 45 (v' := .bool (!x.ok)) rfl (congrArg Value.bool ?_) ?_
  · simp only [Bool.cond_true_left, Ev.ok, validB, S3.sound]
    generalize nameB x.st = b1
    generalize Lib.validD x.data.data.toList = b4
    generalize soundB x.s.w x.s.l x.s.n = b5
    rw [Bool.eq_iff_iff]
    cases b1 <;> cases b4 <;> cases b5 <;> simp <;> omega
  refine g_cond rfl (fun h => ?_) (fun h => ?_)
  · have hk : x.ok = false := by simpa using h
    repeat (first
      | (refine g_ops ?_; first | refine sO ?_ | refine s_n (fun _ => ?_) | refine s_appB (fun _ _ => ?_) | refine s_app (fun _ _ => ?_) | refine s_b0 (fun _ => ?_) | ((fail_if_success refine g_lit rfl rfl rfl ?_); first | apply g_partM rfl rfl rfl | apply g_partMB rfl rfl rfl | fail))
      | refine gS ?_ | exact s_m | intro _)
    have e : x.enc = [] := by unfold Ev.enc; rw [if_neg (by simp [hk])]
    rw [e]
    refine g_own_nil none 1 5 ?_
    exact gR (none, 0) trivial
  · have hk : x.ok = true := by simpa using h
    obtain ⟨k1, k2, k3, k4, k5, k6⟩ := (Ev.ok_iff x).1 hk
    have n1 := name_size k1
    have v1 := vb_len10 x.st.size (by omega)
    have v2 := vb_len10 x.ver.toNat (by omega)
    have v3 := vb_len10 x.data.size (by omega)
    have hl : (txE x.st).length ≤ 170 := by simp only [txE, List.length_append]; rw [show x.st.data.toList.length = x.st.size from by simp]; omega
    have hl3 : (txE x.data).length ≤ 1010 := by simp only [txE, List.length_append]; rw [show x.data.data.toList.length = x.data.size from by simp]; omega
    have hl2 := x.s.enc_len
    have e : x.enc = [] ++ txE x.st ++ vb x.ver.toNat ++ txE x.data ++ x.s.enc ++ vb x.idx.toNat := by unfold Ev.enc; rw [if_pos hk]; simp
    rw [e]
    have hB1 : ([] ++ txE x.st ++ vb x.ver.toNat).length ≤ 1000 := by simp only [List.length_append, List.length_nil]; omega
    have hB3 : ([] ++ txE x.st ++ vb x.ver.toNat ++ txE x.data).length ≤ 3000 := by simp only [List.length_append, List.length_nil] at hB1 ⊢; omega
    have hB4 : ([] ++ txE x.st ++ vb x.ver.toNat ++ txE x.data ++ x.s.enc).length ≤ 4000 := by simp only [List.length_append, List.length_nil] at hB3 ⊢; omega
    have hB0 : ([] ++ txE x.st).length ≤ 1000 := by simp only [List.length_append, List.length_nil]; omega
    clear e
    obtain ⟨B3, hB⟩ : ∃ B3, B3 = [] ++ txE x.st ++ vb x.ver.toNat ++ txE x.data := ⟨_, rfl⟩
    rw [← hB] at hB3 hB4 ⊢
    repeat (first
      | (refine g_ops ?_; first | refine sO ?_ | refine s_n (fun _ => ?_) | refine s_appB (fun _ _ => ?_) | refine s_app (fun _ _ => ?_) | refine s_b0 (fun _ => ?_) | ((fail_if_success refine g_lit rfl rfl rfl ?_); first | apply g_partM rfl rfl rfl | apply g_partMB rfl rfl rfl | fail))
      | refine gS ?_ | exact s_m | intro _)
    rename_i bx
    refine g_cutX (X := OA) (fun y => [(1, ptr bx), (2, .slice none 0 0), (3, .slice y.1 B3.length y.2)]) (fun y => [.own y.1 B3.length y.2 1 (cells8 B3) 5, .row bx x.cells 68, Pile H]) (fun _ => True) ?_ (fun y _ => ?_)
    · rw [hB]
      refine g_own_nil none 1 5 ?_
      refine g_draw (.take 0 (.see 1 [] (.take 3 (.see 4 [] (.take 6 (.see 7 [] (.one 2 (.one 5 (.one 8 (.take 9 .done)))))))))) (by kernel_rfl) (C := [.row bx x.cells 68, Pile H]) (by (repeat (first | exact Take.nil | apply Take.cons | exact Sel.here | apply Sel.there)); first | done | fail) (fun k hd hk => ?_)
      repeat (first
        | (refine gp_take ?_; first | refine pT ?_ | ((fail_if_success refine gp_lit rfl rfl rfl rfl ?_); first | apply gp_guard_dec rfl rfl rfl rfl | apply gp_guard rfl rfl rfl rfl | fail))
        | (refine gp_see ?_; first | refine p_f ?_ | refine pS ?_ | ((fail_if_success refine gp_lit rfl rfl rfl rfl ?_); first | apply gp_guard_dec rfl rfl rfl rfl | apply gp_guard rfl rfl rfl rfl | fail))
        | (refine gp_one ?_; first | refine pO ?_ | refine p_n (fun _ => ?_) | refine p_appB (fun _ _ => ?_) | refine p_app (fun _ _ => ?_) | refine p_b0 (fun _ => ?_) | ((fail_if_success refine gp_lit rfl rfl rfl rfl ?_); first | apply gp_guard_dec rfl rfl rfl rfl | apply gp_guard rfl rfl rfl rfl | fail) | refine p_c (rtext none 0 [] x.st (by decide) (by omega)) (fun _ _ => ?_) | refine p_c (rnum _ _ ([] ++ txE x.st) x.ver (by omega) (by omega) (by omega)) (fun _ _ => ?_) | refine p_c (rtext _ _ ([] ++ txE x.st ++ vb x.ver.toNat) x.data (by omega) (by omega)) (fun _ _ => ?_))
        | refine gp_two ?_ ?_ | refine gp_done hd hk ?_ | intro _ | refine p_ta hd hk (fun _ _ _ hd hk => ?_) | refine p_ts hd hk (fun _ hd hk => ?_))
      exact gM (⟨_, _⟩ : OA) trivial
    · obtain ⟨q3, c3⟩ := y
      dsimp only
      repeat (first
        | (refine g_ops ?_; first | refine sO ?_ | refine s_n (fun _ => ?_) | refine s_appB (fun _ _ => ?_) | refine s_app (fun _ _ => ?_) | refine s_b0 (fun _ => ?_) | ((fail_if_success refine g_lit rfl rfl rfl ?_); first | apply g_partM rfl rfl rfl | apply g_partMB rfl rfl rfl | fail))
        | refine gS ?_ | exact s_m | intro _)
      refine g_draw (.take 0 (.take 1 (.see 2 [] (.take 5 (.see 6 [] (.one 3 (.one 4 (.one 7 (.take 8 .done))))))))) (by kernel_rfl) (C := [.row bx x.cells 68, Pile H]) (by (repeat (first | exact Take.nil | apply Take.cons | exact Sel.here | apply Sel.there)); first | done | fail) (fun k hd hk => ?_)
      repeat (first
        | (refine gp_take ?_; first | refine pT ?_ | ((fail_if_success refine gp_lit rfl rfl rfl rfl ?_); first | apply gp_guard_dec rfl rfl rfl rfl | apply gp_guard rfl rfl rfl rfl | fail))
        | (refine gp_see ?_; first | refine p_f ?_ | refine pS ?_ | ((fail_if_success refine gp_lit rfl rfl rfl rfl ?_); first | apply gp_guard_dec rfl rfl rfl rfl | apply gp_guard rfl rfl rfl rfl | fail))
        | (refine gp_one ?_; first | refine pO ?_ | refine p_n (fun _ => ?_) | refine p_appB (fun _ _ => ?_) | refine p_app (fun _ _ => ?_) | refine p_b0 (fun _ => ?_) | ((fail_if_success refine gp_lit rfl rfl rfl rfl ?_); first | apply gp_guard_dec rfl rfl rfl rfl | apply gp_guard rfl rfl rfl rfl | fail) | refine p_c (rencode x.s) (fun _ _ => ?_) | refine p_c (rnum _ _ (B3 ++ x.s.enc) x.idx (by omega) (by omega) (by omega)) (fun _ _ => ?_))
        | refine gp_two ?_ ?_ | refine gp_done hd hk ?_ | intro _ | refine p_ta hd hk (fun _ _ _ hd hk => ?_) | refine p_ts hd hk (fun _ hd hk => ?_))
      repeat (first
        | (refine g_ops ?_; first | refine sO ?_ | refine s_n (fun _ => ?_) | refine s_appB (fun _ _ => ?_) | refine s_app (fun _ _ => ?_) | refine s_b0 (fun _ => ?_) | ((fail_if_success refine g_lit rfl rfl rfl ?_); first | apply g_partM rfl rfl rfl | apply g_partMB rfl rfl rfl | fail))
        | refine gS ?_ | exact s_m | intro _)
      exact gR (⟨_, _⟩ : OA) trivial
end Go.Proofs.YtcgmliaahdpmcaaGreatDoor

namespace Go.Sl
open Go.WideElems (Fit rd rg)
theorem insert_perm {H : Type} (x : Lit × DataW H) : ∀ l : List (Lit × DataW H), (DataW.insert x l).Perm (x :: l)
  | [] => by simp [DataW.insert]
  | y :: r => by
    unfold DataW.insert
    split
    · exact .refl _
    · exact ((insert_perm x r).cons y).trans (.swap x y r)
theorem inserts_perm {H : Type} : ∀ l : List (Lit × DataW H), (l.foldr DataW.insert []).Perm l
  | [] => .refl _
  | x :: l => (insert_perm x _).trans ((inserts_perm l).cons x)
def strB : Value → List UInt8
  | .string s => s.data.toList
  | _ => []
def noR : Value → Option (DataW Unit × List MemPlace) := fun _ => some (.nil, [])
theorem owns_of {P : Program} {kt : TypeId} (hk : P.underlying kt = some .string) {w : World} {m : Nat} {es : Array MapEntry} {clock : Nat} {M : List (ByteArray × Value)} (hb : w.heap[m]? = some (.map es clock)) (hm : mapsTo M es.toList) (hst : MapKept.Stamped es clock)
    (hl : M.length ≤ 1000000000) (hs : ∀ x ∈ M, x.1.size ≤ maxLen) :
    ∃ D : DataW Unit, w.ownsMap P kt noR m M.length D ∧ Maps.size D = M.length ∧ (strKeys D).Perm (M.map fun x => x.1.data.toList) := by
  have hlen : es.toList.length = M.length := by
    have := congrArg List.length hm
    simpa using this
  have hkey : ∀ x ∈ es.toList, ∃ a, (∃ v, (a, v) ∈ M) ∧ x.key = .string a := fun x hx => by
    have h1 : (x.key, x.val) ∈ es.toList.map (fun e => (e.key, e.val)) := List.mem_map.2 ⟨x, hx, rfl⟩
    rw [hm] at h1
    obtain ⟨y, hy, e⟩ := List.mem_map.1 h1
    exact ⟨y.1, ⟨y.2, hy⟩, by have := congrArg Prod.fst e; exact this.symm⟩
  have hrg : ∀ x ∈ es.toList, rd P kt noR x = some (.string (strB x.key), .nil) := fun x hx => by
    obtain ⟨a, ⟨v, hv⟩, e⟩ := hkey x hx
    simp only [rd, e, WideMaps.keyOf_string_mk hk (hs _ hv), noR, strB]
    rfl
  have hperm := inserts_perm (es.toList.map (rg P kt noR))
  have hkeys : es.toList.map (fun x => strB x.key) = M.map fun x => x.1.data.toList := by
    have := congrArg (List.map fun y : Value × Value => strB y.1) hm
    simpa [List.map_map, Function.comp_def, MapKey.v, strB] using this
  refine ⟨_, ⟨es, clock, hb, ⟨?_, hst, fun x hx => ⟨_, hrg x hx⟩⟩, ?_, rfl⟩, ?_, ?_⟩
  · have : es.size = M.length := by simpa using hlen
    rw [this]; unfold maxLen; omega
  · have : es.size = M.length := by simpa using hlen
    omega
  · show (List.foldr DataW.insert [] (es.toList.map (rg P kt noR))).length = _
    rw [hperm.length_eq, List.length_map, hlen]
  · show ((List.foldr DataW.insert [] (es.toList.map (rg P kt noR))).map fun p => strOf p.1).Perm _
    refine (hperm.map _).trans ?_
    rw [← hkeys, List.map_map]
    refine .of_eq (List.map_congr_left fun x hx => ?_)
    simp only [Function.comp_def, rg, hrg x hx, Option.getD_some, strOf]
theorem Holds.laterNew {Γ : Ctx} {L : List Chunk} {w w' : World} {g : Nat} {o : Obj} (hh : Holds Γ L w) (hB : Go.RowKit.Below w.heap.size w w') (hg : w.heap.size ≤ g) (ho : w'.heap[g]? = some o) : Holds Γ (.pt g o :: L) w' := by
  have h2 := hh.later hB.os hB.tape hB.output hB.size (fun c hc => hB.block c hc)
  obtain ⟨h, d, s, a⟩ := hh.own
  have hno : ∀ {k : HP}, HP.sub k (wheap w) → k g = none := fun {k} hk => by
    cases hx : k g with
    | none => rfl
    | some x =>
      have : w.heap[g]? = some x := hk _ _ hx
      have := (Array.getElem?_eq_some_iff.1 this).1
      omega
  have hsub : ∀ {k : HP}, HP.sub k (wheap w) → HP.sub k (wheap w') := fun {k} hk c x hx => by
    have h1 : w.heap[c]? = some x := hk c x hx
    have h2 : c < w.heap.size := (Array.getElem?_eq_some_iff.1 h1).1
    show w'.heap[c]? = some x
    rw [hB.block c h2]; exact h1
  refine ⟨h2.os, h2.tape, h2.output, h2.frz, h2.frame, HP.union (HP.one g o) h, ?_, HP.union_sub ?_ (hsub s), HP.one g o, h, ?_, HP.sub_union_left _ _, HP.sub_union_right ?_, ?_, a⟩
  · intro c
    by_cases e : c = g
    · left; rw [e]; exact hno hh.frame
    · rcases d c with p | p
      · exact .inl p
      · right; simp [HP.union, HP.one, e, p]
  · intro c x hx
    by_cases e : c = g
    · subst e; simp [HP.one] at hx; subst hx; exact ho
    · simp [HP.one, e] at hx
  · intro c
    by_cases e : c = g
    · right; rw [e]; exact hno s
    · left; simp [HP.one, e]
  · intro c
    by_cases e : c = g
    · right; rw [e]; exact hno s
    · left; simp [HP.one, e]
  · simp [Chunk.sat, HP.one]
theorem Holds.ownRowNew {Γ : Ctx} {L : List Chunk} {w w' : World} {e : TypeId} {n : Nat} {v : Value} {xs : List Value} (hh : Holds Γ L w) (hB : Go.RowKit.Below w.heap.size w w') (hr : w'.ownsRow w.heap.size e 1 v n xs) (ho : xs.all (·.oneCell') = true) :
    ∃ p c, v = .slice p n c ∧ xs.length = n ∧ Holds Γ (.own p n c 1 xs e :: L) w' := by
  obtain ⟨hl, ⟨rfl, rfl⟩ | ⟨g, cap, cur, rfl, hg, hcur, hn, hm, hsz, htk⟩⟩ := hr
  · obtain rfl : xs = [] := List.eq_nil_of_length_eq_zero (by omega)
    refine ⟨none, 0, rfl, rfl, ?_⟩
    have h2 := hh.later hB.os hB.tape hB.output hB.size (fun c hc => hB.block c hc)
    exact h2.mono fun h al => ⟨fun _ => none, h, fun _ => .inl rfl, (fun _ _ q => by cases q), HP.sub.refl _, ⟨⟨rfl, rfl⟩, .inl ⟨rfl, rfl⟩⟩, al⟩
  · refine ⟨some ⟨g, 0, none⟩, cap, rfl, by omega, ?_⟩
    have h2 := hh.laterNew hB hg hcur
    refine h2.mono fun h ⟨h1, h2, dj, s1, s2, hc, hr⟩ => ⟨h1, h2, dj, s1, s2, ⟨⟨hl, ho⟩, .inr ⟨g, cur.toList.drop n, rfl, ?_, hn, ?_⟩⟩, hr⟩
    · simp; omega
    · have hc' : h1 g = some (.cells cur e (0, 0)) := hc
      rw [hc', ← htk, Nat.mul_one, List.take_append_drop]
structure SkX where
  p : Option Addr
  c : Nat
  ys : List ByteArray
def ltB (a b : ByteArray) : Bool := Op.bytesLess a.toList b.toList
theorem does_sortedS {P : Program} {f g : FuncId} {Bm m : Nat} {T kt : TypeId} {M : List (ByteArray × Value)} (hk : P.underlying kt = some .string) (hl : M.length ≤ 1000000000) (hs : ∀ x ∈ M, x.1.size ≤ maxLen)
    (hC : ∀ (w : World) (b nn : Nat) (D0 : DataW Unit), w.cell? ⟨Bm, 0, none⟩ = some (.map (some b)) → Bm < w.heap.size → w.ownsMap P kt noR b nn D0 → Maps.size D0 ≤ maxLen → Maps.size D0 * 16 ≤ 140737488355328 →
      Calls P f #[.func (.func g) #[] #[.pointer (some ⟨Bm, 0, none⟩)]] w fun e w' => ∃ (v : Value) (ss : List (List UInt8)), e = .returned v ∧ ss.Perm (strKeys D0) ∧ w'.ownsRow w.heap.size kt 1 v ss.length ((ss.mergeSort fun x y => decide (x ≤ y)).map Go.Proofs.encStr) ∧ (v = .slice none 0 0 ↔ ss = []) ∧ Go.RowKit.Below w.heap.size w w') :
    Does P f [.func (.func g) #[] #[.pointer (some ⟨Bm, 0, none⟩)]] [.row Bm [.map (some m)] T, .map m M] (X := SkX) (fun x => .slice x.p x.ys.length x.c) (fun x => [.own x.p x.ys.length x.c 1 (x.ys.map .string) kt, .row Bm [.map (some m)] T, .map m M])
      (fun x => x.ys.Perm (M.map (·.1)) ∧ x.ys.Pairwise fun a b => ltB a b = true) := fun Γ w hh => by
  have hB := hh.block .here
  have hlt := (Array.getElem?_eq_some_iff.1 hB).1
  obtain ⟨es, clock, hb, hm, hst, _⟩ := hh.mapAt (.there .here)
  obtain ⟨D, h1, h2, h3⟩ := owns_of hk hb hm hst hl hs
  refine (hC w m M.length D (by simp [World.cell?, hB]) hlt h1 (by rw [h2]; unfold maxLen; omega) (by rw [h2]; omega)).mono ?_
  rintro e w' ⟨v, ss, rfl, hp, hr, _, hBl⟩
  obtain ⟨zs, hz⟩ : ∃ zs, zs = ss.mergeSort fun x y => decide (x ≤ y) := ⟨_, rfl⟩
  have hzp : zs.Perm ss := by rw [hz]; exact List.mergeSort_perm _ _
  have hzs : zs.Pairwise fun x y => decide (x ≤ y) = true := by
    rw [hz]
    exact List.pairwise_mergeSort (fun a b c h1 h2 => by simp only [decide_eq_true_eq] at *; exact List.le_trans h1 h2) (fun a b => by simp only [Bool.or_eq_true, decide_eq_true_eq]; exact List.le_total a b) ss
  rw [← hz] at hr
  have hone : (zs.map Go.Proofs.encStr).all (·.oneCell') = true := by
    rw [List.all_eq_true]
    intro v hv
    obtain ⟨z, _, rfl⟩ := List.mem_map.1 hv
    rfl
  obtain ⟨p, c, rfl, hlen, hH⟩ := hh.ownRowNew hBl hr hone
  have hnd := stamped_nodup hm hst.2.2
  have hall : zs.Perm (M.map fun x => x.1.data.toList) := (hzp.trans hp).trans h3
  have hinj : ∀ a b : ByteArray, a.data.toList = b.data.toList → a = b := fun a b e => ByteArray.ext (Array.ext' e)
  have hznd : zs.Nodup := by
    refine hall.nodup_iff.2 ?_
    rw [show (M.map fun x => x.1.data.toList) = (M.map (·.1)).map fun a => a.data.toList by simp [List.map_map, Function.comp_def]]
    exact List.pairwise_map.2 (hnd.imp fun hne e => hne (hinj _ _ e))
  refine ⟨⟨p, c, zs.map fun z => ⟨z.toArray⟩⟩, ⟨?_, ?_⟩, ?_, ?_⟩
  · have := hall.map fun z : List UInt8 => (⟨z.toArray⟩ : ByteArray)
    refine this.trans (.of_eq ?_)
    rw [List.map_map]
    exact List.map_congr_left fun x _ => by simp
  · refine List.pairwise_map.2 ((hzs.and hznd).imp fun {a b} h => ?_)
    obtain ⟨h4, h5⟩ := h
    simp only [decide_eq_true_eq] at h4
    unfold ltB
    rw [Go.Proofs.bytesLess_eq, decide_eq_true_eq, ByteArray.toList_eq, ByteArray.toList_eq]
    simp only [List.toList_toArray]
    exact Std.lt_of_le_of_ne h4 h5
  · simp only [List.length_map]
    congr 1
    rw [← hlen]; simp
  · have e1 : (zs.map fun z => (⟨z.toArray⟩ : ByteArray)).map Value.string = zs.map Go.Proofs.encStr := by
      rw [List.map_map]; rfl
    have e2 : (zs.map fun z => (⟨z.toArray⟩ : ByteArray)).length = ss.length := by rw [List.length_map, ← hlen, List.length_map]
    dsimp only
    rw [e1, e2]
    exact hH
end Go.Sl

/-
  DERIVED: THE SHELF's CONTRACTS AT THIS DUMP, IN PLAIN WORDS (tools/lay-plain.mjs out of 'TryzShelK.lean', which tools/lay-shelf.mjs wrote): THE SAME DECLARATIONS UNDER THE SAME NAMES: 'import', 'namespace', 'open', 'def', 'theorem' AND NOTHING ELSE: no command of the shelf's: FOR A HAND-IN. Each laying: the table of numbers ('.._ren') and one theorem, a field a fact of the dump's own or the kernel's comparison; each contract: ONE APPLICATION.
-/
namespace Go.Proofs
open Go.Shelf
def Tryz.keysA_ren : Go.Shelf.Ren := ⟨fun | 7 => 44 | 10 => 65 | n => n, fun | 23 => 69 | 26 => 9 | 3 => 75 | 28 => 89 | 0 => 0 | 27 => 88 | 33 => 73 | 4 => 4 | n => n, fun | n => n⟩
theorem Tryz.keysA : Go.Proofs.SlLaysZ.n7 Tryz.prog Tryz.keysA_ren := {
  mixed := by kernel_rfl
  f7 := ⟨Tryz.f44.name, by decide, Tryz.func44.trans (congrArg some (by kernel_rfl))⟩
  f10 := ⟨Tryz.f65.name, by decide, Tryz.func65.trans (congrArg some (by kernel_rfl))⟩
  t0 := Tryz.underlying0
  a0 := Tryz.isAgg0
  z0 := Tryz.sizeOf0
  v0 := Tryz.zeroValue0
  t4 := Tryz.underlying4
  a4 := Tryz.isAgg4
  z4 := Tryz.sizeOf4
  v4 := Tryz.zeroValue4
  t23 := Tryz.underlying69
  a23 := Tryz.isAgg69
  z23 := Tryz.sizeOf69
  v23 := Tryz.zeroValue69
  t26 := Tryz.underlying9
  a26 := Tryz.isAgg9
  z26 := Tryz.sizeOf9
  v26 := Tryz.zeroValue9
  t27 := Tryz.underlying88
  a27 := Tryz.isAgg88
  z27 := Tryz.sizeOf88
  v27 := Tryz.zeroValue88
  t28 := Tryz.underlying89
  a28 := Tryz.isAgg89
  z28 := Tryz.sizeOf89
  v28 := Tryz.zeroValue89
  t33 := Tryz.underlying73
  a33 := Tryz.isAgg73
  z33 := Tryz.sizeOf73
  v33 := Tryz.zeroValue73 }
def Tryz.sortedA_ren : Go.Shelf.Ren := ⟨fun | 6 => 40 | 8 => 62 | 9 => 63 | 11 => 77 | 13 => 79 | 12 => 78 | 23 => 94 | 24 => 95 | 14 => 85 | 15 => 86 | 16 => 87 | 17 => 88 | 18 => 89 | 19 => 90 | 20 => 91 | 21 => 92 | 22 => 93 | 25 => 97 | 26 => 98 | 27 => 99 | 28 => 100 | 29 => 101 | 30 => 102 | 31 => 103 | n => n, fun | 26 => 9 | 28 => 89 | 24 => 56 | 0 => 0 | 3 => 3 | 37 => 118 | 48 => 113 | 50 => 109 | 4 => 4 | 40 => 125 | 39 => 124 | 45 => 130 | 5 => 5 | 9 => 9 | 51 => 139 | 55 => 143 | 57 => 145 | 58 => 146 | 33 => 73 | n => n, fun | n => n⟩
theorem Tryz.sortedA : Go.Proofs.SlLaysZ.n6 Tryz.prog Tryz.sortedA_ren := {
  mixed := by kernel_rfl
  f6 := ⟨Tryz.f40.name, by decide, Tryz.func40.trans (congrArg some (by kernel_rfl))⟩
  f8 := ⟨Tryz.f62.name, by decide, Tryz.func62.trans (congrArg some (by kernel_rfl))⟩
  f11 := ⟨Tryz.f77.name, by decide, Tryz.func77.trans (congrArg some (by kernel_rfl))⟩
  t0 := Tryz.underlying0
  a0 := Tryz.isAgg0
  z0 := Tryz.sizeOf0
  v0 := Tryz.zeroValue0
  t24 := Tryz.underlying56
  a24 := Tryz.isAgg56
  z24 := Tryz.sizeOf56
  v24 := Tryz.zeroValue56
  t26 := Tryz.underlying9
  a26 := Tryz.isAgg9
  z26 := Tryz.sizeOf9
  v26 := Tryz.zeroValue9
  t28 := Tryz.underlying89
  a28 := Tryz.isAgg89
  z28 := Tryz.sizeOf89
  v28 := Tryz.zeroValue89
  i26 := by kernel_rfl }
def Tryz.sortA_ren : Go.Shelf.Ren := ⟨fun | 6 => 63 | 8 => 79 | 9 => 78 | 19 => 94 | 20 => 95 | 21 => 85 | 22 => 86 | 23 => 87 | 24 => 88 | 25 => 89 | 26 => 90 | 27 => 91 | 28 => 92 | 29 => 93 | 36 => 97 | 31 => 98 | 32 => 99 | 37 => 100 | 38 => 101 | 39 => 102 | 41 => 103 | n => n, fun | 27 => 56 | 29 => 9 | 3 => 3 | 32 => 118 | 26 => 56 | 0 => 0 | 44 => 113 | 46 => 109 | 4 => 4 | 36 => 125 | 35 => 124 | 41 => 130 | 5 => 5 | 9 => 9 | 53 => 139 | 57 => 143 | 63 => 145 | 64 => 146 | n => n, fun | n => n⟩
theorem Tryz.sortA : Go.Proofs.SlLaysM.n6 Tryz.prog Tryz.sortA_ren := {
  mixed := by kernel_rfl
  f6 := ⟨Tryz.f63.name, by decide, Tryz.func63.trans (congrArg some (by kernel_rfl))⟩
  f8 := Tryz.func79.trans (congrArg some (by kernel_rfl))
  f9 := ⟨Tryz.f78.name, by decide, Tryz.func78.trans (congrArg some (by kernel_rfl))⟩
  f19 := Tryz.func94.trans (congrArg some (by kernel_rfl))
  f20 := Tryz.func95.trans (congrArg some (by kernel_rfl))
  f21 := ⟨Tryz.f85.name, by decide, Tryz.func85.trans (congrArg some (by kernel_rfl))⟩
  f22 := ⟨Tryz.f86.name, by decide, Tryz.func86.trans (congrArg some (by kernel_rfl))⟩
  f23 := ⟨Tryz.f87.name, by decide, Tryz.func87.trans (congrArg some (by kernel_rfl))⟩
  f24 := ⟨Tryz.f88.name, by decide, Tryz.func88.trans (congrArg some (by kernel_rfl))⟩
  f25 := ⟨Tryz.f89.name, by decide, Tryz.func89.trans (congrArg some (by kernel_rfl))⟩
  f26 := ⟨Tryz.f90.name, by decide, Tryz.func90.trans (congrArg some (by kernel_rfl))⟩
  f27 := ⟨Tryz.f91.name, by decide, Tryz.func91.trans (congrArg some (by kernel_rfl))⟩
  f28 := ⟨Tryz.f92.name, by decide, Tryz.func92.trans (congrArg some (by kernel_rfl))⟩
  f29 := ⟨Tryz.f93.name, by decide, Tryz.func93.trans (congrArg some (by kernel_rfl))⟩
  f31 := Tryz.func98.trans (congrArg some (by kernel_rfl))
  f32 := Tryz.func99.trans (congrArg some (by kernel_rfl))
  f36 := ⟨Tryz.f97.name, by decide, Tryz.func97.trans (congrArg some (by kernel_rfl))⟩
  f37 := ⟨Tryz.f100.name, by decide, Tryz.func100.trans (congrArg some (by kernel_rfl))⟩
  f38 := ⟨Tryz.f101.name, by decide, Tryz.func101.trans (congrArg some (by kernel_rfl))⟩
  f39 := ⟨Tryz.f102.name, by decide, Tryz.func102.trans (congrArg some (by kernel_rfl))⟩
  f41 := ⟨Tryz.f103.name, by decide, Tryz.func103.trans (congrArg some (by kernel_rfl))⟩
  t0 := Tryz.underlying0
  a0 := Tryz.isAgg0
  z0 := Tryz.sizeOf0
  v0 := Tryz.zeroValue0
  t3 := Tryz.underlying3
  a3 := Tryz.isAgg3
  z3 := Tryz.sizeOf3
  v3 := Tryz.zeroValue3
  t4 := Tryz.underlying4
  a4 := Tryz.isAgg4
  z4 := Tryz.sizeOf4
  v4 := Tryz.zeroValue4
  t5 := Tryz.underlying5
  a5 := Tryz.isAgg5
  z5 := Tryz.sizeOf5
  v5 := Tryz.zeroValue5
  t9 := Tryz.underlying9
  a9 := Tryz.isAgg9
  z9 := Tryz.sizeOf9
  v9 := Tryz.zeroValue9
  t26 := Tryz.underlying56
  a26 := Tryz.isAgg56
  z26 := Tryz.sizeOf56
  v26 := Tryz.zeroValue56
  t27 := Tryz.underlying56
  a27 := Tryz.isAgg56
  z27 := Tryz.sizeOf56
  v27 := Tryz.zeroValue56
  t29 := Tryz.underlying9
  a29 := Tryz.isAgg9
  z29 := Tryz.sizeOf9
  v29 := Tryz.zeroValue9
  t32 := Tryz.underlying118
  a32 := Tryz.isAgg118
  z32 := Tryz.sizeOf118
  v32 := Tryz.zeroValue118
  t35 := Tryz.underlying124
  a35 := Tryz.isAgg124
  z35 := Tryz.sizeOf124
  v35 := Tryz.zeroValue124
  t36 := Tryz.underlying125
  a36 := Tryz.isAgg125
  z36 := Tryz.sizeOf125
  v36 := Tryz.zeroValue125
  t41 := Tryz.underlying130
  a41 := Tryz.isAgg130
  z41 := Tryz.sizeOf130
  v41 := Tryz.zeroValue130
  t44 := Tryz.underlying113
  a44 := Tryz.isAgg113
  z44 := Tryz.sizeOf113
  v44 := Tryz.zeroValue113
  t46 := Tryz.underlying109
  a46 := Tryz.isAgg109
  z46 := Tryz.sizeOf109
  v46 := Tryz.zeroValue109
  t53 := Tryz.underlying139
  a53 := Tryz.isAgg139
  z53 := Tryz.sizeOf139
  v53 := Tryz.zeroValue139
  t57 := Tryz.underlying143
  a57 := Tryz.isAgg143
  z57 := Tryz.sizeOf143
  v57 := Tryz.zeroValue143
  t63 := Tryz.underlying145
  a63 := Tryz.isAgg145
  z63 := Tryz.sizeOf145
  v63 := Tryz.zeroValue145
  t64 := Tryz.underlying146
  a64 := Tryz.isAgg146
  z64 := Tryz.sizeOf146
  v64 := Tryz.zeroValue146 }
def Tryz.keysB_ren : Go.Shelf.Ren := ⟨fun | 7 => 41 | 10 => 64 | n => n, fun | 23 => 76 | 26 => 9 | 3 => 53 | 28 => 89 | 0 => 0 | 27 => 88 | 33 => 73 | 4 => 4 | n => n, fun | n => n⟩
theorem Tryz.keysB : Go.Proofs.SlLaysZ.n7 Tryz.prog Tryz.keysB_ren := {
  mixed := by kernel_rfl
  f7 := ⟨Tryz.f41.name, by decide, Tryz.func41.trans (congrArg some (by kernel_rfl))⟩
  f10 := ⟨Tryz.f64.name, by decide, Tryz.func64.trans (congrArg some (by kernel_rfl))⟩
  t0 := Tryz.underlying0
  a0 := Tryz.isAgg0
  z0 := Tryz.sizeOf0
  v0 := Tryz.zeroValue0
  t4 := Tryz.underlying4
  a4 := Tryz.isAgg4
  z4 := Tryz.sizeOf4
  v4 := Tryz.zeroValue4
  t23 := Tryz.underlying76
  a23 := Tryz.isAgg76
  z23 := Tryz.sizeOf76
  v23 := Tryz.zeroValue76
  t26 := Tryz.underlying9
  a26 := Tryz.isAgg9
  z26 := Tryz.sizeOf9
  v26 := Tryz.zeroValue9
  t27 := Tryz.underlying88
  a27 := Tryz.isAgg88
  z27 := Tryz.sizeOf88
  v27 := Tryz.zeroValue88
  t28 := Tryz.underlying89
  a28 := Tryz.isAgg89
  z28 := Tryz.sizeOf89
  v28 := Tryz.zeroValue89
  t33 := Tryz.underlying73
  a33 := Tryz.isAgg73
  z33 := Tryz.sizeOf73
  v33 := Tryz.zeroValue73 }
end Go.Proofs

namespace Go.Proofs.YtcgmliaahdpmcaaGreatDoor
open Go.RowKit Go.Maps Go.Sort Go.Shelf Go.Proofs
theorem sortsA (m : Nat) : AnyZ.SortsIn Tryz.prog Tryz.sortedA_ren Fence.wide m :=
  ⟨fun blk off cap ss W hH hblk hsz => callsIn_wide.2 (AnyM.slices_Sort_string Tryz.sortA blk off cap ss W hH hblk hsz),
   fun p cap W => callsIn_wide.2 (AnyM.slices_Sort_string_none Tryz.sortA p cap W)⟩
abbrev fKA : FuncId := 65
abbrev fKB : FuncId := 64
theorem sortedA (Bm : Nat) (w : World) (b nn : Nat) (D0 : DataW Unit) (hc : w.cell? ⟨Bm, 0, none⟩ = some (.map (some b))) (hB : Bm < w.heap.size) (hown : w.ownsMap Tryz.prog 9 Go.Sl.noR b nn D0) (hmax : Maps.size D0 ≤ maxLen) (hbytes : Maps.size D0 * 16 ≤ 140737488355328) :
    Calls Tryz.prog 40 #[.func (.func fKA) #[] #[.pointer (some ⟨Bm, 0, none⟩)]] w fun e w' => ∃ (v : Value) (ss : List (List UInt8)), e = .returned v ∧ ss.Perm (strKeys D0) ∧ w'.ownsRow w.heap.size 9 1 v ss.length ((ss.mergeSort fun x y => decide (x ≤ y)).map encStr) ∧ (v = .slice none 0 0 ↔ ss = []) ∧ Below w.heap.size w w' := by
  have hseq : SeqGives Fence.wide 2 Tryz.prog fKA #[.pointer (some ⟨Bm, 0, none⟩)] encStr (fun ss => ss.Perm (strKeys D0)) (Maps.size D0) w :=
    AnyZ.keys_gives (ρ := Tryz.keysA_ren) { Tryz.keysA with } Fence.wide _ trivial rfl (by omega) Bm b nn D0 w hB hc hown
  have cS := AnyZ.sorted_in Tryz.sortedA Fence.wide 5 trivial trivial trivial trivial rfl (by omega) (sortsA _) (enters_of Tryz.func63 (by kernel_rfl) rfl) fKA #[.pointer (some ⟨Bm, 0, none⟩)] trivial (enters_of Tryz.func65 (by kernel_rfl) rfl) _ _ hmax hbytes _ hseq
  exact (callsIn_wide (n := 5)).1 cS
theorem sortedN (Bm : Nat) (w : World) (hc : w.cell? ⟨Bm, 0, none⟩ = some (.map none)) (hB : Bm < w.heap.size) :
    Calls Tryz.prog 40 #[.func (.func fKA) #[] #[.pointer (some ⟨Bm, 0, none⟩)]] w fun e w' => e = .returned (.slice none 0 0) ∧ Below w.heap.size w w' := by
  have hseq : SeqGives Fence.wide 2 Tryz.prog fKA #[.pointer (some ⟨Bm, 0, none⟩)] encStr (fun ss : List (List UInt8) => ss = []) 0 w :=
    AnyZ.keys_gives_nil (ρ := Tryz.keysA_ren) { Tryz.keysA with } Fence.wide _ trivial rfl Bm w hB hc
  have cS := AnyZ.sorted_in Tryz.sortedA Fence.wide 5 trivial trivial trivial trivial rfl (by omega) (sortsA _) (enters_of Tryz.func63 (by kernel_rfl) rfl) fKA #[.pointer (some ⟨Bm, 0, none⟩)] trivial (enters_of Tryz.func65 (by kernel_rfl) rfl) _ 0 (Nat.zero_le _) (by omega) _ hseq
  refine ((callsIn_wide (n := 5)).1 cS).mono ?_
  rintro e w' ⟨v, ss, rfl, rfl, _, hnil, hb⟩
  obtain rfl : v = .slice none 0 0 := hnil.2 rfl
  exact ⟨rfl, hb⟩
theorem sortedB (Bm : Nat) (w : World) (b nn : Nat) (D0 : DataW Unit) (hc : w.cell? ⟨Bm, 0, none⟩ = some (.map (some b))) (hB : Bm < w.heap.size) (hown : w.ownsMap Tryz.prog 9 Go.Sl.noR b nn D0) (hmax : Maps.size D0 ≤ maxLen) (hbytes : Maps.size D0 * 16 ≤ 140737488355328) :
    Calls Tryz.prog 40 #[.func (.func fKB) #[] #[.pointer (some ⟨Bm, 0, none⟩)]] w fun e w' => ∃ (v : Value) (ss : List (List UInt8)), e = .returned v ∧ ss.Perm (strKeys D0) ∧ w'.ownsRow w.heap.size 9 1 v ss.length ((ss.mergeSort fun x y => decide (x ≤ y)).map encStr) ∧ (v = .slice none 0 0 ↔ ss = []) ∧ Below w.heap.size w w' := by
  have hseq : SeqGives Fence.wide 2 Tryz.prog fKB #[.pointer (some ⟨Bm, 0, none⟩)] encStr (fun ss => ss.Perm (strKeys D0)) (Maps.size D0) w :=
    AnyZ.keys_gives (ρ := Tryz.keysB_ren) { Tryz.keysB with } Fence.wide _ trivial rfl (by omega) Bm b nn D0 w hB hc hown
  have cS := AnyZ.sorted_in Tryz.sortedA Fence.wide 5 trivial trivial trivial trivial rfl (by omega) (sortsA _) (enters_of Tryz.func63 (by kernel_rfl) rfl) fKB #[.pointer (some ⟨Bm, 0, none⟩)] trivial (enters_of Tryz.func64 (by kernel_rfl) rfl) _ _ hmax hbytes _ hseq
  exact (callsIn_wide (n := 5)).1 cS
end Go.Proofs.YtcgmliaahdpmcaaGreatDoor
