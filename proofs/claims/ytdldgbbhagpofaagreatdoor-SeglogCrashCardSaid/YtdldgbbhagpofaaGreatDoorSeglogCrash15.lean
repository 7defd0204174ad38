/- Contracts and laws that the proof stands on. -/
import Derived.Test.YtdldgbbhagpofaaGreatDoorSeglogCrash14
import Derived.Test.YtdldgbbhagpofaaGreatDoorSeglogCrash8
import Derived.Test.YtdldgbbhagpofaaGreatDoorSeglogCrash7
set_option linter.unusedSimpArgs false
set_option linter.unusedVariables false
namespace Go.Sl
theorem g_addNone {Γ : Ctx} {N : Nat} {fr : Fr} {L : List Chunk} {φ : Act → World → Prop} (g : G Γ N fr (.asn (All []) :: L) φ) : G Γ N fr L φ :=
  fun a w hN hd hf hh => g a w hN hd hf (hh.mono fun h al => ⟨fun _ => none, h, fun _ => .inl rfl, (fun _ _ q => by cases q), HP.sub.refl _, trivial, al⟩)
end Go.Sl
namespace Go.Sl
theorem does_map {P : Program} {f : FuncId} {args : List Value} {X Y : Type} {A A2 : List Chunk} {ret : X → Value} {ret2 : Y → Value} {B : X → List Chunk} {B2 : Y → List Chunk} {φ : X → Prop} {ψ : Y → Prop} (m : X → Y) (t : Take A2 A []) (hr : ∀ x, φ x → ret x = ret2 (m x)) (hB : ∀ (Γ : Ctx) (x : X) (w : World), φ x → Holds Γ (B x) w → Holds Γ (B2 (m x)) w) (hφ : ∀ x, φ x → ψ (m x)) (d : Does P f args A ret B φ) : Does P f args A2 ret2 B2 ψ := fun Γ w hh =>
  (d Γ w (hh.takeDrop t)).mono fun e w' ⟨x, hx, he, hb⟩ => ⟨m x, hφ x hx, by rw [← hr x hx]; exact he, hB Γ x w' hx hb⟩
theorem Holds.ownNil {Γ : Ctx} {L : List Chunk} {w : World} (p : Option Addr) (n : Nat) (e : TypeId) (hh : Holds Γ L w) : Holds Γ (.own p 0 0 n [] e :: L) w :=
  hh.mono fun h al => ⟨fun _ => none, h, fun _ => .inl rfl, (fun _ _ q => by cases q), HP.sub.refl _, ⟨⟨by simp, rfl⟩, .inl ⟨rfl, rfl⟩⟩, al⟩
end Go.Sl
namespace Go.Proofs.YtdldgbbhagpofaaGreatDoor
open Go.Sl facts
attribute [local irreducible] Code.wp wpList Exit.then Exit.inBlock bodyPost Back MidQ G GP QStep VStep CStep SStep Does Post Reads
theorem cloneB {C : Chunk} {p : Option Addr} {m c : Nat} {news : List Value} (h : SlAt C 1 p m news) (hm : m ≤ 1000000000) : Does Tryz.prog 31 [.slice p m c] [C] (X := OA) (fun q => .slice q.1 m q.2) (fun q => [.own q.1 m q.2 1 news 5, C]) (fun _ => True) := by
  cases p with
  | none =>
    obtain rfl : m = 0 := h.nil rfl
    obtain rfl : news = [] := List.eq_nil_of_length_eq_zero (by rw [h.len, Nat.zero_mul])
    refine fn_intro Tryz.func31 rfl Tryz.ntmps31 rfl (by simp only [argFr, Nat.zero_add, Nat.reduceAdd]; rfl) (fun Γ => ?_)
    repeat (first
      | (refine g_ops ?_; first | refine s_q ?_ | refine s_v ?_ | refine s_s ?_ | refine s_n (fun _ => ?_) | refine s_x ?_ | refine s_y ?_ | refine s_mq ?_ | refine s_app (fun _ _ => ?_) | refine s_mv ?_ | refine s_ms ?_ | refine s_b0 (fun _ => ?_) | ((fail_if_success refine g_lit rfl rfl rfl ?_); first | apply g_partM rfl rfl rfl | apply g_partMB rfl rfl rfl | fail))
      | refine g_seq ?_ | refine g_region ?_ | refine g_nil ?_ | refine g_then_normal ?_ | refine g_block ?_ | refine g_in_normal ?_ | refine g_retc ?_
      | refine g_then_ret ?_ | refine g_in_ret ?_ | refine g_exit ?_ | refine g_then_exit ?_ | refine g_in_exit ?_ | refine g_in_other rfl ?_ | refine g_skip ?_
      | refine g_label ?_ | refine g_cond_true rfl ?_ | refine g_cond_false rfl ?_ | exact s_m | intro _)
    refine g_own_nil none 1 5 ?_
    exact s_r (none, 0)
  | some a =>
    refine fn_intro Tryz.func31 rfl Tryz.ntmps31 rfl (by simp only [argFr, Nat.zero_add, Nat.reduceAdd]; rfl) (fun Γ => ?_)
    have hsrc : ∀ {Γ : Ctx} {b : Nat}, SrcIs Tryz.prog Γ [.own (some ⟨b, 0, none⟩) 0 0 1 [] 5, C] 1 28 (.slice (some a) m c) m news := fun {Γ b} => srcAt h inferInstance (.there .here) (by decide)
    repeat (first
      | (refine g_ops ?_; first | refine s_q ?_ | refine s_v ?_ | refine s_s ?_ | refine s_n (fun _ => ?_) | refine s_x ?_ | refine s_y ?_ | refine s_mq ?_ | refine s_app (fun _ _ => ?_) | refine s_mv ?_ | refine s_ms ?_ | refine s_b0 (fun _ => ?_) | ((fail_if_success refine g_lit rfl rfl rfl ?_); first | apply g_partM rfl rfl rfl | apply g_partMB rfl rfl rfl | fail))
      | refine g_seq ?_ | refine g_region ?_ | refine g_nil ?_ | refine g_then_normal ?_ | refine g_block ?_ | refine g_in_normal ?_ | refine g_retc ?_
      | refine g_then_ret ?_ | refine g_in_ret ?_ | refine g_exit ?_ | refine g_then_exit ?_ | refine g_in_exit ?_ | refine g_in_other rfl ?_ | refine g_skip ?_
      | refine g_label ?_ | refine g_cond_true rfl ?_ | refine g_cond_false rfl ?_ | exact s_m | intro _)
    rename_i q c'
    exact s_r (q, c') (hp := by simp [pack]) (tk := by rw [Nat.zero_add, List.nil_append]; exact (by (repeat (first | exact Take.nil | apply Take.cons | exact Sel.here | apply Sel.there)); first | done | fail))
structure Pk where
  p : Option Addr
  l : List Int
  c : Nat
abbrev Pk.nxt (x : Pk) (n : Nat) : Pk := if 0 < n ∧ 0 < x.l.length then ⟨if x.c = 1 then x.p else x.p.map (·.add (1 * 1)), x.l.drop 1, x.c - 1⟩ else x
structure PkAt (C : Chunk) (x : Pk) : Prop where
  le : x.l.length ≤ x.c
  at_ : IntsAt C x.p x.l
theorem PkAt.nxt {C : Chunk} {x : Pk} (h : PkAt C x) (n : Nat) : PkAt C (x.nxt n) := by
  unfold Pk.nxt
  split
  · rename_i h2
    have hle := h.le
    refine ⟨by simp only [List.length_drop]; omega, fun i v hv => ?_⟩
    simp only [List.getElem?_drop] at hv
    obtain ⟨h3, b, o, h4, h5⟩ := h.at_ (1 + i) v hv
    have hlt := (List.getElem?_eq_some_iff.1 hv).1
    refine ⟨h3, b, o + 1, ?_, by rw [Nat.add_assoc]; exact h5⟩
    rw [if_neg (by omega), h4]
    simp [Addr.add]
  · exact h
abbrev Pk.row (x : Pk) (pb : Nat) : Chunk := .row pb [.slice x.p x.l.length x.c] 47
set_option maxHeartbeats 1000000 in
theorem crashF (fb pb : Nat) (nm : ByteArray) (sp : Option Addr) (safe : List UInt8) (sc : Nat) (lp : Option Addr) (loose : List UInt8) (lc : Nat) (k : Pk) {C : Chunk} (hP : PkAt C k) (hl1 : safe.length ≤ 1000000) (hl2 : loose.length ≤ 1000000) :
    Does Tryz.prog 42 [ptr fb, ptr pb] [frow fb nm sp safe.length sc lp loose.length lc, .own sp safe.length sc 1 (cells8 safe) 5, .own lp loose.length lc 1 (cells8 loose) 5, k.row pb, C]
      (X := OA) (fun x => .agg #[.string nm, .slice x.1 (safe ++ loose.take (keep loose.length k.l.length (k.l.headD 0))).length x.2, .slice none 0 0])
      (fun x => [.own x.1 (safe ++ loose.take (keep loose.length k.l.length (k.l.headD 0))).length x.2 1 (cells8 (safe ++ loose.take (keep loose.length k.l.length (k.l.headD 0)))) 5, frow fb nm sp safe.length sc lp loose.length lc, .own sp safe.length sc 1 (cells8 safe) 5, .own lp loose.length lc 1 (cells8 loose) 5, (k.nxt loose.length).row pb, C]) (fun _ => True) := by
  have hkl := keep_le loose.length k.l.length (k.l.headD 0)
  have hP2 := hP.at_.pick
  have hpc := hP.le
  obtain ⟨pp, pl, pc⟩ := k
  dsimp only at hkl hP2 hpc ⊢
  obtain ⟨v, hve⟩ : ∃ v, pl.headD 0 = v := ⟨_, rfl⟩
  rw [hve] at hkl hP2 ⊢
  have hdl : (pl.drop 1).length = pl.length - 1 := List.length_drop ..
  refine fn_intro Tryz.func42 rfl Tryz.ntmps42 rfl (by simp only [argFr, Nat.zero_add, Nat.reduceAdd]; rfl) (fun Γ => ?_)
  repeat (first
    | (refine g_ops ?_; first | refine s_q ?_ | refine s_v ?_ | refine s_s ?_ | refine s_n (fun _ => ?_) | refine s_x ?_ | refine s_y ?_ | refine s_mq ?_ | refine s_app (fun _ _ => ?_) | refine s_mv ?_ | refine s_ms ?_ | refine s_b0 (fun _ => ?_) | ((fail_if_success refine g_lit rfl rfl rfl ?_); first | apply g_partM rfl rfl rfl | apply g_partMB rfl rfl rfl | fail))
    | apply g_regB (id := 3) 17 | refine g_seq ?_ | refine g_region ?_ | refine g_nil ?_ | refine g_then_normal ?_ | refine g_block ?_ | refine g_in_normal ?_
    | refine g_retc ?_ | refine g_then_ret ?_ | refine g_in_ret ?_ | refine g_exit ?_ | refine g_then_exit ?_ | refine g_in_exit ?_ | refine g_in_other rfl ?_
    | refine g_skip ?_ | refine g_label ?_ | refine g_cond_true rfl ?_ | refine g_cond_false rfl ?_ | exact s_m | intro _ | (refine gp_take ?_; first | refine p_q ?_ | refine p_x ?_ | refine p_mq ?_ | ((fail_if_success refine gp_lit rfl rfl rfl rfl ?_); first | apply gp_guard_dec rfl rfl rfl rfl | apply gp_guard rfl rfl rfl rfl | fail))
    | (refine gp_see ?_; first | refine p_f ?_ | refine p_sx ?_ | ((fail_if_success refine gp_lit rfl rfl rfl rfl ?_); first | apply gp_guard_dec rfl rfl rfl rfl | apply gp_guard rfl rfl rfl rfl | fail) | refine p_sq ?_)
    | (refine gp_one ?_; first | refine p_v ?_ | refine p_s ?_ | refine p_n (fun _ => ?_) | refine p_y ?_ | refine p_app (fun _ _ => ?_) | refine p_mv ?_ | refine p_ms ?_ | refine p_b0 (fun _ => ?_) | ((fail_if_success refine gp_lit rfl rfl rfl rfl ?_); first | apply gp_guard_dec rfl rfl rfl rfl | apply gp_guard rfl rfl rfl rfl | fail))
    | refine gp_two ?_ ?_ | refine gp_done hd hk ?_ | intro _ | refine p_ta hd hk (fun _ _ _ hd hk => ?_) | refine p_ts hd hk (fun _ hd hk => ?_))
  rename_i rb
  refine g_own (p := sp) (len := safe.length) (cap := sc) (n := 1) (xs := cells8 safe) (e := 5) (by (repeat (first | exact Sel.here | apply Sel.there)); first | done | fail) (fun q1 _ q2 => ?_)
  refine g_own (p := lp) (len := loose.length) (cap := lc) (n := 1) (xs := cells8 loose) (e := 5) (by (repeat (first | exact Sel.here | apply Sel.there)); first | done | fail) (fun q3 hlc q4 => ?_)
  have s1 := slAt_own (c := sc) (e := 5) q1 (cells8_one safe) q2
  have s2 := slAt_own (c := lc) (e := 5) q3 (cells8_one loose) q4
  refine g_cond rfl (fun h => ?_) (fun h => ?_)
  · have h2 : 0 < loose.length ∧ 0 < pl.length := by
      simp at h
      exact h
    obtain ⟨hv, pbk, po, rfl, hr⟩ := hP2 h2.2
    have hr : ∀ j, j = po → Reads C ⟨pbk, j, none⟩ (int v) := fun j e => by subst e; exact hr
    have hK : (lf v ((loose.length : Int) + 1)) = ((keep loose.length pl.length v : Nat) : Int) := by
      have := lf_in v ((loose.length : Int) + 1) (by omega)
      unfold keep
      rw [if_pos h2]
      omega
    rw [show (⟨some ⟨pbk, po, none⟩, pl, pc⟩ : Pk).nxt loose.length = ⟨if pc = 1 then some ⟨pbk, po, none⟩ else (some ⟨pbk, po, none⟩ : Option Addr).map (·.add (1 * 1)), pl.drop 1, pc - 1⟩ from if_pos h2]
    dsimp only [Pk.row]
    rw [hdl]
    refine g_draw (.see 0 [1,2,5,8,9] (.take 1 (.see 2 [5,8,9] (.take 3 (.take 4 (.see 5 [8,9] (.see 6 [7,9] (.take 7 (.take 8 (.thaw 9 .done)))))))))) (by kernel_rfl) (take_all _) (fun k hd hk => ?_)
    repeat (first
      | (refine gp_take ?_; first | refine p_q ?_ | refine p_x ?_ | refine p_mq ?_ | ((fail_if_success refine gp_lit rfl rfl rfl rfl ?_); first | apply gp_guard_dec rfl rfl rfl rfl | apply gp_guard rfl rfl rfl rfl | fail) | refine p_p (left v ((loose.length : Int) + 1) (by omega) (by omega)) ?_)
      | (refine gp_see ?_; first | refine p_f ?_ | refine p_sx ?_ | ((fail_if_success refine gp_lit rfl rfl rfl rfl ?_); first | apply gp_guard_dec rfl rfl rfl rfl | apply gp_guard rfl rfl rfl rfl | fail) | refine p_sp (left v ((loose.length : Int) + 1) (by omega) (by omega)) ?_ | refine p_sq ?_)
      | (refine gp_one ?_; first | refine p_v ?_ | refine p_s ?_ | refine p_n (fun _ => ?_) | refine p_y ?_ | refine p_app (fun _ _ => ?_) | refine p_mv ?_ | refine p_ms ?_ | refine p_b0 (fun _ => ?_) | ((fail_if_success refine gp_lit rfl rfl rfl rfl ?_); first | apply gp_guard_dec rfl rfl rfl rfl | apply gp_guard rfl rfl rfl rfl | fail))
      | refine gp_two ?_ ?_ | refine gp_done hd hk ?_ | intro _ | refine p_ta hd hk (fun _ _ _ hd hk => ?_) | refine p_ts hd hk (fun _ hd hk => ?_))
    refine p_q (q := by intro Δ; exact qs_slice (l := 1) (h := pl.length) inferInstance inferInstance rfl (.some rfl rfl) .none (by omega) hpc) ?_
    repeat (first
      | (refine gp_take ?_; first | refine p_q ?_ | refine p_x ?_ | refine p_mq ?_ | ((fail_if_success refine gp_lit rfl rfl rfl rfl ?_); first | apply gp_guard_dec rfl rfl rfl rfl | apply gp_guard rfl rfl rfl rfl | fail))
      | (refine gp_see ?_; first | refine p_f ?_ | refine p_sx ?_ | ((fail_if_success refine gp_lit rfl rfl rfl rfl ?_); first | apply gp_guard_dec rfl rfl rfl rfl | apply gp_guard rfl rfl rfl rfl | fail) | refine p_sq ?_)
      | (refine gp_one ?_; first | refine p_v ?_ | refine p_s ?_ | refine p_n (fun _ => ?_) | refine p_y ?_ | refine p_app (fun _ _ => ?_) | refine p_mv ?_ | refine p_ms ?_ | refine p_b0 (fun _ => ?_) | ((fail_if_success refine gp_lit rfl rfl rfl rfl ?_); first | apply gp_guard_dec rfl rfl rfl rfl | apply gp_guard rfl rfl rfl rfl | fail))
      | refine gp_two ?_ ?_ | refine gp_done hd hk ?_ | intro _ | refine p_ta hd hk (fun _ _ _ hd hk => ?_) | refine p_ts hd hk (fun _ hd hk => ?_))
    repeat (first
      | (refine g_ops ?_; first | refine s_q ?_ | refine s_v ?_ | refine s_s ?_ | refine s_n (fun _ => ?_) | refine s_x ?_ | refine s_y ?_ | refine s_mq ?_ | refine s_app (fun _ _ => ?_) | refine s_mv ?_ | refine s_ms ?_ | refine s_b0 (fun _ => ?_) | ((fail_if_success refine g_lit rfl rfl rfl ?_); first | apply g_partM rfl rfl rfl | apply g_partMB rfl rfl rfl | fail))
      | apply g_regB (id := 3) 17 | refine g_seq ?_ | refine g_region ?_ | refine g_nil ?_ | refine g_then_normal ?_ | refine g_block ?_ | refine g_in_normal ?_
      | refine g_retc ?_ | refine g_then_ret ?_ | refine g_in_ret ?_ | refine g_exit ?_ | refine g_then_exit ?_ | refine g_in_exit ?_ | refine g_in_other rfl ?_
      | refine g_skip ?_ | refine g_label ?_ | refine g_cond_true rfl ?_ | refine g_cond_false rfl ?_ | exact s_m | intro _ | (refine gp_take ?_; first | refine p_q ?_ | refine p_x ?_ | refine p_mq ?_ | ((fail_if_success refine gp_lit rfl rfl rfl rfl ?_); first | apply gp_guard_dec rfl rfl rfl rfl | apply gp_guard rfl rfl rfl rfl | fail))
      | (refine gp_see ?_; first | refine p_f ?_ | refine p_sx ?_ | ((fail_if_success refine gp_lit rfl rfl rfl rfl ?_); first | apply gp_guard_dec rfl rfl rfl rfl | apply gp_guard rfl rfl rfl rfl | fail) | refine p_sq ?_)
      | (refine gp_one ?_; first | refine p_v ?_ | refine p_s ?_ | refine p_n (fun _ => ?_) | refine p_y ?_ | refine p_app (fun _ _ => ?_) | refine p_mv ?_ | refine p_ms ?_ | refine p_b0 (fun _ => ?_) | ((fail_if_success refine gp_lit rfl rfl rfl rfl ?_); first | apply gp_guard_dec rfl rfl rfl rfl | apply gp_guard rfl rfl rfl rfl | fail))
      | refine gp_two ?_ ?_ | refine gp_done hd hk ?_ | intro _ | refine p_ta hd hk (fun _ _ _ hd hk => ?_) | refine p_ts hd hk (fun _ hd hk => ?_))
    refine g_as 4 (v' := int ((keep loose.length pl.length v : Nat) : Int)) rfl (congrArg (Value.int .i64) hK) ?_
    generalize keep loose.length pl.length v = K at hkl hK ⊢
    have hlt : (loose.take K).length = K := by simp [hkl]
    refine g_draw (.take 0 (.take 1 (.take 2 (.see 3 [] (.take 4 (.take 5 (.take 6 (.see 7 [] (.take 8 (.take 9 (.take 10 (.see 11 [] (.take 12 (.take 13 (.one 14 (.one 15 (.take 16 (.one 17 .done)))))))))))))))))) (by kernel_rfl) (C := [frow fb nm sp safe.length sc lp loose.length lc]) (by (repeat (first | exact Take.nil | apply Take.cons | exact Sel.here | apply Sel.there)); first | done | fail) (fun k hd hk => ?_)
    repeat (first
      | (refine gp_take ?_; first | refine p_q ?_ | refine p_x ?_ | refine p_mq ?_ | ((fail_if_success refine gp_lit rfl rfl rfl rfl ?_); first | apply gp_guard_dec rfl rfl rfl rfl | apply gp_guard rfl rfl rfl rfl | fail))
      | (refine gp_see ?_; first | refine p_f ?_ | refine p_sx ?_ | ((fail_if_success refine gp_lit rfl rfl rfl rfl ?_); first | apply gp_guard_dec rfl rfl rfl rfl | apply gp_guard rfl rfl rfl rfl | fail) | refine p_sq ?_)
      | (refine gp_one ?_; first | refine p_v ?_ | refine p_s ?_ | refine p_n (fun _ => ?_) | refine p_y ?_ | refine p_app (fun _ _ => ?_) | refine p_mv ?_ | refine p_ms ?_ | refine p_b0 (fun _ => ?_) | ((fail_if_success refine gp_lit rfl rfl rfl rfl ?_); first | apply gp_guard_dec rfl rfl rfl rfl | apply gp_guard rfl rfl rfl rfl | fail))
      | refine gp_two ?_ ?_ | refine gp_done hd hk ?_ | intro _ | refine p_ta hd hk (fun _ _ _ hd hk => ?_) | refine p_ts hd hk (fun _ hd hk => ?_))
    refine p_q (q := by intro Δ; exact qs_slice (l := 0) (h := K) inferInstance inferInstance rfl .none (.some rfl rfl) (Nat.zero_le _) (by omega)) ?_
    refine gp_as 39 (v' := .slice lp (loose.take K).length lc) rfl (by rw [offTake, hlt]) ?_
    repeat (first
      | (refine gp_take ?_; first | refine p_q ?_ | refine p_x ?_ | refine p_mq ?_ | ((fail_if_success refine gp_lit rfl rfl rfl rfl ?_); first | apply gp_guard_dec rfl rfl rfl rfl | apply gp_guard rfl rfl rfl rfl | fail))
      | (refine gp_see ?_; first | refine p_f ?_ | refine p_sx ?_ | ((fail_if_success refine gp_lit rfl rfl rfl rfl ?_); first | apply gp_guard_dec rfl rfl rfl rfl | apply gp_guard rfl rfl rfl rfl | fail) | refine p_sq ?_)
      | (refine gp_one ?_; first | refine p_v ?_ | refine p_s ?_ | refine p_n (fun _ => ?_) | refine p_y ?_ | refine p_app (fun _ _ => ?_) | refine p_mv ?_ | refine p_ms ?_ | refine p_b0 (fun _ => ?_) | ((fail_if_success refine gp_lit rfl rfl rfl rfl ?_); first | apply gp_guard_dec rfl rfl rfl rfl | apply gp_guard rfl rfl rfl rfl | fail))
      | refine gp_two ?_ ?_ | refine gp_done hd hk ?_ | intro _ | refine p_ta hd hk (fun _ _ _ hd hk => ?_) | refine p_ts hd hk (fun _ hd hk => ?_))
    rename_i ab
    repeat (first
      | (refine gp_take ?_; first | refine p_q ?_ | refine p_x ?_ | refine p_mq ?_ | ((fail_if_success refine gp_lit rfl rfl rfl rfl ?_); first | apply gp_guard_dec rfl rfl rfl rfl | apply gp_guard rfl rfl rfl rfl | fail))
      | (refine gp_see ?_; first | refine p_f ?_ | refine p_sx ?_ | ((fail_if_success refine gp_lit rfl rfl rfl rfl ?_); first | apply gp_guard_dec rfl rfl rfl rfl | apply gp_guard rfl rfl rfl rfl | fail) | refine p_sq ?_)
      | (refine gp_one ?_; first | refine p_v ?_ | refine p_s ?_ | refine p_n (fun _ => ?_) | refine p_y ?_ | refine p_app (fun _ _ => ?_) | refine p_mv ?_ | refine p_ms ?_ | refine p_b0 (fun _ => ?_) | ((fail_if_success refine gp_lit rfl rfl rfl rfl ?_); first | apply gp_guard_dec rfl rfl rfl rfl | apply gp_guard rfl rfl rfl rfl | fail) | refine p_c (concat sc lc ab s1 (slAt_take s2 hkl) hl1 (by omega)) (fun _ _ => ?_))
      | refine gp_two ?_ ?_ | refine gp_done hd hk ?_ | intro _ | refine p_ta hd hk (fun _ _ _ hd hk => ?_) | refine p_ts hd hk (fun _ hd hk => ?_))
    rename_i x _
    repeat (first
      | (refine g_ops ?_; first | refine s_q ?_ | refine s_v ?_ | refine s_s ?_ | refine s_n (fun _ => ?_) | refine s_x ?_ | refine s_y ?_ | refine s_mq ?_ | refine s_app (fun _ _ => ?_) | refine s_mv ?_ | refine s_ms ?_ | refine s_b0 (fun _ => ?_) | ((fail_if_success refine g_lit rfl rfl rfl ?_); first | apply g_partM rfl rfl rfl | apply g_partMB rfl rfl rfl | fail))
      | refine g_seq ?_ | refine g_region ?_ | refine g_nil ?_ | refine g_then_normal ?_ | refine g_block ?_ | refine g_in_normal ?_ | refine g_retc ?_
      | refine g_then_ret ?_ | refine g_in_ret ?_ | refine g_exit ?_ | refine g_then_exit ?_ | refine g_in_exit ?_ | refine g_in_other rfl ?_ | refine g_skip ?_
      | refine g_label ?_ | refine g_cond_true rfl ?_ | refine g_cond_false rfl ?_ | exact s_m | intro _)
    exact g_ret x rfl (by (repeat (first | exact RVs.nil | apply RVs.tmp rfl | apply RVs.cellA rfl (by (repeat (first | exact Sel.here | apply Sel.there)); first | done | fail) (by (repeat (first | exact Cut.zero | apply Cut.take | apply Cut.skip)); first | done | fail) | apply RVs.cell1 rfl (by (repeat (first | exact Sel.here | apply Sel.there)); first | done | fail) rfl)); first | done | fail) (by (repeat (first | exact Take.nil | apply Take.cons | exact Sel.here | apply Sel.there)); first | done | fail) rfl trivial
  · have hnh : ¬ (0 < loose.length ∧ 0 < pl.length) := fun h2 => by
      have e1 : decide (0 < (loose.length : Int)) = true := by simp; omega
      have e2 : decide (0 < (pl.length : Int)) = true := by simp; omega
      rw [e1, e2] at h
      cases h
    have hK : (0 : Int) = ((keep loose.length pl.length v : Nat) : Int) := by
      unfold keep
      rw [if_neg hnh]
      rfl
    rw [show (⟨pp, pl, pc⟩ : Pk).nxt loose.length = ⟨pp, pl, pc⟩ from if_neg hnh]
    repeat (first
      | (refine g_ops ?_; first | refine s_q ?_ | refine s_v ?_ | refine s_s ?_ | refine s_n (fun _ => ?_) | refine s_x ?_ | refine s_y ?_ | refine s_mq ?_ | refine s_app (fun _ _ => ?_) | refine s_mv ?_ | refine s_ms ?_ | refine s_b0 (fun _ => ?_) | ((fail_if_success refine g_lit rfl rfl rfl ?_); first | apply g_partM rfl rfl rfl | apply g_partMB rfl rfl rfl | fail))
      | apply g_regB (id := 3) 17 | refine g_seq ?_ | refine g_region ?_ | refine g_nil ?_ | refine g_then_normal ?_ | refine g_block ?_ | refine g_in_normal ?_
      | refine g_retc ?_ | refine g_then_ret ?_ | refine g_in_ret ?_ | refine g_exit ?_ | refine g_then_exit ?_ | refine g_in_exit ?_ | refine g_in_other rfl ?_
      | refine g_skip ?_ | refine g_label ?_ | refine g_cond_true rfl ?_ | refine g_cond_false rfl ?_ | exact s_m | intro _ | (refine gp_take ?_; first | refine p_q ?_ | refine p_x ?_ | refine p_mq ?_ | ((fail_if_success refine gp_lit rfl rfl rfl rfl ?_); first | apply gp_guard_dec rfl rfl rfl rfl | apply gp_guard rfl rfl rfl rfl | fail))
      | (refine gp_see ?_; first | refine p_f ?_ | refine p_sx ?_ | ((fail_if_success refine gp_lit rfl rfl rfl rfl ?_); first | apply gp_guard_dec rfl rfl rfl rfl | apply gp_guard rfl rfl rfl rfl | fail) | refine p_sq ?_)
      | (refine gp_one ?_; first | refine p_v ?_ | refine p_s ?_ | refine p_n (fun _ => ?_) | refine p_y ?_ | refine p_app (fun _ _ => ?_) | refine p_mv ?_ | refine p_ms ?_ | refine p_b0 (fun _ => ?_) | ((fail_if_success refine gp_lit rfl rfl rfl rfl ?_); first | apply gp_guard_dec rfl rfl rfl rfl | apply gp_guard rfl rfl rfl rfl | fail))
      | refine gp_two ?_ ?_ | refine gp_done hd hk ?_ | intro _ | refine p_ta hd hk (fun _ _ _ hd hk => ?_) | refine p_ts hd hk (fun _ hd hk => ?_))
    refine g_as 4 (v' := int ((keep loose.length pl.length v : Nat) : Int)) rfl (congrArg (Value.int .i64) hK) ?_
    generalize keep loose.length pl.length v = K at hkl hK ⊢
    have hlt : (loose.take K).length = K := by simp [hkl]
    refine g_draw (.take 0 (.take 1 (.take 2 (.see 3 [] (.take 4 (.take 5 (.take 6 (.see 7 [] (.take 8 (.take 9 (.take 10 (.see 11 [] (.take 12 (.take 13 (.one 14 (.one 15 (.take 16 (.one 17 .done)))))))))))))))))) (by kernel_rfl) (C := [frow fb nm sp safe.length sc lp loose.length lc]) (by (repeat (first | exact Take.nil | apply Take.cons | exact Sel.here | apply Sel.there)); first | done | fail) (fun k hd hk => ?_)
    repeat (first
      | (refine gp_take ?_; first | refine p_q ?_ | refine p_x ?_ | refine p_mq ?_ | ((fail_if_success refine gp_lit rfl rfl rfl rfl ?_); first | apply gp_guard_dec rfl rfl rfl rfl | apply gp_guard rfl rfl rfl rfl | fail))
      | (refine gp_see ?_; first | refine p_f ?_ | refine p_sx ?_ | ((fail_if_success refine gp_lit rfl rfl rfl rfl ?_); first | apply gp_guard_dec rfl rfl rfl rfl | apply gp_guard rfl rfl rfl rfl | fail) | refine p_sq ?_)
      | (refine gp_one ?_; first | refine p_v ?_ | refine p_s ?_ | refine p_n (fun _ => ?_) | refine p_y ?_ | refine p_app (fun _ _ => ?_) | refine p_mv ?_ | refine p_ms ?_ | refine p_b0 (fun _ => ?_) | ((fail_if_success refine gp_lit rfl rfl rfl rfl ?_); first | apply gp_guard_dec rfl rfl rfl rfl | apply gp_guard rfl rfl rfl rfl | fail))
      | refine gp_two ?_ ?_ | refine gp_done hd hk ?_ | intro _ | refine p_ta hd hk (fun _ _ _ hd hk => ?_) | refine p_ts hd hk (fun _ hd hk => ?_))
    refine p_q (q := by intro Δ; exact qs_slice (l := 0) (h := K) inferInstance inferInstance rfl .none (.some rfl rfl) (Nat.zero_le _) (by omega)) ?_
    refine gp_as 39 (v' := .slice lp (loose.take K).length lc) rfl (by rw [offTake, hlt]) ?_
    repeat (first
      | (refine gp_take ?_; first | refine p_q ?_ | refine p_x ?_ | refine p_mq ?_ | ((fail_if_success refine gp_lit rfl rfl rfl rfl ?_); first | apply gp_guard_dec rfl rfl rfl rfl | apply gp_guard rfl rfl rfl rfl | fail))
      | (refine gp_see ?_; first | refine p_f ?_ | refine p_sx ?_ | ((fail_if_success refine gp_lit rfl rfl rfl rfl ?_); first | apply gp_guard_dec rfl rfl rfl rfl | apply gp_guard rfl rfl rfl rfl | fail) | refine p_sq ?_)
      | (refine gp_one ?_; first | refine p_v ?_ | refine p_s ?_ | refine p_n (fun _ => ?_) | refine p_y ?_ | refine p_app (fun _ _ => ?_) | refine p_mv ?_ | refine p_ms ?_ | refine p_b0 (fun _ => ?_) | ((fail_if_success refine gp_lit rfl rfl rfl rfl ?_); first | apply gp_guard_dec rfl rfl rfl rfl | apply gp_guard rfl rfl rfl rfl | fail))
      | refine gp_two ?_ ?_ | refine gp_done hd hk ?_ | intro _ | refine p_ta hd hk (fun _ _ _ hd hk => ?_) | refine p_ts hd hk (fun _ hd hk => ?_))
    rename_i ab
    repeat (first
      | (refine gp_take ?_; first | refine p_q ?_ | refine p_x ?_ | refine p_mq ?_ | ((fail_if_success refine gp_lit rfl rfl rfl rfl ?_); first | apply gp_guard_dec rfl rfl rfl rfl | apply gp_guard rfl rfl rfl rfl | fail))
      | (refine gp_see ?_; first | refine p_f ?_ | refine p_sx ?_ | ((fail_if_success refine gp_lit rfl rfl rfl rfl ?_); first | apply gp_guard_dec rfl rfl rfl rfl | apply gp_guard rfl rfl rfl rfl | fail) | refine p_sq ?_)
      | (refine gp_one ?_; first | refine p_v ?_ | refine p_s ?_ | refine p_n (fun _ => ?_) | refine p_y ?_ | refine p_app (fun _ _ => ?_) | refine p_mv ?_ | refine p_ms ?_ | refine p_b0 (fun _ => ?_) | ((fail_if_success refine gp_lit rfl rfl rfl rfl ?_); first | apply gp_guard_dec rfl rfl rfl rfl | apply gp_guard rfl rfl rfl rfl | fail) | refine p_c (concat sc lc ab s1 (slAt_take s2 hkl) hl1 (by omega)) (fun _ _ => ?_))
      | refine gp_two ?_ ?_ | refine gp_done hd hk ?_ | intro _ | refine p_ta hd hk (fun _ _ _ hd hk => ?_) | refine p_ts hd hk (fun _ hd hk => ?_))
    rename_i x _
    repeat (first
      | (refine g_ops ?_; first | refine s_q ?_ | refine s_v ?_ | refine s_s ?_ | refine s_n (fun _ => ?_) | refine s_x ?_ | refine s_y ?_ | refine s_mq ?_ | refine s_app (fun _ _ => ?_) | refine s_mv ?_ | refine s_ms ?_ | refine s_b0 (fun _ => ?_) | ((fail_if_success refine g_lit rfl rfl rfl ?_); first | apply g_partM rfl rfl rfl | apply g_partMB rfl rfl rfl | fail))
      | refine g_seq ?_ | refine g_region ?_ | refine g_nil ?_ | refine g_then_normal ?_ | refine g_block ?_ | refine g_in_normal ?_ | refine g_retc ?_
      | refine g_then_ret ?_ | refine g_in_ret ?_ | refine g_exit ?_ | refine g_then_exit ?_ | refine g_in_exit ?_ | refine g_in_other rfl ?_ | refine g_skip ?_
      | refine g_label ?_ | refine g_cond_true rfl ?_ | refine g_cond_false rfl ?_ | exact s_m | intro _)
    exact g_ret x rfl (by (repeat (first | exact RVs.nil | apply RVs.tmp rfl | apply RVs.cellA rfl (by (repeat (first | exact Sel.here | apply Sel.there)); first | done | fail) (by (repeat (first | exact Cut.zero | apply Cut.take | apply Cut.skip)); first | done | fail) | apply RVs.cell1 rfl (by (repeat (first | exact Sel.here | apply Sel.there)); first | done | fail) rfl)); first | done | fail) (by (repeat (first | exact Take.nil | apply Take.cons | exact Sel.here | apply Sel.there)); first | done | fail) rfl trivial
structure EaX where
  fs : List Fi
  q : Option Addr
  c : Nat
structure EbX where
  d : Nat
  x : EaX
abbrev outL (y : Fi) : List Chunk := [.own y.sp y.safe.length y.sc 1 (cells8 y.safe) 5, .own y.lp y.loose.length y.lc 1 (cells8 y.loose) 5]
abbrev outV (y : Fi) : Value := .agg #[.string y.nm, .slice y.sp y.safe.length y.sc, .slice y.lp y.loose.length y.lc]
set_option maxHeartbeats 2000000 in
theorem eachg (d : Nat) (room : Int) (ops ct : Int) (q : Option Addr) (c : Nat) (fs : List Fi) (hn : fs.length ≤ 2000) (g : FuncId) [Callable Tryz.prog g] (caps : List Value) (E : Nat → Chunk) (C : Chunk) (out : Nat → Fi → Prop) (hof : ∀ i (y : Fi) (f' : Nat), out i y → out i ⟨f', y.nm, y.sp, y.safe, y.sc, y.lp, y.loose, y.lc⟩)
    (hcl : ∀ (i : Nat) (h : i < fs.length), Does Tryz.prog g (ptr fs[i].f :: caps) (E i :: C :: fs[i].L) (X := Fi) outV (fun y => E (i + 1) :: C :: (outL y ++ fs[i].L)) (out i)) :
    Does Tryz.prog 40 [ptr d, .func (.func g) #[] caps.toArray] (E 0 :: C :: bagL d room ops ct q c fs []) (X := EbX) (fun x => ptr x.d) (fun x => bagL x.d room 0 0 x.x.q x.x.c x.x.fs (bagL d room ops ct q c fs [C]))
      (fun x => x.x.fs.length = fs.length ∧ ∀ (i : Nat) (h : i < x.x.fs.length), out i x.x.fs[i]) := by
  refine fn_intro Tryz.func40 rfl Tryz.ntmps40 rfl (by simp only [argFr, Nat.zero_add, Nat.reduceAdd]; rfl) (fun Γ => ?_)
  repeat (first
    | (refine g_ops ?_; first | refine s_q ?_ | refine s_v ?_ | refine s_s ?_ | refine s_n (fun _ => ?_) | refine s_x ?_ | refine s_y ?_ | refine s_mq ?_ | refine s_app (fun _ _ => ?_) | refine s_mv ?_ | refine s_ms ?_ | refine s_b0 (fun _ => ?_) | ((fail_if_success refine g_lit rfl rfl rfl ?_); first | apply g_partM rfl rfl rfl | apply g_partMB rfl rfl rfl | fail))
    | refine g_seq ?_ | refine g_region ?_ | refine g_nil ?_ | refine g_then_normal ?_ | refine g_block ?_ | refine g_in_normal ?_ | refine g_retc ?_ | refine g_then_ret ?_
    | refine g_in_ret ?_ | refine g_exit ?_ | refine g_then_exit ?_ | refine g_in_exit ?_ | refine g_in_other rfl ?_ | refine g_skip ?_ | refine g_label ?_
    | refine g_cond_true rfl ?_ | refine g_cond_false rfl ?_ | exact s_m | intro _)
  rename_i d2
  refine g_own (p := q) (len := fs.length) (cap := c) (n := 1) (xs := ptrs fs) (e := 80) (by (repeat (first | exact Sel.here | apply Sel.there)); first | done | fail) (fun _ _ hp => ?_)
  refine g_own_nil none 1 80 ?_
  refine g_addNone ?_
  refine g_loop (X := EaX) (fun s => [(0, ptr d), (1, .func (.func g) #[] caps.toArray), (5, ptr d2), (24, .slice q fs.length c), (25, int fs.length), (26, int s.fs.length)]) (fun s => bagL d2 room 0 0 s.q s.c s.fs (E s.fs.length :: bagL d room ops ct q c fs [C])) (fun s => s.fs.length ≤ fs.length ∧ ∀ (i : Nat) (h : i < s.fs.length), out i s.fs[i]) (fun s => fs.length - s.fs.length) ⟨[], none, 0⟩ ⟨Nat.zero_le _, fun i h => by simp at h⟩ (by (repeat (first | exact FrSub.nil | refine FrSub.cons rfl ?_)); first | done | fail) (by (repeat (first | exact Take.nil | apply Take.cons | exact Sel.here | apply Sel.there)); first | done | fail) (fun s hs => ?_)
  obtain ⟨fs2, q2, c2⟩ := s
  obtain ⟨hs1, hs2⟩ := hs
  dsimp only at hs1 hs2 ⊢
  repeat (first
    | (refine g_ops ?_; first | refine s_q ?_ | refine s_v ?_ | refine s_s ?_ | refine s_n (fun _ => ?_) | refine s_x ?_ | refine s_y ?_ | refine s_mq ?_ | refine s_app (fun _ _ => ?_) | refine s_mv ?_ | refine s_ms ?_ | refine s_b0 (fun _ => ?_) | ((fail_if_success refine g_lit rfl rfl rfl ?_); first | apply g_partM rfl rfl rfl | apply g_partMB rfl rfl rfl | fail))
    | refine g_seq ?_ | refine g_region ?_ | refine g_nil ?_ | refine g_then_normal ?_ | refine g_block ?_ | refine g_in_normal ?_ | refine g_retc ?_ | refine g_then_ret ?_
    | refine g_in_ret ?_ | refine g_exit ?_ | refine g_then_exit ?_ | refine g_in_exit ?_ | refine g_in_other rfl ?_ | refine g_skip ?_ | refine g_label ?_
    | refine g_cond_true rfl ?_ | refine g_cond_false rfl ?_ | exact s_m | intro _)
  refine g_cond_dec rfl (fun h => ?_) (fun h => ?_)
  · have hlt : fs2.length < fs.length := by omega
    obtain ⟨b, rfl⟩ := hp (by omega)
    have hr : ∀ j, j = fs2.length → Reads (.own (some ⟨b, 0, none⟩) fs.length c 1 (ptrs fs) 80) ⟨b, 0 + j, none⟩ (ptr fs[fs2.length].f) := fun j e => by
      subst e; rw [Nat.zero_add]; exact reads_own (ptrs_at fs _ hlt)
    have hcli := hcl fs2.length hlt
    refine g_file fs fs2.length hlt (by (repeat (first | exact Take.nil | apply Take.cons | exact Sel.here | apply Sel.there)); first | done | fail) ?_
    have hsp := split_at fs fs2.length hlt
    generalize fs[fs2.length] = x at hr hsp hcli ⊢
    obtain ⟨f, xnm, sp, safe, sc, lp, loose, lc⟩ := x
    dsimp only [Fi.L] at hr hsp hcli ⊢
    repeat (first
      | (refine g_ops ?_; first | refine s_q ?_ | refine s_v ?_ | refine s_s ?_ | refine s_n (fun _ => ?_) | refine s_x ?_ | refine s_y ?_ | refine s_mq ?_ | refine s_app (fun _ _ => ?_) | refine s_mv ?_ | refine s_ms ?_ | refine s_b0 (fun _ => ?_) | ((fail_if_success refine g_lit rfl rfl rfl ?_); first | apply g_partM rfl rfl rfl | apply g_partMB rfl rfl rfl | fail))
      | refine g_seq ?_ | refine g_region ?_ | refine g_nil ?_ | refine g_then_normal ?_ | refine g_block ?_ | refine g_in_normal ?_ | refine g_retc ?_
      | refine g_then_ret ?_ | refine g_in_ret ?_ | refine g_exit ?_ | refine g_then_exit ?_ | refine g_in_exit ?_ | refine g_in_other rfl ?_ | refine g_skip ?_
      | refine g_label ?_ | refine g_cond_true rfl ?_ | refine g_cond_false rfl ?_ | exact s_m | intro _)
    refine g_c (cs_callV hcli (vs := [ptr f]) (caps := caps) rfl (by (repeat (first | exact Evs.nil | refine Evs.cons rfl ?_)); first | done | fail) rfl (by (repeat (first | exact Take.nil | apply Take.cons | exact Sel.here | apply Sel.there)); first | done | fail)) rfl rfl (fun y hy => ?_)
    obtain ⟨f0, nm2, sp2, safe2, sc2, lp2, loose2, lc2⟩ := y
    dsimp only [outL, outV] at hy ⊢
    dsimp only [List.cons_append, List.nil_append]
    repeat (first
      | (refine g_ops ?_; first | refine s_q ?_ | refine s_v ?_ | refine s_s ?_ | refine s_n (fun _ => ?_) | refine s_x ?_ | refine s_y ?_ | refine s_mq ?_ | refine s_app (fun _ _ => ?_) | refine s_mv ?_ | refine s_ms ?_ | refine s_b0 (fun _ => ?_) | ((fail_if_success refine g_lit rfl rfl rfl ?_); first | apply g_partM rfl rfl rfl | apply g_partMB rfl rfl rfl | fail))
      | refine g_seq ?_ | refine g_region ?_ | refine g_nil ?_ | refine g_then_normal ?_ | refine g_block ?_ | refine g_in_normal ?_ | refine g_retc ?_
      | refine g_then_ret ?_ | refine g_in_ret ?_ | refine g_exit ?_ | refine g_then_exit ?_ | refine g_in_exit ?_ | refine g_in_other rfl ?_ | refine g_skip ?_
      | refine g_label ?_ | refine g_cond_true rfl ?_ | refine g_cond_false rfl ?_ | exact s_m | intro _)
    rename_i xb vb fq fc
    refine g_bagIn (fs.take fs2.length) (fs.drop (fs2.length + 1)) ⟨f, xnm, sp, safe, sc, lp, loose, lc⟩ (by (repeat (first | exact Take.nil | apply Take.cons | exact Sel.here | apply Sel.there)); first | done | fail) ?_
    rw [← hsp]
    obtain ⟨y, hye⟩ : ∃ y : Fi, y = ⟨xb, nm2, sp2, safe2, sc2, lp2, loose2, lc2⟩ := ⟨_, rfl⟩
    have hyo := hof _ _ xb hy
    dsimp only at hyo
    rw [← hye] at hyo
    have hl : (fs2 ++ [y]).length = fs2.length + 1 := by simp
    have hpt : ptrs fs2 ++ [ptr xb] = ptrs (fs2 ++ [y]) := by simp [ptrs, hye]
    refine g_bagIn fs2 [] y (by subst hye; rw [List.append_nil]; exact (by (repeat (first | exact Take.nil | apply Take.cons | exact Sel.here | apply Sel.there)); first | done | fail)) ?_
    rw [hpt, ← hl]
    refine g_as 26 (v' := int ((fs2 ++ [y]).length : Int)) rfl (congrArg (Value.int .i64) (by rw [hl]; push_cast; rfl)) ?_
    refine g_again ⟨fs2 ++ [y], fq, fc⟩ (by simp only; omega) ⟨by simp only; omega, fun i hi => ?_⟩ (by (repeat (first | exact FrSub.nil | refine FrSub.cons rfl ?_)); first | done | fail) (by (repeat (first | exact Take.nil | apply Take.cons | exact Sel.here | apply Sel.there)); first | done | fail)
    dsimp only at hi ⊢
    by_cases hi2 : i < fs2.length
    · rw [List.getElem_append_left hi2]
      exact hs2 i hi2
    · have hie : i = fs2.length := by omega
      subst hie
      rw [List.getElem_append_right (Nat.le_refl _)]
      simpa using hyo
  · obtain h' : fs2.length = fs.length := by omega
    repeat (first
      | (refine g_ops ?_; first | refine s_q ?_ | refine s_v ?_ | refine s_s ?_ | refine s_n (fun _ => ?_) | refine s_x ?_ | refine s_y ?_ | refine s_mq ?_ | refine s_app (fun _ _ => ?_) | refine s_mv ?_ | refine s_ms ?_ | refine s_b0 (fun _ => ?_) | ((fail_if_success refine g_lit rfl rfl rfl ?_); first | apply g_partM rfl rfl rfl | apply g_partMB rfl rfl rfl | fail))
      | refine g_seq ?_ | refine g_region ?_ | refine g_nil ?_ | refine g_then_normal ?_ | refine g_block ?_ | refine g_in_normal ?_ | refine g_retc ?_
      | refine g_then_ret ?_ | refine g_in_ret ?_ | refine g_exit ?_ | refine g_then_exit ?_ | refine g_in_exit ?_ | refine g_in_other rfl ?_ | refine g_skip ?_
      | refine g_label ?_ | refine g_cond_true rfl ?_ | refine g_cond_false rfl ?_ | exact s_m | intro _)
    exact g_ret (⟨d2, ⟨fs2, q2, c2⟩⟩ : EbX) rfl (by (repeat (first | exact RVs.nil | apply RVs.tmp rfl | apply RVs.cellA rfl (by (repeat (first | exact Sel.here | apply Sel.there)); first | done | fail) (by (repeat (first | exact Cut.zero | apply Cut.take | apply Cut.skip)); first | done | fail) | apply RVs.cell1 rfl (by (repeat (first | exact Sel.here | apply Sel.there)); first | done | fail) rfl)); first | done | fail) (by (repeat (first | exact Take.nil | apply Take.cons | exact Sel.here | apply Sel.there)); first | done | fail) rfl ⟨h', hs2⟩
def pkAt (fs : List Fi) (k : Pk) : Nat → Pk
  | 0 => k
  | i + 1 => if h : i < fs.length then (pkAt fs k i).nxt fs[i].loose.length else pkAt fs k i
theorem pkAt_ok {C : Chunk} (fs : List Fi) {k : Pk} (h : PkAt C k) : ∀ i, PkAt C (pkAt fs k i)
  | 0 => h
  | i + 1 => by
    unfold pkAt
    split
    · exact (pkAt_ok fs h i).nxt _
    · exact pkAt_ok fs h i
def crOut (fs : List Fi) (k : Pk) (i : Nat) (y : Fi) : Prop := ∀ h : i < fs.length, y.nm = fs[i].nm ∧ y.safe = fs[i].safe ++ fs[i].loose.take (keep fs[i].loose.length (pkAt fs k i).l.length ((pkAt fs k i).l.headD 0)) ∧ y.loose = []
theorem crashg (d : Nat) (room : Int) (ops ct : Int) (q : Option Addr) (c : Nat) (fs : List Fi) (hn : fs.length ≤ 2000) (hu : used fs ≤ 1000000) (k : Pk) {C : Chunk} (hP : PkAt C k) :
    Does Tryz.prog 22 [ptr d, .slice k.p k.l.length k.c] (bagL d room ops ct q c fs [C]) (X := EbX) (fun x => ptr x.d) (fun x => bagL x.d room 0 0 x.x.q x.x.c x.x.fs (bagL d room ops ct q c fs [C]))
      (fun x => x.x.fs.length = fs.length ∧ ∀ (i : Nat) (h : i < x.x.fs.length), crOut fs k i x.x.fs[i]) := by
  refine fn_intro Tryz.func22 rfl Tryz.ntmps22 rfl (by simp only [argFr, Nat.zero_add, Nat.reduceAdd]; rfl) (fun Γ => ?_)
  repeat (first
    | (refine g_ops ?_; first | refine s_q ?_ | refine s_v ?_ | refine s_s ?_ | refine s_n (fun _ => ?_) | refine s_x ?_ | refine s_y ?_ | refine s_mq ?_ | refine s_app (fun _ _ => ?_) | refine s_mv ?_ | refine s_ms ?_ | refine s_b0 (fun _ => ?_) | ((fail_if_success refine g_lit rfl rfl rfl ?_); first | apply g_partM rfl rfl rfl | apply g_partMB rfl rfl rfl | fail))
    | refine g_seq ?_ | refine g_region ?_ | refine g_nil ?_ | refine g_then_normal ?_ | refine g_block ?_ | refine g_in_normal ?_ | refine g_retc ?_ | refine g_then_ret ?_
    | refine g_in_ret ?_ | refine g_exit ?_ | refine g_then_exit ?_ | refine g_in_exit ?_ | refine g_in_other rfl ?_ | refine g_skip ?_ | refine g_label ?_
    | refine g_cond_true rfl ?_ | refine g_cond_false rfl ?_ | exact s_m | intro _)
  rename_i pb
  have hea := eachg d room ops ct q c fs hn 42 [ptr pb] (fun i => (pkAt fs k i).row pb) C (crOut fs k) (fun i y f' h => h) (fun i hi => by
    have hup := used_take fs i hi
    have hul := used_le fs (i + 1)
    have hcr := crashF (C := C) fs[i].f pb fs[i].nm fs[i].sp fs[i].safe fs[i].sc fs[i].lp fs[i].loose fs[i].lc (pkAt fs k i) (pkAt_ok fs hP i) (by omega) (by omega)
    have hnx : pkAt fs k (i + 1) = (pkAt fs k i).nxt fs[i].loose.length := by rw [pkAt, dif_pos hi]
    rw [hnx]
    refine does_map (fun x : OA => (⟨0, fs[i].nm, x.1, fs[i].safe ++ fs[i].loose.take (keep fs[i].loose.length (pkAt fs k i).l.length ((pkAt fs k i).l.headD 0)), x.2, none, [], 0⟩ : Fi)) (by (repeat (first | exact Take.nil | apply Take.cons | exact Sel.here | apply Sel.there)); first | done | fail) (fun x _ => rfl) (fun Γ x w _ hB => ?_) (fun x _ _ => ⟨rfl, rfl, rfl⟩) hcr
    exact (hB.ownNil none 1 5).takeDrop (by (repeat (first | exact Take.nil | apply Take.cons | exact Sel.here | apply Sel.there)); first | done | fail))
  refine s_q (q := by exact qs_makeFunc (vs := [ptr pb]) (by (repeat (first | exact Evs.nil | refine Evs.cons rfl ?_)); first | done | fail)) ?_
  repeat (first
    | (refine g_ops ?_; first | refine s_q ?_ | refine s_v ?_ | refine s_s ?_ | refine s_n (fun _ => ?_) | refine s_x ?_ | refine s_y ?_ | refine s_mq ?_ | refine s_app (fun _ _ => ?_) | refine s_mv ?_ | refine s_ms ?_ | refine s_b0 (fun _ => ?_) | ((fail_if_success refine g_lit rfl rfl rfl ?_); first | apply g_partM rfl rfl rfl | apply g_partMB rfl rfl rfl | fail) | refine s_c (hea) (fun _ _ => ?_))
    | refine g_seq ?_ | refine g_region ?_ | refine g_nil ?_ | refine g_then_normal ?_ | refine g_block ?_ | refine g_in_normal ?_ | refine g_retc ?_ | refine g_then_ret ?_
    | refine g_in_ret ?_ | refine g_exit ?_ | refine g_then_exit ?_ | refine g_in_exit ?_ | refine g_in_other rfl ?_ | refine g_skip ?_ | refine g_label ?_
    | refine g_cond_true rfl ?_ | refine g_cond_false rfl ?_ | exact s_m | intro _)
  rename_i x hx
  exact g_ret x rfl (by (repeat (first | exact RVs.nil | apply RVs.tmp rfl | apply RVs.cellA rfl (by (repeat (first | exact Sel.here | apply Sel.there)); first | done | fail) (by (repeat (first | exact Cut.zero | apply Cut.take | apply Cut.skip)); first | done | fail) | apply RVs.cell1 rfl (by (repeat (first | exact Sel.here | apply Sel.there)); first | done | fail) rfl)); first | done | fail) (by (repeat (first | exact Take.nil | apply Take.cons | exact Sel.here | apply Sel.there)); first | done | fail) rfl hx
structure OaX where
  a : OA
  b : OA
end Go.Proofs.YtdldgbbhagpofaaGreatDoor

namespace Go.Proofs.YtdldgbbhagpofaaGreatDoor
open Go.Sl facts
abbrev yv (l : Nat) : Value := .func (.yield l) #[] #[]
abbrev lpB (l : Nat) (r : Loop) (b : Bool) : Chunk := lp l r (if b then .done else .ready) (if b then some .ret else none)
structure BkX (X : Type) where
  i : Nat
  x : X
theorem all_last {x c : Chunk} {A : List Chunk} {h : HP} (a : All ((c :: A) ++ [x]) h) : All (c :: x :: A) h :=
  a.take (R := []) (.cons .here (.cons (sel_mid x [] A) (by rw [List.append_nil]; exact take_all _))) |> fun a => by simpa using a
attribute [local irreducible] Code.wp wpList Exit.then Exit.inBlock bodyPost Back MidQ G GP QStep VStep CStep SStep Does Post Reads
section
variable {X : Type} {l : Nat} {r : Loop} {bx : Nat} {p : Option Addr} {n c : Nat} {M F : Nat → X → List Chunk} {φ ψ : Nat → X → Prop}
theorem back46 {el : Nat → List Value} (hel : ∀ i, (el i).length = 4) (hn : n ≤ 1000000000)
    (hr : ∀ i x, i < n → φ (i + 1) x → ∃ b o C R', p = some ⟨b, o, none⟩ ∧ Sel (M (i + 1) x) C R' ∧ ∀ (j : Nat) (v : Value), (el i)[j]? = some v → Reads C ⟨b, o + i * 4 + j, none⟩ v)
    (Y : ∀ i x, i < n → φ (i + 1) x → YDoes Tryz.prog l [int i, .agg (el i).toArray] (lp l r .ready none :: M (i + 1) x) (fun b y => lpB l r (!b) :: (if b then M i y else F i y)) (fun b y => if b then φ i y else ψ i y)) (x0 : X) (h0 : φ n x0) :
    Does Tryz.prog 46 [yv l, ptr bx] (lp l r .ready none :: .row bx [.slice p n c] 56 :: M n x0) (fun _ => .tuple #[])
      (fun z : Bool × Nat × X => lpB l r z.1 :: .row bx [.slice p n c] 56 :: (if z.1 then F z.2.1 z.2.2 else M 0 z.2.2)) (fun z => if z.1 then ψ z.2.1 z.2.2 ∧ z.2.1 < n else φ 0 z.2.2) := by
  refine fn_intro Tryz.func46 rfl Tryz.ntmps46 rfl (by simp only [argFr, Nat.zero_add, Nat.reduceAdd]; rfl) (fun Γ => ?_)
  repeat (first
    | (refine g_ops ?_; first | refine sO ?_ | refine s_n (fun _ => ?_) | refine s_app (fun _ _ => ?_) | refine s_b0 (fun _ => ?_) | ((fail_if_success refine g_lit rfl rfl rfl ?_); first | apply g_partM rfl rfl rfl | apply g_partMB rfl rfl rfl | fail))
    | refine gS ?_ | exact s_m | intro _ | refine r_seq ?_ | refine r_region ?_ | refine r_block ?_ | refine r_retc ?_ | refine r_exit ?_ | refine r_skip ?_
    | refine r_label ?_ | refine r_cond_true rfl ?_ | refine r_cond_false rfl ?_)
  refine g_loop (X := BkX X) (fun z => [(3, int ((z.i : Int) - 1)), (0, yv l), (1, ptr bx)]) (fun z => lp l r .ready none :: .row bx [.slice p n c] 56 :: M z.i z.x) (fun z => z.i ≤ n ∧ φ z.i z.x) (fun z => z.i) ⟨n, x0⟩ ⟨Nat.le_refl _, h0⟩ (by (repeat (first | exact FrSub.nil | refine FrSub.cons rfl ?_)); first | done | fail) (take_all _) (fun z hz => ?_)
  obtain ⟨i, x⟩ := z
  obtain ⟨hi, hx⟩ := hz
  dsimp only at hi hx ⊢
  repeat (first
    | (refine g_ops ?_; first | refine sO ?_ | refine s_n (fun _ => ?_) | refine s_app (fun _ _ => ?_) | refine s_b0 (fun _ => ?_) | ((fail_if_success refine g_lit rfl rfl rfl ?_); first | apply g_partM rfl rfl rfl | apply g_partMB rfl rfl rfl | fail))
    | refine gS ?_ | exact s_m | intro _ | refine r_seq ?_ | refine r_region ?_ | refine r_block ?_ | refine r_retc ?_ | refine r_exit ?_ | refine r_skip ?_
    | refine r_label ?_ | refine r_cond_true rfl ?_ | refine r_cond_false rfl ?_)
  refine g_cond_dec rfl (fun h => ?_) (fun h => ?_)
  · obtain ⟨i, rfl⟩ : ∃ j, i = j + 1 := ⟨i - 1, by omega⟩
    obtain ⟨b, o, C, R', rfl, hs, hrow⟩ := hr i x (by omega) hx
    have e1 : ((i + 1 : Nat) : Int) - 1 = (i : Int) := by omega
    rw [e1]
    repeat (first | refine g_skip ?_ | refine g_then_normal ?_ | refine g_seq ?_ | refine g_block ?_)
    refine g_regY (id := 3) 6 ?_
    dsimp only [List.take, List.drop]
    repeat (first
      | (refine g_ops ?_; first | refine sO ?_ | refine s_n (fun _ => ?_) | refine s_app (fun _ _ => ?_) | refine s_b0 (fun _ => ?_) | ((fail_if_success refine g_lit rfl rfl rfl ?_); first | apply g_partM rfl rfl rfl | apply g_partMB rfl rfl rfl | fail))
      | refine gS ?_ | exact s_m | intro _ | refine r_seq ?_ | refine r_region ?_ | refine r_block ?_ | refine r_retc ?_ | refine r_exit ?_ | refine r_skip ?_
      | refine r_label ?_ | refine r_cond_true rfl ?_ | refine r_cond_false rfl ?_)
    refine g_v (vs_loadAR rfl (.there (.there hs)) (hel i) hrow) rfl rfl ?_
    refine g_nil ?_
    refine g_then_normal ?_
    refine g_yield (Y i x (by omega) hx) rfl rfl rfl (by (repeat (first | exact Evs.nil | refine Evs.cons rfl ?_)); first | done | fail) (by first | exact .cons .here (Take.under (take_all _)) | fail) (fun b' y hy => ?_)
    refine g_back ?_
    cases b' with
    | true =>
      refine g_weak (fr' := [(17, .bool true), (3, int i), (0, yv l), (1, ptr bx)]) (by (repeat (first | exact FrSub.nil | refine FrSub.cons rfl ?_)); first | done | fail) (fun h a => all_last (x := .row bx [.slice (some ⟨b, o, none⟩) n c] 56) a) ?_
      repeat (first
        | (refine g_ops ?_; first | refine sO ?_ | refine s_n (fun _ => ?_) | refine s_app (fun _ _ => ?_) | refine s_b0 (fun _ => ?_) | ((fail_if_success refine g_lit rfl rfl rfl ?_); first | apply g_partM rfl rfl rfl | apply g_partMB rfl rfl rfl | fail))
        | refine gS ?_ | exact s_m | intro _ | refine r_seq ?_ | refine r_region ?_ | refine r_block ?_ | refine r_retc ?_ | refine r_exit ?_ | refine r_skip ?_
        | refine r_label ?_ | refine r_cond_true rfl ?_ | refine r_cond_false rfl ?_)
      exact g_again ⟨i, y⟩ (Nat.lt_succ_self i) ⟨Nat.le_of_succ_le hi, hy⟩ (by (repeat (first | exact FrSub.nil | refine FrSub.cons rfl ?_)); first | done | fail) (take_all _)
    | false =>
      refine g_weak (fr' := [(17, .bool false), (0, yv l), (1, ptr bx)]) (by (repeat (first | exact FrSub.nil | refine FrSub.cons rfl ?_)); first | done | fail) (fun h a => all_last (x := .row bx [.slice (some ⟨b, o, none⟩) n c] 56) a) ?_
      repeat (first
        | (refine g_ops ?_; first | refine sO ?_ | refine s_n (fun _ => ?_) | refine s_app (fun _ _ => ?_) | refine s_b0 (fun _ => ?_) | ((fail_if_success refine g_lit rfl rfl rfl ?_); first | apply g_partM rfl rfl rfl | apply g_partMB rfl rfl rfl | fail))
        | refine gS ?_ | exact s_m | intro _ | refine r_seq ?_ | refine r_region ?_ | refine r_block ?_ | refine r_retc ?_ | refine r_exit ?_ | refine r_skip ?_
        | refine r_label ?_ | refine r_cond_true rfl ?_ | refine r_cond_false rfl ?_)
      exact g_ret (true, i, y) rfl (by (repeat (first | exact RVs.nil | apply RVs.tmp rfl | apply RVs.cellA rfl (by (repeat (first | exact Sel.here | apply Sel.there)); first | done | fail) (by (repeat (first | exact Cut.zero | apply Cut.take | apply Cut.skip)); first | done | fail) | apply RVs.cell1 rfl (by (repeat (first | exact Sel.here | apply Sel.there)); first | done | fail) rfl)); first | done | fail) (take_all _) rfl ⟨hy, hi⟩
  · obtain rfl : i = 0 := by omega
    repeat (first
      | (refine g_ops ?_; first | refine sO ?_ | refine s_n (fun _ => ?_) | refine s_app (fun _ _ => ?_) | refine s_b0 (fun _ => ?_) | ((fail_if_success refine g_lit rfl rfl rfl ?_); first | apply g_partM rfl rfl rfl | apply g_partMB rfl rfl rfl | fail))
      | refine gS ?_ | exact s_m | intro _ | refine r_seq ?_ | refine r_region ?_ | refine r_block ?_ | refine r_retc ?_ | refine r_exit ?_ | refine r_skip ?_
      | refine r_label ?_ | refine r_cond_true rfl ?_ | refine r_cond_false rfl ?_)
    exact g_end (false, 0, x) rfl (by (repeat (first | exact RVs.nil | apply RVs.tmp rfl | apply RVs.cellA rfl (by (repeat (first | exact Sel.here | apply Sel.there)); first | done | fail) (by (repeat (first | exact Cut.zero | apply Cut.take | apply Cut.skip)); first | done | fail) | apply RVs.cell1 rfl (by (repeat (first | exact Sel.here | apply Sel.there)); first | done | fail) rfl)); first | done | fail) (take_all _) rfl (by simpa using hx)
theorem back80 {el : Nat → Int} (hn : n ≤ 1000000000)
    (hr : ∀ i x, i < n → φ (i + 1) x → ∃ b o C R', p = some ⟨b, o, none⟩ ∧ Sel (M (i + 1) x) C R' ∧ Reads C ⟨b, o + i * 1, none⟩ (int (el i)))
    (Y : ∀ i x, i < n → φ (i + 1) x → YDoes Tryz.prog l [int i, int (el i)] (lp l r .ready none :: M (i + 1) x) (fun b y => lpB l r (!b) :: (if b then M i y else F i y)) (fun b y => if b then φ i y else ψ i y)) (x0 : X) (h0 : φ n x0) :
    Does Tryz.prog 80 [yv l, ptr bx] (lp l r .ready none :: .row bx [.slice p n c] 47 :: M n x0) (fun _ => .tuple #[])
      (fun z : Bool × Nat × X => lpB l r z.1 :: .row bx [.slice p n c] 47 :: (if z.1 then F z.2.1 z.2.2 else M 0 z.2.2)) (fun z => if z.1 then ψ z.2.1 z.2.2 ∧ z.2.1 < n else φ 0 z.2.2) := by
  refine fn_intro Tryz.func80 rfl Tryz.ntmps80 rfl (by simp only [argFr, Nat.zero_add, Nat.reduceAdd]; rfl) (fun Γ => ?_)
  repeat (first
    | (refine g_ops ?_; first | refine sO ?_ | refine s_n (fun _ => ?_) | refine s_app (fun _ _ => ?_) | refine s_b0 (fun _ => ?_) | ((fail_if_success refine g_lit rfl rfl rfl ?_); first | apply g_partM rfl rfl rfl | apply g_partMB rfl rfl rfl | fail))
    | refine gS ?_ | exact s_m | intro _ | refine r_seq ?_ | refine r_region ?_ | refine r_block ?_ | refine r_retc ?_ | refine r_exit ?_ | refine r_skip ?_
    | refine r_label ?_ | refine r_cond_true rfl ?_ | refine r_cond_false rfl ?_)
  refine g_loop (X := BkX X) (fun z => [(3, int ((z.i : Int) - 1)), (0, yv l), (1, ptr bx)]) (fun z => lp l r .ready none :: .row bx [.slice p n c] 47 :: M z.i z.x) (fun z => z.i ≤ n ∧ φ z.i z.x) (fun z => z.i) ⟨n, x0⟩ ⟨Nat.le_refl _, h0⟩ (by (repeat (first | exact FrSub.nil | refine FrSub.cons rfl ?_)); first | done | fail) (take_all _) (fun z hz => ?_)
  obtain ⟨i, x⟩ := z
  obtain ⟨hi, hx⟩ := hz
  dsimp only at hi hx ⊢
  repeat (first
    | (refine g_ops ?_; first | refine sO ?_ | refine s_n (fun _ => ?_) | refine s_app (fun _ _ => ?_) | refine s_b0 (fun _ => ?_) | ((fail_if_success refine g_lit rfl rfl rfl ?_); first | apply g_partM rfl rfl rfl | apply g_partMB rfl rfl rfl | fail))
    | refine gS ?_ | exact s_m | intro _ | refine r_seq ?_ | refine r_region ?_ | refine r_block ?_ | refine r_retc ?_ | refine r_exit ?_ | refine r_skip ?_
    | refine r_label ?_ | refine r_cond_true rfl ?_ | refine r_cond_false rfl ?_)
  refine g_cond_dec rfl (fun h => ?_) (fun h => ?_)
  · obtain ⟨i, rfl⟩ : ∃ j, i = j + 1 := ⟨i - 1, by omega⟩
    obtain ⟨b, o, C, R', rfl, hs, hrow⟩ := hr i x (by omega) hx
    have e1 : ((i + 1 : Nat) : Int) - 1 = (i : Int) := by omega
    rw [e1]
    repeat (first | refine g_skip ?_ | refine g_then_normal ?_ | refine g_seq ?_ | refine g_block ?_)
    refine g_regY (id := 3) 6 ?_
    dsimp only [List.take, List.drop]
    repeat (first
      | (refine g_ops ?_; first | refine sO ?_ | refine s_n (fun _ => ?_) | refine s_app (fun _ _ => ?_) | refine s_b0 (fun _ => ?_) | ((fail_if_success refine g_lit rfl rfl rfl ?_); first | apply g_partM rfl rfl rfl | apply g_partMB rfl rfl rfl | fail))
      | refine gS ?_ | exact s_m | intro _ | refine r_seq ?_ | refine r_region ?_ | refine r_block ?_ | refine r_retc ?_ | refine r_exit ?_ | refine r_skip ?_
      | refine r_label ?_ | refine r_cond_true rfl ?_ | refine r_cond_false rfl ?_)
    refine g_v (vs_loadR rfl (.there (.there hs)) (by simpa using hrow)) rfl rfl ?_
    refine g_nil ?_
    refine g_then_normal ?_
    refine g_yield (Y i x (by omega) hx) rfl rfl rfl (by (repeat (first | exact Evs.nil | refine Evs.cons rfl ?_)); first | done | fail) (by first | exact .cons .here (Take.under (take_all _)) | fail) (fun b' y hy => ?_)
    refine g_back ?_
    cases b' with
    | true =>
      refine g_weak (fr' := [(17, .bool true), (3, int i), (0, yv l), (1, ptr bx)]) (by (repeat (first | exact FrSub.nil | refine FrSub.cons rfl ?_)); first | done | fail) (fun h a => all_last (x := .row bx [.slice (some ⟨b, o, none⟩) n c] 47) a) ?_
      repeat (first
        | (refine g_ops ?_; first | refine sO ?_ | refine s_n (fun _ => ?_) | refine s_app (fun _ _ => ?_) | refine s_b0 (fun _ => ?_) | ((fail_if_success refine g_lit rfl rfl rfl ?_); first | apply g_partM rfl rfl rfl | apply g_partMB rfl rfl rfl | fail))
        | refine gS ?_ | exact s_m | intro _ | refine r_seq ?_ | refine r_region ?_ | refine r_block ?_ | refine r_retc ?_ | refine r_exit ?_ | refine r_skip ?_
        | refine r_label ?_ | refine r_cond_true rfl ?_ | refine r_cond_false rfl ?_)
      exact g_again ⟨i, y⟩ (Nat.lt_succ_self i) ⟨Nat.le_of_succ_le hi, hy⟩ (by (repeat (first | exact FrSub.nil | refine FrSub.cons rfl ?_)); first | done | fail) (take_all _)
    | false =>
      refine g_weak (fr' := [(17, .bool false), (0, yv l), (1, ptr bx)]) (by (repeat (first | exact FrSub.nil | refine FrSub.cons rfl ?_)); first | done | fail) (fun h a => all_last (x := .row bx [.slice (some ⟨b, o, none⟩) n c] 47) a) ?_
      repeat (first
        | (refine g_ops ?_; first | refine sO ?_ | refine s_n (fun _ => ?_) | refine s_app (fun _ _ => ?_) | refine s_b0 (fun _ => ?_) | ((fail_if_success refine g_lit rfl rfl rfl ?_); first | apply g_partM rfl rfl rfl | apply g_partMB rfl rfl rfl | fail))
        | refine gS ?_ | exact s_m | intro _ | refine r_seq ?_ | refine r_region ?_ | refine r_block ?_ | refine r_retc ?_ | refine r_exit ?_ | refine r_skip ?_
        | refine r_label ?_ | refine r_cond_true rfl ?_ | refine r_cond_false rfl ?_)
      exact g_ret (true, i, y) rfl (by (repeat (first | exact RVs.nil | apply RVs.tmp rfl | apply RVs.cellA rfl (by (repeat (first | exact Sel.here | apply Sel.there)); first | done | fail) (by (repeat (first | exact Cut.zero | apply Cut.take | apply Cut.skip)); first | done | fail) | apply RVs.cell1 rfl (by (repeat (first | exact Sel.here | apply Sel.there)); first | done | fail) rfl)); first | done | fail) (take_all _) rfl ⟨hy, hi⟩
  · obtain rfl : i = 0 := by omega
    repeat (first
      | (refine g_ops ?_; first | refine sO ?_ | refine s_n (fun _ => ?_) | refine s_app (fun _ _ => ?_) | refine s_b0 (fun _ => ?_) | ((fail_if_success refine g_lit rfl rfl rfl ?_); first | apply g_partM rfl rfl rfl | apply g_partMB rfl rfl rfl | fail))
      | refine gS ?_ | exact s_m | intro _ | refine r_seq ?_ | refine r_region ?_ | refine r_block ?_ | refine r_retc ?_ | refine r_exit ?_ | refine r_skip ?_
      | refine r_label ?_ | refine r_cond_true rfl ?_ | refine r_cond_false rfl ?_)
    exact g_end (false, 0, x) rfl (by (repeat (first | exact RVs.nil | apply RVs.tmp rfl | apply RVs.cellA rfl (by (repeat (first | exact Sel.here | apply Sel.there)); first | done | fail) (by (repeat (first | exact Cut.zero | apply Cut.take | apply Cut.skip)); first | done | fail) | apply RVs.cell1 rfl (by (repeat (first | exact Sel.here | apply Sel.there)); first | done | fail) rfl)); first | done | fail) (take_all _) rfl (by simpa using hx)
end
theorem backP (p : Option Addr) (n c : Nat) : Does Tryz.prog 28 [.slice p n c] [] (fun b : Nat => .func (.func 46) #[] [ptr b].toArray) (fun b => [.row b [.slice p n c] 56]) (fun _ => True) := by
  refine fn_intro Tryz.func28 rfl Tryz.ntmps28 rfl (by simp only [argFr, Nat.zero_add, Nat.reduceAdd]; rfl) (fun Γ => ?_)
  repeat (first
    | (refine g_ops ?_; first | refine sO ?_ | refine s_n (fun _ => ?_) | refine s_app (fun _ _ => ?_) | refine s_b0 (fun _ => ?_) | ((fail_if_success refine g_lit rfl rfl rfl ?_); first | apply g_partM rfl rfl rfl | apply g_partMB rfl rfl rfl | fail))
    | refine gS ?_ | exact s_m | intro _ | refine r_seq ?_ | refine r_region ?_ | refine r_block ?_ | refine r_retc ?_ | refine r_exit ?_ | refine r_skip ?_
    | refine r_label ?_ | refine r_cond_true rfl ?_ | refine r_cond_false rfl ?_)
  rename_i x
  refine s_q (q := by exact qs_makeFunc (vs := [ptr x]) (.cons rfl .nil)) ?_
  repeat (first
    | (refine g_ops ?_; first | refine sO ?_ | refine s_n (fun _ => ?_) | refine s_app (fun _ _ => ?_) | refine s_b0 (fun _ => ?_) | ((fail_if_success refine g_lit rfl rfl rfl ?_); first | apply g_partM rfl rfl rfl | apply g_partMB rfl rfl rfl | fail))
    | refine gS ?_ | exact s_m | intro _ | refine r_seq ?_ | refine r_region ?_ | refine r_block ?_ | refine r_retc ?_ | refine r_exit ?_ | refine r_skip ?_
    | refine r_label ?_ | refine r_cond_true rfl ?_ | refine r_cond_false rfl ?_)
  exact gR _ trivial
theorem backI (p : Option Addr) (n c : Nat) : Does Tryz.prog 60 [.slice p n c] [] (fun b : Nat => .func (.func 80) #[] [ptr b].toArray) (fun b => [.row b [.slice p n c] 47]) (fun _ => True) := by
  refine fn_intro Tryz.func60 rfl Tryz.ntmps60 rfl (by simp only [argFr, Nat.zero_add, Nat.reduceAdd]; rfl) (fun Γ => ?_)
  repeat (first
    | (refine g_ops ?_; first | refine sO ?_ | refine s_n (fun _ => ?_) | refine s_app (fun _ _ => ?_) | refine s_b0 (fun _ => ?_) | ((fail_if_success refine g_lit rfl rfl rfl ?_); first | apply g_partM rfl rfl rfl | apply g_partMB rfl rfl rfl | fail))
    | refine gS ?_ | exact s_m | intro _ | refine r_seq ?_ | refine r_region ?_ | refine r_block ?_ | refine r_retc ?_ | refine r_exit ?_ | refine r_skip ?_
    | refine r_label ?_ | refine r_cond_true rfl ?_ | refine r_cond_false rfl ?_)
  rename_i x
  refine s_q (q := by exact qs_makeFunc (vs := [ptr x]) (.cons rfl .nil)) ?_
  repeat (first
    | (refine g_ops ?_; first | refine sO ?_ | refine s_n (fun _ => ?_) | refine s_app (fun _ _ => ?_) | refine s_b0 (fun _ => ?_) | ((fail_if_success refine g_lit rfl rfl rfl ?_); first | apply g_partM rfl rfl rfl | apply g_partMB rfl rfl rfl | fail))
    | refine gS ?_ | exact s_m | intro _ | refine r_seq ?_ | refine r_region ?_ | refine r_block ?_ | refine r_retc ?_ | refine r_exit ?_ | refine r_skip ?_
    | refine r_label ?_ | refine r_cond_true rfl ?_ | refine r_cond_false rfl ?_)
  exact gR _ trivial
end Go.Proofs.YtdldgbbhagpofaaGreatDoor
