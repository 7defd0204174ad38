/- The law's walk: ClientPlays. -/
import Derived.Test.YtkejdilmdpgbpaaPlaL
set_option linter.unusedSimpArgs false
set_option linter.unusedVariables false
namespace Go.Proofs.Ytkejdilmdpgbpaa
open Go.Sl facts
structure PlX where
  i : Nat
  s : Cl
  mp : Option Nat
  M : List (Int × Value)
  fp : Option Addr
  fc : Nat
  fs : List Ev
  rp : Option Addr
  rc : Nat
  as_ : List Ans
  fp2 : Option Addr
  fc2 : Nat
  rp2 : Option Addr
  rc2 : Nat
  as2 : List Ans
  pp : Option Addr
  pc : Nat
  ps : List Po
  tp : Option Addr
  tc : Nat
  ts : List Int
  H : HP
abbrev PlX.L (b b2 : Nat) (y : PlX) : List Chunk := [clr b y.s y.mp y.fp y.fs.length y.fc y.rp y.as_.length y.rc, .own y.fp y.fs.length y.fc 7 (y.fs.flatMap Ev.cells) 53, .own y.rp y.as_.length y.rc 15 (y.as_.flatMap Ans.cells) 74,
  rrow b2 y.s y.fp2 y.fs.length y.fc2 y.rp2 y.as2.length y.rc2 y.pp y.ps.length y.pc y.tp y.ts.length y.tc, .own y.rp2 y.as2.length y.rc2 15 (y.as2.flatMap Ans.cells) 74, .own y.pp y.ps.length y.pc 6 (y.ps.flatMap Po.cells) 85, .own y.tp y.ts.length y.tc 1 (y.ts.map int) 3, Pile y.H] ++ mpL y.mp y.M
def bnd (n : Nat) : Nat := n * 10000
theorem bnd_succ (n : Nat) : bnd (n + 1) = bnd n + 10000 := Nat.succ_mul n 10000
theorem bnd_le {n : Nat} (h : n ≤ 150) : bnd n ≤ 1500000 := Nat.le_trans (Nat.mul_le_mul_right 10000 h) (by decide)
theorem bnd_zero : 0 ≤ bnd 0 := Nat.zero_le _
attribute [irreducible] bnd
structure PlX.Ok (H : HP) (n : Nat) (y : PlX) : Prop where
  hs : HP.sub H y.H
  inv : Inv y.s y.mp y.M y.ps y.ts
  last : 0 ≤ y.s.last ∧ y.s.last ≤ n
  fl : y.fs.length ≤ bnd n
  al : y.as_.length ≤ n
  pl : y.ps.length ≤ n
  tl : y.ts.length ≤ n
  d : y.as_.map Ans.d = y.as2.map Ans.d
  f2 : SlAt (Pile y.H) 7 y.fp2 y.fs.length (y.fs.flatMap Ev.cells)
  a1 : ∀ a ∈ y.as_, RpAt (Pile y.H) a.r
  a2 : ∀ a ∈ y.as2, RpAt (Pile y.H) a.r
attribute [local irreducible] Code.wp wpList Exit.then Exit.inBlock bodyPost Back MidQ G GP QStep VStep CStep SStep Does Post Reads
set_option maxHeartbeats 16000000 in
theorem plays {H : HP} (p : Option Addr) (cap : Nat) (l : List StV) (hS : StepsAt (Pile H) p l) (hlen : l.length ≤ 9223372036854775807) :
    Does1 Try.prog 7 [.slice p l.length cap] [Pile H] (.bool true) := by
  refine fn_intro Try.func7 rfl Try.ntmps7 rfl (by simp only [argFr, Nat.zero_add, Nat.reduceAdd]; rfl) (fun Γ => ?_)
  repeat (first
    | (refine g_ops ?_; first | refine s_q ?_ | refine s_v ?_ | refine s_s ?_ | refine s_n (fun _ => ?_) | refine s_x ?_ | refine s_y ?_ | refine s_mq ?_ | refine s_app (fun _ _ => ?_) | refine s_mv ?_ | refine s_ms ?_ | refine s_b0 (fun _ => ?_) | ((fail_if_success refine g_lit rfl rfl rfl ?_); first | apply g_partM rfl rfl rfl | apply g_partMB rfl rfl rfl | fail) | refine s_c (small p cap l hS hlen) (fun _ _ => ?_))
    | refine g_seq ?_ | refine g_region ?_ | refine g_nil ?_ | refine g_then_normal ?_ | refine g_block ?_ | refine g_in_normal ?_ | refine g_retc ?_ | refine g_then_ret ?_
    | refine g_in_ret ?_ | refine g_exit ?_ | refine g_then_exit ?_ | refine g_in_exit ?_ | refine g_in_other rfl ?_ | refine g_skip ?_ | refine g_label ?_
    | refine g_cond_true rfl ?_ | refine g_cond_false rfl ?_ | exact s_m | intro _)
  rename_i sm hsm
  refine g_cond rfl (fun h => ?_) (fun h => ?_)
  · repeat (first
      | (refine g_ops ?_; first | refine s_q ?_ | refine s_v ?_ | refine s_s ?_ | refine s_n (fun _ => ?_) | refine s_x ?_ | refine s_y ?_ | refine s_mq ?_ | refine s_app (fun _ _ => ?_) | refine s_mv ?_ | refine s_ms ?_ | refine s_b0 (fun _ => ?_) | ((fail_if_success refine g_lit rfl rfl rfl ?_); first | apply g_partM rfl rfl rfl | apply g_partMB rfl rfl rfl | fail) | refine s_k (awake) ?_)
      | refine g_seq ?_ | refine g_region ?_ | refine g_nil ?_ | refine g_then_normal ?_ | refine g_block ?_ | refine g_in_normal ?_ | refine g_retc ?_
      | refine g_then_ret ?_ | refine g_in_ret ?_ | refine g_exit ?_ | refine g_then_exit ?_ | refine g_in_exit ?_ | refine g_in_other rfl ?_ | refine g_skip ?_
      | refine g_label ?_ | refine g_cond_true rfl ?_ | refine g_cond_false rfl ?_ | exact s_m | intro _)
    exact s_r ()
  have hsml : Small l := hsm (by simpa using h)
  obtain ⟨hl150, hel⟩ := hsml
  repeat (first
    | (refine g_ops ?_; first | refine s_q ?_ | refine s_v ?_ | refine s_s ?_ | refine s_n (fun _ => ?_) | refine s_x ?_ | refine s_y ?_ | refine s_mq ?_ | refine s_app (fun _ _ => ?_) | refine s_mv ?_ | refine s_ms ?_ | refine s_b0 (fun _ => ?_) | ((fail_if_success refine g_lit rfl rfl rfl ?_); first | apply g_partM rfl rfl rfl | apply g_partMB rfl rfl rfl | fail) | refine s_c (new) (fun _ _ => ?_))
    | refine g_seq ?_ | refine g_region ?_ | refine g_nil ?_ | refine g_then_normal ?_ | refine g_block ?_ | refine g_in_normal ?_ | refine g_retc ?_ | refine g_then_ret ?_
    | refine g_in_ret ?_ | refine g_exit ?_ | refine g_then_exit ?_ | refine g_in_exit ?_ | refine g_in_other rfl ?_ | refine g_skip ?_ | refine g_label ?_
    | refine g_cond_true rfl ?_ | refine g_cond_false rfl ?_ | exact s_m | intro _)
  rename_i b _ b2
  refine g_own_nil none 15 74 ?_
  refine g_own_nil none 6 85 ?_
  refine g_own_nil none 1 3 ?_
  dsimp only [List.cons_append, List.nil_append]
  refine g_loop (X := PlX) (fun y => [(0, .slice p l.length cap), (2, .bool false), (3, ptr b), (4, ptr b2), (5, int y.i)]) (fun y => y.L b b2) (fun y => y.i ≤ l.length ∧ y.Ok H y.i) (fun y => l.length - y.i)
    ⟨0, ⟨0, S3.zero, Cur.zero⟩, none, [], none, 0, [], none, 0, [], none, 0, none, 0, [], none, 0, [], none, 0, [], H⟩ ⟨Nat.zero_le _, HP.sub.refl _, Inv.zero _ rfl, ⟨Int.le_refl _, Int.le_refl _⟩, Nat.zero_le _, Nat.zero_le _, Nat.zero_le _, Nat.zero_le _, rfl, SlAt.none, (fun a ha => by cases ha), (fun a ha => by cases ha)⟩ (by (repeat (first | exact FrSub.nil | refine FrSub.cons rfl ?_)); first | done | fail)
    (by dsimp only [PlX.L, mpL, List.cons_append, List.nil_append, List.append_nil]; exact (by (repeat (first | exact Take.nil | apply Take.cons | exact Sel.here | apply Sel.there)); first | done | fail)) (fun y hy => ?_)
  obtain ⟨i, s, mp, M, fp, fc, fs, rp, rc, as_, fp2, fc2, rp2, rc2, as2, pp, pc, ps, tp, tc, ts, H1⟩ := y
  obtain ⟨hi, hs, inv, hlast, hfl, hal, hpl, htl, hdd, hf2, ha1, ha2⟩ := hy
  dsimp only at hi hs inv hlast hfl hal hpl htl hdd hf2 ha1 ha2
  dsimp only [PlX.L]
  repeat (first
    | (refine g_ops ?_; first | refine s_q ?_ | refine s_v ?_ | refine s_s ?_ | refine s_n (fun _ => ?_) | refine s_x ?_ | refine s_y ?_ | refine s_mq ?_ | refine s_app (fun _ _ => ?_) | refine s_mv ?_ | refine s_ms ?_ | refine s_b0 (fun _ => ?_) | ((fail_if_success refine g_lit rfl rfl rfl ?_); first | apply g_partM rfl rfl rfl | apply g_partMB rfl rfl rfl | fail))
    | refine g_seq ?_ | refine g_region ?_ | refine g_nil ?_ | refine g_then_normal ?_ | refine g_block ?_ | refine g_in_normal ?_ | refine g_retc ?_ | refine g_then_ret ?_
    | refine g_in_ret ?_ | refine g_exit ?_ | refine g_then_exit ?_ | refine g_in_exit ?_ | refine g_in_other rfl ?_ | refine g_skip ?_ | refine g_label ?_
    | refine g_cond_true rfl ?_ | refine g_cond_false rfl ?_ | exact s_m | intro _)
  refine g_cond_dec rfl (fun h1 => ?_) (fun h1 => ?_)
  · have hi' : i < l.length := by omega
    obtain ⟨lb, lo, rfl, hcell⟩ := slAt_elem (hS.sl.grow hs) stv_len (by decide) (i := i) (a := l[i]) (by simp [hi'])
    have hAi := (hS.at_ l[i] (List.getElem_mem _)).grow hs
    obtain ⟨he1, he2, he3⟩ := hel l[i] (List.getElem_mem _)
    obtain ⟨x, hx⟩ : ∃ x, l[i] = x := ⟨_, rfl⟩
    rw [hx] at hcell hAi he1 he2 he3
    have hget : l[i]? = some x := by rw [← hx]; simp [hi']
    clear hx
    have hbs := bnd_succ i
    have hbl := bnd_le (n := i) (by omega)
    have hda : as2.length = as_.length := by simpa using (congrArg List.length hdd).symm
    repeat (first
      | (refine g_ops ?_; first | refine s_q ?_ | refine s_v ?_ | refine s_s ?_ | refine s_n (fun _ => ?_) | refine s_x ?_ | refine s_y ?_ | refine s_mq ?_ | refine s_app (fun _ _ => ?_) | refine s_mv ?_ | refine s_ms ?_ | refine s_b0 (fun _ => ?_) | ((fail_if_success refine g_lit rfl rfl rfl ?_); first | apply g_partM rfl rfl rfl | apply g_partMB rfl rfl rfl | fail))
      | refine g_seq ?_ | refine g_region ?_ | refine g_nil ?_ | refine g_then_normal ?_ | refine g_block ?_ | refine g_in_normal ?_ | refine g_retc ?_
      | refine g_then_ret ?_ | refine g_in_ret ?_ | refine g_exit ?_ | refine g_then_exit ?_ | refine g_in_exit ?_ | refine g_in_other rfl ?_ | refine g_skip ?_
      | refine g_label ?_ | refine g_cond_true rfl ?_ | refine g_cond_false rfl ?_ | exact s_m | intro _)
    refine g_cutX (X := PlX) (fun _ => [(0, .slice (some ⟨lb, lo, none⟩) l.length cap), (2, .bool false), (3, ptr b), (4, ptr b2), (5, int i)]) (fun y => y.L b b2) (fun y => y.Ok H (i + 1)) ?_ (fun y hy => ?_)
    · refine g_cond_dec rfl (fun h2 => ?_) (fun h2 => ?_)
      · cases mp with
        | none =>
          have hask := ask_ b s x.x none M inv.m0 fp fs.length fc rp as_.length rc ⟨by omega, by omega⟩ (c := x.bc) hAi.b rfl hAi.d hAi.bl hAi.dl
          have hrask := rask_ b2 s x.x fp2 fs.length fc2 rp2 as2.length rc2 pp pc ps tp ts.length tc x.bp x.ps.length x.bc ⟨by omega, by omega⟩ (by omega)
          dsimp only [mpL, List.cons_append, List.nil_append, List.append_nil] at hask ⊢
          repeat (first
            | (refine g_ops ?_; first | refine s_q ?_ | refine s_v ?_ | refine s_s ?_ | refine s_n (fun _ => ?_) | refine s_x ?_ | refine s_y ?_ | refine s_mq ?_ | refine s_app (fun _ _ => ?_) | refine s_mv ?_ | refine s_ms ?_ | refine s_b0 (fun _ => ?_) | ((fail_if_success refine g_lit rfl rfl rfl ?_); first | apply g_partM rfl rfl rfl | apply g_partMB rfl rfl rfl | fail) | refine s_c (hask) (fun _ _ => ?_))
            | refine g_seq ?_ | refine g_region ?_ | refine g_nil ?_ | refine g_then_normal ?_ | refine g_block ?_ | refine g_in_normal ?_ | refine g_retc ?_
            | refine g_then_ret ?_ | refine g_in_ret ?_ | refine g_exit ?_ | refine g_then_exit ?_ | refine g_in_exit ?_ | refine g_in_other rfl ?_ | refine g_skip ?_
            | refine g_label ?_ | refine g_cond_true rfl ?_ | refine g_cond_false rfl ?_ | exact s_m | intro _)
          rename_i y hy b6
          obtain ⟨q, H2, p2, c2, l2, pb⟩ := y
          obtain ⟨hyb, hys, hyat, hyl, hyd⟩ := hy
          dsimp only at hyb hys hyat hyl hyd ⊢
          subst hyb
          dsimp only [List.cons_append, List.nil_append]
          obtain ⟨lb', lo', e', hcell⟩ := slAt_elem (hS.sl.grow (hs.trans hys)) stv_len (by decide) hget
          cases e'
          repeat (first
            | (refine g_ops ?_; first | refine s_q ?_ | refine s_v ?_ | refine s_s ?_ | refine s_n (fun _ => ?_) | refine s_x ?_ | refine s_y ?_ | refine s_mq ?_ | refine s_app (fun _ _ => ?_) | refine s_mv ?_ | refine s_ms ?_ | refine s_b0 (fun _ => ?_) | ((fail_if_success refine g_lit rfl rfl rfl ?_); first | apply g_partM rfl rfl rfl | apply g_partMB rfl rfl rfl | fail) | refine s_c (hrask) (fun _ _ => ?_))
            | refine g_seq ?_ | refine g_region ?_ | refine g_nil ?_ | refine g_then_normal ?_ | refine g_block ?_ | refine g_in_normal ?_ | refine g_retc ?_
            | refine g_then_ret ?_ | refine g_in_ret ?_ | refine g_exit ?_ | refine g_then_exit ?_ | refine g_in_exit ?_ | refine g_in_other rfl ?_ | refine g_skip ?_
            | refine g_label ?_ | refine g_cond_true rfl ?_ | refine g_cond_false rfl ?_ | exact s_m | intro _)
          rename_i y2 _ b8
          obtain ⟨pp2, pc2⟩ := y2
          dsimp only [List.cons_append, List.nil_append]
          clear hcell
          have hsame := sameBatch (sent s x.x).key p2 x.bp c2 x.bc x.ps.length l2 x.ps x.ds hyat hyl hyd (hAi.b.grow hys) rfl (hAi.d.grow hys) hAi.bl hAi.dl
          repeat (first
            | (refine g_ops ?_; first | refine s_q ?_ | refine s_v ?_ | refine s_s ?_ | refine s_n (fun _ => ?_) | refine s_x ?_ | refine s_y ?_ | refine s_mq ?_ | refine s_app (fun _ _ => ?_) | refine s_mv ?_ | refine s_ms ?_ | refine s_b0 (fun _ => ?_) | ((fail_if_success refine g_lit rfl rfl rfl ?_); first | apply g_partM rfl rfl rfl | apply g_partMB rfl rfl rfl | fail))
            | refine g_seq ?_ | refine g_region ?_ | refine g_nil ?_ | refine g_then_normal ?_ | refine g_block ?_ | refine g_in_normal ?_ | refine g_retc ?_
            | refine g_then_ret ?_ | refine g_in_ret ?_ | refine g_exit ?_ | refine g_then_exit ?_ | refine g_in_exit ?_ | refine g_in_other rfl ?_ | refine g_skip ?_
            | refine g_label ?_ | refine g_cond_true rfl ?_ | refine g_cond_false rfl ?_ | exact s_m | intro _)
          refine g_as 54 (v' := .bool false) rfl (congrArg Value.bool (by simp)) ?_
          repeat (first
            | (refine g_ops ?_; first | refine s_q ?_ | refine s_v ?_ | refine s_s ?_ | refine s_n (fun _ => ?_) | refine s_x ?_ | refine s_y ?_ | refine s_mq ?_ | refine s_app (fun _ _ => ?_) | refine s_mv ?_ | refine s_ms ?_ | refine s_b0 (fun _ => ?_) | ((fail_if_success refine g_lit rfl rfl rfl ?_); first | apply g_partM rfl rfl rfl | apply g_partMB rfl rfl rfl | fail))
            | refine g_seq ?_ | refine g_region ?_ | refine g_nil ?_ | refine g_then_normal ?_ | refine g_block ?_ | refine g_in_normal ?_ | refine g_retc ?_
            | refine g_then_ret ?_ | refine g_in_ret ?_ | refine g_exit ?_ | refine g_then_exit ?_ | refine g_in_exit ?_ | refine g_in_other rfl ?_ | refine g_skip ?_
            | refine g_label ?_ | refine g_cond_true rfl ?_ | refine g_cond_false rfl ?_ | exact s_m | intro _)
          refine g_as 61 (v' := .bool false) rfl (congrArg Value.bool (by simp)) ?_
          repeat (first
            | (refine g_ops ?_; first | refine s_q ?_ | refine s_v ?_ | refine s_s ?_ | refine s_n (fun _ => ?_) | refine s_x ?_ | refine s_y ?_ | refine s_mq ?_ | refine s_app (fun _ _ => ?_) | refine s_mv ?_ | refine s_ms ?_ | refine s_b0 (fun _ => ?_) | ((fail_if_success refine g_lit rfl rfl rfl ?_); first | apply g_partM rfl rfl rfl | apply g_partMB rfl rfl rfl | fail))
            | refine g_seq ?_ | refine g_region ?_ | refine g_nil ?_ | refine g_then_normal ?_ | refine g_block ?_ | refine g_in_normal ?_ | refine g_retc ?_
            | refine g_then_ret ?_ | refine g_in_ret ?_ | refine g_exit ?_ | refine g_then_exit ?_ | refine g_in_exit ?_ | refine g_in_other rfl ?_ | refine g_skip ?_
            | refine g_label ?_ | refine g_cond_true rfl ?_ | refine g_cond_false rfl ?_ | exact s_m | intro _)
          refine g_as 68 (v' := .bool false) rfl (congrArg Value.bool (by simp)) ?_
          repeat (first
            | (refine g_ops ?_; first | refine s_q ?_ | refine s_v ?_ | refine s_s ?_ | refine s_n (fun _ => ?_) | refine s_x ?_ | refine s_y ?_ | refine s_mq ?_ | refine s_app (fun _ _ => ?_) | refine s_mv ?_ | refine s_ms ?_ | refine s_b0 (fun _ => ?_) | ((fail_if_success refine g_lit rfl rfl rfl ?_); first | apply g_partM rfl rfl rfl | apply g_partMB rfl rfl rfl | fail))
            | refine g_seq ?_ | refine g_region ?_ | refine g_nil ?_ | refine g_then_normal ?_ | refine g_block ?_ | refine g_in_normal ?_ | refine g_retc ?_
            | refine g_then_ret ?_ | refine g_in_ret ?_ | refine g_exit ?_ | refine g_then_exit ?_ | refine g_in_exit ?_ | refine g_in_other rfl ?_ | refine g_skip ?_
            | refine g_label ?_ | refine g_cond_true rfl ?_ | refine g_cond_false rfl ?_ | exact s_m | intro _)
          refine g_as 75 (v' := .bool false) rfl (congrArg Value.bool (by simp)) ?_
          repeat (first
            | (refine g_ops ?_; first | refine s_q ?_ | refine s_v ?_ | refine s_s ?_ | refine s_n (fun _ => ?_) | refine s_x ?_ | refine s_y ?_ | refine s_mq ?_ | refine s_app (fun _ _ => ?_) | refine s_mv ?_ | refine s_ms ?_ | refine s_b0 (fun _ => ?_) | ((fail_if_success refine g_lit rfl rfl rfl ?_); first | apply g_partM rfl rfl rfl | apply g_partMB rfl rfl rfl | fail))
            | refine g_seq ?_ | refine g_region ?_ | refine g_nil ?_ | refine g_then_normal ?_ | refine g_block ?_ | refine g_in_normal ?_ | refine g_retc ?_
            | refine g_then_ret ?_ | refine g_in_ret ?_ | refine g_exit ?_ | refine g_then_exit ?_ | refine g_in_exit ?_ | refine g_in_other rfl ?_ | refine g_skip ?_
            | refine g_label ?_ | refine g_cond_true rfl ?_ | refine g_cond_false rfl ?_ | exact s_m | intro _)
          refine g_as 82 (v' := .bool false) rfl (congrArg Value.bool (by simp)) ?_
          repeat (first
            | (refine g_ops ?_; first | refine s_q ?_ | refine s_v ?_ | refine s_s ?_ | refine s_n (fun _ => ?_) | refine s_x ?_ | refine s_y ?_ | refine s_mq ?_ | refine s_app (fun _ _ => ?_) | refine s_mv ?_ | refine s_ms ?_ | refine s_b0 (fun _ => ?_) | ((fail_if_success refine g_lit rfl rfl rfl ?_); first | apply g_partM rfl rfl rfl | apply g_partMB rfl rfl rfl | fail))
            | refine g_seq ?_ | refine g_region ?_ | refine g_nil ?_ | refine g_then_normal ?_ | refine g_block ?_ | refine g_in_normal ?_ | refine g_retc ?_
            | refine g_then_ret ?_ | refine g_in_ret ?_ | refine g_exit ?_ | refine g_then_exit ?_ | refine g_in_exit ?_ | refine g_in_other rfl ?_ | refine g_skip ?_
            | refine g_label ?_ | refine g_cond_true rfl ?_ | refine g_cond_false rfl ?_ | exact s_m | intro _)
          refine g_as 89 (v' := .bool false) rfl (congrArg Value.bool (by simp)) ?_
          repeat (first
            | (refine g_ops ?_; first | refine s_q ?_ | refine s_v ?_ | refine s_s ?_ | refine s_n (fun _ => ?_) | refine s_x ?_ | refine s_y ?_ | refine s_mq ?_ | refine s_app (fun _ _ => ?_) | refine s_mv ?_ | refine s_ms ?_ | refine s_b0 (fun _ => ?_) | ((fail_if_success refine g_lit rfl rfl rfl ?_); first | apply g_partM rfl rfl rfl | apply g_partMB rfl rfl rfl | fail))
            | refine g_seq ?_ | refine g_region ?_ | refine g_nil ?_ | refine g_then_normal ?_ | refine g_block ?_ | refine g_in_normal ?_ | refine g_retc ?_
            | refine g_then_ret ?_ | refine g_in_ret ?_ | refine g_exit ?_ | refine g_then_exit ?_ | refine g_in_exit ?_ | refine g_in_other rfl ?_ | refine g_skip ?_
            | refine g_label ?_ | refine g_cond_true rfl ?_ | refine g_cond_false rfl ?_ | exact s_m | intro _)
          refine g_as 96 (v' := .bool false) rfl (congrArg Value.bool (by simp)) ?_
          repeat (first
            | (refine g_ops ?_; first | refine s_q ?_ | refine s_v ?_ | refine s_s ?_ | refine s_n (fun _ => ?_) | refine s_x ?_ | refine s_y ?_ | refine s_mq ?_ | refine s_app (fun _ _ => ?_) | refine s_mv ?_ | refine s_ms ?_ | refine s_b0 (fun _ => ?_) | ((fail_if_success refine g_lit rfl rfl rfl ?_); first | apply g_partM rfl rfl rfl | apply g_partMB rfl rfl rfl | fail))
            | refine g_seq ?_ | refine g_region ?_ | refine g_nil ?_ | refine g_then_normal ?_ | refine g_block ?_ | refine g_in_normal ?_ | refine g_retc ?_
            | refine g_then_ret ?_ | refine g_in_ret ?_ | refine g_exit ?_ | refine g_then_exit ?_ | refine g_in_exit ?_ | refine g_in_other rfl ?_ | refine g_skip ?_
            | refine g_label ?_ | refine g_cond_true rfl ?_ | refine g_cond_false rfl ?_ | exact s_m | intro _)
          refine g_as 103 (v' := .bool false) rfl (congrArg Value.bool (by simp)) ?_
          repeat (first
            | (refine g_ops ?_; first | refine s_q ?_ | refine s_v ?_ | refine s_s ?_ | refine s_n (fun _ => ?_) | refine s_x ?_ | refine s_y ?_ | refine s_mq ?_ | refine s_app (fun _ _ => ?_) | refine s_mv ?_ | refine s_ms ?_ | refine s_b0 (fun _ => ?_) | ((fail_if_success refine g_lit rfl rfl rfl ?_); first | apply g_partM rfl rfl rfl | apply g_partMB rfl rfl rfl | fail))
            | refine g_seq ?_ | refine g_region ?_ | refine g_nil ?_ | refine g_then_normal ?_ | refine g_block ?_ | refine g_in_normal ?_ | refine g_retc ?_
            | refine g_then_ret ?_ | refine g_in_ret ?_ | refine g_exit ?_ | refine g_then_exit ?_ | refine g_in_exit ?_ | refine g_in_other rfl ?_ | refine g_skip ?_
            | refine g_label ?_ | refine g_cond_true rfl ?_ | refine g_cond_false rfl ?_ | exact s_m | intro _)
          refine g_as 110 (v' := .bool false) rfl (congrArg Value.bool (by simp)) ?_
          repeat (first
            | (refine g_ops ?_; first | refine s_q ?_ | refine s_v ?_ | refine s_s ?_ | refine s_n (fun _ => ?_) | refine s_x ?_ | refine s_y ?_ | refine s_mq ?_ | refine s_app (fun _ _ => ?_) | refine s_mv ?_ | refine s_ms ?_ | refine s_b0 (fun _ => ?_) | ((fail_if_success refine g_lit rfl rfl rfl ?_); first | apply g_partM rfl rfl rfl | apply g_partMB rfl rfl rfl | fail))
            | refine g_seq ?_ | refine g_region ?_ | refine g_nil ?_ | refine g_then_normal ?_ | refine g_block ?_ | refine g_in_normal ?_ | refine g_retc ?_
            | refine g_then_ret ?_ | refine g_in_ret ?_ | refine g_exit ?_ | refine g_then_exit ?_ | refine g_in_exit ?_ | refine g_in_other rfl ?_ | refine g_skip ?_
            | refine g_label ?_ | refine g_cond_true rfl ?_ | refine g_cond_false rfl ?_ | exact s_m | intro _)
          refine g_as 117 (v' := .bool false) rfl (congrArg Value.bool (by simp)) ?_
          repeat (first
            | (refine g_ops ?_; first | refine s_q ?_ | refine s_v ?_ | refine s_s ?_ | refine s_n (fun _ => ?_) | refine s_x ?_ | refine s_y ?_ | refine s_mq ?_ | refine s_app (fun _ _ => ?_) | refine s_mv ?_ | refine s_ms ?_ | refine s_b0 (fun _ => ?_) | ((fail_if_success refine g_lit rfl rfl rfl ?_); first | apply g_partM rfl rfl rfl | apply g_partMB rfl rfl rfl | fail) | refine s_k (hsame) ?_)
            | refine g_seq ?_ | refine g_region ?_ | refine g_nil ?_ | refine g_then_normal ?_ | refine g_block ?_ | refine g_in_normal ?_ | refine g_retc ?_
            | refine g_then_ret ?_ | refine g_in_ret ?_ | refine g_exit ?_ | refine g_then_exit ?_ | refine g_in_exit ?_ | refine g_in_other rfl ?_ | refine g_skip ?_
            | refine g_label ?_ | refine g_cond_true rfl ?_ | refine g_cond_false rfl ?_ | exact s_m | intro _)
          have hapl : (ps ++ askP s x.x).length ≤ i + 1 := by
            rw [List.length_append]
            have : (askP s x.x).length ≤ 1 := by unfold askP; split <;> simp
            omega
          have hfl1 : fs.length ≤ bnd (i + 1) := by omega
          have hal1 : as_.length ≤ i + 1 := by omega
          have htl1 : ts.length ≤ i + 1 := by omega
          exact g_midX (⟨i, { s with last := s.last + 1 }, some q, _, fp, fc, fs, rp, rc, as_, fp2, fc2, rp2, rc2, as2, pp2, pc2, ps ++ askP s x.x, tp, tc, ts, H2⟩ : PlX) ⟨hs.trans hys, inv.ask x.x q hlast.1, ⟨by dsimp only; omega, by dsimp only; push_cast; omega⟩, hfl1, hal1, hapl, htl1, hdd, hf2.grow hys, fun a ha => (ha1 a ha).grow hys, fun a ha => (ha2 a ha).grow hys⟩ (by (repeat (first | exact FrSub.nil | refine FrSub.cons rfl ?_)); first | done | fail) (by dsimp only [PlX.L, mpL, List.cons_append, List.nil_append, List.append_nil]; exact (by (repeat (first | exact Take.nil | apply Take.cons | exact Sel.here | apply Sel.there)); first | done | fail))
        | some m =>
          have hask := ask_ b s x.x (some m) M inv.m0 fp fs.length fc rp as_.length rc ⟨by omega, by omega⟩ (c := x.bc) hAi.b rfl hAi.d hAi.bl hAi.dl
          have hrask := rask_ b2 s x.x fp2 fs.length fc2 rp2 as2.length rc2 pp pc ps tp ts.length tc x.bp x.ps.length x.bc ⟨by omega, by omega⟩ (by omega)
          dsimp only [mpL, List.cons_append, List.nil_append, List.append_nil] at hask ⊢
          repeat (first
            | (refine g_ops ?_; first | refine s_q ?_ | refine s_v ?_ | refine s_s ?_ | refine s_n (fun _ => ?_) | refine s_x ?_ | refine s_y ?_ | refine s_mq ?_ | refine s_app (fun _ _ => ?_) | refine s_mv ?_ | refine s_ms ?_ | refine s_b0 (fun _ => ?_) | ((fail_if_success refine g_lit rfl rfl rfl ?_); first | apply g_partM rfl rfl rfl | apply g_partMB rfl rfl rfl | fail) | refine s_c (hask) (fun _ _ => ?_))
            | refine g_seq ?_ | refine g_region ?_ | refine g_nil ?_ | refine g_then_normal ?_ | refine g_block ?_ | refine g_in_normal ?_ | refine g_retc ?_
            | refine g_then_ret ?_ | refine g_in_ret ?_ | refine g_exit ?_ | refine g_then_exit ?_ | refine g_in_exit ?_ | refine g_in_other rfl ?_ | refine g_skip ?_
            | refine g_label ?_ | refine g_cond_true rfl ?_ | refine g_cond_false rfl ?_ | exact s_m | intro _)
          rename_i y hy b6
          obtain ⟨q, H2, p2, c2, l2, pb⟩ := y
          obtain ⟨hyb, hys, hyat, hyl, hyd⟩ := hy
          dsimp only at hyb hys hyat hyl hyd ⊢
          subst hyb
          dsimp only [List.cons_append, List.nil_append]
          obtain ⟨lb', lo', e', hcell⟩ := slAt_elem (hS.sl.grow (hs.trans hys)) stv_len (by decide) hget
          cases e'
          repeat (first
            | (refine g_ops ?_; first | refine s_q ?_ | refine s_v ?_ | refine s_s ?_ | refine s_n (fun _ => ?_) | refine s_x ?_ | refine s_y ?_ | refine s_mq ?_ | refine s_app (fun _ _ => ?_) | refine s_mv ?_ | refine s_ms ?_ | refine s_b0 (fun _ => ?_) | ((fail_if_success refine g_lit rfl rfl rfl ?_); first | apply g_partM rfl rfl rfl | apply g_partMB rfl rfl rfl | fail) | refine s_c (hrask) (fun _ _ => ?_))
            | refine g_seq ?_ | refine g_region ?_ | refine g_nil ?_ | refine g_then_normal ?_ | refine g_block ?_ | refine g_in_normal ?_ | refine g_retc ?_
            | refine g_then_ret ?_ | refine g_in_ret ?_ | refine g_exit ?_ | refine g_then_exit ?_ | refine g_in_exit ?_ | refine g_in_other rfl ?_ | refine g_skip ?_
            | refine g_label ?_ | refine g_cond_true rfl ?_ | refine g_cond_false rfl ?_ | exact s_m | intro _)
          rename_i y2 _ b8
          obtain ⟨pp2, pc2⟩ := y2
          dsimp only [List.cons_append, List.nil_append]
          clear hcell
          have hsame := sameBatch (sent s x.x).key p2 x.bp c2 x.bc x.ps.length l2 x.ps x.ds hyat hyl hyd (hAi.b.grow hys) rfl (hAi.d.grow hys) hAi.bl hAi.dl
          repeat (first
            | (refine g_ops ?_; first | refine s_q ?_ | refine s_v ?_ | refine s_s ?_ | refine s_n (fun _ => ?_) | refine s_x ?_ | refine s_y ?_ | refine s_mq ?_ | refine s_app (fun _ _ => ?_) | refine s_mv ?_ | refine s_ms ?_ | refine s_b0 (fun _ => ?_) | ((fail_if_success refine g_lit rfl rfl rfl ?_); first | apply g_partM rfl rfl rfl | apply g_partMB rfl rfl rfl | fail))
            | refine g_seq ?_ | refine g_region ?_ | refine g_nil ?_ | refine g_then_normal ?_ | refine g_block ?_ | refine g_in_normal ?_ | refine g_retc ?_
            | refine g_then_ret ?_ | refine g_in_ret ?_ | refine g_exit ?_ | refine g_then_exit ?_ | refine g_in_exit ?_ | refine g_in_other rfl ?_ | refine g_skip ?_
            | refine g_label ?_ | refine g_cond_true rfl ?_ | refine g_cond_false rfl ?_ | exact s_m | intro _)
          refine g_as 54 (v' := .bool false) rfl (congrArg Value.bool (by simp)) ?_
          repeat (first
            | (refine g_ops ?_; first | refine s_q ?_ | refine s_v ?_ | refine s_s ?_ | refine s_n (fun _ => ?_) | refine s_x ?_ | refine s_y ?_ | refine s_mq ?_ | refine s_app (fun _ _ => ?_) | refine s_mv ?_ | refine s_ms ?_ | refine s_b0 (fun _ => ?_) | ((fail_if_success refine g_lit rfl rfl rfl ?_); first | apply g_partM rfl rfl rfl | apply g_partMB rfl rfl rfl | fail))
            | refine g_seq ?_ | refine g_region ?_ | refine g_nil ?_ | refine g_then_normal ?_ | refine g_block ?_ | refine g_in_normal ?_ | refine g_retc ?_
            | refine g_then_ret ?_ | refine g_in_ret ?_ | refine g_exit ?_ | refine g_then_exit ?_ | refine g_in_exit ?_ | refine g_in_other rfl ?_ | refine g_skip ?_
            | refine g_label ?_ | refine g_cond_true rfl ?_ | refine g_cond_false rfl ?_ | exact s_m | intro _)
          refine g_as 61 (v' := .bool false) rfl (congrArg Value.bool (by simp)) ?_
          repeat (first
            | (refine g_ops ?_; first | refine s_q ?_ | refine s_v ?_ | refine s_s ?_ | refine s_n (fun _ => ?_) | refine s_x ?_ | refine s_y ?_ | refine s_mq ?_ | refine s_app (fun _ _ => ?_) | refine s_mv ?_ | refine s_ms ?_ | refine s_b0 (fun _ => ?_) | ((fail_if_success refine g_lit rfl rfl rfl ?_); first | apply g_partM rfl rfl rfl | apply g_partMB rfl rfl rfl | fail))
            | refine g_seq ?_ | refine g_region ?_ | refine g_nil ?_ | refine g_then_normal ?_ | refine g_block ?_ | refine g_in_normal ?_ | refine g_retc ?_
            | refine g_then_ret ?_ | refine g_in_ret ?_ | refine g_exit ?_ | refine g_then_exit ?_ | refine g_in_exit ?_ | refine g_in_other rfl ?_ | refine g_skip ?_
            | refine g_label ?_ | refine g_cond_true rfl ?_ | refine g_cond_false rfl ?_ | exact s_m | intro _)
          refine g_as 68 (v' := .bool false) rfl (congrArg Value.bool (by simp)) ?_
          repeat (first
            | (refine g_ops ?_; first | refine s_q ?_ | refine s_v ?_ | refine s_s ?_ | refine s_n (fun _ => ?_) | refine s_x ?_ | refine s_y ?_ | refine s_mq ?_ | refine s_app (fun _ _ => ?_) | refine s_mv ?_ | refine s_ms ?_ | refine s_b0 (fun _ => ?_) | ((fail_if_success refine g_lit rfl rfl rfl ?_); first | apply g_partM rfl rfl rfl | apply g_partMB rfl rfl rfl | fail))
            | refine g_seq ?_ | refine g_region ?_ | refine g_nil ?_ | refine g_then_normal ?_ | refine g_block ?_ | refine g_in_normal ?_ | refine g_retc ?_
            | refine g_then_ret ?_ | refine g_in_ret ?_ | refine g_exit ?_ | refine g_then_exit ?_ | refine g_in_exit ?_ | refine g_in_other rfl ?_ | refine g_skip ?_
            | refine g_label ?_ | refine g_cond_true rfl ?_ | refine g_cond_false rfl ?_ | exact s_m | intro _)
          refine g_as 75 (v' := .bool false) rfl (congrArg Value.bool (by simp)) ?_
          repeat (first
            | (refine g_ops ?_; first | refine s_q ?_ | refine s_v ?_ | refine s_s ?_ | refine s_n (fun _ => ?_) | refine s_x ?_ | refine s_y ?_ | refine s_mq ?_ | refine s_app (fun _ _ => ?_) | refine s_mv ?_ | refine s_ms ?_ | refine s_b0 (fun _ => ?_) | ((fail_if_success refine g_lit rfl rfl rfl ?_); first | apply g_partM rfl rfl rfl | apply g_partMB rfl rfl rfl | fail))
            | refine g_seq ?_ | refine g_region ?_ | refine g_nil ?_ | refine g_then_normal ?_ | refine g_block ?_ | refine g_in_normal ?_ | refine g_retc ?_
            | refine g_then_ret ?_ | refine g_in_ret ?_ | refine g_exit ?_ | refine g_then_exit ?_ | refine g_in_exit ?_ | refine g_in_other rfl ?_ | refine g_skip ?_
            | refine g_label ?_ | refine g_cond_true rfl ?_ | refine g_cond_false rfl ?_ | exact s_m | intro _)
          refine g_as 82 (v' := .bool false) rfl (congrArg Value.bool (by simp)) ?_
          repeat (first
            | (refine g_ops ?_; first | refine s_q ?_ | refine s_v ?_ | refine s_s ?_ | refine s_n (fun _ => ?_) | refine s_x ?_ | refine s_y ?_ | refine s_mq ?_ | refine s_app (fun _ _ => ?_) | refine s_mv ?_ | refine s_ms ?_ | refine s_b0 (fun _ => ?_) | ((fail_if_success refine g_lit rfl rfl rfl ?_); first | apply g_partM rfl rfl rfl | apply g_partMB rfl rfl rfl | fail))
            | refine g_seq ?_ | refine g_region ?_ | refine g_nil ?_ | refine g_then_normal ?_ | refine g_block ?_ | refine g_in_normal ?_ | refine g_retc ?_
            | refine g_then_ret ?_ | refine g_in_ret ?_ | refine g_exit ?_ | refine g_then_exit ?_ | refine g_in_exit ?_ | refine g_in_other rfl ?_ | refine g_skip ?_
            | refine g_label ?_ | refine g_cond_true rfl ?_ | refine g_cond_false rfl ?_ | exact s_m | intro _)
          refine g_as 89 (v' := .bool false) rfl (congrArg Value.bool (by simp)) ?_
          repeat (first
            | (refine g_ops ?_; first | refine s_q ?_ | refine s_v ?_ | refine s_s ?_ | refine s_n (fun _ => ?_) | refine s_x ?_ | refine s_y ?_ | refine s_mq ?_ | refine s_app (fun _ _ => ?_) | refine s_mv ?_ | refine s_ms ?_ | refine s_b0 (fun _ => ?_) | ((fail_if_success refine g_lit rfl rfl rfl ?_); first | apply g_partM rfl rfl rfl | apply g_partMB rfl rfl rfl | fail))
            | refine g_seq ?_ | refine g_region ?_ | refine g_nil ?_ | refine g_then_normal ?_ | refine g_block ?_ | refine g_in_normal ?_ | refine g_retc ?_
            | refine g_then_ret ?_ | refine g_in_ret ?_ | refine g_exit ?_ | refine g_then_exit ?_ | refine g_in_exit ?_ | refine g_in_other rfl ?_ | refine g_skip ?_
            | refine g_label ?_ | refine g_cond_true rfl ?_ | refine g_cond_false rfl ?_ | exact s_m | intro _)
          refine g_as 96 (v' := .bool false) rfl (congrArg Value.bool (by simp)) ?_
          repeat (first
            | (refine g_ops ?_; first | refine s_q ?_ | refine s_v ?_ | refine s_s ?_ | refine s_n (fun _ => ?_) | refine s_x ?_ | refine s_y ?_ | refine s_mq ?_ | refine s_app (fun _ _ => ?_) | refine s_mv ?_ | refine s_ms ?_ | refine s_b0 (fun _ => ?_) | ((fail_if_success refine g_lit rfl rfl rfl ?_); first | apply g_partM rfl rfl rfl | apply g_partMB rfl rfl rfl | fail))
            | refine g_seq ?_ | refine g_region ?_ | refine g_nil ?_ | refine g_then_normal ?_ | refine g_block ?_ | refine g_in_normal ?_ | refine g_retc ?_
            | refine g_then_ret ?_ | refine g_in_ret ?_ | refine g_exit ?_ | refine g_then_exit ?_ | refine g_in_exit ?_ | refine g_in_other rfl ?_ | refine g_skip ?_
            | refine g_label ?_ | refine g_cond_true rfl ?_ | refine g_cond_false rfl ?_ | exact s_m | intro _)
          refine g_as 103 (v' := .bool false) rfl (congrArg Value.bool (by simp)) ?_
          repeat (first
            | (refine g_ops ?_; first | refine s_q ?_ | refine s_v ?_ | refine s_s ?_ | refine s_n (fun _ => ?_) | refine s_x ?_ | refine s_y ?_ | refine s_mq ?_ | refine s_app (fun _ _ => ?_) | refine s_mv ?_ | refine s_ms ?_ | refine s_b0 (fun _ => ?_) | ((fail_if_success refine g_lit rfl rfl rfl ?_); first | apply g_partM rfl rfl rfl | apply g_partMB rfl rfl rfl | fail))
            | refine g_seq ?_ | refine g_region ?_ | refine g_nil ?_ | refine g_then_normal ?_ | refine g_block ?_ | refine g_in_normal ?_ | refine g_retc ?_
            | refine g_then_ret ?_ | refine g_in_ret ?_ | refine g_exit ?_ | refine g_then_exit ?_ | refine g_in_exit ?_ | refine g_in_other rfl ?_ | refine g_skip ?_
            | refine g_label ?_ | refine g_cond_true rfl ?_ | refine g_cond_false rfl ?_ | exact s_m | intro _)
          refine g_as 110 (v' := .bool false) rfl (congrArg Value.bool (by simp)) ?_
          repeat (first
            | (refine g_ops ?_; first | refine s_q ?_ | refine s_v ?_ | refine s_s ?_ | refine s_n (fun _ => ?_) | refine s_x ?_ | refine s_y ?_ | refine s_mq ?_ | refine s_app (fun _ _ => ?_) | refine s_mv ?_ | refine s_ms ?_ | refine s_b0 (fun _ => ?_) | ((fail_if_success refine g_lit rfl rfl rfl ?_); first | apply g_partM rfl rfl rfl | apply g_partMB rfl rfl rfl | fail))
            | refine g_seq ?_ | refine g_region ?_ | refine g_nil ?_ | refine g_then_normal ?_ | refine g_block ?_ | refine g_in_normal ?_ | refine g_retc ?_
            | refine g_then_ret ?_ | refine g_in_ret ?_ | refine g_exit ?_ | refine g_then_exit ?_ | refine g_in_exit ?_ | refine g_in_other rfl ?_ | refine g_skip ?_
            | refine g_label ?_ | refine g_cond_true rfl ?_ | refine g_cond_false rfl ?_ | exact s_m | intro _)
          refine g_as 117 (v' := .bool false) rfl (congrArg Value.bool (by simp)) ?_
          repeat (first
            | (refine g_ops ?_; first | refine s_q ?_ | refine s_v ?_ | refine s_s ?_ | refine s_n (fun _ => ?_) | refine s_x ?_ | refine s_y ?_ | refine s_mq ?_ | refine s_app (fun _ _ => ?_) | refine s_mv ?_ | refine s_ms ?_ | refine s_b0 (fun _ => ?_) | ((fail_if_success refine g_lit rfl rfl rfl ?_); first | apply g_partM rfl rfl rfl | apply g_partMB rfl rfl rfl | fail) | refine s_k (hsame) ?_)
            | refine g_seq ?_ | refine g_region ?_ | refine g_nil ?_ | refine g_then_normal ?_ | refine g_block ?_ | refine g_in_normal ?_ | refine g_retc ?_
            | refine g_then_ret ?_ | refine g_in_ret ?_ | refine g_exit ?_ | refine g_then_exit ?_ | refine g_in_exit ?_ | refine g_in_other rfl ?_ | refine g_skip ?_
            | refine g_label ?_ | refine g_cond_true rfl ?_ | refine g_cond_false rfl ?_ | exact s_m | intro _)
          have hapl : (ps ++ askP s x.x).length ≤ i + 1 := by
            rw [List.length_append]
            have : (askP s x.x).length ≤ 1 := by unfold askP; split <;> simp
            omega
          have hfl1 : fs.length ≤ bnd (i + 1) := by omega
          have hal1 : as_.length ≤ i + 1 := by omega
          have htl1 : ts.length ≤ i + 1 := by omega
          exact g_midX (⟨i, { s with last := s.last + 1 }, some q, _, fp, fc, fs, rp, rc, as_, fp2, fc2, rp2, rc2, as2, pp2, pc2, ps ++ askP s x.x, tp, tc, ts, H2⟩ : PlX) ⟨hs.trans hys, inv.ask x.x q hlast.1, ⟨by dsimp only; omega, by dsimp only; push_cast; omega⟩, hfl1, hal1, hapl, htl1, hdd, hf2.grow hys, fun a ha => (ha1 a ha).grow hys, fun a ha => (ha2 a ha).grow hys⟩ (by (repeat (first | exact FrSub.nil | refine FrSub.cons rfl ?_)); first | done | fail) (by dsimp only [PlX.L, mpL, List.cons_append, List.nil_append, List.append_nil]; exact (by (repeat (first | exact Take.nil | apply Take.cons | exact Sel.here | apply Sel.there)); first | done | fail))
      · cases mp with
        | none =>
          by_cases hn : x.n < 1 ∨ s.last < x.n ∨ x.n ∈ ts
          · have htn := take_no b s none M fp fs.length fc rp as_.length rc x.n x.r (inv.no _ hn)
            have hrn := rtake_no b2 s fp2 fs.length fc2 rp2 as2.length rc2 pp ps.length pc tp tc ts x.n x.r hn (by omega)
            dsimp only [mpL, List.cons_append, List.nil_append, List.append_nil] at htn ⊢
            repeat (first
              | (refine g_ops ?_; first | refine s_q ?_ | refine s_v ?_ | refine s_s ?_ | refine s_n (fun _ => ?_) | refine s_x ?_ | refine s_y ?_ | refine s_mq ?_ | refine s_app (fun _ _ => ?_) | refine s_mv ?_ | refine s_ms ?_ | refine s_b0 (fun _ => ?_) | ((fail_if_success refine g_lit rfl rfl rfl ?_); first | apply g_partM rfl rfl rfl | apply g_partMB rfl rfl rfl | fail))
              | apply g_regB (id := 11) 124 | refine g_seq ?_ | refine g_region ?_ | refine g_nil ?_ | refine g_then_normal ?_ | refine g_block ?_ | refine g_in_normal ?_
              | refine g_retc ?_ | refine g_then_ret ?_ | refine g_in_ret ?_ | refine g_exit ?_ | refine g_then_exit ?_ | refine g_in_exit ?_ | refine g_in_other rfl ?_
              | refine g_skip ?_ | refine g_label ?_ | refine g_cond_true rfl ?_ | refine g_cond_false rfl ?_ | exact s_m | intro _ | (refine gp_take ?_; first | refine p_q ?_ | refine p_x ?_ | refine p_mq ?_ | ((fail_if_success refine gp_lit rfl rfl rfl rfl ?_); first | apply gp_guard_dec rfl rfl rfl rfl | apply gp_guard rfl rfl rfl rfl | fail))
              | (refine gp_see ?_; first | refine p_f ?_ | refine p_sx ?_ | ((fail_if_success refine gp_lit rfl rfl rfl rfl ?_); first | apply gp_guard_dec rfl rfl rfl rfl | apply gp_guard rfl rfl rfl rfl | fail) | refine p_sq ?_)
              | (refine gp_one ?_; first | refine p_v ?_ | refine p_s ?_ | refine p_n (fun _ => ?_) | refine p_y ?_ | refine p_app (fun _ _ => ?_) | refine p_mv ?_ | refine p_ms ?_ | refine p_b0 (fun _ => ?_) | ((fail_if_success refine gp_lit rfl rfl rfl rfl ?_); first | apply gp_guard_dec rfl rfl rfl rfl | apply gp_guard rfl rfl rfl rfl | fail))
              | refine gp_two ?_ ?_ | refine gp_done hd hk ?_ | intro _ | refine p_ta hd hk (fun _ _ _ hd hk => ?_) | refine p_ts hd hk (fun _ hd hk => ?_))
            refine g_draw (.take 0 (.take 1 (.take 2 (.take 3 (.take 4 (.see 5 [] (.take 6 (.take 7 (.take 8 (.take 9 (.see 10 [] (.take 12 (.take 13 (.take 14 (.take 15 (.take 16 (.see 17 [] (.take 18 (.take 19 (.take 20 (.take 21 (.see 22 [] (.one 11 (.one 23 (.take 24 .done))))))))))))))))))))))))) (by kernel_rfl) (C := [Pile H1]) (by (repeat (first | exact Take.nil | apply Take.cons | exact Sel.here | apply Sel.there)); first | done | fail) (fun k hd hk => ?_)
            repeat (first
              | (refine gp_take ?_; first | refine p_q ?_ | refine p_x ?_ | refine p_mq ?_ | ((fail_if_success refine gp_lit rfl rfl rfl rfl ?_); first | apply gp_guard_dec rfl rfl rfl rfl | apply gp_guard rfl rfl rfl rfl | fail))
              | (refine gp_see ?_; first | refine p_f ?_ | refine p_sx ?_ | ((fail_if_success refine gp_lit rfl rfl rfl rfl ?_); first | apply gp_guard_dec rfl rfl rfl rfl | apply gp_guard rfl rfl rfl rfl | fail) | refine p_h (htn) hd hk ?_ | refine p_h (hrn) hd hk ?_ | refine p_sq ?_)
              | (refine gp_one ?_; first | refine p_v ?_ | refine p_s ?_ | refine p_n (fun _ => ?_) | refine p_y ?_ | refine p_app (fun _ _ => ?_) | refine p_mv ?_ | refine p_ms ?_ | refine p_b0 (fun _ => ?_) | ((fail_if_success refine gp_lit rfl rfl rfl rfl ?_); first | apply gp_guard_dec rfl rfl rfl rfl | apply gp_guard rfl rfl rfl rfl | fail) | refine p_k (htn) ?_ | refine p_k (hrn) ?_)
              | refine gp_two ?_ ?_ | refine gp_done hd hk ?_ | intro _ | refine p_ta hd hk (fun _ _ _ hd hk => ?_) | refine p_ts hd hk (fun _ hd hk => ?_))
            repeat (first
              | (refine g_ops ?_; first | refine s_q ?_ | refine s_v ?_ | refine s_s ?_ | refine s_n (fun _ => ?_) | refine s_x ?_ | refine s_y ?_ | refine s_mq ?_ | refine s_app (fun _ _ => ?_) | refine s_mv ?_ | refine s_ms ?_ | refine s_b0 (fun _ => ?_) | ((fail_if_success refine g_lit rfl rfl rfl ?_); first | apply g_partM rfl rfl rfl | apply g_partMB rfl rfl rfl | fail))
              | refine g_seq ?_ | refine g_region ?_ | refine g_nil ?_ | refine g_then_normal ?_ | refine g_block ?_ | refine g_in_normal ?_ | refine g_retc ?_
              | refine g_then_ret ?_ | refine g_in_ret ?_ | refine g_exit ?_ | refine g_then_exit ?_ | refine g_in_exit ?_ | refine g_in_other rfl ?_ | refine g_skip ?_
              | refine g_label ?_ | refine g_cond_true rfl ?_ | refine g_cond_false rfl ?_ | exact s_m | intro _)
            have hfl1 : fs.length ≤ bnd (i + 1) := by omega
            have hal1 : as_.length ≤ i + 1 := by omega
            have htl1 : ts.length ≤ i + 1 := by omega
            have hpl1 : ps.length ≤ i + 1 := by omega
            exact g_midX (⟨i, s, none, M, fp, fc, fs, rp, rc, as_, fp2, fc2, rp2, rc2, as2, pp, pc, ps, tp, tc, ts, H1⟩ : PlX) ⟨hs, inv, ⟨hlast.1, by dsimp only; push_cast; omega⟩, hfl1, hal1, hpl1, htl1, hdd, hf2, ha1, ha2⟩ (by (repeat (first | exact FrSub.nil | refine FrSub.cons rfl ?_)); first | done | fail) (by dsimp only [PlX.L, mpL, List.cons_append, List.nil_append, List.append_nil]; exact (by (repeat (first | exact Take.nil | apply Take.cons | exact Sel.here | apply Sel.there)); first | done | fail))
          · exfalso
            obtain ⟨pb, c0, hmg, _⟩ := inv.yes x.n (by omega) (by omega) (fun hh => hn (.inr (.inr hh)))
            rw [inv.m0 rfl] at hmg
            cases hmg
        | some m =>
          by_cases hn : x.n < 1 ∨ s.last < x.n ∨ x.n ∈ ts
          · have htn := take_no b s (some m) M fp fs.length fc rp as_.length rc x.n x.r (inv.no _ hn)
            have hrn := rtake_no b2 s fp2 fs.length fc2 rp2 as2.length rc2 pp ps.length pc tp tc ts x.n x.r hn (by omega)
            dsimp only [mpL, List.cons_append, List.nil_append, List.append_nil] at htn ⊢
            repeat (first
              | (refine g_ops ?_; first | refine s_q ?_ | refine s_v ?_ | refine s_s ?_ | refine s_n (fun _ => ?_) | refine s_x ?_ | refine s_y ?_ | refine s_mq ?_ | refine s_app (fun _ _ => ?_) | refine s_mv ?_ | refine s_ms ?_ | refine s_b0 (fun _ => ?_) | ((fail_if_success refine g_lit rfl rfl rfl ?_); first | apply g_partM rfl rfl rfl | apply g_partMB rfl rfl rfl | fail))
              | apply g_regB (id := 11) 124 | refine g_seq ?_ | refine g_region ?_ | refine g_nil ?_ | refine g_then_normal ?_ | refine g_block ?_ | refine g_in_normal ?_
              | refine g_retc ?_ | refine g_then_ret ?_ | refine g_in_ret ?_ | refine g_exit ?_ | refine g_then_exit ?_ | refine g_in_exit ?_ | refine g_in_other rfl ?_
              | refine g_skip ?_ | refine g_label ?_ | refine g_cond_true rfl ?_ | refine g_cond_false rfl ?_ | exact s_m | intro _ | (refine gp_take ?_; first | refine p_q ?_ | refine p_x ?_ | refine p_mq ?_ | ((fail_if_success refine gp_lit rfl rfl rfl rfl ?_); first | apply gp_guard_dec rfl rfl rfl rfl | apply gp_guard rfl rfl rfl rfl | fail))
              | (refine gp_see ?_; first | refine p_f ?_ | refine p_sx ?_ | ((fail_if_success refine gp_lit rfl rfl rfl rfl ?_); first | apply gp_guard_dec rfl rfl rfl rfl | apply gp_guard rfl rfl rfl rfl | fail) | refine p_sq ?_)
              | (refine gp_one ?_; first | refine p_v ?_ | refine p_s ?_ | refine p_n (fun _ => ?_) | refine p_y ?_ | refine p_app (fun _ _ => ?_) | refine p_mv ?_ | refine p_ms ?_ | refine p_b0 (fun _ => ?_) | ((fail_if_success refine gp_lit rfl rfl rfl rfl ?_); first | apply gp_guard_dec rfl rfl rfl rfl | apply gp_guard rfl rfl rfl rfl | fail))
              | refine gp_two ?_ ?_ | refine gp_done hd hk ?_ | intro _ | refine p_ta hd hk (fun _ _ _ hd hk => ?_) | refine p_ts hd hk (fun _ hd hk => ?_))
            refine g_draw (.take 0 (.take 1 (.take 2 (.take 3 (.take 4 (.see 5 [] (.take 6 (.take 7 (.take 8 (.take 9 (.see 10 [] (.take 12 (.take 13 (.take 14 (.take 15 (.take 16 (.see 17 [] (.take 18 (.take 19 (.take 20 (.take 21 (.see 22 [] (.one 11 (.one 23 (.take 24 .done))))))))))))))))))))))))) (by kernel_rfl) (C := [Pile H1]) (by (repeat (first | exact Take.nil | apply Take.cons | exact Sel.here | apply Sel.there)); first | done | fail) (fun k hd hk => ?_)
            repeat (first
              | (refine gp_take ?_; first | refine p_q ?_ | refine p_x ?_ | refine p_mq ?_ | ((fail_if_success refine gp_lit rfl rfl rfl rfl ?_); first | apply gp_guard_dec rfl rfl rfl rfl | apply gp_guard rfl rfl rfl rfl | fail))
              | (refine gp_see ?_; first | refine p_f ?_ | refine p_sx ?_ | ((fail_if_success refine gp_lit rfl rfl rfl rfl ?_); first | apply gp_guard_dec rfl rfl rfl rfl | apply gp_guard rfl rfl rfl rfl | fail) | refine p_h (htn) hd hk ?_ | refine p_h (hrn) hd hk ?_ | refine p_sq ?_)
              | (refine gp_one ?_; first | refine p_v ?_ | refine p_s ?_ | refine p_n (fun _ => ?_) | refine p_y ?_ | refine p_app (fun _ _ => ?_) | refine p_mv ?_ | refine p_ms ?_ | refine p_b0 (fun _ => ?_) | ((fail_if_success refine gp_lit rfl rfl rfl rfl ?_); first | apply gp_guard_dec rfl rfl rfl rfl | apply gp_guard rfl rfl rfl rfl | fail) | refine p_k (htn) ?_ | refine p_k (hrn) ?_)
              | refine gp_two ?_ ?_ | refine gp_done hd hk ?_ | intro _ | refine p_ta hd hk (fun _ _ _ hd hk => ?_) | refine p_ts hd hk (fun _ hd hk => ?_))
            repeat (first
              | (refine g_ops ?_; first | refine s_q ?_ | refine s_v ?_ | refine s_s ?_ | refine s_n (fun _ => ?_) | refine s_x ?_ | refine s_y ?_ | refine s_mq ?_ | refine s_app (fun _ _ => ?_) | refine s_mv ?_ | refine s_ms ?_ | refine s_b0 (fun _ => ?_) | ((fail_if_success refine g_lit rfl rfl rfl ?_); first | apply g_partM rfl rfl rfl | apply g_partMB rfl rfl rfl | fail))
              | refine g_seq ?_ | refine g_region ?_ | refine g_nil ?_ | refine g_then_normal ?_ | refine g_block ?_ | refine g_in_normal ?_ | refine g_retc ?_
              | refine g_then_ret ?_ | refine g_in_ret ?_ | refine g_exit ?_ | refine g_then_exit ?_ | refine g_in_exit ?_ | refine g_in_other rfl ?_ | refine g_skip ?_
              | refine g_label ?_ | refine g_cond_true rfl ?_ | refine g_cond_false rfl ?_ | exact s_m | intro _)
            have hfl1 : fs.length ≤ bnd (i + 1) := by omega
            have hal1 : as_.length ≤ i + 1 := by omega
            have htl1 : ts.length ≤ i + 1 := by omega
            have hpl1 : ps.length ≤ i + 1 := by omega
            exact g_midX (⟨i, s, (some m), M, fp, fc, fs, rp, rc, as_, fp2, fc2, rp2, rc2, as2, pp, pc, ps, tp, tc, ts, H1⟩ : PlX) ⟨hs, inv, ⟨hlast.1, by dsimp only; push_cast; omega⟩, hfl1, hal1, hpl1, htl1, hdd, hf2, ha1, ha2⟩ (by (repeat (first | exact FrSub.nil | refine FrSub.cons rfl ?_)); first | done | fail) (by dsimp only [PlX.L, mpL, List.cons_append, List.nil_append, List.append_nil]; exact (by (repeat (first | exact Take.nil | apply Take.cons | exact Sel.here | apply Sel.there)); first | done | fail))
          · have hn' : 1 ≤ x.n ∧ x.n ≤ s.last ∧ x.n ∉ ts := ⟨by omega, by omega, fun hh => hn (.inr (.inr hh))⟩
            obtain ⟨pb, c0, hmg, hmt⟩ := inv.yes _ hn'.1 hn'.2.1 hn'.2.2
            have hrA : RpAt (Pile H1) x.r := ⟨hAi.a1, by omega, hAi.a2, by omega, hAi.a3, by omega⟩
            have htk := takeP b s m M fp fc fs rp rc as_ x.n x.r hrA pb c0 hmg (by omega) (by omega)
            dsimp only [mpL, List.cons_append, List.nil_append, List.append_nil]
            repeat (first
              | (refine g_ops ?_; first | refine s_q ?_ | refine s_v ?_ | refine s_s ?_ | refine s_n (fun _ => ?_) | refine s_x ?_ | refine s_y ?_ | refine s_mq ?_ | refine s_app (fun _ _ => ?_) | refine s_mv ?_ | refine s_ms ?_ | refine s_b0 (fun _ => ?_) | ((fail_if_success refine g_lit rfl rfl rfl ?_); first | apply g_partM rfl rfl rfl | apply g_partMB rfl rfl rfl | fail))
              | apply g_regB (id := 11) 124 | refine g_seq ?_ | refine g_region ?_ | refine g_nil ?_ | refine g_then_normal ?_ | refine g_block ?_ | refine g_in_normal ?_
              | refine g_retc ?_ | refine g_then_ret ?_ | refine g_in_ret ?_ | refine g_exit ?_ | refine g_then_exit ?_ | refine g_in_exit ?_ | refine g_in_other rfl ?_
              | refine g_skip ?_ | refine g_label ?_ | refine g_cond_true rfl ?_ | refine g_cond_false rfl ?_ | exact s_m | intro _ | (refine gp_take ?_; first | refine p_q ?_ | refine p_x ?_ | refine p_mq ?_ | ((fail_if_success refine gp_lit rfl rfl rfl rfl ?_); first | apply gp_guard_dec rfl rfl rfl rfl | apply gp_guard rfl rfl rfl rfl | fail))
              | (refine gp_see ?_; first | refine p_f ?_ | refine p_sx ?_ | ((fail_if_success refine gp_lit rfl rfl rfl rfl ?_); first | apply gp_guard_dec rfl rfl rfl rfl | apply gp_guard rfl rfl rfl rfl | fail) | refine p_sq ?_)
              | (refine gp_one ?_; first | refine p_v ?_ | refine p_s ?_ | refine p_n (fun _ => ?_) | refine p_y ?_ | refine p_app (fun _ _ => ?_) | refine p_mv ?_ | refine p_ms ?_ | refine p_b0 (fun _ => ?_) | ((fail_if_success refine gp_lit rfl rfl rfl rfl ?_); first | apply gp_guard_dec rfl rfl rfl rfl | apply gp_guard rfl rfl rfl rfl | fail))
              | refine gp_two ?_ ?_ | refine gp_done hd hk ?_ | intro _ | refine p_ta hd hk (fun _ _ _ hd hk => ?_) | refine p_ts hd hk (fun _ hd hk => ?_))
            refine g_pile0 H1 ?_
            refine g_draw (.take 0 (.take 1 (.take 2 (.take 3 (.take 4 (.see 5 [] (.take 6 (.take 7 (.take 8 (.take 9 (.see 10 [] (.take 12 (.take 13 (.take 14 (.take 15 (.take 16 (.see 17 [] (.take 18 (.take 19 (.take 20 (.take 21 (.see 22 [] (.one 11 (.one 23 (.take 24 .done))))))))))))))))))))))))) (by kernel_rfl) (C := [Pile H1]) (by (repeat (first | exact Take.nil | apply Take.cons | exact Sel.here | apply Sel.there)); first | done | fail) (fun k hd hk => ?_)
            repeat (first
              | (refine gp_take ?_; first | refine p_q ?_ | refine p_x ?_ | refine p_mq ?_ | ((fail_if_success refine gp_lit rfl rfl rfl rfl ?_); first | apply gp_guard_dec rfl rfl rfl rfl | apply gp_guard rfl rfl rfl rfl | fail))
              | (refine gp_see ?_; first | refine p_f ?_ | refine p_sx ?_ | ((fail_if_success refine gp_lit rfl rfl rfl rfl ?_); first | apply gp_guard_dec rfl rfl rfl rfl | apply gp_guard rfl rfl rfl rfl | fail) | refine p_sq ?_)
              | (refine gp_one ?_; first | refine p_v ?_ | refine p_s ?_ | refine p_n (fun _ => ?_) | refine p_y ?_ | refine p_app (fun _ _ => ?_) | refine p_mv ?_ | refine p_ms ?_ | refine p_b0 (fun _ => ?_) | ((fail_if_success refine gp_lit rfl rfl rfl rfl ?_); first | apply gp_guard_dec rfl rfl rfl rfl | apply gp_guard rfl rfl rfl rfl | fail))
              | refine gp_two ?_ ?_ | refine gp_done hd hk ?_ | intro _ | refine p_ta hd hk (fun _ _ _ hd hk => ?_) | refine p_ts hd hk (fun _ hd hk => ?_))
            refine p_cG htk (HP.sub.refl _) (fun y hy => hy.1) hd hk (fun y hy => ?_)
            obtain ⟨tf, tfc, tr, trc, r', H2⟩ := y
            obtain ⟨hys, hyr, hyv, hye⟩ := hy
            dsimp only at hys hyr hyv hye ⊢
            dsimp only [List.cons_append, List.nil_append]
            have hrt := rtakeP b2 s fp2 fc2 fs rp2 rc2 as2 pp pc ps tp tc ts x.n (H := H2) x.r (hrA.grow hys) (hf2.grow hys) hn' (by omega) (by omega) (by omega) (by omega) (by omega) pb c0 hmt
            repeat (first
              | (refine gp_take ?_; first | refine p_q ?_ | refine p_x ?_ | refine p_mq ?_ | ((fail_if_success refine gp_lit rfl rfl rfl rfl ?_); first | apply gp_guard_dec rfl rfl rfl rfl | apply gp_guard rfl rfl rfl rfl | fail))
              | (refine gp_see ?_; first | refine p_f ?_ | refine p_sx ?_ | ((fail_if_success refine gp_lit rfl rfl rfl rfl ?_); first | apply gp_guard_dec rfl rfl rfl rfl | apply gp_guard rfl rfl rfl rfl | fail) | refine p_sq ?_)
              | (refine gp_one ?_; first | refine p_v ?_ | refine p_s ?_ | refine p_n (fun _ => ?_) | refine p_y ?_ | refine p_app (fun _ _ => ?_) | refine p_mv ?_ | refine p_ms ?_ | refine p_b0 (fun _ => ?_) | ((fail_if_success refine gp_lit rfl rfl rfl rfl ?_); first | apply gp_guard_dec rfl rfl rfl rfl | apply gp_guard rfl rfl rfl rfl | fail))
              | refine gp_two ?_ ?_ | refine gp_done hd hk ?_ | intro _ | refine p_ta hd hk (fun _ _ _ hd hk => ?_) | refine p_ts hd hk (fun _ hd hk => ?_))
            refine p_cG hrt hys (fun z hz => hz.1) hd hk (fun z hz => ?_)
            obtain ⟨zf, zfc, zr, zrc, zt, ztc, H3⟩ := z
            obtain ⟨hzs, hzf⟩ := hz
            dsimp only at hzs hzf ⊢
            dsimp only [List.cons_append, List.nil_append]
            repeat (first
              | (refine gp_take ?_; first | refine p_q ?_ | refine p_x ?_ | refine p_mq ?_ | ((fail_if_success refine gp_lit rfl rfl rfl rfl ?_); first | apply gp_guard_dec rfl rfl rfl rfl | apply gp_guard rfl rfl rfl rfl | fail))
              | (refine gp_see ?_; first | refine p_f ?_ | refine p_sx ?_ | ((fail_if_success refine gp_lit rfl rfl rfl rfl ?_); first | apply gp_guard_dec rfl rfl rfl rfl | apply gp_guard rfl rfl rfl rfl | fail) | refine p_sq ?_)
              | (refine gp_one ?_; first | refine p_v ?_ | refine p_s ?_ | refine p_n (fun _ => ?_) | refine p_y ?_ | refine p_app (fun _ _ => ?_) | refine p_mv ?_ | refine p_ms ?_ | refine p_b0 (fun _ => ?_) | ((fail_if_success refine gp_lit rfl rfl rfl rfl ?_); first | apply gp_guard_dec rfl rfl rfl rfl | apply gp_guard rfl rfl rfl rfl | fail))
              | refine gp_two ?_ ?_ | refine gp_done hd hk ?_ | intro _ | refine p_ta hd hk (fun _ _ _ hd hk => ?_) | refine p_ts hd hk (fun _ hd hk => ?_))
            dsimp only [List.cons_append, List.nil_append]
            refine g_join (H := H1) (K := H3) (hys.trans hzs) (by (repeat (first | exact Sel.here | apply Sel.there)); first | done | fail) (by (repeat (first | exact Sel.here | apply Sel.there)); first | done | fail) ?_
            repeat (first
              | (refine g_ops ?_; first | refine s_q ?_ | refine s_v ?_ | refine s_s ?_ | refine s_n (fun _ => ?_) | refine s_x ?_ | refine s_y ?_ | refine s_mq ?_ | refine s_app (fun _ _ => ?_) | refine s_mv ?_ | refine s_ms ?_ | refine s_b0 (fun _ => ?_) | ((fail_if_success refine g_lit rfl rfl rfl ?_); first | apply g_partM rfl rfl rfl | apply g_partMB rfl rfl rfl | fail))
              | refine g_seq ?_ | refine g_region ?_ | refine g_nil ?_ | refine g_then_normal ?_ | refine g_block ?_ | refine g_in_normal ?_ | refine g_retc ?_
              | refine g_then_ret ?_ | refine g_in_ret ?_ | refine g_exit ?_ | refine g_then_exit ?_ | refine g_in_exit ?_ | refine g_in_other rfl ?_ | refine g_skip ?_
              | refine g_label ?_ | refine g_cond_true rfl ?_ | refine g_cond_false rfl ?_ | exact s_m | intro _)
            have hnx := nxF_len pb c0 s x.r fs
            have hfl1 : (nxF pb c0 s x.r fs).length ≤ bnd (i + 1) := by omega
            have hal1 : (as_ ++ [(⟨x.n, r'⟩ : Ans)]).length ≤ i + 1 := by rw [List.length_append, List.length_singleton]; omega
            have htl1 : (ts ++ [x.n]).length ≤ i + 1 := by rw [List.length_append, List.length_singleton]; omega
            have hpl1 : ps.length ≤ i + 1 := by omega
            have hd1 : (as_ ++ [(⟨x.n, r'⟩ : Ans)]).map Ans.d = (as2 ++ [(⟨x.n, x.r⟩ : Ans)]).map Ans.d := by
              rw [List.map_append, List.map_append, hdd, List.map_singleton, List.map_singleton, Ans.d, Ans.d]
              dsimp only
              rw [hyv, hye]
            exact g_midX (⟨i, nxS pb c0 s x.r.v, some m, mdel M x.n, tf, tfc, nxF pb c0 s x.r fs, tr, trc, as_ ++ [⟨x.n, r'⟩], zf, zfc, zr, zrc, as2 ++ [⟨x.n, x.r⟩], pp, pc, ps, zt, ztc, ts ++ [x.n], H3⟩ : PlX)
              ⟨hs.trans (hys.trans hzs), inv.take x.n rfl hn'.2.1 (by simp), ⟨hlast.1, by show s.last ≤ _; push_cast; omega⟩, hfl1, hal1, hpl1, htl1, hd1, hzf, fun a ha => by
                rcases List.mem_append.1 ha with ha | ha
                · exact (ha1 a ha).grow (hys.trans hzs)
                · rw [List.mem_singleton.1 ha]; exact hyr.grow hzs, fun a ha => by
                rcases List.mem_append.1 ha with ha | ha
                · exact (ha2 a ha).grow (hys.trans hzs)
                · rw [List.mem_singleton.1 ha]; exact hrA.grow (hys.trans hzs)⟩ (by (repeat (first | exact FrSub.nil | refine FrSub.cons rfl ?_)); first | done | fail) (by dsimp only [PlX.L, mpL, List.cons_append, List.nil_append, List.append_nil]; exact (by (repeat (first | exact Take.nil | apply Take.cons | exact Sel.here | apply Sel.there)); first | done | fail))
    · obtain ⟨_, s, mp, M, fp, fc, fs, rp, rc, as_, fp2, fc2, rp2, rc2, as2, pp, pc, ps, tp, tc, ts, H1⟩ := y
      obtain ⟨hs, inv, hlast, hfl, hal, hpl, htl, hdd, hf2, ha1, ha2⟩ := hy
      dsimp only at hs inv hlast hfl hal hpl htl hdd hf2 ha1 ha2
      have hda : as2.length = as_.length := by simpa using (congrArg List.length hdd).symm
      dsimp only [PlX.L]
      cases mp with
      | none =>
        dsimp only [mpL, List.cons_append, List.nil_append, List.append_nil]
        repeat (first
          | (refine g_ops ?_; first | refine s_q ?_ | refine s_v ?_ | refine s_s ?_ | refine s_n (fun _ => ?_) | refine s_x ?_ | refine s_y ?_ | refine s_mq ?_ | refine s_app (fun _ _ => ?_) | refine s_mv ?_ | refine s_ms ?_ | refine s_b0 (fun _ => ?_) | ((fail_if_success refine g_lit rfl rfl rfl ?_); first | apply g_partM rfl rfl rfl | apply g_partMB rfl rfl rfl | fail))
          | apply g_regB (id := 11) 124 | refine g_drawS2 (id := 13) 3 4 (.take 0 (.take 1 (.take 2 (.take 3 (.take 4 (.see 5 [] (.take 6 (.take 7 (.take 8 (.take 9 (.see 10 [] (.take 12 (.take 13 (.take 14 (.take 15 (.take 16 (.see 17 [] (.take 18 (.take 19 (.take 20 (.take 21 (.see 22 [] (.one 11 (.one 23 (.take 24 .done))))))))))))))))))))))))) (fun k hd hk => ?_)
          | refine g_seq ?_ | refine g_region ?_ | refine g_nil ?_ | refine g_then_normal ?_ | refine g_block ?_ | refine g_in_normal ?_ | refine g_retc ?_
          | refine g_then_ret ?_ | refine g_in_ret ?_ | refine g_exit ?_ | refine g_then_exit ?_ | refine g_in_exit ?_ | refine g_in_other rfl ?_ | refine g_skip ?_
          | refine g_label ?_ | refine g_cond_true rfl ?_ | refine g_cond_false rfl ?_ | exact s_m | intro _ | (refine gp_take ?_; first | refine p_q ?_ | refine p_x ?_ | refine p_mq ?_ | ((fail_if_success refine gp_lit rfl rfl rfl rfl ?_); first | apply gp_guard_dec rfl rfl rfl rfl | apply gp_guard rfl rfl rfl rfl | fail))
          | (refine gp_see ?_; first | refine p_f ?_ | refine p_sx ?_ | ((fail_if_success refine gp_lit rfl rfl rfl rfl ?_); first | apply gp_guard_dec rfl rfl rfl rfl | apply gp_guard rfl rfl rfl rfl | fail) | refine p_sq ?_)
          | (refine gp_one ?_; first | refine p_v ?_ | refine p_s ?_ | refine p_n (fun _ => ?_) | refine p_y ?_ | refine p_app (fun _ _ => ?_) | refine p_mv ?_ | refine p_ms ?_ | refine p_b0 (fun _ => ?_) | ((fail_if_success refine gp_lit rfl rfl rfl rfl ?_); first | apply gp_guard_dec rfl rfl rfl rfl | apply gp_guard rfl rfl rfl rfl | fail))
          | refine gp_two ?_ ?_ | refine gp_done hd hk ?_ | intro _ | refine p_ta hd hk (fun _ _ _ hd hk => ?_) | refine p_ts hd hk (fun _ hd hk => ?_))
        refine g_draw (.take 0 (.take 2 (.take 3 (.take 4 (.see 5 [] (.one 1 (.take 6 (.take 7 (.take 8 (.take 10 (.take 11 (.take 12 (.see 13 [] (.one 9 (.take 14 (.take 15 (.take 16 (.take 17 (.take 19 (.take 20 (.take 21 (.see 22 [] (.one 18 (.one 23 (.take 24 (.take 25 (.take 26 (.take 27 (.take 30 (.take 31 (.take 32 (.see 33 [] (.take 34 (.one 28 (.take 29 (.take 35 (.take 36 .done))))))))))))))))))))))))))))))))))))) (by kernel_rfl) (C := [rrow b2 s fp2 fs.length fc2 rp2 as2.length rc2 pp ps.length pc tp ts.length tc]) (by (repeat (first | exact Take.nil | apply Take.cons | exact Sel.here | apply Sel.there)); first | done | fail) (fun k hd hk => ?_)
        repeat (first
          | (refine gp_take ?_; first | refine p_q ?_ | refine p_x ?_ | refine p_mq ?_ | ((fail_if_success refine gp_lit rfl rfl rfl rfl ?_); first | apply gp_guard_dec rfl rfl rfl rfl | apply gp_guard rfl rfl rfl rfl | fail))
          | (refine gp_see ?_; first | refine p_f ?_ | refine p_sx ?_ | ((fail_if_success refine gp_lit rfl rfl rfl rfl ?_); first | apply gp_guard_dec rfl rfl rfl rfl | apply gp_guard rfl rfl rfl rfl | fail) | refine p_h (token_ b s none fp fs.length fc rp as_.length rc) hd hk ?_ | refine p_sq ?_)
          | (refine gp_one ?_; first | refine p_v ?_ | refine p_s ?_ | refine p_n (fun _ => ?_) | refine p_y ?_ | refine p_app (fun _ _ => ?_) | refine p_mv ?_ | refine p_ms ?_ | refine p_b0 (fun _ => ?_) | ((fail_if_success refine gp_lit rfl rfl rfl rfl ?_); first | apply gp_guard_dec rfl rfl rfl rfl | apply gp_guard rfl rfl rfl rfl | fail) | refine p_k (token_ b s none fp fs.length fc rp as_.length rc) ?_)
          | refine gp_two ?_ ?_ | refine gp_done hd hk ?_ | intro _ | refine p_ta hd hk (fun _ _ _ hd hk => ?_) | refine p_ts hd hk (fun _ hd hk => ?_))
        refine gp_as 157 (v' := .bool false) rfl (congrArg Value.bool (by simp)) ?_
        repeat (first
          | (refine gp_take ?_; first | refine p_q ?_ | refine p_x ?_ | refine p_mq ?_ | ((fail_if_success refine gp_lit rfl rfl rfl rfl ?_); first | apply gp_guard_dec rfl rfl rfl rfl | apply gp_guard rfl rfl rfl rfl | fail))
          | (refine gp_see ?_; first | refine p_f ?_ | refine p_sx ?_ | ((fail_if_success refine gp_lit rfl rfl rfl rfl ?_); first | apply gp_guard_dec rfl rfl rfl rfl | apply gp_guard rfl rfl rfl rfl | fail) | refine p_h (cursor_ b s none fp fs.length fc rp as_.length rc) hd hk ?_ | refine p_sq ?_)
          | (refine gp_one ?_; first | refine p_v ?_ | refine p_s ?_ | refine p_n (fun _ => ?_) | refine p_y ?_ | refine p_app (fun _ _ => ?_) | refine p_mv ?_ | refine p_ms ?_ | refine p_b0 (fun _ => ?_) | ((fail_if_success refine gp_lit rfl rfl rfl rfl ?_); first | apply gp_guard_dec rfl rfl rfl rfl | apply gp_guard rfl rfl rfl rfl | fail) | refine p_k (cursor_ b s none fp fs.length fc rp as_.length rc) ?_)
          | refine gp_two ?_ ?_ | refine gp_done hd hk ?_ | intro _ | refine p_ta hd hk (fun _ _ _ hd hk => ?_) | refine p_ts hd hk (fun _ hd hk => ?_))
        refine gp_as 166 (v' := .bool false) rfl (congrArg Value.bool (by simp)) ?_
        repeat (first
          | (refine gp_take ?_; first | refine p_q ?_ | refine p_x ?_ | refine p_mq ?_ | ((fail_if_success refine gp_lit rfl rfl rfl rfl ?_); first | apply gp_guard_dec rfl rfl rfl rfl | apply gp_guard rfl rfl rfl rfl | fail))
          | (refine gp_see ?_; first | refine p_f ?_ | refine p_sx ?_ | ((fail_if_success refine gp_lit rfl rfl rfl rfl ?_); first | apply gp_guard_dec rfl rfl rfl rfl | apply gp_guard rfl rfl rfl rfl | fail) | refine p_sq ?_)
          | (refine gp_one ?_; first | refine p_v ?_ | refine p_s ?_ | refine p_n (fun _ => ?_) | refine p_y ?_ | refine p_app (fun _ _ => ?_) | refine p_mv ?_ | refine p_ms ?_ | refine p_b0 (fun _ => ?_) | ((fail_if_success refine gp_lit rfl rfl rfl rfl ?_); first | apply gp_guard_dec rfl rfl rfl rfl | apply gp_guard rfl rfl rfl rfl | fail) | refine p_c (feedQ b s none fp fc fs rp as_.length rc (by omega)) (fun _ _ => ?_))
          | refine gp_two ?_ ?_ | refine gp_done hd hk ?_ | intro _ | refine p_ta hd hk (fun _ _ _ hd hk => ?_) | refine p_ts hd hk (fun _ hd hk => ?_))
        rename_i q hq
        obtain ⟨q1, q2⟩ := q
        have hS1 := slAt_own (q := q1) (len := fs.length) (c := q2) (n := 7) (xs := fs.flatMap Ev.cells) (e := 53) (flat_len ev_len fs) (ev_one fs) hq
        dsimp only [List.cons_append, List.nil_append]
        repeat (first
          | (refine gp_take ?_; first | refine p_q ?_ | refine p_x ?_ | refine p_mq ?_ | ((fail_if_success refine gp_lit rfl rfl rfl rfl ?_); first | apply gp_guard_dec rfl rfl rfl rfl | apply gp_guard rfl rfl rfl rfl | fail))
          | (refine gp_see ?_; first | refine p_f ?_ | refine p_sx ?_ | ((fail_if_success refine gp_lit rfl rfl rfl rfl ?_); first | apply gp_guard_dec rfl rfl rfl rfl | apply gp_guard rfl rfl rfl rfl | fail) | refine p_h (sameEvs2 q1 fp2 q2 fc2 fs hS1 hf2 (by omega)) hd hk ?_ | refine p_sq ?_)
          | (refine gp_one ?_; first | refine p_v ?_ | refine p_s ?_ | refine p_n (fun _ => ?_) | refine p_y ?_ | refine p_app (fun _ _ => ?_) | refine p_mv ?_ | refine p_ms ?_ | refine p_b0 (fun _ => ?_) | ((fail_if_success refine gp_lit rfl rfl rfl rfl ?_); first | apply gp_guard_dec rfl rfl rfl rfl | apply gp_guard rfl rfl rfl rfl | fail) | refine p_k (sameEvs2 q1 fp2 q2 fc2 fs hS1 hf2 (by omega)) ?_)
          | refine gp_two ?_ ?_ | refine gp_done hd hk ?_ | intro _ | refine p_ta hd hk (fun _ _ _ hd hk => ?_) | refine p_ts hd hk (fun _ hd hk => ?_))
        refine gp_as 176 (v' := .bool false) rfl (congrArg Value.bool (by simp)) ?_
        repeat (first
          | (refine gp_take ?_; first | refine p_q ?_ | refine p_x ?_ | refine p_mq ?_ | ((fail_if_success refine gp_lit rfl rfl rfl rfl ?_); first | apply gp_guard_dec rfl rfl rfl rfl | apply gp_guard rfl rfl rfl rfl | fail))
          | (refine gp_see ?_; first | refine p_f ?_ | refine p_sx ?_ | ((fail_if_success refine gp_lit rfl rfl rfl rfl ?_); first | apply gp_guard_dec rfl rfl rfl rfl | apply gp_guard rfl rfl rfl rfl | fail) | refine p_sq ?_)
          | (refine gp_one ?_; first | refine p_v ?_ | refine p_s ?_ | refine p_n (fun _ => ?_) | refine p_y ?_ | refine p_app (fun _ _ => ?_) | refine p_mv ?_ | refine p_ms ?_ | refine p_b0 (fun _ => ?_) | ((fail_if_success refine gp_lit rfl rfl rfl rfl ?_); first | apply gp_guard_dec rfl rfl rfl rfl | apply gp_guard rfl rfl rfl rfl | fail) | refine p_c (repliesQ b s none fp fs.length fc rp rc as_ (by omega) ha1 as2.length hda.symm) (fun _ _ => ?_))
          | refine gp_two ?_ ?_ | refine gp_done hd hk ?_ | intro _ | refine p_ta hd hk (fun _ _ _ hd hk => ?_) | refine p_ts hd hk (fun _ hd hk => ?_))
        rename_i y hy
        obtain ⟨yq, yc, yo, H2⟩ := y
        obtain ⟨hys, _, _, _⟩ := hy
        dsimp only at hys ⊢
        dsimp only [List.cons_append, List.nil_append]
        refine g_as 186 (v' := .bool false) rfl (congrArg Value.bool (by simp)) ?_
        repeat (first
          | (refine g_ops ?_; first | refine s_q ?_ | refine s_v ?_ | refine s_s ?_ | refine s_n (fun _ => ?_) | refine s_x ?_ | refine s_y ?_ | refine s_mq ?_ | refine s_app (fun _ _ => ?_) | refine s_mv ?_ | refine s_ms ?_ | refine s_b0 (fun _ => ?_) | ((fail_if_success refine g_lit rfl rfl rfl ?_); first | apply g_partM rfl rfl rfl | apply g_partMB rfl rfl rfl | fail))
          | refine g_seq ?_ | refine g_region ?_ | refine g_nil ?_ | refine g_then_normal ?_ | refine g_block ?_ | refine g_in_normal ?_ | refine g_retc ?_
          | refine g_then_ret ?_ | refine g_in_ret ?_ | refine g_exit ?_ | refine g_then_exit ?_ | refine g_in_exit ?_ | refine g_in_other rfl ?_ | refine g_skip ?_
          | refine g_label ?_ | refine g_cond_true rfl ?_ | refine g_cond_false rfl ?_ | exact s_m | intro _)
        refine g_as 5 (v' := int ((i + 1 : Nat) : Int)) rfl (congrArg (Value.int .i64) (by push_cast; rfl)) ?_
        exact g_again (⟨i + 1, s, none, M, fp, fc, fs, rp, rc, as_, fp2, fc2, rp2, rc2, as2, pp, pc, ps, tp, tc, ts, H2⟩ : PlX) (by dsimp only; omega) ⟨hi', hs.trans hys, inv, hlast, hfl, hal, hpl, htl, hdd, hf2.grow hys, fun a ha => (ha1 a ha).grow hys, fun a ha => (ha2 a ha).grow hys⟩ (by (repeat (first | exact FrSub.nil | refine FrSub.cons rfl ?_)); first | done | fail) (by dsimp only [PlX.L, mpL, List.cons_append, List.nil_append, List.append_nil]; exact (by (repeat (first | exact Take.nil | apply Take.cons | exact Sel.here | apply Sel.there)); first | done | fail))
      | some m =>
        dsimp only [mpL, List.cons_append, List.nil_append, List.append_nil]
        repeat (first
          | (refine g_ops ?_; first | refine s_q ?_ | refine s_v ?_ | refine s_s ?_ | refine s_n (fun _ => ?_) | refine s_x ?_ | refine s_y ?_ | refine s_mq ?_ | refine s_app (fun _ _ => ?_) | refine s_mv ?_ | refine s_ms ?_ | refine s_b0 (fun _ => ?_) | ((fail_if_success refine g_lit rfl rfl rfl ?_); first | apply g_partM rfl rfl rfl | apply g_partMB rfl rfl rfl | fail))
          | apply g_regB (id := 11) 124 | refine g_drawS2 (id := 13) 3 4 (.take 0 (.take 1 (.take 2 (.take 3 (.take 4 (.see 5 [] (.take 6 (.take 7 (.take 8 (.take 9 (.see 10 [] (.take 12 (.take 13 (.take 14 (.take 15 (.take 16 (.see 17 [] (.take 18 (.take 19 (.take 20 (.take 21 (.see 22 [] (.one 11 (.one 23 (.take 24 .done))))))))))))))))))))))))) (fun k hd hk => ?_)
          | refine g_seq ?_ | refine g_region ?_ | refine g_nil ?_ | refine g_then_normal ?_ | refine g_block ?_ | refine g_in_normal ?_ | refine g_retc ?_
          | refine g_then_ret ?_ | refine g_in_ret ?_ | refine g_exit ?_ | refine g_then_exit ?_ | refine g_in_exit ?_ | refine g_in_other rfl ?_ | refine g_skip ?_
          | refine g_label ?_ | refine g_cond_true rfl ?_ | refine g_cond_false rfl ?_ | exact s_m | intro _ | (refine gp_take ?_; first | refine p_q ?_ | refine p_x ?_ | refine p_mq ?_ | ((fail_if_success refine gp_lit rfl rfl rfl rfl ?_); first | apply gp_guard_dec rfl rfl rfl rfl | apply gp_guard rfl rfl rfl rfl | fail))
          | (refine gp_see ?_; first | refine p_f ?_ | refine p_sx ?_ | ((fail_if_success refine gp_lit rfl rfl rfl rfl ?_); first | apply gp_guard_dec rfl rfl rfl rfl | apply gp_guard rfl rfl rfl rfl | fail) | refine p_sq ?_)
          | (refine gp_one ?_; first | refine p_v ?_ | refine p_s ?_ | refine p_n (fun _ => ?_) | refine p_y ?_ | refine p_app (fun _ _ => ?_) | refine p_mv ?_ | refine p_ms ?_ | refine p_b0 (fun _ => ?_) | ((fail_if_success refine gp_lit rfl rfl rfl rfl ?_); first | apply gp_guard_dec rfl rfl rfl rfl | apply gp_guard rfl rfl rfl rfl | fail))
          | refine gp_two ?_ ?_ | refine gp_done hd hk ?_ | intro _ | refine p_ta hd hk (fun _ _ _ hd hk => ?_) | refine p_ts hd hk (fun _ hd hk => ?_))
        refine g_draw (.take 0 (.take 2 (.take 3 (.take 4 (.see 5 [] (.one 1 (.take 6 (.take 7 (.take 8 (.take 10 (.take 11 (.take 12 (.see 13 [] (.one 9 (.take 14 (.take 15 (.take 16 (.take 17 (.take 19 (.take 20 (.take 21 (.see 22 [] (.one 18 (.one 23 (.take 24 (.take 25 (.take 26 (.take 27 (.take 30 (.take 31 (.take 32 (.see 33 [] (.take 34 (.one 28 (.take 29 (.take 35 (.take 36 .done))))))))))))))))))))))))))))))))))))) (by kernel_rfl) (C := [rrow b2 s fp2 fs.length fc2 rp2 as2.length rc2 pp ps.length pc tp ts.length tc]) (by (repeat (first | exact Take.nil | apply Take.cons | exact Sel.here | apply Sel.there)); first | done | fail) (fun k hd hk => ?_)
        repeat (first
          | (refine gp_take ?_; first | refine p_q ?_ | refine p_x ?_ | refine p_mq ?_ | ((fail_if_success refine gp_lit rfl rfl rfl rfl ?_); first | apply gp_guard_dec rfl rfl rfl rfl | apply gp_guard rfl rfl rfl rfl | fail))
          | (refine gp_see ?_; first | refine p_f ?_ | refine p_sx ?_ | ((fail_if_success refine gp_lit rfl rfl rfl rfl ?_); first | apply gp_guard_dec rfl rfl rfl rfl | apply gp_guard rfl rfl rfl rfl | fail) | refine p_h (token_ b s (some m) fp fs.length fc rp as_.length rc) hd hk ?_ | refine p_sq ?_)
          | (refine gp_one ?_; first | refine p_v ?_ | refine p_s ?_ | refine p_n (fun _ => ?_) | refine p_y ?_ | refine p_app (fun _ _ => ?_) | refine p_mv ?_ | refine p_ms ?_ | refine p_b0 (fun _ => ?_) | ((fail_if_success refine gp_lit rfl rfl rfl rfl ?_); first | apply gp_guard_dec rfl rfl rfl rfl | apply gp_guard rfl rfl rfl rfl | fail) | refine p_k (token_ b s (some m) fp fs.length fc rp as_.length rc) ?_)
          | refine gp_two ?_ ?_ | refine gp_done hd hk ?_ | intro _ | refine p_ta hd hk (fun _ _ _ hd hk => ?_) | refine p_ts hd hk (fun _ hd hk => ?_))
        refine gp_as 157 (v' := .bool false) rfl (congrArg Value.bool (by simp)) ?_
        repeat (first
          | (refine gp_take ?_; first | refine p_q ?_ | refine p_x ?_ | refine p_mq ?_ | ((fail_if_success refine gp_lit rfl rfl rfl rfl ?_); first | apply gp_guard_dec rfl rfl rfl rfl | apply gp_guard rfl rfl rfl rfl | fail))
          | (refine gp_see ?_; first | refine p_f ?_ | refine p_sx ?_ | ((fail_if_success refine gp_lit rfl rfl rfl rfl ?_); first | apply gp_guard_dec rfl rfl rfl rfl | apply gp_guard rfl rfl rfl rfl | fail) | refine p_h (cursor_ b s (some m) fp fs.length fc rp as_.length rc) hd hk ?_ | refine p_sq ?_)
          | (refine gp_one ?_; first | refine p_v ?_ | refine p_s ?_ | refine p_n (fun _ => ?_) | refine p_y ?_ | refine p_app (fun _ _ => ?_) | refine p_mv ?_ | refine p_ms ?_ | refine p_b0 (fun _ => ?_) | ((fail_if_success refine gp_lit rfl rfl rfl rfl ?_); first | apply gp_guard_dec rfl rfl rfl rfl | apply gp_guard rfl rfl rfl rfl | fail) | refine p_k (cursor_ b s (some m) fp fs.length fc rp as_.length rc) ?_)
          | refine gp_two ?_ ?_ | refine gp_done hd hk ?_ | intro _ | refine p_ta hd hk (fun _ _ _ hd hk => ?_) | refine p_ts hd hk (fun _ hd hk => ?_))
        refine gp_as 166 (v' := .bool false) rfl (congrArg Value.bool (by simp)) ?_
        repeat (first
          | (refine gp_take ?_; first | refine p_q ?_ | refine p_x ?_ | refine p_mq ?_ | ((fail_if_success refine gp_lit rfl rfl rfl rfl ?_); first | apply gp_guard_dec rfl rfl rfl rfl | apply gp_guard rfl rfl rfl rfl | fail))
          | (refine gp_see ?_; first | refine p_f ?_ | refine p_sx ?_ | ((fail_if_success refine gp_lit rfl rfl rfl rfl ?_); first | apply gp_guard_dec rfl rfl rfl rfl | apply gp_guard rfl rfl rfl rfl | fail) | refine p_sq ?_)
          | (refine gp_one ?_; first | refine p_v ?_ | refine p_s ?_ | refine p_n (fun _ => ?_) | refine p_y ?_ | refine p_app (fun _ _ => ?_) | refine p_mv ?_ | refine p_ms ?_ | refine p_b0 (fun _ => ?_) | ((fail_if_success refine gp_lit rfl rfl rfl rfl ?_); first | apply gp_guard_dec rfl rfl rfl rfl | apply gp_guard rfl rfl rfl rfl | fail) | refine p_c (feedQ b s (some m) fp fc fs rp as_.length rc (by omega)) (fun _ _ => ?_))
          | refine gp_two ?_ ?_ | refine gp_done hd hk ?_ | intro _ | refine p_ta hd hk (fun _ _ _ hd hk => ?_) | refine p_ts hd hk (fun _ hd hk => ?_))
        rename_i q hq
        obtain ⟨q1, q2⟩ := q
        have hS1 := slAt_own (q := q1) (len := fs.length) (c := q2) (n := 7) (xs := fs.flatMap Ev.cells) (e := 53) (flat_len ev_len fs) (ev_one fs) hq
        dsimp only [List.cons_append, List.nil_append]
        repeat (first
          | (refine gp_take ?_; first | refine p_q ?_ | refine p_x ?_ | refine p_mq ?_ | ((fail_if_success refine gp_lit rfl rfl rfl rfl ?_); first | apply gp_guard_dec rfl rfl rfl rfl | apply gp_guard rfl rfl rfl rfl | fail))
          | (refine gp_see ?_; first | refine p_f ?_ | refine p_sx ?_ | ((fail_if_success refine gp_lit rfl rfl rfl rfl ?_); first | apply gp_guard_dec rfl rfl rfl rfl | apply gp_guard rfl rfl rfl rfl | fail) | refine p_h (sameEvs2 q1 fp2 q2 fc2 fs hS1 hf2 (by omega)) hd hk ?_ | refine p_sq ?_)
          | (refine gp_one ?_; first | refine p_v ?_ | refine p_s ?_ | refine p_n (fun _ => ?_) | refine p_y ?_ | refine p_app (fun _ _ => ?_) | refine p_mv ?_ | refine p_ms ?_ | refine p_b0 (fun _ => ?_) | ((fail_if_success refine gp_lit rfl rfl rfl rfl ?_); first | apply gp_guard_dec rfl rfl rfl rfl | apply gp_guard rfl rfl rfl rfl | fail) | refine p_k (sameEvs2 q1 fp2 q2 fc2 fs hS1 hf2 (by omega)) ?_)
          | refine gp_two ?_ ?_ | refine gp_done hd hk ?_ | intro _ | refine p_ta hd hk (fun _ _ _ hd hk => ?_) | refine p_ts hd hk (fun _ hd hk => ?_))
        refine gp_as 176 (v' := .bool false) rfl (congrArg Value.bool (by simp)) ?_
        repeat (first
          | (refine gp_take ?_; first | refine p_q ?_ | refine p_x ?_ | refine p_mq ?_ | ((fail_if_success refine gp_lit rfl rfl rfl rfl ?_); first | apply gp_guard_dec rfl rfl rfl rfl | apply gp_guard rfl rfl rfl rfl | fail))
          | (refine gp_see ?_; first | refine p_f ?_ | refine p_sx ?_ | ((fail_if_success refine gp_lit rfl rfl rfl rfl ?_); first | apply gp_guard_dec rfl rfl rfl rfl | apply gp_guard rfl rfl rfl rfl | fail) | refine p_sq ?_)
          | (refine gp_one ?_; first | refine p_v ?_ | refine p_s ?_ | refine p_n (fun _ => ?_) | refine p_y ?_ | refine p_app (fun _ _ => ?_) | refine p_mv ?_ | refine p_ms ?_ | refine p_b0 (fun _ => ?_) | ((fail_if_success refine gp_lit rfl rfl rfl rfl ?_); first | apply gp_guard_dec rfl rfl rfl rfl | apply gp_guard rfl rfl rfl rfl | fail) | refine p_c (repliesQ b s (some m) fp fs.length fc rp rc as_ (by omega) ha1 as2.length hda.symm) (fun _ _ => ?_))
          | refine gp_two ?_ ?_ | refine gp_done hd hk ?_ | intro _ | refine p_ta hd hk (fun _ _ _ hd hk => ?_) | refine p_ts hd hk (fun _ hd hk => ?_))
        rename_i y hy
        obtain ⟨yq, yc, yo, H2⟩ := y
        obtain ⟨hys, _, _, _⟩ := hy
        dsimp only at hys ⊢
        dsimp only [List.cons_append, List.nil_append]
        refine g_as 186 (v' := .bool false) rfl (congrArg Value.bool (by simp)) ?_
        repeat (first
          | (refine g_ops ?_; first | refine s_q ?_ | refine s_v ?_ | refine s_s ?_ | refine s_n (fun _ => ?_) | refine s_x ?_ | refine s_y ?_ | refine s_mq ?_ | refine s_app (fun _ _ => ?_) | refine s_mv ?_ | refine s_ms ?_ | refine s_b0 (fun _ => ?_) | ((fail_if_success refine g_lit rfl rfl rfl ?_); first | apply g_partM rfl rfl rfl | apply g_partMB rfl rfl rfl | fail))
          | refine g_seq ?_ | refine g_region ?_ | refine g_nil ?_ | refine g_then_normal ?_ | refine g_block ?_ | refine g_in_normal ?_ | refine g_retc ?_
          | refine g_then_ret ?_ | refine g_in_ret ?_ | refine g_exit ?_ | refine g_then_exit ?_ | refine g_in_exit ?_ | refine g_in_other rfl ?_ | refine g_skip ?_
          | refine g_label ?_ | refine g_cond_true rfl ?_ | refine g_cond_false rfl ?_ | exact s_m | intro _)
        refine g_as 5 (v' := int ((i + 1 : Nat) : Int)) rfl (congrArg (Value.int .i64) (by push_cast; rfl)) ?_
        exact g_again (⟨i + 1, s, (some m), M, fp, fc, fs, rp, rc, as_, fp2, fc2, rp2, rc2, as2, pp, pc, ps, tp, tc, ts, H2⟩ : PlX) (by dsimp only; omega) ⟨hi', hs.trans hys, inv, hlast, hfl, hal, hpl, htl, hdd, hf2.grow hys, fun a ha => (ha1 a ha).grow hys, fun a ha => (ha2 a ha).grow hys⟩ (by (repeat (first | exact FrSub.nil | refine FrSub.cons rfl ?_)); first | done | fail) (by dsimp only [PlX.L, mpL, List.cons_append, List.nil_append, List.append_nil]; exact (by (repeat (first | exact Take.nil | apply Take.cons | exact Sel.here | apply Sel.there)); first | done | fail))
  · obtain rfl : i = l.length := by omega
    have hbl := bnd_le (n := l.length) (by omega)
    have hda : as2.length = as_.length := by simpa using (congrArg List.length hdd).symm
    cases mp with
    | none =>
      dsimp only [mpL, List.cons_append, List.nil_append, List.append_nil]
      repeat (first
        | (refine g_ops ?_; first | refine s_q ?_ | refine s_v ?_ | refine s_s ?_ | refine s_n (fun _ => ?_) | refine s_x ?_ | refine s_y ?_ | refine s_mq ?_ | refine s_app (fun _ _ => ?_) | refine s_mv ?_ | refine s_ms ?_ | refine s_b0 (fun _ => ?_) | ((fail_if_success refine g_lit rfl rfl rfl ?_); first | apply g_partM rfl rfl rfl | apply g_partMB rfl rfl rfl | fail) | refine s_c (repliesQ b s none fp fs.length fc rp rc as_ (by omega) ha1 as2.length hda.symm) (fun _ _ => ?_))
        | refine g_seq ?_ | refine g_region ?_ | refine g_nil ?_ | refine g_then_normal ?_ | refine g_block ?_ | refine g_in_normal ?_ | refine g_retc ?_
        | refine g_then_ret ?_ | refine g_in_ret ?_ | refine g_exit ?_ | refine g_then_exit ?_ | refine g_in_exit ?_ | refine g_in_other rfl ?_ | refine g_skip ?_
        | refine g_label ?_ | refine g_cond_true rfl ?_ | refine g_cond_false rfl ?_ | exact s_m | intro _)
      rename_i y hy
      obtain ⟨yq, yc, yo, H2⟩ := y
      obtain ⟨hys, hyo, hyd, hyl⟩ := hy
      dsimp only at hys hyo hyd hyl ⊢
      dsimp only [List.cons_append, List.nil_append]
      refine g_own (p := yq) (len := as2.length) (cap := yc) (n := 15) (xs := yo.flatMap Ans.cells) (e := 74) (by (repeat (first | exact Sel.here | apply Sel.there)); first | done | fail) (fun _ _ hq1 => ?_)
      refine g_own (p := rp2) (len := as2.length) (cap := rc2) (n := 15) (xs := as2.flatMap Ans.cells) (e := 74) (by (repeat (first | exact Sel.here | apply Sel.there)); first | done | fail) (fun _ _ hq2 => ?_)
      have hdy : yo.map Ans.d = as2.map Ans.d := hyd.trans hdd
      have hA2' : ∀ a ∈ as2, RpAt (Pile H2) a.r := fun a ha => (ha2 a ha).grow hys
      refine g_loop (X := Nat) (fun j => [(2, .bool false), (4, ptr b2), (10, .slice yq as2.length yc), (11, int j)]) (fun _ => [.own yq as2.length yc 15 (yo.flatMap Ans.cells) 74, rrow b2 s fp2 fs.length fc2 rp2 as2.length rc2 pp ps.length pc tp ts.length tc, .own rp2 as2.length rc2 15 (as2.flatMap Ans.cells) 74, Pile H2]) (fun j => j ≤ as2.length) (fun j => as2.length - j) 0 (Nat.zero_le _) (by (repeat (first | exact FrSub.nil | refine FrSub.cons rfl ?_)); first | done | fail) (by (repeat (first | exact Take.nil | apply Take.cons | exact Sel.here | apply Sel.there)); first | done | fail) (fun j hj => ?_)
      repeat (first
        | (refine g_ops ?_; first | refine s_q ?_ | refine s_v ?_ | refine s_s ?_ | refine s_n (fun _ => ?_) | refine s_x ?_ | refine s_y ?_ | refine s_mq ?_ | refine s_app (fun _ _ => ?_) | refine s_mv ?_ | refine s_ms ?_ | refine s_b0 (fun _ => ?_) | ((fail_if_success refine g_lit rfl rfl rfl ?_); first | apply g_partM rfl rfl rfl | apply g_partMB rfl rfl rfl | fail))
        | refine g_seq ?_ | refine g_region ?_ | refine g_nil ?_ | refine g_then_normal ?_ | refine g_block ?_ | refine g_in_normal ?_ | refine g_retc ?_
        | refine g_then_ret ?_ | refine g_in_ret ?_ | refine g_exit ?_ | refine g_then_exit ?_ | refine g_in_exit ?_ | refine g_in_other rfl ?_ | refine g_skip ?_
        | refine g_label ?_ | refine g_cond_true rfl ?_ | refine g_cond_false rfl ?_ | exact s_m | intro _)
      refine g_cond_dec rfl (fun h3 => ?_) (fun h3 => ?_)
      · have hj' : j < as2.length := by omega
        have hj2 : j < yo.length := by omega
        obtain ⟨yb, rfl⟩ := hq1 (by omega)
        obtain ⟨rb, rfl⟩ := hq2 (by omega)
        have hdj : yo[j].d = as2[j].d := by
          have h4 := congrArg (·[j]?) hdy
          simpa [hj', hj2] using h4
        have hc1 := own_at (b := yb) (len := as2.length) (cap := yc) (e := 74) ans_len (l := yo) (i := j) (a := yo[j]) (by simp [hj2])
        have hc2 := own_at (b := rb) (len := as2.length) (cap := rc2) (e := 74) ans_len (l := as2) (i := j) (a := as2[j]) (by simp [hj'])
        have hA1 := hyo yo[j] (List.getElem_mem _)
        have hA2 := hA2' as2[j] (List.getElem_mem _)
        generalize yo[j] = u at hc1 hdj hA1
        generalize as2[j] = w at hc2 hdj hA2
        obtain ⟨n1, v1, p11, m11, c11, l11, p12, c12, e1, p13, m13, c13, l13⟩ := u
        obtain ⟨n2, v2, p21, m21, c21, l21, p22, c22, e2, p23, m23, c23, l23⟩ := w
        simp only [Ans.d, Prod.mk.injEq] at hdj
        obtain ⟨rfl, rfl, rfl⟩ := hdj
        have hB1 : SlAt (Pile H2) 7 p12 e1.length (e1.flatMap Ev.cells) := hA1.a2
        have hB2 : SlAt (Pile H2) 7 p22 e1.length (e1.flatMap Ev.cells) := hA2.a2
        have hB3 : e1.length ≤ 1000000000 := hA1.n2
        dsimp only [Ans.cells, Rp.cells] at hc1 hc2
        have hcell : ∀ (jj : Nat) (v : Value), (v1.cellsF p11 m11 c11 p12 e1.length c12 p13 m13 c13)[jj]? = some v → Reads (.own (some ⟨yb, 0, none⟩) as2.length yc 15 (yo.flatMap Ans.cells) 74) ⟨yb, 0 + j * 15 + 2 + jj, none⟩ v := fun jj v h => by
          rw [Nat.add_assoc]; exact hc1 (2 + jj) v (by rw [Nat.add_comm 2 jj]; exact h)
        have hcell2 : ∀ (jj : Nat) (v : Value), (v1.cellsF p21 m21 c21 p22 e1.length c22 p23 m23 c23)[jj]? = some v → Reads (.own (some ⟨rb, 0, none⟩) as2.length rc2 15 (as2.flatMap Ans.cells) 74) ⟨rb, 0 + j * 15 + 2 + jj, none⟩ v := fun jj v h => by
          rw [Nat.add_assoc]; exact hc2 (2 + jj) v (by rw [Nat.add_comm 2 jj]; exact h)
        have hrow2 : ∀ (jj : Nat) (v : Value), ([int v1.st.w, int v1.st.l, int v1.st.n] : List Value)[jj]? = some v → Reads (.own (some ⟨rb, 0, none⟩) as2.length rc2 15 (as2.flatMap Ans.cells) 74) ⟨rb, 0 + j * 15 + 2 + 1 + jj, none⟩ v := fun jj v h => by
          rw [Nat.add_assoc (0 + j * 15 + 2)]
          refine hcell2 (1 + jj) v ?_
          rcases jj with _ | _ | _ | jj
          · exact h
          · exact h
          · exact h
          · simp at h
        have hr : ∀ k, k < 2 → Reads (.own (some ⟨yb, 0, none⟩) as2.length yc 15 (yo.flatMap Ans.cells) 74) ⟨yb, 0 + j * 15 + k, none⟩ (int (if k = 0 then 0 else n1)) := fun k hk => by
          rcases k with _ | _ | k
          · exact hc1 0 _ rfl
          · exact hc1 1 _ rfl
          · omega
        have hr2 : ∀ k, k = 1 → Reads (.own (some ⟨rb, 0, none⟩) as2.length rc2 15 (as2.flatMap Ans.cells) 74) ⟨rb, 0 + j * 15 + k, none⟩ (int n1) := fun k hk => by subst hk; exact hc2 1 _ rfl
        have hsame := sameEvs p12 p22 c12 c22 e1 hB1 hB2 hB3
        repeat (first
          | (refine g_ops ?_; first | refine s_q ?_ | refine s_v ?_ | refine s_s ?_ | refine s_n (fun _ => ?_) | refine s_x ?_ | refine s_y ?_ | refine s_mq ?_ | refine s_app (fun _ _ => ?_) | refine s_mv ?_ | refine s_ms ?_ | refine s_b0 (fun _ => ?_) | ((fail_if_success refine g_lit rfl rfl rfl ?_); first | apply g_partM rfl rfl rfl | apply g_partMB rfl rfl rfl | fail))
          | apply g_regB (id := 11) 124 | refine g_drawS2 (id := 13) 3 4 (.take 0 (.take 1 (.take 2 (.take 3 (.take 4 (.see 5 [] (.take 6 (.take 7 (.take 8 (.take 9 (.see 10 [] (.take 12 (.take 13 (.take 14 (.take 15 (.take 16 (.see 17 [] (.take 18 (.take 19 (.take 20 (.take 21 (.see 22 [] (.one 11 (.one 23 (.take 24 .done))))))))))))))))))))))))) (fun k hd hk => ?_)
          | refine g_seq ?_ | refine g_region ?_ | refine g_nil ?_ | refine g_then_normal ?_ | refine g_block ?_ | refine g_in_normal ?_ | refine g_retc ?_
          | refine g_then_ret ?_ | refine g_in_ret ?_ | refine g_exit ?_ | refine g_then_exit ?_ | refine g_in_exit ?_ | refine g_in_other rfl ?_ | refine g_skip ?_
          | refine g_label ?_ | refine g_cond_true rfl ?_ | refine g_cond_false rfl ?_ | exact s_m | intro _ | (refine gp_take ?_; first | refine p_q ?_ | refine p_x ?_ | refine p_mq ?_ | ((fail_if_success refine gp_lit rfl rfl rfl rfl ?_); first | apply gp_guard_dec rfl rfl rfl rfl | apply gp_guard rfl rfl rfl rfl | fail))
          | (refine gp_see ?_; first | refine p_f ?_ | refine p_sx ?_ | ((fail_if_success refine gp_lit rfl rfl rfl rfl ?_); first | apply gp_guard_dec rfl rfl rfl rfl | apply gp_guard rfl rfl rfl rfl | fail) | refine p_sq ?_)
          | (refine gp_one ?_; first | refine p_v ?_ | refine p_s ?_ | refine p_n (fun _ => ?_) | refine p_y ?_ | refine p_app (fun _ _ => ?_) | refine p_mv ?_ | refine p_ms ?_ | refine p_b0 (fun _ => ?_) | ((fail_if_success refine gp_lit rfl rfl rfl rfl ?_); first | apply gp_guard_dec rfl rfl rfl rfl | apply gp_guard rfl rfl rfl rfl | fail))
          | refine gp_two ?_ ?_ | refine gp_done hd hk ?_ | intro _ | refine p_ta hd hk (fun _ _ _ hd hk => ?_) | refine p_ts hd hk (fun _ hd hk => ?_))
        refine g_draw (.take 0 (.take 1 (.take 2 (.take 3 (.see 4 [] (.take 5 (.take 6 (.take 7 (.take 8 (.take 9 (.take 10 (.see 11 [] (.take 12 (.take 13 (.take 14 (.see 15 [] (.take 16 (.take 17 (.take 18 (.see 19 [] (.take 20 (.take 21 (.take 22 (.take 23 (.take 24 (.take 25 (.take 26 (.take 27 (.see 28 [] (.take 29 (.take 30 (.take 31 (.see 32 [] (.take 33 (.take 34 (.take 35 (.take 36 (.see 37 [] (.take 38 (.take 39 (.take 40 (.take 41 (.take 42 (.take 43 (.take 44 (.take 45 (.see 46 [] (.take 47 (.take 48 (.take 49 (.see 50 [] (.take 51 (.take 52 (.take 53 (.take 54 (.see 55 [] (.take 56 (.take 57 (.take 58 (.take 59 (.take 60 (.take 61 (.take 62 (.take 63 (.see 64 [] (.take 65 (.take 66 (.take 67 (.see 68 [] (.take 69 (.take 70 (.take 71 (.take 72 (.see 73 [] (.one 74 (.take 75 (.take 76 .done))))))))))))))))))))))))))))))))))))))))))))))))))))))))))))))))))))))))))))) (by kernel_rfl) (C := [.own (some ⟨yb, 0, none⟩) as2.length yc 15 (yo.flatMap Ans.cells) 74, rrow b2 s fp2 fs.length fc2 (some ⟨rb, 0, none⟩) as2.length rc2 pp ps.length pc tp ts.length tc, .own (some ⟨rb, 0, none⟩) as2.length rc2 15 (as2.flatMap Ans.cells) 74]) (by (repeat (first | exact Take.nil | apply Take.cons | exact Sel.here | apply Sel.there)); first | done | fail) (fun k hd hk => ?_)
        repeat (first
          | (refine gp_take ?_; first | refine p_q ?_ | refine p_x ?_ | refine p_mq ?_ | ((fail_if_success refine gp_lit rfl rfl rfl rfl ?_); first | apply gp_guard_dec rfl rfl rfl rfl | apply gp_guard rfl rfl rfl rfl | fail))
          | (refine gp_see ?_; first | refine p_f ?_ | refine p_sx ?_ | ((fail_if_success refine gp_lit rfl rfl rfl rfl ?_); first | apply gp_guard_dec rfl rfl rfl rfl | apply gp_guard rfl rfl rfl rfl | fail) | refine p_sq ?_)
          | (refine gp_one ?_; first | refine p_v ?_ | refine p_s ?_ | refine p_n (fun _ => ?_) | refine p_y ?_ | refine p_app (fun _ _ => ?_) | refine p_mv ?_ | refine p_ms ?_ | refine p_b0 (fun _ => ?_) | ((fail_if_success refine gp_lit rfl rfl rfl rfl ?_); first | apply gp_guard_dec rfl rfl rfl rfl | apply gp_guard rfl rfl rfl rfl | fail))
          | refine gp_two ?_ ?_ | refine gp_done hd hk ?_ | intro _ | refine p_ta hd hk (fun _ _ _ hd hk => ?_) | refine p_ts hd hk (fun _ hd hk => ?_))
        refine gp_as 201 (v' := .bool false) rfl (congrArg Value.bool (by simp)) ?_
        repeat (first
          | (refine gp_take ?_; first | refine p_q ?_ | refine p_x ?_ | refine p_mq ?_ | ((fail_if_success refine gp_lit rfl rfl rfl rfl ?_); first | apply gp_guard_dec rfl rfl rfl rfl | apply gp_guard rfl rfl rfl rfl | fail))
          | (refine gp_see ?_; first | refine p_f ?_ | refine p_sx ?_ | ((fail_if_success refine gp_lit rfl rfl rfl rfl ?_); first | apply gp_guard_dec rfl rfl rfl rfl | apply gp_guard rfl rfl rfl rfl | fail) | refine p_sq ?_)
          | (refine gp_one ?_; first | refine p_v ?_ | refine p_s ?_ | refine p_n (fun _ => ?_) | refine p_y ?_ | refine p_app (fun _ _ => ?_) | refine p_mv ?_ | refine p_ms ?_ | refine p_b0 (fun _ => ?_) | ((fail_if_success refine gp_lit rfl rfl rfl rfl ?_); first | apply gp_guard_dec rfl rfl rfl rfl | apply gp_guard rfl rfl rfl rfl | fail))
          | refine gp_two ?_ ?_ | refine gp_done hd hk ?_ | intro _ | refine p_ta hd hk (fun _ _ _ hd hk => ?_) | refine p_ts hd hk (fun _ hd hk => ?_))
        refine gp_as 217 (v' := .bool false) rfl (congrArg Value.bool (by simp)) ?_
        repeat (first
          | (refine gp_take ?_; first | refine p_q ?_ | refine p_x ?_ | refine p_mq ?_ | ((fail_if_success refine gp_lit rfl rfl rfl rfl ?_); first | apply gp_guard_dec rfl rfl rfl rfl | apply gp_guard rfl rfl rfl rfl | fail))
          | (refine gp_see ?_; first | refine p_f ?_ | refine p_sx ?_ | ((fail_if_success refine gp_lit rfl rfl rfl rfl ?_); first | apply gp_guard_dec rfl rfl rfl rfl | apply gp_guard rfl rfl rfl rfl | fail) | refine p_sq ?_)
          | (refine gp_one ?_; first | refine p_v ?_ | refine p_s ?_ | refine p_n (fun _ => ?_) | refine p_y ?_ | refine p_app (fun _ _ => ?_) | refine p_mv ?_ | refine p_ms ?_ | refine p_b0 (fun _ => ?_) | ((fail_if_success refine gp_lit rfl rfl rfl rfl ?_); first | apply gp_guard_dec rfl rfl rfl rfl | apply gp_guard rfl rfl rfl rfl | fail))
          | refine gp_two ?_ ?_ | refine gp_done hd hk ?_ | intro _ | refine p_ta hd hk (fun _ _ _ hd hk => ?_) | refine p_ts hd hk (fun _ hd hk => ?_))
        refine gp_as 235 (v' := .bool false) rfl (congrArg Value.bool (by simp)) ?_
        repeat (first
          | (refine gp_take ?_; first | refine p_q ?_ | refine p_x ?_ | refine p_mq ?_ | ((fail_if_success refine gp_lit rfl rfl rfl rfl ?_); first | apply gp_guard_dec rfl rfl rfl rfl | apply gp_guard rfl rfl rfl rfl | fail))
          | (refine gp_see ?_; first | refine p_f ?_ | refine p_sx ?_ | ((fail_if_success refine gp_lit rfl rfl rfl rfl ?_); first | apply gp_guard_dec rfl rfl rfl rfl | apply gp_guard rfl rfl rfl rfl | fail) | refine p_sq ?_)
          | (refine gp_one ?_; first | refine p_v ?_ | refine p_s ?_ | refine p_n (fun _ => ?_) | refine p_y ?_ | refine p_app (fun _ _ => ?_) | refine p_mv ?_ | refine p_ms ?_ | refine p_b0 (fun _ => ?_) | ((fail_if_success refine gp_lit rfl rfl rfl rfl ?_); first | apply gp_guard_dec rfl rfl rfl rfl | apply gp_guard rfl rfl rfl rfl | fail))
          | refine gp_two ?_ ?_ | refine gp_done hd hk ?_ | intro _ | refine p_ta hd hk (fun _ _ _ hd hk => ?_) | refine p_ts hd hk (fun _ hd hk => ?_))
        refine gp_as 253 (v' := .bool false) rfl (congrArg Value.bool (by simp)) ?_
        repeat (first
          | (refine gp_take ?_; first | refine p_q ?_ | refine p_x ?_ | refine p_mq ?_ | ((fail_if_success refine gp_lit rfl rfl rfl rfl ?_); first | apply gp_guard_dec rfl rfl rfl rfl | apply gp_guard rfl rfl rfl rfl | fail))
          | (refine gp_see ?_; first | refine p_f ?_ | refine p_sx ?_ | ((fail_if_success refine gp_lit rfl rfl rfl rfl ?_); first | apply gp_guard_dec rfl rfl rfl rfl | apply gp_guard rfl rfl rfl rfl | fail) | refine p_h (hsame) hd hk ?_ | refine p_sq ?_)
          | (refine gp_one ?_; first | refine p_v ?_ | refine p_s ?_ | refine p_n (fun _ => ?_) | refine p_y ?_ | refine p_app (fun _ _ => ?_) | refine p_mv ?_ | refine p_ms ?_ | refine p_b0 (fun _ => ?_) | ((fail_if_success refine gp_lit rfl rfl rfl rfl ?_); first | apply gp_guard_dec rfl rfl rfl rfl | apply gp_guard rfl rfl rfl rfl | fail) | refine p_k (hsame) ?_)
          | refine gp_two ?_ ?_ | refine gp_done hd hk ?_ | intro _ | refine p_ta hd hk (fun _ _ _ hd hk => ?_) | refine p_ts hd hk (fun _ hd hk => ?_))
        dsimp only [List.cons_append, List.nil_append]
        repeat (first
          | (refine g_ops ?_; first | refine s_q ?_ | refine s_v ?_ | refine s_s ?_ | refine s_n (fun _ => ?_) | refine s_x ?_ | refine s_y ?_ | refine s_mq ?_ | refine s_app (fun _ _ => ?_) | refine s_mv ?_ | refine s_ms ?_ | refine s_b0 (fun _ => ?_) | ((fail_if_success refine g_lit rfl rfl rfl ?_); first | apply g_partM rfl rfl rfl | apply g_partMB rfl rfl rfl | fail))
          | refine g_seq ?_ | refine g_region ?_ | refine g_nil ?_ | refine g_then_normal ?_ | refine g_block ?_ | refine g_in_normal ?_ | refine g_retc ?_
          | refine g_then_ret ?_ | refine g_in_ret ?_ | refine g_exit ?_ | refine g_then_exit ?_ | refine g_in_exit ?_ | refine g_in_other rfl ?_ | refine g_skip ?_
          | refine g_label ?_ | refine g_cond_true rfl ?_ | refine g_cond_false rfl ?_ | exact s_m | intro _)
        refine g_as 11 (v' := int ((j + 1 : Nat) : Int)) rfl (congrArg (Value.int .i64) (by push_cast; rfl)) ?_
        exact g_again (j + 1) (by omega) hj' (by (repeat (first | exact FrSub.nil | refine FrSub.cons rfl ?_)); first | done | fail) (by (repeat (first | exact Take.nil | apply Take.cons | exact Sel.here | apply Sel.there)); first | done | fail)
      · repeat (first
          | (refine g_ops ?_; first | refine s_q ?_ | refine s_v ?_ | refine s_s ?_ | refine s_n (fun _ => ?_) | refine s_x ?_ | refine s_y ?_ | refine s_mq ?_ | refine s_app (fun _ _ => ?_) | refine s_mv ?_ | refine s_ms ?_ | refine s_b0 (fun _ => ?_) | ((fail_if_success refine g_lit rfl rfl rfl ?_); first | apply g_partM rfl rfl rfl | apply g_partMB rfl rfl rfl | fail) | refine s_k (awake) ?_)
          | refine g_seq ?_ | refine g_region ?_ | refine g_nil ?_ | refine g_then_normal ?_ | refine g_block ?_ | refine g_in_normal ?_ | refine g_retc ?_
          | refine g_then_ret ?_ | refine g_in_ret ?_ | refine g_exit ?_ | refine g_then_exit ?_ | refine g_in_exit ?_ | refine g_in_other rfl ?_ | refine g_skip ?_
          | refine g_label ?_ | refine g_cond_true rfl ?_ | refine g_cond_false rfl ?_ | exact s_m | intro _)
        refine g_unpile (hs.trans hys) (by (repeat (first | exact Sel.here | apply Sel.there)); first | done | fail) ?_
        exact g_ret () rfl (by (repeat (first | exact RVs.nil | apply RVs.tmp rfl | apply RVs.cellA rfl (by (repeat (first | exact Sel.here | apply Sel.there)); first | done | fail) (by (repeat (first | exact Cut.zero | apply Cut.take | apply Cut.skip)); first | done | fail) | apply RVs.cell1 rfl (by (repeat (first | exact Sel.here | apply Sel.there)); first | done | fail) rfl)); first | done | fail) (by (repeat (first | exact Take.nil | apply Take.cons | exact Sel.here | apply Sel.there)); first | done | fail) rfl trivial
    | some m =>
      dsimp only [mpL, List.cons_append, List.nil_append, List.append_nil]
      repeat (first
        | (refine g_ops ?_; first | refine s_q ?_ | refine s_v ?_ | refine s_s ?_ | refine s_n (fun _ => ?_) | refine s_x ?_ | refine s_y ?_ | refine s_mq ?_ | refine s_app (fun _ _ => ?_) | refine s_mv ?_ | refine s_ms ?_ | refine s_b0 (fun _ => ?_) | ((fail_if_success refine g_lit rfl rfl rfl ?_); first | apply g_partM rfl rfl rfl | apply g_partMB rfl rfl rfl | fail) | refine s_c (repliesQ b s (some m) fp fs.length fc rp rc as_ (by omega) ha1 as2.length hda.symm) (fun _ _ => ?_))
        | refine g_seq ?_ | refine g_region ?_ | refine g_nil ?_ | refine g_then_normal ?_ | refine g_block ?_ | refine g_in_normal ?_ | refine g_retc ?_
        | refine g_then_ret ?_ | refine g_in_ret ?_ | refine g_exit ?_ | refine g_then_exit ?_ | refine g_in_exit ?_ | refine g_in_other rfl ?_ | refine g_skip ?_
        | refine g_label ?_ | refine g_cond_true rfl ?_ | refine g_cond_false rfl ?_ | exact s_m | intro _)
      rename_i y hy
      obtain ⟨yq, yc, yo, H2⟩ := y
      obtain ⟨hys, hyo, hyd, hyl⟩ := hy
      dsimp only at hys hyo hyd hyl ⊢
      dsimp only [List.cons_append, List.nil_append]
      refine g_own (p := yq) (len := as2.length) (cap := yc) (n := 15) (xs := yo.flatMap Ans.cells) (e := 74) (by (repeat (first | exact Sel.here | apply Sel.there)); first | done | fail) (fun _ _ hq1 => ?_)
      refine g_own (p := rp2) (len := as2.length) (cap := rc2) (n := 15) (xs := as2.flatMap Ans.cells) (e := 74) (by (repeat (first | exact Sel.here | apply Sel.there)); first | done | fail) (fun _ _ hq2 => ?_)
      have hdy : yo.map Ans.d = as2.map Ans.d := hyd.trans hdd
      have hA2' : ∀ a ∈ as2, RpAt (Pile H2) a.r := fun a ha => (ha2 a ha).grow hys
      refine g_loop (X := Nat) (fun j => [(2, .bool false), (4, ptr b2), (10, .slice yq as2.length yc), (11, int j)]) (fun _ => [.own yq as2.length yc 15 (yo.flatMap Ans.cells) 74, rrow b2 s fp2 fs.length fc2 rp2 as2.length rc2 pp ps.length pc tp ts.length tc, .own rp2 as2.length rc2 15 (as2.flatMap Ans.cells) 74, Pile H2]) (fun j => j ≤ as2.length) (fun j => as2.length - j) 0 (Nat.zero_le _) (by (repeat (first | exact FrSub.nil | refine FrSub.cons rfl ?_)); first | done | fail) (by (repeat (first | exact Take.nil | apply Take.cons | exact Sel.here | apply Sel.there)); first | done | fail) (fun j hj => ?_)
      repeat (first
        | (refine g_ops ?_; first | refine s_q ?_ | refine s_v ?_ | refine s_s ?_ | refine s_n (fun _ => ?_) | refine s_x ?_ | refine s_y ?_ | refine s_mq ?_ | refine s_app (fun _ _ => ?_) | refine s_mv ?_ | refine s_ms ?_ | refine s_b0 (fun _ => ?_) | ((fail_if_success refine g_lit rfl rfl rfl ?_); first | apply g_partM rfl rfl rfl | apply g_partMB rfl rfl rfl | fail))
        | refine g_seq ?_ | refine g_region ?_ | refine g_nil ?_ | refine g_then_normal ?_ | refine g_block ?_ | refine g_in_normal ?_ | refine g_retc ?_
        | refine g_then_ret ?_ | refine g_in_ret ?_ | refine g_exit ?_ | refine g_then_exit ?_ | refine g_in_exit ?_ | refine g_in_other rfl ?_ | refine g_skip ?_
        | refine g_label ?_ | refine g_cond_true rfl ?_ | refine g_cond_false rfl ?_ | exact s_m | intro _)
      refine g_cond_dec rfl (fun h3 => ?_) (fun h3 => ?_)
      · have hj' : j < as2.length := by omega
        have hj2 : j < yo.length := by omega
        obtain ⟨yb, rfl⟩ := hq1 (by omega)
        obtain ⟨rb, rfl⟩ := hq2 (by omega)
        have hdj : yo[j].d = as2[j].d := by
          have h4 := congrArg (·[j]?) hdy
          simpa [hj', hj2] using h4
        have hc1 := own_at (b := yb) (len := as2.length) (cap := yc) (e := 74) ans_len (l := yo) (i := j) (a := yo[j]) (by simp [hj2])
        have hc2 := own_at (b := rb) (len := as2.length) (cap := rc2) (e := 74) ans_len (l := as2) (i := j) (a := as2[j]) (by simp [hj'])
        have hA1 := hyo yo[j] (List.getElem_mem _)
        have hA2 := hA2' as2[j] (List.getElem_mem _)
        generalize yo[j] = u at hc1 hdj hA1
        generalize as2[j] = w at hc2 hdj hA2
        obtain ⟨n1, v1, p11, m11, c11, l11, p12, c12, e1, p13, m13, c13, l13⟩ := u
        obtain ⟨n2, v2, p21, m21, c21, l21, p22, c22, e2, p23, m23, c23, l23⟩ := w
        simp only [Ans.d, Prod.mk.injEq] at hdj
        obtain ⟨rfl, rfl, rfl⟩ := hdj
        have hB1 : SlAt (Pile H2) 7 p12 e1.length (e1.flatMap Ev.cells) := hA1.a2
        have hB2 : SlAt (Pile H2) 7 p22 e1.length (e1.flatMap Ev.cells) := hA2.a2
        have hB3 : e1.length ≤ 1000000000 := hA1.n2
        dsimp only [Ans.cells, Rp.cells] at hc1 hc2
        have hcell : ∀ (jj : Nat) (v : Value), (v1.cellsF p11 m11 c11 p12 e1.length c12 p13 m13 c13)[jj]? = some v → Reads (.own (some ⟨yb, 0, none⟩) as2.length yc 15 (yo.flatMap Ans.cells) 74) ⟨yb, 0 + j * 15 + 2 + jj, none⟩ v := fun jj v h => by
          rw [Nat.add_assoc]; exact hc1 (2 + jj) v (by rw [Nat.add_comm 2 jj]; exact h)
        have hcell2 : ∀ (jj : Nat) (v : Value), (v1.cellsF p21 m21 c21 p22 e1.length c22 p23 m23 c23)[jj]? = some v → Reads (.own (some ⟨rb, 0, none⟩) as2.length rc2 15 (as2.flatMap Ans.cells) 74) ⟨rb, 0 + j * 15 + 2 + jj, none⟩ v := fun jj v h => by
          rw [Nat.add_assoc]; exact hc2 (2 + jj) v (by rw [Nat.add_comm 2 jj]; exact h)
        have hrow2 : ∀ (jj : Nat) (v : Value), ([int v1.st.w, int v1.st.l, int v1.st.n] : List Value)[jj]? = some v → Reads (.own (some ⟨rb, 0, none⟩) as2.length rc2 15 (as2.flatMap Ans.cells) 74) ⟨rb, 0 + j * 15 + 2 + 1 + jj, none⟩ v := fun jj v h => by
          rw [Nat.add_assoc (0 + j * 15 + 2)]
          refine hcell2 (1 + jj) v ?_
          rcases jj with _ | _ | _ | jj
          · exact h
          · exact h
          · exact h
          · simp at h
        have hr : ∀ k, k < 2 → Reads (.own (some ⟨yb, 0, none⟩) as2.length yc 15 (yo.flatMap Ans.cells) 74) ⟨yb, 0 + j * 15 + k, none⟩ (int (if k = 0 then 0 else n1)) := fun k hk => by
          rcases k with _ | _ | k
          · exact hc1 0 _ rfl
          · exact hc1 1 _ rfl
          · omega
        have hr2 : ∀ k, k = 1 → Reads (.own (some ⟨rb, 0, none⟩) as2.length rc2 15 (as2.flatMap Ans.cells) 74) ⟨rb, 0 + j * 15 + k, none⟩ (int n1) := fun k hk => by subst hk; exact hc2 1 _ rfl
        have hsame := sameEvs p12 p22 c12 c22 e1 hB1 hB2 hB3
        repeat (first
          | (refine g_ops ?_; first | refine s_q ?_ | refine s_v ?_ | refine s_s ?_ | refine s_n (fun _ => ?_) | refine s_x ?_ | refine s_y ?_ | refine s_mq ?_ | refine s_app (fun _ _ => ?_) | refine s_mv ?_ | refine s_ms ?_ | refine s_b0 (fun _ => ?_) | ((fail_if_success refine g_lit rfl rfl rfl ?_); first | apply g_partM rfl rfl rfl | apply g_partMB rfl rfl rfl | fail))
          | apply g_regB (id := 11) 124 | refine g_drawS2 (id := 13) 3 4 (.take 0 (.take 1 (.take 2 (.take 3 (.take 4 (.see 5 [] (.take 6 (.take 7 (.take 8 (.take 9 (.see 10 [] (.take 12 (.take 13 (.take 14 (.take 15 (.take 16 (.see 17 [] (.take 18 (.take 19 (.take 20 (.take 21 (.see 22 [] (.one 11 (.one 23 (.take 24 .done))))))))))))))))))))))))) (fun k hd hk => ?_)
          | refine g_seq ?_ | refine g_region ?_ | refine g_nil ?_ | refine g_then_normal ?_ | refine g_block ?_ | refine g_in_normal ?_ | refine g_retc ?_
          | refine g_then_ret ?_ | refine g_in_ret ?_ | refine g_exit ?_ | refine g_then_exit ?_ | refine g_in_exit ?_ | refine g_in_other rfl ?_ | refine g_skip ?_
          | refine g_label ?_ | refine g_cond_true rfl ?_ | refine g_cond_false rfl ?_ | exact s_m | intro _ | (refine gp_take ?_; first | refine p_q ?_ | refine p_x ?_ | refine p_mq ?_ | ((fail_if_success refine gp_lit rfl rfl rfl rfl ?_); first | apply gp_guard_dec rfl rfl rfl rfl | apply gp_guard rfl rfl rfl rfl | fail))
          | (refine gp_see ?_; first | refine p_f ?_ | refine p_sx ?_ | ((fail_if_success refine gp_lit rfl rfl rfl rfl ?_); first | apply gp_guard_dec rfl rfl rfl rfl | apply gp_guard rfl rfl rfl rfl | fail) | refine p_sq ?_)
          | (refine gp_one ?_; first | refine p_v ?_ | refine p_s ?_ | refine p_n (fun _ => ?_) | refine p_y ?_ | refine p_app (fun _ _ => ?_) | refine p_mv ?_ | refine p_ms ?_ | refine p_b0 (fun _ => ?_) | ((fail_if_success refine gp_lit rfl rfl rfl rfl ?_); first | apply gp_guard_dec rfl rfl rfl rfl | apply gp_guard rfl rfl rfl rfl | fail))
          | refine gp_two ?_ ?_ | refine gp_done hd hk ?_ | intro _ | refine p_ta hd hk (fun _ _ _ hd hk => ?_) | refine p_ts hd hk (fun _ hd hk => ?_))
        refine g_draw (.take 0 (.take 1 (.take 2 (.take 3 (.see 4 [] (.take 5 (.take 6 (.take 7 (.take 8 (.take 9 (.take 10 (.see 11 [] (.take 12 (.take 13 (.take 14 (.see 15 [] (.take 16 (.take 17 (.take 18 (.see 19 [] (.take 20 (.take 21 (.take 22 (.take 23 (.take 24 (.take 25 (.take 26 (.take 27 (.see 28 [] (.take 29 (.take 30 (.take 31 (.see 32 [] (.take 33 (.take 34 (.take 35 (.take 36 (.see 37 [] (.take 38 (.take 39 (.take 40 (.take 41 (.take 42 (.take 43 (.take 44 (.take 45 (.see 46 [] (.take 47 (.take 48 (.take 49 (.see 50 [] (.take 51 (.take 52 (.take 53 (.take 54 (.see 55 [] (.take 56 (.take 57 (.take 58 (.take 59 (.take 60 (.take 61 (.take 62 (.take 63 (.see 64 [] (.take 65 (.take 66 (.take 67 (.see 68 [] (.take 69 (.take 70 (.take 71 (.take 72 (.see 73 [] (.one 74 (.take 75 (.take 76 .done))))))))))))))))))))))))))))))))))))))))))))))))))))))))))))))))))))))))))))) (by kernel_rfl) (C := [.own (some ⟨yb, 0, none⟩) as2.length yc 15 (yo.flatMap Ans.cells) 74, rrow b2 s fp2 fs.length fc2 (some ⟨rb, 0, none⟩) as2.length rc2 pp ps.length pc tp ts.length tc, .own (some ⟨rb, 0, none⟩) as2.length rc2 15 (as2.flatMap Ans.cells) 74]) (by (repeat (first | exact Take.nil | apply Take.cons | exact Sel.here | apply Sel.there)); first | done | fail) (fun k hd hk => ?_)
        repeat (first
          | (refine gp_take ?_; first | refine p_q ?_ | refine p_x ?_ | refine p_mq ?_ | ((fail_if_success refine gp_lit rfl rfl rfl rfl ?_); first | apply gp_guard_dec rfl rfl rfl rfl | apply gp_guard rfl rfl rfl rfl | fail))
          | (refine gp_see ?_; first | refine p_f ?_ | refine p_sx ?_ | ((fail_if_success refine gp_lit rfl rfl rfl rfl ?_); first | apply gp_guard_dec rfl rfl rfl rfl | apply gp_guard rfl rfl rfl rfl | fail) | refine p_sq ?_)
          | (refine gp_one ?_; first | refine p_v ?_ | refine p_s ?_ | refine p_n (fun _ => ?_) | refine p_y ?_ | refine p_app (fun _ _ => ?_) | refine p_mv ?_ | refine p_ms ?_ | refine p_b0 (fun _ => ?_) | ((fail_if_success refine gp_lit rfl rfl rfl rfl ?_); first | apply gp_guard_dec rfl rfl rfl rfl | apply gp_guard rfl rfl rfl rfl | fail))
          | refine gp_two ?_ ?_ | refine gp_done hd hk ?_ | intro _ | refine p_ta hd hk (fun _ _ _ hd hk => ?_) | refine p_ts hd hk (fun _ hd hk => ?_))
        refine gp_as 201 (v' := .bool false) rfl (congrArg Value.bool (by simp)) ?_
        repeat (first
          | (refine gp_take ?_; first | refine p_q ?_ | refine p_x ?_ | refine p_mq ?_ | ((fail_if_success refine gp_lit rfl rfl rfl rfl ?_); first | apply gp_guard_dec rfl rfl rfl rfl | apply gp_guard rfl rfl rfl rfl | fail))
          | (refine gp_see ?_; first | refine p_f ?_ | refine p_sx ?_ | ((fail_if_success refine gp_lit rfl rfl rfl rfl ?_); first | apply gp_guard_dec rfl rfl rfl rfl | apply gp_guard rfl rfl rfl rfl | fail) | refine p_sq ?_)
          | (refine gp_one ?_; first | refine p_v ?_ | refine p_s ?_ | refine p_n (fun _ => ?_) | refine p_y ?_ | refine p_app (fun _ _ => ?_) | refine p_mv ?_ | refine p_ms ?_ | refine p_b0 (fun _ => ?_) | ((fail_if_success refine gp_lit rfl rfl rfl rfl ?_); first | apply gp_guard_dec rfl rfl rfl rfl | apply gp_guard rfl rfl rfl rfl | fail))
          | refine gp_two ?_ ?_ | refine gp_done hd hk ?_ | intro _ | refine p_ta hd hk (fun _ _ _ hd hk => ?_) | refine p_ts hd hk (fun _ hd hk => ?_))
        refine gp_as 217 (v' := .bool false) rfl (congrArg Value.bool (by simp)) ?_
        repeat (first
          | (refine gp_take ?_; first | refine p_q ?_ | refine p_x ?_ | refine p_mq ?_ | ((fail_if_success refine gp_lit rfl rfl rfl rfl ?_); first | apply gp_guard_dec rfl rfl rfl rfl | apply gp_guard rfl rfl rfl rfl | fail))
          | (refine gp_see ?_; first | refine p_f ?_ | refine p_sx ?_ | ((fail_if_success refine gp_lit rfl rfl rfl rfl ?_); first | apply gp_guard_dec rfl rfl rfl rfl | apply gp_guard rfl rfl rfl rfl | fail) | refine p_sq ?_)
          | (refine gp_one ?_; first | refine p_v ?_ | refine p_s ?_ | refine p_n (fun _ => ?_) | refine p_y ?_ | refine p_app (fun _ _ => ?_) | refine p_mv ?_ | refine p_ms ?_ | refine p_b0 (fun _ => ?_) | ((fail_if_success refine gp_lit rfl rfl rfl rfl ?_); first | apply gp_guard_dec rfl rfl rfl rfl | apply gp_guard rfl rfl rfl rfl | fail))
          | refine gp_two ?_ ?_ | refine gp_done hd hk ?_ | intro _ | refine p_ta hd hk (fun _ _ _ hd hk => ?_) | refine p_ts hd hk (fun _ hd hk => ?_))
        refine gp_as 235 (v' := .bool false) rfl (congrArg Value.bool (by simp)) ?_
        repeat (first
          | (refine gp_take ?_; first | refine p_q ?_ | refine p_x ?_ | refine p_mq ?_ | ((fail_if_success refine gp_lit rfl rfl rfl rfl ?_); first | apply gp_guard_dec rfl rfl rfl rfl | apply gp_guard rfl rfl rfl rfl | fail))
          | (refine gp_see ?_; first | refine p_f ?_ | refine p_sx ?_ | ((fail_if_success refine gp_lit rfl rfl rfl rfl ?_); first | apply gp_guard_dec rfl rfl rfl rfl | apply gp_guard rfl rfl rfl rfl | fail) | refine p_sq ?_)
          | (refine gp_one ?_; first | refine p_v ?_ | refine p_s ?_ | refine p_n (fun _ => ?_) | refine p_y ?_ | refine p_app (fun _ _ => ?_) | refine p_mv ?_ | refine p_ms ?_ | refine p_b0 (fun _ => ?_) | ((fail_if_success refine gp_lit rfl rfl rfl rfl ?_); first | apply gp_guard_dec rfl rfl rfl rfl | apply gp_guard rfl rfl rfl rfl | fail))
          | refine gp_two ?_ ?_ | refine gp_done hd hk ?_ | intro _ | refine p_ta hd hk (fun _ _ _ hd hk => ?_) | refine p_ts hd hk (fun _ hd hk => ?_))
        refine gp_as 253 (v' := .bool false) rfl (congrArg Value.bool (by simp)) ?_
        repeat (first
          | (refine gp_take ?_; first | refine p_q ?_ | refine p_x ?_ | refine p_mq ?_ | ((fail_if_success refine gp_lit rfl rfl rfl rfl ?_); first | apply gp_guard_dec rfl rfl rfl rfl | apply gp_guard rfl rfl rfl rfl | fail))
          | (refine gp_see ?_; first | refine p_f ?_ | refine p_sx ?_ | ((fail_if_success refine gp_lit rfl rfl rfl rfl ?_); first | apply gp_guard_dec rfl rfl rfl rfl | apply gp_guard rfl rfl rfl rfl | fail) | refine p_h (hsame) hd hk ?_ | refine p_sq ?_)
          | (refine gp_one ?_; first | refine p_v ?_ | refine p_s ?_ | refine p_n (fun _ => ?_) | refine p_y ?_ | refine p_app (fun _ _ => ?_) | refine p_mv ?_ | refine p_ms ?_ | refine p_b0 (fun _ => ?_) | ((fail_if_success refine gp_lit rfl rfl rfl rfl ?_); first | apply gp_guard_dec rfl rfl rfl rfl | apply gp_guard rfl rfl rfl rfl | fail) | refine p_k (hsame) ?_)
          | refine gp_two ?_ ?_ | refine gp_done hd hk ?_ | intro _ | refine p_ta hd hk (fun _ _ _ hd hk => ?_) | refine p_ts hd hk (fun _ hd hk => ?_))
        dsimp only [List.cons_append, List.nil_append]
        repeat (first
          | (refine g_ops ?_; first | refine s_q ?_ | refine s_v ?_ | refine s_s ?_ | refine s_n (fun _ => ?_) | refine s_x ?_ | refine s_y ?_ | refine s_mq ?_ | refine s_app (fun _ _ => ?_) | refine s_mv ?_ | refine s_ms ?_ | refine s_b0 (fun _ => ?_) | ((fail_if_success refine g_lit rfl rfl rfl ?_); first | apply g_partM rfl rfl rfl | apply g_partMB rfl rfl rfl | fail))
          | refine g_seq ?_ | refine g_region ?_ | refine g_nil ?_ | refine g_then_normal ?_ | refine g_block ?_ | refine g_in_normal ?_ | refine g_retc ?_
          | refine g_then_ret ?_ | refine g_in_ret ?_ | refine g_exit ?_ | refine g_then_exit ?_ | refine g_in_exit ?_ | refine g_in_other rfl ?_ | refine g_skip ?_
          | refine g_label ?_ | refine g_cond_true rfl ?_ | refine g_cond_false rfl ?_ | exact s_m | intro _)
        refine g_as 11 (v' := int ((j + 1 : Nat) : Int)) rfl (congrArg (Value.int .i64) (by push_cast; rfl)) ?_
        exact g_again (j + 1) (by omega) hj' (by (repeat (first | exact FrSub.nil | refine FrSub.cons rfl ?_)); first | done | fail) (by (repeat (first | exact Take.nil | apply Take.cons | exact Sel.here | apply Sel.there)); first | done | fail)
      · repeat (first
          | (refine g_ops ?_; first | refine s_q ?_ | refine s_v ?_ | refine s_s ?_ | refine s_n (fun _ => ?_) | refine s_x ?_ | refine s_y ?_ | refine s_mq ?_ | refine s_app (fun _ _ => ?_) | refine s_mv ?_ | refine s_ms ?_ | refine s_b0 (fun _ => ?_) | ((fail_if_success refine g_lit rfl rfl rfl ?_); first | apply g_partM rfl rfl rfl | apply g_partMB rfl rfl rfl | fail) | refine s_k (awake) ?_)
          | refine g_seq ?_ | refine g_region ?_ | refine g_nil ?_ | refine g_then_normal ?_ | refine g_block ?_ | refine g_in_normal ?_ | refine g_retc ?_
          | refine g_then_ret ?_ | refine g_in_ret ?_ | refine g_exit ?_ | refine g_then_exit ?_ | refine g_in_exit ?_ | refine g_in_other rfl ?_ | refine g_skip ?_
          | refine g_label ?_ | refine g_cond_true rfl ?_ | refine g_cond_false rfl ?_ | exact s_m | intro _)
        refine g_unpile (hs.trans hys) (by (repeat (first | exact Sel.here | apply Sel.there)); first | done | fail) ?_
        exact g_ret () rfl (by (repeat (first | exact RVs.nil | apply RVs.tmp rfl | apply RVs.cellA rfl (by (repeat (first | exact Sel.here | apply Sel.there)); first | done | fail) (by (repeat (first | exact Cut.zero | apply Cut.take | apply Cut.skip)); first | done | fail) | apply RVs.cell1 rfl (by (repeat (first | exact Sel.here | apply Sel.there)); first | done | fail) rfl)); first | done | fail) (by (repeat (first | exact Take.nil | apply Take.cons | exact Sel.here | apply Sel.there)); first | done | fail) rfl trivial
end Go.Proofs.Ytkejdilmdpgbpaa
