/- DiskNames: the walk. -/
import Derived.Test.YtfjkfcfmbipfhaaDskL
set_option linter.unusedSimpArgs false
set_option linter.unusedVariables false
namespace Go.Proofs.Ytfjkfcfmbipfhaa
open Go.Sl facts
attribute [local irreducible] Code.wp wpList Exit.then Exit.inBlock bodyPost Back MidQ G GP QStep VStep CStep SStep Does Post Reads
structure NX where
  i : Nat
  o : One
theorem keep0 (ln : Nat) (v : Int) : keep ln 0 v = 0 := if_neg (by omega)
theorem names (W : World) (pp : Option Addr) (pl : List Int) (pc : Nat) (hP : IntsAt (Init W) pp pl) (sy mo : Int) : Does1 Try.prog 6 [.slice pp pl.length pc, int sy, int mo] [Init W] (.bool true) := by
  refine fn_intro Try.func6 rfl Try.ntmps6 rfl (by simp only [argFr, Nat.zero_add, Nat.reduceAdd]; rfl) (fun Γ => ?_)
  repeat (first
    | (refine g_ops ?_; first | refine s_q ?_ | refine s_v ?_ | refine s_s ?_ | refine s_n (fun _ => ?_) | refine s_x ?_ | refine s_y ?_ | refine s_mq ?_ | refine s_app (fun _ _ => ?_) | refine s_mv ?_ | refine s_ms ?_ | refine s_b0 (fun _ => ?_) | ((fail_if_success refine g_lit rfl rfl rfl ?_); first | apply g_partM rfl rfl rfl | apply g_partMB rfl rfl rfl | fail) | refine s_p (awake) ?_)
    | apply g_regB (id := 1) 35 | apply g_regB (id := 5) 71 | apply g_regB (id := 17) 6 | refine g_seq ?_ | refine g_region ?_ | refine g_nil ?_ | refine g_then_normal ?_
    | refine g_block ?_ | refine g_in_normal ?_ | refine g_retc ?_ | refine g_then_ret ?_ | refine g_in_ret ?_ | refine g_exit ?_ | refine g_then_exit ?_
    | refine g_in_exit ?_ | refine g_in_other rfl ?_ | refine g_skip ?_ | refine g_label ?_ | refine g_cond_true rfl ?_ | refine g_cond_false rfl ?_ | exact s_m
    | intro _ | (refine gp_take ?_; first | refine p_q ?_ | refine p_x ?_ | refine p_mq ?_ | ((fail_if_success refine gp_lit rfl rfl rfl rfl ?_); first | apply gp_guard_dec rfl rfl rfl rfl | apply gp_guard rfl rfl rfl rfl | fail) | refine p_p (awake) ?_)
    | (refine gp_see ?_; first | refine p_f ?_ | refine p_sx ?_ | ((fail_if_success refine gp_lit rfl rfl rfl rfl ?_); first | apply gp_guard_dec rfl rfl rfl rfl | apply gp_guard rfl rfl rfl rfl | fail) | refine p_sp (awake) ?_ | refine p_sq ?_)
    | (refine gp_one ?_; first | refine p_v ?_ | refine p_s ?_ | refine p_n (fun _ => ?_) | refine p_y ?_ | refine p_app (fun _ _ => ?_) | refine p_mv ?_ | refine p_ms ?_ | refine p_b0 (fun _ => ?_) | ((fail_if_success refine gp_lit rfl rfl rfl rfl ?_); first | apply gp_guard_dec rfl rfl rfl rfl | apply gp_guard rfl rfl rfl rfl | fail))
    | refine gp_two ?_ ?_ | refine gp_done hd hk ?_ | intro _ | refine p_ta hd hk (fun _ _ _ hd hk => ?_) | refine p_ts hd hk (fun _ hd hk => ?_))
  refine g_cond rfl (fun h => ?_) (fun h => ?_)
  · repeat (first
      | (refine g_ops ?_; first | refine s_q ?_ | refine s_v ?_ | refine s_s ?_ | refine s_n (fun _ => ?_) | refine s_x ?_ | refine s_y ?_ | refine s_mq ?_ | refine s_app (fun _ _ => ?_) | refine s_mv ?_ | refine s_ms ?_ | refine s_b0 (fun _ => ?_) | ((fail_if_success refine g_lit rfl rfl rfl ?_); first | apply g_partM rfl rfl rfl | apply g_partMB rfl rfl rfl | fail) | refine s_p (awake) ?_)
      | refine g_seq ?_ | refine g_region ?_ | refine g_nil ?_ | refine g_then_normal ?_ | refine g_block ?_ | refine g_in_normal ?_ | refine g_retc ?_
      | refine g_then_ret ?_ | refine g_in_ret ?_ | refine g_exit ?_ | refine g_then_exit ?_ | refine g_in_exit ?_ | refine g_in_other rfl ?_ | refine g_skip ?_
      | refine g_label ?_ | refine g_cond_true rfl ?_ | refine g_cond_false rfl ?_ | exact s_m | intro _)
    exact g_ret () rfl (by (repeat (first | exact RVs.nil | apply RVs.tmp rfl | apply RVs.cellA rfl (by (repeat (first | exact Sel.here | apply Sel.there)); first | done | fail) (by (repeat (first | exact Cut.zero | apply Cut.take | apply Cut.skip)); first | done | fail) | apply RVs.cell1 rfl (by (repeat (first | exact Sel.here | apply Sel.there)); first | done | fail) rfl)); first | done | fail) (by (repeat (first | exact Take.nil | apply Take.cons | exact Sel.here | apply Sel.there)); first | done | fail) (by simp [pack]) trivial
  · have hn : pl.length ≤ 30 ∧ 0 ≤ sy ∧ sy ≤ 200 ∧ 0 ≤ mo ∧ mo ≤ 200 := by simp at h; omega
    obtain ⟨sy, rfl⟩ := Int.eq_ofNat_of_zero_le hn.2.1
    obtain ⟨mo, rfl⟩ := Int.eq_ofNat_of_zero_le hn.2.2.2.1
    repeat ((fail_if_success refine s_at 44 ?_); first
      | (refine g_ops ?_; first | refine s_q ?_ | refine s_v ?_ | refine s_s ?_ | refine s_n (fun _ => ?_) | refine s_x ?_ | refine s_y ?_ | refine s_mq ?_ | refine s_app (fun _ _ => ?_) | refine s_mv ?_ | refine s_ms ?_ | refine s_b0 (fun _ => ?_) | ((fail_if_success refine g_lit rfl rfl rfl ?_); first | apply g_partM rfl rfl rfl | apply g_partMB rfl rfl rfl | fail) | refine s_c (new 5000 (by decide) (by decide)) (fun _ _ => ?_))
      | refine g_seq ?_ | refine g_region ?_ | refine g_nil ?_ | refine g_then_normal ?_ | refine g_block ?_ | refine g_in_normal ?_ | refine g_retc ?_
      | refine g_then_ret ?_ | refine g_in_ret ?_ | refine g_exit ?_ | refine g_then_exit ?_ | refine g_in_exit ?_ | refine g_in_other rfl ?_ | refine g_skip ?_
      | refine g_label ?_ | refine g_cond_true rfl ?_ | refine g_cond_false rfl ?_ | exact s_m | intro _)
    rename_i d _
    refine g_as 43 (v' := int ((sy + mo : Nat) : Int)) rfl (by push_cast; rfl) ?_
    repeat (first
      | (refine g_ops ?_; first | refine s_q ?_ | refine s_v ?_ | refine s_s ?_ | refine s_n (fun _ => ?_) | refine s_x ?_ | refine s_y ?_ | refine s_mq ?_ | refine s_app (fun _ _ => ?_) | refine s_mv ?_ | refine s_ms ?_ | refine s_b0 (fun _ => ?_) | ((fail_if_success refine g_lit rfl rfl rfl ?_); first | apply g_partM rfl rfl rfl | apply g_partMB rfl rfl rfl | fail) | refine s_c (bytes (sy + mo) 3 (by omega) (by decide)) (fun _ _ => ?_))
      | refine g_seq ?_ | refine g_region ?_ | refine g_nil ?_ | refine g_then_normal ?_ | refine g_block ?_ | refine g_in_normal ?_ | refine g_retc ?_
      | refine g_then_ret ?_ | refine g_in_ret ?_ | refine g_exit ?_ | refine g_then_exit ?_ | refine g_in_exit ?_ | refine g_in_other rfl ?_ | refine g_skip ?_
      | refine g_label ?_ | refine g_cond_true rfl ?_ | refine g_cond_false rfl ?_ | exact s_m | intro _)
    rename_i x hx
    obtain ⟨bb, cap, l⟩ := x
    obtain ⟨hl, hlc⟩ := hx
    dsimp only at hl hlc ⊢
    have hB : BtAt (⟨bb, cap, l⟩ : BsX).C (some ⟨bb, 0, none⟩) l := btAt_str
    have hS := btAt_slAt hB
    have hA := slAt_take hS (show sy ≤ l.length by omega)
    have hR := btAt_slAt (hB.drop (n := sy) hlc)
    have hla : (l.take sy).length = sy := by simp; omega
    have hlr : (l.drop sy).length = mo := by simp; omega
    refine s_q (q := by exact qs_slice (l := 0) (h := sy) inferInstance inferInstance rfl .none (.some rfl rfl) (Nat.zero_le _) (by omega)) ?_
    refine g_as 55 (v' := .slice (some ⟨bb, 0, none⟩) (l.take sy).length cap) rfl (by rw [offTake, hla]) ?_
    refine g_own_nil none 1 67 ?_
    repeat (first
      | (refine g_ops ?_; first | refine s_q ?_ | refine s_v ?_ | refine s_s ?_ | refine s_n (fun _ => ?_) | refine s_x ?_ | refine s_y ?_ | refine s_mq ?_ | refine s_app (fun _ _ => ?_) | refine s_mv ?_ | refine s_ms ?_ | refine s_b0 (fun _ => ?_) | ((fail_if_success refine g_lit rfl rfl rfl ?_); first | apply g_partM rfl rfl rfl | apply g_partMB rfl rfl rfl | fail) | refine s_c (append_new d 5000 none 0 0 0 (cnt (by decide)) (by decide) bF2 (by decide) (by decide) cap hA (by omega) (by omega)) (fun _ _ => ?_))
      | refine g_seq ?_ | refine g_region ?_ | refine g_nil ?_ | refine g_then_normal ?_ | refine g_block ?_ | refine g_in_normal ?_ | refine g_retc ?_
      | refine g_then_ret ?_ | refine g_in_ret ?_ | refine g_exit ?_ | refine g_then_exit ?_ | refine g_in_exit ?_ | refine g_in_other rfl ?_ | refine g_skip ?_
      | refine g_label ?_ | refine g_cond_true rfl ?_ | refine g_cond_false rfl ?_ | exact s_m | intro _)
    rename_i o ho
    obtain ⟨b, c, f, nm, sp, safe, sc, lp, loose, lc⟩ := o
    obtain ⟨h1, h2, h3⟩ := ho
    dsimp only at h1 h2 h3
    subst h1 h2 h3
    repeat (first
      | (refine g_ops ?_; first | refine s_q ?_ | refine s_v ?_ | refine s_s ?_ | refine s_n (fun _ => ?_) | refine s_x ?_ | refine s_y ?_ | refine s_mq ?_ | refine s_app (fun _ _ => ?_) | refine s_mv ?_ | refine s_ms ?_ | refine s_b0 (fun _ => ?_) | ((fail_if_success refine g_lit rfl rfl rfl ?_); first | apply g_partM rfl rfl rfl | apply g_partMB rfl rfl rfl | fail) | refine s_c (sync_1 d 5000 (0 + 1) (cutN 0) (cnt (by decide)) (by decide) ⟨b, c, f, bF2, sp, [], sc, lp, l.take sy, lc⟩ (by simp) (by dsimp only; omega)) (fun _ _ => ?_))
      | refine g_seq ?_ | refine g_region ?_ | refine g_nil ?_ | refine g_then_normal ?_ | refine g_block ?_ | refine g_in_normal ?_ | refine g_retc ?_
      | refine g_then_ret ?_ | refine g_in_ret ?_ | refine g_exit ?_ | refine g_then_exit ?_ | refine g_in_exit ?_ | refine g_in_other rfl ?_ | refine g_skip ?_
      | refine g_label ?_ | refine g_cond_true rfl ?_ | refine g_cond_false rfl ?_ | exact s_m | intro _)
    rename_i o ho
    obtain ⟨b, c, f, nm, sp, safe, sc, lp, loose, lc⟩ := o
    obtain ⟨h1, h2, h3⟩ := ho
    dsimp only at h1 h2 h3
    rw [List.nil_append] at h2
    subst h1 h2 h3
    refine s_q (q := by exact qs_slice (l := sy) (h := l.length) inferInstance inferInstance rfl (.some rfl rfl) .none (by omega) hlc) ?_
    refine g_as 68 (v' := .slice (if cap = sy then some ⟨bb, 0, none⟩ else (some ⟨bb, 0, none⟩ : Option Addr).map (·.add (sy * 1))) (l.drop sy).length (cap - sy)) rfl (by rw [List.length_drop]) ?_
    have hap := append_old d 5000 (0 + 1 + 1) (cutN (cutN 0)) (cnt (by decide)) (by decide) ⟨b, c, f, bF2, sp, l.take sy, sc, lp, [], lc⟩ (by dsimp only; decide) (by dsimp only; decide) (cap - sy) hR (by omega) (by decide) (by dsimp only; rw [hla, hlr]; simp; omega)
    rw [show (0 + 1 + 1 + 1 : Int) = 3 + ((0 : Nat) : Int) from rfl, show cutN (cutN (cutN 0)) = 0 from rfl] at hap
    repeat (first
      | (refine g_ops ?_; first | refine s_q ?_ | refine s_v ?_ | refine s_s ?_ | refine s_n (fun _ => ?_) | refine s_x ?_ | refine s_y ?_ | refine s_mq ?_ | refine s_app (fun _ _ => ?_) | refine s_mv ?_ | refine s_ms ?_ | refine s_b0 (fun _ => ?_) | ((fail_if_success refine g_lit rfl rfl rfl ?_); first | apply g_partM rfl rfl rfl | apply g_partMB rfl rfl rfl | fail) | refine s_c (hap) (fun _ _ => ?_))
      | refine g_seq ?_ | refine g_region ?_ | refine g_nil ?_ | refine g_then_normal ?_ | refine g_block ?_ | refine g_in_normal ?_ | refine g_retc ?_
      | refine g_then_ret ?_ | refine g_in_ret ?_ | refine g_exit ?_ | refine g_then_exit ?_ | refine g_in_exit ?_ | refine g_in_other rfl ?_ | refine g_skip ?_
      | refine g_label ?_ | refine g_cond_true rfl ?_ | refine g_cond_false rfl ?_ | exact s_m | intro _)
    rename_i o ho
    obtain ⟨h1, h2, h3⟩ := ho
    rw [List.nil_append] at h3
    refine g_as 10 (v' := .string o.nm) rfl (by rw [h1]) ?_
    refine g_loop (X := NX) (fun x => [(0, .slice pp pl.length pc), (1, int sy), (6, .bool false), (7, ptr d), (9, .slice (some ⟨bb, 0, none⟩) l.length cap), (10, .string x.o.nm), (11, int x.i)]) (fun x => oneL x.o d 5000 (3 + (x.i : Int)) 0 [(⟨bb, cap, l⟩ : BsX).C, Init W]) (fun x => x.i ≤ pl.length ∧ x.o.safe = l.take sy ∧ x.o.loose = l.drop sy) (fun x => pl.length - x.i) ⟨0, o⟩ ⟨Nat.zero_le _, h2, h3⟩ (by (repeat (first | exact FrSub.nil | refine FrSub.cons rfl ?_)); first | done | fail) (by (repeat (first | exact Take.nil | apply Take.cons | exact Sel.here | apply Sel.there)); first | done | fail) (fun x hx => ?_)
    obtain ⟨i, o⟩ := x
    obtain ⟨hi, hs1, hs2⟩ := hx
    dsimp only at hi hs1 hs2 ⊢
    repeat (first
      | (refine g_ops ?_; first | refine s_q ?_ | refine s_v ?_ | refine s_s ?_ | refine s_n (fun _ => ?_) | refine s_x ?_ | refine s_y ?_ | refine s_mq ?_ | refine s_app (fun _ _ => ?_) | refine s_mv ?_ | refine s_ms ?_ | refine s_b0 (fun _ => ?_) | ((fail_if_success refine g_lit rfl rfl rfl ?_); first | apply g_partM rfl rfl rfl | apply g_partMB rfl rfl rfl | fail))
      | refine g_seq ?_ | refine g_region ?_ | refine g_nil ?_ | refine g_then_normal ?_ | refine g_block ?_ | refine g_in_normal ?_ | refine g_retc ?_
      | refine g_then_ret ?_ | refine g_in_ret ?_ | refine g_exit ?_ | refine g_then_exit ?_ | refine g_in_exit ?_ | refine g_in_other rfl ?_ | refine g_skip ?_
      | refine g_label ?_ | refine g_cond_true rfl ?_ | refine g_cond_false rfl ?_ | exact s_m | intro _)
    refine g_cond_dec rfl (fun h2 => ?_) (fun h2 => ?_)
    · have hi2 : i < pl.length := by omega
      obtain ⟨hv, pb, po, rfl, hq⟩ := hP i pl[i] (by simp [hi2])
      generalize pl[i] = v at hv hq
      have hr : ∀ j, j = i → Reads (Init W) ⟨pb, po + j, none⟩ (int v) := fun j e => by subst e; exact hq
      have hlf := lf_in v 5 (by decide)
      repeat (first
        | (refine g_ops ?_; first | refine s_q ?_ | refine s_v ?_ | refine s_s ?_ | refine s_n (fun _ => ?_) | refine s_x ?_ | refine s_y ?_ | refine s_mq ?_ | refine s_app (fun _ _ => ?_) | refine s_mv ?_ | refine s_ms ?_ | refine s_b0 (fun _ => ?_) | ((fail_if_success refine g_lit rfl rfl rfl ?_); first | apply g_partM rfl rfl rfl | apply g_partMB rfl rfl rfl | fail) | refine s_p (round v 5 (by decide) (by decide)) ?_)
        | refine g_seq ?_ | refine g_region ?_ | refine g_nil ?_ | refine g_then_normal ?_ | refine g_block ?_ | refine g_in_normal ?_ | refine g_retc ?_
        | refine g_then_ret ?_ | refine g_in_ret ?_ | refine g_exit ?_ | refine g_then_exit ?_ | refine g_in_exit ?_ | refine g_in_other rfl ?_ | refine g_skip ?_
        | refine g_label ?_ | refine g_cond_true rfl ?_ | refine g_cond_false rfl ?_ | exact s_m | intro _)
      refine s_q (q := by exact qs_convInt rfl) ?_
      obtain ⟨bt, hbt⟩ : ∃ bt : UInt8, IntKind.u8.wrap (97 + lf v 5) = (bt.toNat : Int) := ⟨UInt8.ofNat (97 + lf v 5).toNat, by
        rw [wrap_u8 ⟨by omega, by omega⟩]
        simp
        omega⟩
      refine g_as 84 (v' := .int .u8 (bt.toNat : Int)) rfl (congrArg (Value.int .u8) hbt) ?_
      repeat (first
        | (refine g_ops ?_; first | refine s_q ?_ | refine s_v ?_ | refine s_s ?_ | refine s_n (fun _ => ?_) | refine s_x ?_ | refine s_y ?_ | refine s_mq ?_ | refine s_app (fun _ _ => ?_) | refine s_mv ?_ | refine s_ms ?_ | refine s_b0 (fun _ => ?_) | ((fail_if_success refine g_lit rfl rfl rfl ?_); first | apply g_partM rfl rfl rfl | apply g_partMB rfl rfl rfl | fail))
        | refine g_seq ?_ | refine g_region ?_ | refine g_nil ?_ | refine g_then_normal ?_ | refine g_block ?_ | refine g_in_normal ?_ | refine g_retc ?_
        | refine g_then_ret ?_ | refine g_in_ret ?_ | refine g_exit ?_ | refine g_then_exit ?_ | refine g_in_exit ?_ | refine g_in_other rfl ?_ | refine g_skip ?_
        | refine g_label ?_ | refine g_cond_true rfl ?_ | refine g_cond_false rfl ?_ | exact s_m | intro _)
      rename_i rb
      refine g_toOwn (b := rb) (len := 1) (n := 1) .here rfl rfl ?_
      refine g_v (vs_bytesStr (l := [bt]) inferInstance inferInstance inferInstance rfl .here) rfl rfl ?_
      refine s_q (q := by exact qs_addS rfl rfl (show 1 + 1 ≤ 9223372036854775807 by decide)) ?_
      obtain ⟨to, hto, hsz⟩ : ∃ to : ByteArray, to = (⟨#[110]⟩ : ByteArray) ++ (⟨#[bt]⟩ : ByteArray) ∧ to.size = 2 := ⟨_, rfl, by rw [ByteArray.size_append]; rfl⟩
      refine g_as 87 (v' := .string to) rfl (by rw [hto]) ?_
      have hrn := rename_1 d 5000 (3 + (i : Int)) 0 (cnt ⟨⟨by omega, by omega⟩, by decide⟩) (by decide) o to (by omega) (by omega)
      rw [show (3 + (i : Int) + 1) = 3 + ((i + 1 : Nat) : Int) from by push_cast; omega, show cutN 0 = 0 from rfl] at hrn
      repeat (first
        | (refine g_ops ?_; first | refine s_q ?_ | refine s_v ?_ | refine s_s ?_ | refine s_n (fun _ => ?_) | refine s_x ?_ | refine s_y ?_ | refine s_mq ?_ | refine s_app (fun _ _ => ?_) | refine s_mv ?_ | refine s_ms ?_ | refine s_b0 (fun _ => ?_) | ((fail_if_success refine g_lit rfl rfl rfl ?_); first | apply g_partM rfl rfl rfl | apply g_partMB rfl rfl rfl | fail) | refine s_c (hrn) (fun _ _ => ?_))
        | refine g_seq ?_ | refine g_region ?_ | refine g_nil ?_ | refine g_then_normal ?_ | refine g_block ?_ | refine g_in_normal ?_ | refine g_retc ?_
        | refine g_then_ret ?_ | refine g_in_ret ?_ | refine g_exit ?_ | refine g_then_exit ?_ | refine g_in_exit ?_ | refine g_in_other rfl ?_ | refine g_skip ?_
        | refine g_label ?_ | refine g_cond_true rfl ?_ | refine g_cond_false rfl ?_ | exact s_m | intro _)
      rename_i o2 ho2
      refine g_as 10 (v' := .string o2.nm) rfl (by rw [ho2.1]) ?_
      exact g_again ⟨i + 1, o2⟩ (by simp only; omega) ⟨hi2, ho2.2.1.trans hs1, ho2.2.2.trans hs2⟩ (by (repeat (first | exact FrSub.nil | refine FrSub.cons rfl ?_)); first | done | fail) (by (repeat (first | exact Take.nil | apply Take.cons | exact Sel.here | apply Sel.there)); first | done | fail)
    · obtain rfl : i = pl.length := by omega
      obtain ⟨b, c, f, nm, sp, safe, sc, lp, loose, lc⟩ := o
      dsimp only at hs1 hs2 ⊢
      subst hs1 hs2
      have hrd1 := read_1 d 5000 (3 + (pl.length : Int)) 0 ⟨b, c, f, nm, sp, l.take sy, sc, lp, l.drop sy, lc⟩ (by dsimp only; omega) (by dsimp only; omega)
      dsimp only at hrd1
      rw [List.take_append_drop] at hrd1
      repeat (first
        | (refine g_ops ?_; first | refine s_q ?_ | refine s_v ?_ | refine s_s ?_ | refine s_n (fun _ => ?_) | refine s_x ?_ | refine s_y ?_ | refine s_mq ?_ | refine s_app (fun _ _ => ?_) | refine s_mv ?_ | refine s_ms ?_ | refine s_b0 (fun _ => ?_) | ((fail_if_success refine g_lit rfl rfl rfl ?_); first | apply g_partM rfl rfl rfl | apply g_partMB rfl rfl rfl | fail) | refine s_c (hrd1) (fun _ _ => ?_))
        | refine g_seq ?_ | refine g_region ?_ | refine g_nil ?_ | refine g_then_normal ?_ | refine g_block ?_ | refine g_in_normal ?_ | refine g_retc ?_
        | refine g_then_ret ?_ | refine g_in_ret ?_ | refine g_exit ?_ | refine g_then_exit ?_ | refine g_in_exit ?_ | refine g_in_other rfl ?_ | refine g_skip ?_
        | refine g_label ?_ | refine g_cond_true rfl ?_ | refine g_cond_false rfl ?_ | exact s_m | intro _)
      rename_i y _
      obtain ⟨q1, q2⟩ := y
      dsimp only
      repeat (first
        | (refine g_ops ?_; first | refine s_q ?_ | refine s_v ?_ | refine s_s ?_ | refine s_n (fun _ => ?_) | refine s_x ?_ | refine s_y ?_ | refine s_mq ?_ | refine s_app (fun _ _ => ?_) | refine s_mv ?_ | refine s_ms ?_ | refine s_b0 (fun _ => ?_) | ((fail_if_success refine g_lit rfl rfl rfl ?_); first | apply g_partM rfl rfl rfl | apply g_partMB rfl rfl rfl | fail) | refine s_c (crash_1 (C := Init W) d 5000 (3 + (pl.length : Int)) 0 ⟨b, c, f, nm, sp, l.take sy, sc, lp, l.drop sy, lc⟩ none 0 0 (by decide) pick0 (by dsimp only; omega) (by dsimp only; omega)) (fun _ _ => ?_))
        | refine g_seq ?_ | refine g_region ?_ | refine g_nil ?_ | refine g_then_normal ?_ | refine g_block ?_ | refine g_in_normal ?_ | refine g_retc ?_
        | refine g_then_ret ?_ | refine g_in_ret ?_ | refine g_exit ?_ | refine g_then_exit ?_ | refine g_in_exit ?_ | refine g_in_other rfl ?_ | refine g_skip ?_
        | refine g_label ?_ | refine g_cond_true rfl ?_ | refine g_cond_false rfl ?_ | exact s_m | intro _)
      rename_i x hx
      obtain ⟨d2, ⟨b3, c3, f3, nm2, sp3, safe, sc3, lp3, loose, lc3⟩⟩ := x
      obtain ⟨h1, h2, h3⟩ := hx
      dsimp only at h1 h2 h3
      rw [keep0, List.take_zero, List.append_nil] at h2
      subst h1 h2 h3
      have hrd2 := read_1 d2 5000 0 0 ⟨b3, c3, f3, nm2, sp3, l.take sy, sc3, lp3, [], lc3⟩ (by dsimp only; omega) (by simp)
      dsimp only at hrd2
      rw [List.append_nil] at hrd2
      dsimp only
      repeat (first
        | (refine g_ops ?_; first | refine s_q ?_ | refine s_v ?_ | refine s_s ?_ | refine s_n (fun _ => ?_) | refine s_x ?_ | refine s_y ?_ | refine s_mq ?_ | refine s_app (fun _ _ => ?_) | refine s_mv ?_ | refine s_ms ?_ | refine s_b0 (fun _ => ?_) | ((fail_if_success refine g_lit rfl rfl rfl ?_); first | apply g_partM rfl rfl rfl | apply g_partMB rfl rfl rfl | fail) | refine s_c (hrd2) (fun _ _ => ?_))
        | refine g_seq ?_ | refine g_region ?_ | refine g_nil ?_ | refine g_then_normal ?_ | refine g_block ?_ | refine g_in_normal ?_ | refine g_retc ?_
        | refine g_then_ret ?_ | refine g_in_ret ?_ | refine g_exit ?_ | refine g_then_exit ?_ | refine g_in_exit ?_ | refine g_in_other rfl ?_ | refine g_skip ?_
        | refine g_label ?_ | refine g_cond_true rfl ?_ | refine g_cond_false rfl ?_ | exact s_m | intro _)
      rename_i y _
      obtain ⟨q3, q4⟩ := y
      dsimp only
      repeat (first
        | (refine g_ops ?_; first | refine s_q ?_ | refine s_v ?_ | refine s_s ?_ | refine s_n (fun _ => ?_) | refine s_x ?_ | refine s_y ?_ | refine s_mq ?_ | refine s_app (fun _ _ => ?_) | refine s_mv ?_ | refine s_ms ?_ | refine s_b0 (fun _ => ?_) | ((fail_if_success refine g_lit rfl rfl rfl ?_); first | apply g_partM rfl rfl rfl | apply g_partMB rfl rfl rfl | fail) | refine s_k (bytes_eq q1 (some ⟨bb, 0, none⟩) q2 cap l (by omega) hS) ?_ | refine s_c (names_1 d 5000 (3 + (pl.length : Int)) 0 ⟨b, c, f, nm2, sp, l.take sy, sc, lp, l.drop sy, lc⟩) (fun _ _ => ?_))
        | refine g_seq ?_ | refine g_region ?_ | refine g_nil ?_ | refine g_then_normal ?_ | refine g_block ?_ | refine g_in_normal ?_ | refine g_retc ?_
        | refine g_then_ret ?_ | refine g_in_ret ?_ | refine g_exit ?_ | refine g_then_exit ?_ | refine g_in_exit ?_ | refine g_in_other rfl ?_ | refine g_skip ?_
        | refine g_label ?_ | refine g_cond_true rfl ?_ | refine g_cond_false rfl ?_ | exact s_m | intro _)
      refine s_q (q := by exact qs_slice (l := 0) (h := sy) inferInstance inferInstance rfl .none (.some rfl rfl) (Nat.zero_le _) (by omega)) ?_
      refine g_as 128 (v' := .slice (some ⟨bb, 0, none⟩) (l.take sy).length cap) rfl (by rw [offTake, hla]) ?_
      repeat (first
        | (refine g_ops ?_; first | refine s_q ?_ | refine s_v ?_ | refine s_s ?_ | refine s_n (fun _ => ?_) | refine s_x ?_ | refine s_y ?_ | refine s_mq ?_ | refine s_app (fun _ _ => ?_) | refine s_mv ?_ | refine s_ms ?_ | refine s_b0 (fun _ => ?_) | ((fail_if_success refine g_lit rfl rfl rfl ?_); first | apply g_partM rfl rfl rfl | apply g_partMB rfl rfl rfl | fail) | refine s_p (awake) ?_ | refine s_k (bytes_eq q3 (some ⟨bb, 0, none⟩) q4 cap (l.take sy) (by omega) hA) ?_)
        | refine g_seq ?_ | refine g_region ?_ | refine g_nil ?_ | refine g_then_normal ?_ | refine g_block ?_ | refine g_in_normal ?_ | refine g_retc ?_
        | refine g_then_ret ?_ | refine g_in_ret ?_ | refine g_exit ?_ | refine g_then_exit ?_ | refine g_in_exit ?_ | refine g_in_other rfl ?_ | refine g_skip ?_
        | refine g_label ?_ | refine g_cond_true rfl ?_ | refine g_cond_false rfl ?_ | exact s_m | intro _)
      exact g_ret () rfl (by (repeat (first | exact RVs.nil | apply RVs.tmp rfl | apply RVs.cellA rfl (by (repeat (first | exact Sel.here | apply Sel.there)); first | done | fail) (by (repeat (first | exact Cut.zero | apply Cut.take | apply Cut.skip)); first | done | fail) | apply RVs.cell1 rfl (by (repeat (first | exact Sel.here | apply Sel.there)); first | done | fail) rfl)); first | done | fail) (by (repeat (first | exact Take.nil | apply Take.cons | exact Sel.here | apply Sel.there)); first | done | fail) (by simp [pack]) trivial
end Go.Proofs.Ytfjkfcfmbipfhaa
