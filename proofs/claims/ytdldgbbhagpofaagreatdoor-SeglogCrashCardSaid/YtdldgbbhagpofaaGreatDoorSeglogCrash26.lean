/- Contracts and laws that the proof stands on. -/
import Derived.Test.YtdldgbbhagpofaaGreatDoorSeglogCrash25
set_option linter.unusedSimpArgs false
set_option linter.unusedVariables false
namespace Go.Proofs.YtdldgbbhagpofaaGreatDoor
open Go.Sl facts
structure AkOk (H : HP) (S : List Sg) (rs : List BV) (B U : Nat) (ops ct : Int) (z : AcX) : Prop where
  sub : HP.sub H z.H
  yes : z.ok = true → BtsAt z.H z.x.rs ∧ ∃ T, JL T z.x z.z.y.fs (B + sumL rs) (U + (sumL rs + 26 * rs.length)) ∧ flatS T = flatS S ++ bts rs
  no : z.ok = false → ∃ T p c0 g, InvC T p c0 g z.z.y.fs ∧ (∀ s, T[p]? = some s → s.1 + c0 = (flatS S).length) ∧ flatS T = flatS S ++ bts rs
  opb : ops ≤ z.z.ops ∧ z.z.ops ≤ ops + 202
  ctb : 0 ≤ z.z.ct ∧ z.z.ct ≤ ct
attribute [local irreducible] Code.wp wpList Exit.then Exit.inBlock bodyPost Back MidQ G GP QStep VStep CStep SStep Does Post Reads
attribute [local irreducible] Begin RPost MPost frameB recB partB pbytes frB
theorem app_dead {H : HP} (lg d : Nat) (rv fv : Value) (size : Int) (sl : Bool) (p : Option Addr) (c0 : Nat) (rs : List BV) (hR : RecsAt H p rs) (hn0 : 0 < rs.length) (hn : rs.length ≤ 100) (hbig : ∀ r ∈ rs, r.l.length ≤ 65536) :
    Does1 Tryz.prog 10 [ptr lg, .slice p rs.length c0] [lrow lg d rv fv size sl true, Pile H] (.tuple #[int 0, int 9]) := by
  have hany := anyB (H := H) p c0 rs hR (by omega)
  have hno : rs.any bigB = false := by
    rw [List.any_eq_false]
    intro r hr
    have := hbig r hr
    simp; omega
  rw [hno] at hany
  have hdead := dead_ lg d rv fv size sl true
  refine fn_introM Tryz.func10 rfl Tryz.ntmps10 rfl (by simp only [argFr, Nat.zero_add, Nat.reduceAdd]; rfl) (fun Γ => ?_)
  repeat (first
    | (refine g_ops ?_; first | refine sO ?_ | refine s_n (fun _ => ?_) | refine s_appB (fun _ _ => ?_) | refine s_app (fun _ _ => ?_) | refine s_b0 (fun _ => ?_) | ((fail_if_success refine g_lit rfl rfl rfl ?_); first | apply g_partM rfl rfl rfl | apply g_partMB rfl rfl rfl | fail) | refine s_k (hany) ?_ | refine s_k (hdead) ?_)
    | apply g_regB (id := 3) 18 | refine g_drawS2 (id := 18) 4 5 (.see 0 [] (.one 1 (.one 2 .done))) (fun k hd hk => ?_) | refine gS ?_ | exact s_m | intro _
    | (refine gp_take ?_; first | refine pT ?_ | ((fail_if_success refine gp_lit rfl rfl rfl rfl ?_); first | apply gp_guard_dec rfl rfl rfl rfl | apply gp_guard rfl rfl rfl rfl | fail))
    | (refine gp_see ?_; first | refine p_f ?_ | refine pS ?_ | ((fail_if_success refine gp_lit rfl rfl rfl rfl ?_); first | apply gp_guard_dec rfl rfl rfl rfl | apply gp_guard rfl rfl rfl rfl | fail) | refine p_h (hany) hd hk ?_ | refine p_h (hdead) hd hk ?_)
    | (refine gp_one ?_; first | refine pO ?_ | refine p_n (fun _ => ?_) | refine p_appB (fun _ _ => ?_) | refine p_app (fun _ _ => ?_) | refine p_b0 (fun _ => ?_) | ((fail_if_success refine gp_lit rfl rfl rfl rfl ?_); first | apply gp_guard_dec rfl rfl rfl rfl | apply gp_guard rfl rfl rfl rfl | fail) | refine p_k (hany) ?_ | refine p_k (hdead) ?_)
    | refine gp_two ?_ ?_ | refine gp_done hd hk ?_ | intro _ | refine p_ta hd hk (fun _ _ _ hd hk => ?_) | refine p_ts hd hk (fun _ hd hk => ?_))
  refine g_cond_dec rfl (fun h => by omega) (fun _ => ?_)
  repeat (first
    | (refine g_ops ?_; first | refine sO ?_ | refine s_n (fun _ => ?_) | refine s_appB (fun _ _ => ?_) | refine s_app (fun _ _ => ?_) | refine s_b0 (fun _ => ?_) | ((fail_if_success refine g_lit rfl rfl rfl ?_); first | apply g_partM rfl rfl rfl | apply g_partMB rfl rfl rfl | fail) | refine s_k (hany) ?_ | refine s_k (hdead) ?_)
    | apply g_regB (id := 3) 18 | refine g_drawS2 (id := 18) 4 5 (.see 0 [] (.one 1 (.one 2 .done))) (fun k hd hk => ?_) | refine gS ?_ | exact s_m | intro _
    | (refine gp_take ?_; first | refine pT ?_ | ((fail_if_success refine gp_lit rfl rfl rfl rfl ?_); first | apply gp_guard_dec rfl rfl rfl rfl | apply gp_guard rfl rfl rfl rfl | fail))
    | (refine gp_see ?_; first | refine p_f ?_ | refine pS ?_ | ((fail_if_success refine gp_lit rfl rfl rfl rfl ?_); first | apply gp_guard_dec rfl rfl rfl rfl | apply gp_guard rfl rfl rfl rfl | fail) | refine p_h (hany) hd hk ?_ | refine p_h (hdead) hd hk ?_)
    | (refine gp_one ?_; first | refine pO ?_ | refine p_n (fun _ => ?_) | refine p_appB (fun _ _ => ?_) | refine p_app (fun _ _ => ?_) | refine p_b0 (fun _ => ?_) | ((fail_if_success refine gp_lit rfl rfl rfl rfl ?_); first | apply gp_guard_dec rfl rfl rfl rfl | apply gp_guard rfl rfl rfl rfl | fail) | refine p_k (hany) ?_ | refine p_k (hdead) ?_)
    | refine gp_two ?_ ?_ | refine gp_done hd hk ?_ | intro _ | refine p_ta hd hk (fun _ _ _ hd hk => ?_) | refine p_ts hd hk (fun _ hd hk => ?_))
  refine g_as 18 (v' := .bool false) rfl (congrArg Value.bool (by rw [decide_eq_false (by omega)]; rfl)) ?_
  repeat (first
    | (refine g_ops ?_; first | refine sO ?_ | refine s_n (fun _ => ?_) | refine s_appB (fun _ _ => ?_) | refine s_app (fun _ _ => ?_) | refine s_b0 (fun _ => ?_) | ((fail_if_success refine g_lit rfl rfl rfl ?_); first | apply g_partM rfl rfl rfl | apply g_partMB rfl rfl rfl | fail) | refine s_k (hany) ?_ | refine s_k (hdead) ?_)
    | apply g_regB (id := 3) 18 | refine g_drawS2 (id := 18) 4 5 (.see 0 [] (.one 1 (.one 2 .done))) (fun k hd hk => ?_) | refine gS ?_ | exact s_m | intro _
    | (refine gp_take ?_; first | refine pT ?_ | ((fail_if_success refine gp_lit rfl rfl rfl rfl ?_); first | apply gp_guard_dec rfl rfl rfl rfl | apply gp_guard rfl rfl rfl rfl | fail))
    | (refine gp_see ?_; first | refine p_f ?_ | refine pS ?_ | ((fail_if_success refine gp_lit rfl rfl rfl rfl ?_); first | apply gp_guard_dec rfl rfl rfl rfl | apply gp_guard rfl rfl rfl rfl | fail) | refine p_h (hany) hd hk ?_ | refine p_h (hdead) hd hk ?_)
    | (refine gp_one ?_; first | refine pO ?_ | refine p_n (fun _ => ?_) | refine p_appB (fun _ _ => ?_) | refine p_app (fun _ _ => ?_) | refine p_b0 (fun _ => ?_) | ((fail_if_success refine gp_lit rfl rfl rfl rfl ?_); first | apply gp_guard_dec rfl rfl rfl rfl | apply gp_guard rfl rfl rfl rfl | fail) | refine p_k (hany) ?_ | refine p_k (hdead) ?_)
    | refine gp_two ?_ ?_ | refine gp_done hd hk ?_ | intro _ | refine p_ta hd hk (fun _ _ _ hd hk => ?_) | refine p_ts hd hk (fun _ hd hk => ?_))
  exact g_retM0 () rfl (.cell1 (v := int 0) rfl (by (repeat (first | exact Sel.here | apply Sel.there)); first | done | fail) rfl (.cell1 (v := int 9) rfl (by (repeat (first | exact Sel.here | apply Sel.there)); first | done | fail) rfl .nil)) (by (repeat (first | exact Take.nil | apply Take.cons | exact Sel.here | apply Sel.there)); first | done | fail) rfl trivial
theorem appendK {H : HP} (lg d : Nat) (x : LG) (q : Option Addr) (c : Nat) (ops ct : Int) (ho : 0 ≤ ops ∧ ops ≤ 1000000) (hcc : 0 ≤ ct ∧ ct ≤ 1000000) (fs : List Fi) (S : List Sg) (B U : Nat) (hJ : JL S x fs B U) (g : GV) (hR : RecsAt H g.p g.rs) (h0 : 0 < g.rs.length) (hn : g.rs.length ≤ 100) (hr : ∀ r ∈ g.rs, r.l.length ≤ 65536) (hB : B + sumL g.rs ≤ 190000) (hU : U + (sumL g.rs + 26 * g.rs.length) ≤ 900000) (hXB : BtsAt H x.rs) (hnum : (flatS S).length ≤ 90000) :
    Does Tryz.prog 10 [ptr lg, g.v] (x.L lg d false ++ bagL d 1048576 ops ct q c fs [Pile H]) (X := AcX) (fun z => .tuple #[int (if z.ok then ((flatS S).length : Int) else 0), int (if z.ok then 0 else 9)])
      (fun z => z.x.L lg d (!z.ok) ++ bagL d 1048576 z.z.ops z.z.ct z.z.y.q z.z.y.c z.z.y.fs [Pile z.H]) (AkOk H S g.rs B U ops ct) := by
  obtain ⟨a1, a2, a3, a4, a5⟩ := hJ.args
  have hpk := hJ.pok (rs := g.rs) hn hB (by omega)
  have hlen := fs_len hJ.sort hJ.nms
  have hus := hJ.used
  have hsg := hJ.segs (by omega)
  have hby := hJ.byt
  have hlb : lastB S ≤ sumB (flatS S) := by
    by_cases h0 : S = []
    · subst h0; exact Nat.zero_le _
    · obtain ⟨T, s, rfl⟩ := snoc_of h0
      rw [lastB_snoc, flatS_snoc, sumB_append]; omega
  have hap := appendC (H := H) lg d x 1048576 q c ops ct ⟨ho.1, by omega⟩ hcc fs hJ.sort (by omega) (by decide) (by omega) g.p g.c g.rs hR h0 hn hr (by omega) (lastB S) a2 (by omega) hXB (by omega) (by omega) (sumL g.rs + 26 * g.rs.length) (by omega) (by omega) (by rw [a1, a3, a4]; exact hpk)
  rw [a1, a3, a4] at hap
  refine does_map (fun z => z) (take_all _) (fun _ _ => rfl) (fun _ _ _ _ h => h) (fun z hz => ⟨?_, fun h => ?_, fun h => ?_, hz.opb, hz.ctb.1, hz.ctb.2.1⟩) hap
  · cases ho : z.ok with
    | true => exact (hz.yes ho).sub
    | false => exact (hz.no ho).2.1
  · have hy := hz.yes h
    exact ⟨hy.at_, _, hJ.next h0 hn hr hB (by omega) hy⟩
  · obtain ⟨_, _, _, ps, i, hps, hi, hoff⟩ := hz.no h
    exact InvC.of_off hJ h0 hn hr hB hU (by omega) hps hi hoff
theorem recs_take {H : HP} {p : Option Addr} {c : Nat} {ms : List BV} (h : RecsAt H p ms) {L : Nat} (hc : ms.length ≤ c) : RecsAt H (if c = 0 then p else p.map (·.add (0 * 1))) (ms.take L) := by
  refine ⟨⟨by simp, ?_, fun e => ?_, fun j v hv => ?_⟩, fun r hr => h.at_ r (List.mem_of_mem_take hr)⟩
  · rw [List.all_eq_true]
    intro v hv
    obtain ⟨r, _, rfl⟩ := List.mem_map.1 hv
    rfl
  · have : ms.length = 0 := by
      by_cases h0 : c = 0
      · omega
      · rw [if_neg h0] at e
        exact h.sl.nil (by cases p with | none => rfl | some a => cases e)
    rw [List.length_take]; omega
  · rw [List.map_take, List.getElem?_take] at hv
    split at hv
    · have hl := (List.getElem?_eq_some_iff.1 hv).1
      rw [List.length_map] at hl
      obtain ⟨b, o, rfl, hr⟩ := h.sl.reads j v hv
      exact ⟨b, o, by rw [if_neg (by omega)]; rfl, hr⟩
    · cases hv
theorem openC {H : HP} (d : Nat) (room : Int) (q : Option Addr) (c : Nat) (ops ct : Int) (hc0 : 0 ≤ ops ∧ ops ≤ 10000000) (hc1 : 0 ≤ ct ∧ ct ≤ 1000000) (fs : List Fi) (hF : FsN fs) (hu : used fs ≤ 1000000) (V : Vw) (T : Nat) (hV : View fs V T) :
    Does Tryz.prog 19 [ptr d] (bagL d room ops ct q c fs [Pile H]) (X := OpX) (fun y => .tuple #[if y.ok then ptr y.lg else .pointer none, int (if y.ok then 0 else 9)])
      (fun y => bagL d room y.z.ops y.z.ct y.z.y.q y.z.y.c y.z.y.fs [Pile y.H]) (fun y => ∃ s, OpOk V fs H ops ct s y) := by
  refine does_map (fun y => y) (take_all _) (fun _ _ => rfl) (fun Γ y w hy h => ?_) (fun y hy => hy) (open_ d room q c ops ct hc0 hc1 fs hF hu V T hV)
  obtain ⟨ok, lg, x, z, H2⟩ := y
  cases ok with
  | true => exact h.takeDrop (L := x.L lg d false ++ bagL d room z.ops z.ct z.y.q z.y.c z.y.fs [Pile H2]) (by (repeat (first | exact Take.nil | apply Take.cons | exact Sel.here | apply Sel.there)); first | done | fail)
  | false => exact h
structure Kp (T : List Sg) (p c0 : Nat) (ks ms : List BV) : Prop where
  all : bts ms = flatS T
  lo : ∀ s, T[p]? = some s → s.1 + c0 = ks.length
  pre : bts ks = (flatS T).take ks.length
structure CrX where
  i : Nat
  S : List Sg
  x : LG
  y : DkX
  ops : Int
  ct : Int
  kp : Option Addr
  kc : Nat
  ks : List BV
  H : HP
structure CrOk (gs : List GV) (cut : Int) (H0 : HP) (z : CrX) : Prop where
  le : z.i ≤ gs.length
  sub : HP.sub H0 z.H
  jl : JL z.S z.x z.y.fs (csL (gs.take z.i)) (13 * csL (gs.take z.i))
  at_ : BtsAt z.H z.x.rs
  kR : RecsAt z.H z.kp z.ks
  all : bts z.ks = flatS z.S
  ops : 0 ≤ z.ops ∧ z.ops ≤ 202 * z.i
  ct : 0 ≤ z.ct ∧ z.ct ≤ cut + 1
  num : z.ks.length ≤ csL (gs.take z.i)
  cap : z.ks.length ≤ z.kc
abbrev CrX.L (z : CrX) (lg d : Nat) : List Chunk := z.x.L lg d false ++ bagL d 1048576 z.ops z.ct z.y.q z.y.c z.y.fs [Pile z.H]
structure CeX where
  off : Bool
  x : LG
  y : DkX
  ops : Int
  ct : Int
  kp : Option Addr
  kc : Nat
  ks : List BV
  mp : Option Addr
  mc : Nat
  ms : List BV
  H : HP
structure CeOk (gs : List GV) (cut : Int) (H0 : HP) (z : CeX) : Prop where
  sub : HP.sub H0 z.H
  kR : RecsAt z.H z.kp z.ks
  mR : RecsAt z.H z.mp z.ms
  num : z.ks.length ≤ csL gs ∧ z.ms.length ≤ csL gs
  ops : 0 ≤ z.ops ∧ z.ops ≤ 20000
  ct : 0 ≤ z.ct ∧ z.ct ≤ cut + 1
  cap : z.ms.length ≤ z.mc
  on : z.off = false → z.mp = z.kp ∧ z.mc = z.kc ∧ z.ms = z.ks ∧ BtsAt z.H z.x.rs ∧ ∃ S, JL S z.x z.y.fs (csL gs) (13 * csL gs) ∧ bts z.ks = flatS S
  no : z.off = true → z.ms.length ≠ z.ks.length ∧ ∃ T p c0 g, InvC T p c0 g z.y.fs ∧ Kp T p c0 z.ks z.ms
abbrev CeX.L (z : CeX) (lg d : Nat) : List Chunk := z.x.L lg d z.off ++ bagL d 1048576 z.ops z.ct z.y.q z.y.c z.y.fs [Pile z.H]
theorem CrOk.next {gs : List GV} {cut : Int} {H0 : HP} {z : CrX} (h : CrOk gs cut H0 z) (hi : z.i < gs.length) {w : AcX} {H1 : HP} (hs : HP.sub z.H H1) (hw : AkOk H1 z.S gs[z.i].rs (csL (gs.take z.i)) (13 * csL (gs.take z.i)) z.ops z.ct w) (ho : w.ok = true) (q : Option Addr) (c : Nat) (hcap : (z.ks ++ gs[z.i].rs).length ≤ c) (hR : RecsAt w.H q (z.ks ++ gs[z.i].rs)) : ∃ T, CrOk gs cut H0 ⟨z.i + 1, T, w.x, w.z.y, w.z.ops, w.z.ct, q, c, z.ks ++ gs[z.i].rs, w.H⟩ := by
  obtain ⟨hat, T, hT, hf⟩ := hw.yes ho
  have hst := csL_take gs z.i hi
  obtain ⟨h1, h2⟩ := cs_le gs[z.i]
  have ho := h.ops
  have hwo := hw.opb
  have hwc := hw.ctb
  have hct := h.ct
  refine ⟨T, hi, h.sub.trans (hs.trans hw.sub), hT.mono (by dsimp only; omega) (by dsimp only; omega), hat, hR, ?_, by dsimp only; push_cast; omega, by dsimp only; omega, ?_, hcap⟩
  · dsimp only
    rw [hf, ← h.all]
    exact List.map_append
  · have := h.num
    dsimp only
    rw [List.length_append, hst]
    unfold cs; omega
theorem CrOk.skip {gs : List GV} {cut : Int} {H0 : HP} {z : CrX} (h : CrOk gs cut H0 z) (hi : z.i < gs.length) : CrOk gs cut H0 { z with i := z.i + 1 } := by
  have hst := csL_take gs z.i hi
  have ho := h.ops
  exact ⟨hi, h.sub, h.jl.mono (by dsimp only; omega) (by dsimp only; omega), h.at_, h.kR, h.all, by dsimp only; push_cast; omega, h.ct, by have := h.num; dsimp only; omega, h.cap⟩
theorem CrOk.end_ {gs : List GV} {cut : Int} {H0 : HP} {z : CrX} (h : CrOk gs cut H0 z) (hi : z.i = gs.length) (hg : gs.length ≤ 60) : CeOk gs cut H0 ⟨false, z.x, z.y, z.ops, z.ct, z.kp, z.kc, z.ks, z.kp, z.kc, z.ks, z.H⟩ := by
  have hj := h.jl
  have hn := h.num
  have ho := h.ops
  rw [hi, List.take_length] at hj hn
  exact ⟨h.sub, h.kR, h.kR, ⟨hn, hn⟩, ⟨ho.1, by dsimp only; omega⟩, h.ct, h.cap, fun _ => ⟨rfl, rfl, rfl, h.at_, z.S, hj, h.all⟩, fun h => (by cases h)⟩
theorem CrOk.off {gs : List GV} {cut : Int} {H0 : HP} {z : CrX} (h : CrOk gs cut H0 z) (hi : z.i < gs.length) (hg : gs.length ≤ 60) (h0 : 0 < gs[z.i].rs.length) {w : AcX} {H1 : HP} (hH : HP.sub z.H H1) (hw : AkOk H1 z.S gs[z.i].rs (csL (gs.take z.i)) (13 * csL (gs.take z.i)) z.ops z.ct w) (ho : w.ok = false) (q : Option Addr) (c : Nat) (hcap : (z.ks ++ gs[z.i].rs).length ≤ c) (hR : RecsAt w.H q (z.ks ++ gs[z.i].rs)) : CeOk gs cut H0 ⟨true, w.x, w.z.y, w.z.ops, w.z.ct, z.kp, z.kc, z.ks, q, c, z.ks ++ gs[z.i].rs, w.H⟩ := by
  obtain ⟨T, p, c0, g, hT, hlo, hf⟩ := hw.no ho
  have hst := csL_take gs z.i hi
  have hle := csL_le gs (z.i + 1)
  obtain ⟨h1, h2⟩ := cs_le gs[z.i]
  have ho := h.ops
  have hwo := hw.opb
  have hwc := hw.ctb
  have hct := h.ct
  have hn := h.num
  have hcs : gs[z.i].rs.length ≤ cs gs[z.i] := by unfold cs; omega
  have hkl : z.ks.length = (flatS z.S).length := by
    have := congrArg List.length h.all
    rwa [List.length_map] at this
  refine ⟨h.sub.trans (hH.trans hw.sub), h.kR.grow (hH.trans hw.sub), hR, ⟨by dsimp only; omega, by dsimp only; rw [List.length_append]; omega⟩, by dsimp only; omega, by dsimp only; omega, hcap, fun h => (by cases h), fun _ => ⟨by dsimp only; rw [List.length_append]; omega, T, p, c0, g, hT, ?_, fun s hs => by dsimp only; rw [hlo s hs, hkl], ?_⟩⟩
  · dsimp only
    rw [hf, ← h.all]
    exact List.map_append
  · dsimp only
    rw [hf, hkl, List.take_left]
    exact h.all
theorem OpOk.keep {T : List Sg} {p c0 : Nat} {g : Bool} {fs : List Fi} (h : InvC T p c0 g fs) {V : Vw} (hV : VOf T fs V) {H0 : HP} {ops ct : Int} {s : Ld} {y : OpX} (hy : OpOk V fs H0 ops ct s y) : InvC T p c0 g y.z.y.fs := by
  have hF := h.fin hV hy.run hy.fin
  refine h.keep hF hy.sort hy.nms hy.used (fun a ha hk => ?_) (fun a ha hk => ?_)
  · cases ho : y.ok with
    | true =>
      have := (hy.yes ho).2.2 a ha
      rw [if_pos hk] at this
      exact .inr this
    | false => exact ((hy.no ho).2 a ha).1 hk
  · cases ho : y.ok with
    | true =>
      have := (hy.yes ho).2.2 a ha
      rw [if_neg (by omega)] at this
      exact .inr this
    | false => exact ((hy.no ho).2 a ha).2 hk
end Go.Proofs.YtdldgbbhagpofaaGreatDoor
