/- Contracts and laws that the proof stands on. -/
import Derived.Test.YtdldgbbhagpofaaGreatDoorSeglogCrash17
set_option linter.unusedSimpArgs false
set_option linter.unusedVariables false
namespace Go.Proofs.YtdldgbbhagpofaaGreatDoor
open Go.Sl facts
inductive WrL : List PV → List Fi → List Fi → Prop where
  | nil {fs : List Fi} : WrL [] fs fs
  | cons {z : PV} {ps : List PV} {fs gs hs : List Fi} : WrL ps fs gs → Wr (nmB z.file) (partB z) gs hs → WrL (z :: ps) fs hs
def pbytes (ps : List PV) : Nat := (ps.map fun z => (partB z).length).sum
theorem WrL.used {ps : List PV} {fs gs : List Fi} (h : WrL ps fs gs) : used gs = used fs + pbytes ps := by
  induction h with
  | nil => simp [pbytes]
  | cons _ w ih => rw [w.used, ih]; unfold pbytes; simp; omega
theorem WrL.len {ps : List PV} {fs gs : List Fi} (h : WrL ps fs gs) : gs.length ≤ fs.length + ps.length := by
  induction h with
  | nil => simp
  | cons _ w ih => have := w.len; simp only [List.length_cons]; omega
theorem WrL.sort {ps : List PV} {fs gs : List Fi} (h : WrL ps fs gs) (hs : SortF fs) : SortF gs := by
  cases h with
  | nil => exact hs
  | cons _ w => exact w.sort
theorem pbytes_drop (ps : List PV) (i : Nat) (h : i < ps.length) : pbytes (ps.drop i) = (partB ps[i]).length + pbytes (ps.drop (i + 1)) := by
  unfold pbytes; rw [List.drop_eq_getElem_cons h, List.map_cons, List.sum_cons]
theorem pbytes_le (ps : List PV) (i : Nat) : pbytes (ps.drop i) ≤ pbytes ps := by
  unfold pbytes
  conv => rhs; rw [← List.take_append_drop i ps]
  simp only [List.map_append, List.sum_append]
  omega
structure POk (rs : List BV) (s : St) (B : Nat) : Prop where
  file : ∀ z ∈ s.out, z.file < 100 ∧ z.first ≤ 1000000000
  mem : ∀ z ∈ s.out, ∀ r ∈ z.l, r ∈ rs
  len : s.out.length ≤ 101
  pl : ∀ z ∈ s.out, z.l.length ≤ 1000
  size : s.size ≤ 1000000000
  byt : ∀ ps : List PV, ps.map PV.a = s.out → pbytes ps ≤ B
structure ApX where
  x : LG
  y : DkX
  H : HP
structure ApOk (H : HP) (x : LG) (rs : List BV) (s : St) (fs : List Fi) (z : ApX) : Prop where
  sub : HP.sub H z.H
  at_ : BtsAt z.H z.x.rs
  recs : bts z.x.rs = bts x.rs ++ bts rs
  fst : z.x.fs = x.fs ++ (s.out.filter (·.fresh)).map fun a => (a.first : Int)
  size : z.x.size = s.size
  sl : z.x.sl = (x.sl && !(s.out.any (·.fresh)))
  wr : ∃ ps : List PV, ps.map PV.a = s.out ∧ WrL ps fs z.y.fs
structure F1X where
  k : Nat
  fq : Option Addr
  fc : Nat
  l : List Int
  sl : Bool
structure F2X where
  i : Nat
  rq : Option Addr
  rc : Nat
  ws : List BV
  H : HP
def elP (ps : List PV) (i : Nat) : List Value := (ps.getD i ⟨0, 0, false, [], none, 0⟩).cells
abbrev roM (b2 b5 b6 lg d : Nat) (room ops : Int) (lr : Chunk) (ps : List PV) (oq : Option Addr) (oc : Nat) (H1 : HP) (i : Nat) (y : DkX) : List Chunk :=
  [.own oq ps.length oc 4 (ps.flatMap PV.cells) 63, .row b6 [.slice oq ps.length oc] 56, .row b5 [int 0] 29, .row b2 [ptr lg] 24, lr,
    drow d room (.slice y.q y.fs.length y.c) (ops + 2 * ((ps.length - i : Nat) : Int)) 0, .own y.q y.fs.length y.c 1 (ptrs y.fs) 80, Bag y.fs, Pile H1]
attribute [local irreducible] Code.wp wpList Exit.then Exit.inBlock bodyPost Back MidQ G GP QStep VStep CStep SStep Does Post Reads
attribute [local irreducible] frameB recB partB Begin RPost MPost pbytes
set_option maxHeartbeats 4000000 in
theorem append_ {H : HP} (lg d : Nat) (x : LG) (room : Int) (q : Option Addr) (c : Nat) (ops : Int) (ho : 0 ≤ ops ∧ ops ≤ 100000000) (fs : List Fi) (hS : SortF fs) (hfl : fs.length ≤ 800) (hr0' : 0 ≤ room ∧ room ≤ 8388608) (hu : used fs ≤ 5000000)
    (p : Option Addr) (c0 : Nat) (rs : List BV) (hR : RecsAt H p rs) (hn0 : 0 < rs.length) (hn : rs.length ≤ 100) (hbig : ∀ r ∈ rs, r.l.length ≤ 65536) (hs : sumL rs ≤ 1000000) (size0 : Nat) (hz : x.size = size0) (hz1 : size0 ≤ 1000000000)
    (hXB : BtsAt H x.rs) (h1 : x.rs.length ≤ 100000) (h2 : x.fs.length ≤ 100000) (B : Nat) (hB : B ≤ 1000000) (hroom : (B : Int) ≤ room - used fs) (hok : POk rs (partsL x.fs.length size0 x.sl x.rs.length rs) B) :
    Does Tryz.prog 10 [ptr lg, .slice p rs.length c0] (x.L lg d false ++ bagL d room ops 0 q c fs [Pile H]) (X := ApX) (fun _ => .tuple #[int x.rs.length, int 0])
      (fun z => z.x.L lg d false ++ bagL d room (ops + 2 * (partsL x.fs.length size0 x.sl x.rs.length rs).out.length) 0 z.y.q z.y.c z.y.fs [Pile z.H]) (ApOk H x rs (partsL x.fs.length size0 x.sl x.rs.length rs) fs) := by
  have hpt := parts_ (H := H) lg d x false p c0 rs size0 hz hR hn (by omega) hz1 (by omega) (by omega)
  have hany := anyB (H := H) p c0 rs hR (by omega)
  have hno : rs.any bigB = false := by
    rw [List.any_eq_false]
    intro r hr
    have := hbig r hr
    simp; omega
  rw [hno] at hany
  have hsum := lsum (H := H) p c0 rs hR (by omega) (by omega)
  obtain ⟨rq, rc, xs, fq, fc, fs', size, sl⟩ := x
  dsimp only [LG.L, LG.row, LG.own] at hz hXB h1 h2 hok hpt ⊢
  have hdead := dead_ lg d (.slice rq xs.length rc) (.slice fq fs'.length fc) size sl false
  generalize hst : partsL fs'.length size0 sl xs.length rs = st at *
  refine fn_introM Tryz.func10 rfl Tryz.ntmps10 rfl (by simp only [argFr, Nat.zero_add, Nat.reduceAdd]; rfl) (fun Γ => ?_)
  dsimp only [List.cons_append, List.nil_append]
  repeat (first
    | (refine g_ops ?_; first | refine sO ?_ | refine s_n (fun _ => ?_) | refine s_appB (fun _ _ => ?_) | refine s_app (fun _ _ => ?_) | refine s_b0 (fun _ => ?_) | ((fail_if_success refine g_lit rfl rfl rfl ?_); first | apply g_partM rfl rfl rfl | apply g_partMB rfl rfl rfl | fail) | refine s_k (hany) ?_ | refine s_k (hdead) ?_ | refine s_k (hsum) ?_)
    | apply g_regB (id := 3) 18 | refine g_drawS2 (id := 18) 4 5 (.see 0 [] (.one 1 (.one 2 .done))) (fun k hd hk => ?_) | refine gS ?_ | exact s_m | intro _
    | refine r_seq ?_ | refine r_region ?_ | refine r_block ?_ | refine r_retc ?_ | refine r_exit ?_ | refine r_skip ?_ | refine r_label ?_ | refine r_cond_true rfl ?_
    | refine r_cond_false rfl ?_ | (refine gp_take ?_; first | refine pT ?_ | ((fail_if_success refine gp_lit rfl rfl rfl rfl ?_); first | apply gp_guard_dec rfl rfl rfl rfl | apply gp_guard rfl rfl rfl rfl | fail))
    | (refine gp_see ?_; first | refine p_f ?_ | refine pS ?_ | ((fail_if_success refine gp_lit rfl rfl rfl rfl ?_); first | apply gp_guard_dec rfl rfl rfl rfl | apply gp_guard rfl rfl rfl rfl | fail) | refine p_h (hany) hd hk ?_ | refine p_h (hdead) hd hk ?_ | refine p_h (hsum) hd hk ?_)
    | (refine gp_one ?_; first | refine pO ?_ | refine p_n (fun _ => ?_) | refine p_appB (fun _ _ => ?_) | refine p_app (fun _ _ => ?_) | refine p_b0 (fun _ => ?_) | ((fail_if_success refine gp_lit rfl rfl rfl rfl ?_); first | apply gp_guard_dec rfl rfl rfl rfl | apply gp_guard rfl rfl rfl rfl | fail) | refine p_k (hany) ?_ | refine p_k (hdead) ?_ | refine p_k (hsum) ?_)
    | refine gp_two ?_ ?_ | refine gp_done hd hk ?_ | intro _ | refine p_ta hd hk (fun _ _ _ hd hk => ?_) | refine p_ts hd hk (fun _ hd hk => ?_))
  rename_i b2 b4 b5
  refine g_cond_dec rfl (fun h => by omega) (fun _ => ?_)
  repeat (first
    | (refine g_ops ?_; first | refine sO ?_ | refine s_n (fun _ => ?_) | refine s_appB (fun _ _ => ?_) | refine s_app (fun _ _ => ?_) | refine s_b0 (fun _ => ?_) | ((fail_if_success refine g_lit rfl rfl rfl ?_); first | apply g_partM rfl rfl rfl | apply g_partMB rfl rfl rfl | fail) | refine s_k (hany) ?_ | refine s_k (hdead) ?_ | refine s_k (hsum) ?_)
    | apply g_regB (id := 3) 18 | refine g_drawS2 (id := 18) 4 5 (.see 0 [] (.one 1 (.one 2 .done))) (fun k hd hk => ?_) | refine gS ?_ | exact s_m | intro _
    | refine r_seq ?_ | refine r_region ?_ | refine r_block ?_ | refine r_retc ?_ | refine r_exit ?_ | refine r_skip ?_ | refine r_label ?_ | refine r_cond_true rfl ?_
    | refine r_cond_false rfl ?_ | (refine gp_take ?_; first | refine pT ?_ | ((fail_if_success refine gp_lit rfl rfl rfl rfl ?_); first | apply gp_guard_dec rfl rfl rfl rfl | apply gp_guard rfl rfl rfl rfl | fail))
    | (refine gp_see ?_; first | refine p_f ?_ | refine pS ?_ | ((fail_if_success refine gp_lit rfl rfl rfl rfl ?_); first | apply gp_guard_dec rfl rfl rfl rfl | apply gp_guard rfl rfl rfl rfl | fail) | refine p_h (hany) hd hk ?_ | refine p_h (hdead) hd hk ?_ | refine p_h (hsum) hd hk ?_)
    | (refine gp_one ?_; first | refine pO ?_ | refine p_n (fun _ => ?_) | refine p_appB (fun _ _ => ?_) | refine p_app (fun _ _ => ?_) | refine p_b0 (fun _ => ?_) | ((fail_if_success refine gp_lit rfl rfl rfl rfl ?_); first | apply gp_guard_dec rfl rfl rfl rfl | apply gp_guard rfl rfl rfl rfl | fail) | refine p_k (hany) ?_ | refine p_k (hdead) ?_ | refine p_k (hsum) ?_)
    | refine gp_two ?_ ?_ | refine gp_done hd hk ?_ | intro _ | refine p_ta hd hk (fun _ _ _ hd hk => ?_) | refine p_ts hd hk (fun _ hd hk => ?_))
  refine g_as 18 (v' := .bool false) rfl (congrArg Value.bool (by rw [decide_eq_false (by omega)]; rfl)) ?_
  repeat (first
    | (refine g_ops ?_; first | refine sO ?_ | refine s_n (fun _ => ?_) | refine s_appB (fun _ _ => ?_) | refine s_app (fun _ _ => ?_) | refine s_b0 (fun _ => ?_) | ((fail_if_success refine g_lit rfl rfl rfl ?_); first | apply g_partM rfl rfl rfl | apply g_partMB rfl rfl rfl | fail) | refine s_k (hany) ?_ | refine s_k (hdead) ?_ | refine s_k (hsum) ?_)
    | apply g_regB (id := 3) 18 | refine g_drawS2 (id := 18) 4 5 (.see 0 [] (.one 1 (.one 2 .done))) (fun k hd hk => ?_) | refine gS ?_ | exact s_m | intro _
    | refine r_seq ?_ | refine r_region ?_ | refine r_block ?_ | refine r_retc ?_ | refine r_exit ?_ | refine r_skip ?_ | refine r_label ?_ | refine r_cond_true rfl ?_
    | refine r_cond_false rfl ?_ | (refine gp_take ?_; first | refine pT ?_ | ((fail_if_success refine gp_lit rfl rfl rfl rfl ?_); first | apply gp_guard_dec rfl rfl rfl rfl | apply gp_guard rfl rfl rfl rfl | fail))
    | (refine gp_see ?_; first | refine p_f ?_ | refine pS ?_ | ((fail_if_success refine gp_lit rfl rfl rfl rfl ?_); first | apply gp_guard_dec rfl rfl rfl rfl | apply gp_guard rfl rfl rfl rfl | fail) | refine p_h (hany) hd hk ?_ | refine p_h (hdead) hd hk ?_ | refine p_h (hsum) hd hk ?_)
    | (refine gp_one ?_; first | refine pO ?_ | refine p_n (fun _ => ?_) | refine p_appB (fun _ _ => ?_) | refine p_app (fun _ _ => ?_) | refine p_b0 (fun _ => ?_) | ((fail_if_success refine gp_lit rfl rfl rfl rfl ?_); first | apply gp_guard_dec rfl rfl rfl rfl | apply gp_guard rfl rfl rfl rfl | fail) | refine p_k (hany) ?_ | refine p_k (hdead) ?_ | refine p_k (hsum) ?_)
    | refine gp_two ?_ ?_ | refine gp_done hd hk ?_ | intro _ | refine p_ta hd hk (fun _ _ _ hd hk => ?_) | refine p_ts hd hk (fun _ hd hk => ?_))
  refine g_cond_dec rfl (fun h => by omega) (fun _ => ?_)
  repeat (first
    | (refine g_ops ?_; first | refine sO ?_ | refine s_n (fun _ => ?_) | refine s_appB (fun _ _ => ?_) | refine s_app (fun _ _ => ?_) | refine s_b0 (fun _ => ?_) | ((fail_if_success refine g_lit rfl rfl rfl ?_); first | apply g_partM rfl rfl rfl | apply g_partMB rfl rfl rfl | fail) | refine s_c (hpt) (fun _ _ => ?_))
    | apply g_regB (id := 3) 18 | refine g_drawS2 (id := 18) 4 5 (.see 0 [] (.one 1 (.one 2 .done))) (fun k hd hk => ?_) | refine gS ?_ | exact s_m | intro _
    | refine r_seq ?_ | refine r_region ?_ | refine r_block ?_ | refine r_retc ?_ | refine r_exit ?_ | refine r_skip ?_ | refine r_label ?_ | refine r_cond_true rfl ?_
    | refine r_cond_false rfl ?_ | (refine gp_take ?_; first | refine pT ?_ | ((fail_if_success refine gp_lit rfl rfl rfl rfl ?_); first | apply gp_guard_dec rfl rfl rfl rfl | apply gp_guard rfl rfl rfl rfl | fail))
    | (refine gp_see ?_; first | refine p_f ?_ | refine pS ?_ | ((fail_if_success refine gp_lit rfl rfl rfl rfl ?_); first | apply gp_guard_dec rfl rfl rfl rfl | apply gp_guard rfl rfl rfl rfl | fail))
    | (refine gp_one ?_; first | refine pO ?_ | refine p_n (fun _ => ?_) | refine p_appB (fun _ _ => ?_) | refine p_app (fun _ _ => ?_) | refine p_b0 (fun _ => ?_) | ((fail_if_success refine gp_lit rfl rfl rfl rfl ?_); first | apply gp_guard_dec rfl rfl rfl rfl | apply gp_guard rfl rfl rfl rfl | fail) | refine p_c (hpt) (fun _ _ => ?_))
    | refine gp_two ?_ ?_ | refine gp_done hd hk ?_ | intro _ | refine p_ta hd hk (fun _ _ _ hd hk => ?_) | refine p_ts hd hk (fun _ hd hk => ?_))
  rename_i y1 hy1 b6
  obtain ⟨ps, oq, oc, H1⟩ := y1
  obtain ⟨hs1, hps, hpa⟩ := hy1
  dsimp only [List.cons_append, List.nil_append] at hs1 hps hpa ⊢
  repeat (first
    | (refine g_ops ?_; first | refine sO ?_ | refine s_n (fun _ => ?_) | refine s_appB (fun _ _ => ?_) | refine s_app (fun _ _ => ?_) | refine s_b0 (fun _ => ?_) | ((fail_if_success refine g_lit rfl rfl rfl ?_); first | apply g_partM rfl rfl rfl | apply g_partMB rfl rfl rfl | fail) | refine s_c (backP oq ps.length oc) (fun _ _ => ?_))
    | refine gS ?_ | exact s_m | intro _ | refine r_seq ?_ | refine r_region ?_ | refine r_block ?_ | refine r_retc ?_ | refine r_exit ?_ | refine r_skip ?_
    | refine r_label ?_ | refine r_cond_true rfl ?_ | refine r_cond_false rfl ?_)
  rename_i bb _
  dsimp only [List.cons_append, List.nil_append]
  have hpl : ps.length ≤ 101 := by have := congrArg List.length hps; rw [List.length_map] at this; have := hok.len; omega
  refine g_own (p := oq) (len := ps.length) (cap := oc) (n := 4) (xs := ps.flatMap PV.cells) (e := 63) (by (repeat (first | exact Sel.here | apply Sel.there)); first | done | fail) (fun _ _ hqp => ?_)
  have hmemA : ∀ z ∈ ps, z.a ∈ st.out := fun z hz => by rw [← hps]; exact List.mem_map.2 ⟨z, hz, rfl⟩
  have hby := hok.byt ps hps
  refine g_range (f := 46) (caps := [ptr bb]) (X := Bool × Nat × DkX) (pd := fun z => z.1) (ret := fun _ => .tuple #[])
    (A := .row bb [.slice oq ps.length oc] 56 :: roM b2 b5 b6 lg d room ops (lrow lg d (.slice rq xs.length rc) (.slice fq fs'.length fc) size sl false) ps oq oc H1 ps.length ⟨q, c, fs⟩)
    (B := fun z => .row bb [.slice oq ps.length oc] 56 :: (if z.1 then [] else roM b2 b5 b6 lg d room ops (lrow lg d (.slice rq xs.length rc) (.slice fq fs'.length fc) size sl false) ps oq oc H1 0 z.2.2))
    (φ := fun z => if z.1 then False ∧ z.2.1 < ps.length else WrL (ps.drop 0) fs z.2.2.fs) rfl (by dsimp only [roM]; rw [show ops + 2 * ((ps.length - ps.length : Nat) : Int) = ops by omega]; exact (by (repeat (first | exact Take.nil | apply Take.cons | exact Sel.here | apply Sel.there)); first | done | fail)) (fun l r hp ha hb hN hf => ?_) (fun D z hz hpd => ?_) (fun D z hz hpd => ?_)
  · refine back46 (l := l) (r := r) (bx := bb) (p := oq) (n := ps.length) (c := oc) (M := roM b2 b5 b6 lg d room ops (lrow lg d (.slice rq xs.length rc) (.slice fq fs'.length fc) size sl false) ps oq oc H1) (F := fun _ _ => []) (φ := fun i y => WrL (ps.drop i) fs y.fs) (ψ := fun _ _ => False) (el := elP ps) (fun _ => rfl) (by omega) (fun i y hi hw => ?_) (fun i y hi hw => ?_) ⟨q, c, fs⟩ (by rw [List.drop_length]; exact .nil)
    · obtain ⟨ob, rfl⟩ := hqp (by omega)
      refine ⟨ob, 0, _, _, rfl, .here, fun j v hv => ?_⟩
      exact own_at pv_len (l := ps) (i := i) (a := ps.getD i ⟨0, 0, false, [], none, 0⟩) (by rw [List.getD_eq_getElem?_getD, List.getElem?_eq_getElem hi]; rfl) j v hv
    · have hfl' := hw.len
      have hul := hw.used
      have hsS := hw.sort hS
      have hd1 := pbytes_drop ps i hi
      have hd2 := pbytes_le ps i
      have hge : ps.getD i ⟨0, 0, false, [], none, 0⟩ = ps[i] := by rw [List.getD_eq_getElem?_getD, List.getElem?_eq_getElem hi]; rfl
      have hmem := List.getElem_mem hi
      have hcons : ps.drop i = ps[i] :: ps.drop (i + 1) := List.drop_eq_getElem_cons hi
      have hel : elP ps i = (ps[i]).cells := by unfold elP; rw [hge]
      rw [hel]
      generalize ps[i] = z at hd1 hmem hcons
      obtain ⟨hzf, hz1'⟩ := hok.file z.a (hmemA z hmem)
      have hzl := hok.pl z.a (hmemA z hmem)
      have hzm := hok.mem z.a (hmemA z hmem)
      dsimp only [PV.a] at hzf hz1' hzl hzm
      have hwr := write_ (H := H1) lg d ⟨rq, rc, xs, fq, fc, fs', size, sl⟩ false room y.q y.c (ops + 2 * ((ps.length - (i + 1) : Nat) : Int)) 0 ⟨by omega, by omega, by decide, by decide⟩ ⟨by omega, by omega, by decide, by decide⟩ rfl y.fs hsS (by rw [List.length_drop] at hfl'; omega) hr0' (by omega) z hzf hz1' (hpa z hmem) (fun r hr => BtAt.grow (hR.at_ r (hzm r hr)) hs1) (fun r hr => by have := hbig r (hzm r hr); omega) hzl (by omega) (by omega)
      dsimp only [LG.row] at hwr
      refine y_intro (ps := [41, 42]) hp rfl hN (by decide) hf rfl (fun Γ => ?_)
      rw [ha, hb]
      dsimp only [roM]
      repeat (first
        | (refine g_ops ?_; first | refine sO ?_ | refine s_n (fun _ => ?_) | refine s_appB (fun _ _ => ?_) | refine s_app (fun _ _ => ?_) | refine s_b0 (fun _ => ?_) | ((fail_if_success refine g_lit rfl rfl rfl ?_); first | apply g_partM rfl rfl rfl | apply g_partMB rfl rfl rfl | fail))
        | refine gS ?_ | exact s_m | intro _ | refine r_seq ?_ | refine r_region ?_ | refine r_block ?_ | refine r_retc ?_ | refine r_exit ?_ | refine r_skip ?_
        | refine r_label ?_ | refine r_cond_true rfl ?_ | refine r_cond_false rfl ?_)
      refine r_begin (by (repeat (first | exact Sel.here | apply Sel.there)); first | done | fail) ?_
      repeat (first
        | (refine g_ops ?_; first | refine sO ?_ | refine s_n (fun _ => ?_) | refine s_appB (fun _ _ => ?_) | refine s_app (fun _ _ => ?_) | refine s_b0 (fun _ => ?_) | ((fail_if_success refine g_lit rfl rfl rfl ?_); first | apply g_partM rfl rfl rfl | apply g_partMB rfl rfl rfl | fail) | refine s_c (hwr) (fun _ _ => ?_))
        | apply g_regB (id := 3) 18 | refine g_drawS2 (id := 18) 4 5 (.see 0 [] (.one 1 (.one 2 .done))) (fun k hd hk => ?_) | refine gS ?_ | exact s_m
        | intro _ | refine r_seq ?_ | refine r_region ?_ | refine r_block ?_ | refine r_retc ?_ | refine r_exit ?_ | refine r_skip ?_ | refine r_label ?_
        | refine r_cond_true rfl ?_ | refine r_cond_false rfl ?_ | (refine gp_take ?_; first | refine pT ?_ | ((fail_if_success refine gp_lit rfl rfl rfl rfl ?_); first | apply gp_guard_dec rfl rfl rfl rfl | apply gp_guard rfl rfl rfl rfl | fail))
        | (refine gp_see ?_; first | refine p_f ?_ | refine pS ?_ | ((fail_if_success refine gp_lit rfl rfl rfl rfl ?_); first | apply gp_guard_dec rfl rfl rfl rfl | apply gp_guard rfl rfl rfl rfl | fail))
        | (refine gp_one ?_; first | refine pO ?_ | refine p_n (fun _ => ?_) | refine p_appB (fun _ _ => ?_) | refine p_app (fun _ _ => ?_) | refine p_b0 (fun _ => ?_) | ((fail_if_success refine gp_lit rfl rfl rfl rfl ?_); first | apply gp_guard_dec rfl rfl rfl rfl | apply gp_guard rfl rfl rfl rfl | fail) | refine p_c (hwr) (fun _ _ => ?_))
        | refine gp_two ?_ ?_ | refine gp_done hd hk ?_ | intro _ | refine p_ta hd hk (fun _ _ _ hd hk => ?_) | refine p_ts hd hk (fun _ hd hk => ?_))
      rename_i b9 y' hw'
      rw [show ops + 2 * ((ps.length - (i + 1) : Nat) : Int) + 2 = ops + 2 * ((ps.length - i : Nat) : Int) by omega]
      exact r_next (r := r) y' (by (repeat (first | exact Sel.here | apply Sel.there)); first | done | fail) (by simp only [Bool.not_true, Bool.false_eq_true, if_false, if_true]; exact (by (repeat (first | exact Take.nil | apply Take.cons | exact Sel.here | apply Sel.there)); first | done | fail)) (by rw [if_pos rfl, hcons]; exact .cons hw hw')
  · obtain ⟨zb, zi, y⟩ := z
    dsimp only at hpd
    subst hpd
    simp only [Bool.false_eq_true, if_false, List.drop_zero] at hz ⊢
    dsimp only [roM]
    rw [Nat.sub_zero]
    dsimp only [List.cons_append, List.nil_append]
    repeat (first
      | (refine g_ops ?_; first | refine sO ?_ | refine s_n (fun _ => ?_) | refine s_appB (fun _ _ => ?_) | refine s_app (fun _ _ => ?_) | refine s_b0 (fun _ => ?_) | ((fail_if_success refine g_lit rfl rfl rfl ?_); first | apply g_partM rfl rfl rfl | apply g_partMB rfl rfl rfl | fail))
      | refine gS ?_ | exact s_m | intro _ | refine r_seq ?_ | refine r_region ?_ | refine r_block ?_ | refine r_retc ?_ | refine r_exit ?_ | refine r_skip ?_
      | refine r_label ?_ | refine r_cond_true rfl ?_ | refine r_cond_false rfl ?_)
    have hpn : ps.length = st.out.length := by rw [← hps, List.length_map]
    refine g_as 70 (v' := int ((0 : Nat) : Int)) rfl rfl ?_
    refine g_loop (X := F1X) (fun z => [(0, ptr lg), (1, .slice p rs.length c0), (2, ptr b2), (4, ptr b4), (5, ptr b5), (6, ptr b6), (7, int st.size), (68, .slice oq ps.length oc), (69, int ps.length), (70, int z.k)])
      (fun z => [.row b4 [int xs.length] 3, .own oq ps.length oc 4 (ps.flatMap PV.cells) 63, .row b5 [int 0] 29, .row b2 [ptr lg] 24, lrow lg d (.slice rq xs.length rc) (.slice z.fq z.l.length z.fc) size z.sl false,
        drow d room (.slice y.q y.fs.length y.c) (ops + 2 * (ps.length : Int)) 0, .own y.q y.fs.length y.c 1 (ptrs y.fs) 80, Bag y.fs, Pile H1, dfc D, .own rq xs.length rc 1 (xs.map BV.v) 28, .own z.fq z.l.length z.fc 1 (z.l.map int) 3])
      (fun z => z.k ≤ ps.length ∧ z.l = fs' ++ ((st.out.take z.k).filter (·.fresh)).map (fun a => (a.first : Int)) ∧ z.sl = (sl && !((st.out.take z.k).any (·.fresh)))) (fun z => ps.length - z.k) ⟨0, fq, fc, fs', sl⟩ ⟨Nat.zero_le _, by simp, by simp⟩ (by (repeat (first | exact FrSub.nil | refine FrSub.cons rfl ?_)); first | done | fail) (by (repeat (first | exact Take.nil | apply Take.cons | exact Sel.here | apply Sel.there)); first | done | fail) (fun z hzz => ?_)
    obtain ⟨k, gq, gc, gl, sl1⟩ := z
    obtain ⟨hk1, hl1, hsl1⟩ := hzz
    dsimp only at hk1 hl1 hsl1 ⊢
    repeat (first
      | (refine g_ops ?_; first | refine sO ?_ | refine s_n (fun _ => ?_) | refine s_appB (fun _ _ => ?_) | refine s_app (fun _ _ => ?_) | refine s_b0 (fun _ => ?_) | ((fail_if_success refine g_lit rfl rfl rfl ?_); first | apply g_partM rfl rfl rfl | apply g_partMB rfl rfl rfl | fail))
      | refine gS ?_ | exact s_m | intro _ | refine r_seq ?_ | refine r_region ?_ | refine r_block ?_ | refine r_retc ?_ | refine r_exit ?_ | refine r_skip ?_
      | refine r_label ?_ | refine r_cond_true rfl ?_ | refine r_cond_false rfl ?_)
    refine g_cond_dec rfl (fun h5 => ?_) (fun h5 => ?_)
    · have hk' : k < ps.length := by omega
      obtain ⟨ob, rfl⟩ := hqp (by omega)
      have hko : k < st.out.length := by omega
      have hge : st.out[k] = (ps[k]).a := by
        have : st.out[k]? = (ps[k]?).map PV.a := by rw [← hps, List.getElem?_map]
        rw [List.getElem?_eq_getElem hko, List.getElem?_eq_getElem hk'] at this
        exact Option.some.inj this
      have htk : st.out.take (k + 1) = st.out.take k ++ [(ps[k]).a] := by rw [List.take_add_one, List.getElem?_eq_getElem hko, hge]; rfl
      have hrow := own_at (b := ob) (len := ps.length) (cap := oc) (e := 63) pv_len (l := ps) (i := k) (a := ps[k]) (by rw [List.getElem?_eq_getElem hk'])
      have hgl : gl.length ≤ 200000 := by
        rw [hl1, List.length_append, List.length_map]
        have h3 := List.length_filter_le (fun a : PA => a.fresh) (st.out.take k)
        rw [List.length_take] at h3
        omega
      generalize ps[k] = z at hrow htk
      repeat (first
        | (refine g_ops ?_; first | refine sO ?_ | refine s_n (fun _ => ?_) | refine s_appB (fun _ _ => ?_) | refine s_app (fun _ _ => ?_) | refine s_b0 (fun _ => ?_) | ((fail_if_success refine g_lit rfl rfl rfl ?_); first | apply g_partM rfl rfl rfl | apply g_partMB rfl rfl rfl | fail))
        | apply g_regB (id := 3) 18 | refine g_drawS2 (id := 18) 4 5 (.see 0 [] (.one 1 (.one 2 .done))) (fun k hd hk => ?_) | refine gS ?_ | exact s_m
        | intro _ | refine r_seq ?_ | refine r_region ?_ | refine r_block ?_ | refine r_retc ?_ | refine r_exit ?_ | refine r_skip ?_ | refine r_label ?_
        | refine r_cond_true rfl ?_ | refine r_cond_false rfl ?_ | (refine gp_take ?_; first | refine pT ?_ | ((fail_if_success refine gp_lit rfl rfl rfl rfl ?_); first | apply gp_guard_dec rfl rfl rfl rfl | apply gp_guard rfl rfl rfl rfl | fail))
        | (refine gp_see ?_; first | refine p_f ?_ | refine pS ?_ | ((fail_if_success refine gp_lit rfl rfl rfl rfl ?_); first | apply gp_guard_dec rfl rfl rfl rfl | apply gp_guard rfl rfl rfl rfl | fail))
        | (refine gp_one ?_; first | refine pO ?_ | refine p_n (fun _ => ?_) | refine p_appB (fun _ _ => ?_) | refine p_app (fun _ _ => ?_) | refine p_b0 (fun _ => ?_) | ((fail_if_success refine gp_lit rfl rfl rfl rfl ?_); first | apply gp_guard_dec rfl rfl rfl rfl | apply gp_guard rfl rfl rfl rfl | fail))
        | refine gp_two ?_ ?_ | refine gp_done hd hk ?_ | intro _ | refine p_ta hd hk (fun _ _ _ hd hk => ?_) | refine p_ts hd hk (fun _ hd hk => ?_))
      cases hfr : z.fresh with
      | false =>
        repeat (first
          | (refine g_ops ?_; first | refine sO ?_ | refine s_n (fun _ => ?_) | refine s_appB (fun _ _ => ?_) | refine s_app (fun _ _ => ?_) | refine s_b0 (fun _ => ?_) | ((fail_if_success refine g_lit rfl rfl rfl ?_); first | apply g_partM rfl rfl rfl | apply g_partMB rfl rfl rfl | fail))
          | refine gS ?_ | exact s_m | intro _ | refine r_seq ?_ | refine r_region ?_ | refine r_block ?_ | refine r_retc ?_ | refine r_exit ?_ | refine r_skip ?_
          | refine r_label ?_ | refine r_cond_true rfl ?_ | refine r_cond_false rfl ?_)
        refine g_as 70 (v' := int ((k + 1 : Nat) : Int)) rfl (congrArg (Value.int .i64) (by push_cast; rfl)) ?_
        exact gA ⟨k + 1, gq, gc, gl, sl1⟩ (by simp only; omega) ⟨hk', by dsimp only; rw [htk, List.filter_append, List.filter_cons_of_neg (by simp [hfr]), List.filter_nil, List.append_nil]; exact hl1, by dsimp only; rw [htk, List.any_append, List.any_cons, List.any_nil]; simp only [hfr, Bool.or_false]; exact hsl1⟩
      | true =>
        refine g_cond_true rfl ?_
        refine g_seq ?_
        refine g_drawO (id := 24) (p := gq) (len := gl.length) (cap := gc) (.see 0 [9,10,11] (.see 1 [2,3,4,8,9,10,11] (.take 2 (.take 3 (.see 4 [8,9,10,11] (.take 5 (.see 6 [7,8,9,10,11] (.one 7 (.one 8 (.take 9 (.take 10 (.thaw 11 .done)))))))))))) (by (repeat (first | exact Sel.here | apply Sel.there)); first | done | fail) (fun m hd hk => ?_)
        repeat (first
          | (refine gp_take ?_; first | refine pT ?_ | ((fail_if_success refine gp_lit rfl rfl rfl rfl ?_); first | apply gp_guard_dec rfl rfl rfl rfl | apply gp_guard rfl rfl rfl rfl | fail))
          | (refine gp_see ?_; first | refine p_f ?_ | refine pS ?_ | ((fail_if_success refine gp_lit rfl rfl rfl rfl ?_); first | apply gp_guard_dec rfl rfl rfl rfl | apply gp_guard rfl rfl rfl rfl | fail))
          | (refine gp_one ?_; first | refine pO ?_ | refine p_n (fun _ => ?_) | refine p_appB (fun _ _ => ?_) | refine p_app (fun _ _ => ?_) | refine p_b0 (fun _ => ?_) | ((fail_if_success refine gp_lit rfl rfl rfl rfl ?_); first | apply gp_guard_dec rfl rfl rfl rfl | apply gp_guard rfl rfl rfl rfl | fail))
          | refine gp_two ?_ ?_ | refine gp_done hd hk ?_ | intro _ | refine p_ta hd hk (fun _ _ _ hd hk => ?_) | refine p_ts hd hk (fun _ hd hk => ?_))
        rename_i b11 vb' q' c' m'
        dsimp only [List.cons_append, List.nil_append]
        have hlr : (gl ++ [(z.first : Int)]).length = gl.length + 1 := by simp
        have hmr : (gl ++ [(z.first : Int)]).map int = gl.map int ++ [int z.first] := by simp
        rw [← hlr, ← hmr]
        repeat (first
          | (refine g_ops ?_; first | refine sO ?_ | refine s_n (fun _ => ?_) | refine s_appB (fun _ _ => ?_) | refine s_app (fun _ _ => ?_) | refine s_b0 (fun _ => ?_) | ((fail_if_success refine g_lit rfl rfl rfl ?_); first | apply g_partM rfl rfl rfl | apply g_partMB rfl rfl rfl | fail))
          | refine gS ?_ | exact s_m | intro _ | refine r_seq ?_ | refine r_region ?_ | refine r_block ?_ | refine r_retc ?_ | refine r_exit ?_ | refine r_skip ?_
          | refine r_label ?_ | refine r_cond_true rfl ?_ | refine r_cond_false rfl ?_)
        refine g_as 70 (v' := int ((k + 1 : Nat) : Int)) rfl (congrArg (Value.int .i64) (by push_cast; rfl)) ?_
        exact gA ⟨k + 1, q', c', gl ++ [(z.first : Int)], false⟩ (by simp only; omega) ⟨hk', by dsimp only; rw [htk, List.filter_append, List.filter_cons_of_pos (by simpa using hfr), List.filter_nil, List.map_append, ← List.append_assoc, ← hl1]; rfl, by dsimp only; rw [htk, List.any_append, List.any_cons, List.any_nil]; simp only [hfr, Bool.or_true, Bool.true_or, Bool.not_true, Bool.and_false]⟩
    · obtain rfl : k = ps.length := by omega
      rw [hpn, List.take_length] at hl1 hsl1
      repeat (first
        | (refine g_ops ?_; first | refine sO ?_ | refine s_n (fun _ => ?_) | refine s_appB (fun _ _ => ?_) | refine s_app (fun _ _ => ?_) | refine s_b0 (fun _ => ?_) | ((fail_if_success refine g_lit rfl rfl rfl ?_); first | apply g_partM rfl rfl rfl | apply g_partMB rfl rfl rfl | fail))
        | refine gS ?_ | exact s_m | intro _ | refine r_seq ?_ | refine r_region ?_ | refine r_block ?_ | refine r_retc ?_ | refine r_exit ?_ | refine r_skip ?_
        | refine r_label ?_ | refine r_cond_true rfl ?_ | refine r_cond_false rfl ?_)
      refine g_as 93 (v' := int ((0 : Nat) : Int)) rfl rfl ?_
      refine g_loop (X := F2X) (fun z => [(0, ptr lg), (2, ptr b2), (4, ptr b4), (5, ptr b5), (7, int st.size), (91, .slice p rs.length c0), (92, int rs.length), (93, int z.i)])
        (fun z => [.row b4 [int xs.length] 3, .row b5 [int 0] 29, .row b2 [ptr lg] 24, lrow lg d (.slice z.rq (xs ++ z.ws).length z.rc) (.slice gq gl.length gc) size sl1 false,
          drow d room (.slice y.q y.fs.length y.c) (ops + 2 * (ps.length : Int)) 0, .own y.q y.fs.length y.c 1 (ptrs y.fs) 80, Bag y.fs, Pile z.H, dfc D, .own z.rq (xs ++ z.ws).length z.rc 1 ((xs ++ z.ws).map BV.v) 28, .own gq gl.length gc 1 (gl.map int) 3])
        (fun z => z.i ≤ rs.length ∧ HP.sub H1 z.H ∧ BtsAt z.H z.ws ∧ bts z.ws = bts (rs.take z.i)) (fun z => rs.length - z.i) ⟨0, rq, rc, [], H1⟩ ⟨Nat.zero_le _, HP.sub.refl _, (fun r hr => by simp at hr), rfl⟩ (by (repeat (first | exact FrSub.nil | refine FrSub.cons rfl ?_)); first | done | fail) (by simp only [List.append_nil]; exact (by (repeat (first | exact Take.nil | apply Take.cons | exact Sel.here | apply Sel.there)); first | done | fail)) (fun z hzz => ?_)
      obtain ⟨i, uq, uc, ws, H2⟩ := z
      obtain ⟨hi, hs2, hW, hbts⟩ := hzz
      dsimp only at hi hs2 hW hbts ⊢
      have hwl : ws.length = i := by
        have := congrArg List.length hbts
        simp only [List.length_map, List.length_take] at this
        omega
      repeat (first
        | (refine g_ops ?_; first | refine sO ?_ | refine s_n (fun _ => ?_) | refine s_appB (fun _ _ => ?_) | refine s_app (fun _ _ => ?_) | refine s_b0 (fun _ => ?_) | ((fail_if_success refine g_lit rfl rfl rfl ?_); first | apply g_partM rfl rfl rfl | apply g_partMB rfl rfl rfl | fail))
        | refine gS ?_ | exact s_m | intro _ | refine r_seq ?_ | refine r_region ?_ | refine r_block ?_ | refine r_retc ?_ | refine r_exit ?_ | refine r_skip ?_
        | refine r_label ?_ | refine r_cond_true rfl ?_ | refine r_cond_false rfl ?_)
      refine g_cond_dec rfl (fun h5 => ?_) (fun h5 => ?_)
      · have hi' : i < rs.length := by omega
        obtain ⟨rb, ro, rfl, hrow⟩ := slAt_cell (hR.grow (hs1.trans hs2)).sl (i := i) (v := (rs[i]).v) (by simp [hi'])
        have hbt := (hR.grow (hs1.trans hs2)).at_ rs[i] (List.getElem_mem hi')
        have hbn := hbig rs[i] (List.getElem_mem hi')
        have htk : bts (rs.take (i + 1)) = bts (rs.take i) ++ [(rs[i]).l] := by rw [List.take_add_one, List.getElem?_eq_getElem hi']; show List.map _ _ = _; rw [List.map_append]; rfl
        generalize rs[i] = r at hrow hbt hbn htk
        have hr : ∀ k, k = i → Reads (Pile H2) ⟨rb, ro + k, none⟩ r.v := fun k hk => by rw [hk]; exact hrow
        have hcl := cloneB (C := Pile H2) (p := r.p) (m := r.l.length) (c := r.c) (news := cells8 r.l) (btAt_slAt hbt) (by omega)
        have hxl : (xs ++ ws).length ≤ 200000 := by rw [List.length_append]; omega
        repeat (first
          | (refine g_ops ?_; first | refine sO ?_ | refine s_n (fun _ => ?_) | refine s_appB (fun _ _ => ?_) | refine s_app (fun _ _ => ?_) | refine s_b0 (fun _ => ?_) | ((fail_if_success refine g_lit rfl rfl rfl ?_); first | apply g_partM rfl rfl rfl | apply g_partMB rfl rfl rfl | fail))
          | apply g_regB (id := 3) 18 | refine g_drawS2 (id := 18) 4 5 (.see 0 [] (.one 1 (.one 2 .done))) (fun k hd hk => ?_) | refine gS ?_ | exact s_m
          | intro _ | refine r_seq ?_ | refine r_region ?_ | refine r_block ?_ | refine r_retc ?_ | refine r_exit ?_ | refine r_skip ?_ | refine r_label ?_
          | refine r_cond_true rfl ?_ | refine r_cond_false rfl ?_ | (refine gp_take ?_; first | refine pT ?_ | ((fail_if_success refine gp_lit rfl rfl rfl rfl ?_); first | apply gp_guard_dec rfl rfl rfl rfl | apply gp_guard rfl rfl rfl rfl | fail))
          | (refine gp_see ?_; first | refine p_f ?_ | refine pS ?_ | ((fail_if_success refine gp_lit rfl rfl rfl rfl ?_); first | apply gp_guard_dec rfl rfl rfl rfl | apply gp_guard rfl rfl rfl rfl | fail))
          | (refine gp_one ?_; first | refine pO ?_ | refine p_n (fun _ => ?_) | refine p_appB (fun _ _ => ?_) | refine p_app (fun _ _ => ?_) | refine p_b0 (fun _ => ?_) | ((fail_if_success refine gp_lit rfl rfl rfl rfl ?_); first | apply gp_guard_dec rfl rfl rfl rfl | apply gp_guard rfl rfl rfl rfl | fail))
          | refine gp_two ?_ ?_ | refine gp_done hd hk ?_ | intro _ | refine p_ta hd hk (fun _ _ _ hd hk => ?_) | refine p_ts hd hk (fun _ hd hk => ?_))
        generalize hxw : xs ++ ws = xw at *
        refine g_draw (id := 30) (C := [.row b2 [ptr lg] 24, lrow lg d (.slice uq xw.length uc) (.slice gq gl.length gc) size sl1 false]) (.see 0 [9,10,11] (.see 1 [2,3,4,8,9,10,11] (.take 2 (.take 3 (.see 4 [8,9,10,11] (.take 5 (.one 6 (.one 7 (.one 8 (.take 9 (.take 10 (.thaw 11 .done)))))))))))) (by kernel_rfl) (by (repeat (first | exact Take.nil | apply Take.cons | exact Sel.here | apply Sel.there)); first | done | fail) (fun m hd hk => ?_)
        repeat (first
          | (refine gp_take ?_; first | refine pT ?_ | ((fail_if_success refine gp_lit rfl rfl rfl rfl ?_); first | apply gp_guard_dec rfl rfl rfl rfl | apply gp_guard rfl rfl rfl rfl | fail))
          | (refine gp_see ?_; first | refine p_f ?_ | refine pS ?_ | ((fail_if_success refine gp_lit rfl rfl rfl rfl ?_); first | apply gp_guard_dec rfl rfl rfl rfl | apply gp_guard rfl rfl rfl rfl | fail))
          | (refine gp_one ?_; first | refine pO ?_ | refine p_n (fun _ => ?_) | refine p_appB (fun _ _ => ?_) | refine p_app (fun _ _ => ?_) | refine p_b0 (fun _ => ?_) | ((fail_if_success refine gp_lit rfl rfl rfl rfl ?_); first | apply gp_guard_dec rfl rfl rfl rfl | apply gp_guard rfl rfl rfl rfl | fail) | refine p_c (hcl) (fun _ _ => ?_))
          | refine gp_two ?_ ?_ | refine gp_done hd hk ?_ | intro _ | refine p_ta hd hk (fun _ _ _ hd hk => ?_) | refine p_ts hd hk (fun _ hd hk => ?_))
        rename_i yv _ vb' q' c' m'
        obtain ⟨yp, yc⟩ := yv
        dsimp only [List.cons_append, List.nil_append, List.append_nil]
        refine g_pile (p := yp) (m := r.l.length) (c := yc) (n := 1) (xs := cells8 r.l) (e := 5) (by (repeat (first | exact Sel.here | apply Sel.there)); first | done | fail) (by (repeat (first | exact Sel.here | apply Sel.there)); first | done | fail) (fun H3 hs3 hA3 => ?_)
        have hlr : (xs ++ (ws ++ [BV.mk yp r.l yc])).length = xw.length + 1 := by rw [← List.append_assoc, hxw]; simp
        have hmr : (xs ++ (ws ++ [BV.mk yp r.l yc])).map BV.v = xw.map BV.v ++ [.slice yp r.l.length yc] := by rw [← List.append_assoc, hxw]; simp
        rw [← hlr, ← hmr]
        repeat (first
          | (refine g_ops ?_; first | refine sO ?_ | refine s_n (fun _ => ?_) | refine s_appB (fun _ _ => ?_) | refine s_app (fun _ _ => ?_) | refine s_b0 (fun _ => ?_) | ((fail_if_success refine g_lit rfl rfl rfl ?_); first | apply g_partM rfl rfl rfl | apply g_partMB rfl rfl rfl | fail))
          | refine gS ?_ | exact s_m | intro _ | refine r_seq ?_ | refine r_region ?_ | refine r_block ?_ | refine r_retc ?_ | refine r_exit ?_ | refine r_skip ?_
          | refine r_label ?_ | refine r_cond_true rfl ?_ | refine r_cond_false rfl ?_)
        refine g_as 93 (v' := int ((i + 1 : Nat) : Int)) rfl (congrArg (Value.int .i64) (by push_cast; rfl)) ?_
        exact g_again ⟨i + 1, q', c', ws ++ [BV.mk yp r.l yc], H3⟩ (by simp only; omega) ⟨hi', hs2.trans hs3, fun z hz => by
          rcases List.mem_append.1 hz with h | h
          · exact BtAt.grow (hW z h) hs3
          · rw [List.mem_singleton.1 h]; exact btAt_of rfl hA3, by dsimp only; rw [bts_snoc, htk, hbts]⟩ (by (repeat (first | exact FrSub.nil | refine FrSub.cons rfl ?_)); first | done | fail) (by (repeat (first | exact Take.nil | apply Take.cons | exact Sel.here | apply Sel.there)); first | done | fail)
      · obtain rfl : i = rs.length := by omega
        rw [List.take_length] at hbts
        repeat (first
          | (refine g_ops ?_; first | refine sO ?_ | refine s_n (fun _ => ?_) | refine s_appB (fun _ _ => ?_) | refine s_app (fun _ _ => ?_) | refine s_b0 (fun _ => ?_) | ((fail_if_success refine g_lit rfl rfl rfl ?_); first | apply g_partM rfl rfl rfl | apply g_partMB rfl rfl rfl | fail))
          | refine gS ?_ | exact s_m | intro _ | refine r_seq ?_ | refine r_region ?_ | refine r_block ?_ | refine r_retc ?_ | refine r_exit ?_ | refine r_skip ?_
          | refine r_label ?_ | refine r_cond_true rfl ?_ | refine r_cond_false rfl ?_)
        rw [hpn]
        exact g_retM D (⟨⟨uq, uc, xs ++ ws, gq, gc, gl, st.size, sl1⟩, y, H2⟩ : ApX) (s := (by (repeat (first | exact Sel.here | apply Sel.there)); first | done | fail)) (hr := rfl) (h := .cell1 (v := int xs.length) rfl (by first | exact .there .here | fail) rfl (.cell1 (v := int 0) rfl (by first | exact .here | fail) rfl .nil)) (tk := (by (repeat (first | exact Take.nil | apply Take.cons | exact Sel.here | apply Sel.there)); first | done | fail)) (hp := rfl) (hx := ⟨hs1.trans hs2, fun r hr => by
          rcases List.mem_append.1 hr with h | h
          · exact BtAt.grow (hXB r h) (hs1.trans hs2)
          · exact hW r h, by show bts (xs ++ ws) = _; rw [← hbts]; exact List.map_append, hl1, rfl, hsl1, ps, hps, hz⟩)
  · rw [hpd] at hz
    exact hz.1.elim
end Go.Proofs.YtdldgbbhagpofaaGreatDoor

namespace Go.Proofs.YtdldgbbhagpofaaGreatDoor
open Go.Sl facts
theorem pos_nil (nm : ByteArray) : PosIs [] nm 0 := ⟨Nat.le_refl _, fun i h => absurd h (Nat.not_lt_zero _), fun i h => absurd h (Nat.not_lt_zero _)⟩
attribute [local irreducible] Code.wp wpList Exit.then Exit.inBlock bodyPost Back MidQ G GP QStep VStep CStep SStep Does Post Reads
attribute [local irreducible] Begin RPost MPost
theorem ins0 : Does1 Tryz.prog 94 [.slice none 0 0, int 0, int 0] [] (.tuple #[]) := by
  refine fn_intro Tryz.func94 rfl Tryz.ntmps94 rfl (by simp only [argFr, Nat.zero_add, Nat.reduceAdd]; rfl) (fun Γ => ?_)
  repeat (first
    | (refine g_ops ?_; first | refine sO ?_ | refine s_n (fun _ => ?_) | refine s_appB (fun _ _ => ?_) | refine s_app (fun _ _ => ?_) | refine s_b0 (fun _ => ?_) | ((fail_if_success refine g_lit rfl rfl rfl ?_); first | apply g_partM rfl rfl rfl | apply g_partMB rfl rfl rfl | fail))
    | refine gS ?_ | exact s_m | intro _ | refine r_seq ?_ | refine r_region ?_ | refine r_block ?_ | refine r_retc ?_ | refine r_exit ?_ | refine r_skip ?_
    | refine r_label ?_ | refine r_cond_true rfl ?_ | refine r_cond_false rfl ?_)
  refine g_loop (X := Nat) (fun _ => [(0, .slice none 0 0), (1, int 0), (2, int 0), (6, int 1)]) (fun _ => []) (fun _ => True) (fun i => i) 0 trivial (by (repeat (first | exact FrSub.nil | refine FrSub.cons rfl ?_)); first | done | fail) (by (repeat (first | exact Take.nil | apply Take.cons | exact Sel.here | apply Sel.there)); first | done | fail) (fun i _ => ?_)
  repeat (first
    | (refine g_ops ?_; first | refine sO ?_ | refine s_n (fun _ => ?_) | refine s_appB (fun _ _ => ?_) | refine s_app (fun _ _ => ?_) | refine s_b0 (fun _ => ?_) | ((fail_if_success refine g_lit rfl rfl rfl ?_); first | apply g_partM rfl rfl rfl | apply g_partMB rfl rfl rfl | fail))
    | refine gS ?_ | exact s_m | intro _ | refine r_seq ?_ | refine r_region ?_ | refine r_block ?_ | refine r_retc ?_ | refine r_exit ?_ | refine r_skip ?_
    | refine r_label ?_ | refine r_cond_true rfl ?_ | refine r_cond_false rfl ?_)
  exact g_end () rfl (by (repeat (first | exact RVs.nil | apply RVs.tmp rfl | apply RVs.cellA rfl (by (repeat (first | exact Sel.here | apply Sel.there)); first | done | fail) (by (repeat (first | exact Cut.zero | apply Cut.take | apply Cut.skip)); first | done | fail) | apply RVs.cell1 rfl (by (repeat (first | exact Sel.here | apply Sel.there)); first | done | fail) rfl)); first | done | fail) (by (repeat (first | exact Take.nil | apply Take.cons | exact Sel.here | apply Sel.there)); first | done | fail) rfl trivial
theorem pdq0 (n : Int) : Does1 Tryz.prog 78 [.slice none 0 0, int 0, int 0, int n] [] (.tuple #[]) := by
  refine fn_intro Tryz.func78 rfl Tryz.ntmps78 rfl (by simp only [argFr, Nat.zero_add, Nat.reduceAdd]; rfl) (fun Γ => ?_)
  repeat (first
    | (refine g_ops ?_; first | refine sO ?_ | refine s_n (fun _ => ?_) | refine s_appB (fun _ _ => ?_) | refine s_app (fun _ _ => ?_) | refine s_b0 (fun _ => ?_) | ((fail_if_success refine g_lit rfl rfl rfl ?_); first | apply g_partM rfl rfl rfl | apply g_partMB rfl rfl rfl | fail))
    | refine gS ?_ | exact s_m | intro _ | refine r_seq ?_ | refine r_region ?_ | refine r_block ?_ | refine r_retc ?_ | refine r_exit ?_ | refine r_skip ?_
    | refine r_label ?_ | refine r_cond_true rfl ?_ | refine r_cond_false rfl ?_)
  refine g_loop (X := Nat) (fun _ => [(0, .slice none 0 0), (1, int 0), (2, int 0), (3, int n)]) (fun _ => []) (fun _ => True) (fun i => i) 0 trivial (by (repeat (first | exact FrSub.nil | refine FrSub.cons rfl ?_)); first | done | fail) (by (repeat (first | exact Take.nil | apply Take.cons | exact Sel.here | apply Sel.there)); first | done | fail) (fun i _ => ?_)
  repeat (first
    | (refine g_ops ?_; first | refine sO ?_ | refine s_n (fun _ => ?_) | refine s_appB (fun _ _ => ?_) | refine s_app (fun _ _ => ?_) | refine s_b0 (fun _ => ?_) | ((fail_if_success refine g_lit rfl rfl rfl ?_); first | apply g_partM rfl rfl rfl | apply g_partMB rfl rfl rfl | fail) | refine s_k (ins0) ?_)
    | refine gS ?_ | exact s_m | intro _ | refine r_seq ?_ | refine r_region ?_ | refine r_block ?_ | refine r_retc ?_ | refine r_exit ?_ | refine r_skip ?_
    | refine r_label ?_ | refine r_cond_true rfl ?_ | refine r_cond_false rfl ?_)
  exact gR () trivial
theorem len640 : Does1 Tryz.prog 104 [.int .u64 0] [] (int 0) := by
  refine fn_intro Tryz.func104 rfl Tryz.ntmps104 rfl (by simp only [argFr, Nat.zero_add, Nat.reduceAdd]; rfl) (fun Γ => ?_)
  repeat (first
    | (refine g_ops ?_; first | refine sO ?_ | refine s_n (fun _ => ?_) | refine s_appB (fun _ _ => ?_) | refine s_app (fun _ _ => ?_) | refine s_b0 (fun _ => ?_) | ((fail_if_success refine g_lit rfl rfl rfl ?_); first | apply g_partM rfl rfl rfl | apply g_partMB rfl rfl rfl | fail))
    | refine gS ?_ | exact s_m | intro _ | refine r_seq ?_ | refine r_region ?_ | refine r_block ?_ | refine r_retc ?_ | refine r_exit ?_ | refine r_skip ?_
    | refine r_label ?_ | refine r_cond_true rfl ?_ | refine r_cond_false rfl ?_)
  refine s_q (q := by exact qs_convInt rfl) ?_
  refine g_as 21 (v' := .int .u8 0) rfl rfl ?_
  refine s_q (q := by exact qs_indexStr (i := 0) inferInstance rfl rfl (by decide +kernel)) ?_
  refine g_as 22 (v' := .int .u8 0) rfl (congrArg (Value.int .u8) (by decide +kernel)) ?_
  refine s_q (q := by exact qs_convInt rfl) ?_
  refine g_as 23 (v' := int 0) rfl rfl ?_
  repeat (first
    | (refine g_ops ?_; first | refine sO ?_ | refine s_n (fun _ => ?_) | refine s_appB (fun _ _ => ?_) | refine s_app (fun _ _ => ?_) | refine s_b0 (fun _ => ?_) | ((fail_if_success refine g_lit rfl rfl rfl ?_); first | apply g_partM rfl rfl rfl | apply g_partMB rfl rfl rfl | fail))
    | refine gS ?_ | exact s_m | intro _ | refine r_seq ?_ | refine r_region ?_ | refine r_block ?_ | refine r_retc ?_ | refine r_exit ?_ | refine r_skip ?_
    | refine r_label ?_ | refine r_cond_true rfl ?_ | refine r_cond_false rfl ?_)
  exact gR () trivial
theorem len0 : Does1 Tryz.prog 79 [.int .u64 0] [] (int 0) := by
  refine fn_intro Tryz.func79 rfl Tryz.ntmps79 rfl (by simp only [argFr, Nat.zero_add, Nat.reduceAdd]; rfl) (fun Γ => ?_)
  repeat (first
    | (refine g_ops ?_; first | refine sO ?_ | refine s_n (fun _ => ?_) | refine s_appB (fun _ _ => ?_) | refine s_app (fun _ _ => ?_) | refine s_b0 (fun _ => ?_) | ((fail_if_success refine g_lit rfl rfl rfl ?_); first | apply g_partM rfl rfl rfl | apply g_partMB rfl rfl rfl | fail) | refine s_k (len640) ?_)
    | refine gS ?_ | exact s_m | intro _ | refine r_seq ?_ | refine r_region ?_ | refine r_block ?_ | refine r_retc ?_ | refine r_exit ?_ | refine r_skip ?_
    | refine r_label ?_ | refine r_cond_true rfl ?_ | refine r_cond_false rfl ?_)
  exact gR () trivial
theorem sort0 : Does1 Tryz.prog 59 [.slice none 0 0] [] (.tuple #[]) := by
  refine fn_intro Tryz.func59 rfl Tryz.ntmps59 rfl (by simp only [argFr, Nat.zero_add, Nat.reduceAdd]; rfl) (fun Γ => ?_)
  repeat (first
    | (refine g_ops ?_; first | refine sO ?_ | refine s_n (fun _ => ?_) | refine s_appB (fun _ _ => ?_) | refine s_app (fun _ _ => ?_) | refine s_b0 (fun _ => ?_) | ((fail_if_success refine g_lit rfl rfl rfl ?_); first | apply g_partM rfl rfl rfl | apply g_partMB rfl rfl rfl | fail))
    | refine gS ?_ | exact s_m | intro _ | refine r_seq ?_ | refine r_region ?_ | refine r_block ?_ | refine r_retc ?_ | refine r_exit ?_ | refine r_skip ?_
    | refine r_label ?_ | refine r_cond_true rfl ?_ | refine r_cond_false rfl ?_)
  refine s_q (q := by exact qs_convInt rfl) ?_
  refine g_as 8 (v' := .int .u64 0) rfl rfl ?_
  repeat (first
    | (refine g_ops ?_; first | refine sO ?_ | refine s_n (fun _ => ?_) | refine s_appB (fun _ _ => ?_) | refine s_app (fun _ _ => ?_) | refine s_b0 (fun _ => ?_) | ((fail_if_success refine g_lit rfl rfl rfl ?_); first | apply g_partM rfl rfl rfl | apply g_partMB rfl rfl rfl | fail) | refine s_k (len0) ?_ | refine s_k (pdq0 0) ?_)
    | refine gS ?_ | exact s_m | intro _ | refine r_seq ?_ | refine r_region ?_ | refine r_block ?_ | refine r_retc ?_ | refine r_exit ?_ | refine r_skip ?_
    | refine r_label ?_ | refine r_cond_true rfl ?_ | refine r_cond_false rfl ?_)
  exact g_end () rfl (by (repeat (first | exact RVs.nil | apply RVs.tmp rfl | apply RVs.cellA rfl (by (repeat (first | exact Sel.here | apply Sel.there)); first | done | fail) (by (repeat (first | exact Cut.zero | apply Cut.take | apply Cut.skip)); first | done | fail) | apply RVs.cell1 rfl (by (repeat (first | exact Sel.here | apply Sel.there)); first | done | fail) rfl)); first | done | fail) (by (repeat (first | exact Take.nil | apply Take.cons | exact Sel.here | apply Sel.there)); first | done | fail) rfl trivial
theorem clean0 (lg d : Nat) (rv fv : Value) (size : Int) (sl off : Bool) (room : Int) (q : Option Addr) (c : Nat) (ops ct : Int) :
    Does1 Tryz.prog 38 [ptr lg] (lrow lg d rv fv size sl off :: bagL d room ops ct q c [] []) (int 0) := by
  have hnm := names_g d room q c ops ct [] (by simp)
  refine fn_introM Tryz.func38 rfl Tryz.ntmps38 rfl (by simp only [argFr, Nat.zero_add, Nat.reduceAdd]; rfl) (fun Γ => ?_)
  repeat (first
    | (refine g_ops ?_; first | refine sO ?_ | refine s_n (fun _ => ?_) | refine s_appB (fun _ _ => ?_) | refine s_app (fun _ _ => ?_) | refine s_b0 (fun _ => ?_) | ((fail_if_success refine g_lit rfl rfl rfl ?_); first | apply g_partM rfl rfl rfl | apply g_partMB rfl rfl rfl | fail) | refine s_c (hnm) (fun _ _ => ?_))
    | refine gS ?_ | exact s_m | intro _ | refine r_seq ?_ | refine r_region ?_ | refine r_block ?_ | refine r_retc ?_ | refine r_exit ?_ | refine r_skip ?_
    | refine r_label ?_ | refine r_cond_true rfl ?_ | refine r_cond_false rfl ?_)
  rename_i b1 b2 yn _
  obtain ⟨np, nc⟩ := yn
  dsimp only [List.cons_append, List.nil_append, List.length_nil]
  refine g_loop (X := Nat) (fun _ => [(1, ptr b1), (2, ptr b2), (3, .slice none 0 0), (15, .slice np 0 nc), (16, int 0), (17, int 0)]) (fun _ => .row b1 [ptr lg] 24 :: .row b2 [int 0] 29 :: lrow lg d rv fv size sl off :: bagL d room ops ct q c [] []) (fun _ => True) (fun i => i) 0 trivial (by (repeat (first | exact FrSub.nil | refine FrSub.cons rfl ?_)); first | done | fail) (by (repeat (first | exact Take.nil | apply Take.cons | exact Sel.here | apply Sel.there)); first | done | fail) (fun i _ => ?_)
  repeat (first
    | (refine g_ops ?_; first | refine sO ?_ | refine s_n (fun _ => ?_) | refine s_appB (fun _ _ => ?_) | refine s_app (fun _ _ => ?_) | refine s_b0 (fun _ => ?_) | ((fail_if_success refine g_lit rfl rfl rfl ?_); first | apply g_partM rfl rfl rfl | apply g_partMB rfl rfl rfl | fail) | refine s_k (sort0) ?_ | refine s_c (backI none 0 0) (fun _ _ => ?_))
    | refine gS ?_ | exact s_m | intro _ | refine r_seq ?_ | refine r_region ?_ | refine r_block ?_ | refine r_retc ?_ | refine r_exit ?_ | refine r_skip ?_
    | refine r_label ?_ | refine r_cond_true rfl ?_ | refine r_cond_false rfl ?_)
  rename_i bb _
  dsimp only [List.cons_append, List.nil_append]
  refine g_range (f := 80) (caps := [ptr bb]) (X := Bool × Nat × Unit) (pd := fun z => z.1) (ret := fun _ => .tuple #[])
    (A := [.row bb [.slice none 0 0] 47]) (B := fun z => .row bb [.slice none 0 0] 47 :: (if z.1 then [] else [])) (φ := fun z => if z.1 then False ∧ z.2.1 < 0 else True) rfl (by (repeat (first | exact Take.nil | apply Take.cons | exact Sel.here | apply Sel.there)); first | done | fail) (fun l r _ _ _ _ _ => ?_) (fun D z hz hpd => ?_) (fun D z hz hpd => ?_)
  · exact back80 (l := l) (r := r) (bx := bb) (p := none) (n := 0) (c := 0) (M := fun _ _ => []) (F := fun _ _ => []) (φ := fun _ _ => True) (ψ := fun _ _ => False) (el := fun _ => 0) (by decide) (fun i _ h => absurd h (Nat.not_lt_zero _)) (fun i _ h => absurd h (Nat.not_lt_zero _)) () trivial
  · obtain ⟨zb, zi, zu⟩ := z
    dsimp only at hpd
    subst hpd
    simp only [Bool.false_eq_true, if_false]
    dsimp only [List.cons_append, List.nil_append]
    repeat (first
      | (refine g_ops ?_; first | refine sO ?_ | refine s_n (fun _ => ?_) | refine s_appB (fun _ _ => ?_) | refine s_app (fun _ _ => ?_) | refine s_b0 (fun _ => ?_) | ((fail_if_success refine g_lit rfl rfl rfl ?_); first | apply g_partM rfl rfl rfl | apply g_partMB rfl rfl rfl | fail))
      | refine gS ?_ | exact s_m | intro _ | refine r_seq ?_ | refine r_region ?_ | refine r_block ?_ | refine r_retc ?_ | refine r_exit ?_ | refine r_skip ?_
      | refine r_label ?_ | refine r_cond_true rfl ?_ | refine r_cond_false rfl ?_)
    exact g_retM D () (s := (by (repeat (first | exact Sel.here | apply Sel.there)); first | done | fail)) (hr := rfl) (h := .cell1 (v := int 0) rfl (by first | exact .here | exact .there .here | fail) rfl .nil) (tk := (by (repeat (first | exact Take.nil | apply Take.cons | exact Sel.here | apply Sel.there)); first | done | fail)) (hp := rfl) (hx := trivial)
  · rw [hpd] at hz
    exact hz.1.elim
abbrev lg0 : LG := ⟨none, 0, [], none, 0, [], 0, false⟩
theorem open0 (d : Nat) (room : Int) (q : Option Addr) (c : Nat) (ops ct : Int) :
    Does Tryz.prog 19 [ptr d] (bagL d room ops ct q c [] []) (X := Nat) (fun lg => .tuple #[ptr lg, int 0]) (fun lg => lg0.L lg d false ++ bagL d room ops ct q c [] []) (fun _ => True) := by
  have hrd := read_no d room q c ops ct [] (nmB 0) 0 (by simp) (pos_nil _) rfl
  have hnm := sname 0 (by decide)
  refine fn_intro Tryz.func19 rfl Tryz.ntmps19 rfl (by simp only [argFr, Nat.zero_add, Nat.reduceAdd]; rfl) (fun Γ => ?_)
  repeat (first
    | (refine g_ops ?_; first | refine sO ?_ | refine s_n (fun _ => ?_) | refine s_appB (fun _ _ => ?_) | refine s_app (fun _ _ => ?_) | refine s_b0 (fun _ => ?_) | ((fail_if_success refine g_lit rfl rfl rfl ?_); first | apply g_partM rfl rfl rfl | apply g_partMB rfl rfl rfl | fail))
    | refine gS ?_ | exact s_m | intro _ | refine r_seq ?_ | refine r_region ?_ | refine r_block ?_ | refine r_retc ?_ | refine r_exit ?_ | refine r_skip ?_
    | refine r_label ?_ | refine r_cond_true rfl ?_ | refine r_cond_false rfl ?_)
  rename_i lg
  refine g_loop (X := Nat) (fun _ => [(0, ptr d), (4, ptr lg)]) (fun _ => lg0.row lg d false :: bagL d room ops ct q c [] []) (fun _ => True) (fun i => i) 0 trivial (by (repeat (first | exact FrSub.nil | refine FrSub.cons rfl ?_)); first | done | fail) (by (repeat (first | exact Take.nil | apply Take.cons | exact Sel.here | apply Sel.there)); first | done | fail) (fun i _ => ?_)
  dsimp only [LG.row, List.length_nil]
  repeat (first
    | (refine g_ops ?_; first | refine sO ?_ | refine s_n (fun _ => ?_) | refine s_appB (fun _ _ => ?_) | refine s_app (fun _ _ => ?_) | refine s_b0 (fun _ => ?_) | ((fail_if_success refine g_lit rfl rfl rfl ?_); first | apply g_partM rfl rfl rfl | apply g_partMB rfl rfl rfl | fail))
    | refine gS ?_ | exact s_m | intro _ | refine r_seq ?_ | refine r_region ?_ | refine r_block ?_ | refine r_retc ?_ | refine r_exit ?_ | refine r_skip ?_
    | refine r_label ?_ | refine r_cond_true rfl ?_ | refine r_cond_false rfl ?_)
  refine g_as 21 (v' := int ((0 : Nat) : Int)) rfl rfl ?_
  repeat (first
    | (refine g_ops ?_; first | refine sO ?_ | refine s_n (fun _ => ?_) | refine s_appB (fun _ _ => ?_) | refine s_app (fun _ _ => ?_) | refine s_b0 (fun _ => ?_) | ((fail_if_success refine g_lit rfl rfl rfl ?_); first | apply g_partM rfl rfl rfl | apply g_partMB rfl rfl rfl | fail) | refine s_k (hnm) ?_ | refine s_k (hrd) ?_ | refine s_k (clean0 lg d (.slice none 0 0) (.slice none 0 0) 0 false false room q c ops ct) ?_)
    | refine gS ?_ | exact s_m | intro _ | refine r_seq ?_ | refine r_region ?_ | refine r_block ?_ | refine r_retc ?_ | refine r_exit ?_ | refine r_skip ?_
    | refine r_label ?_ | refine r_cond_true rfl ?_ | refine r_cond_false rfl ?_)
  dsimp only [List.cons_append, List.append_nil]
  refine g_loop (X := Nat) (fun _ => [(0, ptr d), (4, ptr lg), (47, int 0), (48, int 0)]) (fun _ => lrow lg d (.slice none 0 0) (.slice none 0 0) 0 false false :: bagL d room ops ct q c [] []) (fun _ => True) (fun i => i) 0 trivial (by (repeat (first | exact FrSub.nil | refine FrSub.cons rfl ?_)); first | done | fail) (by (repeat (first | exact Take.nil | apply Take.cons | exact Sel.here | apply Sel.there)); first | done | fail) (fun i _ => ?_)
  repeat (first
    | (refine g_ops ?_; first | refine sO ?_ | refine s_n (fun _ => ?_) | refine s_appB (fun _ _ => ?_) | refine s_app (fun _ _ => ?_) | refine s_b0 (fun _ => ?_) | ((fail_if_success refine g_lit rfl rfl rfl ?_); first | apply g_partM rfl rfl rfl | apply g_partMB rfl rfl rfl | fail))
    | refine gS ?_ | exact s_m | intro _ | refine r_seq ?_ | refine r_region ?_ | refine r_block ?_ | refine r_retc ?_ | refine r_exit ?_ | refine r_skip ?_
    | refine r_label ?_ | refine r_cond_true rfl ?_ | refine r_cond_false rfl ?_)
  refine g_own_nil none 1 28 ?_
  refine g_own_nil none 1 3 ?_
  exact g_ret lg rfl (by (repeat (first | exact RVs.nil | apply RVs.tmp rfl | apply RVs.cellA rfl (by (repeat (first | exact Sel.here | apply Sel.there)); first | done | fail) (by (repeat (first | exact Cut.zero | apply Cut.take | apply Cut.skip)); first | done | fail) | apply RVs.cell1 rfl (by (repeat (first | exact Sel.here | apply Sel.there)); first | done | fail) rfl)); first | done | fail) (by dsimp only [LG.L, LG.row, LG.own, List.length_nil, List.map_nil, List.cons_append, List.nil_append]; exact (by (repeat (first | exact Take.nil | apply Take.cons | exact Sel.here | apply Sel.there)); first | done | fail)) rfl trivial
theorem fresh0 : Does Tryz.prog 9 [] [] (X := Nat × Nat) (fun y => .tuple #[ptr y.1, ptr y.2, .bool true]) (fun y => lg0.L y.2 y.1 false ++ bagL y.1 1048576 0 0 none 0 [] []) (fun _ => True) := by
  have hnew := new 1048576 (by decide) (by decide)
  refine fn_intro Tryz.func9 rfl Tryz.ntmps9 rfl (by simp only [argFr, Nat.zero_add, Nat.reduceAdd]; rfl) (fun Γ => ?_)
  repeat (first
    | (refine g_ops ?_; first | refine sO ?_ | refine s_n (fun _ => ?_) | refine s_appB (fun _ _ => ?_) | refine s_app (fun _ _ => ?_) | refine s_b0 (fun _ => ?_) | ((fail_if_success refine g_lit rfl rfl rfl ?_); first | apply g_partM rfl rfl rfl | apply g_partMB rfl rfl rfl | fail) | refine s_c (hnew) (fun _ _ => ?_))
    | apply g_regB (id := 2) 16 | apply g_regB (id := 5) 2 | refine gS ?_ | exact s_m | intro _ | refine r_seq ?_ | refine r_region ?_ | refine r_block ?_
    | refine r_retc ?_ | refine r_exit ?_ | refine r_skip ?_ | refine r_label ?_ | refine r_cond_true rfl ?_ | refine r_cond_false rfl ?_ | (refine gp_take ?_; first | refine pT ?_ | ((fail_if_success refine gp_lit rfl rfl rfl rfl ?_); first | apply gp_guard_dec rfl rfl rfl rfl | apply gp_guard rfl rfl rfl rfl | fail))
    | (refine gp_see ?_; first | refine p_f ?_ | refine pS ?_ | ((fail_if_success refine gp_lit rfl rfl rfl rfl ?_); first | apply gp_guard_dec rfl rfl rfl rfl | apply gp_guard rfl rfl rfl rfl | fail))
    | (refine gp_one ?_; first | refine pO ?_ | refine p_n (fun _ => ?_) | refine p_appB (fun _ _ => ?_) | refine p_app (fun _ _ => ?_) | refine p_b0 (fun _ => ?_) | ((fail_if_success refine gp_lit rfl rfl rfl rfl ?_); first | apply gp_guard_dec rfl rfl rfl rfl | apply gp_guard rfl rfl rfl rfl | fail) | refine p_c (hnew) (fun _ _ => ?_))
    | refine gp_two ?_ ?_ | refine gp_done hd hk ?_ | intro _ | refine p_ta hd hk (fun _ _ _ hd hk => ?_) | refine p_ts hd hk (fun _ hd hk => ?_))
  rename_i d _
  dsimp only [List.cons_append, List.nil_append]
  refine g_own_nil none 1 80 ?_
  refine g_bgNil (F := Fi.L) ?_
  repeat (first
    | (refine g_ops ?_; first | refine sO ?_ | refine s_n (fun _ => ?_) | refine s_appB (fun _ _ => ?_) | refine s_app (fun _ _ => ?_) | refine s_b0 (fun _ => ?_) | ((fail_if_success refine g_lit rfl rfl rfl ?_); first | apply g_partM rfl rfl rfl | apply g_partMB rfl rfl rfl | fail) | refine s_c (open0 d 1048576 none 0 0 0) (fun _ _ => ?_))
    | refine gS ?_ | exact s_m | intro _ | refine r_seq ?_ | refine r_region ?_ | refine r_block ?_ | refine r_retc ?_ | refine r_exit ?_ | refine r_skip ?_
    | refine r_label ?_ | refine r_cond_true rfl ?_ | refine r_cond_false rfl ?_)
  rename_i lg _
  dsimp only [List.cons_append, List.nil_append]
  exact gR ((d, lg) : Nat × Nat) trivial
end Go.Proofs.YtdldgbbhagpofaaGreatDoor
