/- Contracts and laws that the proof stands on. -/
import Derived.Test.YtdldgbbhagpofaaGreatDoorSeglogCrash23
import Derived.Test.YtdldgbbhagpofaaGreatDoorSeglogCrash19
set_option linter.unusedSimpArgs false
set_option linter.unusedVariables false
namespace Go.Proofs.YtdldgbbhagpofaaGreatDoor
open Go.Sl facts
structure AcY where
  y : DkX
  ops : Int
  ct : Int
structure AyOn (ps : List PV) (fs : List Fi) (ops ct : Int) (i : Nat) (z : AcY) : Prop where
  wr : WrL (ps.drop i) fs z.y.fs
  opb : ops ≤ z.ops ∧ z.ops ≤ ops + 2 * ((ps.length - i : Nat) : Int)
  ctb : 0 ≤ z.ct ∧ z.ct ≤ ct ∧ (ct ≠ 0 → z.ct ≠ 0)
structure AyOff (ps : List PV) (fs : List Fi) (ops ct : Int) (i : Nat) (z : AcY) : Prop where
  wr : ∃ gs, WrL (ps.drop (i + 1)) fs gs ∧ (z.y.fs = gs ∨ ∃ w, ps[i]? = some w ∧ Put1 (nmB w.file) (partB w) gs z.y.fs)
  opb : ops ≤ z.ops ∧ z.ops ≤ ops + 2 * (ps.length : Int)
  ctb : 0 ≤ z.ct ∧ z.ct ≤ ct ∧ (ct ≠ 0 → z.ct ≠ 0)
  off : ct ≠ 0
theorem AyOn.next {ps : List PV} {fs : List Fi} {ops ct : Int} {i : Nat} {z : AcY} (h : AyOn ps fs ops ct (i + 1) z) (hi : i < ps.length) {w : WcX} (hw : WcOk (nmB ps[i].file) (partB ps[i]) z.y.fs z.ops z.ct w) (h0 : w.o = 0) : AyOn ps fs ops ct i ⟨w.y, w.ops, w.ct⟩ := by
  have h1 := h.opb
  have h2 := h.ctb
  have h3 := hw.opb
  have h4 := hw.ctb
  refine ⟨?_, ⟨by show ops ≤ w.ops; omega, by show w.ops ≤ _; omega⟩, by show 0 ≤ w.ct; omega, by show w.ct ≤ ct; omega, fun h => by show w.ct ≠ 0; omega⟩
  rw [List.drop_eq_getElem_cons hi]
  rcases hw.how with ⟨_, h5⟩ | ⟨h5, _⟩ | ⟨h5, _⟩
  · exact .cons h.wr h5
  · omega
  · omega
theorem AyOn.off {ps : List PV} {fs : List Fi} {ops ct : Int} {i : Nat} {z : AcY} (h : AyOn ps fs ops ct (i + 1) z) (hi : i < ps.length) {w : WcX} (hw : WcOk (nmB ps[i].file) (partB ps[i]) z.y.fs z.ops z.ct w) (h0 : w.o ≠ 0) : AyOff ps fs ops ct i ⟨w.y, w.ops, w.ct⟩ := by
  have h1 := h.opb
  have h2 := h.ctb
  have h3 := hw.opb
  have h4 := hw.ctb
  have hc : z.ct ≠ 0 := by
    rcases hw.how with ⟨h5, _⟩ | ⟨_, _, h5⟩ | ⟨_, _, h5⟩
    · exact (h0 h5).elim
    · exact h5
    · exact h5
  refine ⟨⟨z.y.fs, h.wr, ?_⟩, ⟨by show ops ≤ w.ops; omega, by show w.ops ≤ _; omega⟩, ⟨by show 0 ≤ w.ct; omega, by show w.ct ≤ ct; omega, fun h => by show w.ct ≠ 0; omega⟩, by omega⟩
  rcases hw.how with ⟨h5, _⟩ | ⟨_, h5, _⟩ | ⟨_, h5, _⟩
  · exact (h0 h5).elim
  · exact .inl h5
  · exact .inr ⟨ps[i], List.getElem?_eq_getElem hi, h5⟩
structure AcX where
  ok : Bool
  x : LG
  z : AcY
  H : HP
structure AcOk (H : HP) (x : LG) (rs : List BV) (s : St) (fs : List Fi) (ops ct : Int) (w : AcX) : Prop where
  yes : w.ok = true → ApOk H x rs s fs ⟨w.x, w.z.y, w.H⟩
  no : w.ok = false → w.x = x ∧ HP.sub H w.H ∧ ct ≠ 0 ∧ ∃ ps i, ps.map PV.a = s.out ∧ i < ps.length ∧ AyOff ps fs ops ct i w.z
  opb : ops ≤ w.z.ops ∧ w.z.ops ≤ ops + 202
  ctb : 0 ≤ w.z.ct ∧ w.z.ct ≤ ct ∧ (ct ≠ 0 → w.z.ct ≠ 0)
abbrev roC (b2 b4 b5 b6 lg d : Nat) (room : Int) (lr : Chunk) (ps : List PV) (oq : Option Addr) (oc : Nat) (H1 : HP) (e : Int) (_ : Nat) (z : AcY) : List Chunk :=
  [.own oq ps.length oc 4 (ps.flatMap PV.cells) 63, .row b6 [.slice oq ps.length oc] 56, .row b5 [int e] 29, .row b2 [ptr lg] 24, .row b4 [int 0] 3, lr,
    drow d room (.slice z.y.q z.y.fs.length z.y.c) z.ops z.ct, .own z.y.q z.y.fs.length z.y.c 1 (ptrs z.y.fs) 80, Bag z.y.fs, Pile H1]
attribute [local irreducible] Code.wp wpList Exit.then Exit.inBlock bodyPost Back MidQ G GP QStep VStep CStep SStep Does Post Reads
attribute [local irreducible] frameB recB partB Begin RPost MPost pbytes
set_option maxHeartbeats 4000000 in
theorem appendC {H : HP} (lg d : Nat) (x : LG) (room : Int) (q : Option Addr) (c : Nat) (ops ct : Int) (ho : 0 ≤ ops ∧ ops ≤ 10000000) (hcc : 0 ≤ ct ∧ ct ≤ 1000000) (fs : List Fi) (hS : SortF fs) (hfl : fs.length ≤ 800) (hr0' : 0 ≤ room ∧ room ≤ 8388608) (hu : used fs ≤ 5000000)
    (p : Option Addr) (c0 : Nat) (rs : List BV) (hR : RecsAt H p rs) (hn0 : 0 < rs.length) (hn : rs.length ≤ 100) (hbig : ∀ r ∈ rs, r.l.length ≤ 65536) (hs : sumL rs ≤ 1000000) (size0 : Nat) (hz : x.size = size0) (hz1 : size0 ≤ 1000000000)
    (hXB : BtsAt H x.rs) (h1 : x.rs.length ≤ 100000) (h2 : x.fs.length ≤ 100000) (B : Nat) (hB : B ≤ 1000000) (hroom : (B : Int) ≤ room - used fs) (hok : POk rs (partsL x.fs.length size0 x.sl x.rs.length rs) B) :
    Does Tryz.prog 10 [ptr lg, .slice p rs.length c0] (x.L lg d false ++ bagL d room ops ct q c fs [Pile H]) (X := AcX) (fun z => .tuple #[int (if z.ok then (x.rs.length : Int) else 0), int (if z.ok then 0 else 9)])
      (fun z => z.x.L lg d (!z.ok) ++ bagL d room z.z.ops z.z.ct z.z.y.q z.z.y.c z.z.y.fs [Pile z.H]) (AcOk H x rs (partsL x.fs.length size0 x.sl x.rs.length rs) fs ops ct) := by
  have hpt := parts_ (H := H) lg d x false p c0 rs size0 hz hR hn (by omega) hz1 (by omega) (by omega)
  have hany := anyB (H := H) p c0 rs hR (by omega)
  have hno : rs.any bigB = false := by
    rw [List.any_eq_false]
    intro r hr
    have := hbig r hr
    simp; omega
  rw [hno] at hany
  have hsum := lsum (H := H) p c0 rs hR (by omega) (by omega)
  obtain ⟨rq, rc, xs, fq, fc, fs', size, sl⟩ := x
  dsimp only [LG.L, LG.row, LG.own] at hz hXB h1 h2 hok hpt ⊢
  have hdead := dead_ lg d (.slice rq xs.length rc) (.slice fq fs'.length fc) size sl false
  generalize hst : partsL fs'.length size0 sl xs.length rs = st at *
  refine fn_introM Tryz.func10 rfl Tryz.ntmps10 rfl (by simp only [argFr, Nat.zero_add, Nat.reduceAdd]; rfl) (fun Γ => ?_)
  dsimp only [List.cons_append, List.nil_append]
  repeat (first
    | (refine g_ops ?_; first | refine sO ?_ | refine s_n (fun _ => ?_) | refine s_appB (fun _ _ => ?_) | refine s_app (fun _ _ => ?_) | refine s_b0 (fun _ => ?_) | ((fail_if_success refine g_lit rfl rfl rfl ?_); first | apply g_partM rfl rfl rfl | apply g_partMB rfl rfl rfl | fail) | refine s_k (hany) ?_ | refine s_k (hdead) ?_ | refine s_k (hsum) ?_)
    | apply g_regB (id := 3) 18 | refine g_drawS2 (id := 18) 4 5 (.see 0 [] (.one 1 (.one 2 .done))) (fun k hd hk => ?_) | refine gS ?_ | exact s_m | intro _
    | refine r_seq ?_ | refine r_region ?_ | refine r_block ?_ | refine r_retc ?_ | refine r_exit ?_ | refine r_skip ?_ | refine r_label ?_ | refine r_cond_true rfl ?_
    | refine r_cond_false rfl ?_ | (refine gp_take ?_; first | refine pT ?_ | ((fail_if_success refine gp_lit rfl rfl rfl rfl ?_); first | apply gp_guard_dec rfl rfl rfl rfl | apply gp_guard rfl rfl rfl rfl | fail))
    | (refine gp_see ?_; first | refine p_f ?_ | refine pS ?_ | ((fail_if_success refine gp_lit rfl rfl rfl rfl ?_); first | apply gp_guard_dec rfl rfl rfl rfl | apply gp_guard rfl rfl rfl rfl | fail) | refine p_h (hany) hd hk ?_ | refine p_h (hdead) hd hk ?_ | refine p_h (hsum) hd hk ?_)
    | (refine gp_one ?_; first | refine pO ?_ | refine p_n (fun _ => ?_) | refine p_appB (fun _ _ => ?_) | refine p_app (fun _ _ => ?_) | refine p_b0 (fun _ => ?_) | ((fail_if_success refine gp_lit rfl rfl rfl rfl ?_); first | apply gp_guard_dec rfl rfl rfl rfl | apply gp_guard rfl rfl rfl rfl | fail) | refine p_k (hany) ?_ | refine p_k (hdead) ?_ | refine p_k (hsum) ?_)
    | refine gp_two ?_ ?_ | refine gp_done hd hk ?_ | intro _ | refine p_ta hd hk (fun _ _ _ hd hk => ?_) | refine p_ts hd hk (fun _ hd hk => ?_))
  rename_i b2 b4 b5
  refine g_cond_dec rfl (fun h => by omega) (fun _ => ?_)
  repeat (first
    | (refine g_ops ?_; first | refine sO ?_ | refine s_n (fun _ => ?_) | refine s_appB (fun _ _ => ?_) | refine s_app (fun _ _ => ?_) | refine s_b0 (fun _ => ?_) | ((fail_if_success refine g_lit rfl rfl rfl ?_); first | apply g_partM rfl rfl rfl | apply g_partMB rfl rfl rfl | fail) | refine s_k (hany) ?_ | refine s_k (hdead) ?_ | refine s_k (hsum) ?_)
    | apply g_regB (id := 3) 18 | refine g_drawS2 (id := 18) 4 5 (.see 0 [] (.one 1 (.one 2 .done))) (fun k hd hk => ?_) | refine gS ?_ | exact s_m | intro _
    | refine r_seq ?_ | refine r_region ?_ | refine r_block ?_ | refine r_retc ?_ | refine r_exit ?_ | refine r_skip ?_ | refine r_label ?_ | refine r_cond_true rfl ?_
    | refine r_cond_false rfl ?_ | (refine gp_take ?_; first | refine pT ?_ | ((fail_if_success refine gp_lit rfl rfl rfl rfl ?_); first | apply gp_guard_dec rfl rfl rfl rfl | apply gp_guard rfl rfl rfl rfl | fail))
    | (refine gp_see ?_; first | refine p_f ?_ | refine pS ?_ | ((fail_if_success refine gp_lit rfl rfl rfl rfl ?_); first | apply gp_guard_dec rfl rfl rfl rfl | apply gp_guard rfl rfl rfl rfl | fail) | refine p_h (hany) hd hk ?_ | refine p_h (hdead) hd hk ?_ | refine p_h (hsum) hd hk ?_)
    | (refine gp_one ?_; first | refine pO ?_ | refine p_n (fun _ => ?_) | refine p_appB (fun _ _ => ?_) | refine p_app (fun _ _ => ?_) | refine p_b0 (fun _ => ?_) | ((fail_if_success refine gp_lit rfl rfl rfl rfl ?_); first | apply gp_guard_dec rfl rfl rfl rfl | apply gp_guard rfl rfl rfl rfl | fail) | refine p_k (hany) ?_ | refine p_k (hdead) ?_ | refine p_k (hsum) ?_)
    | refine gp_two ?_ ?_ | refine gp_done hd hk ?_ | intro _ | refine p_ta hd hk (fun _ _ _ hd hk => ?_) | refine p_ts hd hk (fun _ hd hk => ?_))
  refine g_as 18 (v' := .bool false) rfl (congrArg Value.bool (by rw [decide_eq_false (by omega)]; rfl)) ?_
  repeat (first
    | (refine g_ops ?_; first | refine sO ?_ | refine s_n (fun _ => ?_) | refine s_appB (fun _ _ => ?_) | refine s_app (fun _ _ => ?_) | refine s_b0 (fun _ => ?_) | ((fail_if_success refine g_lit rfl rfl rfl ?_); first | apply g_partM rfl rfl rfl | apply g_partMB rfl rfl rfl | fail) | refine s_k (hany) ?_ | refine s_k (hdead) ?_ | refine s_k (hsum) ?_)
    | apply g_regB (id := 3) 18 | refine g_drawS2 (id := 18) 4 5 (.see 0 [] (.one 1 (.one 2 .done))) (fun k hd hk => ?_) | refine gS ?_ | exact s_m | intro _
    | refine r_seq ?_ | refine r_region ?_ | refine r_block ?_ | refine r_retc ?_ | refine r_exit ?_ | refine r_skip ?_ | refine r_label ?_ | refine r_cond_true rfl ?_
    | refine r_cond_false rfl ?_ | (refine gp_take ?_; first | refine pT ?_ | ((fail_if_success refine gp_lit rfl rfl rfl rfl ?_); first | apply gp_guard_dec rfl rfl rfl rfl | apply gp_guard rfl rfl rfl rfl | fail))
    | (refine gp_see ?_; first | refine p_f ?_ | refine pS ?_ | ((fail_if_success refine gp_lit rfl rfl rfl rfl ?_); first | apply gp_guard_dec rfl rfl rfl rfl | apply gp_guard rfl rfl rfl rfl | fail) | refine p_h (hany) hd hk ?_ | refine p_h (hdead) hd hk ?_ | refine p_h (hsum) hd hk ?_)
    | (refine gp_one ?_; first | refine pO ?_ | refine p_n (fun _ => ?_) | refine p_appB (fun _ _ => ?_) | refine p_app (fun _ _ => ?_) | refine p_b0 (fun _ => ?_) | ((fail_if_success refine gp_lit rfl rfl rfl rfl ?_); first | apply gp_guard_dec rfl rfl rfl rfl | apply gp_guard rfl rfl rfl rfl | fail) | refine p_k (hany) ?_ | refine p_k (hdead) ?_ | refine p_k (hsum) ?_)
    | refine gp_two ?_ ?_ | refine gp_done hd hk ?_ | intro _ | refine p_ta hd hk (fun _ _ _ hd hk => ?_) | refine p_ts hd hk (fun _ hd hk => ?_))
  refine g_cond_dec rfl (fun h => by omega) (fun _ => ?_)
  repeat (first
    | (refine g_ops ?_; first | refine sO ?_ | refine s_n (fun _ => ?_) | refine s_appB (fun _ _ => ?_) | refine s_app (fun _ _ => ?_) | refine s_b0 (fun _ => ?_) | ((fail_if_success refine g_lit rfl rfl rfl ?_); first | apply g_partM rfl rfl rfl | apply g_partMB rfl rfl rfl | fail) | refine s_c (hpt) (fun _ _ => ?_))
    | apply g_regB (id := 3) 18 | refine g_drawS2 (id := 18) 4 5 (.see 0 [] (.one 1 (.one 2 .done))) (fun k hd hk => ?_) | refine gS ?_ | exact s_m | intro _
    | refine r_seq ?_ | refine r_region ?_ | refine r_block ?_ | refine r_retc ?_ | refine r_exit ?_ | refine r_skip ?_ | refine r_label ?_ | refine r_cond_true rfl ?_
    | refine r_cond_false rfl ?_ | (refine gp_take ?_; first | refine pT ?_ | ((fail_if_success refine gp_lit rfl rfl rfl rfl ?_); first | apply gp_guard_dec rfl rfl rfl rfl | apply gp_guard rfl rfl rfl rfl | fail))
    | (refine gp_see ?_; first | refine p_f ?_ | refine pS ?_ | ((fail_if_success refine gp_lit rfl rfl rfl rfl ?_); first | apply gp_guard_dec rfl rfl rfl rfl | apply gp_guard rfl rfl rfl rfl | fail))
    | (refine gp_one ?_; first | refine pO ?_ | refine p_n (fun _ => ?_) | refine p_appB (fun _ _ => ?_) | refine p_app (fun _ _ => ?_) | refine p_b0 (fun _ => ?_) | ((fail_if_success refine gp_lit rfl rfl rfl rfl ?_); first | apply gp_guard_dec rfl rfl rfl rfl | apply gp_guard rfl rfl rfl rfl | fail) | refine p_c (hpt) (fun _ _ => ?_))
    | refine gp_two ?_ ?_ | refine gp_done hd hk ?_ | intro _ | refine p_ta hd hk (fun _ _ _ hd hk => ?_) | refine p_ts hd hk (fun _ hd hk => ?_))
  rename_i y1 hy1 b6
  obtain ⟨ps, oq, oc, H1⟩ := y1
  obtain ⟨hs1, hps, hpa⟩ := hy1
  dsimp only [List.cons_append, List.nil_append] at hs1 hps hpa ⊢
  repeat (first
    | (refine g_ops ?_; first | refine sO ?_ | refine s_n (fun _ => ?_) | refine s_appB (fun _ _ => ?_) | refine s_app (fun _ _ => ?_) | refine s_b0 (fun _ => ?_) | ((fail_if_success refine g_lit rfl rfl rfl ?_); first | apply g_partM rfl rfl rfl | apply g_partMB rfl rfl rfl | fail) | refine s_c (backP oq ps.length oc) (fun _ _ => ?_))
    | refine gS ?_ | exact s_m | intro _ | refine r_seq ?_ | refine r_region ?_ | refine r_block ?_ | refine r_retc ?_ | refine r_exit ?_ | refine r_skip ?_
    | refine r_label ?_ | refine r_cond_true rfl ?_ | refine r_cond_false rfl ?_)
  rename_i bb _
  dsimp only [List.cons_append, List.nil_append]
  have hpl : ps.length ≤ 101 := by have := congrArg List.length hps; rw [List.length_map] at this; have := hok.len; omega
  refine g_own (p := oq) (len := ps.length) (cap := oc) (n := 4) (xs := ps.flatMap PV.cells) (e := 63) (by (repeat (first | exact Sel.here | apply Sel.there)); first | done | fail) (fun _ _ hqp => ?_)
  have hmemA : ∀ z ∈ ps, z.a ∈ st.out := fun z hz => by rw [← hps]; exact List.mem_map.2 ⟨z, hz, rfl⟩
  have hby := hok.byt ps hps
  refine g_range (f := 46) (caps := [ptr bb]) (X := Bool × Nat × AcY) (pd := fun z => z.1) (ret := fun _ => .tuple #[])
    (A := .row bb [.slice oq ps.length oc] 56 :: roC b2 b4 b5 b6 lg d room (lrow lg d (.slice rq xs.length rc) (.slice fq fs'.length fc) size sl false) ps oq oc H1 0 ps.length ⟨⟨q, c, fs⟩, ops, ct⟩)
    (B := fun z => .row bb [.slice oq ps.length oc] 56 :: (if z.1 then roC b2 b4 b5 b6 lg d room (lrow lg d (.slice rq xs.length rc) (.slice fq fs'.length fc) size sl true) ps oq oc H1 9 z.2.1 z.2.2 else roC b2 b4 b5 b6 lg d room (lrow lg d (.slice rq xs.length rc) (.slice fq fs'.length fc) size sl false) ps oq oc H1 0 0 z.2.2))
    (φ := fun z => if z.1 then AyOff ps fs ops ct z.2.1 z.2.2 ∧ z.2.1 < ps.length else AyOn ps fs ops ct 0 z.2.2) rfl (by dsimp only [roC]; exact (by (repeat (first | exact Take.nil | apply Take.cons | exact Sel.here | apply Sel.there)); first | done | fail)) (fun l r hp ha hb hN hf => ?_) (fun D z hz hpd => ?_) (fun D z hz hpd => ?_)
  · refine back46 (l := l) (r := r) (bx := bb) (p := oq) (n := ps.length) (c := oc) (M := roC b2 b4 b5 b6 lg d room (lrow lg d (.slice rq xs.length rc) (.slice fq fs'.length fc) size sl false) ps oq oc H1 0) (F := roC b2 b4 b5 b6 lg d room (lrow lg d (.slice rq xs.length rc) (.slice fq fs'.length fc) size sl true) ps oq oc H1 9) (φ := fun i y => AyOn ps fs ops ct i y) (ψ := fun i y => AyOff ps fs ops ct i y) (el := elP ps) (fun _ => rfl) (by omega) (fun i y hi hw => ?_) (fun i y hi hw => ?_) ⟨⟨q, c, fs⟩, ops, ct⟩ ⟨by rw [List.drop_length]; exact .nil, ⟨Int.le_refl _, by simp⟩, hcc.1, Int.le_refl _, fun h => h⟩
    · obtain ⟨ob, rfl⟩ := hqp (by omega)
      refine ⟨ob, 0, _, _, rfl, .here, fun j v hv => ?_⟩
      exact own_at pv_len (l := ps) (i := i) (a := ps.getD i ⟨0, 0, false, [], none, 0⟩) (by rw [List.getD_eq_getElem?_getD, List.getElem?_eq_getElem hi]; rfl) j v hv
    · have hww := hw.wr
      have hwo := hw.opb
      have hwc := hw.ctb
      have hfl' := hww.len
      have hul := hww.used
      have hsS := hww.sort hS
      have hd1 := pbytes_drop ps i hi
      have hd2 := pbytes_le ps i
      have hge : ps.getD i ⟨0, 0, false, [], none, 0⟩ = ps[i] := by rw [List.getD_eq_getElem?_getD, List.getElem?_eq_getElem hi]; rfl
      have hmem := List.getElem_mem hi
      have hel : elP ps i = (ps[i]).cells := by unfold elP; rw [hge]
      have hnx := fun w h1 h2 => hw.next hi (w := w) h1 h2
      have hof := fun w h1 h2 => hw.off hi (w := w) h1 h2
      rw [hel]
      generalize ps[i] = z at hd1 hmem hnx hof
      obtain ⟨hzf, hz1'⟩ := hok.file z.a (hmemA z hmem)
      have hzl := hok.pl z.a (hmemA z hmem)
      have hzm := hok.mem z.a (hmemA z hmem)
      dsimp only [PV.a] at hzf hz1' hzl hzm
      have hwr := writeC (H := H1) lg d ⟨rq, rc, xs, fq, fc, fs', size, sl⟩ false room y.y.q y.y.c y.ops y.ct ⟨by omega, by omega⟩ ⟨by omega, by omega⟩ y.y.fs hsS (by rw [List.length_drop] at hfl'; omega) hr0' (by omega) z hzf hz1' (hpa z hmem) (fun r hr => BtAt.grow (hR.at_ r (hzm r hr)) hs1) (fun r hr => by have := hbig r (hzm r hr); omega) hzl (by omega) (by omega)
      dsimp only [LG.row] at hwr
      refine y_intro (ps := [41, 42]) hp rfl hN (by decide) hf rfl (fun Γ => ?_)
      rw [ha, hb]
      dsimp only [roC]
      repeat (first
        | (refine g_ops ?_; first | refine sO ?_ | refine s_n (fun _ => ?_) | refine s_appB (fun _ _ => ?_) | refine s_app (fun _ _ => ?_) | refine s_b0 (fun _ => ?_) | ((fail_if_success refine g_lit rfl rfl rfl ?_); first | apply g_partM rfl rfl rfl | apply g_partMB rfl rfl rfl | fail))
        | refine gS ?_ | exact s_m | intro _ | refine r_seq ?_ | refine r_region ?_ | refine r_block ?_ | refine r_retc ?_ | refine r_exit ?_ | refine r_skip ?_
        | refine r_label ?_ | refine r_cond_true rfl ?_ | refine r_cond_false rfl ?_)
      refine r_begin (by (repeat (first | exact Sel.here | apply Sel.there)); first | done | fail) ?_
      repeat ((fail_if_success refine s_at 47 ?_); first
        | (refine g_ops ?_; first | refine sO ?_ | refine s_n (fun _ => ?_) | refine s_appB (fun _ _ => ?_) | refine s_app (fun _ _ => ?_) | refine s_b0 (fun _ => ?_) | ((fail_if_success refine g_lit rfl rfl rfl ?_); first | apply g_partM rfl rfl rfl | apply g_partMB rfl rfl rfl | fail) | refine s_c (hwr) (fun _ _ => ?_))
        | apply g_regB (id := 3) 18 | refine g_drawS2 (id := 18) 4 5 (.see 0 [] (.one 1 (.one 2 .done))) (fun k hd hk => ?_) | refine gS ?_ | exact s_m
        | intro _ | refine r_seq ?_ | refine r_region ?_ | refine r_block ?_ | refine r_retc ?_ | refine r_exit ?_ | refine r_skip ?_ | refine r_label ?_
        | refine r_cond_true rfl ?_ | refine r_cond_false rfl ?_ | (refine gp_take ?_; first | refine pT ?_ | ((fail_if_success refine gp_lit rfl rfl rfl rfl ?_); first | apply gp_guard_dec rfl rfl rfl rfl | apply gp_guard rfl rfl rfl rfl | fail))
        | (refine gp_see ?_; first | refine p_f ?_ | refine pS ?_ | ((fail_if_success refine gp_lit rfl rfl rfl rfl ?_); first | apply gp_guard_dec rfl rfl rfl rfl | apply gp_guard rfl rfl rfl rfl | fail))
        | (refine gp_one ?_; first | refine pO ?_ | refine p_n (fun _ => ?_) | refine p_appB (fun _ _ => ?_) | refine p_app (fun _ _ => ?_) | refine p_b0 (fun _ => ?_) | ((fail_if_success refine gp_lit rfl rfl rfl rfl ?_); first | apply gp_guard_dec rfl rfl rfl rfl | apply gp_guard rfl rfl rfl rfl | fail) | refine p_c (hwr) (fun _ _ => ?_))
        | refine gp_two ?_ ?_ | refine gp_done hd hk ?_ | intro _ | refine p_ta hd hk (fun _ _ _ hd hk => ?_) | refine p_ts hd hk (fun _ hd hk => ?_))
      rename_i b9 w hw
      have hnx2 := hnx w hw
      have hof2 := hof w hw
      obtain ⟨o, yw, ow, cw⟩ := w
      dsimp only at hnx2 hof2 ⊢
      by_cases h0 : o = 0
      · subst h0
        rw [if_pos rfl]
        repeat (first
          | (refine g_ops ?_; first | refine sO ?_ | refine s_n (fun _ => ?_) | refine s_appB (fun _ _ => ?_) | refine s_app (fun _ _ => ?_) | refine s_b0 (fun _ => ?_) | ((fail_if_success refine g_lit rfl rfl rfl ?_); first | apply g_partM rfl rfl rfl | apply g_partMB rfl rfl rfl | fail))
          | refine gS ?_ | exact s_m | intro _ | refine r_seq ?_ | refine r_region ?_ | refine r_block ?_ | refine r_retc ?_ | refine r_exit ?_ | refine r_skip ?_
          | refine r_label ?_ | refine r_cond_true rfl ?_ | refine r_cond_false rfl ?_)
        exact r_next (r := r) (⟨yw, ow, cw⟩ : AcY) (by (repeat (first | exact Sel.here | apply Sel.there)); first | done | fail) (by simp only [Bool.not_true, Bool.false_eq_true, if_false, if_true]; exact (by (repeat (first | exact Take.nil | apply Take.cons | exact Sel.here | apply Sel.there)); first | done | fail)) (by rw [if_pos rfl]; exact hnx2 rfl)
      · rw [if_neg h0]
        repeat ((fail_if_success refine s_at 59 ?_); first
          | (refine g_ops ?_; first | refine sO ?_ | refine s_n (fun _ => ?_) | refine s_appB (fun _ _ => ?_) | refine s_app (fun _ _ => ?_) | refine s_b0 (fun _ => ?_) | ((fail_if_success refine g_lit rfl rfl rfl ?_); first | apply g_partM rfl rfl rfl | apply g_partMB rfl rfl rfl | fail))
          | refine gS ?_ | exact s_m | intro _ | refine r_seq ?_ | refine r_region ?_ | refine r_block ?_ | refine r_retc ?_ | refine r_exit ?_ | refine r_skip ?_
          | refine r_label ?_ | refine r_cond_true rfl ?_ | refine r_cond_false rfl ?_)
        first
          | (refine g_ops ?_; first | refine sO ?_ | refine s_n (fun _ => ?_) | refine s_appB (fun _ _ => ?_) | refine s_app (fun _ _ => ?_) | refine s_b0 (fun _ => ?_) | ((fail_if_success refine g_lit rfl rfl rfl ?_); first | apply g_partM rfl rfl rfl | apply g_partMB rfl rfl rfl | fail))
          | refine gS ?_ | exact s_m | intro _ | refine r_seq ?_ | refine r_region ?_ | refine r_block ?_ | refine r_retc ?_ | refine r_exit ?_ | refine r_skip ?_
          | refine r_label ?_ | refine r_cond_true rfl ?_ | refine r_cond_false rfl ?_
        refine g_as 59 (v' := .bool true) rfl rfl ?_
        repeat (first
          | (refine g_ops ?_; first | refine sO ?_ | refine s_n (fun _ => ?_) | refine s_appB (fun _ _ => ?_) | refine s_app (fun _ _ => ?_) | refine s_b0 (fun _ => ?_) | ((fail_if_success refine g_lit rfl rfl rfl ?_); first | apply g_partM rfl rfl rfl | apply g_partMB rfl rfl rfl | fail))
          | refine gS ?_ | exact s_m | intro _ | refine r_seq ?_ | refine r_region ?_ | refine r_block ?_ | refine r_retc ?_ | refine r_exit ?_ | refine r_skip ?_
          | refine r_label ?_ | refine r_cond_true rfl ?_ | refine r_cond_false rfl ?_)
        refine r_draw (id := 18) (C := []) (.two 0 (.one 1 (.one 2 .done)) 1 (.one 0 (.one 2 .done))) (by kernel_rfl) .nil (fun m hd hk => ?_)
        refine gp_two ?_ ?_
        · repeat (first
            | (refine gp_take ?_; first | refine pT ?_ | ((fail_if_success refine gp_lit rfl rfl rfl rfl ?_); first | apply gp_guard_dec rfl rfl rfl rfl | apply gp_guard rfl rfl rfl rfl | fail))
            | (refine gp_see ?_; first | refine p_f ?_ | refine pS ?_ | ((fail_if_success refine gp_lit rfl rfl rfl rfl ?_); first | apply gp_guard_dec rfl rfl rfl rfl | apply gp_guard rfl rfl rfl rfl | fail))
            | (refine gp_one ?_; first | refine pO ?_ | refine p_n (fun _ => ?_) | refine p_appB (fun _ _ => ?_) | refine p_app (fun _ _ => ?_) | refine p_b0 (fun _ => ?_) | ((fail_if_success refine gp_lit rfl rfl rfl rfl ?_); first | apply gp_guard_dec rfl rfl rfl rfl | apply gp_guard rfl rfl rfl rfl | fail))
            | refine gp_two ?_ ?_ | refine gp_done hd hk ?_ | intro _ | refine p_ta hd hk (fun _ _ _ hd hk => ?_) | refine p_ts hd hk (fun _ hd hk => ?_))
          repeat (first
            | (refine g_ops ?_; first | refine sO ?_ | refine s_n (fun _ => ?_) | refine s_appB (fun _ _ => ?_) | refine s_app (fun _ _ => ?_) | refine s_b0 (fun _ => ?_) | ((fail_if_success refine g_lit rfl rfl rfl ?_); first | apply g_partM rfl rfl rfl | apply g_partMB rfl rfl rfl | fail))
            | refine gS ?_ | exact s_m | intro _ | refine r_seq ?_ | refine r_region ?_ | refine r_block ?_ | refine r_retc ?_ | refine r_exit ?_ | refine r_skip ?_
            | refine r_label ?_ | refine r_cond_true rfl ?_ | refine r_cond_false rfl ?_)
          dsimp only [List.cons_append, List.nil_append, List.append_nil]
          exact r_leave (r := r) (⟨yw, ow, cw⟩ : AcY) (by (repeat (first | exact Sel.here | apply Sel.there)); first | done | fail) (by simp only [Bool.not_false, Bool.false_eq_true, if_false, if_true]; exact (by (repeat (first | exact Take.nil | apply Take.cons | exact Sel.here | apply Sel.there)); first | done | fail)) (by rw [if_neg (by decide)]; exact hof2 h0)
        · repeat (first
            | (refine gp_take ?_; first | refine pT ?_ | ((fail_if_success refine gp_lit rfl rfl rfl rfl ?_); first | apply gp_guard_dec rfl rfl rfl rfl | apply gp_guard rfl rfl rfl rfl | fail))
            | (refine gp_see ?_; first | refine p_f ?_ | refine pS ?_ | ((fail_if_success refine gp_lit rfl rfl rfl rfl ?_); first | apply gp_guard_dec rfl rfl rfl rfl | apply gp_guard rfl rfl rfl rfl | fail))
            | (refine gp_one ?_; first | refine pO ?_ | refine p_n (fun _ => ?_) | refine p_appB (fun _ _ => ?_) | refine p_app (fun _ _ => ?_) | refine p_b0 (fun _ => ?_) | ((fail_if_success refine gp_lit rfl rfl rfl rfl ?_); first | apply gp_guard_dec rfl rfl rfl rfl | apply gp_guard rfl rfl rfl rfl | fail))
            | refine gp_two ?_ ?_ | refine gp_done hd hk ?_ | intro _ | refine p_ta hd hk (fun _ _ _ hd hk => ?_) | refine p_ts hd hk (fun _ hd hk => ?_))
          repeat (first
            | (refine g_ops ?_; first | refine sO ?_ | refine s_n (fun _ => ?_) | refine s_appB (fun _ _ => ?_) | refine s_app (fun _ _ => ?_) | refine s_b0 (fun _ => ?_) | ((fail_if_success refine g_lit rfl rfl rfl ?_); first | apply g_partM rfl rfl rfl | apply g_partMB rfl rfl rfl | fail))
            | refine gS ?_ | exact s_m | intro _ | refine r_seq ?_ | refine r_region ?_ | refine r_block ?_ | refine r_retc ?_ | refine r_exit ?_ | refine r_skip ?_
            | refine r_label ?_ | refine r_cond_true rfl ?_ | refine r_cond_false rfl ?_)
          dsimp only [List.cons_append, List.nil_append, List.append_nil]
          exact r_leave (r := r) (⟨yw, ow, cw⟩ : AcY) (by (repeat (first | exact Sel.here | apply Sel.there)); first | done | fail) (by simp only [Bool.not_false, Bool.false_eq_true, if_false, if_true]; exact (by (repeat (first | exact Take.nil | apply Take.cons | exact Sel.here | apply Sel.there)); first | done | fail)) (by rw [if_neg (by decide)]; exact hof2 h0)
  · obtain ⟨zb, zi, ⟨y, zo, zt⟩⟩ := z
    dsimp only at hpd
    subst hpd
    simp only [Bool.false_eq_true, if_false] at hz ⊢
    have hzo := hz.opb
    have hzt := hz.ctb
    replace hz : WrL ps fs y.fs := by have := hz.wr; rwa [List.drop_zero] at this
    dsimp only at hzo hzt
    dsimp only [roC]
    dsimp only [List.cons_append, List.nil_append]
    repeat (first
      | (refine g_ops ?_; first | refine sO ?_ | refine s_n (fun _ => ?_) | refine s_appB (fun _ _ => ?_) | refine s_app (fun _ _ => ?_) | refine s_b0 (fun _ => ?_) | ((fail_if_success refine g_lit rfl rfl rfl ?_); first | apply g_partM rfl rfl rfl | apply g_partMB rfl rfl rfl | fail))
      | refine gS ?_ | exact s_m | intro _ | refine r_seq ?_ | refine r_region ?_ | refine r_block ?_ | refine r_retc ?_ | refine r_exit ?_ | refine r_skip ?_
      | refine r_label ?_ | refine r_cond_true rfl ?_ | refine r_cond_false rfl ?_)
    have hpn : ps.length = st.out.length := by rw [← hps, List.length_map]
    refine g_as 70 (v' := int ((0 : Nat) : Int)) rfl rfl ?_
    refine g_loop (X := F1X) (fun z => [(0, ptr lg), (1, .slice p rs.length c0), (2, ptr b2), (4, ptr b4), (5, ptr b5), (6, ptr b6), (7, int st.size), (68, .slice oq ps.length oc), (69, int ps.length), (70, int z.k)])
      (fun z => [.row b4 [int xs.length] 3, .own oq ps.length oc 4 (ps.flatMap PV.cells) 63, .row b5 [int 0] 29, .row b2 [ptr lg] 24, lrow lg d (.slice rq xs.length rc) (.slice z.fq z.l.length z.fc) size z.sl false,
        drow d room (.slice y.q y.fs.length y.c) zo zt, .own y.q y.fs.length y.c 1 (ptrs y.fs) 80, Bag y.fs, Pile H1, dfc D, .own rq xs.length rc 1 (xs.map BV.v) 28, .own z.fq z.l.length z.fc 1 (z.l.map int) 3])
      (fun z => z.k ≤ ps.length ∧ z.l = fs' ++ ((st.out.take z.k).filter (·.fresh)).map (fun a => (a.first : Int)) ∧ z.sl = (sl && !((st.out.take z.k).any (·.fresh)))) (fun z => ps.length - z.k) ⟨0, fq, fc, fs', sl⟩ ⟨Nat.zero_le _, by simp, by simp⟩ (by (repeat (first | exact FrSub.nil | refine FrSub.cons rfl ?_)); first | done | fail) (by (repeat (first | exact Take.nil | apply Take.cons | exact Sel.here | apply Sel.there)); first | done | fail) (fun z hzz => ?_)
    obtain ⟨k, gq, gc, gl, sl1⟩ := z
    obtain ⟨hk1, hl1, hsl1⟩ := hzz
    dsimp only at hk1 hl1 hsl1 ⊢
    repeat (first
      | (refine g_ops ?_; first | refine sO ?_ | refine s_n (fun _ => ?_) | refine s_appB (fun _ _ => ?_) | refine s_app (fun _ _ => ?_) | refine s_b0 (fun _ => ?_) | ((fail_if_success refine g_lit rfl rfl rfl ?_); first | apply g_partM rfl rfl rfl | apply g_partMB rfl rfl rfl | fail))
      | refine gS ?_ | exact s_m | intro _ | refine r_seq ?_ | refine r_region ?_ | refine r_block ?_ | refine r_retc ?_ | refine r_exit ?_ | refine r_skip ?_
      | refine r_label ?_ | refine r_cond_true rfl ?_ | refine r_cond_false rfl ?_)
    refine g_cond_dec rfl (fun h5 => ?_) (fun h5 => ?_)
    · have hk' : k < ps.length := by omega
      obtain ⟨ob, rfl⟩ := hqp (by omega)
      have hko : k < st.out.length := by omega
      have hge : st.out[k] = (ps[k]).a := by
        have : st.out[k]? = (ps[k]?).map PV.a := by rw [← hps, List.getElem?_map]
        rw [List.getElem?_eq_getElem hko, List.getElem?_eq_getElem hk'] at this
        exact Option.some.inj this
      have htk : st.out.take (k + 1) = st.out.take k ++ [(ps[k]).a] := by rw [List.take_add_one, List.getElem?_eq_getElem hko, hge]; rfl
      have hrow := own_at (b := ob) (len := ps.length) (cap := oc) (e := 63) pv_len (l := ps) (i := k) (a := ps[k]) (by rw [List.getElem?_eq_getElem hk'])
      have hgl : gl.length ≤ 200000 := by
        rw [hl1, List.length_append, List.length_map]
        have h3 := List.length_filter_le (fun a : PA => a.fresh) (st.out.take k)
        rw [List.length_take] at h3
        omega
      generalize ps[k] = z at hrow htk
      repeat (first
        | (refine g_ops ?_; first | refine sO ?_ | refine s_n (fun _ => ?_) | refine s_appB (fun _ _ => ?_) | refine s_app (fun _ _ => ?_) | refine s_b0 (fun _ => ?_) | ((fail_if_success refine g_lit rfl rfl rfl ?_); first | apply g_partM rfl rfl rfl | apply g_partMB rfl rfl rfl | fail))
        | apply g_regB (id := 3) 18 | refine g_drawS2 (id := 18) 4 5 (.see 0 [] (.one 1 (.one 2 .done))) (fun k hd hk => ?_) | refine gS ?_ | exact s_m
        | intro _ | refine r_seq ?_ | refine r_region ?_ | refine r_block ?_ | refine r_retc ?_ | refine r_exit ?_ | refine r_skip ?_ | refine r_label ?_
        | refine r_cond_true rfl ?_ | refine r_cond_false rfl ?_ | (refine gp_take ?_; first | refine pT ?_ | ((fail_if_success refine gp_lit rfl rfl rfl rfl ?_); first | apply gp_guard_dec rfl rfl rfl rfl | apply gp_guard rfl rfl rfl rfl | fail))
        | (refine gp_see ?_; first | refine p_f ?_ | refine pS ?_ | ((fail_if_success refine gp_lit rfl rfl rfl rfl ?_); first | apply gp_guard_dec rfl rfl rfl rfl | apply gp_guard rfl rfl rfl rfl | fail))
        | (refine gp_one ?_; first | refine pO ?_ | refine p_n (fun _ => ?_) | refine p_appB (fun _ _ => ?_) | refine p_app (fun _ _ => ?_) | refine p_b0 (fun _ => ?_) | ((fail_if_success refine gp_lit rfl rfl rfl rfl ?_); first | apply gp_guard_dec rfl rfl rfl rfl | apply gp_guard rfl rfl rfl rfl | fail))
        | refine gp_two ?_ ?_ | refine gp_done hd hk ?_ | intro _ | refine p_ta hd hk (fun _ _ _ hd hk => ?_) | refine p_ts hd hk (fun _ hd hk => ?_))
      cases hfr : z.fresh with
      | false =>
        repeat (first
          | (refine g_ops ?_; first | refine sO ?_ | refine s_n (fun _ => ?_) | refine s_appB (fun _ _ => ?_) | refine s_app (fun _ _ => ?_) | refine s_b0 (fun _ => ?_) | ((fail_if_success refine g_lit rfl rfl rfl ?_); first | apply g_partM rfl rfl rfl | apply g_partMB rfl rfl rfl | fail))
          | refine gS ?_ | exact s_m | intro _ | refine r_seq ?_ | refine r_region ?_ | refine r_block ?_ | refine r_retc ?_ | refine r_exit ?_ | refine r_skip ?_
          | refine r_label ?_ | refine r_cond_true rfl ?_ | refine r_cond_false rfl ?_)
        refine g_as 70 (v' := int ((k + 1 : Nat) : Int)) rfl (congrArg (Value.int .i64) (by push_cast; rfl)) ?_
        exact gA ⟨k + 1, gq, gc, gl, sl1⟩ (by simp only; omega) ⟨hk', by dsimp only; rw [htk, List.filter_append, List.filter_cons_of_neg (by simp [hfr]), List.filter_nil, List.append_nil]; exact hl1, by dsimp only; rw [htk, List.any_append, List.any_cons, List.any_nil]; simp only [hfr, Bool.or_false]; exact hsl1⟩
      | true =>
        refine g_cond_true rfl ?_
        refine g_seq ?_
        refine g_drawO (id := 24) (p := gq) (len := gl.length) (cap := gc) (.see 0 [9,10,11] (.see 1 [2,3,4,8,9,10,11] (.take 2 (.take 3 (.see 4 [8,9,10,11] (.take 5 (.see 6 [7,8,9,10,11] (.one 7 (.one 8 (.take 9 (.take 10 (.thaw 11 .done)))))))))))) (by (repeat (first | exact Sel.here | apply Sel.there)); first | done | fail) (fun m hd hk => ?_)
        repeat (first
          | (refine gp_take ?_; first | refine pT ?_ | ((fail_if_success refine gp_lit rfl rfl rfl rfl ?_); first | apply gp_guard_dec rfl rfl rfl rfl | apply gp_guard rfl rfl rfl rfl | fail))
          | (refine gp_see ?_; first | refine p_f ?_ | refine pS ?_ | ((fail_if_success refine gp_lit rfl rfl rfl rfl ?_); first | apply gp_guard_dec rfl rfl rfl rfl | apply gp_guard rfl rfl rfl rfl | fail))
          | (refine gp_one ?_; first | refine pO ?_ | refine p_n (fun _ => ?_) | refine p_appB (fun _ _ => ?_) | refine p_app (fun _ _ => ?_) | refine p_b0 (fun _ => ?_) | ((fail_if_success refine gp_lit rfl rfl rfl rfl ?_); first | apply gp_guard_dec rfl rfl rfl rfl | apply gp_guard rfl rfl rfl rfl | fail))
          | refine gp_two ?_ ?_ | refine gp_done hd hk ?_ | intro _ | refine p_ta hd hk (fun _ _ _ hd hk => ?_) | refine p_ts hd hk (fun _ hd hk => ?_))
        rename_i b11 vb' q' c' m'
        dsimp only [List.cons_append, List.nil_append]
        have hlr : (gl ++ [(z.first : Int)]).length = gl.length + 1 := by simp
        have hmr : (gl ++ [(z.first : Int)]).map int = gl.map int ++ [int z.first] := by simp
        rw [← hlr, ← hmr]
        repeat (first
          | (refine g_ops ?_; first | refine sO ?_ | refine s_n (fun _ => ?_) | refine s_appB (fun _ _ => ?_) | refine s_app (fun _ _ => ?_) | refine s_b0 (fun _ => ?_) | ((fail_if_success refine g_lit rfl rfl rfl ?_); first | apply g_partM rfl rfl rfl | apply g_partMB rfl rfl rfl | fail))
          | refine gS ?_ | exact s_m | intro _ | refine r_seq ?_ | refine r_region ?_ | refine r_block ?_ | refine r_retc ?_ | refine r_exit ?_ | refine r_skip ?_
          | refine r_label ?_ | refine r_cond_true rfl ?_ | refine r_cond_false rfl ?_)
        refine g_as 70 (v' := int ((k + 1 : Nat) : Int)) rfl (congrArg (Value.int .i64) (by push_cast; rfl)) ?_
        exact gA ⟨k + 1, q', c', gl ++ [(z.first : Int)], false⟩ (by simp only; omega) ⟨hk', by dsimp only; rw [htk, List.filter_append, List.filter_cons_of_pos (by simpa using hfr), List.filter_nil, List.map_append, ← List.append_assoc, ← hl1]; rfl, by dsimp only; rw [htk, List.any_append, List.any_cons, List.any_nil]; simp only [hfr, Bool.or_true, Bool.true_or, Bool.not_true, Bool.and_false]⟩
    · obtain rfl : k = ps.length := by omega
      rw [hpn, List.take_length] at hl1 hsl1
      repeat (first
        | (refine g_ops ?_; first | refine sO ?_ | refine s_n (fun _ => ?_) | refine s_appB (fun _ _ => ?_) | refine s_app (fun _ _ => ?_) | refine s_b0 (fun _ => ?_) | ((fail_if_success refine g_lit rfl rfl rfl ?_); first | apply g_partM rfl rfl rfl | apply g_partMB rfl rfl rfl | fail))
        | refine gS ?_ | exact s_m | intro _ | refine r_seq ?_ | refine r_region ?_ | refine r_block ?_ | refine r_retc ?_ | refine r_exit ?_ | refine r_skip ?_
        | refine r_label ?_ | refine r_cond_true rfl ?_ | refine r_cond_false rfl ?_)
      refine g_as 93 (v' := int ((0 : Nat) : Int)) rfl rfl ?_
      refine g_loop (X := F2X) (fun z => [(0, ptr lg), (2, ptr b2), (4, ptr b4), (5, ptr b5), (7, int st.size), (91, .slice p rs.length c0), (92, int rs.length), (93, int z.i)])
        (fun z => [.row b4 [int xs.length] 3, .row b5 [int 0] 29, .row b2 [ptr lg] 24, lrow lg d (.slice z.rq (xs ++ z.ws).length z.rc) (.slice gq gl.length gc) size sl1 false,
          drow d room (.slice y.q y.fs.length y.c) zo zt, .own y.q y.fs.length y.c 1 (ptrs y.fs) 80, Bag y.fs, Pile z.H, dfc D, .own z.rq (xs ++ z.ws).length z.rc 1 ((xs ++ z.ws).map BV.v) 28, .own gq gl.length gc 1 (gl.map int) 3])
        (fun z => z.i ≤ rs.length ∧ HP.sub H1 z.H ∧ BtsAt z.H z.ws ∧ bts z.ws = bts (rs.take z.i)) (fun z => rs.length - z.i) ⟨0, rq, rc, [], H1⟩ ⟨Nat.zero_le _, HP.sub.refl _, (fun r hr => by simp at hr), rfl⟩ (by (repeat (first | exact FrSub.nil | refine FrSub.cons rfl ?_)); first | done | fail) (by simp only [List.append_nil]; exact (by (repeat (first | exact Take.nil | apply Take.cons | exact Sel.here | apply Sel.there)); first | done | fail)) (fun z hzz => ?_)
      obtain ⟨i, uq, uc, ws, H2⟩ := z
      obtain ⟨hi, hs2, hW, hbts⟩ := hzz
      dsimp only at hi hs2 hW hbts ⊢
      have hwl : ws.length = i := by
        have := congrArg List.length hbts
        simp only [List.length_map, List.length_take] at this
        omega
      repeat (first
        | (refine g_ops ?_; first | refine sO ?_ | refine s_n (fun _ => ?_) | refine s_appB (fun _ _ => ?_) | refine s_app (fun _ _ => ?_) | refine s_b0 (fun _ => ?_) | ((fail_if_success refine g_lit rfl rfl rfl ?_); first | apply g_partM rfl rfl rfl | apply g_partMB rfl rfl rfl | fail))
        | refine gS ?_ | exact s_m | intro _ | refine r_seq ?_ | refine r_region ?_ | refine r_block ?_ | refine r_retc ?_ | refine r_exit ?_ | refine r_skip ?_
        | refine r_label ?_ | refine r_cond_true rfl ?_ | refine r_cond_false rfl ?_)
      refine g_cond_dec rfl (fun h5 => ?_) (fun h5 => ?_)
      · have hi' : i < rs.length := by omega
        obtain ⟨rb, ro, rfl, hrow⟩ := slAt_cell (hR.grow (hs1.trans hs2)).sl (i := i) (v := (rs[i]).v) (by simp [hi'])
        have hbt := (hR.grow (hs1.trans hs2)).at_ rs[i] (List.getElem_mem hi')
        have hbn := hbig rs[i] (List.getElem_mem hi')
        have htk : bts (rs.take (i + 1)) = bts (rs.take i) ++ [(rs[i]).l] := by rw [List.take_add_one, List.getElem?_eq_getElem hi']; show List.map _ _ = _; rw [List.map_append]; rfl
        generalize rs[i] = r at hrow hbt hbn htk
        have hr : ∀ k, k = i → Reads (Pile H2) ⟨rb, ro + k, none⟩ r.v := fun k hk => by rw [hk]; exact hrow
        have hcl := cloneB (C := Pile H2) (p := r.p) (m := r.l.length) (c := r.c) (news := cells8 r.l) (btAt_slAt hbt) (by omega)
        have hxl : (xs ++ ws).length ≤ 200000 := by rw [List.length_append]; omega
        repeat (first
          | (refine g_ops ?_; first | refine sO ?_ | refine s_n (fun _ => ?_) | refine s_appB (fun _ _ => ?_) | refine s_app (fun _ _ => ?_) | refine s_b0 (fun _ => ?_) | ((fail_if_success refine g_lit rfl rfl rfl ?_); first | apply g_partM rfl rfl rfl | apply g_partMB rfl rfl rfl | fail))
          | apply g_regB (id := 3) 18 | refine g_drawS2 (id := 18) 4 5 (.see 0 [] (.one 1 (.one 2 .done))) (fun k hd hk => ?_) | refine gS ?_ | exact s_m
          | intro _ | refine r_seq ?_ | refine r_region ?_ | refine r_block ?_ | refine r_retc ?_ | refine r_exit ?_ | refine r_skip ?_ | refine r_label ?_
          | refine r_cond_true rfl ?_ | refine r_cond_false rfl ?_ | (refine gp_take ?_; first | refine pT ?_ | ((fail_if_success refine gp_lit rfl rfl rfl rfl ?_); first | apply gp_guard_dec rfl rfl rfl rfl | apply gp_guard rfl rfl rfl rfl | fail))
          | (refine gp_see ?_; first | refine p_f ?_ | refine pS ?_ | ((fail_if_success refine gp_lit rfl rfl rfl rfl ?_); first | apply gp_guard_dec rfl rfl rfl rfl | apply gp_guard rfl rfl rfl rfl | fail))
          | (refine gp_one ?_; first | refine pO ?_ | refine p_n (fun _ => ?_) | refine p_appB (fun _ _ => ?_) | refine p_app (fun _ _ => ?_) | refine p_b0 (fun _ => ?_) | ((fail_if_success refine gp_lit rfl rfl rfl rfl ?_); first | apply gp_guard_dec rfl rfl rfl rfl | apply gp_guard rfl rfl rfl rfl | fail))
          | refine gp_two ?_ ?_ | refine gp_done hd hk ?_ | intro _ | refine p_ta hd hk (fun _ _ _ hd hk => ?_) | refine p_ts hd hk (fun _ hd hk => ?_))
        generalize hxw : xs ++ ws = xw at *
        refine g_draw (id := 30) (C := [.row b2 [ptr lg] 24, lrow lg d (.slice uq xw.length uc) (.slice gq gl.length gc) size sl1 false]) (.see 0 [9,10,11] (.see 1 [2,3,4,8,9,10,11] (.take 2 (.take 3 (.see 4 [8,9,10,11] (.take 5 (.one 6 (.one 7 (.one 8 (.take 9 (.take 10 (.thaw 11 .done)))))))))))) (by kernel_rfl) (by (repeat (first | exact Take.nil | apply Take.cons | exact Sel.here | apply Sel.there)); first | done | fail) (fun m hd hk => ?_)
        repeat (first
          | (refine gp_take ?_; first | refine pT ?_ | ((fail_if_success refine gp_lit rfl rfl rfl rfl ?_); first | apply gp_guard_dec rfl rfl rfl rfl | apply gp_guard rfl rfl rfl rfl | fail))
          | (refine gp_see ?_; first | refine p_f ?_ | refine pS ?_ | ((fail_if_success refine gp_lit rfl rfl rfl rfl ?_); first | apply gp_guard_dec rfl rfl rfl rfl | apply gp_guard rfl rfl rfl rfl | fail))
          | (refine gp_one ?_; first | refine pO ?_ | refine p_n (fun _ => ?_) | refine p_appB (fun _ _ => ?_) | refine p_app (fun _ _ => ?_) | refine p_b0 (fun _ => ?_) | ((fail_if_success refine gp_lit rfl rfl rfl rfl ?_); first | apply gp_guard_dec rfl rfl rfl rfl | apply gp_guard rfl rfl rfl rfl | fail) | refine p_c (hcl) (fun _ _ => ?_))
          | refine gp_two ?_ ?_ | refine gp_done hd hk ?_ | intro _ | refine p_ta hd hk (fun _ _ _ hd hk => ?_) | refine p_ts hd hk (fun _ hd hk => ?_))
        rename_i yv _ vb' q' c' m'
        obtain ⟨yp, yc⟩ := yv
        dsimp only [List.cons_append, List.nil_append, List.append_nil]
        refine g_pile (p := yp) (m := r.l.length) (c := yc) (n := 1) (xs := cells8 r.l) (e := 5) (by (repeat (first | exact Sel.here | apply Sel.there)); first | done | fail) (by (repeat (first | exact Sel.here | apply Sel.there)); first | done | fail) (fun H3 hs3 hA3 => ?_)
        have hlr : (xs ++ (ws ++ [BV.mk yp r.l yc])).length = xw.length + 1 := by rw [← List.append_assoc, hxw]; simp
        have hmr : (xs ++ (ws ++ [BV.mk yp r.l yc])).map BV.v = xw.map BV.v ++ [.slice yp r.l.length yc] := by rw [← List.append_assoc, hxw]; simp
        rw [← hlr, ← hmr]
        repeat (first
          | (refine g_ops ?_; first | refine sO ?_ | refine s_n (fun _ => ?_) | refine s_appB (fun _ _ => ?_) | refine s_app (fun _ _ => ?_) | refine s_b0 (fun _ => ?_) | ((fail_if_success refine g_lit rfl rfl rfl ?_); first | apply g_partM rfl rfl rfl | apply g_partMB rfl rfl rfl | fail))
          | refine gS ?_ | exact s_m | intro _ | refine r_seq ?_ | refine r_region ?_ | refine r_block ?_ | refine r_retc ?_ | refine r_exit ?_ | refine r_skip ?_
          | refine r_label ?_ | refine r_cond_true rfl ?_ | refine r_cond_false rfl ?_)
        refine g_as 93 (v' := int ((i + 1 : Nat) : Int)) rfl (congrArg (Value.int .i64) (by push_cast; rfl)) ?_
        exact g_again ⟨i + 1, q', c', ws ++ [BV.mk yp r.l yc], H3⟩ (by simp only; omega) ⟨hi', hs2.trans hs3, fun z hz => by
          rcases List.mem_append.1 hz with h | h
          · exact BtAt.grow (hW z h) hs3
          · rw [List.mem_singleton.1 h]; exact btAt_of rfl hA3, by dsimp only; rw [bts_snoc, htk, hbts]⟩ (by (repeat (first | exact FrSub.nil | refine FrSub.cons rfl ?_)); first | done | fail) (by (repeat (first | exact Take.nil | apply Take.cons | exact Sel.here | apply Sel.there)); first | done | fail)
      · obtain rfl : i = rs.length := by omega
        rw [List.take_length] at hbts
        repeat (first
          | (refine g_ops ?_; first | refine sO ?_ | refine s_n (fun _ => ?_) | refine s_appB (fun _ _ => ?_) | refine s_app (fun _ _ => ?_) | refine s_b0 (fun _ => ?_) | ((fail_if_success refine g_lit rfl rfl rfl ?_); first | apply g_partM rfl rfl rfl | apply g_partMB rfl rfl rfl | fail))
          | refine gS ?_ | exact s_m | intro _ | refine r_seq ?_ | refine r_region ?_ | refine r_block ?_ | refine r_retc ?_ | refine r_exit ?_ | refine r_skip ?_
          | refine r_label ?_ | refine r_cond_true rfl ?_ | refine r_cond_false rfl ?_)
        exact g_retM D (⟨true, ⟨uq, uc, xs ++ ws, gq, gc, gl, st.size, sl1⟩, ⟨y, zo, zt⟩, H2⟩ : AcX) (s := (by (repeat (first | exact Sel.here | apply Sel.there)); first | done | fail)) (hr := rfl) (h := .cell1 (v := int xs.length) rfl (by first | exact .there .here | fail) rfl (.cell1 (v := int 0) rfl (by first | exact .here | fail) rfl .nil)) (tk := (by (repeat (first | exact Take.nil | apply Take.cons | exact Sel.here | apply Sel.there)); first | done | fail)) (hp := rfl) (hx := ⟨fun _ => ⟨hs1.trans hs2, fun r hr => by
          rcases List.mem_append.1 hr with h | h
          · exact BtAt.grow (hXB r h) (hs1.trans hs2)
          · exact hW r h, by show bts (xs ++ ws) = _; rw [← hbts]; exact List.map_append, hl1, rfl, hsl1, ps, hps, hz⟩, fun h => (by cases h), by dsimp only; rw [Nat.sub_zero] at hzo; omega, hzt⟩)
  · obtain ⟨zb, zi, z⟩ := z
    dsimp only at hpd
    subst hpd
    simp only [if_true] at hz ⊢
    dsimp only [roC, List.cons_append, List.nil_append]
    obtain ⟨hz1, hz2⟩ := hz
    have hzo := hz1.opb
    repeat (first
      | (refine g_ops ?_; first | refine sO ?_ | refine s_n (fun _ => ?_) | refine s_appB (fun _ _ => ?_) | refine s_app (fun _ _ => ?_) | refine s_b0 (fun _ => ?_) | ((fail_if_success refine g_lit rfl rfl rfl ?_); first | apply g_partM rfl rfl rfl | apply g_partMB rfl rfl rfl | fail))
      | refine gS ?_ | exact s_m | intro _ | refine r_seq ?_ | refine r_region ?_ | refine r_block ?_ | refine r_retc ?_ | refine r_exit ?_ | refine r_skip ?_
      | refine r_label ?_ | refine r_cond_true rfl ?_ | refine r_cond_false rfl ?_)
    refine g_retM D (⟨false, ⟨rq, rc, xs, fq, fc, fs', size, sl⟩, z, H1⟩ : AcX) (s := (by (repeat (first | exact Sel.here | apply Sel.there)); first | done | fail)) (hr := rfl) (h := .cell1 (v := int 0) rfl (by (repeat (first | exact Sel.here | apply Sel.there)); first | done | fail) rfl (.cell1 (v := int 9) rfl (by (repeat (first | exact Sel.here | apply Sel.there)); first | done | fail) rfl .nil)) (tk := (by (repeat (first | exact Take.nil | apply Take.cons | exact Sel.here | apply Sel.there)); first | done | fail)) (hp := rfl) (hx := ⟨fun h => (by cases h), fun _ => ⟨rfl, hs1, hz1.off, ps, zi, hps, hz2, hz1⟩, by dsimp only; omega, hz1.ctb⟩)
end Go.Proofs.YtdldgbbhagpofaaGreatDoor

namespace Go.Proofs.YtdldgbbhagpofaaGreatDoor
open Go.Sl facts
theorem frB_take_dec : ∀ (ps : List (List UInt8)) (n : Nat), (∀ a ∈ ps, a.length ≤ 131072) → ∃ j t, j ≤ ps.length ∧ (frB ps).take n = frB (ps.take j) ++ t ∧ TornT t ∧ (∀ m, m ≤ ps.length → (frB (ps.take m)).length ≤ ((frB ps).take n).length → m ≤ j) ∧ ((frB ps).take n = frB ps → j = ps.length ∧ t = []) ∧ (j = ps.length → t = [])
  | [], n, _ => ⟨0, [], Nat.le_refl _, by simp [frB_nil], TornT.nil, fun m hm _ => hm, fun _ => ⟨rfl, rfl⟩, fun _ => rfl⟩
  | a :: ps, n, h => by
    have ha := h a (by simp)
    by_cases hn : n < (frameB a).length
    · have e : (frB (a :: ps)).take n = (frameB a).take n := by rw [frB_cons, List.take_append_of_le_length (by omega)]
      have hl : ((frB (a :: ps)).take n).length = n := by rw [e, List.length_take]; omega
      refine ⟨0, (frameB a).take n, Nat.zero_le _, by rw [e]; rfl, ⟨a, n, ha, hn, rfl⟩, fun m hm hle => ?_, fun hw => ?_, fun h0 => by simp at h0⟩
      · rw [hl] at hle
        cases m with
        | zero => exact Nat.le_refl _
        | succ m =>
          rw [List.take_succ_cons, frB_cons, List.length_append] at hle
          omega
      · have := congrArg List.length hw
        rw [hl, frB_cons, List.length_append] at this
        omega
    · obtain ⟨j, t, h1, h2, h3, h4, h5, h6⟩ := frB_take_dec ps (n - (frameB a).length) (fun b hb => h b (List.mem_cons_of_mem _ hb))
      have e : (frB (a :: ps)).take n = frameB a ++ (frB ps).take (n - (frameB a).length) := by
        rw [frB_cons, List.take_append, List.take_of_length_le (by omega)]
      refine ⟨j + 1, t, by simp; omega, ?_, h3, fun m hm hle => ?_, fun hw => ?_, fun hj => h6 (by simp at hj; omega)⟩
      · rw [e, h2, List.take_succ_cons, frB_cons, List.append_assoc]
      · cases m with
        | zero => exact Nat.zero_le _
        | succ m =>
          rw [e, List.take_succ_cons, frB_cons, List.length_append, List.length_append] at hle
          have := h4 m (by simpa using hm) (by omega)
          omega
      · rw [e, frB_cons] at hw
        obtain ⟨g1, g2⟩ := h5 (List.append_cancel_left hw)
        exact ⟨by simp [g1], g2⟩
structure Dec (s : Sg) (l : List UInt8) (sg : SgC) (t : List UInt8) : Prop where
  eq : l = frB (sgL sg) ++ t
  torn : TornT t
  how : sg = none ∨ ∃ m, m ≤ s.2.length ∧ sg = some (s.1, s.2.take m)
  whole : l = sgB s → sg = some s ∧ t = []
  all : sg = some s → t = [] ∧ l = sgB s
  keep : ∀ m, m ≤ s.2.length → (sgB (s.1, s.2.take m)).length ≤ l.length → ∃ m', m ≤ m' ∧ m' ≤ s.2.length ∧ sg = some (s.1, s.2.take m')
theorem dec_ex (s : Sg) (n : Nat) (h1 : s.1 ≤ 1000000) (h2 : ∀ r ∈ s.2, r.length ≤ 131072) : ∃ sg t, Dec s ((sgB s).take n) sg t := by
  obtain ⟨j, t, g1, g2, g3, g4, g5, g6⟩ := frB_take_dec (vb s.1 :: s.2) n (fun a ha => by
    rcases List.mem_cons.1 ha with rfl | ha
    · exact vb_short _ h1
    · exact h2 a ha)
  have hs : sgB s = frB (vb s.1 :: s.2) := rfl
  rw [hs]
  cases j with
  | zero =>
    refine ⟨none, t, by rw [g2]; rfl, g3, .inl rfl, fun hw => ?_, fun h => (by cases h), fun m hm hle => ?_⟩
    · have := (g5 hw).1
      simp at this
    · have := g4 (m + 1) (by simp; omega) (by simpa [List.take_succ_cons, sgB] using hle)
      omega
  | succ m =>
    have hm : m ≤ s.2.length := by simpa using g1
    have e : (vb s.1 :: s.2).take (m + 1) = sgL (some (s.1, s.2.take m)) := rfl
    rw [e] at g2
    have hwh : m = s.2.length → ((some (s.1, s.2.take m) : SgC) = some s) := fun hm2 => by rw [hm2, List.take_length]
    refine ⟨some (s.1, s.2.take m), t, g2, g3, .inr ⟨m, hm, rfl⟩, fun hw => ?_, fun h => ?_, fun m' hm' hle => ?_⟩
    · obtain ⟨k1, k2⟩ := g5 hw
      exact ⟨hwh (by simpa using k1), k2⟩
    · have h3 : s.2.take m = s.2 := by have := congrArg Prod.snd (Option.some.inj h); exact this
      have h4 : m = s.2.length := by
        have := congrArg List.length h3
        rw [List.length_take] at this
        omega
      have ht := g6 (by simp; omega)
      refine ⟨ht, ?_⟩
      rw [g2, ht, List.append_nil]
      show frB (vb s.1 :: s.2.take m) = _
      rw [h3]; rfl
    · have := g4 (m' + 1) (by simp; omega) (by simpa [List.take_succ_cons, sgB] using hle)
      exact ⟨m, by omega, hm, rfl⟩
theorem take_pre {α : Type} {L a b : List α} {n : Nat} (h : a ++ b = L.take n) (k : Nat) : a ++ b.take k = L.take (a.length + k) ∨ a ++ b.take k = a ++ b := by
  by_cases hk : k ≤ b.length
  · left
    have hl := congrArg List.length h
    rw [List.length_append, List.length_take] at hl
    have e : a ++ b.take k = (a ++ b).take (a.length + k) := by
      simp [List.take_append, List.take_of_length_le]
    rw [e, h, List.take_take]
    congr 1
    omega
  · right
    rw [List.take_of_length_le (by omega)]
end Go.Proofs.YtdldgbbhagpofaaGreatDoor

namespace Go.Proofs.YtdldgbbhagpofaaGreatDoor
open Go.Sl facts
structure InvC (T : List Sg) (p c0 : Nat) (g : Bool) (fs : List Fi) : Prop where
  cons : Cons T
  tl : T.length < 100
  pl : p < T.length
  cl : ∀ s, T[p]? = some s → c0 ≤ s.2.length
  gc : g = true → c0 = 0
  rec_ : ∀ r ∈ flatS T, r.length ≤ 65536
  num : (flatS T).length ≤ 100000
  sort : SortF fs
  nms : ∀ x ∈ fs, ∃ i, i < 100 ∧ x.nm = nmB i
  used : Go.Proofs.YtdldgbbhagpofaaGreatDoor.used fs ≤ 900000
  lo : ∀ a s, T[a]? = some s → a < p → fdat fs (nmB a) = some (sgB s, [])
  mid : ∀ s, T[p]? = some s → (fdat fs (nmB p) = none ∧ g = true) ∨ ∃ x y n, fdat fs (nmB p) = some (x, y) ∧ x ++ y = (sgB s).take n ∧ (g = false → (sgB (s.1, s.2.take c0)).length ≤ x.length)
  hi : ∀ a s, T[a]? = some s → p < a → fdat fs (nmB a) = none ∨ ∃ x y n, fdat fs (nmB a) = some (x, y) ∧ x ++ y = (sgB s).take n
  top : ∀ a, T.length ≤ a → a < 100 → fdat fs (nmB a) = none
  full : ∀ s x y, T[p]? = some s → fdat fs (nmB p) = some (x, y) → x ++ y = sgB s → ∀ a s', T[a]? = some s' → p < a → fdat fs (nmB a) = some (sgB s', [])
theorem pre_full {α : Type} {L a b : List α} {n k : Nat} (h : a ++ b = L.take n) (hf : a ++ b.take k = L) : a ++ b = L := by
  have h1 := congrArg List.length hf
  have h2 := congrArg List.length h
  rw [List.length_append, List.length_take] at h1
  rw [List.length_append, List.length_take] at h2
  rw [h]
  exact List.take_of_length_le (by omega)
theorem pre_some {α : Type} {L a b : List α} {n : Nat} (h : a ++ b = L.take n) (k : Nat) : ∃ n', a ++ b.take k = L.take n' := by
  rcases take_pre h k with e | e
  · exact ⟨_, e⟩
  · exact ⟨n, e.trans h⟩
theorem cr_safe {fs gs : List Fi} (h : Cr1 fs gs) {nm : ByteArray} {x : List UInt8} (hx : fdat fs nm = some (x, [])) : fdat gs nm = some (x, []) := by
  rcases h.at_ nm with ⟨h1, _⟩ | ⟨a, b, k, h1, h2⟩
  · rw [hx] at h1; cases h1
  · rw [hx] at h1
    obtain ⟨rfl, rfl⟩ := Prod.mk.inj (Option.some.inj h1)
    rw [h2]; simp
theorem cr_none {fs gs : List Fi} (h : Cr1 fs gs) {nm : ByteArray} (hx : fdat fs nm = none) : fdat gs nm = none := by
  rcases h.at_ nm with ⟨_, h1⟩ | ⟨a, b, k, h1, h2⟩
  · exact h1
  · rw [hx] at h1; cases h1
theorem cr_some {fs gs : List Fi} (h : Cr1 fs gs) {nm : ByteArray} {x y : List UInt8} (hx : fdat fs nm = some (x, y)) : ∃ k, fdat gs nm = some (x ++ y.take k, []) := by
  rcases h.at_ nm with ⟨h1, _⟩ | ⟨a, b, k, h1, h2⟩
  · rw [hx] at h1; cases h1
  · rw [hx] at h1
    obtain ⟨rfl, rfl⟩ := Prod.mk.inj (Option.some.inj h1)
    exact ⟨k, h2⟩
theorem InvC.crash {T : List Sg} {p c0 : Nat} {g : Bool} {fs gs : List Fi} (h : InvC T p c0 g fs) (hc : Cr1 fs gs) : InvC T p c0 g gs := by
  refine ⟨h.cons, h.tl, h.pl, h.cl, h.gc, h.rec_, h.num, hc.sort, hc.nms h.nms, Nat.le_trans hc.used h.used, fun a s hs ha => cr_safe hc (h.lo a s hs ha), fun s hs => ?_, fun a s hs ha => ?_, fun a ha h1 => cr_none hc (h.top a ha h1), fun s x y hs hx hf a s' hs' ha => ?_⟩
  · rcases h.mid s hs with ⟨h1, h2⟩ | ⟨x, y, n, h1, h2, h3⟩
    · exact .inl ⟨cr_none hc h1, h2⟩
    · obtain ⟨k, hk⟩ := cr_some hc h1
      obtain ⟨n', hn⟩ := pre_some h2 k
      exact .inr ⟨_, _, n', hk, by rw [List.append_nil]; exact hn, fun hg => by have := h3 hg; rw [List.length_append]; omega⟩
  · rcases h.hi a s hs ha with h1 | ⟨x, y, n, h1, h2⟩
    · exact .inl (cr_none hc h1)
    · obtain ⟨k, hk⟩ := cr_some hc h1
      obtain ⟨n', hn⟩ := pre_some h2 k
      exact .inr ⟨_, _, n', hk, by rw [List.append_nil]; exact hn⟩
  · rcases h.mid s hs with ⟨h1, _⟩ | ⟨x0, y0, n, h1, h2, _⟩
    · rw [cr_none hc h1] at hx; cases hx
    · obtain ⟨k, hk⟩ := cr_some hc h1
      rw [hk] at hx
      obtain ⟨rfl, rfl⟩ := Prod.mk.inj (Option.some.inj hx)
      rw [List.append_nil] at hf
      exact cr_safe hc (h.full s x0 y0 hs h1 (pre_full h2 hf) a s' hs' ha)
theorem InvC.of_JL {S : List Sg} {x : LG} {fs : List Fi} {B U : Nat} (h : JL S x fs B U) (h0 : S ≠ []) (hB : B ≤ 190000) (hU : U ≤ 900000) (hn : (flatS S).length ≤ 100000) : ∃ p c0, InvC S p c0 false fs ∧ (∀ s, S[p]? = some s → s.1 + c0 = (flatS S).length) := by
  obtain ⟨S', s, rfl⟩ := snoc_of h0
  have hlen := h.segs hB
  have hg : (S' ++ [s])[S'.length]? = some s := by simp
  have hsl : sgB (s.1, s.2.take s.2.length) = sgB s := by rw [List.take_length]
  refine ⟨S'.length, s.2.length, ⟨h.cons, hlen, by simp, fun s' hs' => ?_, fun h => (by cases h), h.rec_, hn, h.sort, h.nms, Nat.le_trans h.used hU, fun a s' hs' ha => h.dlay.some (by simp at hlen; omega) hs', fun s' hs' => .inr ?_, fun a s' hs' ha => ?_, fun a ha h1 => h.dlay.none h1 ha, fun s' x y hs' hx hf a s'' hs'' ha => ?_⟩, fun s' hs' => ?_⟩
  · rw [hg] at hs'; rw [← Option.some.inj hs']; exact Nat.le_refl _
  · rw [hg] at hs'
    obtain rfl := Option.some.inj hs'
    refine ⟨sgB s, [], (sgB s).length, h.dlay.some (by simp at hlen; omega) hg, by rw [List.append_nil, List.take_length], fun _ => by rw [hsl]; exact Nat.le_refl _⟩
  · have := (List.getElem?_eq_some_iff.1 hs').1
    simp at this; omega
  · have := (List.getElem?_eq_some_iff.1 hs'').1
    simp at this; omega
  · rw [hg] at hs'
    obtain rfl := Option.some.inj hs'
    have := (cons_snoc.1 h.cons).2
    rw [flatS_snoc, List.length_append]; omega
def NE (s : St) : Prop := ∀ z ∈ s.out, z.l ≠ []
theorem NE.step {s : St} (h : NE s) (f0 i : Nat) (r : BV) : NE (St.step f0 i r s) := by
  unfold St.step
  split
  · intro z hz
    rcases List.mem_append.1 hz with h1 | h1
    · exact h z h1
    · rw [List.mem_singleton.1 h1]; simp
  · intro z hz
    rcases addLast_mem r _ z hz with h1 | ⟨a, _, rfl⟩
    · exact h z h1
    · simp
theorem NE.go {f0 : Nat} : ∀ (t : List BV) {i : Nat} {s : St}, NE s → NE (pgo f0 i t s)
  | [], _, _, h => h
  | r :: t, i, s, h => NE.go t (h.step f0 i r)
theorem parts_ne (segs size : Nat) (sl : Bool) (f0 : Nat) (rs : List BV) (h : rs ≠ []) : NE (partsL segs size sl f0 rs) := by
  cases rs with
  | nil => exact (h rfl).elim
  | cons r t =>
    refine NE.go t ?_
    unfold st0
    split
    · rename_i hc
      unfold St.step
      rw [if_neg (by simp; omega)]
      intro z hz
      rcases addLast_mem r _ z hz with h1 | ⟨a, _, rfl⟩
      · exfalso
        simp only [addLast, List.mem_singleton] at hz
        rw [List.mem_singleton.1 h1] at hz
        have := congrArg PA.l hz
        simp at this
      · simp
    · refine NE.step ?_ f0 0 r
      intro z hz
      simp at hz
end Go.Proofs.YtdldgbbhagpofaaGreatDoor
