/- Contract: Begin: a batch goes. -/
import Derived.Test.YtfachckbjmofgaaCrdF
import Derived.Test.YtfachckbjmofgaaStmpC
set_option linter.unusedSimpArgs false
set_option linter.unusedVariables false
namespace Go.Sl
section
variable {P : Program} {ops : Array Oper} {Q : Exit → Act → World → Prop} {Γ : Ctx} {N : Nat} {fr : Fr} {L : List Chunk} {d i : Nat} {t ty : TypeId} {pos : String} {aft : Array Edge} {gd : Option (Nat × Bool)} {pl : Plan}
theorem p_mkI (K : ∀ b, GP P ops Q Γ N ((d, .map (some b)) :: fr) (.map b ([] : List (Int × Value)) :: L) pl) (hi : ops[i]? = some ⟨some d, .makeMap t none, ty, pos, aft, gd⟩ := by exact rfl) (hg : Runs ops fr gd := by exact rfl) (hN : Nat.blt d N = true := by exact rfl) : GP P ops Q Γ N fr L (.one i pl) := gp_n (cs_makeMap (kt := 0) (et := 0) Int) hi hg hN K
end
end Go.Sl
namespace Go.Proofs.Ytfachckbjmofgaa
open Go.Sl facts
attribute [local irreducible] Code.wp wpList Exit.then Exit.inBlock bodyPost Back MidQ G GP QStep VStep CStep SStep Does Post Reads
theorem cut_small {T : List Pr} {ws : List Int} {puts : List Pt} (key : ByteArray) (hD : T.map Pr.d = cutL ws puts) (hp : puts.length ≤ 1000000000) (hi : ∀ w ∈ ws, inI w) : T.length ≤ 1000000000 ∧ ∀ z ∈ pmap key T, inI z.1 := by
  have hmem := cutD_mem ((ws.zip puts).map fun z => (z.1, z.2.d)) []
  constructor
  · have h1 : T.length = (List.foldl (fun T x => if x.1 > 0 then dput T x.1 x.2 else T) [] ((ws.zip puts).map fun z => (z.1, z.2.d))).length := by rw [← List.length_map (f := Pr.d), hD]; rfl
    have h2 := hmem.2
    simp only [List.length_map, List.length_zip, List.length_nil, Nat.zero_add] at h2
    rw [← h1] at h2
    omega
  · intro z hz
    obtain ⟨t, ht, rfl⟩ := List.mem_map.1 hz
    have h1 : t.d ∈ cutL ws puts := by rw [← hD]; exact List.mem_map.2 ⟨t, ht, rfl⟩
    rcases hmem.1 _ h1 with h | h
    · obtain ⟨y, hy, e⟩ := List.mem_map.1 h
      obtain ⟨w, hw, rfl⟩ := List.mem_map.1 hy
      have h2 := hi _ (List.of_mem_zip hw).1
      rw [show t.k = w.1 from e.symm]
      exact h2
    · simp at h
/-- An answer in memory. -/
structure An where
  tx : S3
  code : Int
  st : S3
  fp : Option Addr
  fc : Nat
  fs : List Int
abbrev An.cells (x : An) : List Value := [int x.tx.w, int x.tx.l, int x.tx.n, int x.code, int x.st.w, int x.st.l, int x.st.n, .slice x.fp x.fs.length x.fc]
abbrev amap (M : List (Int × An)) : List (Int × Value) := M.map fun x => (x.1, .agg x.2.cells.toArray)
/-- A batch that goes, in memory. -/
structure Gg where
  b : Nat
  tx : S3
  bt : Bt
  np : Option Addr
  nc : Nat
  ns : List Int
  mp : Nat
  T : List Pr
  ma : Nat
  M : List (Int × An)
  op : Option Addr
  oc : Nat
  ws : List Int
  wt : Int
abbrev Gg.cells (g : Gg) : List Value := [int g.tx.w, int g.tx.l, int g.tx.n, .string g.bt.key, .slice g.bt.pp g.bt.puts.length g.bt.pc, .slice g.np g.ns.length g.nc, .map (some g.mp), .map (some g.ma), .slice g.op g.ws.length g.oc, int g.wt]
abbrev Gg.L (g : Gg) : List Chunk := [.row g.b g.cells 79, .map g.mp (pmap g.bt.key g.T), .map g.ma (amap g.M)]
structure GgAt (C : Chunk) (g : Gg) : Prop where
  bt : BtAt' C g.bt
  pts : PtsAt C g.ns g.T
  ns : SlAt C 1 g.np g.ns.length (g.ns.map int)
  ws : SlAt C 1 g.op g.ws.length (g.ws.map int)
  wl : g.ws.length = g.bt.puts.length
  wi : ∀ w ∈ g.ws, inI w
  an : ∀ x ∈ g.M, SlAt C 1 x.2.fp x.2.fs.length (x.2.fs.map int) ∧ x.2.fs.length ≤ 1000000000
  nd : (g.M.map (·.1)).Nodup
  sub : ∀ x ∈ g.M, x.1 ∈ g.ns
  cut : g.T.map Pr.d = cutL g.ws g.bt.puts
structure BgX where
  bg : Nat
  ma : Nat
  oq : Option Addr
  oc : Nat
structure BlX where
  q : Option Addr
  qc : Nat
  ps : List Pt
  H : HP
set_option maxHeartbeats 4000000 in
theorem begin_ {H : HP} (tx : S3) (p : Option Addr) (c : Nat) (l : List Rg) (hS : SlAt (Pile H) 4 p l.length (l.flatMap Rg.cells)) (hl : l.length ≤ 1000000000) (hlo : ∀ r ∈ l, inI r.o) (x : Bt) (hx : BtAt' (Pile H) x) :
    Does Try.prog 10 [.agg tx.cells.toArray, .slice p l.length c, .agg x.cells.toArray] [Pile H] (X := Gg × HP) (fun y => ptr y.1.b) (fun y => y.1.L ++ [Pile y.2])
      (fun y => HP.sub H y.2 ∧ GgAt (Pile y.2) y.1 ∧ y.1.tx = tx ∧ y.1.bt.key = x.key ∧ y.1.bt.puts.map Pt.d = x.puts.map Pt.d ∧ y.1.ws = ownersL l x.puts ∧ y.1.M = [] ∧ y.1.wt = 0) := by
  obtain ⟨t1, t2, t3⟩ := tx
  obtain ⟨key, pp, pc, puts⟩ := x
  dsimp only [Bt.cells, S3.cells]
  have hol : (ownersL l puts).length = puts.length := by simp [ownersL]
  have hoi : ∀ w ∈ ownersL l puts, inI w := fun w hw => by
    obtain ⟨y, _, rfl⟩ := List.mem_map.1 hw
    exact whose_in hlo y.st
  have how := owners_ p c l hS hl _ hx
  dsimp only [Bt.cells] at how
  obtain ⟨a1, a2, a3⟩ := hx
  dsimp only at a1 a2 a3
  refine fn_intro Try.func10 rfl Try.ntmps10 rfl (by simp only [argFr, Nat.zero_add, Nat.reduceAdd]; rfl) (fun Γ => ?_)
  repeat (first
    | (refine g_ops ?_; first | refine s_q ?_ | refine s_v ?_ | refine s_s ?_ | refine s_n (fun _ => ?_) | refine s_x ?_ | refine s_y ?_ | refine s_mq ?_ | refine s_app (fun _ _ => ?_) | refine s_mv ?_ | refine s_ms ?_ | refine s_b0 (fun _ => ?_) | ((fail_if_success refine g_lit rfl rfl rfl ?_); first | apply g_partM rfl rfl rfl | apply g_partMB rfl rfl rfl | fail))
    | refine g_seq ?_ | refine g_region ?_ | refine g_nil ?_ | refine g_then_normal ?_ | refine g_block ?_ | refine g_in_normal ?_ | refine g_retc ?_ | refine g_then_ret ?_
    | refine g_in_ret ?_ | refine g_exit ?_ | refine g_then_exit ?_ | refine g_in_exit ?_ | refine g_in_other rfl ?_ | refine g_skip ?_ | refine g_label ?_
    | refine g_cond_true rfl ?_ | refine g_cond_false rfl ?_ | exact s_m | intro _)
  rename_i b3 b5
  refine g_cutX (X := BgX) (fun y => [(5, ptr b5), (7, ptr y.bg)]) (fun y => [.row y.bg [int t1, int t2, int t3, .string ByteArray.empty, .slice none 0 0, .slice none 0 0, .map none, .map (some y.ma), .slice y.oq puts.length y.oc, int 0] 79, .map y.ma ([] : List (Int × Value)), .own y.oq puts.length y.oc 1 ((ownersL l puts).map int) 3, .row b5 [.string key, .slice pp puts.length pc] 25, Pile H]) (fun _ => True) ?_ (fun y _ => ?_)
  · refine g_draw (.see 0 [] (.take 1 (.see 2 [] (.two 3 (.one 4 (.take 5 (.one 6 (.take 7 .done)))) 4 (.one 3 (.take 5 (.one 6 (.take 7 .done)))))))) (by kernel_rfl) (C := [.row b3 [int t1, int t2, int t3] 39, .row b5 [.string key, .slice pp puts.length pc] 25]) (by (repeat (first | exact Take.nil | apply Take.cons | exact Sel.here | apply Sel.there)); first | done | fail) (fun k hd hk => ?_)
    repeat (first
      | (refine gp_take ?_; first | refine p_q ?_ | refine p_x ?_ | refine p_mq ?_ | ((fail_if_success refine gp_lit rfl rfl rfl rfl ?_); first | apply gp_guard_dec rfl rfl rfl rfl | apply gp_guard rfl rfl rfl rfl | fail))
      | (refine gp_see ?_; first | refine p_f ?_ | refine p_sx ?_ | ((fail_if_success refine gp_lit rfl rfl rfl rfl ?_); first | apply gp_guard_dec rfl rfl rfl rfl | apply gp_guard rfl rfl rfl rfl | fail) | refine p_sq ?_)
      | (refine gp_one ?_; first | refine p_v ?_ | refine p_s ?_ | refine p_n (fun _ => ?_) | refine p_y ?_ | refine p_app (fun _ _ => ?_) | refine p_mv ?_ | refine p_ms ?_ | refine p_b0 (fun _ => ?_) | ((fail_if_success refine gp_lit rfl rfl rfl rfl ?_); first | apply gp_guard_dec rfl rfl rfl rfl | apply gp_guard rfl rfl rfl rfl | fail) | refine p_c (how) (fun _ _ => ?_))
      | refine gp_two ?_ ?_ | refine gp_done hd hk ?_ | intro _ | refine p_ta hd hk (fun _ _ _ hd hk => ?_) | refine p_ts hd hk (fun _ hd hk => ?_))
    · rename_i o _
      obtain ⟨oq, oc⟩ := o
      dsimp only [List.cons_append, List.nil_append]
      refine p_mkI (fun ma => ?_)
      repeat (first
        | (refine gp_take ?_; first | refine p_q ?_ | refine p_x ?_ | refine p_mq ?_ | ((fail_if_success refine gp_lit rfl rfl rfl rfl ?_); first | apply gp_guard_dec rfl rfl rfl rfl | apply gp_guard rfl rfl rfl rfl | fail))
        | (refine gp_see ?_; first | refine p_f ?_ | refine p_sx ?_ | ((fail_if_success refine gp_lit rfl rfl rfl rfl ?_); first | apply gp_guard_dec rfl rfl rfl rfl | apply gp_guard rfl rfl rfl rfl | fail) | refine p_sq ?_)
        | (refine gp_one ?_; first | refine p_v ?_ | refine p_s ?_ | refine p_n (fun _ => ?_) | refine p_y ?_ | refine p_app (fun _ _ => ?_) | refine p_mv ?_ | refine p_ms ?_ | refine p_b0 (fun _ => ?_) | ((fail_if_success refine gp_lit rfl rfl rfl rfl ?_); first | apply gp_guard_dec rfl rfl rfl rfl | apply gp_guard rfl rfl rfl rfl | fail))
        | refine gp_two ?_ ?_ | refine gp_done hd hk ?_ | intro _ | refine p_ta hd hk (fun _ _ _ hd hk => ?_) | refine p_ts hd hk (fun _ hd hk => ?_))
      rename_i bg
      exact g_midX (⟨bg, ma, oq, oc⟩ : BgX) trivial (by (repeat (first | exact FrSub.nil | refine FrSub.cons rfl ?_)); first | done | fail) (by (repeat (first | exact Take.nil | apply Take.cons | exact Sel.here | apply Sel.there)); first | done | fail)
    · refine p_mkI (fun ma => ?_)
      repeat (first
        | (refine gp_take ?_; first | refine p_q ?_ | refine p_x ?_ | refine p_mq ?_ | ((fail_if_success refine gp_lit rfl rfl rfl rfl ?_); first | apply gp_guard_dec rfl rfl rfl rfl | apply gp_guard rfl rfl rfl rfl | fail))
        | (refine gp_see ?_; first | refine p_f ?_ | refine p_sx ?_ | ((fail_if_success refine gp_lit rfl rfl rfl rfl ?_); first | apply gp_guard_dec rfl rfl rfl rfl | apply gp_guard rfl rfl rfl rfl | fail) | refine p_sq ?_)
        | (refine gp_one ?_; first | refine p_v ?_ | refine p_s ?_ | refine p_n (fun _ => ?_) | refine p_y ?_ | refine p_app (fun _ _ => ?_) | refine p_mv ?_ | refine p_ms ?_ | refine p_b0 (fun _ => ?_) | ((fail_if_success refine gp_lit rfl rfl rfl rfl ?_); first | apply gp_guard_dec rfl rfl rfl rfl | apply gp_guard rfl rfl rfl rfl | fail) | refine p_c (how) (fun _ _ => ?_))
        | refine gp_two ?_ ?_ | refine gp_done hd hk ?_ | intro _ | refine p_ta hd hk (fun _ _ _ hd hk => ?_) | refine p_ts hd hk (fun _ hd hk => ?_))
      rename_i o _ bg
      obtain ⟨oq, oc⟩ := o
      dsimp only [List.cons_append, List.nil_append]
      repeat (first
        | (refine gp_take ?_; first | refine p_q ?_ | refine p_x ?_ | refine p_mq ?_ | ((fail_if_success refine gp_lit rfl rfl rfl rfl ?_); first | apply gp_guard_dec rfl rfl rfl rfl | apply gp_guard rfl rfl rfl rfl | fail))
        | (refine gp_see ?_; first | refine p_f ?_ | refine p_sx ?_ | ((fail_if_success refine gp_lit rfl rfl rfl rfl ?_); first | apply gp_guard_dec rfl rfl rfl rfl | apply gp_guard rfl rfl rfl rfl | fail) | refine p_sq ?_)
        | (refine gp_one ?_; first | refine p_v ?_ | refine p_s ?_ | refine p_n (fun _ => ?_) | refine p_y ?_ | refine p_app (fun _ _ => ?_) | refine p_mv ?_ | refine p_ms ?_ | refine p_b0 (fun _ => ?_) | ((fail_if_success refine gp_lit rfl rfl rfl rfl ?_); first | apply gp_guard_dec rfl rfl rfl rfl | apply gp_guard rfl rfl rfl rfl | fail))
        | refine gp_two ?_ ?_ | refine gp_done hd hk ?_ | intro _ | refine p_ta hd hk (fun _ _ _ hd hk => ?_) | refine p_ts hd hk (fun _ hd hk => ?_))
      exact g_midX (⟨bg, ma, oq, oc⟩ : BgX) trivial (by (repeat (first | exact FrSub.nil | refine FrSub.cons rfl ?_)); first | done | fail) (by (repeat (first | exact Take.nil | apply Take.cons | exact Sel.here | apply Sel.there)); first | done | fail)
  · obtain ⟨bg, ma, oq, oc⟩ := y
    dsimp only
    repeat (first
      | (refine g_ops ?_; first | refine s_q ?_ | refine s_v ?_ | refine s_s ?_ | refine s_n (fun _ => ?_) | refine s_x ?_ | refine s_y ?_ | refine s_mq ?_ | refine s_app (fun _ _ => ?_) | refine s_mv ?_ | refine s_ms ?_ | refine s_b0 (fun _ => ?_) | ((fail_if_success refine g_lit rfl rfl rfl ?_); first | apply g_partM rfl rfl rfl | apply g_partMB rfl rfl rfl | fail))
      | refine g_seq ?_ | refine g_region ?_ | refine g_nil ?_ | refine g_then_normal ?_ | refine g_block ?_ | refine g_in_normal ?_ | refine g_retc ?_
      | refine g_then_ret ?_ | refine g_in_ret ?_ | refine g_exit ?_ | refine g_then_exit ?_ | refine g_in_exit ?_ | refine g_in_other rfl ?_ | refine g_skip ?_
      | refine g_label ?_ | refine g_cond_true rfl ?_ | refine g_cond_false rfl ?_ | exact s_m | intro _)
    refine g_own_nil none 3 34 ?_
    refine g_loop (X := BlX) (fun y => [(7, ptr bg), (5, ptr b5), (18, .slice pp puts.length pc), (19, int puts.length), (20, int y.ps.length)])
      (fun y => [.row bg [int t1, int t2, int t3, .string ByteArray.empty, .slice y.q y.ps.length y.qc, .slice none 0 0, .map none, .map (some ma), .slice oq puts.length oc, int 0] 79, .own y.q y.ps.length y.qc 3 (y.ps.flatMap Pt.cells) 34, .map ma ([] : List (Int × Value)), .own oq puts.length oc 1 ((ownersL l puts).map int) 3, .row b5 [.string key, .slice pp puts.length pc] 25, Pile y.H])
      (fun y => y.ps.length ≤ puts.length ∧ HP.sub H y.H ∧ (∀ a ∈ y.ps, PtAt (Pile y.H) a) ∧ y.ps.map Pt.d = (puts.take y.ps.length).map Pt.d) (fun y => puts.length - y.ps.length) ⟨none, 0, [], H⟩ ⟨Nat.zero_le _, HP.sub.refl _, (fun a ha => by cases ha), rfl⟩ (by (repeat (first | exact FrSub.nil | refine FrSub.cons rfl ?_)); first | done | fail) (by (repeat (first | exact Take.nil | apply Take.cons | exact Sel.here | apply Sel.there)); first | done | fail) (fun y hy => ?_)
    obtain ⟨q, qc, ps, H1⟩ := y
    obtain ⟨hi, hsb, hP, hdd⟩ := hy
    dsimp only at hi hsb hP hdd ⊢
    repeat (first
      | (refine g_ops ?_; first | refine s_q ?_ | refine s_v ?_ | refine s_s ?_ | refine s_n (fun _ => ?_) | refine s_x ?_ | refine s_y ?_ | refine s_mq ?_ | refine s_app (fun _ _ => ?_) | refine s_mv ?_ | refine s_ms ?_ | refine s_b0 (fun _ => ?_) | ((fail_if_success refine g_lit rfl rfl rfl ?_); first | apply g_partM rfl rfl rfl | apply g_partMB rfl rfl rfl | fail))
      | refine g_seq ?_ | refine g_region ?_ | refine g_nil ?_ | refine g_then_normal ?_ | refine g_block ?_ | refine g_in_normal ?_ | refine g_retc ?_
      | refine g_then_ret ?_ | refine g_in_ret ?_ | refine g_exit ?_ | refine g_then_exit ?_ | refine g_in_exit ?_ | refine g_in_other rfl ?_ | refine g_skip ?_
      | refine g_label ?_ | refine g_cond_true rfl ?_ | refine g_cond_false rfl ?_ | exact s_m | intro _)
    refine g_cond_dec rfl (fun h => ?_) (fun h => ?_)
    · have hi' : ps.length < puts.length := by omega
      obtain ⟨b, o, rfl, hrow⟩ := slAt_elem (a1.grow hsb) pt_len (by decide) (i := ps.length) (a := puts[ps.length]) (by simp [hi'])
      have hxa := (a2 puts[ps.length] (List.getElem_mem _)).grow hsb
      have htk : (puts.take (ps.length + 1)).map Pt.d = ps.map Pt.d ++ [puts[ps.length].d] := by
        rw [List.take_succ_eq_append_getElem hi', List.map_append, hdd]; rfl
      generalize puts[ps.length] = x at hrow hxa htk
      repeat (first
        | (refine g_ops ?_; first | refine s_q ?_ | refine s_v ?_ | refine s_s ?_ | refine s_n (fun _ => ?_) | refine s_x ?_ | refine s_y ?_ | refine s_mq ?_ | refine s_app (fun _ _ => ?_) | refine s_mv ?_ | refine s_ms ?_ | refine s_b0 (fun _ => ?_) | ((fail_if_success refine g_lit rfl rfl rfl ?_); first | apply g_partM rfl rfl rfl | apply g_partMB rfl rfl rfl | fail))
        | refine g_seq ?_ | refine g_region ?_ | refine g_nil ?_ | refine g_then_normal ?_ | refine g_block ?_ | refine g_in_normal ?_ | refine g_retc ?_
        | refine g_then_ret ?_ | refine g_in_ret ?_ | refine g_exit ?_ | refine g_then_exit ?_ | refine g_in_exit ?_ | refine g_in_other rfl ?_ | refine g_skip ?_
        | refine g_label ?_ | refine g_cond_true rfl ?_ | refine g_cond_false rfl ?_ | exact s_m | intro _)
      rename_i b9
      refine g_draw (.take 0 (.take 1 (.take 2 (.take 3 (.take 4 (.see 5 [9,10,11,12,13] (.see 6 [7,8,9,10,11,12,13] (.one 7 (.one 8 (.one 9 (.take 10 (.take 11 (.take 12 (.thaw 13 .done)))))))))))))) (by kernel_rfl) (C := [.row bg [int t1, int t2, int t3, .string ByteArray.empty, .slice q ps.length qc, .slice none 0 0, .map none, .map (some ma), .slice oq puts.length oc, int 0] 79, .row b9 [.string x.st, .int .i64 x.exp, .slice x.dp x.data.length x.dc] 34]) (by (repeat (first | exact Take.nil | apply Take.cons | exact Sel.here | apply Sel.there)); first | done | fail) (fun k' hd hk => ?_)
      repeat (first
        | (refine gp_take ?_; first | refine p_q ?_ | refine p_x ?_ | refine p_mq ?_ | ((fail_if_success refine gp_lit rfl rfl rfl rfl ?_); first | apply gp_guard_dec rfl rfl rfl rfl | apply gp_guard rfl rfl rfl rfl | fail))
        | (refine gp_see ?_; first | refine p_f ?_ | refine p_sx ?_ | ((fail_if_success refine gp_lit rfl rfl rfl rfl ?_); first | apply gp_guard_dec rfl rfl rfl rfl | apply gp_guard rfl rfl rfl rfl | fail) | refine p_sq ?_)
        | (refine gp_one ?_; first | refine p_v ?_ | refine p_s ?_ | refine p_n (fun _ => ?_) | refine p_y ?_ | refine p_app (fun _ _ => ?_) | refine p_mv ?_ | refine p_ms ?_ | refine p_b0 (fun _ => ?_) | ((fail_if_success refine gp_lit rfl rfl rfl rfl ?_); first | apply gp_guard_dec rfl rfl rfl rfl | apply gp_guard rfl rfl rfl rfl | fail) | refine p_c (own_ x hxa) (fun _ _ => ?_))
        | refine gp_two ?_ ?_ | refine gp_done hd hk ?_ | intro _ | refine p_ta hd hk (fun _ _ _ hd hk => ?_) | refine p_ts hd hk (fun _ hd hk => ?_))
      rename_i yo hyo b35 q2 c2 _
      obtain ⟨H2, p2, d2⟩ := yo
      obtain ⟨hs2, hP2⟩ := hyo
      dsimp only [List.cons_append, List.nil_append] at hs2 hP2 ⊢
      rw [show ps.flatMap Pt.cells ++ [.string x.st, .int .i64 x.exp, .slice p2 x.data.length d2] = (ps ++ [(⟨x.st, x.exp, p2, d2, x.data⟩ : Pt)]).flatMap Pt.cells by simp, show ps.length + 1 = (ps ++ [(⟨x.st, x.exp, p2, d2, x.data⟩ : Pt)]).length by simp]
      repeat (first
        | (refine g_ops ?_; first | refine s_q ?_ | refine s_v ?_ | refine s_s ?_ | refine s_n (fun _ => ?_) | refine s_x ?_ | refine s_y ?_ | refine s_mq ?_ | refine s_app (fun _ _ => ?_) | refine s_mv ?_ | refine s_ms ?_ | refine s_b0 (fun _ => ?_) | ((fail_if_success refine g_lit rfl rfl rfl ?_); first | apply g_partM rfl rfl rfl | apply g_partMB rfl rfl rfl | fail))
        | refine g_seq ?_ | refine g_region ?_ | refine g_nil ?_ | refine g_then_normal ?_ | refine g_block ?_ | refine g_in_normal ?_ | refine g_retc ?_
        | refine g_then_ret ?_ | refine g_in_ret ?_ | refine g_exit ?_ | refine g_then_exit ?_ | refine g_in_exit ?_ | refine g_in_other rfl ?_ | refine g_skip ?_
        | refine g_label ?_ | refine g_cond_true rfl ?_ | refine g_cond_false rfl ?_ | exact s_m | intro _)
      refine g_as 20 (v' := int (((ps ++ [(⟨x.st, x.exp, p2, d2, x.data⟩ : Pt)]).length : Nat) : Int)) rfl (congrArg (Value.int .i64) (by simp)) ?_
      exact g_again ⟨q2, c2, ps ++ [(⟨x.st, x.exp, p2, d2, x.data⟩ : Pt)], H2⟩ (by simp only [List.length_append, List.length_cons, List.length_nil]; omega) ⟨by simp only [List.length_append, List.length_cons, List.length_nil]; omega, hsb.trans hs2, fun a ha => by
        rcases List.mem_append.1 ha with ha | ha
        · exact (hP a ha).grow hs2
        · rw [List.mem_singleton.1 ha]; exact hP2, by
        rw [show (ps ++ [(⟨x.st, x.exp, p2, d2, x.data⟩ : Pt)]).length = ps.length + 1 by simp, htk]
        simp [Pt.d]⟩ (by (repeat (first | exact FrSub.nil | refine FrSub.cons rfl ?_)); first | done | fail) (by (repeat (first | exact Take.nil | apply Take.cons | exact Sel.here | apply Sel.there)); first | done | fail)
    · have hpl : ps.length = puts.length := by omega
      rw [hpl, List.take_length] at hdd
      repeat (first
        | (refine g_ops ?_; first | refine s_q ?_ | refine s_v ?_ | refine s_s ?_ | refine s_n (fun _ => ?_) | refine s_x ?_ | refine s_y ?_ | refine s_mq ?_ | refine s_app (fun _ _ => ?_) | refine s_mv ?_ | refine s_ms ?_ | refine s_b0 (fun _ => ?_) | ((fail_if_success refine g_lit rfl rfl rfl ?_); first | apply g_partM rfl rfl rfl | apply g_partMB rfl rfl rfl | fail))
        | refine g_seq ?_ | refine g_region ?_ | refine g_nil ?_ | refine g_then_normal ?_ | refine g_block ?_ | refine g_in_normal ?_ | refine g_retc ?_
        | refine g_then_ret ?_ | refine g_in_ret ?_ | refine g_exit ?_ | refine g_then_exit ?_ | refine g_in_exit ?_ | refine g_in_other rfl ?_ | refine g_skip ?_
        | refine g_label ?_ | refine g_cond_true rfl ?_ | refine g_cond_false rfl ?_ | exact s_m | intro _)
      refine g_pile (p := q) (m := ps.length) (c := qc) (n := 3) (xs := ps.flatMap Pt.cells) (e := 34) (by (repeat (first | exact Sel.here | apply Sel.there)); first | done | fail) (by (repeat (first | exact Sel.here | apply Sel.there)); first | done | fail) (fun H2 hs2 hA2 => ?_)
      have hP2 : ∀ a ∈ ps, PtAt (Pile H2) a := fun a ha => (hP a ha).grow hs2
      have hbt : BtAt' (Pile H2) ⟨key, q, qc, ps⟩ := ⟨hA2, hP2, by simp only; omega⟩
      have hcu := cut_ _ hbt oq oc (ownersL l puts) (by rw [hol, hpl]) hoi
      dsimp only [Bt.cells] at hcu
      rw [hol] at hcu
      refine g_draw (.take 0 (.take 1 (.take 2 (.take 3 (.see 4 [9,10,11,12] (.take 5 (.take 6 (.take 7 (.see 8 [9,10,11,12] (.one 9 (.take 10 (.take 11 (.thaw 12 .done))))))))))))) (by kernel_rfl) (C := [.row bg [int t1, int t2, int t3, .string key, .slice q ps.length qc, .slice none 0 0, .map none, .map (some ma), .slice oq puts.length oc, int 0] 79]) (by (repeat (first | exact Take.nil | apply Take.cons | exact Sel.here | apply Sel.there)); first | done | fail) (fun k' hd hk => ?_)
      repeat (first
        | (refine gp_take ?_; first | refine p_q ?_ | refine p_x ?_ | refine p_mq ?_ | ((fail_if_success refine gp_lit rfl rfl rfl rfl ?_); first | apply gp_guard_dec rfl rfl rfl rfl | apply gp_guard rfl rfl rfl rfl | fail))
        | (refine gp_see ?_; first | refine p_f ?_ | refine p_sx ?_ | ((fail_if_success refine gp_lit rfl rfl rfl rfl ?_); first | apply gp_guard_dec rfl rfl rfl rfl | apply gp_guard rfl rfl rfl rfl | fail) | refine p_sq ?_)
        | (refine gp_one ?_; first | refine p_v ?_ | refine p_s ?_ | refine p_n (fun _ => ?_) | refine p_y ?_ | refine p_app (fun _ _ => ?_) | refine p_mv ?_ | refine p_ms ?_ | refine p_b0 (fun _ => ?_) | ((fail_if_success refine gp_lit rfl rfl rfl rfl ?_); first | apply gp_guard_dec rfl rfl rfl rfl | apply gp_guard rfl rfl rfl rfl | fail) | refine p_c (hcu) (fun _ _ => ?_))
        | refine gp_two ?_ ?_ | refine gp_done hd hk ?_ | intro _ | refine p_ta hd hk (fun _ _ _ hd hk => ?_) | refine p_ts hd hk (fun _ hd hk => ?_))
      rename_i y2 hy2 _
      obtain ⟨m, T, H3⟩ := y2
      obtain ⟨hs3, hPr, hD⟩ := hy2
      dsimp only [List.cons_append, List.nil_append] at hs3 hPr hD ⊢
      refine g_pileBg (p := Pr.q) (m := fun z => z.puts.length) (c := Pr.c) (n := 3) (xs := fun z => z.puts.flatMap Pt.cells) (e := 34) T H3 _ _ (by (repeat (first | exact Sel.here | apply Sel.there)); first | done | fail) (by (repeat (first | exact Sel.here | apply Sel.there)); first | done | fail) (fun H4 hs4 hA4 => ?_)
      refine g_pile (p := oq) (m := puts.length) (c := oc) (n := 1) (xs := (ownersL l puts).map int) (e := 3) (by (repeat (first | exact Sel.here | apply Sel.there)); first | done | fail) (by (repeat (first | exact Sel.here | apply Sel.there)); first | done | fail) (fun H5 hs5 hA5 => ?_)
      obtain ⟨hTl, hTi⟩ := cut_small key hD (by omega) hoi
      repeat (first
        | (refine g_ops ?_; first | refine s_q ?_ | refine s_v ?_ | refine s_s ?_ | refine s_n (fun _ => ?_) | refine s_x ?_ | refine s_y ?_ | refine s_mq ?_ | refine s_app (fun _ _ => ?_) | refine s_mv ?_ | refine s_ms ?_ | refine s_b0 (fun _ => ?_) | ((fail_if_success refine g_lit rfl rfl rfl ?_); first | apply g_partM rfl rfl rfl | apply g_partMB rfl rfl rfl | fail) | refine s_c (keysFA (some m)) (fun _ _ => ?_))
        | refine g_seq ?_ | refine g_region ?_ | refine g_nil ?_ | refine g_then_normal ?_ | refine g_block ?_ | refine g_in_normal ?_ | refine g_retc ?_
        | refine g_then_ret ?_ | refine g_in_ret ?_ | refine g_exit ?_ | refine g_then_exit ?_ | refine g_in_exit ?_ | refine g_in_other rfl ?_ | refine g_skip ?_
        | refine g_label ?_ | refine g_cond_true rfl ?_ | refine g_cond_false rfl ?_ | exact s_m | intro _)
      rename_i bk _
      repeat (first
        | (refine g_ops ?_; first | refine s_q ?_ | refine s_v ?_ | refine s_s ?_ | refine s_n (fun _ => ?_) | refine s_x ?_ | refine s_y ?_ | refine s_mq ?_ | refine s_app (fun _ _ => ?_) | refine s_mv ?_ | refine s_ms ?_ | refine s_b0 (fun _ => ?_) | ((fail_if_success refine g_lit rfl rfl rfl ?_); first | apply g_partM rfl rfl rfl | apply g_partMB rfl rfl rfl | fail) | refine s_c (does_sortedI (T := 70) (m := m) (M := pmap key T) (Bm := bk) (P := Try.prog) (f := 28) (g := fKA) Try.underlying3 (by simpa using hTl) hTi (sortedA bk)) (fun _ _ => ?_))
        | refine g_seq ?_ | refine g_region ?_ | refine g_nil ?_ | refine g_then_normal ?_ | refine g_block ?_ | refine g_in_normal ?_ | refine g_retc ?_
        | refine g_then_ret ?_ | refine g_in_ret ?_ | refine g_exit ?_ | refine g_then_exit ?_ | refine g_in_exit ?_ | refine g_in_other rfl ?_ | refine g_skip ?_
        | refine g_label ?_ | refine g_cond_true rfl ?_ | refine g_cond_false rfl ?_ | exact s_m | intro _)
      rename_i si hsi
      obtain ⟨np, nc, ns⟩ := si
      obtain ⟨hpm, hinc⟩ := hsi
      dsimp only [List.cons_append, List.nil_append] at hpm hinc ⊢
      have hpm' : ns.Perm (T.map Pr.k) := by rw [show T.map Pr.k = (pmap key T).map (·.1) by simp]; exact hpm
      have hnl : ns.length ≤ 1000000000 := by rw [hpm'.length_eq, List.length_map]; exact hTl
      refine g_pile (p := np) (m := ns.length) (c := nc) (n := 1) (xs := ns.map int) (e := 3) (by (repeat (first | exact Sel.here | apply Sel.there)); first | done | fail) (by (repeat (first | exact Sel.here | apply Sel.there)); first | done | fail) (fun H6 hs6 hA6 => ?_)
      repeat (first
        | (refine g_ops ?_; first | refine s_q ?_ | refine s_v ?_ | refine s_s ?_ | refine s_n (fun _ => ?_) | refine s_x ?_ | refine s_y ?_ | refine s_mq ?_ | refine s_app (fun _ _ => ?_) | refine s_mv ?_ | refine s_ms ?_ | refine s_b0 (fun _ => ?_) | ((fail_if_success refine g_lit rfl rfl rfl ?_); first | apply g_partM rfl rfl rfl | apply g_partMB rfl rfl rfl | fail))
        | refine g_seq ?_ | refine g_region ?_ | refine g_nil ?_ | refine g_then_normal ?_ | refine g_block ?_ | refine g_in_normal ?_ | refine g_retc ?_
        | refine g_then_ret ?_ | refine g_in_ret ?_ | refine g_exit ?_ | refine g_then_exit ?_ | refine g_in_exit ?_ | refine g_in_other rfl ?_ | refine g_skip ?_
        | refine g_label ?_ | refine g_cond_true rfl ?_ | refine g_cond_false rfl ?_ | exact s_m | intro _)
      have hs26 : HP.sub H2 H6 := hs3.trans (hs4.trans (hs5.trans hs6))
      have hA : PtsAt (Pile H6) ns T := ⟨hpm', hinc, fun x' hx' => ⟨(hA4 x' hx').grow (hs5.trans hs6), fun y hy => ((hPr x' hx').1 y hy).grow (hs4.trans (hs5.trans hs6)), by have h8 : x'.puts.length ≤ ps.length := (hPr x' hx').2; omega⟩, hnl, fun k hk' => by
        obtain ⟨z, hz, e⟩ := List.mem_map.1 (hpm'.mem_iff.1 hk')
        have := hTi (z.k, z.v key) (List.mem_map.2 ⟨z, hz, rfl⟩)
        rw [← e]; exact this⟩
      have hws : (ownersL l puts).length = puts.length := hol
      exact g_ret ((⟨bg, ⟨t1, t2, t3⟩, ⟨key, q, qc, ps⟩, np, nc, ns, m, T, ma, [], oq, oc, ownersL l puts, 0⟩ : Gg), H6) rfl (by (repeat (first | exact RVs.nil | apply RVs.tmp rfl | apply RVs.cellA rfl (by (repeat (first | exact Sel.here | apply Sel.there)); first | done | fail) (by (repeat (first | exact Cut.zero | apply Cut.take | apply Cut.skip)); first | done | fail) | apply RVs.cell1 rfl (by (repeat (first | exact Sel.here | apply Sel.there)); first | done | fail) rfl)); first | done | fail) (by dsimp only [Gg.L, Gg.cells, amap, List.map_nil]; rw [hws]; exact (by (repeat (first | exact Take.nil | apply Take.cons | exact Sel.here | apply Sel.there)); first | done | fail)) rfl
        ⟨hsb.trans (hs2.trans hs26), ⟨⟨hA2.grow hs26, fun a ha => (hP2 a ha).grow hs26, by simp only; omega⟩, hA, hA6, by simp only; rw [hws]; exact hA5.grow hs6, by simp only; rw [hws, hpl], hoi, fun a ha => (by cases ha), List.nodup_nil, fun a ha => (by cases ha), hD⟩, rfl, rfl, hdd, rfl, rfl, rfl⟩
end Go.Proofs.Ytfachckbjmofgaa
