/- A whole bag of slices of one's own is laid to what stands. -/
import Derived.Test.YtfachckbjmofgaaCrdE
set_option linter.unusedSimpArgs false
set_option linter.unusedVariables false
namespace Go.Sl
theorem g_pileBg {Γ : Ctx} {N : Nat} {fr : Fr} {φ : Act → World → Prop} {α : Type} {p : α → Option Addr} {m c : α → Nat} {n : Nat} {xs : α → List Value} {e : TypeId} {R : List Chunk} :
    ∀ (T : List α) (H : HP) (L R1 : List Chunk) (_ : Sel L (Bg (fun x => [Chunk.own (p x) (m x) (c x) n (xs x) e]) T) R1) (_ : Sel R1 (Pile H) R)
      (_ : ∀ H', HP.sub H H' → (∀ x ∈ T, SlAt (Pile H') n (p x) (m x) (xs x)) → G Γ N fr (Pile H' :: R) φ), G Γ N fr L φ
  | [], H, L, R1, s1, s2, g => fun a w hN hd hf hh => by
    have hs := hh.take (Take.cons s1 (Take.cons s2 .nil))
    refine g H (HP.sub.refl _) (fun x hx => by cases hx) a w hN hd hf (hs.mono fun h al => ?_)
    obtain ⟨h1, h2, dj, t1, t2, _, k1, k2, dj2, u1, u2, hc, hr⟩ := al
    exact ⟨k1, k2, dj2, u1.trans t2, u2.trans t2, hc, hr⟩
  | x :: T, H, L, R1, s1, s2, g => by
    refine g_bgOutE [] T x rfl s1 ?_
    rw [List.nil_append]
    refine g_pile .here (.there s2) (fun H1 hs1 hA1 => ?_)
    refine g_pileBg T H1 _ _ (.there .here) .here (fun H2 hs2 hA2 => ?_)
    exact g H2 (hs1.trans hs2) (fun y hy => by
      rcases List.mem_cons.1 hy with rfl | hy
      · exact hA1.grow hs2
      · exact hA2 y hy)
end Go.Sl
namespace Go.Proofs.Ytfachckbjmofgaa
open Go.Sl facts
attribute [local irreducible] Code.wp wpList Exit.then Exit.inBlock bodyPost Back MidQ G GP QStep VStep CStep SStep Does Post Reads
theorem dput_mem {T : List (Int × List PtD)} {k : Int} {x : PtD} : (∀ z ∈ dput T k x, z.1 = k ∨ z.1 ∈ T.map (·.1)) ∧ (dput T k x).length ≤ T.length + 1 := by
  induction T with
  | nil => simp [dput]
  | cons a T ih =>
    obtain ⟨a, l⟩ := a
    simp only [dput]
    split
    · rename_i e
      subst e
      refine ⟨fun z hz => ?_, by simp⟩
      rcases List.mem_cons.1 hz with rfl | hz
      · exact .inl rfl
      · exact .inr (List.mem_cons_of_mem _ (List.mem_map.2 ⟨z, hz, rfl⟩))
    · refine ⟨fun z hz => ?_, by have := ih.2; simp only [List.length_cons]; omega⟩
      rcases List.mem_cons.1 hz with rfl | hz
      · exact .inr (by simp)
      · rcases ih.1 z hz with h | h
        · exact .inl h
        · exact .inr (List.mem_cons_of_mem _ h)
theorem cutD_mem : ∀ (L : List (Int × PtD)) (T : List (Int × List PtD)), (∀ z ∈ L.foldl (fun T x => if x.1 > 0 then dput T x.1 x.2 else T) T, z.1 ∈ L.map (·.1) ∨ z.1 ∈ T.map (·.1)) ∧ (L.foldl (fun T x => if x.1 > 0 then dput T x.1 x.2 else T) T).length ≤ T.length + L.length
  | [], T => ⟨fun z hz => .inr (List.mem_map.2 ⟨z, hz, rfl⟩), Nat.le_refl _⟩
  | a :: L, T => by
    simp only [List.foldl_cons, List.length_cons]
    split
    · obtain ⟨h1, h2⟩ := cutD_mem L (dput T a.1 a.2)
      have h3 := dput_mem (T := T) (k := a.1) (x := a.2)
      refine ⟨fun z hz => ?_, by omega⟩
      rcases h1 z hz with h | h
      · exact .inl (List.mem_cons_of_mem _ h)
      · obtain ⟨y, hy, e⟩ := List.mem_map.1 h
        rcases h3.1 y hy with h | h
        · exact .inl (by rw [← e, h]; simp)
        · exact .inr (by rw [← e]; exact h)
    · obtain ⟨h1, h2⟩ := cutD_mem L T
      refine ⟨fun z hz => ?_, by omega⟩
      rcases h1 z hz with h | h
      · exact .inl (List.mem_cons_of_mem _ h)
      · exact .inr h
structure PaX where
  np : Option Addr
  nc : Nat
  ns : List Int
  qp : Option Addr
  qc : Nat
  T : List Pr
  H : HP
/-- The part of a node. -/
def btOf (key : ByteArray) (T : List Pr) (k : Int) : Bt := match fndP T k with
  | some z => ⟨key, z.q, z.c, z.puts⟩
  | none => ⟨ByteArray.empty, none, 0, []⟩
theorem btOf_v (key : ByteArray) (T : List Pr) (k : Int) : (mget (pmap key T) k).getD (.agg [.string ByteArray.empty, .slice none 0 0].toArray) = .agg (btOf key T k).cells.toArray := by
  rw [mget_pmap]
  unfold btOf
  cases fndP T k <;> rfl
theorem fndP_in {T : List Pr} {k : Int} (h : k ∈ T.map Pr.k) : ∃ z, z ∈ T ∧ fndP T k = some z := by
  induction T with
  | nil => simp at h
  | cons x T ih =>
    simp only [fndP]
    split
    · exact ⟨x, by simp, rfl⟩
    · rename_i e
      rcases List.mem_cons.1 h with h | h
      · exact absurd h e
      · obtain ⟨z, hz, e⟩ := ih h
        exact ⟨z, List.mem_cons_of_mem _ hz, e⟩
/-- What is held of parts that were laid to what stands. -/
structure PtsAt (C : Chunk) (ns : List Int) (T : List Pr) : Prop where
  perm : ns.Perm (T.map Pr.k)
  inc : ns.Pairwise (· < ·)
  at_ : ∀ x ∈ T, SlAt C 3 x.q x.puts.length (x.puts.flatMap Pt.cells) ∧ (∀ y ∈ x.puts, PtAt C y) ∧ x.puts.length ≤ 1000000000
  len : ns.length ≤ 1000000000
  in_ : ∀ k ∈ ns, inI k
theorem PtsAt.grow {H H' : HP} {ns : List Int} {T : List Pr} (h : PtsAt (Pile H) ns T) (s : HP.sub H H') : PtsAt (Pile H') ns T :=
  ⟨h.perm, h.inc, fun x hx => ⟨(h.at_ x hx).1.grow s, fun y hy => ((h.at_ x hx).2.1 y hy).grow s, (h.at_ x hx).2.2⟩, h.len, h.in_⟩
theorem PtsAt.bt {C : Chunk} {ns : List Int} {T : List Pr} (h : PtsAt C ns T) (key : ByteArray) {k : Int} (hk : k ∈ ns) : BtAt' C (btOf key T k) ∧ ∃ z, fndP T k = some z ∧ btOf key T k = ⟨key, z.q, z.c, z.puts⟩ := by
  obtain ⟨z, hz, e⟩ := fndP_in ((h.perm.mem_iff).1 hk)
  obtain ⟨h1, h2, h3⟩ := h.at_ z hz
  unfold btOf
  rw [e]
  exact ⟨⟨h1, h2, h3⟩, z, rfl, rfl⟩
theorem whose_in {l : List Rg} (hl : ∀ r ∈ l, inI r.o) (s : ByteArray) : inI (whose l s) := by
  unfold whose fndR
  split
  · cases h : l[upTo (·.hasN (hashN s)) l]? with
    | none => exact ⟨by decide, by decide⟩
    | some r => exact hl r (List.mem_of_getElem? h)
  · exact ⟨by decide, by decide⟩
set_option maxHeartbeats 4000000 in
theorem parts_ {H : HP} (p : Option Addr) (c : Nat) (l : List Rg) (hS : SlAt (Pile H) 4 p l.length (l.flatMap Rg.cells)) (hl : l.length ≤ 1000000000) (hlo : ∀ r ∈ l, inI r.o) (x : Bt) (hx : BtAt' (Pile H) x) :
    Does Try.prog 9 [.slice p l.length c, .agg x.cells.toArray] [Pile H] (X := PaX) (fun y => .tuple [.slice y.np y.ns.length y.nc, .slice y.qp y.ns.length y.qc].toArray) (fun y => [.own y.np y.ns.length y.nc 1 (y.ns.map int) 3, .own y.qp y.ns.length y.qc 2 ((y.ns.map (btOf x.key y.T)).flatMap Bt.cells) 25, Pile y.H])
      (fun y => HP.sub H y.H ∧ PtsAt (Pile y.H) y.ns y.T ∧ y.T.map Pr.d = cutL (ownersL l x.puts) x.puts) := by
  obtain ⟨key, pp, pc, puts⟩ := x
  dsimp only [Bt.cells]
  have hol : (ownersL l puts).length = puts.length := by simp [ownersL]
  have hoi : ∀ w ∈ ownersL l puts, inI w := fun w hw => by
    obtain ⟨y, _, rfl⟩ := List.mem_map.1 hw
    exact whose_in hlo y.st
  have how := owners_ p c l hS hl _ hx
  dsimp only [Bt.cells] at how
  refine fn_intro Try.func9 rfl Try.ntmps9 rfl (by simp only [argFr, Nat.zero_add, Nat.reduceAdd]; rfl) (fun Γ => ?_)
  repeat (first
    | (refine g_ops ?_; first | refine s_q ?_ | refine s_v ?_ | refine s_s ?_ | refine s_n (fun _ => ?_) | refine s_x ?_ | refine s_y ?_ | refine s_mq ?_ | refine s_app (fun _ _ => ?_) | refine s_mv ?_ | refine s_ms ?_ | refine s_b0 (fun _ => ?_) | ((fail_if_success refine g_lit rfl rfl rfl ?_); first | apply g_partM rfl rfl rfl | apply g_partMB rfl rfl rfl | fail))
    | refine g_seq ?_ | refine g_region ?_ | refine g_nil ?_ | refine g_then_normal ?_ | refine g_block ?_ | refine g_in_normal ?_ | refine g_retc ?_ | refine g_then_ret ?_
    | refine g_in_ret ?_ | refine g_exit ?_ | refine g_then_exit ?_ | refine g_in_exit ?_ | refine g_in_other rfl ?_ | refine g_skip ?_ | refine g_label ?_
    | refine g_cond_true rfl ?_ | refine g_cond_false rfl ?_ | exact s_m | intro _)
  rename_i b3
  refine g_draw (.see 0 [] (.take 1 (.see 2 [] (.one 3 (.one 4 (.take 5 .done)))))) (by kernel_rfl) (C := [.row b3 [.string key, .slice pp puts.length pc] 25]) (by (repeat (first | exact Take.nil | apply Take.cons | exact Sel.here | apply Sel.there)); first | done | fail) (fun k hd hk => ?_)
  repeat (first
    | (refine gp_take ?_; first | refine p_q ?_ | refine p_x ?_ | refine p_mq ?_ | ((fail_if_success refine gp_lit rfl rfl rfl rfl ?_); first | apply gp_guard_dec rfl rfl rfl rfl | apply gp_guard rfl rfl rfl rfl | fail))
    | (refine gp_see ?_; first | refine p_f ?_ | refine p_sx ?_ | ((fail_if_success refine gp_lit rfl rfl rfl rfl ?_); first | apply gp_guard_dec rfl rfl rfl rfl | apply gp_guard rfl rfl rfl rfl | fail) | refine p_sq ?_)
    | (refine gp_one ?_; first | refine p_v ?_ | refine p_s ?_ | refine p_n (fun _ => ?_) | refine p_y ?_ | refine p_app (fun _ _ => ?_) | refine p_mv ?_ | refine p_ms ?_ | refine p_b0 (fun _ => ?_) | ((fail_if_success refine gp_lit rfl rfl rfl rfl ?_); first | apply gp_guard_dec rfl rfl rfl rfl | apply gp_guard rfl rfl rfl rfl | fail) | refine p_c (how) (fun _ _ => ?_))
    | refine gp_two ?_ ?_ | refine gp_done hd hk ?_ | intro _ | refine p_ta hd hk (fun _ _ _ hd hk => ?_) | refine p_ts hd hk (fun _ hd hk => ?_))
  rename_i y _
  obtain ⟨oq, oc⟩ := y
  dsimp only [List.cons_append, List.nil_append]
  have hcu := cut_ _ hx oq oc (ownersL l puts) hol hoi
  dsimp only [Bt.cells] at hcu
  rw [hol] at hcu
  repeat (first
    | (refine gp_take ?_; first | refine p_q ?_ | refine p_x ?_ | refine p_mq ?_ | ((fail_if_success refine gp_lit rfl rfl rfl rfl ?_); first | apply gp_guard_dec rfl rfl rfl rfl | apply gp_guard rfl rfl rfl rfl | fail))
    | (refine gp_see ?_; first | refine p_f ?_ | refine p_sx ?_ | ((fail_if_success refine gp_lit rfl rfl rfl rfl ?_); first | apply gp_guard_dec rfl rfl rfl rfl | apply gp_guard rfl rfl rfl rfl | fail) | refine p_sq ?_)
    | (refine gp_one ?_; first | refine p_v ?_ | refine p_s ?_ | refine p_n (fun _ => ?_) | refine p_y ?_ | refine p_app (fun _ _ => ?_) | refine p_mv ?_ | refine p_ms ?_ | refine p_b0 (fun _ => ?_) | ((fail_if_success refine gp_lit rfl rfl rfl rfl ?_); first | apply gp_guard_dec rfl rfl rfl rfl | apply gp_guard rfl rfl rfl rfl | fail) | refine p_c (hcu) (fun _ _ => ?_))
    | refine gp_two ?_ ?_ | refine gp_done hd hk ?_ | intro _ | refine p_ta hd hk (fun _ _ _ hd hk => ?_) | refine p_ts hd hk (fun _ hd hk => ?_))
  rename_i y2 hy2
  obtain ⟨m, T, H1⟩ := y2
  obtain ⟨hs1, hP, hD⟩ := hy2
  dsimp only [List.cons_append, List.nil_append] at hs1 hP hD ⊢
  refine g_pileBg (p := Pr.q) (m := fun z => z.puts.length) (c := Pr.c) (n := 3) (xs := fun z => z.puts.flatMap Pt.cells) (e := 34) T H1 _ _ (by (repeat (first | exact Sel.here | apply Sel.there)); first | done | fail) (by (repeat (first | exact Sel.here | apply Sel.there)); first | done | fail) (fun H2 hs2 hA2 => ?_)
  have hmem := cutD_mem (((ownersL l puts).zip puts).map fun z => (z.1, z.2.d)) []
  have hTl : T.length ≤ 1000000000 := by
    have h1 : T.length = (List.foldl (fun T x => if x.1 > 0 then dput T x.1 x.2 else T) [] (((ownersL l puts).zip puts).map fun z => (z.1, z.2.d))).length := by rw [← List.length_map (f := Pr.d), hD]; rfl
    have h2 := hmem.2
    have h3 : puts.length ≤ 1000000000 := hx.len
    simp only [List.length_map, List.length_zip, List.length_nil, Nat.zero_add] at h2
    rw [← h1] at h2
    omega
  have hTi : ∀ z ∈ pmap key T, inI z.1 := fun z hz => by
    obtain ⟨t, ht, rfl⟩ := List.mem_map.1 hz
    have h1 : t.d ∈ cutL (ownersL l puts) puts := by rw [← hD]; exact List.mem_map.2 ⟨t, ht, rfl⟩
    rcases hmem.1 _ h1 with h | h
    · obtain ⟨y, hy, e⟩ := List.mem_map.1 h
      obtain ⟨w, hw, rfl⟩ := List.mem_map.1 hy
      have h2 := hoi _ (List.of_mem_zip hw).1
      rw [show t.k = w.1 from e.symm]
      exact h2
    · simp at h
  repeat (first
    | (refine g_ops ?_; first | refine s_q ?_ | refine s_v ?_ | refine s_s ?_ | refine s_n (fun _ => ?_) | refine s_x ?_ | refine s_y ?_ | refine s_mq ?_ | refine s_app (fun _ _ => ?_) | refine s_mv ?_ | refine s_ms ?_ | refine s_b0 (fun _ => ?_) | ((fail_if_success refine g_lit rfl rfl rfl ?_); first | apply g_partM rfl rfl rfl | apply g_partMB rfl rfl rfl | fail) | refine s_c (keysFA (some m)) (fun _ _ => ?_))
    | refine g_seq ?_ | refine g_region ?_ | refine g_nil ?_ | refine g_then_normal ?_ | refine g_block ?_ | refine g_in_normal ?_ | refine g_retc ?_ | refine g_then_ret ?_
    | refine g_in_ret ?_ | refine g_exit ?_ | refine g_then_exit ?_ | refine g_in_exit ?_ | refine g_in_other rfl ?_ | refine g_skip ?_ | refine g_label ?_
    | refine g_cond_true rfl ?_ | refine g_cond_false rfl ?_ | exact s_m | intro _)
  rename_i bk _
  repeat (first
    | (refine g_ops ?_; first | refine s_q ?_ | refine s_v ?_ | refine s_s ?_ | refine s_n (fun _ => ?_) | refine s_x ?_ | refine s_y ?_ | refine s_mq ?_ | refine s_app (fun _ _ => ?_) | refine s_mv ?_ | refine s_ms ?_ | refine s_b0 (fun _ => ?_) | ((fail_if_success refine g_lit rfl rfl rfl ?_); first | apply g_partM rfl rfl rfl | apply g_partMB rfl rfl rfl | fail) | refine s_c (does_sortedI (T := 70) (m := m) (M := pmap key T) (Bm := bk) (P := Try.prog) (f := 28) (g := fKA) Try.underlying3 (by simpa using hTl) hTi (sortedA bk)) (fun _ _ => ?_))
    | refine g_seq ?_ | refine g_region ?_ | refine g_nil ?_ | refine g_then_normal ?_ | refine g_block ?_ | refine g_in_normal ?_ | refine g_retc ?_ | refine g_then_ret ?_
    | refine g_in_ret ?_ | refine g_exit ?_ | refine g_then_exit ?_ | refine g_in_exit ?_ | refine g_in_other rfl ?_ | refine g_skip ?_ | refine g_label ?_
    | refine g_cond_true rfl ?_ | refine g_cond_false rfl ?_ | exact s_m | intro _)
  rename_i si hsi
  obtain ⟨np, nc, ns⟩ := si
  obtain ⟨hpm, hinc⟩ := hsi
  dsimp only [List.cons_append, List.nil_append] at hpm hinc ⊢
  have hpm' : ns.Perm (T.map Pr.k) := by rw [show T.map Pr.k = (pmap key T).map (·.1) by simp]; exact hpm
  have hnl : ns.length ≤ 1000000000 := by rw [hpm'.length_eq, List.length_map]; exact hTl
  have hA : PtsAt (Pile H2) ns T := ⟨hpm', hinc, fun x' hx' => ⟨hA2 x' hx', fun y hy => ((hP x' hx').1 y hy).grow hs2, by have := (hP x' hx').2; have h3 : puts.length ≤ 1000000000 := hx.len; omega⟩, hnl, fun k hk' => by
    obtain ⟨z, hz, e⟩ := List.mem_map.1 (hpm'.mem_iff.1 hk')
    have := hTi (z.k, z.v key) (List.mem_map.2 ⟨z, hz, rfl⟩)
    rw [← e]; exact this⟩
  refine g_own (p := np) (len := ns.length) (cap := nc) (n := 1) (xs := ns.map int) (e := 3) (by (repeat (first | exact Sel.here | apply Sel.there)); first | done | fail) (fun _ _ hq => ?_)
  refine g_own_nil none 2 25 ?_
  refine g_loop (X := Nat × OA) (fun y => [(4, .slice np ns.length nc), (5, .slice y.2.1 y.1 y.2.2), (6, .map (some m)), (17, .slice np ns.length nc), (18, int ns.length), (19, int y.1)])
    (fun y => [.own y.2.1 y.1 y.2.2 2 (((ns.take y.1).map (btOf key T)).flatMap Bt.cells) 25, .own np ns.length nc 1 (ns.map int) 3, .map m (pmap key T), Pile H2]) (fun y => y.1 ≤ ns.length) (fun y => ns.length - y.1) ⟨0, none, 0⟩ (Nat.zero_le _) (by (repeat (first | exact FrSub.nil | refine FrSub.cons rfl ?_)); first | done | fail) (by (repeat (first | exact Take.nil | apply Take.cons | exact Sel.here | apply Sel.there)); first | done | fail) (fun y hy => ?_)
  obtain ⟨i, q, qc⟩ := y
  dsimp only at hy ⊢
  repeat (first
    | (refine g_ops ?_; first | refine s_q ?_ | refine s_v ?_ | refine s_s ?_ | refine s_n (fun _ => ?_) | refine s_x ?_ | refine s_y ?_ | refine s_mq ?_ | refine s_app (fun _ _ => ?_) | refine s_mv ?_ | refine s_ms ?_ | refine s_b0 (fun _ => ?_) | ((fail_if_success refine g_lit rfl rfl rfl ?_); first | apply g_partM rfl rfl rfl | apply g_partMB rfl rfl rfl | fail))
    | refine g_seq ?_ | refine g_region ?_ | refine g_nil ?_ | refine g_then_normal ?_ | refine g_block ?_ | refine g_in_normal ?_ | refine g_retc ?_ | refine g_then_ret ?_
    | refine g_in_ret ?_ | refine g_exit ?_ | refine g_then_exit ?_ | refine g_in_exit ?_ | refine g_in_other rfl ?_ | refine g_skip ?_ | refine g_label ?_
    | refine g_cond_true rfl ?_ | refine g_cond_false rfl ?_ | exact s_m | intro _)
  refine g_cond_dec rfl (fun h => ?_) (fun h => ?_)
  · have hi' : i < ns.length := by omega
    obtain ⟨ob, rfl⟩ := hq (by omega)
    have hr : ∀ k, k = i → Reads (.own (some ⟨ob, 0, none⟩) ns.length nc 1 (ns.map int) 3) ⟨ob, 0 + k, none⟩ (int ns[i]) := fun k e => by
      subst e; rw [Nat.zero_add]; exact reads_own (by simp [hi'])
    have htk : (ns.take (i + 1)).map (btOf key T) = (ns.take i).map (btOf key T) ++ [btOf key T ns[i]] := by
      rw [List.take_succ_eq_append_getElem hi', List.map_append]; rfl
    generalize ns[i] = w at hr htk
    repeat (first
      | (refine g_ops ?_; first | refine s_q ?_ | refine s_v ?_ | refine s_s ?_ | refine s_n (fun _ => ?_) | refine s_x ?_ | refine s_y ?_ | refine s_mq ?_ | refine s_app (fun _ _ => ?_) | refine s_mv ?_ | refine s_ms ?_ | refine s_b0 (fun _ => ?_) | ((fail_if_success refine g_lit rfl rfl rfl ?_); first | apply g_partM rfl rfl rfl | apply g_partMB rfl rfl rfl | fail))
      | refine g_seq ?_ | refine g_region ?_ | refine g_nil ?_ | refine g_then_normal ?_ | refine g_block ?_ | refine g_in_normal ?_ | refine g_retc ?_
      | refine g_then_ret ?_ | refine g_in_ret ?_ | refine g_exit ?_ | refine g_then_exit ?_ | refine g_in_exit ?_ | refine g_in_other rfl ?_ | refine g_skip ?_
      | refine g_label ?_ | refine g_cond_true rfl ?_ | refine g_cond_false rfl ?_ | exact s_m | intro _)
    refine g_v (vs_lookup (κ := Int) (k := w) inferInstance inferInstance inferInstance kindI rfl rfl (by (repeat (first | exact Sel.here | apply Sel.there)); first | done | fail)) rfl rfl ?_
    refine g_as 26 (v' := .agg (btOf key T w).cells.toArray) rfl (by exact btOf_v key T w) ?_
    generalize btOf key T w = bt at htk
    repeat (first
      | (refine g_ops ?_; first | refine s_q ?_ | refine s_v ?_ | refine s_s ?_ | refine s_n (fun _ => ?_) | refine s_x ?_ | refine s_y ?_ | refine s_mq ?_ | refine s_app (fun _ _ => ?_) | refine s_mv ?_ | refine s_ms ?_ | refine s_b0 (fun _ => ?_) | ((fail_if_success refine g_lit rfl rfl rfl ?_); first | apply g_partM rfl rfl rfl | apply g_partMB rfl rfl rfl | fail))
      | refine g_seq ?_ | refine g_region ?_ | refine g_nil ?_ | refine g_then_normal ?_ | refine g_block ?_ | refine g_in_normal ?_ | refine g_retc ?_
      | refine g_then_ret ?_ | refine g_in_ret ?_ | refine g_exit ?_ | refine g_then_exit ?_ | refine g_in_exit ?_ | refine g_in_other rfl ?_ | refine g_skip ?_
      | refine g_label ?_ | refine g_cond_true rfl ?_ | refine g_cond_false rfl ?_ | exact s_m | intro _)
    rename_i b4 q2 c2
    rw [show ((ns.take i).map (btOf key T)).flatMap Bt.cells ++ [Value.string bt.key, Value.slice bt.pp bt.puts.length bt.pc] = ((ns.take (i + 1)).map (btOf key T)).flatMap Bt.cells by rw [htk, List.flatMap_append]; simp]
    refine g_as 19 (v' := int ((i + 1 : Nat) : Int)) rfl (congrArg (Value.int .i64) (by push_cast; rfl)) ?_
    exact g_again ⟨i + 1, q2, c2⟩ (by simp only; omega) hi' (by (repeat (first | exact FrSub.nil | refine FrSub.cons rfl ?_)); first | done | fail) (by (repeat (first | exact Take.nil | apply Take.cons | exact Sel.here | apply Sel.there)); first | done | fail)
  · obtain rfl : i = ns.length := by omega
    rw [List.take_length]
    repeat (first
      | (refine g_ops ?_; first | refine s_q ?_ | refine s_v ?_ | refine s_s ?_ | refine s_n (fun _ => ?_) | refine s_x ?_ | refine s_y ?_ | refine s_mq ?_ | refine s_app (fun _ _ => ?_) | refine s_mv ?_ | refine s_ms ?_ | refine s_b0 (fun _ => ?_) | ((fail_if_success refine g_lit rfl rfl rfl ?_); first | apply g_partM rfl rfl rfl | apply g_partMB rfl rfl rfl | fail))
      | refine g_seq ?_ | refine g_region ?_ | refine g_nil ?_ | refine g_then_normal ?_ | refine g_block ?_ | refine g_in_normal ?_ | refine g_retc ?_
      | refine g_then_ret ?_ | refine g_in_ret ?_ | refine g_exit ?_ | refine g_then_exit ?_ | refine g_in_exit ?_ | refine g_in_other rfl ?_ | refine g_skip ?_
      | refine g_label ?_ | refine g_cond_true rfl ?_ | refine g_cond_false rfl ?_ | exact s_m | intro _)
    exact g_ret (⟨np, nc, ns, q, qc, T, H2⟩ : PaX) rfl (by (repeat (first | exact RVs.nil | apply RVs.tmp rfl | apply RVs.cellA rfl (by (repeat (first | exact Sel.here | apply Sel.there)); first | done | fail) (by (repeat (first | exact Cut.zero | apply Cut.take | apply Cut.skip)); first | done | fail) | apply RVs.cell1 rfl (by (repeat (first | exact Sel.here | apply Sel.there)); first | done | fail) rfl)); first | done | fail) (by (repeat (first | exact Take.nil | apply Take.cons | exact Sel.here | apply Sel.there)); first | done | fail) rfl ⟨hs1.trans hs2, hA, hD⟩
end Go.Proofs.Ytfachckbjmofgaa
