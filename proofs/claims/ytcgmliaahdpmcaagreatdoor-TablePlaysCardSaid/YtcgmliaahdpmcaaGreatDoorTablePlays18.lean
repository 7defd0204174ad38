/- Contracts and laws that the proof stands on. -/
import Derived.Test.YtcgmliaahdpmcaaGreatDoorTablePlays17
set_option linter.unusedSimpArgs false
set_option linter.unusedVariables false
namespace Go.Sl
theorem slAt_own {q : Option Addr} {len c n : Nat} {xs : List Value} {e : TypeId} (hl : xs.length = len * n) (ho : xs.all (·.oneCell') = true) (h : 0 < len → ∃ b, q = some ⟨b, 0, none⟩) : SlAt (.own q len c n xs e) n q len xs := by
  refine ⟨hl, ho, fun e => ?_, fun j v hv => ?_⟩
  · by_cases h0 : 0 < len
    · obtain ⟨b, hb⟩ := h h0
      rw [hb] at e; cases e
    · omega
  · have hj := (List.getElem?_eq_some_iff.1 hv).1
    have h0 : 0 < len := by
      by_cases h0 : 0 < len
      · exact h0
      · have : len = 0 := by omega
        rw [hl, this, Nat.zero_mul] at hj; omega
    obtain ⟨b, rfl⟩ := h h0
    exact ⟨b, 0, rfl, by simpa using reads_own hv⟩
theorem g_bgOutE {Γ : Ctx} {N : Nat} {fr : Fr} {L R : List Chunk} {φ : Act → World → Prop} {α : Type} {F : α → List Chunk} {l : List α} (A B : List α) (x : α) (e : l = A ++ x :: B) (s : Sel L (Bg F l) R) (g : G Γ N fr (F x ++ (Bg F (A ++ B) :: R)) φ) : G Γ N fr L φ := by
  subst e; exact g_bgOut A B x s g
theorem g_bgInE {Γ : Ctx} {N : Nat} {fr : Fr} {L R : List Chunk} {φ : Act → World → Prop} {α : Type} {F : α → List Chunk} {l : List α} (A B : List α) (x : α) (e : l = A ++ x :: B) (t : Take L (F x ++ [Bg F (A ++ B)]) R) (g : G Γ N fr (Bg F l :: R) φ) : G Γ N fr L φ := by
  subst e; exact g_bgIn A B x t g
end Go.Sl
namespace Go.Proofs.YtcgmliaahdpmcaaGreatDoor
open Go.Sl facts
attribute [local irreducible] Code.wp wpList Exit.then Exit.inBlock bodyPost Back MidQ G GP QStep VStep CStep SStep Does Post Reads
theorem keysFB (mp : Option Nat) : Does Tryz.prog 41 [.map mp] [] (X := Nat) (fun b => .func (.func fKB) #[] #[.pointer (some ⟨b, 0, none⟩)]) (fun b => [.row b [.map mp] 76]) (fun _ => True) := by
  refine fn_intro Tryz.func41 rfl Tryz.ntmps41 rfl (by simp only [argFr, Nat.zero_add, Nat.reduceAdd]; rfl) (fun Γ => ?_)
  repeat (first
    | (refine g_ops ?_; first | refine s_q ?_ | refine s_v ?_ | refine s_s ?_ | refine s_n (fun _ => ?_) | refine s_x ?_ | refine s_y ?_ | refine s_mq ?_ | refine s_appB (fun _ _ => ?_) | refine s_app (fun _ _ => ?_) | refine s_mv ?_ | refine s_ms ?_ | refine s_b0 (fun _ => ?_) | ((fail_if_success refine g_lit rfl rfl rfl ?_); first | apply g_partM rfl rfl rfl | apply g_partMB rfl rfl rfl | fail))
    | refine g_seq ?_ | refine g_region ?_ | refine g_nil ?_ | refine g_then_normal ?_ | refine g_block ?_ | refine g_in_normal ?_ | refine g_retc ?_ | refine g_then_ret ?_
    | refine g_in_ret ?_ | refine g_exit ?_ | refine g_then_exit ?_ | refine g_in_exit ?_ | refine g_in_other rfl ?_ | refine g_skip ?_ | refine g_label ?_
    | refine g_cond_true rfl ?_ | refine g_cond_false rfl ?_ | exact s_m | intro _)
  rename_i b
  refine s_q (q := by exact qs_makeFunc (vs := [ptr b]) (by (repeat (first | exact Evs.nil | refine Evs.cons rfl ?_)); first | done | fail)) ?_
  repeat (first
    | (refine g_ops ?_; first | refine s_q ?_ | refine s_v ?_ | refine s_s ?_ | refine s_n (fun _ => ?_) | refine s_x ?_ | refine s_y ?_ | refine s_mq ?_ | refine s_appB (fun _ _ => ?_) | refine s_app (fun _ _ => ?_) | refine s_mv ?_ | refine s_ms ?_ | refine s_b0 (fun _ => ?_) | ((fail_if_success refine g_lit rfl rfl rfl ?_); first | apply g_partM rfl rfl rfl | apply g_partMB rfl rfl rfl | fail))
    | refine g_seq ?_ | refine g_region ?_ | refine g_nil ?_ | refine g_then_normal ?_ | refine g_block ?_ | refine g_in_normal ?_ | refine g_retc ?_ | refine g_then_ret ?_
    | refine g_in_ret ?_ | refine g_exit ?_ | refine g_then_exit ?_ | refine g_in_exit ?_ | refine g_in_other rfl ?_ | refine g_skip ?_ | refine g_label ?_
    | refine g_cond_true rfl ?_ | refine g_cond_false rfl ?_ | exact s_m | intro _)
  exact g_ret b rfl (by (repeat (first | exact RVs.nil | apply RVs.tmp rfl | apply RVs.cellA rfl (by (repeat (first | exact Sel.here | apply Sel.there)); first | done | fail) (by (repeat (first | exact Cut.zero | apply Cut.take | apply Cut.skip)); first | done | fail) | apply RVs.cell1 rfl (by (repeat (first | exact Sel.here | apply Sel.there)); first | done | fail) rfl)); first | done | fail) (by (repeat (first | exact Take.nil | apply Take.cons | exact Sel.here | apply Sel.there)); first | done | fail) rfl trivial
structure TakeOf (s : Sm) (x : StrV) : Prop where
  nm : x.nm = s.nm
  evs : x.evs = s.evs
  perm : x.ks.Perm s.ks
  sort : (x.ks.map Kn.key).Pairwise fun a b => ltB a b = true
structure TBig (T : List Sm) : Prop where
  nd : (T.map Sm.nm).Nodup
  len : T.length ≤ 1000000000
  nm : ∀ x ∈ T, x.nm.size ≤ 9223372036854775807
  evs : ∀ x ∈ T, x.evs.length ≤ 1000000000
  eo : ∀ x ∈ T, EvsOk x.evs
  ks : ∀ x ∈ T, x.ks.length ≤ 1000000000
  key : ∀ x ∈ T, ∀ k ∈ x.ks, k.key.size ≤ 9223372036854775807
  kd : ∀ x ∈ T, (x.ks.map Kn.key).Nodup
def kOf (ks : List Kn) (key : ByteArray) : Kn := (fkn ks key).getD Kn.zero
theorem kOf_of_mem {ks : List Kn} {k : Kn} (hn : (ks.map Kn.key).Nodup) (h : k ∈ ks) : kOf ks k.key = k := by
  have : fkn ks k.key = some k := by
    induction ks with
    | nil => cases h
    | cons z ks ih =>
      simp only [fkn]
      rcases List.mem_cons.1 h with rfl | h
      · rw [if_pos rfl]
      · have h1 := List.pairwise_cons.1 (show (z.key :: ks.map Kn.key).Pairwise (· ≠ ·) from hn)
        rw [if_neg (fun e => h1.1 k.key (List.mem_map.2 ⟨k, h, rfl⟩) e.symm)]
        exact ih h1.2 h
  simp [kOf, this]
theorem kOf_map {ks : List Kn} {zs : List ByteArray} (hn : (ks.map Kn.key).Nodup) (hp : zs.Perm (ks.map Kn.key)) : (zs.map (kOf ks)).Perm ks ∧ (zs.map (kOf ks)).map Kn.key = zs := by
  constructor
  · refine (hp.map (kOf ks)).trans ?_
    rw [List.map_map]
    have : ks.map (kOf ks ∘ Kn.key) = ks.map id := List.map_congr_left fun k hk => kOf_of_mem hn hk
    rw [this, List.map_id]
  · rw [List.map_map]
    have : zs.map (Kn.key ∘ kOf ks) = zs.map id := List.map_congr_left fun z hz => by
      obtain ⟨k, hk, rfl⟩ := List.mem_map.1 (hp.mem_iff.1 hz)
      simp [kOf_of_mem hn hk]
    rw [this, List.map_id]
structure TkX where
  p : Option Addr
  c : Nat
  xs : List StrV
  H : HP
structure KyX where
  j : Nat
  p : Option Addr
  c : Nat
set_option maxHeartbeats 4000000 in
theorem take {H : HP} (t : Nat) (mp : Option Nat) (T : List Sm) (r : Rg) (hT : TBig T) :
    Does Tryz.prog 14 [ptr t, r.v] (tabL t mp T ++ [Pile H]) (X := TkX) (fun x => .slice x.p x.xs.length x.c) (fun x => .own x.p x.xs.length x.c 3 (x.xs.flatMap StrV.cells) 60 :: (tabL t mp T ++ [Pile x.H]))
      (fun x => HP.sub H x.H ∧ (∀ y ∈ x.xs, StrAt (Pile x.H) y) ∧ (∀ y ∈ x.xs, ∃ s ∈ T, TakeOf s y) ∧ (∃ ys : List ByteArray, ys.Perm (T.map Sm.nm) ∧ ys.Pairwise (fun a b => ltB a b = true) ∧ x.xs.map StrV.nm = ys.filter r.has)) := by
  refine fn_intro Tryz.func14 rfl Tryz.ntmps14 rfl (by simp only [argFr, Nat.zero_add, Nat.reduceAdd]; rfl) (fun Γ => ?_)
  repeat (first
    | (refine g_ops ?_; first | refine s_q ?_ | refine s_v ?_ | refine s_s ?_ | refine s_n (fun _ => ?_) | refine s_x ?_ | refine s_y ?_ | refine s_mq ?_ | refine s_appB (fun _ _ => ?_) | refine s_app (fun _ _ => ?_) | refine s_mv ?_ | refine s_ms ?_ | refine s_b0 (fun _ => ?_) | ((fail_if_success refine g_lit rfl rfl rfl ?_); first | apply g_partM rfl rfl rfl | apply g_partMB rfl rfl rfl | fail) | refine s_c (someT t mp T r hT.len hT.nm) (fun _ _ => ?_))
    | refine g_seq ?_ | refine g_region ?_ | refine g_nil ?_ | refine g_then_normal ?_ | refine g_block ?_ | refine g_in_normal ?_ | refine g_retc ?_ | refine g_then_ret ?_
    | refine g_in_ret ?_ | refine g_exit ?_ | refine g_then_exit ?_ | refine g_in_exit ?_ | refine g_in_other rfl ?_ | refine g_skip ?_ | refine g_label ?_
    | refine g_cond_true rfl ?_ | refine g_cond_false rfl ?_ | exact s_m | intro _)
  rename_i rb y hy
  obtain ⟨np, nc, ys⟩ := y
  dsimp only at hy ⊢
  have hFl : (ys.filter r.has).length ≤ 1000000000 := by
    have h1 := List.length_filter_le r.has ys
    have h2 := hy.1.length_eq
    have h3 := hT.len
    simp at h2; omega
  generalize hF : ys.filter r.has = F at hFl
  refine g_own (p := np) (len := F.length) (cap := nc) (n := 1) (xs := F.map .string) (e := 9) (by (repeat (first | exact Sel.here | apply Sel.there)); first | done | fail) (fun _ _ hq => ?_)
  repeat (first
    | (refine g_ops ?_; first | refine s_q ?_ | refine s_v ?_ | refine s_s ?_ | refine s_n (fun _ => ?_) | refine s_x ?_ | refine s_y ?_ | refine s_mq ?_ | refine s_appB (fun _ _ => ?_) | refine s_app (fun _ _ => ?_) | refine s_mv ?_ | refine s_ms ?_ | refine s_b0 (fun _ => ?_) | ((fail_if_success refine g_lit rfl rfl rfl ?_); first | apply g_partM rfl rfl rfl | apply g_partMB rfl rfl rfl | fail))
    | refine g_seq ?_ | refine g_region ?_ | refine g_nil ?_ | refine g_then_normal ?_ | refine g_block ?_ | refine g_in_normal ?_ | refine g_retc ?_ | refine g_then_ret ?_
    | refine g_in_ret ?_ | refine g_exit ?_ | refine g_then_exit ?_ | refine g_in_exit ?_ | refine g_in_other rfl ?_ | refine g_skip ?_ | refine g_label ?_
    | refine g_cond_true rfl ?_ | refine g_cond_false rfl ?_ | exact s_m | intro _)
  refine g_own_nil none 3 60 ?_
  refine g_loop (X := TkX) (fun x => [(0, ptr t), (4, .slice x.p x.xs.length x.c), (13, .slice np F.length nc), (14, int F.length), (15, int x.xs.length)])
    (fun x => .own x.p x.xs.length x.c 3 (x.xs.flatMap StrV.cells) 60 :: nmsC np nc F :: (tabL t mp T ++ [Pile x.H]))
    (fun x => HP.sub H x.H ∧ (∀ y ∈ x.xs, StrAt (Pile x.H) y) ∧ (∀ y ∈ x.xs, ∃ s ∈ T, TakeOf s y) ∧ x.xs.map StrV.nm = F.take x.xs.length ∧ x.xs.length ≤ F.length) (fun x => F.length - x.xs.length) ⟨none, 0, [], H⟩ ⟨HP.sub.refl _, by simp, by simp, rfl, Nat.zero_le _⟩ (by (repeat (first | exact FrSub.nil | refine FrSub.cons rfl ?_)); first | done | fail) (by (repeat (first | exact Take.nil | apply Take.cons | exact Sel.here | apply Sel.there)); first | done | fail) (fun x hx => ?_)
  obtain ⟨op, oc, xs, H1⟩ := x
  obtain ⟨hs1, hs2', hs3', hs4, hs5⟩ := hx
  dsimp only at hs1 hs2' hs3' hs4 hs5 ⊢
  repeat (first
    | (refine g_ops ?_; first | refine s_q ?_ | refine s_v ?_ | refine s_s ?_ | refine s_n (fun _ => ?_) | refine s_x ?_ | refine s_y ?_ | refine s_mq ?_ | refine s_appB (fun _ _ => ?_) | refine s_app (fun _ _ => ?_) | refine s_mv ?_ | refine s_ms ?_ | refine s_b0 (fun _ => ?_) | ((fail_if_success refine g_lit rfl rfl rfl ?_); first | apply g_partM rfl rfl rfl | apply g_partMB rfl rfl rfl | fail))
    | refine g_seq ?_ | refine g_region ?_ | refine g_nil ?_ | refine g_then_normal ?_ | refine g_block ?_ | refine g_in_normal ?_ | refine g_retc ?_ | refine g_then_ret ?_
    | refine g_in_ret ?_ | refine g_exit ?_ | refine g_then_exit ?_ | refine g_in_exit ?_ | refine g_in_other rfl ?_ | refine g_skip ?_ | refine g_label ?_
    | refine g_cond_true rfl ?_ | refine g_cond_false rfl ?_ | exact s_m | intro _)
  refine g_cond_dec rfl (fun h => ?_) (fun h => ?_)
  · have hj' : xs.length < F.length := by omega
    obtain ⟨nb, rfl⟩ := hq (by omega)
    have hmem : F[xs.length] ∈ T.map Sm.nm := by
      have h1 : F[xs.length] ∈ ys.filter r.has := by rw [hF]; exact List.getElem_mem _
      exact hy.1.mem_iff.1 (List.mem_filter.1 h1).1
    obtain ⟨s, hsT, hsn⟩ := List.mem_map.1 hmem
    have hfs := fnd_of_mem hT.nd hsT
    have hev := hT.evs s hsT
    have heo := hT.eo s hsT
    have hks := hT.ks s hsT
    have hky := hT.key s hsT
    have hkd := hT.kd s hsT
    have hnm := hT.nm s hsT
    obtain ⟨_, A, B, hAB, _⟩ := fnd_split hfs
    have hr : ∀ i, i = xs.length → Reads (nmsC (some ⟨nb, 0, none⟩) nc F) ⟨nb, 0 + i, none⟩ (.string s.nm) := fun i e => by
      subst e; rw [Nat.zero_add, hsn]; exact reads_own (by simp [hj'])
    cases mp with
    | none =>
      refine g_get (A := mapO none (smap T)) (p := T = []) (by (repeat (first | exact Sel.here | apply Sel.there)); first | done | fail) (fun hp h => by have h' : smap T = [] := h; simpa [smap] using h') (fun hT0 => ?_)
      rw [hT0] at hsT; cases hsT
    | some m =>
      repeat (first
        | (refine g_ops ?_; first | refine s_q ?_ | refine s_v ?_ | refine s_s ?_ | refine s_n (fun _ => ?_) | refine s_x ?_ | refine s_y ?_ | refine s_mq ?_ | refine s_appB (fun _ _ => ?_) | refine s_app (fun _ _ => ?_) | refine s_mv ?_ | refine s_ms ?_ | refine s_b0 (fun _ => ?_) | ((fail_if_success refine g_lit rfl rfl rfl ?_); first | apply g_partM rfl rfl rfl | apply g_partMB rfl rfl rfl | fail))
        | refine g_seq ?_ | refine g_region ?_ | refine g_nil ?_ | refine g_then_normal ?_ | refine g_block ?_ | refine g_in_normal ?_ | refine g_retc ?_
        | refine g_then_ret ?_ | refine g_in_ret ?_ | refine g_exit ?_ | refine g_then_exit ?_ | refine g_in_exit ?_ | refine g_in_other rfl ?_ | refine g_skip ?_
        | refine g_label ?_ | refine g_cond_true rfl ?_ | refine g_cond_false rfl ?_ | exact s_m | intro _)
      refine g_v (vs_lookup (κ := ByteArray) (k := s.nm) inferInstance inferInstance inferInstance kindS rfl rfl (by (repeat (first | exact Sel.here | apply Sel.there)); first | done | fail)) rfl rfl ?_
      refine g_as 24 (v' := ptr s.f) rfl (by rw [mget_smap, hfs]; rfl) ?_
      refine g_bgOutE A B s hAB (by (repeat (first | exact Sel.here | apply Sel.there)); first | done | fail) ?_
      obtain ⟨f, nm, q, c, evs, mb, ks⟩ := s
      dsimp only [Sm.L, List.cons_append, List.nil_append] at hev heo hks hky hkd hnm ⊢
      refine g_own (p := q) (len := evs.length) (cap := c) (n := 7) (xs := evs.flatMap Ev.cells) (e := 68) (by (repeat (first | exact Sel.here | apply Sel.there)); first | done | fail) (fun hql hlc hqe => ?_)
      have hSe := slAt_own (c := c) (e := 68) hql (ev_one evs) hqe
      repeat (first
        | (refine g_ops ?_; first | refine s_q ?_ | refine s_v ?_ | refine s_s ?_ | refine s_n (fun _ => ?_) | refine s_x ?_ | refine s_y ?_ | refine s_mq ?_ | refine s_appB (fun _ _ => ?_) | refine s_app (fun _ _ => ?_) | refine s_mv ?_ | refine s_ms ?_ | refine s_b0 (fun _ => ?_) | ((fail_if_success refine g_lit rfl rfl rfl ?_); first | apply g_partM rfl rfl rfl | apply g_partMB rfl rfl rfl | fail) | refine s_c (cloneE hSe hev) (fun _ _ => ?_) | refine s_c (keysFB (some mb)) (fun _ _ => ?_))
        | refine g_seq ?_ | refine g_region ?_ | refine g_nil ?_ | refine g_then_normal ?_ | refine g_block ?_ | refine g_in_normal ?_ | refine g_retc ?_
        | refine g_then_ret ?_ | refine g_in_ret ?_ | refine g_exit ?_ | refine g_then_exit ?_ | refine g_in_exit ?_ | refine g_in_other rfl ?_ | refine g_skip ?_
        | refine g_label ?_ | refine g_cond_true rfl ?_ | refine g_cond_false rfl ?_ | exact s_m | intro _)
      rename_i qe _ b8 bk _
      obtain ⟨qp, qc⟩ := qe
      repeat (first
        | (refine g_ops ?_; first | refine s_q ?_ | refine s_v ?_ | refine s_s ?_ | refine s_n (fun _ => ?_) | refine s_x ?_ | refine s_y ?_ | refine s_mq ?_ | refine s_appB (fun _ _ => ?_) | refine s_app (fun _ _ => ?_) | refine s_mv ?_ | refine s_ms ?_ | refine s_b0 (fun _ => ?_) | ((fail_if_success refine g_lit rfl rfl rfl ?_); first | apply g_partM rfl rfl rfl | apply g_partMB rfl rfl rfl | fail) | refine s_c (does_sortedS (T := 76) (m := mb) (M := kmap ks) (Bm := bk) (P := Tryz.prog) (f := 40) (g := fKB) Tryz.underlying9 (by simpa using hks) (by simpa [maxLen] using hky) (sortedB bk)) (fun _ _ => ?_))
        | refine g_seq ?_ | refine g_region ?_ | refine g_nil ?_ | refine g_then_normal ?_ | refine g_block ?_ | refine g_in_normal ?_ | refine g_retc ?_
        | refine g_then_ret ?_ | refine g_in_ret ?_ | refine g_exit ?_ | refine g_then_exit ?_ | refine g_in_exit ?_ | refine g_in_other rfl ?_ | refine g_skip ?_
        | refine g_label ?_ | refine g_cond_true rfl ?_ | refine g_cond_false rfl ?_ | exact s_m | intro _)
      rename_i yk hyk
      obtain ⟨kp, kc, zs⟩ := yk
      dsimp only at hyk ⊢
      refine g_own_nil none 5 53 ?_
      refine g_own (p := kp) (len := zs.length) (cap := kc) (n := 1) (xs := zs.map .string) (e := 9) (by (repeat (first | exact Sel.here | apply Sel.there)); first | done | fail) (fun _ _ hkp => ?_)
      refine g_loop (X := KyX) (fun x => [(7, ptr f), (8, ptr b8), (37, .slice kp zs.length kc), (38, int zs.length), (39, int x.j), (0, ptr t), (4, .slice op xs.length oc), (13, .slice (some ⟨nb, 0, none⟩) F.length nc), (14, int F.length), (15, int xs.length)])
        (fun x => [.row b8 [.string nm, .slice qp evs.length qc, .slice x.p x.j x.c] 60, .own x.p x.j x.c 5 (((zs.take x.j).map (kOf ks)).flatMap Kn.cells) 53, nmsC kp kc zs, .row f [.slice q evs.length c, .map (some mb)] 78, .map mb (kmap ks),
          .own qp evs.length qc 7 (evs.flatMap Ev.cells) 68, .own q evs.length c 7 (evs.flatMap Ev.cells) 68, Bg Sm.L (A ++ B), .own op xs.length oc 3 (xs.flatMap StrV.cells) 60, nmsC (some ⟨nb, 0, none⟩) nc F, trow t (some m), .asn (mapO (some m) (smap T)), Pile H1])
        (fun x => x.j ≤ zs.length) (fun x => zs.length - x.j) ⟨0, none, 0⟩ (Nat.zero_le _) (by (repeat (first | exact FrSub.nil | refine FrSub.cons rfl ?_)); first | done | fail) (by (repeat (first | exact Take.nil | apply Take.cons | exact Sel.here | apply Sel.there)); first | done | fail) (fun x hx => ?_)
      obtain ⟨i, xp, xc⟩ := x
      dsimp only at hx ⊢
      repeat (first
        | (refine g_ops ?_; first | refine s_q ?_ | refine s_v ?_ | refine s_s ?_ | refine s_n (fun _ => ?_) | refine s_x ?_ | refine s_y ?_ | refine s_mq ?_ | refine s_appB (fun _ _ => ?_) | refine s_app (fun _ _ => ?_) | refine s_mv ?_ | refine s_ms ?_ | refine s_b0 (fun _ => ?_) | ((fail_if_success refine g_lit rfl rfl rfl ?_); first | apply g_partM rfl rfl rfl | apply g_partMB rfl rfl rfl | fail))
        | refine g_seq ?_ | refine g_region ?_ | refine g_nil ?_ | refine g_then_normal ?_ | refine g_block ?_ | refine g_in_normal ?_ | refine g_retc ?_
        | refine g_then_ret ?_ | refine g_in_ret ?_ | refine g_exit ?_ | refine g_then_exit ?_ | refine g_in_exit ?_ | refine g_in_other rfl ?_ | refine g_skip ?_
        | refine g_label ?_ | refine g_cond_true rfl ?_ | refine g_cond_false rfl ?_ | exact s_m | intro _)
      refine g_cond_dec rfl (fun h2 => ?_) (fun h2 => ?_)
      · have hi : i < zs.length := by omega
        obtain ⟨kb, rfl⟩ := hkp (by omega)
        have hr : ∀ k, k = i → Reads (nmsC (some ⟨kb, 0, none⟩) kc zs) ⟨kb, 0 + k, none⟩ (.string zs[i]) := fun k e => by
          subst e; rw [Nat.zero_add]; exact reads_own (by simp [hi])
        have htk : (zs.take (i + 1)).map (kOf ks) = (zs.take i).map (kOf ks) ++ [kOf ks zs[i]] := by
          rw [List.take_succ_eq_append_getElem hi, List.map_append]; rfl
        repeat (first
          | (refine g_ops ?_; first | refine s_q ?_ | refine s_v ?_ | refine s_s ?_ | refine s_n (fun _ => ?_) | refine s_x ?_ | refine s_y ?_ | refine s_mq ?_ | refine s_appB (fun _ _ => ?_) | refine s_app (fun _ _ => ?_) | refine s_mv ?_ | refine s_ms ?_ | refine s_b0 (fun _ => ?_) | ((fail_if_success refine g_lit rfl rfl rfl ?_); first | apply g_partM rfl rfl rfl | apply g_partMB rfl rfl rfl | fail))
          | refine g_seq ?_ | refine g_region ?_ | refine g_nil ?_ | refine g_then_normal ?_ | refine g_block ?_ | refine g_in_normal ?_ | refine g_retc ?_
          | refine g_then_ret ?_ | refine g_in_ret ?_ | refine g_exit ?_ | refine g_then_exit ?_ | refine g_in_exit ?_ | refine g_in_other rfl ?_ | refine g_skip ?_
          | refine g_label ?_ | refine g_cond_true rfl ?_ | refine g_cond_false rfl ?_ | exact s_m | intro _)
        have hzl : zs.length ≤ 1000000000 := by have := hyk.1.length_eq; simp at this; omega
        refine g_draw (.take 0 (.see 1 [9,10,11] (.take 2 (.take 3 (.take 4 (.see 5 [7,8,9,10,11] (.take 6 (.one 7 (.one 8 (.thaw 9 (.take 10 (.one 11 .done)))))))))))) (by kernel_rfl) (C := [.row b8 [.string nm, .slice qp evs.length qc, .slice xp i xc] 60, .row f [.slice q evs.length c, .map (some mb)] 78]) (by (repeat (first | exact Take.nil | apply Take.cons | exact Sel.here | apply Sel.there)); first | done | fail) (fun k hd hk => ?_)
        repeat (first
          | (refine gp_take ?_; first | refine p_q ?_ | refine p_x ?_ | refine p_mq ?_ | ((fail_if_success refine gp_lit rfl rfl rfl rfl ?_); first | apply gp_guard_dec rfl rfl rfl rfl | apply gp_guard rfl rfl rfl rfl | fail))
          | (refine gp_see ?_; first | refine p_f ?_ | refine p_sx ?_ | ((fail_if_success refine gp_lit rfl rfl rfl rfl ?_); first | apply gp_guard_dec rfl rfl rfl rfl | apply gp_guard rfl rfl rfl rfl | fail) | refine p_sq ?_)
          | (refine gp_one ?_; first | refine p_v ?_ | refine p_s ?_ | refine p_n (fun _ => ?_) | refine p_y ?_ | refine p_appB (fun _ _ => ?_) | refine p_app (fun _ _ => ?_) | refine p_mv ?_ | refine p_ms ?_ | refine p_b0 (fun _ => ?_) | ((fail_if_success refine gp_lit rfl rfl rfl rfl ?_); first | apply gp_guard_dec rfl rfl rfl rfl | apply gp_guard rfl rfl rfl rfl | fail))
          | refine gp_two ?_ ?_ | refine gp_done hd hk ?_ | intro _ | refine p_ta hd hk (fun _ _ _ hd hk => ?_) | refine p_ts hd hk (fun _ hd hk => ?_))
        refine gp_one ?_
        refine gp_v (vs_lookup (κ := ByteArray) (k := zs[i]) inferInstance inferInstance inferInstance kindS rfl rfl (by (repeat (first | exact Sel.here | apply Sel.there)); first | done | fail)) rfl rfl rfl ?_
        refine gp_as 50 (v' := (kOf ks zs[i]).v) rfl (by rw [mget_kmap]; unfold kOf; cases fkn ks zs[i] <;> rfl) ?_
        generalize kOf ks zs[i] = kn at htk
        repeat (first
          | (refine gp_take ?_; first | refine p_q ?_ | refine p_x ?_ | refine p_mq ?_ | ((fail_if_success refine gp_lit rfl rfl rfl rfl ?_); first | apply gp_guard_dec rfl rfl rfl rfl | apply gp_guard rfl rfl rfl rfl | fail))
          | (refine gp_see ?_; first | refine p_f ?_ | refine p_sx ?_ | ((fail_if_success refine gp_lit rfl rfl rfl rfl ?_); first | apply gp_guard_dec rfl rfl rfl rfl | apply gp_guard rfl rfl rfl rfl | fail) | refine p_sq ?_)
          | (refine gp_one ?_; first | refine p_v ?_ | refine p_s ?_ | refine p_n (fun _ => ?_) | refine p_y ?_ | refine p_appB (fun _ _ => ?_) | refine p_app (fun _ _ => ?_) | refine p_mv ?_ | refine p_ms ?_ | refine p_b0 (fun _ => ?_) | ((fail_if_success refine gp_lit rfl rfl rfl rfl ?_); first | apply gp_guard_dec rfl rfl rfl rfl | apply gp_guard rfl rfl rfl rfl | fail))
          | refine gp_two ?_ ?_ | refine gp_done hd hk ?_ | intro _ | refine p_ta hd hk (fun _ _ _ hd hk => ?_) | refine p_ts hd hk (fun _ hd hk => ?_))
        rename_i q2 c2 _
        rw [show ((zs.take i).map (kOf ks)).flatMap Kn.cells ++ [.string kn.key, int kn.first, int kn.s.w, int kn.s.l, int kn.s.n] = ((zs.take (i + 1)).map (kOf ks)).flatMap Kn.cells by rw [htk]; simp]
        repeat (first
          | (refine g_ops ?_; first | refine s_q ?_ | refine s_v ?_ | refine s_s ?_ | refine s_n (fun _ => ?_) | refine s_x ?_ | refine s_y ?_ | refine s_mq ?_ | refine s_appB (fun _ _ => ?_) | refine s_app (fun _ _ => ?_) | refine s_mv ?_ | refine s_ms ?_ | refine s_b0 (fun _ => ?_) | ((fail_if_success refine g_lit rfl rfl rfl ?_); first | apply g_partM rfl rfl rfl | apply g_partMB rfl rfl rfl | fail))
          | refine g_seq ?_ | refine g_region ?_ | refine g_nil ?_ | refine g_then_normal ?_ | refine g_block ?_ | refine g_in_normal ?_ | refine g_retc ?_
          | refine g_then_ret ?_ | refine g_in_ret ?_ | refine g_exit ?_ | refine g_then_exit ?_ | refine g_in_exit ?_ | refine g_in_other rfl ?_ | refine g_skip ?_
          | refine g_label ?_ | refine g_cond_true rfl ?_ | refine g_cond_false rfl ?_ | exact s_m | intro _)
        refine g_as 39 (v' := int ((i + 1 : Nat) : Int)) rfl (congrArg (Value.int .i64) (by push_cast; rfl)) ?_
        exact g_again ⟨i + 1, q2, c2⟩ (by simp only; omega) hi (by (repeat (first | exact FrSub.nil | refine FrSub.cons rfl ?_)); first | done | fail) (by (repeat (first | exact Take.nil | apply Take.cons | exact Sel.here | apply Sel.there)); first | done | fail)
      · obtain rfl : i = zs.length := by omega
        rw [List.take_length]
        repeat (first
          | (refine g_ops ?_; first | refine s_q ?_ | refine s_v ?_ | refine s_s ?_ | refine s_n (fun _ => ?_) | refine s_x ?_ | refine s_y ?_ | refine s_mq ?_ | refine s_appB (fun _ _ => ?_) | refine s_app (fun _ _ => ?_) | refine s_mv ?_ | refine s_ms ?_ | refine s_b0 (fun _ => ?_) | ((fail_if_success refine g_lit rfl rfl rfl ?_); first | apply g_partM rfl rfl rfl | apply g_partMB rfl rfl rfl | fail))
          | refine g_seq ?_ | refine g_region ?_ | refine g_nil ?_ | refine g_then_normal ?_ | refine g_block ?_ | refine g_in_normal ?_ | refine g_retc ?_
          | refine g_then_ret ?_ | refine g_in_ret ?_ | refine g_exit ?_ | refine g_then_exit ?_ | refine g_in_exit ?_ | refine g_in_other rfl ?_ | refine g_skip ?_
          | refine g_label ?_ | refine g_cond_true rfl ?_ | refine g_cond_false rfl ?_ | exact s_m | intro _)
        rename_i op2 oc2
        have hkm : (kmap ks).map (·.1) = ks.map Kn.key := by simp [kmap, Function.comp_def]
        have hz1 : zs.Perm (ks.map Kn.key) := by have := hyk.1; rwa [hkm] at this
        obtain ⟨hk1, hk2⟩ := kOf_map hkd hz1
        have hkl : (zs.map (kOf ks)).length = zs.length := by simp
        have hkey2 : ∀ k ∈ zs.map (kOf ks), k.key.size ≤ 9223372036854775807 := fun k hk => hky k (hk1.mem_iff.1 hk)
        have hzl : zs.length ≤ 1000000000 := by have := hz1.length_eq; simp at this; omega
        generalize hK : zs.map (kOf ks) = K at hk1 hk2 hkl hkey2 ⊢
        rw [← hkl]
        refine g_pile (p := qp) (m := evs.length) (c := qc) (n := 7) (xs := evs.flatMap Ev.cells) (e := 68) (by (repeat (first | exact Sel.here | apply Sel.there)); first | done | fail) (by (repeat (first | exact Sel.here | apply Sel.there)); first | done | fail) (fun H2 hs2 hA2 => ?_)
        refine g_pile (p := xp) (m := K.length) (c := xc) (n := 5) (xs := K.flatMap Kn.cells) (e := 53) (by (repeat (first | exact Sel.here | apply Sel.there)); first | done | fail) (by (repeat (first | exact Sel.here | apply Sel.there)); first | done | fail) (fun H3 hs3 hA3 => ?_)
        refine g_bgInE (F := Sm.L) A B ⟨f, nm, q, c, evs, mb, ks⟩ hAB (by (repeat (first | exact Take.nil | apply Take.cons | exact Sel.here | apply Sel.there)); first | done | fail) ?_
        rw [show xs.flatMap StrV.cells ++ [.string nm, .slice qp evs.length qc, .slice xp K.length xc] = (xs ++ [(⟨nm, qp, qc, evs, xp, xc, K⟩ : StrV)]).flatMap StrV.cells by simp, show xs.length + 1 = (xs ++ [(⟨nm, qp, qc, evs, xp, xc, K⟩ : StrV)]).length by simp]
        repeat (first
          | (refine g_ops ?_; first | refine s_q ?_ | refine s_v ?_ | refine s_s ?_ | refine s_n (fun _ => ?_) | refine s_x ?_ | refine s_y ?_ | refine s_mq ?_ | refine s_appB (fun _ _ => ?_) | refine s_app (fun _ _ => ?_) | refine s_mv ?_ | refine s_ms ?_ | refine s_b0 (fun _ => ?_) | ((fail_if_success refine g_lit rfl rfl rfl ?_); first | apply g_partM rfl rfl rfl | apply g_partMB rfl rfl rfl | fail))
          | refine g_seq ?_ | refine g_region ?_ | refine g_nil ?_ | refine g_then_normal ?_ | refine g_block ?_ | refine g_in_normal ?_ | refine g_retc ?_
          | refine g_then_ret ?_ | refine g_in_ret ?_ | refine g_exit ?_ | refine g_then_exit ?_ | refine g_in_exit ?_ | refine g_in_other rfl ?_ | refine g_skip ?_
          | refine g_label ?_ | refine g_cond_true rfl ?_ | refine g_cond_false rfl ?_ | exact s_m | intro _)
        refine g_as 15 (v' := int (((xs ++ [(⟨nm, qp, qc, evs, xp, xc, K⟩ : StrV)]).length : Nat) : Int)) rfl (congrArg (Value.int .i64) (by simp)) ?_
        exact g_again ⟨op2, oc2, xs ++ [(⟨nm, qp, qc, evs, xp, xc, K⟩ : StrV)], H3⟩ (by simp; omega) ⟨hs1.trans (hs2.trans hs3), fun y hy => by
          rcases List.mem_append.1 hy with hy | hy
          · exact (hs2' y hy).grow (hs2.trans hs3)
          · obtain rfl := List.mem_singleton.1 hy
            exact ⟨hA2.grow hs3, hA3, by simp only; omega, by simp only; omega, hnm, heo, hkey2⟩, fun y hy => by
          rcases List.mem_append.1 hy with hy | hy
          · exact hs3' y hy
          · obtain rfl := List.mem_singleton.1 hy
            exact ⟨_, hsT, rfl, rfl, hk1, by rw [hk2]; exact hyk.2⟩, by
          simp only [List.map_append, hs4, List.map_cons, List.map_nil, List.length_append, List.length_cons, List.length_nil]
          rw [List.take_succ_eq_append_getElem hj', ← hsn], by simp; omega⟩ (by (repeat (first | exact FrSub.nil | refine FrSub.cons rfl ?_)); first | done | fail) (by (repeat (first | exact Take.nil | apply Take.cons | exact Sel.here | apply Sel.there)); first | done | fail)
  · repeat (first
      | (refine g_ops ?_; first | refine s_q ?_ | refine s_v ?_ | refine s_s ?_ | refine s_n (fun _ => ?_) | refine s_x ?_ | refine s_y ?_ | refine s_mq ?_ | refine s_appB (fun _ _ => ?_) | refine s_app (fun _ _ => ?_) | refine s_mv ?_ | refine s_ms ?_ | refine s_b0 (fun _ => ?_) | ((fail_if_success refine g_lit rfl rfl rfl ?_); first | apply g_partM rfl rfl rfl | apply g_partMB rfl rfl rfl | fail))
      | refine g_seq ?_ | refine g_region ?_ | refine g_nil ?_ | refine g_then_normal ?_ | refine g_block ?_ | refine g_in_normal ?_ | refine g_retc ?_
      | refine g_then_ret ?_ | refine g_in_ret ?_ | refine g_exit ?_ | refine g_then_exit ?_ | refine g_in_exit ?_ | refine g_in_other rfl ?_ | refine g_skip ?_
      | refine g_label ?_ | refine g_cond_true rfl ?_ | refine g_cond_false rfl ?_ | exact s_m | intro _)
    have e : xs.length = F.length := by omega
    refine g_ret (⟨op, oc, xs, H1⟩ : TkX) rfl (by (repeat (first | exact RVs.nil | apply RVs.tmp rfl | apply RVs.cellA rfl (by (repeat (first | exact Sel.here | apply Sel.there)); first | done | fail) (by (repeat (first | exact Cut.zero | apply Cut.take | apply Cut.skip)); first | done | fail) | apply RVs.cell1 rfl (by (repeat (first | exact Sel.here | apply Sel.there)); first | done | fail) rfl)); first | done | fail) (by (repeat (first | exact Take.nil | apply Take.cons | exact Sel.here | apply Sel.there)); first | done | fail) rfl ⟨hs1, hs2', hs3', ys, hy.1, hy.2, by rw [hF, hs4]; rw [List.take_of_length_le (by omega)]⟩
end Go.Proofs.YtcgmliaahdpmcaaGreatDoor
namespace Go.Proofs.YtcgmliaahdpmcaaGreatDoor
open Go.Sl
theorem cut_out {A B : List Sm} {s : Sm} (hn : ((A ++ s :: B).map Sm.nm).Nodup) : mdel (smap (A ++ s :: B)) s.nm = smap (A ++ B) ∧ (A ++ s :: B).filter (fun x => decide (s.nm ≠ x.nm)) = A ++ B := by
  have h1 : ∀ x ∈ A, s.nm ≠ x.nm := fun x hx e => by
    rw [List.map_append, List.map_cons, List.nodup_append] at hn
    exact hn.2.2 x.nm (List.mem_map.2 ⟨x, hx, rfl⟩) s.nm (List.mem_cons_self ..) e.symm
  have h2 : ∀ x ∈ B, s.nm ≠ x.nm := fun x hx e => by
    rw [List.map_append, List.map_cons, List.nodup_append, List.nodup_cons] at hn
    exact hn.2.1.1 (List.mem_map.2 ⟨x, hx, e.symm⟩)
  constructor
  · clear hn h2
    induction A with
    | nil => simp [smap, mdel]
    | cons a A ih =>
      have := h1 a (List.mem_cons_self ..)
      simp only [List.cons_append, smap, List.map_cons, mdel, if_neg this]
      congr 1
      exact ih fun x hx => h1 x (List.mem_cons_of_mem _ hx)
  · rw [List.filter_append, List.filter_cons, if_neg (by simp), List.filter_eq_self.2 (fun x hx => by simpa using h1 x hx), List.filter_eq_self.2 (fun x hx => by simpa using h2 x hx)]
def leftOf (T : List Sm) (F : List ByteArray) : List Sm := T.filter fun s => F.all fun y => decide (y ≠ s.nm)
theorem left_nil (T : List Sm) : leftOf T [] = T := by simp [leftOf]
theorem left_snoc (T : List Sm) (F : List ByteArray) (y : ByteArray) : leftOf T (F ++ [y]) = (leftOf T F).filter fun s => decide (y ≠ s.nm) := by
  unfold leftOf
  rw [List.filter_filter]
  congr 1
  funext s
  simp [Bool.and_comm]
theorem left_has {T : List Sm} {F ys : List ByteArray} {r : Rg} (hp : ys.Perm (T.map Sm.nm)) (hF : ys.filter r.has = F) : leftOf T F = T.filter (fun s => !r.has s.nm) ∧ F.length = (T.filter fun s => r.has s.nm).length := by
  constructor
  · unfold leftOf
    refine List.filter_congr fun s hs => ?_
    have hm : s.nm ∈ ys := hp.mem_iff.2 (List.mem_map.2 ⟨s, hs, rfl⟩)
    rw [Bool.eq_iff_iff, List.all_eq_true]
    simp only [decide_eq_true_eq]
    constructor
    · intro h
      cases hh : r.has s.nm with
      | false => rfl
      | true => exact absurd rfl (h s.nm (by rw [← hF, List.mem_filter]; exact ⟨hm, hh⟩))
    · intro h y hy e
      rw [← hF, List.mem_filter] at hy
      rw [e] at hy
      simp [hy.2] at h
  · rw [← hF, (hp.filter _).length_eq, List.filter_map, List.length_map]
    rfl
theorem leftOf_sub {T : List Sm} {F : List ByteArray} : (leftOf T F).Sublist T := List.filter_sublist
end Go.Proofs.YtcgmliaahdpmcaaGreatDoor
namespace Go.Proofs.YtcgmliaahdpmcaaGreatDoor
open Go.Sl facts
attribute [local irreducible] Code.wp wpList Exit.then Exit.inBlock bodyPost Back MidQ G GP QStep VStep CStep SStep Does Post Reads
set_option maxHeartbeats 2000000 in
theorem drop (t : Nat) (mp : Option Nat) (T : List Sm) (r : Rg) (hT : TBig T) :
    Does Tryz.prog 12 [ptr t, r.v] (tabL t mp T) (X := Unit) (fun _ => int ((T.filter fun s => r.has s.nm).length : Nat)) (fun _ => tabL t mp (T.filter fun s => !r.has s.nm)) (fun _ => True) := by
  refine fn_intro Tryz.func12 rfl Tryz.ntmps12 rfl (by simp only [argFr, Nat.zero_add, Nat.reduceAdd]; rfl) (fun Γ => ?_)
  repeat (first
    | (refine g_ops ?_; first | refine s_q ?_ | refine s_v ?_ | refine s_s ?_ | refine s_n (fun _ => ?_) | refine s_x ?_ | refine s_y ?_ | refine s_mq ?_ | refine s_appB (fun _ _ => ?_) | refine s_appB (fun _ _ => ?_) | refine s_app (fun _ _ => ?_) | refine s_mv ?_ | refine s_ms ?_ | refine s_b0 (fun _ => ?_) | ((fail_if_success refine g_lit rfl rfl rfl ?_); first | apply g_partM rfl rfl rfl | apply g_partMB rfl rfl rfl | fail) | refine s_c (someT t mp T r hT.len hT.nm) (fun _ _ => ?_))
    | refine g_seq ?_ | refine g_region ?_ | refine g_nil ?_ | refine g_then_normal ?_ | refine g_block ?_ | refine g_in_normal ?_ | refine g_retc ?_ | refine g_then_ret ?_
    | refine g_in_ret ?_ | refine g_exit ?_ | refine g_then_exit ?_ | refine g_in_exit ?_ | refine g_in_other rfl ?_ | refine g_skip ?_ | refine g_label ?_
    | refine g_cond_true rfl ?_ | refine g_cond_false rfl ?_ | exact s_m | intro _)
  rename_i rb y hy
  obtain ⟨np, nc, ys⟩ := y
  dsimp only at hy ⊢
  generalize hF : ys.filter r.has = F
  obtain ⟨hl1, hl2⟩ := left_has hy.1 hF
  have hFl : F.length ≤ 1000000000 := by
    have h1 := List.length_filter_le (fun s => r.has s.nm) T
    have h3 := hT.len
    omega
  have hnd : F.Nodup := by rw [← hF]; exact (hy.1.nodup_iff.2 hT.nd).filter _
  refine g_own (p := np) (len := F.length) (cap := nc) (n := 1) (xs := F.map .string) (e := 9) (by (repeat (first | exact Sel.here | apply Sel.there)); first | done | fail) (fun _ _ hq => ?_)
  repeat (first
    | (refine g_ops ?_; first | refine s_q ?_ | refine s_v ?_ | refine s_s ?_ | refine s_n (fun _ => ?_) | refine s_x ?_ | refine s_y ?_ | refine s_mq ?_ | refine s_appB (fun _ _ => ?_) | refine s_appB (fun _ _ => ?_) | refine s_app (fun _ _ => ?_) | refine s_mv ?_ | refine s_ms ?_ | refine s_b0 (fun _ => ?_) | ((fail_if_success refine g_lit rfl rfl rfl ?_); first | apply g_partM rfl rfl rfl | apply g_partMB rfl rfl rfl | fail))
    | refine g_seq ?_ | refine g_region ?_ | refine g_nil ?_ | refine g_then_normal ?_ | refine g_block ?_ | refine g_in_normal ?_ | refine g_retc ?_ | refine g_then_ret ?_
    | refine g_in_ret ?_ | refine g_exit ?_ | refine g_then_exit ?_ | refine g_in_exit ?_ | refine g_in_other rfl ?_ | refine g_skip ?_ | refine g_label ?_
    | refine g_cond_true rfl ?_ | refine g_cond_false rfl ?_ | exact s_m | intro _)
  refine g_loop (X := Nat × List Sm) (fun x => [(0, ptr t), (5, .slice np F.length nc), (11, .slice np F.length nc), (12, int F.length), (13, int x.1)]) (fun x => nmsC np nc F :: tabL t mp x.2) (fun x => x.1 ≤ F.length ∧ x.2 = leftOf T (F.take x.1)) (fun x => F.length - x.1) ⟨0, T⟩ ⟨Nat.zero_le _, (left_nil T).symm⟩ (by (repeat (first | exact FrSub.nil | refine FrSub.cons rfl ?_)); first | done | fail) (by (repeat (first | exact Take.nil | apply Take.cons | exact Sel.here | apply Sel.there)); first | done | fail) (fun x hx => ?_)
  obtain ⟨i, T1⟩ := x
  obtain ⟨hi, hx⟩ := hx
  dsimp only at hi hx ⊢
  subst hx
  repeat (first
    | (refine g_ops ?_; first | refine s_q ?_ | refine s_v ?_ | refine s_s ?_ | refine s_n (fun _ => ?_) | refine s_x ?_ | refine s_y ?_ | refine s_mq ?_ | refine s_appB (fun _ _ => ?_) | refine s_appB (fun _ _ => ?_) | refine s_app (fun _ _ => ?_) | refine s_mv ?_ | refine s_ms ?_ | refine s_b0 (fun _ => ?_) | ((fail_if_success refine g_lit rfl rfl rfl ?_); first | apply g_partM rfl rfl rfl | apply g_partMB rfl rfl rfl | fail))
    | refine g_seq ?_ | refine g_region ?_ | refine g_nil ?_ | refine g_then_normal ?_ | refine g_block ?_ | refine g_in_normal ?_ | refine g_retc ?_ | refine g_then_ret ?_
    | refine g_in_ret ?_ | refine g_exit ?_ | refine g_then_exit ?_ | refine g_in_exit ?_ | refine g_in_other rfl ?_ | refine g_skip ?_ | refine g_label ?_
    | refine g_cond_true rfl ?_ | refine g_cond_false rfl ?_ | exact s_m | intro _)
  refine g_cond_dec rfl (fun h => ?_) (fun h => ?_)
  · have hi' : i < F.length := by omega
    obtain ⟨nb, rfl⟩ := hq (by omega)
    have hmem : F[i] ∈ T.map Sm.nm := by
      have h1 : F[i] ∈ ys.filter r.has := by rw [hF]; exact List.getElem_mem _
      exact hy.1.mem_iff.1 (List.mem_filter.1 h1).1
    obtain ⟨s, hsT, hsn⟩ := List.mem_map.1 hmem
    have hsL : s ∈ leftOf T (F.take i) := by
      rw [leftOf, List.mem_filter, List.all_eq_true]
      refine ⟨hsT, fun y hy => ?_⟩
      obtain ⟨k, hk, e⟩ := List.mem_iff_getElem.1 hy
      simp only [List.length_take] at hk
      rw [List.getElem_take] at e
      rw [decide_eq_true_eq, hsn, ← e]
      intro e2
      exact List.pairwise_iff_getElem.1 hnd k i (by omega) hi' (by omega) e2
    have hst := left_snoc T (F.take i) F[i]
    rw [show F.take i ++ [F[i]] = F.take (i + 1) by rw [List.take_succ_eq_append_getElem hi']] at hst
    have hnd2 : ((leftOf T (F.take i)).map Sm.nm).Nodup := hT.nd.sublist (leftOf_sub.map Sm.nm)
    have hr : ∀ k, k = i → Reads (nmsC (some ⟨nb, 0, none⟩) nc F) ⟨nb, 0 + k, none⟩ (.string s.nm) := fun k e => by
      subst e; rw [Nat.zero_add, hsn]; exact reads_own (by simp [hi'])
    rw [← hsn] at hst
    generalize leftOf T (F.take i) = T1 at hsL hst hnd2 ⊢
    obtain ⟨A, B, rfl⟩ := List.append_of_mem hsL
    obtain ⟨c1, c2⟩ := cut_out hnd2
    rw [c2] at hst
    cases mp with
    | none =>
      refine g_get (A := mapO none (smap (A ++ s :: B))) (p := A ++ s :: B = []) (by (repeat (first | exact Sel.here | apply Sel.there)); first | done | fail) (fun hp h => by have h' : smap (A ++ s :: B) = [] := h; simp [smap] at h') (fun hT0 => ?_)
      simp at hT0
    | some m =>
      repeat (first
        | (refine g_ops ?_; first | refine s_q ?_ | refine s_v ?_ | refine s_s ?_ | refine s_n (fun _ => ?_) | refine s_x ?_ | refine s_y ?_ | refine s_mq ?_ | refine s_appB (fun _ _ => ?_) | refine s_appB (fun _ _ => ?_) | refine s_app (fun _ _ => ?_) | refine s_mv ?_ | refine s_ms ?_ | refine s_b0 (fun _ => ?_) | ((fail_if_success refine g_lit rfl rfl rfl ?_); first | apply g_partM rfl rfl rfl | apply g_partMB rfl rfl rfl | fail))
        | refine g_seq ?_ | refine g_region ?_ | refine g_nil ?_ | refine g_then_normal ?_ | refine g_block ?_ | refine g_in_normal ?_ | refine g_retc ?_
        | refine g_then_ret ?_ | refine g_in_ret ?_ | refine g_exit ?_ | refine g_then_exit ?_ | refine g_in_exit ?_ | refine g_in_other rfl ?_ | refine g_skip ?_
        | refine g_label ?_ | refine g_cond_true rfl ?_ | refine g_cond_false rfl ?_ | exact s_m | intro _)
      rw [c1]
      refine g_bgOut A B s (by (repeat (first | exact Sel.here | apply Sel.there)); first | done | fail) ?_
      rw [← hst]
      repeat (first
        | (refine g_ops ?_; first | refine s_q ?_ | refine s_v ?_ | refine s_s ?_ | refine s_n (fun _ => ?_) | refine s_x ?_ | refine s_y ?_ | refine s_mq ?_ | refine s_appB (fun _ _ => ?_) | refine s_appB (fun _ _ => ?_) | refine s_app (fun _ _ => ?_) | refine s_mv ?_ | refine s_ms ?_ | refine s_b0 (fun _ => ?_) | ((fail_if_success refine g_lit rfl rfl rfl ?_); first | apply g_partM rfl rfl rfl | apply g_partMB rfl rfl rfl | fail))
        | refine g_seq ?_ | refine g_region ?_ | refine g_nil ?_ | refine g_then_normal ?_ | refine g_block ?_ | refine g_in_normal ?_ | refine g_retc ?_
        | refine g_then_ret ?_ | refine g_in_ret ?_ | refine g_exit ?_ | refine g_then_exit ?_ | refine g_in_exit ?_ | refine g_in_other rfl ?_ | refine g_skip ?_
        | refine g_label ?_ | refine g_cond_true rfl ?_ | refine g_cond_false rfl ?_ | exact s_m | intro _)
      refine g_as 13 (v' := int ((i + 1 : Nat) : Int)) rfl (congrArg (Value.int .i64) (by push_cast; rfl)) ?_
      exact g_again ⟨i + 1, leftOf T (F.take (i + 1))⟩ (by simp only; omega) ⟨hi', rfl⟩ (by (repeat (first | exact FrSub.nil | refine FrSub.cons rfl ?_)); first | done | fail) (by (repeat (first | exact Take.nil | apply Take.cons | exact Sel.here | apply Sel.there)); first | done | fail)
  · obtain rfl : i = F.length := by omega
    rw [List.take_length, hl1]
    repeat (first
      | (refine g_ops ?_; first | refine s_q ?_ | refine s_v ?_ | refine s_s ?_ | refine s_n (fun _ => ?_) | refine s_x ?_ | refine s_y ?_ | refine s_mq ?_ | refine s_appB (fun _ _ => ?_) | refine s_appB (fun _ _ => ?_) | refine s_app (fun _ _ => ?_) | refine s_mv ?_ | refine s_ms ?_ | refine s_b0 (fun _ => ?_) | ((fail_if_success refine g_lit rfl rfl rfl ?_); first | apply g_partM rfl rfl rfl | apply g_partMB rfl rfl rfl | fail))
      | refine g_seq ?_ | refine g_region ?_ | refine g_nil ?_ | refine g_then_normal ?_ | refine g_block ?_ | refine g_in_normal ?_ | refine g_retc ?_
      | refine g_then_ret ?_ | refine g_in_ret ?_ | refine g_exit ?_ | refine g_then_exit ?_ | refine g_in_exit ?_ | refine g_in_other rfl ?_ | refine g_skip ?_
      | refine g_label ?_ | refine g_cond_true rfl ?_ | refine g_cond_false rfl ?_ | exact s_m | intro _)
    rw [hl2]
    exact g_ret () rfl (by (repeat (first | exact RVs.nil | apply RVs.tmp rfl | apply RVs.cellA rfl (by (repeat (first | exact Sel.here | apply Sel.there)); first | done | fail) (by (repeat (first | exact Cut.zero | apply Cut.take | apply Cut.skip)); first | done | fail) | apply RVs.cell1 rfl (by (repeat (first | exact Sel.here | apply Sel.there)); first | done | fail) rfl)); first | done | fail) (by (repeat (first | exact Take.nil | apply Take.cons | exact Sel.here | apply Sel.there)); first | done | fail) rfl trivial
end Go.Proofs.YtcgmliaahdpmcaaGreatDoor
