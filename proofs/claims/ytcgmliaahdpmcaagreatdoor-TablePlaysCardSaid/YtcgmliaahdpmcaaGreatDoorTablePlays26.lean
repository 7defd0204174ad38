/- Contracts and laws that the proof stands on. -/
import Derived.Test.YtcgmliaahdpmcaaGreatDoorTablePlays25
set_option linter.unusedSimpArgs false
set_option linter.unusedVariables false
namespace Go.Sl
variable {P : Program} {Γ : Ctx} {L R : List Chunk} {fr : Fr} {d : Nat} {ty : TypeId} {pos : String} {aft : Array Edge} {gd : Option (Nat × Bool)} {x y : Operand} {v : Value} {t : TypeId}
theorem ss_storeOwnA {b k len cap n m : Nat} {xs vs : List Value} {e : TypeId} (T : TSize P t m) (hx : ev fr x = some (.pointer (some ⟨b, k, none⟩))) (hy : ev fr y = some v) (hv : v.cells.toList = vs) (hm : vs.length = m) (h1 : vs.all (·.oneCell') = true) (s : Sel L (.own (some ⟨b, 0, none⟩) len cap n xs e) R) (hk : k + vs.length ≤ xs.length) (hk0 : 0 < xs.length) :
    SStep P Γ fr L ⟨none, .store t x y, ty, pos, aft, gd⟩ (.own (some ⟨b, 0, none⟩) len cap n (xs.take k ++ vs ++ xs.drop (k + vs.length)) e :: R) := fun a hf w hh => by
  obtain ⟨junk, ⟨hl, ho⟩, e3, e4, hrow⟩ := hh.ownRow s hk0
  have hst := ss_storeE (P := P) (Γ := Γ) (fr := fr) (t := t) (ty := ty) (pos := pos) (aft := aft) (gd := gd) (n := m) (vs := vs) (ys := (xs ++ junk).take k ++ vs ++ (xs ++ junk).drop (k + vs.length)) hx hy (.here (L := R)) hv hm h1 (Nat.zero_le _) ⟨by simp only [List.length_append]; omega, rfl⟩ a hf w hrow
  refine hst.mono fun u w' h => h.mono fun _ ⟨k1, k2, dj', t1, t2, hc', hr'⟩ => ⟨k1, k2, dj', t1, t2, ⟨⟨by rw [← hl]; simp; omega, ?_⟩, .inr ⟨b, junk, rfl, e3, e4, ?_⟩⟩, hr'⟩
  · rw [List.all_eq_true] at ho h1 ⊢
    intro z hz
    rcases List.mem_append.1 hz with hz | hz
    · rcases List.mem_append.1 hz with hz | hz
      · exact ho z (List.mem_of_mem_take hz)
      · exact h1 z hz
    · exact ho z (List.mem_of_mem_drop hz)
  · have hc'' : k1 b = some (.cells ((xs ++ junk).take k ++ vs ++ (xs ++ junk).drop (k + vs.length)).toArray e (0, 0)) := hc'
    rw [hc'', List.take_append_of_le_length (by omega), List.drop_append_of_le_length (by omega)]
    simp
theorem flat_putE {α : Type} {g : α → List Value} {n : Nat} (hg : ∀ a, (g a).length = n) (l : List α) (i : Nat) (a : α) (hi : i < l.length) (vs : List Value) (hvs : vs = g a) : (l.flatMap g).take (0 + i * n) ++ vs ++ (l.flatMap g).drop (0 + i * n + vs.length) = (l.set i a).flatMap g := by
  subst hvs
  have e1 : (l.flatMap g).take (0 + i * n) = (l.take i).flatMap g := by
    have := flat_part hg l 0 i
    simpa using this
  have e2 : (l.flatMap g).drop (0 + i * n + (g a).length) = (l.drop (i + 1)).flatMap g := by
    have h := flat_part hg l (i + 1) l.length
    rw [List.take_of_length_le (by rw [List.length_drop, flat_len hg]; omega), List.take_of_length_le (by simp)] at h
    rw [← h, hg, Nat.succ_mul, Nat.zero_add]
  rw [e1, e2, List.set_eq_take_append_cons_drop, if_pos hi]
  simp
end Go.Sl
namespace Go.Proofs.YtcgmliaahdpmcaaGreatDoor
open Go.Sl facts
structure PoX where
  i : Nat
  q : Option Addr
  c : Nat
  ds : List StrV
  ys : List StrV
  H : HP
structure ShX where
  t : Nat
  w : Kn
attribute [local irreducible] Code.wp wpList Exit.then Exit.inBlock bodyPost Back MidQ G GP QStep VStep CStep SStep Does Post Reads
section
variable {H : HP} (m : Nat) (q : Option Addr) (c : Nat) (ds : List StrV) (hM : MAt (Pile H) q ds) (hl : ds.length ≤ 10000000)
  (p : Option Addr) (cp : Nat) (xs : List StrV) (hS : SlAt (Pile H) 3 p xs.length (xs.flatMap StrV.cells)) (hA : ∀ y ∈ xs, StrAt (Pile H) y) (hm : ∀ y ∈ xs, StrSm y) (hsz : ∀ y ∈ xs, y.evs.length ≤ 40000 ∧ y.ks.length ≤ 40000) (hxl : xs.length ≤ 10000000)
include hM hl hS hA hm hsz hxl
set_option maxHeartbeats 4000000 in
theorem mput : Does Tryz.prog 11 [ptr m, .slice p xs.length cp] [mrow m q ds.length c, Pile H] (X := MaX) (fun _ => int (if putB xs then 0 else 1))
    (fun x => [mrow m x.q x.ds.length x.c, Pile x.H]) (fun x => HP.sub H x.H ∧ MAt (Pile x.H) x.q x.ds ∧ ((putB xs = true ∧ ∃ ys : List StrV, ys.map StrV.d = xs.map dSort ∧ x.ds = ys.foldl (putS false) ds) ∨ (putB xs = false ∧ x.ds = ds))) := by
  have hmp := mmayput p cp xs hS hA hm hsz (by omega)
  refine fn_intro Tryz.func11 rfl Tryz.ntmps11 rfl (by simp only [argFr, Nat.zero_add, Nat.reduceAdd]; rfl) (fun Γ => ?_)
  cases hpb : putB xs with
  | false =>
    rw [hpb, if_neg (by simp)] at hmp
    repeat (first
      | (refine g_ops ?_; first | refine sO ?_ | refine s_n (fun _ => ?_) | refine s_app (fun _ _ => ?_) | refine s_b0 (fun _ => ?_) | ((fail_if_success refine g_lit rfl rfl rfl ?_); first | apply g_partM rfl rfl rfl | apply g_partMB rfl rfl rfl | fail) | refine s_k (hmp) ?_)
      | refine gS ?_ | exact s_m | intro _)
    exact g_ret (⟨0, q, c, ds, H⟩ : MaX) rfl (by (repeat (first | exact RVs.nil | apply RVs.tmp rfl | apply RVs.cellA rfl (by (repeat (first | exact Sel.here | apply Sel.there)); first | done | fail) (by (repeat (first | exact Cut.zero | apply Cut.take | apply Cut.skip)); first | done | fail) | apply RVs.cell1 rfl (by (repeat (first | exact Sel.here | apply Sel.there)); first | done | fail) rfl)); first | done | fail) (by (repeat (first | exact Take.nil | apply Take.cons | exact Sel.here | apply Sel.there)); first | done | fail) (by simp [pack]) ⟨HP.sub.refl _, hM, .inr ⟨rfl, rfl⟩⟩
  | true =>
    rw [hpb, if_pos rfl] at hmp
    have hwh : ∀ x ∈ xs, (x.ks.map Kn.key).Nodup := by
      unfold putB at hpb
      simp only [Bool.and_eq_true, List.all_eq_true] at hpb
      exact fun x hx => ((whole_iff x).1 (hpb.2 x hx)).2.2.2.2.2.1
    repeat (first
      | (refine g_ops ?_; first | refine sO ?_ | refine s_n (fun _ => ?_) | refine s_app (fun _ _ => ?_) | refine s_b0 (fun _ => ?_) | ((fail_if_success refine g_lit rfl rfl rfl ?_); first | apply g_partM rfl rfl rfl | apply g_partMB rfl rfl rfl | fail) | refine s_k (hmp) ?_)
      | refine gS ?_ | exact s_m | intro _)
    dsimp only [List.cons_append, List.nil_append]
    refine g_loop (X := PoX) (fun y => [(0, ptr m), (1, .slice p xs.length cp), (5, int y.i)]) (fun y => [mrow m y.q y.ds.length y.c, Pile y.H])
      (fun y => y.i ≤ xs.length ∧ HP.sub H y.H ∧ MAt (Pile y.H) y.q y.ds ∧ y.ds.length ≤ ds.length + y.i ∧ y.ys.map StrV.d = (xs.take y.i).map dSort ∧ y.ds = y.ys.foldl (putS false) ds) (fun y => xs.length - y.i) ⟨0, q, c, ds, [], H⟩ ⟨Nat.zero_le _, HP.sub.refl _, hM, Nat.le_refl _, rfl, rfl⟩ (by (repeat (first | exact FrSub.nil | refine FrSub.cons rfl ?_)); first | done | fail) (by (repeat (first | exact Take.nil | apply Take.cons | exact Sel.here | apply Sel.there)); first | done | fail) (fun y hy => ?_)
    obtain ⟨i, q1, c1, ds1, ys, H1⟩ := y
    obtain ⟨hi, hs1, hM1, hl1, hys, hds1⟩ := hy
    dsimp only at hi hs1 hM1 hl1 hys hds1 ⊢
    repeat (first
      | (refine g_ops ?_; first | refine sO ?_ | refine s_n (fun _ => ?_) | refine s_app (fun _ _ => ?_) | refine s_b0 (fun _ => ?_) | ((fail_if_success refine g_lit rfl rfl rfl ?_); first | apply g_partM rfl rfl rfl | apply g_partMB rfl rfl rfl | fail))
      | refine gS ?_ | exact s_m | intro _)
    refine g_cond_dec rfl (fun h1 => ?_) (fun h1 => ?_)
    · have hi' : i < xs.length := by omega
      obtain ⟨b, o, rfl, hrow⟩ := slAt_elem (hS.grow hs1) str_len (by decide) (i := i) (a := xs[i]) (by simp [hi'])
      have htk : xs.take (i + 1) = xs.take i ++ [xs[i]] := by rw [List.take_succ_eq_append_getElem hi']
      have hx := (hA xs[i] (List.getElem_mem _)).grow hs1
      have hz := hsz xs[i] (List.getElem_mem _)
      have hnd := hwh xs[i] (List.getElem_mem _)
      generalize xs[i] = x at hrow htk hx hz hnd
      obtain ⟨nm, ep, ec, evs, kp, kc, ks⟩ := x
      have hxk := hx.k
      dsimp only [StrV.cells] at hxk hz hnd hrow
      repeat (first
        | (refine g_ops ?_; first | refine sO ?_ | refine s_n (fun _ => ?_) | refine s_app (fun _ _ => ?_) | refine s_b0 (fun _ => ?_) | ((fail_if_success refine g_lit rfl rfl rfl ?_); first | apply g_partM rfl rfl rfl | apply g_partMB rfl rfl rfl | fail))
        | refine gS ?_ | exact s_m | intro _)
      rename_i b6
      clear hrow
      refine g_own_nil none 5 53 ?_
      refine g_loop (X := RdX) (fun y => [(0, ptr m), (1, .slice (some ⟨b, o, none⟩) xs.length cp), (5, int i), (6, ptr b6), (7, .slice y.q (sortK (ks.take y.n)).length y.c), (8, int y.n)])
        (fun y => [.own y.q (sortK (ks.take y.n)).length y.c 5 ((sortK (ks.take y.n)).flatMap Kn.cells) 53, .row b6 [.string nm, .slice ep evs.length ec, .slice kp ks.length kc] 60, mrow m q1 ds1.length c1, Pile H1]) (fun y => y.n ≤ ks.length) (fun y => ks.length - y.n) ⟨0, none, 0⟩ (Nat.zero_le _) (by (repeat (first | exact FrSub.nil | refine FrSub.cons rfl ?_)); first | done | fail) (by simp only [List.take_zero, sortK, List.foldl_nil, List.length_nil, List.flatMap_nil]; exact (by (repeat (first | exact Take.nil | apply Take.cons | exact Sel.here | apply Sel.there)); first | done | fail)) (fun y hy => ?_)
      obtain ⟨n, q2, c2⟩ := y
      dsimp only at hy ⊢
      repeat (first
        | (refine g_ops ?_; first | refine sO ?_ | refine s_n (fun _ => ?_) | refine s_app (fun _ _ => ?_) | refine s_b0 (fun _ => ?_) | ((fail_if_success refine g_lit rfl rfl rfl ?_); first | apply g_partM rfl rfl rfl | apply g_partMB rfl rfl rfl | fail))
        | refine gS ?_ | exact s_m | intro _)
      refine g_cond_dec rfl (fun h2 => ?_) (fun h2 => ?_)
      · have hn' : n < ks.length := by omega
        obtain ⟨kb, ko, rfl, hk0⟩ := slAt_elem hxk kn_len (by decide) (i := n) (a := ks[n]) (by simp [hn'])
        have hsn : sortK (ks.take (n + 1)) = insK (sortK (ks.take n)) ks[n] := by rw [List.take_succ_eq_append_getElem hn', sortK_snoc]
        have hKl : (sortK (ks.take n)).length = n := by rw [(sortK_perm _).length_eq]; simp; omega
        have hKs : Asc ((sortK (ks.take n)).map Kn.key) := sortK_sort _ (hnd.sublist ((List.take_sublist _ _).map _))
        generalize ks[n] = k at hk0 hsn
        generalize sortK (ks.take n) = K at hsn hKl hKs
        repeat (first
          | (refine g_ops ?_; first | refine sO ?_ | refine s_n (fun _ => ?_) | refine s_app (fun _ _ => ?_) | refine s_b0 (fun _ => ?_) | ((fail_if_success refine g_lit rfl rfl rfl ?_); first | apply g_partM rfl rfl rfl | apply g_partMB rfl rfl rfl | fail))
          | refine gS ?_ | exact s_m | intro _)
        refine g_own (p := q2) (len := K.length) (cap := c2) (n := 5) (xs := K.flatMap Kn.cells) (e := 53) (by (repeat (first | exact Sel.here | apply Sel.there)); first | done | fail) (fun hol hoc hop => ?_)
        refine g_loop (X := Nat) (fun a => [(0, ptr m), (1, .slice (some ⟨b, o, none⟩) xs.length cp), (5, int i), (6, ptr b6), (7, .slice q2 K.length c2), (8, int n), (9, int a)])
          (fun _ => [.own q2 K.length c2 5 (K.flatMap Kn.cells) 53, .row b6 [.string nm, .slice ep evs.length ec, .slice (some ⟨kb, ko, none⟩) ks.length kc] 60, mrow m q1 ds1.length c1, Pile H1]) (fun a => a ≤ K.length ∧ ∀ (j : Nat) (hj : j < K.length), a ≤ j → ltB k.key K[j].key = true) (fun a => a) K.length ⟨Nat.le_refl _, fun j hj h => by omega⟩ (by (repeat (first | exact FrSub.nil | refine FrSub.cons rfl ?_)); first | done | fail) (by (repeat (first | exact Take.nil | apply Take.cons | exact Sel.here | apply Sel.there)); first | done | fail) (fun a ha => ?_)
        obtain ⟨ha, hge⟩ := ha
        repeat (first
          | (refine g_ops ?_; first | refine sO ?_ | refine s_n (fun _ => ?_) | refine s_app (fun _ _ => ?_) | refine s_b0 (fun _ => ?_) | ((fail_if_success refine g_lit rfl rfl rfl ?_); first | apply g_partM rfl rfl rfl | apply g_partMB rfl rfl rfl | fail))
          | refine gS ?_ | exact s_m | intro _)
        refine g_cutX (X := Bool) (fun g => [(49, .bool g), (0, ptr m), (1, .slice (some ⟨b, o, none⟩) xs.length cp), (5, int i), (6, ptr b6), (7, .slice q2 K.length c2), (8, int n), (9, int a)])
          (fun _ => [.own q2 K.length c2 5 (K.flatMap Kn.cells) 53, .row b6 [.string nm, .slice ep evs.length ec, .slice (some ⟨kb, ko, none⟩) ks.length kc] 60, mrow m q1 ds1.length c1, Pile H1]) (fun g => (g = true ∧ 0 < a ∧ ∀ (j : Nat) (hj : j < K.length), a - 1 ≤ j → ltB k.key K[j].key = true) ∨ (g = false ∧ insK K k = shf K a k)) ?_ (fun g hg => ?_)
        · by_cases ha0 : 0 < a
          · obtain ⟨a, rfl⟩ : ∃ a', a = a' + 1 := ⟨a - 1, by omega⟩
            obtain ⟨b2, rfl⟩ := hop (by omega)
            have ea : (((a + 1 : Nat) : Int) - 1).toNat = a := by omega
            have hat := own_at (b := b2) (len := K.length) (cap := c2) (e := 53) kn_len (l := K) (i := a) (a := K[a]) (by simp [show a < K.length by omega])
            have hcell : ∀ (j : Nat) (v : Value), K[a].cells[j]? = some v → Reads (.own (some ⟨b2, 0, none⟩) K.length c2 5 (K.flatMap Kn.cells) 53) ⟨b2, 0 + (((a + 1 : Nat) : Int) - 1).toNat * 5 + j, none⟩ v := by rw [ea]; exact hat
            have hcell2 := hk0
            have hal : a < K.length := by omega
            have hfi : ltB k.key (K[a]'hal).key = false → insK K k = shf K (a + 1) k := fun h => insK_at (k := k) (a := a + 1) hKs (by omega) hge (fun _ _ => h)
            have hstep : ltB k.key K[a].key = true → ∀ (j : Nat) (hj : j < K.length), a ≤ j → ltB k.key K[j].key = true := fun h0 j hj hja => by
              by_cases e : j = a
              · subst e; exact h0
              · exact hge j hj (by omega)
            generalize K[a] = y at hcell hstep hfi
            refine g_draw (.take 0 (.take 1 (.take 2 (.take 3 (.take 4 (.take 5 (.take 6 (.take 7 (.see 8 [] (.take 9 (.see 10 [] (.take 11 (.take 12 (.take 13 (.see 14 [] (.take 15 (.take 16 .done))))))))))))))))) (by kernel_rfl) (take_all _) (fun m' hd hk => ?_)
            repeat (first
              | (refine gp_take ?_; first | refine pT ?_ | ((fail_if_success refine gp_lit rfl rfl rfl rfl ?_); first | apply gp_guard_dec rfl rfl rfl rfl | apply gp_guard rfl rfl rfl rfl | fail))
              | (refine gp_see ?_; first | refine p_f ?_ | refine pS ?_ | ((fail_if_success refine gp_lit rfl rfl rfl rfl ?_); first | apply gp_guard_dec rfl rfl rfl rfl | apply gp_guard rfl rfl rfl rfl | fail))
              | (refine gp_one ?_; first | refine pO ?_ | refine p_n (fun _ => ?_) | refine p_app (fun _ _ => ?_) | refine p_b0 (fun _ => ?_) | ((fail_if_success refine gp_lit rfl rfl rfl rfl ?_); first | apply gp_guard_dec rfl rfl rfl rfl | apply gp_guard rfl rfl rfl rfl | fail))
              | refine gp_two ?_ ?_ | refine gp_done hd hk ?_ | intro _ | refine p_ta hd hk (fun _ _ _ hd hk => ?_) | refine p_ts hd hk (fun _ hd hk => ?_))
            refine gp_as 35 (v' := .bool true) rfl (congrArg Value.bool (decide_eq_true (by omega))) ?_
            repeat (first
              | (refine gp_take ?_; first | refine pT ?_ | ((fail_if_success refine gp_lit rfl rfl rfl rfl ?_); first | apply gp_guard_dec rfl rfl rfl rfl | apply gp_guard rfl rfl rfl rfl | fail))
              | (refine gp_see ?_; first | refine p_f ?_ | refine pS ?_ | ((fail_if_success refine gp_lit rfl rfl rfl rfl ?_); first | apply gp_guard_dec rfl rfl rfl rfl | apply gp_guard rfl rfl rfl rfl | fail))
              | (refine gp_one ?_; first | refine pO ?_ | refine p_n (fun _ => ?_) | refine p_app (fun _ _ => ?_) | refine p_b0 (fun _ => ?_) | ((fail_if_success refine gp_lit rfl rfl rfl rfl ?_); first | apply gp_guard_dec rfl rfl rfl rfl | apply gp_guard rfl rfl rfl rfl | fail))
              | refine gp_two ?_ ?_ | refine gp_done hd hk ?_ | intro _ | refine p_ta hd hk (fun _ _ _ hd hk => ?_) | refine p_ts hd hk (fun _ hd hk => ?_))
            refine p_q (q := by intro Δ; exact qs_gtrS rfl rfl) ?_
            repeat (first
              | (refine gp_take ?_; first | refine pT ?_ | ((fail_if_success refine gp_lit rfl rfl rfl rfl ?_); first | apply gp_guard_dec rfl rfl rfl rfl | apply gp_guard rfl rfl rfl rfl | fail))
              | (refine gp_see ?_; first | refine p_f ?_ | refine pS ?_ | ((fail_if_success refine gp_lit rfl rfl rfl rfl ?_); first | apply gp_guard_dec rfl rfl rfl rfl | apply gp_guard rfl rfl rfl rfl | fail))
              | (refine gp_one ?_; first | refine pO ?_ | refine p_n (fun _ => ?_) | refine p_app (fun _ _ => ?_) | refine p_b0 (fun _ => ?_) | ((fail_if_success refine gp_lit rfl rfl rfl rfl ?_); first | apply gp_guard_dec rfl rfl rfl rfl | apply gp_guard rfl rfl rfl rfl | fail))
              | refine gp_two ?_ ?_ | refine gp_done hd hk ?_ | intro _ | refine p_ta hd hk (fun _ _ _ hd hk => ?_) | refine p_ts hd hk (fun _ hd hk => ?_))
            repeat (first
              | (refine g_ops ?_; first | refine sO ?_ | refine s_n (fun _ => ?_) | refine s_app (fun _ _ => ?_) | refine s_b0 (fun _ => ?_) | ((fail_if_success refine g_lit rfl rfl rfl ?_); first | apply g_partM rfl rfl rfl | apply g_partMB rfl rfl rfl | fail))
              | refine gS ?_ | exact s_m | intro _)
            have hw : (ltB k.key y.key = true ∧ 0 < a + 1 ∧ ∀ (j : Nat) (hj : j < K.length), a + 1 - 1 ≤ j → ltB k.key K[j].key = true) ∨ (ltB k.key y.key = false ∧ insK K k = shf K (a + 1) k) := by
              cases hlt : ltB k.key y.key with
              | true => exact .inl ⟨rfl, by omega, fun j hj hja => hstep hlt j hj (by omega)⟩
              | false => exact .inr ⟨rfl, hfi hlt⟩
            exact gM (ltB k.key y.key) hw
          · obtain rfl : a = 0 := by omega
            refine g_draw (.take 0 (.take 1 (.take 2 (.take 3 (.take 4 (.take 5 (.take 6 (.take 7 (.see 8 [] (.take 9 (.see 10 [] (.take 11 (.take 12 (.take 13 (.see 14 [] (.take 15 (.take 16 .done))))))))))))))))) (by kernel_rfl) (take_all _) (fun m' hd hk => ?_)
            repeat (first
              | (refine gp_take ?_; first | refine pT ?_ | ((fail_if_success refine gp_lit rfl rfl rfl rfl ?_); first | apply gp_guard_dec rfl rfl rfl rfl | apply gp_guard rfl rfl rfl rfl | fail))
              | (refine gp_see ?_; first | refine p_f ?_ | refine pS ?_ | ((fail_if_success refine gp_lit rfl rfl rfl rfl ?_); first | apply gp_guard_dec rfl rfl rfl rfl | apply gp_guard rfl rfl rfl rfl | fail))
              | (refine gp_one ?_; first | refine pO ?_ | refine p_n (fun _ => ?_) | refine p_app (fun _ _ => ?_) | refine p_b0 (fun _ => ?_) | ((fail_if_success refine gp_lit rfl rfl rfl rfl ?_); first | apply gp_guard_dec rfl rfl rfl rfl | apply gp_guard rfl rfl rfl rfl | fail))
              | refine gp_two ?_ ?_ | refine gp_done hd hk ?_ | intro _ | refine p_ta hd hk (fun _ _ _ hd hk => ?_) | refine p_ts hd hk (fun _ hd hk => ?_))
            repeat (first
              | (refine g_ops ?_; first | refine sO ?_ | refine s_n (fun _ => ?_) | refine s_app (fun _ _ => ?_) | refine s_b0 (fun _ => ?_) | ((fail_if_success refine g_lit rfl rfl rfl ?_); first | apply g_partM rfl rfl rfl | apply g_partMB rfl rfl rfl | fail))
              | refine gS ?_ | exact s_m | intro _)
            exact gM false (.inr ⟨rfl, insK_at (k := k) (a := 0) hKs (Nat.zero_le _) hge (fun _ h => absurd h (by omega))⟩)
        repeat (first | refine g_skip ?_ | refine g_then_normal ?_ | refine g_seq ?_ | refine g_nil ?_)
        rcases hg with ⟨rfl, ha0, hge2⟩ | ⟨rfl, hfin⟩
        · repeat (first
            | (refine g_ops ?_; first | refine sO ?_ | refine s_n (fun _ => ?_) | refine s_app (fun _ _ => ?_) | refine s_b0 (fun _ => ?_) | ((fail_if_success refine g_lit rfl rfl rfl ?_); first | apply g_partM rfl rfl rfl | apply g_partMB rfl rfl rfl | fail))
            | refine gS ?_ | exact s_m | intro _)
          refine g_as 9 (v' := int ((a - 1 : Nat) : Int)) rfl (congrArg (Value.int .i64) (by omega)) ?_
          exact gA (a - 1) (by omega) ⟨by omega, hge2⟩
        · repeat (first
            | (refine g_ops ?_; first | refine sO ?_ | refine s_n (fun _ => ?_) | refine s_app (fun _ _ => ?_) | refine s_b0 (fun _ => ?_) | ((fail_if_success refine g_lit rfl rfl rfl ?_); first | apply g_partM rfl rfl rfl | apply g_partMB rfl rfl rfl | fail))
            | refine gS ?_ | exact s_m | intro _)
          rename_i q4 c4
          rw [show K.flatMap Kn.cells ++ [Value.string ByteArray.empty, .int .i64 0, .int .i64 0, .int .i64 0, .int .i64 0] = (shf K K.length Kn.zero).flatMap Kn.cells by rw [shf_end]; simp [Kn.zero, S3.zero]]
          refine g_own (p := q4) (len := K.length + 1) (cap := c4) (n := 5) (xs := (shf K K.length Kn.zero).flatMap Kn.cells) (e := 53) (by (repeat (first | exact Sel.here | apply Sel.there)); first | done | fail) (fun _ _ hop4 => ?_)
          obtain ⟨b4, rfl⟩ := hop4 (by omega)
          refine g_as 10 (v' := int (K.length : Int)) rfl (congrArg (Value.int .i64) (by push_cast; omega)) ?_
          refine g_loop (X := ShX) (fun y => [(0, ptr m), (1, .slice (some ⟨b, o, none⟩) xs.length cp), (5, int i), (6, ptr b6), (7, .slice (some ⟨b4, 0, none⟩) (K.length + 1) c4), (8, int n), (9, int a), (10, int y.t)])
            (fun y => [.own (some ⟨b4, 0, none⟩) (K.length + 1) c4 5 ((shf K y.t y.w).flatMap Kn.cells) 53, .row b6 [.string nm, .slice ep evs.length ec, .slice (some ⟨kb, ko, none⟩) ks.length kc] 60, mrow m q1 ds1.length c1, Pile H1]) (fun y => a ≤ y.t ∧ y.t ≤ K.length) (fun y => y.t) ⟨K.length, Kn.zero⟩ ⟨ha, Nat.le_refl _⟩ (by (repeat (first | exact FrSub.nil | refine FrSub.cons rfl ?_)); first | done | fail) (by (repeat (first | exact Take.nil | apply Take.cons | exact Sel.here | apply Sel.there)); first | done | fail) (fun y hy => ?_)
          obtain ⟨t, w⟩ := y
          obtain ⟨ht1, ht2⟩ := hy
          dsimp only at ht1 ht2 ⊢
          repeat (first
            | (refine g_ops ?_; first | refine sO ?_ | refine s_n (fun _ => ?_) | refine s_app (fun _ _ => ?_) | refine s_b0 (fun _ => ?_) | ((fail_if_success refine g_lit rfl rfl rfl ?_); first | apply g_partM rfl rfl rfl | apply g_partMB rfl rfl rfl | fail))
            | refine gS ?_ | exact s_m | intro _)
          refine g_cond_dec rfl (fun h3 => ?_) (fun h3 => ?_)
          · obtain ⟨t, rfl⟩ : ∃ t', t = t' + 1 := ⟨t - 1, by omega⟩
            have htl : t < K.length := by omega
            have et : (((t + 1 : Nat) : Int) - 1).toNat = t := by omega
            have hat := own_at (b := b4) (len := K.length + 1) (cap := c4) (e := 53) kn_len (l := shf K (t + 1) w) (i := t) (a := K[t]) (shf_prev w htl)
            have hrow : ∀ (j : Nat) (v : Value), K[t].cells[j]? = some v → Reads (.own (some ⟨b4, 0, none⟩) (K.length + 1) c4 5 ((shf K (t + 1) w).flatMap Kn.cells) 53) ⟨b4, 0 + (((t + 1 : Nat) : Int) - 1).toNat * 5 + j, none⟩ v := by rw [et]; exact hat
            have hst := shf_step w htl
            have hfl := flat_len kn_len (shf K (t + 1) w)
            rw [shf_len w (by omega)] at hfl
            generalize K[t] = y at hrow hst
            repeat (first
              | (refine g_ops ?_; first | refine sO ?_ | refine s_n (fun _ => ?_) | refine s_app (fun _ _ => ?_) | refine s_b0 (fun _ => ?_) | ((fail_if_success refine g_lit rfl rfl rfl ?_); first | apply g_partM rfl rfl rfl | apply g_partMB rfl rfl rfl | fail))
              | refine gS ?_ | exact s_m | intro _)
            refine g_ops ?_
            refine g_s (ss_storeOwnA (vs := y.cells) inferInstance rfl rfl rfl rfl rfl (by (repeat (first | exact Sel.here | apply Sel.there)); first | done | fail) (by rw [hfl]; simp only [List.length_cons, List.length_nil]; omega) (by rw [hfl]; omega)) rfl ?_
            rw [flat_putE kn_len (shf K (t + 1) w) (t + 1) y (by rw [shf_len w (by omega)]; omega) y.cells rfl, hst]
            repeat (first
              | (refine g_ops ?_; first | refine sO ?_ | refine s_n (fun _ => ?_) | refine s_app (fun _ _ => ?_) | refine s_b0 (fun _ => ?_) | ((fail_if_success refine g_lit rfl rfl rfl ?_); first | apply g_partM rfl rfl rfl | apply g_partMB rfl rfl rfl | fail))
              | refine gS ?_ | exact s_m | intro _)
            refine g_as 10 (v' := int (t : Int)) rfl (congrArg (Value.int .i64) (by push_cast; omega)) ?_
            exact gA ⟨t, y⟩ (by simp only; omega) ⟨by simp only; omega, by simp only; omega⟩
          · obtain rfl : t = a := by omega
            have hrow := hk0
            have hfl := flat_len kn_len (shf K t w)
            rw [shf_len w (by omega)] at hfl
            repeat (first
              | (refine g_ops ?_; first | refine sO ?_ | refine s_n (fun _ => ?_) | refine s_app (fun _ _ => ?_) | refine s_b0 (fun _ => ?_) | ((fail_if_success refine g_lit rfl rfl rfl ?_); first | apply g_partM rfl rfl rfl | apply g_partMB rfl rfl rfl | fail))
              | refine gS ?_ | exact s_m | intro _)
            refine g_ops ?_
            refine g_s (ss_storeOwnA (vs := k.cells) inferInstance rfl rfl rfl rfl rfl (by (repeat (first | exact Sel.here | apply Sel.there)); first | done | fail) (by rw [hfl]; simp only [List.length_cons, List.length_nil]; omega) (by rw [hfl]; omega)) rfl ?_
            rw [flat_putE kn_len (shf K t w) t k (by rw [shf_len w (by omega)]; omega) k.cells rfl, shf_put w k (by omega), ← hfin, ← hsn, show K.length + 1 = (sortK (ks.take (n + 1))).length by rw [hsn, insK_len]]
            repeat (first
              | (refine g_ops ?_; first | refine sO ?_ | refine s_n (fun _ => ?_) | refine s_app (fun _ _ => ?_) | refine s_b0 (fun _ => ?_) | ((fail_if_success refine g_lit rfl rfl rfl ?_); first | apply g_partM rfl rfl rfl | apply g_partMB rfl rfl rfl | fail))
              | refine gS ?_ | exact s_m | intro _)
            refine g_as 8 (v' := int ((n + 1 : Nat) : Int)) rfl (congrArg (Value.int .i64) (by push_cast; rfl)) ?_
            exact gA ⟨n + 1, some ⟨b4, 0, none⟩, c4⟩ (by simp only; omega) hn'
      · obtain rfl : n = ks.length := by omega
        rw [List.take_length]
        repeat (first
          | (refine g_ops ?_; first | refine sO ?_ | refine s_n (fun _ => ?_) | refine s_app (fun _ _ => ?_) | refine s_b0 (fun _ => ?_) | ((fail_if_success refine g_lit rfl rfl rfl ?_); first | apply g_partM rfl rfl rfl | apply g_partMB rfl rfl rfl | fail))
          | refine gS ?_ | exact s_m | intro _)
        refine g_pile (p := q2) (m := (sortK ks).length) (c := c2) (n := 5) (xs := (sortK ks).flatMap Kn.cells) (e := 53) (by (repeat (first | exact Sel.here | apply Sel.there)); first | done | fail) (by (repeat (first | exact Sel.here | apply Sel.there)); first | done | fail) (fun H2 hs2 hA2 => ?_)
        have hkl : (sortK ks).length = ks.length := (sortK_perm ks).length_eq
        have hSA : StrAt (Pile H2) ⟨nm, ep, ec, evs, q2, c2, sortK ks⟩ := ⟨hx.e.grow hs2, hA2, hx.el, by simp only; omega, hx.nl, hx.eo, fun k hk => hx.ko k ((sortK_perm ks).mem_iff.1 hk)⟩
        have hput := mput_ m q1 c1 ds1 (hM1.grow hs2) (by omega) _ hSA
        dsimp only [StrV.cells] at hput
        repeat (first
          | (refine g_ops ?_; first | refine sO ?_ | refine s_n (fun _ => ?_) | refine s_app (fun _ _ => ?_) | refine s_b0 (fun _ => ?_) | ((fail_if_success refine g_lit rfl rfl rfl ?_); first | apply g_partM rfl rfl rfl | apply g_partMB rfl rfl rfl | fail) | refine s_c (hput) (fun _ _ => ?_))
          | refine gS ?_ | exact s_m | intro _)
        rename_i x hx2
        obtain ⟨q', c', H4⟩ := x
        obtain ⟨hs4, hM4⟩ := hx2
        dsimp only [List.cons_append, List.nil_append] at hs4 hM4 ⊢
        have hpl := putS_len false ds1 ⟨nm, ep, ec, evs, q2, c2, sortK ks⟩
        rw [if_neg (by simp)] at hpl
        refine g_as 5 (v' := int ((i + 1 : Nat) : Int)) rfl (congrArg (Value.int .i64) (by push_cast; rfl)) ?_
        exact gA ⟨i + 1, q', c', putS false ds1 ⟨nm, ep, ec, evs, q2, c2, sortK ks⟩, ys ++ [⟨nm, ep, ec, evs, q2, c2, sortK ks⟩], H4⟩ (by simp only; omega) ⟨hi', hs1.trans (hs2.trans hs4), hM4, by simp only; omega, by rw [htk, List.map_append, List.map_append, hys]; rfl, by simp only [List.foldl_append, List.foldl_cons, List.foldl_nil]; rw [hds1]⟩
    · obtain rfl : i = xs.length := by omega
      rw [List.take_length] at hys
      repeat (first
        | (refine g_ops ?_; first | refine sO ?_ | refine s_n (fun _ => ?_) | refine s_app (fun _ _ => ?_) | refine s_b0 (fun _ => ?_) | ((fail_if_success refine g_lit rfl rfl rfl ?_); first | apply g_partM rfl rfl rfl | apply g_partMB rfl rfl rfl | fail))
        | refine gS ?_ | exact s_m | intro _)
      exact g_ret (⟨0, q1, c1, ds1, H1⟩ : MaX) rfl (by (repeat (first | exact RVs.nil | apply RVs.tmp rfl | apply RVs.cellA rfl (by (repeat (first | exact Sel.here | apply Sel.there)); first | done | fail) (by (repeat (first | exact Cut.zero | apply Cut.take | apply Cut.skip)); first | done | fail) | apply RVs.cell1 rfl (by (repeat (first | exact Sel.here | apply Sel.there)); first | done | fail) rfl)); first | done | fail) (by (repeat (first | exact Take.nil | apply Take.cons | exact Sel.here | apply Sel.there)); first | done | fail) (by simp [pack]) ⟨hs1, hM1, .inl ⟨rfl, ys, hys, hds1⟩⟩
end
end Go.Proofs.YtcgmliaahdpmcaaGreatDoor
