/- Contracts and laws that the proof stands on. -/
import Derived.Test.YtaahibcibgljbaaDoorCallReplies25
import Derived.Test.YtaahibcibgljbaaDoorCallReplies16
set_option linter.unusedSimpArgs false
set_option linter.unusedVariables false
namespace Go.Proofs.YtaahibcibgljbaaDoor
open Go.Sl facts
attribute [local irreducible] Code.wp wpList Exit.then Exit.inBlock bodyPost Back MidQ G GP QStep VStep CStep SStep Does Post Reads
abbrev vcz (k : Int) (y : Bool) (n : Int) (s : ByteArray) : Vc := ⟨k, y, n, s, none, 0, 0, none, 0, 0⟩
theorem inz : inI 0 := ⟨by decide, by decide⟩
theorem vatz (H : HP) {k n : Int} (y : Bool) {s : ByteArray} (hk : inI k) (hn : inI n) (hs : s.size ≤ 9223372036854775807) : VAt (Pile H) (.mk k y n s [] []) (vcz k y n s) :=
  .mk [] hk hn hs (Nat.zero_le _) (fun _ h => by cases h) ⟨rfl, rfl, fun _ => rfl, fun j v hv => by simp at hv⟩ (Nat.zero_le _) rfl ⟨rfl, rfl, fun _ => rfl, fun j v hv => by simp at hv⟩ (fun i x u h => by simp at h)
theorem dnum (n : Int) : Does1 Tryd.prog 33 [int n] [] (.agg (vcz 3 false n ByteArray.empty).cells.toArray) := by
  refine fn_intro Tryd.func33 rfl Tryd.ntmps33 rfl (by simp only [argFr, Nat.zero_add, Nat.reduceAdd]; rfl) (fun Γ => ?_)
  repeat (first
    | (refine g_ops ?_; first | refine sO ?_ | refine s_n (fun _ => ?_) | refine s_app (fun _ _ => ?_) | refine s_b0 (fun _ => ?_) | ((fail_if_success refine g_lit rfl rfl rfl ?_); first | apply g_partM rfl rfl rfl | apply g_partMB rfl rfl rfl | fail))
    | refine gS ?_ | exact s_m | intro _)
  exact gR () trivial
theorem dstr (s : ByteArray) : Does1 Tryd.prog 35 [.string s] [] (.agg (vcz 4 false 0 s).cells.toArray) := by
  refine fn_intro Tryd.func35 rfl Tryd.ntmps35 rfl (by simp only [argFr, Nat.zero_add, Nat.reduceAdd]; rfl) (fun Γ => ?_)
  repeat (first
    | (refine g_ops ?_; first | refine sO ?_ | refine s_n (fun _ => ?_) | refine s_app (fun _ _ => ?_) | refine s_b0 (fun _ => ?_) | ((fail_if_success refine g_lit rfl rfl rfl ?_); first | apply g_partM rfl rfl rfl | apply g_partMB rfl rfl rfl | fail))
    | refine gS ?_ | exact s_m | intro _)
  exact gR () trivial
theorem dpairs (kq q : Option Addr) (kn kc n c : Nat) : Does1 Tryd.prog 34 [.slice kq kn kc, .slice q n c] [] (.agg #[int 6, .bool false, int 0, .string ByteArray.empty, .slice kq kn kc, .slice q n c]) := by
  refine fn_intro Tryd.func34 rfl Tryd.ntmps34 rfl (by simp only [argFr, Nat.zero_add, Nat.reduceAdd]; rfl) (fun Γ => ?_)
  repeat (first
    | (refine g_ops ?_; first | refine sO ?_ | refine s_n (fun _ => ?_) | refine s_app (fun _ _ => ?_) | refine s_b0 (fun _ => ?_) | ((fail_if_success refine g_lit rfl rfl rfl ?_); first | apply g_partM rfl rfl rfl | apply g_partMB rfl rfl rfl | fail))
    | refine gS ?_ | exact s_m | intro _)
  exact gR () trivial
set_option maxHeartbeats 4000000 in
theorem dText (w l n : Int) (hw : inI w) (hl : inI l) (hn : inI n) : Does1 Tryd.prog 36 [.agg [int w, int l, int n].toArray] [] (.string (stext w l n)) := by
  have s1 := (decI_len20 w hw).1
  have s2 := (decI_len20 l hl).1
  have s3 := (decI_len20 n hn).1
  have c1 : (⟨#[46]⟩ : ByteArray).size = 1 := rfl
  have c2 : (⟨#[64]⟩ : ByteArray).size = 1 := rfl
  have d1 : Does1 Tryd.prog 48 [int w] [] (.string (txt (decI w))) := decimal w hw
  have d2 : Does1 Tryd.prog 48 [int l] [] (.string (txt (decI l))) := decimal l hl
  have d3 : Does1 Tryd.prog 48 [int n] [] (.string (txt (decI n))) := decimal n hn
  refine fn_intro Tryd.func36 rfl Tryd.ntmps36 rfl (by simp only [argFr, Nat.zero_add, Nat.reduceAdd]; rfl) (fun Γ => ?_)
  repeat (first
    | (refine g_ops ?_; first | refine sO ?_ | refine s_n (fun _ => ?_) | refine s_app (fun _ _ => ?_) | refine s_b0 (fun _ => ?_) | ((fail_if_success refine g_lit rfl rfl rfl ?_); first | apply g_partM rfl rfl rfl | apply g_partMB rfl rfl rfl | fail))
    | refine gS ?_ | exact s_m | intro _)
  refine g_draw (.take 0 (.see 1 [] (.see 2 [] (.take 3 (.take 4 (.see 5 [] (.see 6 [] (.take 7 (.take 8 (.take 9 (.see 10 [] (.see 11 [] (.take 12 (.take 13 .done)))))))))))))) (by kernel_rfl) (take_all _) (fun k hd hk => ?_)
  repeat (first
    | (refine gp_take ?_; first | refine pT ?_ | ((fail_if_success refine gp_lit rfl rfl rfl rfl ?_); first | apply gp_guard_dec rfl rfl rfl rfl | apply gp_guard rfl rfl rfl rfl | fail))
    | (refine gp_see ?_; first | refine p_f ?_ | refine pS ?_ | ((fail_if_success refine gp_lit rfl rfl rfl rfl ?_); first | apply gp_guard_dec rfl rfl rfl rfl | apply gp_guard rfl rfl rfl rfl | fail) | refine p_h (does1_more d1) hd hk ?_)
    | (refine gp_one ?_; first | refine pO ?_ | refine p_n (fun _ => ?_) | refine p_app (fun _ _ => ?_) | refine p_b0 (fun _ => ?_) | ((fail_if_success refine gp_lit rfl rfl rfl rfl ?_); first | apply gp_guard_dec rfl rfl rfl rfl | apply gp_guard rfl rfl rfl rfl | fail) | refine p_k (does1_more d1) ?_)
    | refine gp_two ?_ ?_ | refine gp_done hd hk ?_ | intro _ | refine p_ta hd hk (fun _ _ _ hd hk => ?_) | refine p_ts hd hk (fun _ hd hk => ?_))
  refine gp_q (fun _ => qs_addS rfl rfl (by rw [txt_size, c1]; omega)) rfl rfl rfl ?_
  repeat (first
    | (refine gp_take ?_; first | refine pT ?_ | ((fail_if_success refine gp_lit rfl rfl rfl rfl ?_); first | apply gp_guard_dec rfl rfl rfl rfl | apply gp_guard rfl rfl rfl rfl | fail))
    | (refine gp_see ?_; first | refine p_f ?_ | refine pS ?_ | ((fail_if_success refine gp_lit rfl rfl rfl rfl ?_); first | apply gp_guard_dec rfl rfl rfl rfl | apply gp_guard rfl rfl rfl rfl | fail) | refine p_h (does1_more d2) hd hk ?_)
    | (refine gp_one ?_; first | refine pO ?_ | refine p_n (fun _ => ?_) | refine p_app (fun _ _ => ?_) | refine p_b0 (fun _ => ?_) | ((fail_if_success refine gp_lit rfl rfl rfl rfl ?_); first | apply gp_guard_dec rfl rfl rfl rfl | apply gp_guard rfl rfl rfl rfl | fail) | refine p_k (does1_more d2) ?_)
    | refine gp_two ?_ ?_ | refine gp_done hd hk ?_ | intro _ | refine p_ta hd hk (fun _ _ _ hd hk => ?_) | refine p_ts hd hk (fun _ hd hk => ?_))
  refine gp_q (fun _ => qs_addS rfl rfl (by simp only [ByteArray.size_append, txt_size, c1]; omega)) rfl rfl rfl ?_
  refine gp_q (fun _ => qs_addS rfl rfl (by simp only [ByteArray.size_append, txt_size, c1, c2]; omega)) rfl rfl rfl ?_
  repeat (first
    | (refine gp_take ?_; first | refine pT ?_ | ((fail_if_success refine gp_lit rfl rfl rfl rfl ?_); first | apply gp_guard_dec rfl rfl rfl rfl | apply gp_guard rfl rfl rfl rfl | fail))
    | (refine gp_see ?_; first | refine p_f ?_ | refine pS ?_ | ((fail_if_success refine gp_lit rfl rfl rfl rfl ?_); first | apply gp_guard_dec rfl rfl rfl rfl | apply gp_guard rfl rfl rfl rfl | fail) | refine p_h (does1_more d3) hd hk ?_)
    | (refine gp_one ?_; first | refine pO ?_ | refine p_n (fun _ => ?_) | refine p_app (fun _ _ => ?_) | refine p_b0 (fun _ => ?_) | ((fail_if_success refine gp_lit rfl rfl rfl rfl ?_); first | apply gp_guard_dec rfl rfl rfl rfl | apply gp_guard rfl rfl rfl rfl | fail) | refine p_k (does1_more d3) ?_)
    | refine gp_two ?_ ?_ | refine gp_done hd hk ?_ | intro _ | refine p_ta hd hk (fun _ _ _ hd hk => ?_) | refine p_ts hd hk (fun _ hd hk => ?_))
  refine gp_q (fun _ => qs_addS rfl rfl (by simp only [ByteArray.size_append, txt_size, c1, c2]; omega)) rfl rfl rfl ?_
  repeat (first
    | (refine gp_take ?_; first | refine pT ?_ | ((fail_if_success refine gp_lit rfl rfl rfl rfl ?_); first | apply gp_guard_dec rfl rfl rfl rfl | apply gp_guard rfl rfl rfl rfl | fail))
    | (refine gp_see ?_; first | refine p_f ?_ | refine pS ?_ | ((fail_if_success refine gp_lit rfl rfl rfl rfl ?_); first | apply gp_guard_dec rfl rfl rfl rfl | apply gp_guard rfl rfl rfl rfl | fail))
    | (refine gp_one ?_; first | refine pO ?_ | refine p_n (fun _ => ?_) | refine p_app (fun _ _ => ?_) | refine p_b0 (fun _ => ?_) | ((fail_if_success refine gp_lit rfl rfl rfl rfl ?_); first | apply gp_guard_dec rfl rfl rfl rfl | apply gp_guard rfl rfl rfl rfl | fail))
    | refine gp_two ?_ ?_ | refine gp_done hd hk ?_ | intro _ | refine p_ta hd hk (fun _ _ _ hd hk => ?_) | refine p_ts hd hk (fun _ hd hk => ?_))
  repeat (first
    | (refine g_ops ?_; first | refine sO ?_ | refine s_n (fun _ => ?_) | refine s_app (fun _ _ => ?_) | refine s_b0 (fun _ => ?_) | ((fail_if_success refine g_lit rfl rfl rfl ?_); first | apply g_partM rfl rfl rfl | apply g_partMB rfl rfl rfl | fail))
    | refine gS ?_ | exact s_m | intro _)
  exact g_ret () rfl (by (repeat (first | exact RVs.nil | apply RVs.tmp rfl | apply RVs.cellA rfl (by (repeat (first | exact Sel.here | apply Sel.there)); first | done | fail) (by (repeat (first | exact Cut.zero | apply Cut.take | apply Cut.skip)); first | done | fail) | apply RVs.cell1 rfl (by (repeat (first | exact Sel.here | apply Sel.there)); first | done | fail) rfl)); first | done | fail) (by (repeat (first | exact Take.nil | apply Take.cons | exact Sel.here | apply Sel.there)); first | done | fail) (by simp only [pack]; exact congrArg Value.string (stext_eq w l n)) trivial
def DvAt (H : HP) (l : List V) (us : List Vc) : Prop := us.length = l.length ∧ ∀ (i : Nat) a u, l[i]? = some a → us[i]? = some u → VAt (Pile H) a u
theorem DvAt.nil {H : HP} : DvAt H [] [] := ⟨rfl, fun i a w h => by simp at h⟩
theorem DvAt.grow {H H' : HP} {l : List V} {us : List Vc} (h : DvAt H l us) (s : HP.sub H H') : DvAt H' l us := ⟨h.1, fun i a u h1 h2 => (h.2 i a u h1 h2).grow s⟩
theorem DvAt.snoc {H : HP} {l : List V} {us : List Vc} {v : V} {u : Vc} (h : DvAt H l us) (hv : VAt (Pile H) v u) : DvAt H (l ++ [v]) (us ++ [u]) := by
  refine ⟨by simp [h.1], fun i a w h1 h2 => ?_⟩
  rcases Nat.lt_or_ge i l.length with hj | hj
  · rw [List.getElem?_append_left hj] at h1
    rw [List.getElem?_append_left (by rw [h.1]; exact hj)] at h2
    exact h.2 i a w h1 h2
  · rw [List.getElem?_append_right hj] at h1
    rw [List.getElem?_append_right (by rw [h.1]; exact hj), h.1] at h2
    have h0 : i - l.length = 0 := by
      have := (List.getElem?_eq_some_iff.1 h1).1
      simp only [List.length_singleton] at this
      omega
    rw [h0] at h1 h2
    cases h1; cases h2
    exact hv
theorem DvAt.list {H H' : HP} {l : List V} {us : List Vc} {q : Option Addr} {k c : Nat} (h : DvAt H l us) (s : HP.sub H H') (hk : k = l.length) (hS : SlAt (Pile H') 6 q k (us.flatMap Vc.cells)) (hl : l.length ≤ 9223372036854775807) : VAt (Pile H') (listV l) ⟨5, false, 0, ByteArray.empty, none, 0, 0, q, k, c⟩ := by
  subst hk
  exact .mk us ⟨by decide, by decide⟩ inz (by decide) (Nat.zero_le _) (fun _ h => by cases h) ⟨rfl, rfl, fun _ => rfl, fun j v hv => by simp at hv⟩ hl h.1 hS fun i a w h1 h2 => (h.2 i a w h1 h2).grow s
theorem DvAt.kv {H H' : HP} {F : List KV} {us : List Vc} {kq q : Option Addr} {kc k c : Nat} (h : DvAt H (F.map (·.2)) us) (s : HP.sub H H') (hk : k = F.length) (hK : SlAt (Pile H') 1 kq k ((F.map (·.1)).map .string)) (hS : SlAt (Pile H') 6 q k (us.flatMap Vc.cells)) (hz : ∀ x ∈ F, x.1.size ≤ 9223372036854775807) (hl : F.length ≤ 9223372036854775807) : VAt (Pile H') (kvV F) ⟨6, false, 0, ByteArray.empty, kq, k, kc, q, k, c⟩ := by
  subst hk
  have e1 : F.length = (F.map (·.1)).length := (List.length_map ..).symm
  have e2 : F.length = (F.map (·.2)).length := (List.length_map ..).symm
  have := VAt.mk (C := Pile H') (k := 6) (y := false) (n := 0) (s := ByteArray.empty) (ks := F.map (·.1)) (l := F.map (·.2)) (kp := kq) (kc := kc) (p := q) (c := c) us ⟨by decide, by decide⟩ inz (by decide) (by rw [← e1]; exact hl) (fun x hx => by obtain ⟨f, hf, rfl⟩ := List.mem_map.1 hx; exact hz f hf) (by rw [← e1]; exact hK) (by rw [← e2]; exact hl) h.1 (by rw [← e2]; exact hS) fun i a w h1 h2 => (h.2 i a w h1 h2).grow s
  rw [← e1, ← e2] at this
  exact this
theorem DvAt.kv' {H H' : HP} {F : List KV} {us : List Vc} {ks : List ByteArray} {kq q : Option Addr} {kc c : Nat} (h : DvAt H (F.map (·.2)) us) (s : HP.sub H H') (hks : ks = F.map (·.1)) (hK : SlAt (Pile H') 1 kq ks.length (ks.map .string)) (hS : SlAt (Pile H') 6 q us.length (us.flatMap Vc.cells)) (hz : ∀ x ∈ F, x.1.size ≤ 9223372036854775807) (hl : F.length ≤ 9223372036854775807) : VAt (Pile H') (kvV F) ⟨6, false, 0, ByteArray.empty, kq, ks.length, kc, q, us.length, c⟩ := by
  subst hks
  have e : us.length = F.length := by rw [h.1, List.length_map]
  rw [e] at hS ⊢
  rw [List.length_map] at hK ⊢
  exact h.kv s rfl hK hS hz hl
theorem oC_key {x : Rp} : ∀ f ∈ oC x, f.1.size ≤ 10 := by unfold oC; split <;> simp <;> decide
theorem oE_key {x : List Evt} : ∀ f ∈ oE x, f.1.size ≤ 10 := by unfold oE; split <;> simp <;> decide
theorem oF_key {x : List Int} : ∀ f ∈ oF x, f.1.size ≤ 10 := by unfold oF; split <;> simp <;> decide
theorem oR_key {x : List Rge} : ∀ f ∈ oR x, f.1.size ≤ 10 := by unfold oR; split <;> simp <;> decide
theorem oS_key {x : Rp} : ∀ f ∈ oS x, f.1.size ≤ 10 := by unfold oS; split <;> simp <;> decide
theorem vc_snoc (us : List Vc) (u : Vc) : us.flatMap Vc.cells ++ [.int .i64 u.k, .bool u.y, .int .i64 u.n, .string u.s, .slice u.kp u.kn u.kc, .slice u.p u.m u.c] = (us ++ [u]).flatMap Vc.cells := by simp [Vc.cells]
theorem vc_len (us : List Vc) (u : Vc) : us.length + 1 = (us ++ [u]).length := by simp
theorem ks_snoc (ks : List ByteArray) (k : ByteArray) : ks.map Value.string ++ [Value.string k] = (ks ++ [k]).map Value.string := by simp
theorem ks_len (ks : List ByteArray) (k : ByteArray) : ks.length + 1 = (ks ++ [k]).length := by simp
structure DoX where
  ks : List ByteArray
  kq : Option Addr
  kc : Nat
  us : List Vc
  q : Option Addr
  c : Nat
  H : HP
structure DeX where
  i : Nat
  us : List Vc
  q : Option Addr
  c : Nat
  H : HP
set_option maxHeartbeats 64000000 in
theorem replyD {H : HP} (x : Rp) {fs : List Int} {es : List Evt} {rs : List Rge} (hx : RpIn H x fs es rs) : Does Tryd.prog 17 [.agg x.cells.toArray] [Pile H] (X := HP × Vc) (fun y => .agg y.2.cells.toArray) (fun y => [Pile y.1]) (fun y => HP.sub H y.1 ∧ VAt (Pile y.1) (kvV (formR x fs es rs)) y.2) := by
  have htc := dText x.cw x.cl x.cn hx.i5 hx.i6 hx.i7
  have hts := dText x.w x.l x.n hx.i2 hx.i3 hx.i4
  have zc := stext_len x.cw x.cl x.cn hx.i5 hx.i6 hx.i7
  have zs := stext_len x.w x.l x.n hx.i2 hx.i3 hx.i4
  obtain ⟨code, w, l, n, fp, fn, fc, ep, en, ec, cw, cl, cn, ci, cs, rp, rn, rc, node⟩ := x
  obtain ⟨rfl, rfl, rfl, fS, eS, rS, ev, fi, ri, j1, _, _, _, _, _, _, j8, j9, jz, fz, ez, rz⟩ := hx
  dsimp only [Rp.cells] at htc hts zc zs j1 j8 j9 jz fS eS rS ⊢
  generalize hV : formR ⟨code, w, l, n, fp, fs.length, fc, ep, es.length, ec, cw, cl, cn, ci, cs, rp, rs.length, rc, node⟩ fs es rs = V0
  unfold formR at hV
  dsimp only at hV
  have lC := oC_len ⟨code, w, l, n, fp, fs.length, fc, ep, es.length, ec, cw, cl, cn, ci, cs, rp, rs.length, rc, node⟩
  have lS := oS_len ⟨code, w, l, n, fp, fs.length, fc, ep, es.length, ec, cw, cl, cn, ci, cs, rp, rs.length, rc, node⟩
  have kC := oC_key (x := ⟨code, w, l, n, fp, fs.length, fc, ep, es.length, ec, cw, cl, cn, ci, cs, rp, rs.length, rc, node⟩)
  have kS := oS_key (x := ⟨code, w, l, n, fp, fs.length, fc, ep, es.length, ec, cw, cl, cn, ci, cs, rp, rs.length, rc, node⟩)
  have lE := oE_len es
  have lF := oF_len fs
  have lR := oR_len rs
  have kE := oE_key (x := es)
  have kF := oF_key (x := fs)
  have kR := oR_key (x := rs)
  have hdc := dnum code
  have hdn := dnum node
  dsimp only [Vc.cells] at hdc hdn
  refine fn_intro Tryd.func17 rfl Tryd.ntmps17 rfl (by simp only [argFr, Nat.zero_add, Nat.reduceAdd]; rfl) (fun Γ => ?_)
  repeat (first
    | (refine g_ops ?_; first | refine sO ?_ | refine s_n (fun _ => ?_) | refine s_app (fun _ _ => ?_) | refine s_b0 (fun _ => ?_) | ((fail_if_success refine g_lit rfl rfl rfl ?_); first | apply g_partM rfl rfl rfl | apply g_partMB rfl rfl rfl | fail) | refine s_k (hdc) ?_)
    | refine gS ?_ | exact s_m | intro _)
  rename_i rb b2 lb1 lb2
  refine g_toOwn (b := lb1) (len := 1) (n := 1) (by (repeat (first | exact Sel.here | apply Sel.there)); first | done | fail) rfl rfl ?_
  refine g_toOwn (b := lb2) (len := 1) (n := 6) (by (repeat (first | exact Sel.here | apply Sel.there)); first | done | fail) rfl rfl ?_
  have f0 : DvAt H [intV code] [vcz 3 false code ByteArray.empty] := DvAt.nil.snoc (vatz H false ⟨by decide, by decide⟩ j1 (by decide))
  refine g_cond_dec rfl (fun hnz => ?_) (fun hnz => ?_)
  · repeat (first
      | (refine g_ops ?_; first | refine sO ?_ | refine s_n (fun _ => ?_) | refine s_app (fun _ _ => ?_) | refine s_b0 (fun _ => ?_) | ((fail_if_success refine g_lit rfl rfl rfl ?_); first | apply g_partM rfl rfl rfl | apply g_partMB rfl rfl rfl | fail))
      | refine gS ?_ | exact s_m | intro _)
    by_cases h8 : code = 8
    · refine g_as 24 (v' := .bool true) rfl (congrArg Value.bool (decide_eq_true h8)) ?_
      repeat (first
        | (refine g_ops ?_; first | refine sO ?_ | refine s_n (fun _ => ?_) | refine s_app (fun _ _ => ?_) | refine s_b0 (fun _ => ?_) | ((fail_if_success refine g_lit rfl rfl rfl ?_); first | apply g_partM rfl rfl rfl | apply g_partMB rfl rfl rfl | fail))
        | refine gS ?_ | exact s_m | intro _)
      refine g_cond_dec rfl (fun hnd => ?_) (fun hnd => ?_)
      · rw [if_pos ⟨h8, hnd⟩] at hV
        subst hV
        repeat (first
          | (refine g_ops ?_; first | refine sO ?_ | refine s_n (fun _ => ?_) | refine s_app (fun _ _ => ?_) | refine s_b0 (fun _ => ?_) | ((fail_if_success refine g_lit rfl rfl rfl ?_); first | apply g_partM rfl rfl rfl | apply g_partMB rfl rfl rfl | fail) | refine s_k (hdn) ?_ | refine s_k (dpairs _ _ _ _ _ _) ?_)
          | refine gS ?_ | exact s_m | intro _)
        rename_i _ kq2 kc2 _ q2 c2
        refine g_pile (p := kq2) (n := 1) (by (repeat (first | exact Sel.here | apply Sel.there)); first | done | fail) (by (repeat (first | exact Sel.here | apply Sel.there)); first | done | fail) (fun H2 hs2 hK => ?_)
        refine g_pile (p := q2) (n := 6) (by (repeat (first | exact Sel.here | apply Sel.there)); first | done | fail) (by (repeat (first | exact Sel.here | apply Sel.there)); first | done | fail) (fun H3 hs3 hS => ?_)
        exact gR (H3, ⟨6, false, 0, ByteArray.empty, kq2, 2, kc2, q2, 2, c2⟩) ⟨hs2.trans hs3, (f0.snoc (vatz H false ⟨by decide, by decide⟩ j9 (by decide))).kv (F := [(kCode, intV code)] ++ [(kNode, intV node)]) (hs2.trans hs3) rfl (hK.grow hs3) hS (by simp; decide) (by simp)⟩
      · rw [if_neg (fun h => hnd h.2), if_pos (by omega)] at hV
        subst hV
        repeat (first
          | (refine g_ops ?_; first | refine sO ?_ | refine s_n (fun _ => ?_) | refine s_app (fun _ _ => ?_) | refine s_b0 (fun _ => ?_) | ((fail_if_success refine g_lit rfl rfl rfl ?_); first | apply g_partM rfl rfl rfl | apply g_partMB rfl rfl rfl | fail) | refine s_k (dpairs _ _ _ _ _ _) ?_)
          | refine gS ?_ | exact s_m | intro _)
        refine g_pile (p := some ⟨lb1, 0, none⟩) (n := 1) (by (repeat (first | exact Sel.here | apply Sel.there)); first | done | fail) (by (repeat (first | exact Sel.here | apply Sel.there)); first | done | fail) (fun H2 hs2 hK => ?_)
        refine g_pile (p := some ⟨lb2, 0, none⟩) (n := 6) (by (repeat (first | exact Sel.here | apply Sel.there)); first | done | fail) (by (repeat (first | exact Sel.here | apply Sel.there)); first | done | fail) (fun H3 hs3 hS => ?_)
        exact gR (H3, ⟨6, false, 0, ByteArray.empty, some ⟨lb1, 0, none⟩, 1, 1, some ⟨lb2, 0, none⟩, 1, 1⟩) ⟨hs2.trans hs3, f0.kv (F := [(kCode, intV code)]) (hs2.trans hs3) rfl (hK.grow hs3) hS (by simp; decide) (by simp)⟩
    · refine g_as 24 (v' := .bool false) rfl (congrArg Value.bool (decide_eq_false h8)) ?_
      rw [if_neg (fun h => h8 h.1), if_pos hnz] at hV
      subst hV
      repeat (first
        | (refine g_ops ?_; first | refine sO ?_ | refine s_n (fun _ => ?_) | refine s_app (fun _ _ => ?_) | refine s_b0 (fun _ => ?_) | ((fail_if_success refine g_lit rfl rfl rfl ?_); first | apply g_partM rfl rfl rfl | apply g_partMB rfl rfl rfl | fail) | refine s_k (dpairs _ _ _ _ _ _) ?_)
        | refine gS ?_ | exact s_m | intro _)
      refine g_pile (p := some ⟨lb1, 0, none⟩) (n := 1) (by (repeat (first | exact Sel.here | apply Sel.there)); first | done | fail) (by (repeat (first | exact Sel.here | apply Sel.there)); first | done | fail) (fun H2 hs2 hK => ?_)
      refine g_pile (p := some ⟨lb2, 0, none⟩) (n := 6) (by (repeat (first | exact Sel.here | apply Sel.there)); first | done | fail) (by (repeat (first | exact Sel.here | apply Sel.there)); first | done | fail) (fun H3 hs3 hS => ?_)
      exact gR (H3, ⟨6, false, 0, ByteArray.empty, some ⟨lb1, 0, none⟩, 1, 1, some ⟨lb2, 0, none⟩, 1, 1⟩) ⟨hs2.trans hs3, f0.kv (F := [(kCode, intV code)]) (hs2.trans hs3) rfl (hK.grow hs3) hS (by simp; decide) (by simp)⟩
  rw [if_neg (fun h => by omega), if_neg hnz] at hV
  subst hV
  -- printed by gen/genCalU.py
  have hC0 : (cw = 0 ∧ cl = 0 ∧ cn = 0 ∧ ci = 0 ∧ cs = ByteArray.empty) → oC ⟨code, w, l, n, fp, fs.length, fc, ep, es.length, ec, cw, cl, cn, ci, cs, rp, rs.length, rc, node⟩ = [] := fun h => if_pos h
  have hC1 : ¬ (cw = 0 ∧ cl = 0 ∧ cn = 0 ∧ ci = 0 ∧ cs = ByteArray.empty) → oC ⟨code, w, l, n, fp, fs.length, fc, ep, es.length, ec, cw, cl, cn, ci, cs, rp, rs.length, rc, node⟩ = [(kCursor, listV [textV (stext cw cl cn), intV ci, textV cs])] := fun h => if_neg h
  have hS0 : (w = 0 ∧ l = 0 ∧ n = 0) → oS ⟨code, w, l, n, fp, fs.length, fc, ep, es.length, ec, cw, cl, cn, ci, cs, rp, rs.length, rc, node⟩ = [] := fun h => if_pos h
  have hS1 : ¬ (w = 0 ∧ l = 0 ∧ n = 0) → oS ⟨code, w, l, n, fp, fs.length, fc, ep, es.length, ec, cw, cl, cn, ci, cs, rp, rs.length, rc, node⟩ = [(kStamp, textV (stext w l n))] := fun h => if_neg h
  generalize oC ⟨code, w, l, n, fp, fs.length, fc, ep, es.length, ec, cw, cl, cn, ci, cs, rp, rs.length, rc, node⟩ = OC at *
  generalize oS ⟨code, w, l, n, fp, fs.length, fc, ep, es.length, ec, cw, cl, cn, ci, cs, rp, rs.length, rc, node⟩ = OS at *
  repeat (first
    | (refine g_ops ?_; first | refine s_qa ?_ | refine sO ?_ | refine s_n (fun _ => ?_) | refine s_app (fun _ _ => ?_) | refine s_b0 (fun _ => ?_) | ((fail_if_success refine g_lit rfl rfl rfl ?_); first | apply g_partM rfl rfl rfl | apply g_partMB rfl rfl rfl | fail))
    | refine gS ?_ | exact s_m | intro _)
  refine g_cutX (X := DoX) (fun y => [(1, ptr rb), (2, ptr b2), (3, .slice y.kq y.ks.length y.kc), (4, .slice y.q y.us.length y.c)]) (fun y => [.own y.kq y.ks.length y.kc 1 (y.ks.map .string) 9, .own y.q y.us.length y.c 6 (y.us.flatMap Vc.cells) 25, .row b2 [int 0, .bool false, int 0, .string ByteArray.empty, .slice none 0 0, .slice none 0 0] 25, .row rb [int code, int w, int l, int n, .slice fp fs.length fc, .slice ep es.length ec, int cw, int cl, int cn, int ci, .string cs, .slice rp rs.length rc, int node] 50, Pile y.H]) (fun y => HP.sub H y.H ∧ y.ks = ([(kCode, intV code)] ++ OC).map (·.1) ∧ DvAt y.H (([(kCode, intV code)] ++ OC).map (·.2)) y.us) ?_ (fun y hy => ?_)
  · by_cases hc : cw = 0 ∧ cl = 0 ∧ cn = 0 ∧ ci = 0 ∧ cs = ByteArray.empty
    · refine g_as 44 (v' := .bool false) rfl (congrArg Value.bool (by simp [hc])) ?_
      repeat (first
        | (refine g_ops ?_; first | refine sO ?_ | refine s_n (fun _ => ?_) | refine s_app (fun _ _ => ?_) | refine s_b0 (fun _ => ?_) | ((fail_if_success refine g_lit rfl rfl rfl ?_); first | apply g_partM rfl rfl rfl | apply g_partMB rfl rfl rfl | fail))
        | refine gS ?_ | exact s_m | intro _)
      exact gM ⟨[kCode], some ⟨lb1, 0, none⟩, 1, [vcz 3 false code ByteArray.empty], some ⟨lb2, 0, none⟩, 1, H⟩ ⟨HP.sub.refl _, by rw [hC0 hc]; rfl, by rw [hC0 hc]; exact f0⟩
    · refine g_as 44 (v' := .bool true) rfl (congrArg Value.bool (by simp; apply Classical.byContradiction; intro h; simp only [not_or, Decidable.not_not] at h; exact hc ⟨h.1.1, h.1.2.1, h.1.2.2, h.2.1, h.2.2⟩)) ?_
      have h1 := dstr (stext cw cl cn)
      have h2 := dnum ci
      have h3 := dstr cs
      dsimp only [Vc.cells] at h1 h2 h3
      repeat (first
        | (refine g_ops ?_; first | refine sO ?_ | refine s_n (fun _ => ?_) | refine s_app (fun _ _ => ?_) | refine s_b0 (fun _ => ?_) | ((fail_if_success refine g_lit rfl rfl rfl ?_); first | apply g_partM rfl rfl rfl | apply g_partMB rfl rfl rfl | fail))
        | refine gS ?_ | exact s_m | intro _)
      rename_i _ kq2 kc2
      refine g_draw (.take 0 (.take 1 (.take 2 (.see 3 [] (.see 4 [] (.see 5 [] (.take 6 (.take 7 (.see 8 [] (.see 9 [] (.take 10 (.take 11 (.see 12 [] (.see 13 [] (.one 14 (.take 15 (.one 16 (.one 17 (.take 18 .done))))))))))))))))))) (by kernel_rfl) (C := [.row rb [int code, int w, int l, int n, .slice fp fs.length fc, .slice ep es.length ec, int cw, int cl, int cn, int ci, .string cs, .slice rp rs.length rc, int node] 50, Pile H]) (by (repeat (first | exact Take.nil | apply Take.cons | exact Sel.here | apply Sel.there)); first | done | fail) (fun m hd hk => ?_)
      repeat (first
        | (refine gp_take ?_; first | refine pT ?_ | ((fail_if_success refine gp_lit rfl rfl rfl rfl ?_); first | apply gp_guard_dec rfl rfl rfl rfl | apply gp_guard rfl rfl rfl rfl | fail))
        | (refine gp_see ?_; first | refine p_f ?_ | refine pS ?_ | ((fail_if_success refine gp_lit rfl rfl rfl rfl ?_); first | apply gp_guard_dec rfl rfl rfl rfl | apply gp_guard rfl rfl rfl rfl | fail) | refine p_h (does1_more htc) hd hk ?_ | refine p_h (does1_more h1) hd hk ?_ | refine p_h (does1_more h2) hd hk ?_ | refine p_h (does1_more h3) hd hk ?_)
        | (refine gp_one ?_; first | refine pO ?_ | refine p_n (fun _ => ?_) | refine p_app (fun _ _ => ?_) | refine p_b0 (fun _ => ?_) | ((fail_if_success refine gp_lit rfl rfl rfl rfl ?_); first | apply gp_guard_dec rfl rfl rfl rfl | apply gp_guard rfl rfl rfl rfl | fail) | refine p_k (does1_more htc) ?_ | refine p_k (does1_more h1) ?_ | refine p_k (does1_more h2) ?_ | refine p_k (does1_more h3) ?_)
        | refine gp_two ?_ ?_ | refine gp_done hd hk ?_ | intro _ | refine p_ta hd hk (fun _ _ _ hd hk => ?_) | refine p_ts hd hk (fun _ hd hk => ?_))
      rename_i lb3 _ q2 c2
      dsimp only [List.cons_append, List.nil_append, List.append_eq]
      refine g_toOwn (b := lb3) (len := 3) (n := 6) (by (repeat (first | exact Sel.here | apply Sel.there)); first | done | fail) rfl rfl ?_
      refine g_pile (p := some ⟨lb3, 0, none⟩) (n := 6) (by (repeat (first | exact Sel.here | apply Sel.there)); first | done | fail) (by (repeat (first | exact Sel.here | apply Sel.there)); first | done | fail) (fun H2 hs2 hS2 => ?_)
      have hit : VAt (Pile H2) (listV [textV (stext cw cl cn), intV ci, textV cs]) ⟨5, false, 0, ByteArray.empty, none, 0, 0, some ⟨lb3, 0, none⟩, 3, 3⟩ :=
        (((DvAt.nil.snoc (vatz H2 false ⟨by decide, by decide⟩ inz (s := stext cw cl cn) (by omega))).snoc (vatz H2 false ⟨by decide, by decide⟩ j8 (by decide))).snoc (vatz H2 false ⟨by decide, by decide⟩ inz jz)).list (HP.sub.refl _) rfl hS2 (by simp)
      exact gM ⟨[kCode, kCursor], kq2, kc2, [vcz 3 false code ByteArray.empty, ⟨5, false, 0, ByteArray.empty, none, 0, 0, some ⟨lb3, 0, none⟩, 3, 3⟩], q2, c2, H2⟩ ⟨hs2, by rw [hC1 hc]; rfl, by rw [hC1 hc]; exact (f0.grow hs2).snoc hit⟩
  clear f0
  obtain ⟨ks, kq, kc, us, q, c, H1⟩ := y
  obtain ⟨hs1, hks, hF⟩ := hy
  dsimp only at hs1 hks hF ⊢
  have hkl : ks.length = us.length := by rw [hks, hF.1, List.length_map, List.length_map]
  have hul := hF.1
  simp only [List.length_map, List.length_append, List.length_singleton] at hul
  repeat (first
    | (refine g_ops ?_; first | refine sO ?_ | refine s_n (fun _ => ?_) | refine s_app (fun _ _ => ?_) | refine s_b0 (fun _ => ?_) | ((fail_if_success refine g_lit rfl rfl rfl ?_); first | apply g_partM rfl rfl rfl | apply g_partMB rfl rfl rfl | fail))
    | refine gS ?_ | exact s_m | intro _)
  refine g_cutX (X := DoX) (fun y => [(1, ptr rb), (2, ptr b2), (3, .slice y.kq y.ks.length y.kc), (4, .slice y.q y.us.length y.c)]) (fun y => [.own y.kq y.ks.length y.kc 1 (y.ks.map .string) 9, .own y.q y.us.length y.c 6 (y.us.flatMap Vc.cells) 25, .row b2 [int 0, .bool false, int 0, .string ByteArray.empty, .slice none 0 0, .slice none 0 0] 25, .row rb [int code, int w, int l, int n, .slice fp fs.length fc, .slice ep es.length ec, int cw, int cl, int cn, int ci, .string cs, .slice rp rs.length rc, int node] 50, Pile y.H]) (fun y => HP.sub H y.H ∧ y.ks = ([(kCode, intV code)] ++ OC ++ oE es).map (·.1) ∧ DvAt y.H (([(kCode, intV code)] ++ OC ++ oE es).map (·.2)) y.us) ?_ (fun y hy => ?_)
  · refine g_cond_dec rfl (fun g => ?_) (fun g => ?_)
    · repeat (first
        | (refine g_ops ?_; first | refine sO ?_ | refine s_n (fun _ => ?_) | refine s_app (fun _ _ => ?_) | refine s_b0 (fun _ => ?_) | ((fail_if_success refine g_lit rfl rfl rfl ?_); first | apply g_partM rfl rfl rfl | apply g_partMB rfl rfl rfl | fail))
        | refine gS ?_ | exact s_m | intro _)
      rename_i b5
      refine g_own_nil none 6 25 ?_
      refine g_loop (X := DeX) (fun x => [(1, ptr rb), (2, ptr b2), (3, .slice kq ks.length kc), (4, .slice q us.length c), (5, ptr b5), (6, int x.i)]) (fun x => [.own x.q x.us.length x.c 6 (x.us.flatMap Vc.cells) 25, .row b5 [int 5, .bool false, int 0, .string ByteArray.empty, .slice none 0 0, .slice x.q x.us.length x.c] 25, .own kq ks.length kc 1 (ks.map .string) 9, .own q us.length c 6 (us.flatMap Vc.cells) 25, .row b2 [int 0, .bool false, int 0, .string ByteArray.empty, .slice none 0 0, .slice none 0 0] 25, .row rb [int code, int w, int l, int n, .slice fp fs.length fc, .slice ep es.length ec, int cw, int cl, int cn, int ci, .string cs, .slice rp rs.length rc, int node] 50, Pile x.H]) (fun x => x.i ≤ es.length ∧ HP.sub H1 x.H ∧ DvAt x.H ((es.take x.i).map evL) x.us) (fun x => es.length - x.i) ⟨0, [], none, 0, H1⟩ ⟨Nat.zero_le _, HP.sub.refl _, DvAt.nil⟩ (by (repeat (first | exact FrSub.nil | refine FrSub.cons rfl ?_)); first | done | fail) (by (repeat (first | exact Take.nil | apply Take.cons | exact Sel.here | apply Sel.there)); first | done | fail) (fun x hx => ?_)
      obtain ⟨i, us5, q5, c5, H2⟩ := x
      obtain ⟨hi, hs2, hts⟩ := hx
      dsimp only at hi hs2 hts ⊢
      have hu5 := hts.1
      rw [List.length_map, List.length_take] at hu5
      repeat (first
        | (refine g_ops ?_; first | refine sO ?_ | refine s_n (fun _ => ?_) | refine s_app (fun _ _ => ?_) | refine s_b0 (fun _ => ?_) | ((fail_if_success refine g_lit rfl rfl rfl ?_); first | apply g_partM rfl rfl rfl | apply g_partMB rfl rfl rfl | fail))
        | refine gS ?_ | exact s_m | intro _)
      refine g_cond_dec rfl (fun g2 => ?_) (fun g2 => ?_)
      · have hlt : i < es.length := by omega
        have hgl : es[i]? = some es[i] := List.getElem?_eq_getElem hlt
        have hev := ev _ (List.getElem_mem hlt)
        obtain ⟨b3, o3, rfl, hrow⟩ := slAt_elem (eS.grow (hs1.trans hs2)) evt_len (by decide) hgl
        have htk : es.take (i + 1) = es.take i ++ [es[i]] := by rw [List.take_add_one, hgl]; rfl
        generalize es[i] = z at hev hrow htk
        obtain ⟨st, nn, data, yw, yl, yn, ex⟩ := z
        obtain ⟨e1, e2, e3, e4, e5, e6, e7⟩ := hev
        dsimp only at e1 e2 e3 e4 e5 e6 e7 hrow
        have htx := dText yw yl yn e4 e5 e6
        have htz := stext_len yw yl yn e4 e5 e6
        have h1 := dstr st
        have h2 := dnum nn
        have h3 := dstr data
        have h4 := dstr (stext yw yl yn)
        have h5 := dnum ex
        dsimp only [Vc.cells] at h1 h2 h3 h4 h5
        repeat (first
          | (refine g_ops ?_; first | refine sO ?_ | refine s_n (fun _ => ?_) | refine s_app (fun _ _ => ?_) | refine s_b0 (fun _ => ?_) | ((fail_if_success refine g_lit rfl rfl rfl ?_); first | apply g_partM rfl rfl rfl | apply g_partMB rfl rfl rfl | fail))
          | refine gS ?_ | exact s_m | intro _)
        rename_i b7
        dsimp only
        refine g_draw (.take 0 (.see 1 [21,22,23] (.take 2 (.see 3 [4,7,10,13,14,17,18,19,20,21,22,23] (.see 4 [7,10,13,14,17,18,19,20,21,22,23] (.take 5 (.see 6 [7,10,13,14,17,18,19,20,21,22,23] (.see 7 [10,13,14,17,18,19,20,21,22,23] (.take 8 (.see 9 [10,13,14,17,18,19,20,21,22,23] (.see 10 [13,14,17,18,19,20,21,22,23] (.take 11 (.see 12 [13,14,17,18,19,20,21,22,23] (.see 13 [14,17,18,19,20,21,22,23] (.see 14 [17,18,19,20,21,22,23] (.take 15 (.see 16 [17,18,19,20,21,22,23] (.see 17 [18,19,20,21,22,23] (.one 18 (.take 19 (.one 20 (.one 21 (.take 22 (.thaw 23 .done)))))))))))))))))))))))) (by kernel_rfl) (C := [.row b5 [int 5, .bool false, int 0, .string ByteArray.empty, .slice none 0 0, .slice q5 us5.length c5] 25, .row b7 [.string st, int nn, .string data, int yw, int yl, int yn, int ex] 85, Pile H2]) (by (repeat (first | exact Take.nil | apply Take.cons | exact Sel.here | apply Sel.there)); first | done | fail) (fun m hd hk => ?_)
        repeat (first
          | (refine gp_take ?_; first | refine pT ?_ | ((fail_if_success refine gp_lit rfl rfl rfl rfl ?_); first | apply gp_guard_dec rfl rfl rfl rfl | apply gp_guard rfl rfl rfl rfl | fail))
          | (refine gp_see ?_; first | refine p_f ?_ | refine pS ?_ | ((fail_if_success refine gp_lit rfl rfl rfl rfl ?_); first | apply gp_guard_dec rfl rfl rfl rfl | apply gp_guard rfl rfl rfl rfl | fail) | refine p_h (does1_more htx) hd hk ?_ | refine p_h (does1_more h1) hd hk ?_ | refine p_h (does1_more h2) hd hk ?_ | refine p_h (does1_more h3) hd hk ?_ | refine p_h (does1_more h4) hd hk ?_ | refine p_h (does1_more h5) hd hk ?_)
          | (refine gp_one ?_; first | refine pO ?_ | refine p_n (fun _ => ?_) | refine p_app (fun _ _ => ?_) | refine p_b0 (fun _ => ?_) | ((fail_if_success refine gp_lit rfl rfl rfl rfl ?_); first | apply gp_guard_dec rfl rfl rfl rfl | apply gp_guard rfl rfl rfl rfl | fail) | refine p_k (does1_more htx) ?_ | refine p_k (does1_more h1) ?_ | refine p_k (does1_more h2) ?_ | refine p_k (does1_more h3) ?_ | refine p_k (does1_more h4) ?_ | refine p_k (does1_more h5) ?_)
          | refine gp_two ?_ ?_ | refine gp_done hd hk ?_ | intro _ | refine p_ta hd hk (fun _ _ _ hd hk => ?_) | refine p_ts hd hk (fun _ hd hk => ?_))
        rename_i lb _ q6 c6 _
        dsimp only [List.cons_append, List.nil_append, List.append_eq]
        refine g_toOwn (b := lb) (len := 5) (n := 6) (by (repeat (first | exact Sel.here | apply Sel.there)); first | done | fail) rfl rfl ?_
        refine g_pile (p := some ⟨lb, 0, none⟩) (n := 6) (by (repeat (first | exact Sel.here | apply Sel.there)); first | done | fail) (by (repeat (first | exact Sel.here | apply Sel.there)); first | done | fail) (fun H3 hs3 hS3 => ?_)
        have hit : VAt (Pile H3) (evL ⟨st, nn, data, yw, yl, yn, ex⟩) ⟨5, false, 0, ByteArray.empty, none, 0, 0, some ⟨lb, 0, none⟩, 5, 5⟩ :=
          (((((DvAt.nil.snoc (vatz H3 false ⟨by decide, by decide⟩ inz e1)).snoc (vatz H3 false ⟨by decide, by decide⟩ e3 (by decide))).snoc (vatz H3 false ⟨by decide, by decide⟩ inz e2)).snoc (vatz H3 false ⟨by decide, by decide⟩ inz (s := stext yw yl yn) (by omega))).snoc (vatz H3 false ⟨by decide, by decide⟩ e7 (by decide))).list (HP.sub.refl _) rfl hS3 (by simp)
        rw [vc_snoc us5 (⟨5, false, 0, ByteArray.empty, none, 0, 0, some ⟨lb, 0, none⟩, 5, 5⟩ : Vc), vc_len us5 (⟨5, false, 0, ByteArray.empty, none, 0, 0, some ⟨lb, 0, none⟩, 5, 5⟩ : Vc)]
        repeat (first
          | (refine g_ops ?_; first | refine sO ?_ | refine s_n (fun _ => ?_) | refine s_app (fun _ _ => ?_) | refine s_b0 (fun _ => ?_) | ((fail_if_success refine g_lit rfl rfl rfl ?_); first | apply g_partM rfl rfl rfl | apply g_partMB rfl rfl rfl | fail))
          | refine gS ?_ | exact s_m | intro _)
        refine g_as 6 (v' := int ((i + 1 : Nat) : Int)) rfl (congrArg (Value.int .i64) (by push_cast; rfl)) ?_
        refine gA ⟨i + 1, us5 ++ [⟨5, false, 0, ByteArray.empty, none, 0, 0, some ⟨lb, 0, none⟩, 5, 5⟩], q6, c6, H3⟩ (by simp only; omega) ⟨hlt, hs2.trans hs3, ?_⟩
        dsimp only
        rw [htk, List.map_append]
        exact (hts.grow hs3).snoc hit
      · obtain rfl : i = es.length := by omega
        rw [List.take_length] at hts
        have hu6 : us5.length = es.length := by omega
        refine g_pile (p := q5) (n := 6) (by (repeat (first | exact Sel.here | apply Sel.there)); first | done | fail) (by (repeat (first | exact Sel.here | apply Sel.there)); first | done | fail) (fun H3 hs3 hS => ?_)
        have hit := hts.list (c := c5) hs3 (by simp; omega) hS (by simp; omega)
        repeat (first
          | (refine g_ops ?_; first | refine sO ?_ | refine s_n (fun _ => ?_) | refine s_app (fun _ _ => ?_) | refine s_b0 (fun _ => ?_) | ((fail_if_success refine g_lit rfl rfl rfl ?_); first | apply g_partM rfl rfl rfl | apply g_partMB rfl rfl rfl | fail))
          | refine gS ?_ | exact s_m | intro _)
        rename_i _ kq6 kc6 _ q6 c6
        rw [ks_snoc ks kEvents, ks_len ks kEvents, vc_snoc us (⟨5, false, 0, ByteArray.empty, none, 0, 0, q5, us5.length, c5⟩ : Vc), vc_len us (⟨5, false, 0, ByteArray.empty, none, 0, 0, q5, us5.length, c5⟩ : Vc)]
        exact gM ⟨ks ++ [kEvents], kq6, kc6, us ++ [⟨5, false, 0, ByteArray.empty, none, 0, 0, q5, us5.length, c5⟩], q6, c6, H3⟩ ⟨hs1.trans (hs2.trans hs3), by rw [show oE es = _ from if_pos (by omega), List.map_append, ← hks]; rfl, by rw [show oE es = _ from if_pos (by omega), List.map_append]; exact (hF.grow (hs2.trans hs3)).snoc hit⟩
    · repeat (first
        | (refine g_ops ?_; first | refine sO ?_ | refine s_n (fun _ => ?_) | refine s_app (fun _ _ => ?_) | refine s_b0 (fun _ => ?_) | ((fail_if_success refine g_lit rfl rfl rfl ?_); first | apply g_partM rfl rfl rfl | apply g_partMB rfl rfl rfl | fail))
        | refine gS ?_ | exact s_m | intro _)
      exact gM ⟨ks, kq, kc, us, q, c, H1⟩ ⟨hs1, by rw [show oE es = [] from if_neg (by omega), List.append_nil]; exact hks, by rw [show oE es = [] from if_neg (by omega), List.append_nil]; exact hF⟩
  clear hF hks hs1
  obtain ⟨ks, kq, kc, us, q, c, H1⟩ := y
  obtain ⟨hs1, hks, hF⟩ := hy
  dsimp only at hs1 hks hF ⊢
  have hkl : ks.length = us.length := by rw [hks, hF.1, List.length_map, List.length_map]
  have hul := hF.1
  simp only [List.length_map, List.length_append, List.length_singleton] at hul
  repeat (first
    | (refine g_ops ?_; first | refine sO ?_ | refine s_n (fun _ => ?_) | refine s_app (fun _ _ => ?_) | refine s_b0 (fun _ => ?_) | ((fail_if_success refine g_lit rfl rfl rfl ?_); first | apply g_partM rfl rfl rfl | apply g_partMB rfl rfl rfl | fail))
    | refine gS ?_ | exact s_m | intro _)
  refine g_cutX (X := DoX) (fun y => [(1, ptr rb), (2, ptr b2), (3, .slice y.kq y.ks.length y.kc), (4, .slice y.q y.us.length y.c)]) (fun y => [.own y.kq y.ks.length y.kc 1 (y.ks.map .string) 9, .own y.q y.us.length y.c 6 (y.us.flatMap Vc.cells) 25, .row b2 [int 0, .bool false, int 0, .string ByteArray.empty, .slice none 0 0, .slice none 0 0] 25, .row rb [int code, int w, int l, int n, .slice fp fs.length fc, .slice ep es.length ec, int cw, int cl, int cn, int ci, .string cs, .slice rp rs.length rc, int node] 50, Pile y.H]) (fun y => HP.sub H y.H ∧ y.ks = ([(kCode, intV code)] ++ OC ++ oE es ++ oF fs).map (·.1) ∧ DvAt y.H (([(kCode, intV code)] ++ OC ++ oE es ++ oF fs).map (·.2)) y.us) ?_ (fun y hy => ?_)
  · refine g_cond_dec rfl (fun g => ?_) (fun g => ?_)
    · repeat (first
        | (refine g_ops ?_; first | refine sO ?_ | refine s_n (fun _ => ?_) | refine s_app (fun _ _ => ?_) | refine s_b0 (fun _ => ?_) | ((fail_if_success refine g_lit rfl rfl rfl ?_); first | apply g_partM rfl rfl rfl | apply g_partMB rfl rfl rfl | fail))
        | refine gS ?_ | exact s_m | intro _)
      rename_i b5
      refine g_own_nil none 6 25 ?_
      refine g_loop (X := DeX) (fun x => [(1, ptr rb), (2, ptr b2), (3, .slice kq ks.length kc), (4, .slice q us.length c), (8, ptr b5), (9, int x.i)]) (fun x => [.own x.q x.us.length x.c 6 (x.us.flatMap Vc.cells) 25, .row b5 [int 5, .bool false, int 0, .string ByteArray.empty, .slice none 0 0, .slice x.q x.us.length x.c] 25, .own kq ks.length kc 1 (ks.map .string) 9, .own q us.length c 6 (us.flatMap Vc.cells) 25, .row b2 [int 0, .bool false, int 0, .string ByteArray.empty, .slice none 0 0, .slice none 0 0] 25, .row rb [int code, int w, int l, int n, .slice fp fs.length fc, .slice ep es.length ec, int cw, int cl, int cn, int ci, .string cs, .slice rp rs.length rc, int node] 50, Pile x.H]) (fun x => x.i ≤ fs.length ∧ HP.sub H1 x.H ∧ DvAt x.H ((fs.take x.i).map intV) x.us) (fun x => fs.length - x.i) ⟨0, [], none, 0, H1⟩ ⟨Nat.zero_le _, HP.sub.refl _, DvAt.nil⟩ (by (repeat (first | exact FrSub.nil | refine FrSub.cons rfl ?_)); first | done | fail) (by (repeat (first | exact Take.nil | apply Take.cons | exact Sel.here | apply Sel.there)); first | done | fail) (fun x hx => ?_)
      obtain ⟨i, us5, q5, c5, H2⟩ := x
      obtain ⟨hi, hs2, hts⟩ := hx
      dsimp only at hi hs2 hts ⊢
      have hu5 := hts.1
      rw [List.length_map, List.length_take] at hu5
      repeat (first
        | (refine g_ops ?_; first | refine sO ?_ | refine s_n (fun _ => ?_) | refine s_app (fun _ _ => ?_) | refine s_b0 (fun _ => ?_) | ((fail_if_success refine g_lit rfl rfl rfl ?_); first | apply g_partM rfl rfl rfl | apply g_partMB rfl rfl rfl | fail))
        | refine gS ?_ | exact s_m | intro _)
      refine g_cond_dec rfl (fun g2 => ?_) (fun g2 => ?_)
      · have hlt : i < fs.length := by omega
        have hgl : fs[i]? = some fs[i] := List.getElem?_eq_getElem hlt
        have hfi := fi _ (List.getElem_mem hlt)
        obtain ⟨b3, o3, rfl, hr0⟩ := slAt_cell (fS.grow (hs1.trans hs2)) (i := i) (v := int fs[i]) (by simp [hlt])
        have htk : fs.take (i + 1) = fs.take i ++ [fs[i]] := by rw [List.take_add_one, hgl]; rfl
        generalize fs[i] = z at hfi hr0 htk
        have hr : ∀ a, a = i → Reads (Pile H2) ⟨b3, o3 + a, none⟩ (int z) := fun _ e => e ▸ hr0
        have h1 := dnum z
        dsimp only [Vc.cells] at h1
        repeat (first | refine gS ?_ | refine g_cond_true rfl ?_)
        refine g_draw (.take 0 (.see 1 [9,10,11] (.take 2 (.see 3 [5,6,7,8,9,10,11] (.take 4 (.take 5 (.see 6 [7,8,9,10,11] (.see 7 [8,9,10,11] (.one 8 (.one 9 (.take 10 (.thaw 11 .done)))))))))))) (by kernel_rfl) (C := [.row b5 [int 5, .bool false, int 0, .string ByteArray.empty, .slice none 0 0, .slice q5 us5.length c5] 25, .row rb [int code, int w, int l, int n, .slice (some ⟨b3, o3, none⟩) fs.length fc, .slice ep es.length ec, int cw, int cl, int cn, int ci, .string cs, .slice rp rs.length rc, int node] 50, Pile H2]) (by (repeat (first | exact Take.nil | apply Take.cons | exact Sel.here | apply Sel.there)); first | done | fail) (fun m hd hk => ?_)
        repeat (first
          | (refine gp_take ?_; first | refine pT ?_ | ((fail_if_success refine gp_lit rfl rfl rfl rfl ?_); first | apply gp_guard_dec rfl rfl rfl rfl | apply gp_guard rfl rfl rfl rfl | fail))
          | (refine gp_see ?_; first | refine p_f ?_ | refine pS ?_ | ((fail_if_success refine gp_lit rfl rfl rfl rfl ?_); first | apply gp_guard_dec rfl rfl rfl rfl | apply gp_guard rfl rfl rfl rfl | fail) | refine p_h (does1_more h1) hd hk ?_)
          | (refine gp_one ?_; first | refine pO ?_ | refine p_n (fun _ => ?_) | refine p_app (fun _ _ => ?_) | refine p_b0 (fun _ => ?_) | ((fail_if_success refine gp_lit rfl rfl rfl rfl ?_); first | apply gp_guard_dec rfl rfl rfl rfl | apply gp_guard rfl rfl rfl rfl | fail) | refine p_k (does1_more h1) ?_)
          | refine gp_two ?_ ?_ | refine gp_done hd hk ?_ | intro _ | refine p_ta hd hk (fun _ _ _ hd hk => ?_) | refine p_ts hd hk (fun _ hd hk => ?_))
        rename_i q6 c6 _
        dsimp only [List.cons_append, List.nil_append, List.append_eq]
        rw [vc_snoc us5 (vcz 3 false z ByteArray.empty), vc_len us5 (vcz 3 false z ByteArray.empty)]
        repeat (first
          | (refine g_ops ?_; first | refine sO ?_ | refine s_n (fun _ => ?_) | refine s_app (fun _ _ => ?_) | refine s_b0 (fun _ => ?_) | ((fail_if_success refine g_lit rfl rfl rfl ?_); first | apply g_partM rfl rfl rfl | apply g_partMB rfl rfl rfl | fail))
          | refine gS ?_ | exact s_m | intro _)
        refine g_as 9 (v' := int ((i + 1 : Nat) : Int)) rfl (congrArg (Value.int .i64) (by push_cast; rfl)) ?_
        refine gA ⟨i + 1, us5 ++ [vcz 3 false z ByteArray.empty], q6, c6, H2⟩ (by simp only; omega) ⟨hlt, hs2, ?_⟩
        dsimp only
        rw [htk, List.map_append]
        exact hts.snoc (vatz H2 false ⟨by decide, by decide⟩ hfi (by decide))
      · obtain rfl : i = fs.length := by omega
        rw [List.take_length] at hts
        have hu6 : us5.length = fs.length := by omega
        refine g_pile (p := q5) (n := 6) (by (repeat (first | exact Sel.here | apply Sel.there)); first | done | fail) (by (repeat (first | exact Sel.here | apply Sel.there)); first | done | fail) (fun H3 hs3 hS => ?_)
        have hit := hts.list (c := c5) hs3 (by simp; omega) hS (by simp; omega)
        repeat (first
          | (refine g_ops ?_; first | refine sO ?_ | refine s_n (fun _ => ?_) | refine s_app (fun _ _ => ?_) | refine s_b0 (fun _ => ?_) | ((fail_if_success refine g_lit rfl rfl rfl ?_); first | apply g_partM rfl rfl rfl | apply g_partMB rfl rfl rfl | fail))
          | refine gS ?_ | exact s_m | intro _)
        rename_i _ kq6 kc6 _ q6 c6
        rw [ks_snoc ks kFirsts, ks_len ks kFirsts, vc_snoc us (⟨5, false, 0, ByteArray.empty, none, 0, 0, q5, us5.length, c5⟩ : Vc), vc_len us (⟨5, false, 0, ByteArray.empty, none, 0, 0, q5, us5.length, c5⟩ : Vc)]
        exact gM ⟨ks ++ [kFirsts], kq6, kc6, us ++ [⟨5, false, 0, ByteArray.empty, none, 0, 0, q5, us5.length, c5⟩], q6, c6, H3⟩ ⟨hs1.trans (hs2.trans hs3), by rw [show oF fs = _ from if_pos (by omega), List.map_append, ← hks]; rfl, by rw [show oF fs = _ from if_pos (by omega), List.map_append]; exact (hF.grow (hs2.trans hs3)).snoc hit⟩
    · repeat (first
        | (refine g_ops ?_; first | refine sO ?_ | refine s_n (fun _ => ?_) | refine s_app (fun _ _ => ?_) | refine s_b0 (fun _ => ?_) | ((fail_if_success refine g_lit rfl rfl rfl ?_); first | apply g_partM rfl rfl rfl | apply g_partMB rfl rfl rfl | fail))
        | refine gS ?_ | exact s_m | intro _)
      exact gM ⟨ks, kq, kc, us, q, c, H1⟩ ⟨hs1, by rw [show oF fs = [] from if_neg (by omega), List.append_nil]; exact hks, by rw [show oF fs = [] from if_neg (by omega), List.append_nil]; exact hF⟩
  clear hF hks hs1
  obtain ⟨ks, kq, kc, us, q, c, H1⟩ := y
  obtain ⟨hs1, hks, hF⟩ := hy
  dsimp only at hs1 hks hF ⊢
  have hkl : ks.length = us.length := by rw [hks, hF.1, List.length_map, List.length_map]
  have hul := hF.1
  simp only [List.length_map, List.length_append, List.length_singleton] at hul
  repeat (first
    | (refine g_ops ?_; first | refine sO ?_ | refine s_n (fun _ => ?_) | refine s_app (fun _ _ => ?_) | refine s_b0 (fun _ => ?_) | ((fail_if_success refine g_lit rfl rfl rfl ?_); first | apply g_partM rfl rfl rfl | apply g_partMB rfl rfl rfl | fail))
    | refine gS ?_ | exact s_m | intro _)
  refine g_cutX (X := DoX) (fun y => [(1, ptr rb), (2, ptr b2), (3, .slice y.kq y.ks.length y.kc), (4, .slice y.q y.us.length y.c)]) (fun y => [.own y.kq y.ks.length y.kc 1 (y.ks.map .string) 9, .own y.q y.us.length y.c 6 (y.us.flatMap Vc.cells) 25, .row b2 [int 0, .bool false, int 0, .string ByteArray.empty, .slice none 0 0, .slice none 0 0] 25, .row rb [int code, int w, int l, int n, .slice fp fs.length fc, .slice ep es.length ec, int cw, int cl, int cn, int ci, .string cs, .slice rp rs.length rc, int node] 50, Pile y.H]) (fun y => HP.sub H y.H ∧ y.ks = ([(kCode, intV code)] ++ OC ++ oE es ++ oF fs ++ oR rs).map (·.1) ∧ DvAt y.H (([(kCode, intV code)] ++ OC ++ oE es ++ oF fs ++ oR rs).map (·.2)) y.us) ?_ (fun y hy => ?_)
  · refine g_cond_dec rfl (fun g => ?_) (fun g => ?_)
    · repeat (first
        | (refine g_ops ?_; first | refine sO ?_ | refine s_n (fun _ => ?_) | refine s_app (fun _ _ => ?_) | refine s_b0 (fun _ => ?_) | ((fail_if_success refine g_lit rfl rfl rfl ?_); first | apply g_partM rfl rfl rfl | apply g_partMB rfl rfl rfl | fail))
        | refine gS ?_ | exact s_m | intro _)
      rename_i b5
      refine g_own_nil none 6 25 ?_
      refine g_loop (X := DeX) (fun x => [(1, ptr rb), (2, ptr b2), (3, .slice kq ks.length kc), (4, .slice q us.length c), (10, ptr b5), (11, int x.i)]) (fun x => [.own x.q x.us.length x.c 6 (x.us.flatMap Vc.cells) 25, .row b5 [int 5, .bool false, int 0, .string ByteArray.empty, .slice none 0 0, .slice x.q x.us.length x.c] 25, .own kq ks.length kc 1 (ks.map .string) 9, .own q us.length c 6 (us.flatMap Vc.cells) 25, .row b2 [int 0, .bool false, int 0, .string ByteArray.empty, .slice none 0 0, .slice none 0 0] 25, .row rb [int code, int w, int l, int n, .slice fp fs.length fc, .slice ep es.length ec, int cw, int cl, int cn, int ci, .string cs, .slice rp rs.length rc, int node] 50, Pile x.H]) (fun x => x.i ≤ rs.length ∧ HP.sub H1 x.H ∧ DvAt x.H ((rs.take x.i).map rgL) x.us) (fun x => rs.length - x.i) ⟨0, [], none, 0, H1⟩ ⟨Nat.zero_le _, HP.sub.refl _, DvAt.nil⟩ (by (repeat (first | exact FrSub.nil | refine FrSub.cons rfl ?_)); first | done | fail) (by (repeat (first | exact Take.nil | apply Take.cons | exact Sel.here | apply Sel.there)); first | done | fail) (fun x hx => ?_)
      obtain ⟨i, us5, q5, c5, H2⟩ := x
      obtain ⟨hi, hs2, hts⟩ := hx
      dsimp only at hi hs2 hts ⊢
      have hu5 := hts.1
      rw [List.length_map, List.length_take] at hu5
      repeat (first
        | (refine g_ops ?_; first | refine sO ?_ | refine s_n (fun _ => ?_) | refine s_app (fun _ _ => ?_) | refine s_b0 (fun _ => ?_) | ((fail_if_success refine g_lit rfl rfl rfl ?_); first | apply g_partM rfl rfl rfl | apply g_partMB rfl rfl rfl | fail))
        | refine gS ?_ | exact s_m | intro _)
      refine g_cond_dec rfl (fun g2 => ?_) (fun g2 => ?_)
      · have hlt : i < rs.length := by omega
        have hgl : rs[i]? = some rs[i] := List.getElem?_eq_getElem hlt
        have hri := ri _ (List.getElem_mem hlt)
        obtain ⟨b3, o3, rfl, hrow⟩ := slAt_elem (rS.grow (hs1.trans hs2)) rge_len (by decide) hgl
        have htk : rs.take (i + 1) = rs.take i ++ [rs[i]] := by rw [List.take_add_one, hgl]; rfl
        generalize rs[i] = z at hri hrow htk
        obtain ⟨ya, yb, yc, yd⟩ := z
        obtain ⟨e1, e2, e3, e4⟩ := hri
        dsimp only at e1 e2 e3 e4 hrow
        have h1 := dnum ya
        have h2 := dnum yb
        have h3 := dnum yc
        have h4 := dnum yd
        dsimp only [Vc.cells] at h1 h2 h3 h4
        repeat (first
          | (refine g_ops ?_; first | refine sO ?_ | refine s_n (fun _ => ?_) | refine s_app (fun _ _ => ?_) | refine s_b0 (fun _ => ?_) | ((fail_if_success refine g_lit rfl rfl rfl ?_); first | apply g_partM rfl rfl rfl | apply g_partMB rfl rfl rfl | fail))
          | refine gS ?_ | exact s_m | intro _)
        rename_i b7
        dsimp only
        refine g_draw (.take 0 (.see 1 [17,18,19] (.take 2 (.see 3 [4,7,10,13,14,15,16,17,18,19] (.see 4 [7,10,13,14,15,16,17,18,19] (.take 5 (.see 6 [7,10,13,14,15,16,17,18,19] (.see 7 [10,13,14,15,16,17,18,19] (.take 8 (.see 9 [10,13,14,15,16,17,18,19] (.see 10 [13,14,15,16,17,18,19] (.take 11 (.see 12 [13,14,15,16,17,18,19] (.see 13 [14,15,16,17,18,19] (.one 14 (.take 15 (.one 16 (.one 17 (.take 18 (.thaw 19 .done)))))))))))))))))))) (by kernel_rfl) (C := [.row b5 [int 5, .bool false, int 0, .string ByteArray.empty, .slice none 0 0, .slice q5 us5.length c5] 25, .row b7 [int ya, int yb, int yc, int yd] 36, Pile H2]) (by (repeat (first | exact Take.nil | apply Take.cons | exact Sel.here | apply Sel.there)); first | done | fail) (fun m hd hk => ?_)
        repeat (first
          | (refine gp_take ?_; first | refine pT ?_ | ((fail_if_success refine gp_lit rfl rfl rfl rfl ?_); first | apply gp_guard_dec rfl rfl rfl rfl | apply gp_guard rfl rfl rfl rfl | fail))
          | (refine gp_see ?_; first | refine p_f ?_ | refine pS ?_ | ((fail_if_success refine gp_lit rfl rfl rfl rfl ?_); first | apply gp_guard_dec rfl rfl rfl rfl | apply gp_guard rfl rfl rfl rfl | fail) | refine p_h (does1_more h1) hd hk ?_ | refine p_h (does1_more h2) hd hk ?_ | refine p_h (does1_more h3) hd hk ?_ | refine p_h (does1_more h4) hd hk ?_)
          | (refine gp_one ?_; first | refine pO ?_ | refine p_n (fun _ => ?_) | refine p_app (fun _ _ => ?_) | refine p_b0 (fun _ => ?_) | ((fail_if_success refine gp_lit rfl rfl rfl rfl ?_); first | apply gp_guard_dec rfl rfl rfl rfl | apply gp_guard rfl rfl rfl rfl | fail) | refine p_k (does1_more h1) ?_ | refine p_k (does1_more h2) ?_ | refine p_k (does1_more h3) ?_ | refine p_k (does1_more h4) ?_)
          | refine gp_two ?_ ?_ | refine gp_done hd hk ?_ | intro _ | refine p_ta hd hk (fun _ _ _ hd hk => ?_) | refine p_ts hd hk (fun _ hd hk => ?_))
        rename_i lb _ q6 c6 _
        dsimp only [List.cons_append, List.nil_append, List.append_eq]
        refine g_toOwn (b := lb) (len := 4) (n := 6) (by (repeat (first | exact Sel.here | apply Sel.there)); first | done | fail) rfl rfl ?_
        refine g_pile (p := some ⟨lb, 0, none⟩) (n := 6) (by (repeat (first | exact Sel.here | apply Sel.there)); first | done | fail) (by (repeat (first | exact Sel.here | apply Sel.there)); first | done | fail) (fun H3 hs3 hS3 => ?_)
        have hit : VAt (Pile H3) (rgL ⟨ya, yb, yc, yd⟩) ⟨5, false, 0, ByteArray.empty, none, 0, 0, some ⟨lb, 0, none⟩, 4, 4⟩ :=
          ((((DvAt.nil.snoc (vatz H3 false ⟨by decide, by decide⟩ e1 (by decide))).snoc (vatz H3 false ⟨by decide, by decide⟩ e2 (by decide))).snoc (vatz H3 false ⟨by decide, by decide⟩ e3 (by decide))).snoc (vatz H3 false ⟨by decide, by decide⟩ e4 (by decide))).list (HP.sub.refl _) rfl hS3 (by simp)
        rw [vc_snoc us5 (⟨5, false, 0, ByteArray.empty, none, 0, 0, some ⟨lb, 0, none⟩, 4, 4⟩ : Vc), vc_len us5 (⟨5, false, 0, ByteArray.empty, none, 0, 0, some ⟨lb, 0, none⟩, 4, 4⟩ : Vc)]
        repeat (first
          | (refine g_ops ?_; first | refine sO ?_ | refine s_n (fun _ => ?_) | refine s_app (fun _ _ => ?_) | refine s_b0 (fun _ => ?_) | ((fail_if_success refine g_lit rfl rfl rfl ?_); first | apply g_partM rfl rfl rfl | apply g_partMB rfl rfl rfl | fail))
          | refine gS ?_ | exact s_m | intro _)
        refine g_as 11 (v' := int ((i + 1 : Nat) : Int)) rfl (congrArg (Value.int .i64) (by push_cast; rfl)) ?_
        refine gA ⟨i + 1, us5 ++ [⟨5, false, 0, ByteArray.empty, none, 0, 0, some ⟨lb, 0, none⟩, 4, 4⟩], q6, c6, H3⟩ (by simp only; omega) ⟨hlt, hs2.trans hs3, ?_⟩
        dsimp only
        rw [htk, List.map_append]
        exact (hts.grow hs3).snoc hit
      · obtain rfl : i = rs.length := by omega
        rw [List.take_length] at hts
        have hu6 : us5.length = rs.length := by omega
        refine g_pile (p := q5) (n := 6) (by (repeat (first | exact Sel.here | apply Sel.there)); first | done | fail) (by (repeat (first | exact Sel.here | apply Sel.there)); first | done | fail) (fun H3 hs3 hS => ?_)
        have hit := hts.list (c := c5) hs3 (by simp; omega) hS (by simp; omega)
        repeat (first
          | (refine g_ops ?_; first | refine sO ?_ | refine s_n (fun _ => ?_) | refine s_app (fun _ _ => ?_) | refine s_b0 (fun _ => ?_) | ((fail_if_success refine g_lit rfl rfl rfl ?_); first | apply g_partM rfl rfl rfl | apply g_partMB rfl rfl rfl | fail))
          | refine gS ?_ | exact s_m | intro _)
        rename_i _ kq6 kc6 _ q6 c6
        rw [ks_snoc ks kRanges, ks_len ks kRanges, vc_snoc us (⟨5, false, 0, ByteArray.empty, none, 0, 0, q5, us5.length, c5⟩ : Vc), vc_len us (⟨5, false, 0, ByteArray.empty, none, 0, 0, q5, us5.length, c5⟩ : Vc)]
        exact gM ⟨ks ++ [kRanges], kq6, kc6, us ++ [⟨5, false, 0, ByteArray.empty, none, 0, 0, q5, us5.length, c5⟩], q6, c6, H3⟩ ⟨hs1.trans (hs2.trans hs3), by rw [show oR rs = _ from if_pos (by omega), List.map_append, ← hks]; rfl, by rw [show oR rs = _ from if_pos (by omega), List.map_append]; exact (hF.grow (hs2.trans hs3)).snoc hit⟩
    · repeat (first
        | (refine g_ops ?_; first | refine sO ?_ | refine s_n (fun _ => ?_) | refine s_app (fun _ _ => ?_) | refine s_b0 (fun _ => ?_) | ((fail_if_success refine g_lit rfl rfl rfl ?_); first | apply g_partM rfl rfl rfl | apply g_partMB rfl rfl rfl | fail))
        | refine gS ?_ | exact s_m | intro _)
      exact gM ⟨ks, kq, kc, us, q, c, H1⟩ ⟨hs1, by rw [show oR rs = [] from if_neg (by omega), List.append_nil]; exact hks, by rw [show oR rs = [] from if_neg (by omega), List.append_nil]; exact hF⟩
  clear hF hks hs1
  obtain ⟨ks, kq, kc, us, q, c, H1⟩ := y
  obtain ⟨hs1, hks, hF⟩ := hy
  dsimp only at hs1 hks hF ⊢
  have hkl : ks.length = us.length := by rw [hks, hF.1, List.length_map, List.length_map]
  have hul := hF.1
  simp only [List.length_map, List.length_append, List.length_singleton] at hul
  repeat (first
    | (refine g_ops ?_; first | refine s_qa ?_ | refine sO ?_ | refine s_n (fun _ => ?_) | refine s_app (fun _ _ => ?_) | refine s_b0 (fun _ => ?_) | ((fail_if_success refine g_lit rfl rfl rfl ?_); first | apply g_partM rfl rfl rfl | apply g_partMB rfl rfl rfl | fail))
    | refine gS ?_ | exact s_m | intro _)
  refine g_cutX (X := DoX) (fun y => [(1, ptr rb), (2, ptr b2), (3, .slice y.kq y.ks.length y.kc), (4, .slice y.q y.us.length y.c)]) (fun y => [.own y.kq y.ks.length y.kc 1 (y.ks.map .string) 9, .own y.q y.us.length y.c 6 (y.us.flatMap Vc.cells) 25, .row b2 [int 0, .bool false, int 0, .string ByteArray.empty, .slice none 0 0, .slice none 0 0] 25, .row rb [int code, int w, int l, int n, .slice fp fs.length fc, .slice ep es.length ec, int cw, int cl, int cn, int ci, .string cs, .slice rp rs.length rc, int node] 50, Pile y.H]) (fun y => HP.sub H y.H ∧ y.ks = ([(kCode, intV code)] ++ OC ++ oE es ++ oF fs ++ oR rs ++ OS).map (·.1) ∧ DvAt y.H (([(kCode, intV code)] ++ OC ++ oE es ++ oF fs ++ oR rs ++ OS).map (·.2)) y.us) ?_ (fun y hy => ?_)
  · by_cases hc : w = 0 ∧ l = 0 ∧ n = 0
    · refine g_as 189 (v' := .bool false) rfl (congrArg Value.bool (by simp [hc])) ?_
      repeat (first
        | (refine g_ops ?_; first | refine sO ?_ | refine s_n (fun _ => ?_) | refine s_app (fun _ _ => ?_) | refine s_b0 (fun _ => ?_) | ((fail_if_success refine g_lit rfl rfl rfl ?_); first | apply g_partM rfl rfl rfl | apply g_partMB rfl rfl rfl | fail))
        | refine gS ?_ | exact s_m | intro _)
      exact gM ⟨ks, kq, kc, us, q, c, H1⟩ ⟨hs1, by rw [hS0 hc, List.append_nil]; exact hks, by rw [hS0 hc, List.append_nil]; exact hF⟩
    · refine g_as 189 (v' := .bool true) rfl (congrArg Value.bool (by simp; apply Classical.byContradiction; intro h; simp only [not_or, Decidable.not_not] at h; exact hc ⟨h.1, h.2.1, h.2.2⟩)) ?_
      have h1 := dstr (stext w l n)
      dsimp only [Vc.cells] at h1
      repeat (first
        | (refine g_ops ?_; first | refine sO ?_ | refine s_n (fun _ => ?_) | refine s_app (fun _ _ => ?_) | refine s_b0 (fun _ => ?_) | ((fail_if_success refine g_lit rfl rfl rfl ?_); first | apply g_partM rfl rfl rfl | apply g_partMB rfl rfl rfl | fail) | refine s_k (hts) ?_ | refine s_k (h1) ?_)
        | refine gS ?_ | exact s_m | intro _)
      rename_i _ kq6 kc6 _ q6 c6
      rw [ks_snoc ks kStamp, ks_len ks kStamp, vc_snoc us (vcz 4 false 0 (stext w l n)), vc_len us (vcz 4 false 0 (stext w l n))]
      exact gM ⟨ks ++ [kStamp], kq6, kc6, us ++ [vcz 4 false 0 (stext w l n)], q6, c6, H1⟩ ⟨hs1, by rw [hS1 hc, List.map_append, ← hks]; rfl, by rw [hS1 hc, List.map_append]; exact hF.snoc (vatz H1 false ⟨by decide, by decide⟩ inz (by omega))⟩
  clear hF hks hs1
  obtain ⟨ks, kq, kc, us, q, c, H1⟩ := y
  obtain ⟨hs1, hks, hF⟩ := hy
  dsimp only at hs1 hks hF ⊢
  have hkl : ks.length = us.length := by rw [hks, hF.1, List.length_map, List.length_map]
  have hul := hF.1
  simp only [List.length_map, List.length_append, List.length_singleton] at hul
  repeat (first
    | (refine g_ops ?_; first | refine sO ?_ | refine s_n (fun _ => ?_) | refine s_app (fun _ _ => ?_) | refine s_b0 (fun _ => ?_) | ((fail_if_success refine g_lit rfl rfl rfl ?_); first | apply g_partM rfl rfl rfl | apply g_partMB rfl rfl rfl | fail) | refine s_k (dpairs _ _ _ _ _ _) ?_)
    | refine gS ?_ | exact s_m | intro _)
  refine g_pile (p := kq) (n := 1) (by (repeat (first | exact Sel.here | apply Sel.there)); first | done | fail) (by (repeat (first | exact Sel.here | apply Sel.there)); first | done | fail) (fun H2 hs2 hK => ?_)
  refine g_pile (p := q) (n := 6) (by (repeat (first | exact Sel.here | apply Sel.there)); first | done | fail) (by (repeat (first | exact Sel.here | apply Sel.there)); first | done | fail) (fun H3 hs3 hS => ?_)
  exact gR (H3, ⟨6, false, 0, ByteArray.empty, kq, ks.length, kc, q, us.length, c⟩) ⟨hs1.trans (hs2.trans hs3), hF.kv' (hs2.trans hs3) hks (hK.grow hs3) hS (fun f hf => by
    simp only [List.mem_append, List.mem_singleton] at hf
    rcases hf with (((((rfl | hf) | hf) | hf) | hf) | hf)
    · show kCode.size ≤ _; decide
    · have := kC f hf; omega
    · have := kE f hf; omega
    · have := kF f hf; omega
    · have := kR f hf; omega
    · have := kS f hf; omega) (by simp only [List.length_append, List.length_singleton]; omega)⟩
end Go.Proofs.YtaahibcibgljbaaDoor
