/- Contracts and laws that the proof stands on. -/
import Derived.Test.YtaahibcibgljbaaDoorCallReplies26
import Derived.Test.YtaahibcibgljbaaDoorCallReplies24
import Derived.Test.YtaahibcibgljbaaDoorCallReplies13
import Derived.Shelf.Strconv.Itoa3
import Derived.Test.YtaahibcibgljbaaDoorProg
import Derived.Test.YtaahibcibgljbaaDoorCallReplies20
set_option linter.unusedSimpArgs false
set_option linter.unusedVariables false
namespace Go.Proofs.YtaahibcibgljbaaDoor
open Go.Sl facts
def szE : List Evt → Nat
  | [] => 0
  | x :: l => x.st.size + x.data.size + szE l
theorem szE_cons (x : Evt) (l : List Evt) : szE (x :: l) = x.st.size + x.data.size + szE l := rfl
attribute [local irreducible] weigh weighL
theorem evGood {y : Evt} (h : EvtIn y) : GoodT (evL y) := goodL fun z hz => by
  simp only [List.mem_cons, List.not_mem_nil, or_false] at hz
  rcases hz with rfl | rfl | rfl | rfl | rfl
  · exact goodS
  · exact goodI h.i1
  · exact goodS
  · exact goodS
  · exact goodI h.i5
theorem rgGood {y : Rge} (h : inI y.a ∧ inI y.b ∧ inI y.c ∧ inI y.d) : GoodT (rgL y) := goodL fun z hz => by
  simp only [List.mem_cons, List.not_mem_nil, or_false] at hz
  rcases hz with rfl | rfl | rfl | rfl
  · exact goodI h.1
  · exact goodI h.2.1
  · exact goodI h.2.2.1
  · exact goodI h.2.2.2
theorem kvGood {F : List KV} (h : ∀ f ∈ F, GoodT f.2) : GoodT (kvV F) := goodP (by simp) fun z hz => by
  obtain ⟨f, hf, rfl⟩ := List.mem_map.1 hz
  exact h f hf
theorem formGood {H : HP} {x : Rp} {fs : List Int} {es : List Evt} {rs : List Rge} (hx : RpIn H x fs es rs) : ∀ f ∈ formR x fs es rs, GoodT f.2 := by
  have gC : ∀ f ∈ oC x, GoodT f.2 := by
    unfold oC
    split
    · intro f h; cases h
    · intro f h
      rw [List.mem_singleton] at h
      subst h
      exact goodL fun z hz => by
        simp only [List.mem_cons, List.not_mem_nil, or_false] at hz
        rcases hz with rfl | rfl | rfl
        · exact goodS
        · exact goodI hx.i8
        · exact goodS
  have gE : ∀ f ∈ oE es, GoodT f.2 := by
    unfold oE
    split
    · intro f h
      rw [List.mem_singleton] at h
      subst h
      exact goodL fun z hz => by
        obtain ⟨y, hy, rfl⟩ := List.mem_map.1 hz
        exact evGood (hx.ev y hy)
    · intro f h; cases h
  have gF : ∀ f ∈ oF fs, GoodT f.2 := by
    unfold oF
    split
    · intro f h
      rw [List.mem_singleton] at h
      subst h
      exact goodL fun z hz => by
        obtain ⟨y, hy, rfl⟩ := List.mem_map.1 hz
        exact goodI (hx.fi y hy)
    · intro f h; cases h
  have gR : ∀ f ∈ oR rs, GoodT f.2 := by
    unfold oR
    split
    · intro f h
      rw [List.mem_singleton] at h
      subst h
      exact goodL fun z hz => by
        obtain ⟨y, hy, rfl⟩ := List.mem_map.1 hz
        exact rgGood (hx.ri y hy)
    · intro f h; cases h
  have gS : ∀ f ∈ oS x, GoodT f.2 := by
    unfold oS
    split
    · intro f h; cases h
    · intro f h
      rw [List.mem_singleton] at h
      subst h
      exact goodS
  have g0 : ∀ f ∈ [(kCode, intV x.code)], GoodT f.2 := fun f h => by
    rw [List.mem_singleton] at h
    subst h
    exact goodI hx.i1
  have g1 : ∀ f ∈ [(kNode, intV x.node)], GoodT f.2 := fun f h => by
    rw [List.mem_singleton] at h
    subst h
    exact goodI hx.i9
  intro f hf
  unfold formR at hf
  split at hf
  · rcases List.mem_append.1 hf with h | h
    · exact g0 f h
    · exact g1 f h
  split at hf
  · exact g0 f hf
  simp only [List.mem_append] at hf
  rcases hf with (((((h | h) | h) | h) | h) | h)
  · exact g0 f h
  · exact gC f h
  · exact gE f h
  · exact gF f h
  · exact gR f h
  · exact gS f h
theorem szEvs {l : List Evt} : (∀ y ∈ l, EvtIn y) → szK (l.map evL) ≤ 80 * l.length + szE l := by
  induction l with
  | nil => intro _; simp [szK_nil, szE]
  | cons x l ih =>
    intro h
    have h1 := ih fun y hy => h y (List.mem_cons_of_mem _ hy)
    have hx := h x (List.mem_cons_self ..)
    have h2 := stext_len x.w x.l x.nd hx.i2 hx.i3 hx.i4
    have e0 : ByteArray.empty.size = 0 := rfl
    have hz : szV (evL x) ≤ 80 + x.st.size + x.data.size := by
      unfold evL listV textV intV
      simp only [szV_mk, szK_cons, szK_nil, szS_nil, List.length_nil, List.length_cons]
      omega
    rw [List.map_cons, szK_cons, szE_cons, List.length_cons]
    omega
theorem szInts : ∀ (l : List Int), szK (l.map intV) ≤ 5 * l.length
  | [] => by simp [szK_nil]
  | x :: l => by
    have h1 := szInts l
    have e0 : ByteArray.empty.size = 0 := rfl
    rw [List.map_cons, szK_cons]
    unfold intV at h1 ⊢
    simp only [szV_mk, szK_cons, szK_nil, szS_nil, List.length_nil, List.length_cons] at h1 ⊢
    omega
theorem szRgs : ∀ (l : List Rge), szK (l.map rgL) ≤ 20 * l.length
  | [] => by simp [szK_nil]
  | x :: l => by
    have h1 := szRgs l
    have e0 : ByteArray.empty.size = 0 := rfl
    rw [List.map_cons, szK_cons]
    unfold rgL listV intV at h1 ⊢
    simp only [szV_mk, szK_cons, szK_nil, szS_nil, List.length_nil, List.length_cons] at h1 ⊢
    omega
def szF : List KV → Nat
  | [] => 0
  | f :: l => 1 + f.1.size + szV f.2 + szF l
theorem szF_app : ∀ (l m : List KV), szF (l ++ m) = szF l + szF m
  | [], m => by simp [szF]
  | f :: l, m => by rw [List.cons_append]; simp only [szF]; rw [szF_app l m]; omega
theorem szF_kv (F : List KV) : szV (kvV F) ≤ 1 + szF F := by
  have h1 : ∀ l : List KV, l.length + szS (l.map (·.1)) + szK (l.map (·.2)) ≤ szF l := by
    intro l
    induction l with
    | nil => simp [szS_nil, szK_nil, szF]
    | cons f l ih => rw [List.map_cons, List.map_cons, szS_cons, szK_cons, List.length_cons]; simp only [szF]; omega
  have e0 : ByteArray.empty.size = 0 := rfl
  have := h1 F
  unfold kvV pairsV
  rw [szV_mk]
  omega
theorem formSz {H : HP} {x : Rp} {fs : List Int} {es : List Evt} {rs : List Rge} (hx : RpIn H x fs es rs) : szV (kvV (formR x fs es rs)) ≤ 1000 + x.cs.size + 80 * es.length + szE es + 5 * fs.length + 20 * rs.length := by
  have e0 : ByteArray.empty.size = 0 := rfl
  have k1 : kCode.size = 4 := rfl
  have k2 : kNode.size = 4 := rfl
  have k3 : kCursor.size = 6 := rfl
  have k4 : kEvents.size = 6 := rfl
  have k5 : kFirsts.size = 6 := rfl
  have k6 : kRanges.size = 6 := rfl
  have k7 : kStamp.size = 5 := rfl
  have z1 := stext_len x.cw x.cl x.cn hx.i5 hx.i6 hx.i7
  have z2 := stext_len x.w x.l x.n hx.i2 hx.i3 hx.i4
  have hE := szEvs hx.ev
  have hF := szInts fs
  have hR := szRgs rs
  have s0 : szF [(kCode, intV x.code)] ≤ 20 := by unfold intV; simp only [szF, szV_mk, szK_nil, szS_nil, List.length_nil]; omega
  have s1 : szF [(kNode, intV x.node)] ≤ 20 := by unfold intV; simp only [szF, szV_mk, szK_nil, szS_nil, List.length_nil]; omega
  have sC : szF (oC x) ≤ 200 + x.cs.size := by
    unfold oC
    split
    · simp only [szF]; omega
    · unfold curL listV textV intV
      simp only [szF, szV_mk, szK_cons, szK_nil, szS_nil, List.length_nil]
      omega
  have sE : szF (oE es) ≤ 20 + 80 * es.length + szE es := by
    unfold oE
    split
    · unfold listV
      simp only [szF, szV_mk, szS_nil, List.length_nil]
      omega
    · simp only [szF]; omega
  have sF : szF (oF fs) ≤ 20 + 5 * fs.length := by
    unfold oF
    split
    · unfold listV
      simp only [szF, szV_mk, szS_nil, List.length_nil]
      omega
    · simp only [szF]; omega
  have sR : szF (oR rs) ≤ 20 + 20 * rs.length := by
    unfold oR
    split
    · unfold listV
      simp only [szF, szV_mk, szS_nil, List.length_nil]
      omega
    · simp only [szF]; omega
  have sS : szF (oS x) ≤ 200 := by
    unfold oS
    split
    · simp only [szF]; omega
    · unfold textV
      simp only [szF, szV_mk, szK_nil, szS_nil, List.length_nil]
      omega
  have hk := szF_kv (formR x fs es rs)
  have hf : szF (formR x fs es rs) ≤ 900 + x.cs.size + 80 * es.length + szE es + 5 * fs.length + 20 * rs.length := by
    unfold formR
    split
    · rw [szF_app]; omega
    split
    · omega
    · simp only [szF_app]; omega
  omega
attribute [local irreducible] Code.wp wpList Exit.then Exit.inBlock bodyPost Back MidQ G GP QStep VStep CStep SStep Does Post Reads
attribute [local irreducible] sumF textB
set_option maxHeartbeats 4000000 in
theorem events28 {H : HP} (p : Option Addr) (c : Nat) (l : List Evt) (hS : SlAt (Pile H) 7 p l.length (l.flatMap Evt.cells)) (hA : ∀ x ∈ l, EvtIn x) (hlen : l.length ≤ 9223372036854775807) :
    Does Tryd.prog 14 [.slice p l.length c, int 3000] [Pile H] (X := Int) int (fun _ => [Pile H]) (fun r => 0 ≤ r ∧ r ≤ most ∧ (r ≤ 3000 → (l.length : Int) + szE l ≤ r)) := by
  refine fn_intro Tryd.func14 rfl Tryd.ntmps14 rfl (by simp only [argFr, Nat.zero_add, Nat.reduceAdd]; rfl) (fun Γ => ?_)
  have hmost : most = 1099511627776 := rfl
  have h0 := sum_upS 0 [(l.length : Int)] (by simp) (by omega)
  simp only [List.sum_cons, List.sum_nil, Int.add_zero, Int.zero_add] at h0
  repeat (first
    | (refine g_ops ?_; first | refine sO ?_ | refine s_n (fun _ => ?_) | refine s_app (fun _ _ => ?_) | refine s_b0 (fun _ => ?_) | ((fail_if_success refine g_lit rfl rfl rfl ?_); first | apply g_partM rfl rfl rfl | apply g_partMB rfl rfl rfl | fail) | refine s_k (sum_row _ _ _ 0 [(l.length : Int)] ⟨by omega, by omega⟩ (by simp; omega) (by simp)) ?_)
    | apply g_regB (id := 3) 19 | refine gS ?_ | exact s_m | intro _ | (refine gp_take ?_; first | refine pT ?_ | ((fail_if_success refine gp_lit rfl rfl rfl rfl ?_); first | apply gp_guard_dec rfl rfl rfl rfl | apply gp_guard rfl rfl rfl rfl | fail))
    | (refine gp_see ?_; first | refine p_f ?_ | refine pS ?_ | ((fail_if_success refine gp_lit rfl rfl rfl rfl ?_); first | apply gp_guard_dec rfl rfl rfl rfl | apply gp_guard rfl rfl rfl rfl | fail) | refine p_h (sum_row _ _ _ 0 [(l.length : Int)] ⟨by omega, by omega⟩ (by simp; omega) (by simp)) hd hk ?_)
    | (refine gp_one ?_; first | refine pO ?_ | refine p_n (fun _ => ?_) | refine p_app (fun _ _ => ?_) | refine p_b0 (fun _ => ?_) | ((fail_if_success refine gp_lit rfl rfl rfl rfl ?_); first | apply gp_guard_dec rfl rfl rfl rfl | apply gp_guard rfl rfl rfl rfl | fail) | refine p_k (sum_row _ _ _ 0 [(l.length : Int)] ⟨by omega, by omega⟩ (by simp; omega) (by simp)) ?_)
    | refine gp_two ?_ ?_ | refine gp_done hd hk ?_ | intro _ | refine p_ta hd hk (fun _ _ _ hd hk => ?_) | refine p_ts hd hk (fun _ hd hk => ?_))
  refine g_loop (X := IM) (fun x => [(6, int x.i), (5, int x.m), (4, int 0), (0, .slice p l.length c), (1, int 3000)]) (fun _ => [Pile H]) (fun x => x.i ≤ l.length ∧ 0 ≤ x.m ∧ x.m ≤ most ∧ (x.m ≤ 3000 → (l.length : Int) + szE l ≤ x.m + szE (l.drop x.i))) (fun x => l.length - x.i) ⟨0, sumF 0 [(l.length : Int)]⟩ ⟨Nat.zero_le _, by simp only; omega, h0.1, fun h => by have := h0.2.2 (by simp only at h; omega); simp only [List.drop_zero]; omega⟩ (by (repeat (first | exact FrSub.nil | refine FrSub.cons rfl ?_)); first | done | fail) (by (repeat (first | exact Take.nil | apply Take.cons | exact Sel.here | apply Sel.there)); first | done | fail) (fun x hx => ?_)
  obtain ⟨i, m⟩ := x
  obtain ⟨hi, hm0, hm1, hm2⟩ := hx
  dsimp only at hi hm0 hm1 hm2 ⊢
  repeat (first
    | (refine g_ops ?_; first | refine sO ?_ | refine s_n (fun _ => ?_) | refine s_app (fun _ _ => ?_) | refine s_b0 (fun _ => ?_) | ((fail_if_success refine g_lit rfl rfl rfl ?_); first | apply g_partM rfl rfl rfl | apply g_partMB rfl rfl rfl | fail))
    | apply g_regB (id := 3) 19 | refine gS ?_ | exact s_m | intro _ | (refine gp_take ?_; first | refine pT ?_ | ((fail_if_success refine gp_lit rfl rfl rfl rfl ?_); first | apply gp_guard_dec rfl rfl rfl rfl | apply gp_guard rfl rfl rfl rfl | fail))
    | (refine gp_see ?_; first | refine p_f ?_ | refine pS ?_ | ((fail_if_success refine gp_lit rfl rfl rfl rfl ?_); first | apply gp_guard_dec rfl rfl rfl rfl | apply gp_guard rfl rfl rfl rfl | fail))
    | (refine gp_one ?_; first | refine pO ?_ | refine p_n (fun _ => ?_) | refine p_app (fun _ _ => ?_) | refine p_b0 (fun _ => ?_) | ((fail_if_success refine gp_lit rfl rfl rfl rfl ?_); first | apply gp_guard_dec rfl rfl rfl rfl | apply gp_guard rfl rfl rfl rfl | fail))
    | refine gp_two ?_ ?_ | refine gp_done hd hk ?_ | intro _ | refine p_ta hd hk (fun _ _ _ hd hk => ?_) | refine p_ts hd hk (fun _ hd hk => ?_))
  refine g_cond rfl (fun h2 => ?_) (fun h2 => ?_)
  · have hi' : i < l.length := by simp at h2; omega
    obtain ⟨b, o, rfl, hcell⟩ := slAt_elem hS evt_len (by decide) (i := i) (a := l[i]) (by simp [hi'])
    have hAi := hA l[i] (List.getElem_mem _)
    rw [List.drop_eq_getElem_cons hi', szE_cons] at hm2
    generalize hx : l[i] = x at hcell hAi hm2
    have hsl := hAi.s
    have hdl := hAi.d
    have h3 := sum_upS m [(x.st.size : Int), (x.data.size : Int)] (by simp) hm1
    simp only [List.sum_cons, List.sum_nil, Int.add_zero] at h3
    repeat (first
      | (refine g_ops ?_; first | refine sO ?_ | refine s_n (fun _ => ?_) | refine s_app (fun _ _ => ?_) | refine s_b0 (fun _ => ?_) | ((fail_if_success refine g_lit rfl rfl rfl ?_); first | apply g_partM rfl rfl rfl | apply g_partMB rfl rfl rfl | fail))
      | apply g_regB (id := 3) 19 | refine gS ?_ | exact s_m | intro _ | (refine gp_take ?_; first | refine pT ?_ | ((fail_if_success refine gp_lit rfl rfl rfl rfl ?_); first | apply gp_guard_dec rfl rfl rfl rfl | apply gp_guard rfl rfl rfl rfl | fail))
      | (refine gp_see ?_; first | refine p_f ?_ | refine pS ?_ | ((fail_if_success refine gp_lit rfl rfl rfl rfl ?_); first | apply gp_guard_dec rfl rfl rfl rfl | apply gp_guard rfl rfl rfl rfl | fail))
      | (refine gp_one ?_; first | refine pO ?_ | refine p_n (fun _ => ?_) | refine p_app (fun _ _ => ?_) | refine p_b0 (fun _ => ?_) | ((fail_if_success refine gp_lit rfl rfl rfl rfl ?_); first | apply gp_guard_dec rfl rfl rfl rfl | apply gp_guard rfl rfl rfl rfl | fail))
      | refine gp_two ?_ ?_ | refine gp_done hd hk ?_ | intro _ | refine p_ta hd hk (fun _ _ _ hd hk => ?_) | refine p_ts hd hk (fun _ hd hk => ?_))
    refine g_draw (.take 0 (.take 1 (.take 2 (.take 3 (.take 4 (.see 5 [] (.take 6 (.take 7 (.take 8 (.take 9 (.take 10 (.see 11 [] (.take 12 (.one 13 (.one 14 (.take 15 .done)))))))))))))))) (by kernel_rfl) (take_all _) (fun k hd hk => ?_)
    repeat (first
      | (refine gp_take ?_; first | refine pT ?_ | ((fail_if_success refine gp_lit rfl rfl rfl rfl ?_); first | apply gp_guard_dec rfl rfl rfl rfl | apply gp_guard rfl rfl rfl rfl | fail))
      | (refine gp_see ?_; first | refine p_f ?_ | refine pS ?_ | ((fail_if_success refine gp_lit rfl rfl rfl rfl ?_); first | apply gp_guard_dec rfl rfl rfl rfl | apply gp_guard rfl rfl rfl rfl | fail) | refine p_h (sum_row _ _ _ m [(x.st.size : Int), (x.data.size : Int)] ⟨hm0, hm1⟩ (by simp; omega) (by simp)) hd hk ?_)
      | (refine gp_one ?_; first | refine pO ?_ | refine p_n (fun _ => ?_) | refine p_app (fun _ _ => ?_) | refine p_b0 (fun _ => ?_) | ((fail_if_success refine gp_lit rfl rfl rfl rfl ?_); first | apply gp_guard_dec rfl rfl rfl rfl | apply gp_guard rfl rfl rfl rfl | fail) | refine p_k (sum_row _ _ _ m [(x.st.size : Int), (x.data.size : Int)] ⟨hm0, hm1⟩ (by simp; omega) (by simp)) ?_)
      | refine gp_two ?_ ?_ | refine gp_done hd hk ?_ | intro _ | refine p_ta hd hk (fun _ _ _ hd hk => ?_) | refine p_ts hd hk (fun _ hd hk => ?_))
    repeat (first
      | (refine g_ops ?_; first | refine sO ?_ | refine s_n (fun _ => ?_) | refine s_app (fun _ _ => ?_) | refine s_b0 (fun _ => ?_) | ((fail_if_success refine g_lit rfl rfl rfl ?_); first | apply g_partM rfl rfl rfl | apply g_partMB rfl rfl rfl | fail))
      | apply g_regB (id := 3) 19 | refine gS ?_ | exact s_m | intro _ | (refine gp_take ?_; first | refine pT ?_ | ((fail_if_success refine gp_lit rfl rfl rfl rfl ?_); first | apply gp_guard_dec rfl rfl rfl rfl | apply gp_guard rfl rfl rfl rfl | fail))
      | (refine gp_see ?_; first | refine p_f ?_ | refine pS ?_ | ((fail_if_success refine gp_lit rfl rfl rfl rfl ?_); first | apply gp_guard_dec rfl rfl rfl rfl | apply gp_guard rfl rfl rfl rfl | fail))
      | (refine gp_one ?_; first | refine pO ?_ | refine p_n (fun _ => ?_) | refine p_app (fun _ _ => ?_) | refine p_b0 (fun _ => ?_) | ((fail_if_success refine gp_lit rfl rfl rfl rfl ?_); first | apply gp_guard_dec rfl rfl rfl rfl | apply gp_guard rfl rfl rfl rfl | fail))
      | refine gp_two ?_ ?_ | refine gp_done hd hk ?_ | intro _ | refine p_ta hd hk (fun _ _ _ hd hk => ?_) | refine p_ts hd hk (fun _ hd hk => ?_))
    refine g_as 6 (v' := int ((i + 1 : Nat) : Int)) rfl (congrArg (Value.int .i64) (by push_cast; rfl)) ?_
    exact g_again ⟨i + 1, sumF m [(x.st.size : Int), (x.data.size : Int)]⟩ (by simp only []; omega) ⟨hi', by simp only []; omega, h3.1, fun h => by
      simp only at h ⊢
      have h5 := h3.2.2 (by omega)
      have h7 := hm2 (by omega)
      push_cast at h7
      omega⟩ (by (repeat (first | exact FrSub.nil | refine FrSub.cons rfl ?_)); first | done | fail) (by (repeat (first | exact Take.nil | apply Take.cons | exact Sel.here | apply Sel.there)); first | done | fail)
  · repeat (first
      | (refine g_ops ?_; first | refine sO ?_ | refine s_n (fun _ => ?_) | refine s_app (fun _ _ => ?_) | refine s_b0 (fun _ => ?_) | ((fail_if_success refine g_lit rfl rfl rfl ?_); first | apply g_partM rfl rfl rfl | apply g_partMB rfl rfl rfl | fail))
      | apply g_regB (id := 3) 19 | refine gS ?_ | exact s_m | intro _ | (refine gp_take ?_; first | refine pT ?_ | ((fail_if_success refine gp_lit rfl rfl rfl rfl ?_); first | apply gp_guard_dec rfl rfl rfl rfl | apply gp_guard rfl rfl rfl rfl | fail))
      | (refine gp_see ?_; first | refine p_f ?_ | refine pS ?_ | ((fail_if_success refine gp_lit rfl rfl rfl rfl ?_); first | apply gp_guard_dec rfl rfl rfl rfl | apply gp_guard rfl rfl rfl rfl | fail))
      | (refine gp_one ?_; first | refine pO ?_ | refine p_n (fun _ => ?_) | refine p_app (fun _ _ => ?_) | refine p_b0 (fun _ => ?_) | ((fail_if_success refine gp_lit rfl rfl rfl rfl ?_); first | apply gp_guard_dec rfl rfl rfl rfl | apply gp_guard rfl rfl rfl rfl | fail))
      | refine gp_two ?_ ?_ | refine gp_done hd hk ?_ | intro _ | refine p_ta hd hk (fun _ _ _ hd hk => ?_) | refine p_ts hd hk (fun _ hd hk => ?_))
    exact s_r m (hx := ⟨hm0, hm1, fun h => by
      have : i = l.length := by simp at h2; omega
      subst this
      have := hm2 h
      rw [List.drop_length] at this
      simpa [szE] using this⟩)
structure RqIn (H : HP) (x : Rp) (fs : List Int) (es : List Evt) (rs : List Rge) : Prop where
  rp : es.length ≤ 100000 → fs.length ≤ 100000 → rs.length ≤ 100000 → RpIn H x fs es rs
  fn : x.fn = fs.length
  en : x.en = es.length
  rn : x.rn = rs.length
  eS : SlAt (Pile H) 7 x.ep es.length (es.flatMap Evt.cells)
  ev : ∀ y ∈ es, EvtIn y
  cz : x.cs.size ≤ 9223372036854775807
  fz : fs.length ≤ 9223372036854775807
  ez : es.length ≤ 9223372036854775807
  rz : rs.length ≤ 9223372036854775807
set_option maxHeartbeats 16000000 in
theorem replies {H : HP} (hT : Tb H) (hE : ErrH H) (hI : ItH H) (x : Rp) {fs : List Int} {es : List Evt} {rs : List Rge} (hx : RqIn H x fs es rs) : Does1 Tryd.prog 4 [.agg x.cells.toArray] [Pile H] (.bool true) := by
  have hev := events28 x.ep x.ec es hx.eS hx.ev hx.ez
  have hrp := hx.rp
  have aw := awake28 hT hE
  have hcx := fun (g : RpIn H x fs es rs) => ctext hT x (reply_ hI x g) (kvGood (formGood g)).2
  have hrd := fun (H' : HP) (s : HP.sub H H') (g : RpIn H x fs es rs) => replyD x (g.grow s)
  have hgd := fun (g : RpIn H x fs es rs) => kvGood (formGood g)
  have hsz := fun (g : RpIn H x fs es rs) => formSz g
  generalize hV : kvV (formR x fs es rs) = V0 at hcx hrd hgd hsz
  obtain ⟨_, rfl', rfl2, rfl3, _, _, cz, fz, ez, rz⟩ := hx
  obtain ⟨code, w, l, n, fp, fn, fc, ep, en, ec, cw, cl, cn, ci, cs, rp, rn, rc, node⟩ := x
  dsimp only at rfl' rfl2 rfl3 cz
  subst rfl' rfl2 rfl3
  have hmost : most = 1099511627776 := rfl
  dsimp only [Rp.cells] at hev hcx hrd hsz ⊢
  refine fn_intro Tryd.func4 rfl Tryd.ntmps4 rfl (by simp only [argFr, Nat.zero_add, Nat.reduceAdd]; rfl) (fun Γ => ?_)
  repeat ((fail_if_success refine s_at 2 ?_); first
    | (refine g_ops ?_; first | refine sO ?_ | refine s_n (fun _ => ?_) | refine s_app (fun _ _ => ?_) | refine s_b0 (fun _ => ?_) | ((fail_if_success refine g_lit rfl rfl rfl ?_); first | apply g_partM rfl rfl rfl | apply g_partMB rfl rfl rfl | fail))
    | refine gS ?_ | exact s_m | intro _)
  rename_i rb
  repeat (first | (refine g_ops ?_; first | refine sO ?_) | refine g_nil ?_ | refine g_then_normal ?_ | refine g_seq ?_)
  refine g_cutX (X := Int) (fun r => [(1, ptr rb), (2, .bool false), (18, .bool (decide (3000 < r)))]) (fun _ => [.row rb [int code, int w, int l, int n, .slice fp fs.length fc, .slice ep es.length ec, int cw, int cl, int cn, int ci, .string cs, .slice rp rs.length rc, int node] 50, Pile H]) (fun r => 0 ≤ r ∧ (r ≤ 3000 → (es.length : Int) + szE es + fs.length + rs.length + cs.size ≤ r)) ?_ (fun r hr => ?_)
  · have hsum := fun (T : Int) (hT : 0 ≤ T ∧ T ≤ most ∧ (T ≤ 3000 → (es.length : Int) + szE es ≤ T)) => sum_upS T [(fs.length : Int), (rs.length : Int), (cs.size : Int)] (by simp) hT.2.1
    have hlim : ∀ x ∈ [(fs.length : Int), (rs.length : Int), (cs.size : Int)], 0 ≤ x ∧ x ≤ 9223372036854775807 := by simp; omega
    refine g_draw (.take 0 (.see 1 [] (.take 3 (.see 4 [] (.take 5 (.take 6 (.see 7 [] (.take 8 (.take 9 (.take 10 (.see 11 [] (.take 12 (.two 2 (.one 13 (.one 14 (.take 15 .done))) 13 (.one 2 (.one 14 (.take 15 .done)))))))))))))))) (by kernel_rfl) (C := [.row rb [int code, int w, int l, int n, .slice fp fs.length fc, .slice ep es.length ec, int cw, int cl, int cn, int ci, .string cs, .slice rp rs.length rc, int node] 50]) (by (repeat (first | exact Take.nil | apply Take.cons | exact Sel.here | apply Sel.there)); first | done | fail) (fun m hd hk => ?_)
    repeat (first
      | (refine gp_take ?_; first | refine pT ?_ | ((fail_if_success refine gp_lit rfl rfl rfl rfl ?_); first | apply gp_guard_dec rfl rfl rfl rfl | apply gp_guard rfl rfl rfl rfl | fail))
      | (refine gp_see ?_; first | refine p_f ?_ | refine pS ?_ | ((fail_if_success refine gp_lit rfl rfl rfl rfl ?_); first | apply gp_guard_dec rfl rfl rfl rfl | apply gp_guard rfl rfl rfl rfl | fail))
      | (refine gp_one ?_; first | refine pO ?_ | refine p_n (fun _ => ?_) | refine p_app (fun _ _ => ?_) | refine p_b0 (fun _ => ?_) | ((fail_if_success refine gp_lit rfl rfl rfl rfl ?_); first | apply gp_guard_dec rfl rfl rfl rfl | apply gp_guard rfl rfl rfl rfl | fail) | refine p_c (hev) (fun _ _ => ?_))
      | refine gp_two ?_ ?_ | refine gp_done hd hk ?_ | intro _ | refine p_ta hd hk (fun _ _ _ hd hk => ?_) | refine p_ts hd hk (fun _ hd hk => ?_))
    · rename_i T hTt _
      have h1 := hsum T hTt
      simp only [List.sum_cons, List.sum_nil, Int.add_zero] at h1
      repeat (first
        | (refine gp_take ?_; first | refine pT ?_ | ((fail_if_success refine gp_lit rfl rfl rfl rfl ?_); first | apply gp_guard_dec rfl rfl rfl rfl | apply gp_guard rfl rfl rfl rfl | fail))
        | (refine gp_see ?_; first | refine p_f ?_ | refine pS ?_ | ((fail_if_success refine gp_lit rfl rfl rfl rfl ?_); first | apply gp_guard_dec rfl rfl rfl rfl | apply gp_guard rfl rfl rfl rfl | fail) | refine p_h (sum_row _ _ _ T [(fs.length : Int), (rs.length : Int), (cs.size : Int)] ⟨hTt.1, hTt.2.1⟩ hlim (by simp)) hd hk ?_)
        | (refine gp_one ?_; first | refine pO ?_ | refine p_n (fun _ => ?_) | refine p_app (fun _ _ => ?_) | refine p_b0 (fun _ => ?_) | ((fail_if_success refine gp_lit rfl rfl rfl rfl ?_); first | apply gp_guard_dec rfl rfl rfl rfl | apply gp_guard rfl rfl rfl rfl | fail) | refine p_k (sum_row _ _ _ T [(fs.length : Int), (rs.length : Int), (cs.size : Int)] ⟨hTt.1, hTt.2.1⟩ hlim (by simp)) ?_)
        | refine gp_two ?_ ?_ | refine gp_done hd hk ?_ | intro _ | refine p_ta hd hk (fun _ _ _ hd hk => ?_) | refine p_ts hd hk (fun _ hd hk => ?_))
      generalize sumF T [(fs.length : Int), (rs.length : Int), (cs.size : Int)] = m1 at h1 ⊢
      try dsimp only [List.cons_append, List.nil_append, List.append_eq]
      exact g_midX m1 ⟨by omega, fun h => by
        have := h1.2.2 (by omega)
        have := hTt.2.2 (by omega)
        omega⟩ (by (repeat (first | exact FrSub.nil | refine FrSub.cons rfl ?_)); first | done | fail) (by (repeat (first | exact Take.nil | apply Take.cons | exact Sel.here | apply Sel.there)); first | done | fail)
    · repeat (first
        | (refine gp_take ?_; first | refine pT ?_ | ((fail_if_success refine gp_lit rfl rfl rfl rfl ?_); first | apply gp_guard_dec rfl rfl rfl rfl | apply gp_guard rfl rfl rfl rfl | fail))
        | (refine gp_see ?_; first | refine p_f ?_ | refine pS ?_ | ((fail_if_success refine gp_lit rfl rfl rfl rfl ?_); first | apply gp_guard_dec rfl rfl rfl rfl | apply gp_guard rfl rfl rfl rfl | fail))
        | (refine gp_one ?_; first | refine pO ?_ | refine p_n (fun _ => ?_) | refine p_app (fun _ _ => ?_) | refine p_b0 (fun _ => ?_) | ((fail_if_success refine gp_lit rfl rfl rfl rfl ?_); first | apply gp_guard_dec rfl rfl rfl rfl | apply gp_guard rfl rfl rfl rfl | fail) | refine p_c (hev) (fun _ _ => ?_))
        | refine gp_two ?_ ?_ | refine gp_done hd hk ?_ | intro _ | refine p_ta hd hk (fun _ _ _ hd hk => ?_) | refine p_ts hd hk (fun _ hd hk => ?_))
      rename_i b9 T hTt
      have h1 := hsum T hTt
      simp only [List.sum_cons, List.sum_nil, Int.add_zero] at h1
      repeat (first
        | (refine gp_take ?_; first | refine pT ?_ | ((fail_if_success refine gp_lit rfl rfl rfl rfl ?_); first | apply gp_guard_dec rfl rfl rfl rfl | apply gp_guard rfl rfl rfl rfl | fail))
        | (refine gp_see ?_; first | refine p_f ?_ | refine pS ?_ | ((fail_if_success refine gp_lit rfl rfl rfl rfl ?_); first | apply gp_guard_dec rfl rfl rfl rfl | apply gp_guard rfl rfl rfl rfl | fail) | refine p_h (sum_row _ _ _ T [(fs.length : Int), (rs.length : Int), (cs.size : Int)] ⟨hTt.1, hTt.2.1⟩ hlim (by simp)) hd hk ?_)
        | (refine gp_one ?_; first | refine pO ?_ | refine p_n (fun _ => ?_) | refine p_app (fun _ _ => ?_) | refine p_b0 (fun _ => ?_) | ((fail_if_success refine gp_lit rfl rfl rfl rfl ?_); first | apply gp_guard_dec rfl rfl rfl rfl | apply gp_guard rfl rfl rfl rfl | fail) | refine p_k (sum_row _ _ _ T [(fs.length : Int), (rs.length : Int), (cs.size : Int)] ⟨hTt.1, hTt.2.1⟩ hlim (by simp)) ?_)
        | refine gp_two ?_ ?_ | refine gp_done hd hk ?_ | intro _ | refine p_ta hd hk (fun _ _ _ hd hk => ?_) | refine p_ts hd hk (fun _ hd hk => ?_))
      generalize sumF T [(fs.length : Int), (rs.length : Int), (cs.size : Int)] = m1 at h1 ⊢
      try dsimp only [List.cons_append, List.nil_append, List.append_eq]
      exact g_midX m1 ⟨by omega, fun h => by
        have := h1.2.2 (by omega)
        have := hTt.2.2 (by omega)
        omega⟩ (by (repeat (first | exact FrSub.nil | refine FrSub.cons rfl ?_)); first | done | fail) (by (repeat (first | exact Take.nil | apply Take.cons | exact Sel.here | apply Sel.there)); first | done | fail)
  repeat (first
    | (refine g_ops ?_; first | refine sO ?_ | refine s_n (fun _ => ?_) | refine s_app (fun _ _ => ?_) | refine s_b0 (fun _ => ?_) | ((fail_if_success refine g_lit rfl rfl rfl ?_); first | apply g_partM rfl rfl rfl | apply g_partMB rfl rfl rfl | fail))
    | refine gS ?_ | exact s_m | intro _)
  refine g_cond_dec rfl (fun h1 => ?_) (fun h1 => ?_)
  · repeat (first
      | (refine g_ops ?_; first | refine sO ?_ | refine s_n (fun _ => ?_) | refine s_app (fun _ _ => ?_) | refine s_b0 (fun _ => ?_) | ((fail_if_success refine g_lit rfl rfl rfl ?_); first | apply g_partM rfl rfl rfl | apply g_partMB rfl rfl rfl | fail) | refine s_k (aw) ?_)
      | refine gS ?_ | exact s_m | intro _)
    exact s_r ()
  have hsz2 := hr.2 (by omega)
  have g := hrp (by omega) (by omega) (by omega)
  have hc1 := hcx g (by have := hsz g; omega)
  have hr1 := fun (H' : HP) (s : HP.sub H H') => hrd H' s g
  have hz := hsz g
  have hg := hgd g
  clear hcx hrd hsz hrp hgd
  repeat (first | refine gS ?_ | refine g_cond_true rfl ?_)
  refine g_draw (.see 0 [] (.see 2 [] (.one 1 (.one 3 (.one 4 (.take 5 (.take 6 (.one 7 (.take 8 (.take 9 .done)))))))))) (by kernel_rfl) (C := [.row rb [int code, int w, int l, int n, .slice fp fs.length fc, .slice ep es.length ec, int cw, int cl, int cn, int ci, .string cs, .slice rp rs.length rc, int node] 50]) (by (repeat (first | exact Take.nil | apply Take.cons | exact Sel.here | apply Sel.there)); first | done | fail) (fun m hd hk => ?_)
  repeat (first
    | (refine gp_take ?_; first | refine pT ?_ | ((fail_if_success refine gp_lit rfl rfl rfl rfl ?_); first | apply gp_guard_dec rfl rfl rfl rfl | apply gp_guard rfl rfl rfl rfl | fail))
    | (refine gp_see ?_; first | refine p_f ?_ | refine pS ?_ | ((fail_if_success refine gp_lit rfl rfl rfl rfl ?_); first | apply gp_guard_dec rfl rfl rfl rfl | apply gp_guard rfl rfl rfl rfl | fail))
    | (refine gp_one ?_; first | refine pO ?_ | refine p_n (fun _ => ?_) | refine p_app (fun _ _ => ?_) | refine p_b0 (fun _ => ?_) | ((fail_if_success refine gp_lit rfl rfl rfl rfl ?_); first | apply gp_guard_dec rfl rfl rfl rfl | apply gp_guard rfl rfl rfl rfl | fail) | refine p_c (hc1) (fun _ _ => ?_))
    | refine gp_two ?_ ?_ | refine gp_done hd hk ?_ | intro _ | refine p_ta hd hk (fun _ _ _ hd hk => ?_) | refine p_ts hd hk (fun _ hd hk => ?_))
  rename_i H1 hs1
  try dsimp only at hs1 ⊢
  try dsimp only [List.cons_append, List.nil_append, List.append_eq]
  have hr2 := hr1 H1 hs1
  repeat (first
    | (refine gp_take ?_; first | refine pT ?_ | ((fail_if_success refine gp_lit rfl rfl rfl rfl ?_); first | apply gp_guard_dec rfl rfl rfl rfl | apply gp_guard rfl rfl rfl rfl | fail))
    | (refine gp_see ?_; first | refine p_f ?_ | refine pS ?_ | ((fail_if_success refine gp_lit rfl rfl rfl rfl ?_); first | apply gp_guard_dec rfl rfl rfl rfl | apply gp_guard rfl rfl rfl rfl | fail))
    | (refine gp_one ?_; first | refine pO ?_ | refine p_n (fun _ => ?_) | refine p_app (fun _ _ => ?_) | refine p_b0 (fun _ => ?_) | ((fail_if_success refine gp_lit rfl rfl rfl rfl ?_); first | apply gp_guard_dec rfl rfl rfl rfl | apply gp_guard rfl rfl rfl rfl | fail) | refine p_c (hr2) (fun _ _ => ?_))
    | refine gp_two ?_ ?_ | refine gp_done hd hk ?_ | intro _ | refine p_ta hd hk (fun _ _ _ hd hk => ?_) | refine p_ts hd hk (fun _ hd hk => ?_))
  rename_i y2 hy2
  obtain ⟨H2, u⟩ := y2
  obtain ⟨hs2, hu⟩ := hy2
  try dsimp only at hs2 hu ⊢
  try dsimp only [List.cons_append, List.nil_append, List.append_eq]
  have hs3 := hs1.trans hs2
  have hw := write1d H2 V0 u hu hg.1 (by omega)
  have aw3 := awake28 (hT.grow hs3) (hE.grow hs3)
  dsimp only [Vc.cells] at hw ⊢
  repeat (first
    | (refine gp_take ?_; first | refine pT ?_ | ((fail_if_success refine gp_lit rfl rfl rfl rfl ?_); first | apply gp_guard_dec rfl rfl rfl rfl | apply gp_guard rfl rfl rfl rfl | fail))
    | (refine gp_see ?_; first | refine p_f ?_ | refine pS ?_ | ((fail_if_success refine gp_lit rfl rfl rfl rfl ?_); first | apply gp_guard_dec rfl rfl rfl rfl | apply gp_guard rfl rfl rfl rfl | fail) | refine p_h (hw) hd hk ?_)
    | (refine gp_one ?_; first | refine pO ?_ | refine p_n (fun _ => ?_) | refine p_app (fun _ _ => ?_) | refine p_b0 (fun _ => ?_) | ((fail_if_success refine gp_lit rfl rfl rfl rfl ?_); first | apply gp_guard_dec rfl rfl rfl rfl | apply gp_guard rfl rfl rfl rfl | fail) | refine p_k (hw) ?_)
    | refine gp_two ?_ ?_ | refine gp_done hd hk ?_ | intro _ | refine p_ta hd hk (fun _ _ _ hd hk => ?_) | refine p_ts hd hk (fun _ hd hk => ?_))
  refine gp_as 26 (v' := .bool true) rfl (congrArg Value.bool (by simp)) ?_
  repeat (first
    | (refine gp_take ?_; first | refine pT ?_ | ((fail_if_success refine gp_lit rfl rfl rfl rfl ?_); first | apply gp_guard_dec rfl rfl rfl rfl | apply gp_guard rfl rfl rfl rfl | fail))
    | (refine gp_see ?_; first | refine p_f ?_ | refine pS ?_ | ((fail_if_success refine gp_lit rfl rfl rfl rfl ?_); first | apply gp_guard_dec rfl rfl rfl rfl | apply gp_guard rfl rfl rfl rfl | fail) | refine p_h (hw) hd hk ?_ | refine p_h (aw3) hd hk ?_)
    | (refine gp_one ?_; first | refine pO ?_ | refine p_n (fun _ => ?_) | refine p_app (fun _ _ => ?_) | refine p_b0 (fun _ => ?_) | ((fail_if_success refine gp_lit rfl rfl rfl rfl ?_); first | apply gp_guard_dec rfl rfl rfl rfl | apply gp_guard rfl rfl rfl rfl | fail) | refine p_k (hw) ?_ | refine p_k (aw3) ?_)
    | refine gp_two ?_ ?_ | refine gp_done hd hk ?_ | intro _ | refine p_ta hd hk (fun _ _ _ hd hk => ?_) | refine p_ts hd hk (fun _ hd hk => ?_))
  repeat (first
    | (refine g_ops ?_; first | refine sO ?_ | refine s_n (fun _ => ?_) | refine s_app (fun _ _ => ?_) | refine s_b0 (fun _ => ?_) | ((fail_if_success refine g_lit rfl rfl rfl ?_); first | apply g_partM rfl rfl rfl | apply g_partMB rfl rfl rfl | fail))
    | refine gS ?_ | exact s_m | intro _)
  refine g_unpile hs3 (by (repeat (first | exact Sel.here | apply Sel.there)); first | done | fail) ?_
  exact s_r ()
end Go.Proofs.YtaahibcibgljbaaDoor

namespace Go.Proofs.YtaahibcibgljbaaDoor
open Go.Sl facts
attribute [local irreducible] Code.wp wpList Exit.then Exit.inBlock bodyPost Back MidQ G GP QStep VStep CStep SStep Does Post Reads
attribute [local irreducible] weigh weighL callS ofOk ofC docOf sumF textB
structure Ca where
  kind : Int
  t1 : Int
  t2 : Int
  t3 : Int
  key : ByteArray
  pp : Option Addr
  pc : Nat
  pts : List Pt
  stream : ByteArray
  frm : Int
  c1 : Int
  c2 : Int
  c3 : Int
  ci : Int
  cs : ByteArray
  pattern : ByteArray
  max : Int
  r1 : Int
  r2 : Int
  r3 : Int
  r4 : Int
  tt : Int
abbrev Ca.cells (x : Ca) : List Value := [int x.kind, int x.t1, int x.t2, int x.t3, .string x.key, .slice x.pp x.pts.length x.pc, .string x.stream, int x.frm, int x.c1, int x.c2, int x.c3, int x.ci, .string x.cs, .string x.pattern, int x.max, int x.r1, int x.r2, int x.r3, int x.r4, int x.tt]
structure CaIn (H : HP) (x : Ca) : Prop where
  sl : SlAt (Pile H) 3 x.pp x.pts.length (x.pts.flatMap Pt.cells)
  pts : ∀ y ∈ x.pts, PtIn (Pile H) y
  n : x.pts.length ≤ 9223372036854775807
  k : x.key.size ≤ 9223372036854775807
  s : x.stream.size ≤ 9223372036854775807
  p : x.pattern.size ≤ 9223372036854775807
  i1 : inI x.frm
  i2 : inI x.max
  i3 : inI x.r1
  i4 : inI x.tt
structure CbX where
  x : Cl
  d : ClV
  v : V
end Go.Proofs.YtaahibcibgljbaaDoor

namespace Go.Sl
open Go
theorem sl_in {W : World} {α β : Type} {A : World → α → List Value → Prop} {n : Nat} {s : SliceOf α} {f : α → β} {g : β → List Value} {R : β → Prop} (hn : 0 < n)
    (h : s.xs.length ≤ s.cap ∧ s.cap ≤ maxLen ∧ (s.place = none → s.xs = [] ∧ s.cap = 0) ∧ (∀ (i : Nat) (x : α), s.xs[i]? = some x → ∃ b o c, s.place = some ⟨b, o, none⟩ ∧ A W x c ∧ c.length = n ∧ CellsAt W b (o + i * n) c))
    (hg : ∀ x c, A W x c → c = g (f x) ∧ R (f x)) (h1 : ∀ x, (g x).all (·.oneCell') = true) (hl : ∀ x, (g x).length = n) :
    SlAt (Init W) n s.place (s.xs.map f).length ((s.xs.map f).flatMap g) ∧ s.xs.length ≤ 9223372036854775807 ∧ ∀ y ∈ s.xs.map f, R y := by
  obtain ⟨g1, g2, g3, g4⟩ := h
  refine ⟨?_, ?_, fun y hy => ?_⟩
  · rw [List.length_map, List.flatMap_map]
    exact slAt_of (g := fun x => g (f x)) hn (fun e => (g3 e).1) g4 (fun x c hx _ => (hg x c hx).1) (fun x => h1 _) (fun x => hl _)
  · unfold maxLen at g2; omega
  · obtain ⟨x, hx, rfl⟩ := List.mem_map.1 hy
    obtain ⟨i, hi, rfl⟩ := List.mem_iff_getElem.1 hx
    obtain ⟨_, _, c, _, ha, _⟩ := g4 i _ (List.getElem?_eq_getElem hi)
    exact (hg _ _ ha).2
end Go.Sl
namespace Go.Proofs.YtaahibcibgljbaaDoor
open Go Go.Sl facts
abbrev S3T := Int × Int × Int × Unit
abbrev RgT := Int × Int × Int × Int × Unit
abbrev CuT := S3T × Int × ByteArray × Unit
theorem ml {n : Nat} (h : n ≤ maxLen) : n ≤ 9223372036854775807 := by unfold maxLen at h; omega
end Go.Proofs.YtaahibcibgljbaaDoor

namespace Go.Proofs.YtaahibcibgljbaaDoor
open Go Go.Sl facts
abbrev EvT := ByteArray × Int × ByteArray × S3T × Int × Unit
abbrev RpT := Int × S3T × SliceOf Int × SliceOf EvT × CuT × SliceOf RgT × Int × Unit
def evT (x : EvT) : Evt := ⟨x.1, x.2.1, x.2.2.1, x.2.2.2.1.1, x.2.2.2.1.2.1, x.2.2.2.1.2.2.1, x.2.2.2.2.1⟩
def rgT (x : RgT) : Rge := ⟨x.1, x.2.1, x.2.2.1, x.2.2.2.1⟩
theorem evT_of {W : World} {x : EvT} {c : List Value} (h : Opens.is (P := Tryd.prog) (t := 85) W x c) : c = (evT x).cells ∧ EvtIn (evT x) := by
  obtain ⟨st, n, data, ⟨s1, s2, s3, _⟩, ex, _⟩ := x
  obtain ⟨hl, ⟨h1, g1⟩, ⟨h2, g2⟩, ⟨h3, g3⟩, ⟨_, ⟨h4, g4⟩, ⟨h5, g5⟩, ⟨h6, g6⟩, _⟩, ⟨h7, g7⟩, _⟩ := h
  dsimp only at h1 h2 h3 h4 h5 h6 h7 g1 g2 g3 g4 g5 g6 g7
  match c, hl with
  | [c0, c1, c2, c3, c4, c5, c6], _ =>
    simp at h1 h2 h3 h4 h5 h6 h7
    subst h1 h2 h3 h4 h5 h6 h7
    exact ⟨rfl, ⟨ml g1, ml g3, inI_wfV g2, inI_wfV g4, inI_wfV g5, inI_wfV g6, inI_wfV g7⟩⟩
theorem rgT_of {W : World} {x : RgT} {c : List Value} (h : Opens.is (P := Tryd.prog) (t := 36) W x c) : c = (rgT x).cells ∧ (inI (rgT x).a ∧ inI (rgT x).b ∧ inI (rgT x).c ∧ inI (rgT x).d) := by
  obtain ⟨hl, ⟨h1, g1⟩, ⟨h2, g2⟩, ⟨h3, g3⟩, ⟨h4, g4⟩, _⟩ := h
  match c, hl with
  | [c0, c1, c2, c3], _ =>
    simp at h1 h2 h3 h4
    subst h1 h2 h3 h4
    exact ⟨rfl, inI_wfV g1, inI_wfV g2, inI_wfV g3, inI_wfV g4⟩
theorem one_of {W : World} {x : Int} {c : List Value} (h : Opens.is (P := Tryd.prog) (t := 3) W x c) : c = [int x] ∧ inI x := by
  obtain ⟨h1, g1⟩ := h
  exact ⟨h1, inI_wfV g1⟩
theorem flat_int (l : List Int) : l.flatMap (fun t => [Value.int .i64 t]) = l.map (.int .i64 ·) := by
  induction l with
  | nil => rfl
  | cons a l ih => simp only [List.flatMap_cons, List.map_cons, ih]; rfl
set_option synthInstance.maxHeartbeats 400000 in
set_option synthInstance.maxSize 4000 in
set_option maxSynthPendingDepth 20 in
instance opensRp : Opens Tryd.prog 50 RpT := inferInstance
def rpT (x : RpT) : Rp :=
  let ⟨code, s, fs, es, cu, rs, node, _⟩ := x
  { code := code, w := s.1, l := s.2.1, n := s.2.2.1, fp := fs.place, fn := fs.xs.length, fc := fs.cap, ep := es.place, en := es.xs.length, ec := es.cap, cw := cu.1.1, cl := cu.1.2.1, cn := cu.1.2.2.1, ci := cu.2.1, cs := cu.2.2.1, rp := rs.place, rn := rs.xs.length, rc := rs.cap, node := node }
set_option synthInstance.maxHeartbeats 400000 in
set_option synthInstance.maxSize 4000 in
set_option maxSynthPendingDepth 20 in
theorem rpT_of {W : World} {x : RpT} {c : List Value} (h : opensRp.is W x c) : c = (rpT x).cells ∧ RqIn (wheap W) (rpT x) x.2.2.1.xs (x.2.2.2.1.xs.map evT) (x.2.2.2.2.2.1.xs.map rgT) := by
  obtain ⟨code, ⟨s1, s2, s3, _⟩, fs, es, ⟨⟨u1, u2, u3, _⟩, ui, us, _⟩, rs, node, _⟩ := x
  obtain ⟨hl, ⟨h1, g1⟩, ⟨_, ⟨h2, g2⟩, ⟨h3, g3⟩, ⟨h4, g4⟩, _⟩, ⟨h5, g5⟩, ⟨h6, g6⟩, ⟨_, ⟨_, ⟨k1, q1⟩, ⟨k2, q2⟩, ⟨k3, q3⟩, _⟩, ⟨k4, q4⟩, ⟨k5, q5⟩, _⟩, ⟨k6, q6⟩, ⟨k7, q7⟩, _⟩ := h
  dsimp only at h1 h2 h3 h4 h5 h6 k1 k2 k3 k4 k5 k6 k7 g1 g2 g3 g4 g5 g6 q1 q2 q3 q4 q5 q6 q7
  obtain ⟨e1, e2, e3⟩ := sl_in (f := id) (g := fun t => [Value.int .i64 t]) (R := fun y => inI y) (by decide) g5 (fun x c => one_of) (fun _ => rfl) (fun _ => rfl)
  rw [List.map_id, flat_int] at e1
  rw [List.map_id] at e3
  obtain ⟨m1, m2, m3⟩ := sl_in (f := evT) (R := EvtIn) (by decide) g6 (fun x c => evT_of) (fun _ => rfl) evt_len
  obtain ⟨r1, r2, r3⟩ := sl_in (f := rgT) (g := Rge.cells) (R := fun y => inI y.a ∧ inI y.b ∧ inI y.c ∧ inI y.d) (by decide) q6 (fun x c => rgT_of) (fun _ => rfl) rge_len
  match c, hl with
  | [c0, c1, c2, c3, c4, c5, c6, c7, c8, c9, c10, c11, c12], _ =>
    simp [SliceOf.val] at h1 h2 h3 h4 h5 h6 k1 k2 k3 k4 k5 k6 k7
    subst h1 h2 h3 h4 h5 h6 k1 k2 k3 k4 k5 k6 k7
    refine ⟨rfl, ⟨fun a1 a2 a3 => ⟨rfl, (List.length_map ..).symm, (List.length_map ..).symm, e1, m1, r1, m3, e3, r3, inI_wfV g1, inI_wfV g2, inI_wfV g3, inI_wfV g4, inI_wfV q1, inI_wfV q2, inI_wfV q3, inI_wfV q4, inI_wfV q7, ml q5, a2, a1, a3⟩, rfl, (List.length_map ..).symm, (List.length_map ..).symm, m1, m3, ml q5, e2, by rw [List.length_map]; exact m2, by rw [List.length_map]; exact r2⟩⟩
end Go.Proofs.YtaahibcibgljbaaDoor

/-
  DERIVED: THE SHELF's CONTRACTS AT THIS DUMP, IN PLAIN WORDS (tools/lay-plain.mjs out of 'TrydShelI.lean', which tools/lay-shelf.mjs wrote): THE SAME DECLARATIONS UNDER THE SAME NAMES: 'import', 'namespace', 'open', 'def', 'theorem' AND NOTHING ELSE: no command of the shelf's: FOR A HAND-IN. Each laying: the table of numbers ('.._ren') and one theorem, a field a fact of the dump's own or the kernel's comparison; each contract: ONE APPLICATION.
-/
namespace Go.Proofs
open Go.Shelf
def Tryd.laysMNm171_ren : Go.Shelf.Ren := ⟨fun | 171 => 59 | 243 => 77 | 246 => 85 | 283 => 90 | 284 => 91 | 285 => 92 | 286 => 93 | 129 => 102 | 317 => 101 | 318 => 103 | 319 => 104 | 320 => 105 | 337 => 109 | 338 => 110 | n => n, fun | 3 => 3 | 9 => 9 | 2 => 2 | 4 => 4 | 171 => 155 | 0 => 0 | 53 => 122 | 37 => 98 | 5 => 5 | 173 => 158 | 212 => 170 | 51 => 145 | 20 => 20 | 213 => 171 | 46 => 127 | 232 => 185 | 233 => 186 | n => n, fun | 17 => 2 | 18 => 5 | 19 => 6 | n => n⟩
theorem Tryd.laysMNm171 : Go.Proofs.LaysM.n171 Tryd.prog Tryd.laysMNm171_ren := {
  mixed := by kernel_rfl
  f129 := Tryd.func102.trans (congrArg some (by kernel_rfl))
  f171 := Tryd.func59.trans (congrArg some (by kernel_rfl))
  f243 := Tryd.func77.trans (congrArg some (by kernel_rfl))
  f246 := Tryd.func85.trans (congrArg some (by kernel_rfl))
  f283 := Tryd.func90.trans (congrArg some (by kernel_rfl))
  f284 := Tryd.func91.trans (congrArg some (by kernel_rfl))
  f285 := Tryd.func92.trans (congrArg some (by kernel_rfl))
  f286 := Tryd.func93.trans (congrArg some (by kernel_rfl))
  f317 := Tryd.func101.trans (congrArg some (by kernel_rfl))
  f318 := Tryd.func103.trans (congrArg some (by kernel_rfl))
  f319 := Tryd.func104.trans (congrArg some (by kernel_rfl))
  f320 := Tryd.func105.trans (congrArg some (by kernel_rfl))
  f337 := Tryd.func109.trans (congrArg some (by kernel_rfl))
  f338 := Tryd.func110.trans (congrArg some (by kernel_rfl))
  t0 := Tryd.underlying0
  a0 := Tryd.isAgg0
  z0 := Tryd.sizeOf0
  v0 := Tryd.zeroValue0
  t2 := Tryd.underlying2
  a2 := Tryd.isAgg2
  z2 := Tryd.sizeOf2
  v2 := Tryd.zeroValue2
  t3 := Tryd.underlying3
  a3 := Tryd.isAgg3
  z3 := Tryd.sizeOf3
  v3 := Tryd.zeroValue3
  t4 := Tryd.underlying4
  a4 := Tryd.isAgg4
  z4 := Tryd.sizeOf4
  v4 := Tryd.zeroValue4
  t5 := Tryd.underlying5
  a5 := Tryd.isAgg5
  z5 := Tryd.sizeOf5
  v5 := Tryd.zeroValue5
  t9 := Tryd.underlying9
  a9 := Tryd.isAgg9
  z9 := Tryd.sizeOf9
  v9 := Tryd.zeroValue9
  t20 := Tryd.underlying20
  a20 := Tryd.isAgg20
  z20 := Tryd.sizeOf20
  v20 := Tryd.zeroValue20
  t37 := Tryd.underlying98
  a37 := Tryd.isAgg98
  z37 := Tryd.sizeOf98
  v37 := Tryd.zeroValue98
  t46 := Tryd.underlying127
  a46 := Tryd.isAgg127
  z46 := Tryd.sizeOf127
  v46 := Tryd.zeroValue127
  t51 := Tryd.underlying145
  a51 := Tryd.isAgg145
  z51 := Tryd.sizeOf145
  v51 := Tryd.zeroValue145
  t53 := Tryd.underlying122
  a53 := Tryd.isAgg122
  z53 := Tryd.sizeOf122
  v53 := Tryd.zeroValue122
  t171 := Tryd.underlying155
  a171 := Tryd.isAgg155
  z171 := Tryd.sizeOf155
  v171 := Tryd.zeroValue155
  t173 := Tryd.underlying158
  a173 := Tryd.isAgg158
  z173 := Tryd.sizeOf158
  v173 := Tryd.zeroValue158
  t212 := Tryd.underlying170
  a212 := Tryd.isAgg170
  z212 := Tryd.sizeOf170
  v212 := Tryd.zeroValue170
  t213 := Tryd.underlying171
  a213 := Tryd.isAgg171
  z213 := Tryd.sizeOf171
  t232 := Tryd.underlying185
  a232 := Tryd.isAgg185
  z232 := Tryd.sizeOf185
  v232 := Tryd.zeroValue185
  t233 := Tryd.underlying186
  a233 := Tryd.isAgg186
  z233 := Tryd.sizeOf186
  v233 := Tryd.zeroValue186
  g17 := by kernel_rfl
  g18 := by kernel_rfl
  g19 := by kernel_rfl
  i0 := by kernel_rfl
  i2 := by kernel_rfl
  i3 := by kernel_rfl
  i4 := by kernel_rfl
  i5 := by kernel_rfl
  i9 := by kernel_rfl
  i20 := by kernel_rfl
  i37 := by kernel_rfl
  i46 := by kernel_rfl
  i51 := by kernel_rfl
  i53 := by kernel_rfl
  i171 := by kernel_rfl
  i173 := by kernel_rfl
  i212 := by kernel_rfl
  i232 := by kernel_rfl
  i233 := by kernel_rfl
  m17 := by kernel_rfl
  m18 := by kernel_rfl
  m19 := by kernel_rfl }
end Go.Proofs

namespace Go.Proofs.YtaahibcibgljbaaDoor
open Go Go.ChangeShapes Go.WideShapes Go.ChangeAt Go.RowKit Go.Sl facts
theorem it_of {W : World} (h : laidMetH Tryd.prog lstE W) : ItH (wheap W) := by
  rw [MakeChecks.laidMetH_plain _ _ _ (by kernel_rfl)] at h
  have hP := tabH_of (laidMet.tail (laidMet.tail h))
  exact fun n hn => does_of_calls fun w hw => Any.strconv_Itoa Tryd.laysMNm171 n hn.1 hn.2 w (tabIs hP hw)
end Go.Proofs.YtaahibcibgljbaaDoor
