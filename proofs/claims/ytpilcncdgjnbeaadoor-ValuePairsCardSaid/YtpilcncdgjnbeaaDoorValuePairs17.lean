/- Contracts and laws that the proof stands on. -/
import Derived.Test.YtpilcncdgjnbeaaDoorValuePairs16
import Derived.Shelf.Strings.Split
import Derived.Lib.SplitLaws
set_option linter.unusedSimpArgs false
set_option linter.unusedVariables false
namespace Go.Proofs.YtpilcncdgjnbeaaDoor
open Go.Sl facts
def upK (k : ByteArray) : List Pr → Nat
  | [] => 0
  | a :: l => if a.k = k then 0 else upK k l + 1
theorem upK_at {k : ByteArray} {l : List Pr} {i : Nat} (hi : i < l.length) (h : ∀ j (hj : j < l.length), j < i → l[j].k ≠ k) (hn : l[i].k = k) : upK k l = i := by
  induction l generalizing i with
  | nil => simp at hi
  | cons a l ih =>
    cases i with
    | zero => simp only [List.getElem_cons_zero] at hn; simp [upK, hn]
    | succ i =>
      have h0 := h 0 (by simp) (by omega)
      simp only [List.getElem_cons_zero] at h0
      simp only [upK, h0]
      rw [ih (i := i) (by simpa using hi) (fun j hj hji => by have := h (j + 1) (by simpa using hj) (by omega); rwa [List.getElem_cons_succ] at this) (by simpa using hn)]
      rfl
theorem upK_all {k : ByteArray} {l : List Pr} (h : ∀ j (hj : j < l.length), l[j].k ≠ k) : upK k l = l.length := by
  induction l with
  | nil => rfl
  | cons a l ih =>
    have h0 := h 0 (by simp)
    simp only [List.getElem_cons_zero] at h0
    simp only [upK, h0, List.length_cons]
    rw [ih fun j hj => by have := h (j + 1) (by simpa using hj); rwa [List.getElem_cons_succ] at this]
    rfl
attribute [local irreducible] Code.wp wpList Exit.then Exit.inBlock bodyPost Back MidQ G GP QStep VStep CStep SStep Does Post Reads
abbrev fStep : FuncId := 71
theorem stepKey (k name : ByteArray) (v : Value) (b : Nat) (hv : v = .nilIface ∨ ∃ t u, v = .iface t u) : Does1 Tryd.prog 71 [.agg #[.string k, v], ptr b] [.row b [.string name] 9] (.bool (decide (k = name))) := by
  rcases hv with rfl | ⟨t, u, rfl⟩
  · refine fn_intro Tryd.func71 rfl Tryd.ntmps71 rfl (by simp only [argFr, Nat.zero_add, Nat.reduceAdd]; rfl) (fun Γ => ?_)
    repeat (first
      | (refine g_ops ?_; first | refine sO ?_ | refine s_n (fun _ => ?_) | refine s_app (fun _ _ => ?_) | refine s_b0 (fun _ => ?_) | ((fail_if_success refine g_lit rfl rfl rfl ?_); first | apply g_partM rfl rfl rfl | apply g_partMB rfl rfl rfl | fail))
      | refine gS ?_ | exact s_m | intro _)
    exact gR () trivial
  · refine fn_intro Tryd.func71 rfl Tryd.ntmps71 rfl (by simp only [argFr, Nat.zero_add, Nat.reduceAdd]; rfl) (fun Γ => ?_)
    repeat (first
      | (refine g_ops ?_; first | refine sO ?_ | refine s_n (fun _ => ?_) | refine s_app (fun _ _ => ?_) | refine s_b0 (fun _ => ?_) | ((fail_if_success refine g_lit rfl rfl rfl ?_); first | apply g_partM rfl rfl rfl | apply g_partMB rfl rfl rfl | fail))
      | refine gS ?_ | exact s_m | intro _)
    exact gR () trivial
set_option maxHeartbeats 4000000 in
theorem indexK {H : HP} (name : ByteArray) (b : Nat) (p : Option Addr) (c : Nat) (l : List Pr) (hS : SlAt (Pile H) 2 p l.length (l.flatMap Pr.cells)) (hv : ∀ q ∈ l, q.v = .nilIface ∨ ∃ t u, q.v = .iface t u) (hl : l.length ≤ 1000000000) :
    Does1 Tryd.prog 70 [.slice p l.length c, .func (.func fStep) #[] #[ptr b]] [Pile H, .row b [.string name] 9] (int (if upK name l = l.length then -1 else (upK name l : Int))) := by
  refine fn_intro Tryd.func70 rfl Tryd.ntmps70 rfl (by simp only [argFr, Nat.zero_add, Nat.reduceAdd]; rfl) (fun Γ => ?_)
  repeat (first
    | (refine g_ops ?_; first | refine sO ?_ | refine s_n (fun _ => ?_) | refine s_app (fun _ _ => ?_) | refine s_b0 (fun _ => ?_) | ((fail_if_success refine g_lit rfl rfl rfl ?_); first | apply g_partM rfl rfl rfl | apply g_partMB rfl rfl rfl | fail))
    | refine gS ?_ | exact s_m | intro _)
  refine g_loop (X := Nat) (fun i => [(0, .slice p l.length c), (1, .func (.func fStep) #[] #[ptr b]), (7, int l.length), (8, int i)]) (fun _ => [Pile H, .row b [.string name] 9]) (fun i => i ≤ l.length ∧ ∀ j (hj : j < l.length), j < i → l[j].k ≠ name) (fun i => l.length - i) 0 ⟨Nat.zero_le _, fun j _ h => by omega⟩ (by (repeat (first | exact FrSub.nil | refine FrSub.cons rfl ?_)); first | done | fail) (by (repeat (first | exact Take.nil | apply Take.cons | exact Sel.here | apply Sel.there)); first | done | fail) (fun i hi => ?_)
  obtain ⟨hi, hb⟩ := hi
  repeat (first
    | (refine g_ops ?_; first | refine sO ?_ | refine s_n (fun _ => ?_) | refine s_app (fun _ _ => ?_) | refine s_b0 (fun _ => ?_) | ((fail_if_success refine g_lit rfl rfl rfl ?_); first | apply g_partM rfl rfl rfl | apply g_partMB rfl rfl rfl | fail))
    | refine gS ?_ | exact s_m | intro _)
  refine g_cond_dec rfl (fun h2 => ?_) (fun h2 => ?_)
  · have hi' : i < l.length := by omega
    obtain ⟨rb, ro, rfl, hrow⟩ := slAt_elem hS Pr.len (by decide) (i := i) (a := l[i]) (by simp [hi'])
    have hvi := hv l[i] (List.getElem_mem _)
    generalize hr : l[i] = r at hrow hvi
    obtain ⟨rk, rv⟩ := r
    replace hrow : ∀ (j : Nat) (v : Value), [Value.string rk, rv][j]? = some v → Reads (Pile H) ⟨rb, ro + i * 2 + j, none⟩ v := hrow
    repeat (first
      | (refine g_ops ?_; first | refine sO ?_ | refine s_n (fun _ => ?_) | refine s_app (fun _ _ => ?_) | refine s_b0 (fun _ => ?_) | ((fail_if_success refine g_lit rfl rfl rfl ?_); first | apply g_partM rfl rfl rfl | apply g_partMB rfl rfl rfl | fail))
      | refine gS ?_ | exact s_m | intro _)
    refine g_c (cs_callV (stepKey rk name rv b hvi) (vs := [.agg #[.string rk, rv]]) (caps := [ptr b]) rfl (by (repeat (first | exact Evs.nil | refine Evs.cons rfl ?_)); first | done | fail) rfl (by (repeat (first | exact Take.nil | apply Take.cons | exact Sel.here | apply Sel.there)); first | done | fail)) rfl rfl (fun _ _ => ?_)
    repeat (first
      | (refine g_ops ?_; first | refine sO ?_ | refine s_n (fun _ => ?_) | refine s_app (fun _ _ => ?_) | refine s_b0 (fun _ => ?_) | ((fail_if_success refine g_lit rfl rfl rfl ?_); first | apply g_partM rfl rfl rfl | apply g_partMB rfl rfl rfl | fail))
      | refine gS ?_ | exact s_m | intro _)
    refine g_cond_dec rfl (fun h3 => ?_) (fun h3 => ?_)
    · have ha := upK_at hi' hb (by rw [hr]; exact h3)
      repeat (first
        | (refine g_ops ?_; first | refine sO ?_ | refine s_n (fun _ => ?_) | refine s_app (fun _ _ => ?_) | refine s_b0 (fun _ => ?_) | ((fail_if_success refine g_lit rfl rfl rfl ?_); first | apply g_partM rfl rfl rfl | apply g_partMB rfl rfl rfl | fail))
        | refine gS ?_ | exact s_m | intro _)
      exact g_ret () rfl (by (repeat (first | exact RVs.nil | apply RVs.tmp rfl | apply RVs.cellA rfl (by (repeat (first | exact Sel.here | apply Sel.there)); first | done | fail) (by (repeat (first | exact Cut.zero | apply Cut.take | apply Cut.skip)); first | done | fail) | apply RVs.cell1 rfl (by (repeat (first | exact Sel.here | apply Sel.there)); first | done | fail) rfl)); first | done | fail) (by (repeat (first | exact Take.nil | apply Take.cons | exact Sel.here | apply Sel.there)); first | done | fail) (by rw [if_neg (by omega), ha]; rfl) trivial
    · repeat (first
        | (refine g_ops ?_; first | refine sO ?_ | refine s_n (fun _ => ?_) | refine s_app (fun _ _ => ?_) | refine s_b0 (fun _ => ?_) | ((fail_if_success refine g_lit rfl rfl rfl ?_); first | apply g_partM rfl rfl rfl | apply g_partMB rfl rfl rfl | fail))
        | refine gS ?_ | exact s_m | intro _)
      refine g_as 8 (v' := int ((i + 1 : Nat) : Int)) rfl (congrArg (Value.int .i64) (by push_cast; rfl)) ?_
      exact g_again (i + 1) (by omega) ⟨hi', fun j hj hji => by
        by_cases e : j = i
        · subst e; rw [hr]; exact h3
        · exact hb j hj (by omega)⟩ (by (repeat (first | exact FrSub.nil | refine FrSub.cons rfl ?_)); first | done | fail) (by (repeat (first | exact Take.nil | apply Take.cons | exact Sel.here | apply Sel.there)); first | done | fail)
  · have ha : upK name l = l.length := upK_all fun j hj => hb j hj (by omega)
    repeat (first
      | (refine g_ops ?_; first | refine sO ?_ | refine s_n (fun _ => ?_) | refine s_app (fun _ _ => ?_) | refine s_b0 (fun _ => ?_) | ((fail_if_success refine g_lit rfl rfl rfl ?_); first | apply g_partM rfl rfl rfl | apply g_partMB rfl rfl rfl | fail))
      | refine gS ?_ | exact s_m | intro _)
    exact g_ret () rfl (by (repeat (first | exact RVs.nil | apply RVs.tmp rfl | apply RVs.cellA rfl (by (repeat (first | exact Sel.here | apply Sel.there)); first | done | fail) (by (repeat (first | exact Cut.zero | apply Cut.take | apply Cut.skip)); first | done | fail) | apply RVs.cell1 rfl (by (repeat (first | exact Sel.here | apply Sel.there)); first | done | fail) rfl)); first | done | fail) (by (repeat (first | exact Take.nil | apply Take.cons | exact Sel.here | apply Sel.there)); first | done | fail) (by rw [if_pos ha]; rfl) trivial
end Go.Proofs.YtpilcncdgjnbeaaDoor

namespace Go.Proofs.YtpilcncdgjnbeaaDoor
open Go.Sl facts
theorem itoaS {H : HP} (i : Nat) (h : i < 100) : Does1 Tryd.prog 73 [int i] [Pile H] (.string (txt (decI i))) := does_of_belowX fun w hw => by
  refine (Any.strconv_Itoa_small Tryd.laysNm171 i h w).mono ?_
  rintro e w' ⟨rfl, rfl⟩
  have e : decI (i : Int) = Lib.decDigits i := by unfold decI; rw [if_neg (by omega)]; rfl
  exact ⟨(), trivial, by rw [e], Go.RowKit.Below.refl _ _⟩
attribute [local irreducible] Code.wp wpList Exit.then Exit.inBlock bodyPost Back MidQ G GP QStep VStep CStep SStep Does Post Reads
set_option maxHeartbeats 4000000 in
theorem stepP {H : HP} {y : Bool} {n : Int} {s : ByteArray} {l : List V} {p : Option Addr} {c : Nat} (ps : List Pr) (hv : ps.length = l.length) (hl : l.length ≤ 1000000000) (hS : SlAt (Pile H) 2 p l.length (ps.flatMap Pr.cells)) (h : ∀ (i : Nat) x q, l[i]? = some x → ps[i]? = some q → TAt H x q.v) (i : Nat) (hi : i < ps.length) (hu : upK ps[i].k ps = i) :
    Does Tryd.prog 47 [.iface 47 (.slice p l.length c), .string ps[i].k] [Pile H] (X := Unit) (fun _ => .tuple #[ps[i].v, .bool true]) (fun _ => [Pile H]) (fun _ => True) := by
  have hsh : ∀ q ∈ ps, q.v = .nilIface ∨ ∃ t u, q.v = .iface t u := fun q hq => by
    obtain ⟨j, hj, rfl⟩ := List.mem_iff_getElem.1 hq
    exact (h j l[j] ps[j] (List.getElem?_eq_getElem _) (List.getElem?_eq_getElem _)).shape
  have hx := fun b => indexK (H := H) ps[i].k b p c ps (by rw [hv]; exact hS) hsh (by omega)
  obtain ⟨rb, ro, rfl, hr0⟩ := slAt_elem hS Pr.len (by decide) (i := i) (a := ps[i]) (List.getElem?_eq_getElem hi)
  have hvi := hsh ps[i] (List.getElem_mem _)
  rw [hv] at hx
  generalize ps[i] = w at *
  obtain ⟨wk, wv⟩ := w
  dsimp only at hx hu hvi ⊢
  rw [hu, if_neg (by omega)] at hx
  have hr : ∀ a, a = ro + i * 2 + 1 → Reads (Pile H) ⟨rb, a, none⟩ wv := fun a e => by have := hr0 1 wv rfl; rw [e]; exact this
  refine fn_intro Tryd.func47 rfl Tryd.ntmps47 rfl (by simp only [argFr, Nat.zero_add, Nat.reduceAdd]; rfl) (fun Γ => ?_)
  repeat (first
    | (refine g_ops ?_; first | refine sO ?_ | refine s_n (fun _ => ?_) | refine s_app (fun _ _ => ?_) | refine s_b0 (fun _ => ?_) | ((fail_if_success refine g_lit rfl rfl rfl ?_); first | apply g_partM rfl rfl rfl | apply g_partMB rfl rfl rfl | fail))
    | refine gS ?_ | exact s_m | intro _)
  rename_i nb
  refine s_q (q := by exact qs_makeFunc (vs := [ptr nb]) (by (repeat (first | exact Evs.nil | refine Evs.cons rfl ?_)); first | done | fail)) ?_
  have hxb := hx nb
  repeat (first
    | (refine g_ops ?_; first | refine sO ?_ | refine s_n (fun _ => ?_) | refine s_app (fun _ _ => ?_) | refine s_b0 (fun _ => ?_) | ((fail_if_success refine g_lit rfl rfl rfl ?_); first | apply g_partM rfl rfl rfl | apply g_partMB rfl rfl rfl | fail) | refine s_k (hxb) ?_)
    | refine gS ?_ | exact s_m | intro _)
  refine g_as 23 (v' := .bool false) rfl (congrArg Value.bool (decide_eq_false (by omega))) ?_
  rcases hvi with rfl | ⟨t, u, rfl⟩
  · repeat (first
      | (refine g_ops ?_; first | refine sO ?_ | refine s_n (fun _ => ?_) | refine s_app (fun _ _ => ?_) | refine s_b0 (fun _ => ?_) | ((fail_if_success refine g_lit rfl rfl rfl ?_); first | apply g_partM rfl rfl rfl | apply g_partMB rfl rfl rfl | fail))
      | refine gS ?_ | exact s_m | intro _)
    exact gR () trivial
  · repeat (first
      | (refine g_ops ?_; first | refine sO ?_ | refine s_n (fun _ => ?_) | refine s_app (fun _ _ => ?_) | refine s_b0 (fun _ => ?_) | ((fail_if_success refine g_lit rfl rfl rfl ?_); first | apply g_partM rfl rfl rfl | apply g_partMB rfl rfl rfl | fail))
      | refine gS ?_ | exact s_m | intro _)
    exact gR () trivial
set_option maxHeartbeats 4000000 in
theorem stepL {H : HP} (hE : ErrH H) {l : List Value} {p : Option Addr} {c : Nat} (hl : l.length ≤ 1000000000) (hS : SlAt (Pile H) 1 p l.length l) (hsh : ∀ w ∈ l, w = .nilIface ∨ ∃ t u, w = .iface t u) (i : Nat) (hi : i < 100) :
    Does Tryd.prog 47 [.iface 35 (.slice p l.length c), .string (txt (decI i))] [Pile H] (X := Unit) (fun _ => .tuple #[l.getD i .nilIface, .bool (decide (i < l.length))]) (fun _ => [Pile H]) (fun _ => True) := by
  have hin : inI (i : Int) := ⟨by omega, by omega⟩
  have ha := at_of hE (decI i) (by have := (decI_len20 i hin).1; omega)
  rw [atoi_dec i hin] at ha
  have hi2 := itoaS (H := H) i hi
  refine fn_intro Tryd.func47 rfl Tryd.ntmps47 rfl (by simp only [argFr, Nat.zero_add, Nat.reduceAdd]; rfl) (fun Γ => ?_)
  repeat (first
    | (refine g_ops ?_; first | refine sO ?_ | refine s_n (fun _ => ?_) | refine s_app (fun _ _ => ?_) | refine s_b0 (fun _ => ?_) | ((fail_if_success refine g_lit rfl rfl rfl ?_); first | apply g_partM rfl rfl rfl | apply g_partMB rfl rfl rfl | fail) | refine s_c (ha) (fun _ _ => ?_))
    | refine gS ?_ | exact s_m | intro _)
  rename_i ev hev
  obtain rfl := hev.1 rfl
  dsimp only [List.cons_append, List.nil_append, List.append_eq]
  by_cases hlt : i < l.length
  · rw [decide_eq_true hlt]
    obtain ⟨pb, po, rfl, hr0⟩ := slAt_cell hS (i := i) (v := l[i]) (List.getElem?_eq_getElem hlt)
    have hvi := hsh l[i] (List.getElem_mem _)
    rw [show l.getD i .nilIface = l[i] by simp [List.getD, hlt]]
    generalize l[i] = w at hr0 hvi ⊢
    have hr : ∀ k', k' = i → Reads (Pile H) ⟨pb, po + k', none⟩ w := fun _ e => e ▸ hr0
    repeat (first
      | (refine g_ops ?_; first | refine sO ?_ | refine s_n (fun _ => ?_) | refine s_app (fun _ _ => ?_) | refine s_b0 (fun _ => ?_) | ((fail_if_success refine g_lit rfl rfl rfl ?_); first | apply g_partM rfl rfl rfl | apply g_partMB rfl rfl rfl | fail))
      | (apply g_drawB (id := 9) 60 (.take 0 (.take 1 (.take 2 (.take 3 (.take 4 (.take 5 (.take 6 (.take 7 (.take 8 (.take 9 (.take 10 (.take 11 (.take 12 (.take 13 (.take 14 (.take 15 (.take 16 (.take 17 (.see 19 [] (.one 18 (.take 20 (.take 21 .done)))))))))))))))))))))) (by kernel_rfl); intro k hd hk)
      | refine gS ?_ | exact s_m | intro _ | (refine gp_take ?_; first | refine pT ?_ | ((fail_if_success refine gp_lit rfl rfl rfl rfl ?_); first | apply gp_guard_dec rfl rfl rfl rfl | apply gp_guard rfl rfl rfl rfl | fail))
      | (refine gp_see ?_; first | refine p_f ?_ | refine pS ?_ | ((fail_if_success refine gp_lit rfl rfl rfl rfl ?_); first | apply gp_guard_dec rfl rfl rfl rfl | apply gp_guard rfl rfl rfl rfl | fail))
      | (refine gp_one ?_; first | refine pO ?_ | refine p_n (fun _ => ?_) | refine p_app (fun _ _ => ?_) | refine p_b0 (fun _ => ?_) | ((fail_if_success refine gp_lit rfl rfl rfl rfl ?_); first | apply gp_guard_dec rfl rfl rfl rfl | apply gp_guard rfl rfl rfl rfl | fail) | refine p_cP (hi2) hd hk (fun _ _ => ?_))
      | refine gp_two ?_ ?_ | refine gp_done hd hk ?_ | intro _ | refine p_ta hd hk (fun _ _ _ hd hk => ?_) | refine p_ts hd hk (fun _ hd hk => ?_))
    refine g_as 60 (v' := .bool false) rfl (congrArg Value.bool (by rw [decide_eq_false (by omega)]; simp)) ?_
    rcases hvi with rfl | ⟨t, u, rfl⟩
    · repeat (first
        | (refine g_ops ?_; first | refine sO ?_ | refine s_n (fun _ => ?_) | refine s_app (fun _ _ => ?_) | refine s_b0 (fun _ => ?_) | ((fail_if_success refine g_lit rfl rfl rfl ?_); first | apply g_partM rfl rfl rfl | apply g_partMB rfl rfl rfl | fail))
        | refine gS ?_ | exact s_m | intro _)
      exact gR () trivial
    · repeat (first
        | (refine g_ops ?_; first | refine sO ?_ | refine s_n (fun _ => ?_) | refine s_app (fun _ _ => ?_) | refine s_b0 (fun _ => ?_) | ((fail_if_success refine g_lit rfl rfl rfl ?_); first | apply g_partM rfl rfl rfl | apply g_partMB rfl rfl rfl | fail))
        | refine gS ?_ | exact s_m | intro _)
      exact gR () trivial
  · rw [decide_eq_false hlt, show l.getD i .nilIface = .nilIface by simp [List.getD, hlt]]
    repeat (first
      | (refine g_ops ?_; first | refine sO ?_ | refine s_n (fun _ => ?_) | refine s_app (fun _ _ => ?_) | refine s_b0 (fun _ => ?_) | ((fail_if_success refine g_lit rfl rfl rfl ?_); first | apply g_partM rfl rfl rfl | apply g_partMB rfl rfl rfl | fail))
      | (apply g_drawB (id := 9) 60 (.take 0 (.take 1 (.take 2 (.take 3 (.take 4 (.take 5 (.take 6 (.take 7 (.take 8 (.take 9 (.take 10 (.take 11 (.take 12 (.take 13 (.take 14 (.take 15 (.take 16 (.take 17 (.see 19 [] (.one 18 (.take 20 (.take 21 .done)))))))))))))))))))))) (by kernel_rfl); intro k hd hk)
      | refine gS ?_ | exact s_m | intro _ | (refine gp_take ?_; first | refine pT ?_ | ((fail_if_success refine gp_lit rfl rfl rfl rfl ?_); first | apply gp_guard_dec rfl rfl rfl rfl | apply gp_guard rfl rfl rfl rfl | fail))
      | (refine gp_see ?_; first | refine p_f ?_ | refine pS ?_ | ((fail_if_success refine gp_lit rfl rfl rfl rfl ?_); first | apply gp_guard_dec rfl rfl rfl rfl | apply gp_guard rfl rfl rfl rfl | fail))
      | (refine gp_one ?_; first | refine pO ?_ | refine p_n (fun _ => ?_) | refine p_app (fun _ _ => ?_) | refine p_b0 (fun _ => ?_) | ((fail_if_success refine gp_lit rfl rfl rfl rfl ?_); first | apply gp_guard_dec rfl rfl rfl rfl | apply gp_guard rfl rfl rfl rfl | fail) | refine p_cP (hi2) hd hk (fun _ _ => ?_))
      | refine gp_two ?_ ?_ | refine gp_done hd hk ?_ | intro _ | refine p_ta hd hk (fun _ _ _ hd hk => ?_) | refine p_ts hd hk (fun _ hd hk => ?_))
    refine g_as 60 (v' := .bool true) rfl (congrArg Value.bool (by rw [decide_eq_true (by omega)]; rfl)) ?_
    repeat (first
      | (refine g_ops ?_; first | refine sO ?_ | refine s_n (fun _ => ?_) | refine s_app (fun _ _ => ?_) | refine s_b0 (fun _ => ?_) | ((fail_if_success refine g_lit rfl rfl rfl ?_); first | apply g_partM rfl rfl rfl | apply g_partMB rfl rfl rfl | fail))
      | refine gS ?_ | exact s_m | intro _)
    exact gR () trivial
end Go.Proofs.YtpilcncdgjnbeaaDoor

namespace Go.Sl
theorem does_of_new {P : Program} {f : FuncId} {args : List Value} {ret : Nat → Value} {xs : List Value} {e0 : TypeId} {H : HP} (h : ∀ w, (∀ b o, H b = some o → w.heap[b]? = some o) → Calls P f args.toArray w fun e w' => e = .returned (ret w.heap.size) ∧ w' = w.alloc (.cells xs.toArray e0)) : Does P f args [Pile H] ret (fun b => [.row b xs e0, Pile H]) (fun _ => True) := fun Γ w hh => by
  have hH : ∀ b o, H b = some o → w.heap[b]? = some o := by
    obtain ⟨h, _, s, h1, _, _, s1, _, hc, _⟩ := hh.own
    have hc' : h1 = H := hc
    subst hc'
    exact fun b o hb => s _ _ (s1 _ _ hb)
  refine (h w hH).mono ?_
  rintro e w' ⟨rfl, rfl⟩
  exact ⟨w.heap.size, trivial, rfl, hh.newRow⟩
end Go.Sl
namespace Go.Proofs.YtpilcncdgjnbeaaDoor
open Go.Sl facts
def VarI (H : HP) (g : Nat) : Prop := ∃ m cs e fz, H g = some (.cells cs e fz) ∧ cs[0]? = some (.int .i64 m)
theorem VarI.grow {H H' : HP} {g : Nat} (s : HP.sub H H') (h : VarI H g) : VarI H' g :=
  let ⟨m, cs, e, fz, h1, h2⟩ := h
  ⟨m, cs, e, fz, s _ _ h1, h2⟩
theorem splitS {H : HP} (hI : VarI H 2) (s sep : ByteArray) (hs : s.size < 4294967281) (h1 : 1 ≤ sep.size) :
    Does Tryd.prog 46 [.string s, .string sep] [Pile H] (X := Nat) (fun b => .slice (some ⟨b, 0, none⟩) (Lib.countB s sep + 1) (Lib.countB s sep + 1)) (fun b => [.row b ((Lib.splitB sep 0 (Lib.countB s sep) s).map Value.string) 9, Pile H]) (fun _ => True) := by
  obtain ⟨m, cs, e, fz, hg, hm⟩ := hI
  exact does_of_new fun w hw => Any.strings_Split Tryd.laysNm146 (by kernel_rfl) s sep m w hs (by
    show w.cell? ⟨2, 0, none⟩ = _
    simp [World.cell?, hw _ _ hg, hm]) h1
end Go.Proofs.YtpilcncdgjnbeaaDoor

namespace Go.Proofs.YtpilcncdgjnbeaaDoor
open Go.Sl
abbrev slash : ByteArray := ⟨#[47]⟩
def pieces (L : List UInt8) : List ByteArray := Lib.splitB slash 0 (Lib.countB (txt L) slash) (txt L)
theorem index_no : ∀ a : List UInt8, (∀ c ∈ a, c ≠ 47) → Lib.index a [47] = -1
  | [], _ => by simp [Lib.index]
  | b :: l, h => by
    have hb : (47 : UInt8) ≠ b := fun e => h b (List.mem_cons_self ..) e.symm
    rw [Lib.index, show ([47] : List UInt8).isPrefixOf (b :: l) = false by simp [List.isPrefixOf, hb], index_no l fun c hc => h c (List.mem_cons_of_mem _ hc)]; rfl
theorem index_at : ∀ (a r : List UInt8), (∀ c ∈ a, c ≠ 47) → Lib.index (a ++ 47 :: r) [47] = a.length
  | [], r, _ => by rw [List.nil_append, Lib.index]; simp [List.isPrefixOf]
  | b :: l, r, h => by
    have hb : (47 : UInt8) ≠ b := fun e => h b (List.mem_cons_self ..) e.symm
    rw [List.cons_append, Lib.index, show ([47] : List UInt8).isPrefixOf (b :: (l ++ 47 :: r)) = false by simp [List.isPrefixOf, hb], index_at l r fun c hc => h c (List.mem_cons_of_mem _ hc)]
    simp
theorem indexB_no (a : List UInt8) (h : ∀ c ∈ a, c ≠ 47) : Lib.indexB (txt a) slash = -1 := by
  have := index_no a h
  unfold Lib.indexB
  simpa [txt] using this
theorem indexB_at (a r : List UInt8) (h : ∀ c ∈ a, c ≠ 47) : Lib.indexB (txt (a ++ 47 :: r)) slash = a.length := by
  have := index_at a r h
  unfold Lib.indexB
  simpa [txt] using this
theorem pieces_no (a : List UInt8) (h : ∀ c ∈ a, c ≠ 47) : pieces a = [txt a] := Lib.splitB_miss _ _ _ _ (indexB_no a h)
theorem pieces_at (a r : List UInt8) (h : ∀ c ∈ a, c ≠ 47) : pieces (a ++ 47 :: r) = txt a :: pieces r := by
  have hz := txt_size (a ++ 47 :: r)
  have hi := indexB_at a r h
  have e1 : (txt (a ++ 47 :: r)).extract 0 (a.length + 0) = txt a := by rw [ext_txt]; simp
  have e2 : (txt (a ++ 47 :: r)).extract (a.length + slash.size) (txt (a ++ 47 :: r)).size = txt r := by
    have hs : slash.size = 1 := rfl
    rw [ext_txt, hz, hs, ← List.drop_drop, List.drop_left, List.drop_one, List.tail_cons, List.take_of_length_le (by simp only [List.length_append, List.length_cons]; omega)]
  unfold pieces
  rw [Lib.countB_hit _ _ a.length (by decide) hi, e2, Nat.add_comm 1, Lib.splitB_hit _ _ _ _ a.length hi, e1, e2]
end Go.Proofs.YtpilcncdgjnbeaaDoor

namespace Go.Proofs.YtpilcncdgjnbeaaDoor
open Go.Sl facts
attribute [local irreducible] Code.wp wpList Exit.then Exit.inBlock bodyPost Back MidQ G GP QStep VStep CStep SStep Does Post Reads
abbrev StD (H : HP) (x : Value) (k : ByteArray) (y : Value) (ok : Bool) : Prop := Does Tryd.prog 47 [x, .string k] [Pile H] (X := Unit) (fun _ => .tuple #[y, .bool ok]) (fun _ => [Pile H]) (fun _ => True)
set_option maxHeartbeats 4000000 in
theorem get_ {H : HP} (hT : Tb H) (hI : VarI H 2) (L : List UInt8) (hL : L.length ≤ 1000000) (hL0 : 0 < L.length) {v0 v1 : V} (xs : List Value) (ok : Bool) (h0 : TAt H v0 (xs.getD 0 .nilIface)) (hw : (weigh v0 0 0).1 = 0)
    (hlen : xs.length = (pieces L).length + 1) (hst : ∀ j, j < (pieces L).length → StD H (xs.getD j .nilIface) ((pieces L).getD j ByteArray.empty) (xs.getD (j + 1) .nilIface) (if j + 1 = (pieces L).length then ok else true)) (hsh : ∀ j, xs.getD j .nilIface = .nilIface ∨ ∃ t u, xs.getD j .nilIface = .iface t u)
    (h1 : ok = true → TAt H v1 (xs.getD (pieces L).length .nilIface) ∧ szV v1 ≤ 100000000) :
    Does Tryd.prog 32 [xs.getD 0 .nilIface, .string (txt L)] [Pile H] (X := HP × Value) (fun y => .tuple #[y.2, int (if ok = true then 0 else 1)]) (fun y => [Pile y.1]) (fun y => HP.sub H y.1 ∧ (ok = true → TAt y.1 v1 y.2)) := by
  have hz : (txt L).size = L.length := txt_size L
  have hck := check1 hT.vs h0
  rw [hw] at hck
  have hsp := splitS hI (txt L) slash (by rw [hz]; omega) (by decide)
  have hlp : Lib.countB (txt L) slash + 1 = (pieces L).length := (Lib.splitB_all slash (by decide) 0 _ (txt L) rfl).symm
  rw [hlp] at hsp
  have hpp : Lib.splitB slash 0 (Lib.countB (txt L) slash) (txt L) = pieces L := rfl
  rw [hpp] at hsp
  have hps : 0 < (pieces L).length := by omega
  have hpb : (pieces L).length ≤ 1000001 := by
    have := Lib.countB_le slash (by decide) _ (txt L) (Nat.le_refl _)
    omega
  generalize pieces L = ps at hlen hst h1 hsp hps hpb
  have hx0 := hsh 0
  have hne : ¬ txt L = ByteArray.empty := fun e => by rw [e] at hz; simp at hz; omega
  refine fn_intro Tryd.func32 rfl Tryd.ntmps32 rfl (by simp only [argFr, Nat.zero_add, Nat.reduceAdd]; rfl) (fun Γ => ?_)
  repeat (first
    | (refine g_ops ?_; first | refine sO ?_ | refine s_n (fun _ => ?_) | refine s_app (fun _ _ => ?_) | refine s_b0 (fun _ => ?_) | ((fail_if_success refine g_lit rfl rfl rfl ?_); first | apply g_partM rfl rfl rfl | apply g_partMB rfl rfl rfl | fail) | refine s_k (hck) ?_)
    | refine gS ?_ | exact s_m | intro _)
  refine g_as 14 (v' := .bool false) rfl (congrArg Value.bool (decide_eq_false hne)) ?_
  repeat (first
    | (refine g_ops ?_; first | refine sO ?_ | refine s_n (fun _ => ?_) | refine s_app (fun _ _ => ?_) | refine s_b0 (fun _ => ?_) | ((fail_if_success refine g_lit rfl rfl rfl ?_); first | apply g_partM rfl rfl rfl | apply g_partMB rfl rfl rfl | fail) | refine s_c (hsp) (fun _ _ => ?_))
    | refine gS ?_ | exact s_m | intro _)
  rename_i b _
  dsimp only [List.cons_append, List.nil_append, List.append_eq]
  refine g_loop (X := Nat) (fun i => [(0, xs.getD i .nilIface), (18, .slice (some ⟨b, 0, none⟩) ps.length ps.length), (19, int ps.length), (20, int i)]) (fun _ => [.row b (ps.map .string) 9, Pile H]) (fun i => i ≤ ps.length ∧ (i = ps.length → ok = true)) (fun i => ps.length - i) 0 ⟨Nat.zero_le _, fun e => by omega⟩ (by (repeat (first | exact FrSub.nil | refine FrSub.cons rfl ?_)); first | done | fail) (by (repeat (first | exact Take.nil | apply Take.cons | exact Sel.here | apply Sel.there)); first | done | fail) (fun i hi => ?_)
  obtain ⟨hi, hok⟩ := hi
  repeat (first
    | (refine g_ops ?_; first | refine sO ?_ | refine s_n (fun _ => ?_) | refine s_app (fun _ _ => ?_) | refine s_b0 (fun _ => ?_) | ((fail_if_success refine g_lit rfl rfl rfl ?_); first | apply g_partM rfl rfl rfl | apply g_partMB rfl rfl rfl | fail))
    | refine gS ?_ | exact s_m | intro _)
  refine g_cond_dec rfl (fun h2 => ?_) (fun h2 => ?_)
  · have hi' : i < ps.length := by omega
    have hs := hst i hi'
    have hr : ∀ k, k = i → Reads (.row b (ps.map .string) 9) ⟨b, 0 + k, none⟩ (.string (ps.getD i ByteArray.empty)) := fun k e => by
      subst e; rw [Nat.zero_add]; exact reads_row (by simp [List.getD, hi'])
    unfold StD at hs
    repeat (first
      | (refine g_ops ?_; first | refine sO ?_ | refine s_n (fun _ => ?_) | refine s_app (fun _ _ => ?_) | refine s_b0 (fun _ => ?_) | ((fail_if_success refine g_lit rfl rfl rfl ?_); first | apply g_partM rfl rfl rfl | apply g_partMB rfl rfl rfl | fail) | refine s_c (hs) (fun _ _ => ?_))
      | refine gS ?_ | exact s_m | intro _)
    by_cases hl : i + 1 = ps.length ∧ ok = false
    · refine g_as 31 (v' := .bool true) rfl (congrArg Value.bool (by rw [if_pos hl.1, hl.2]; rfl)) ?_
      rw [hl.2]
      repeat (first
        | (refine g_ops ?_; first | refine sO ?_ | refine s_n (fun _ => ?_) | refine s_app (fun _ _ => ?_) | refine s_b0 (fun _ => ?_) | ((fail_if_success refine g_lit rfl rfl rfl ?_); first | apply g_partM rfl rfl rfl | apply g_partMB rfl rfl rfl | fail))
        | refine gS ?_ | exact s_m | intro _)
      exact gR (H, .nilIface) ⟨HP.sub.refl _, fun h => by cases h⟩
    · have hok2 : i + 1 = ps.length → ok = true := fun e => by
        cases hb : ok with
        | true => rfl
        | false => exact absurd ⟨e, hb⟩ hl
      refine g_as 31 (v' := .bool false) rfl (congrArg Value.bool (by
        by_cases e : i + 1 = ps.length
        · rw [if_pos e, hok2 e]; rfl
        · rw [if_neg e]; rfl)) ?_
      repeat (first
        | (refine g_ops ?_; first | refine sO ?_ | refine s_n (fun _ => ?_) | refine s_app (fun _ _ => ?_) | refine s_b0 (fun _ => ?_) | ((fail_if_success refine g_lit rfl rfl rfl ?_); first | apply g_partM rfl rfl rfl | apply g_partMB rfl rfl rfl | fail))
        | refine gS ?_ | exact s_m | intro _)
      refine g_as 20 (v' := int ((i + 1 : Nat) : Int)) rfl (congrArg (Value.int .i64) (by push_cast; rfl)) ?_
      exact gA (i + 1) (by omega) ⟨hi', hok2⟩
  · obtain rfl : i = ps.length := by omega
    obtain ⟨ht1, hz1⟩ := h1 (hok rfl)
    have hown := own_ v1 H _ ht1 hz1
    unfold OwnD at hown
    rw [hok rfl]
    repeat (first
      | (refine g_ops ?_; first | refine sO ?_ | refine s_n (fun _ => ?_) | refine s_app (fun _ _ => ?_) | refine s_b0 (fun _ => ?_) | ((fail_if_success refine g_lit rfl rfl rfl ?_); first | apply g_partM rfl rfl rfl | apply g_partMB rfl rfl rfl | fail) | refine s_c (hown) (fun _ _ => ?_))
      | refine gS ?_ | exact s_m | intro _)
    rename_i y hy
    exact gR y ⟨hy.1, fun _ => hy.2⟩
end Go.Proofs.YtpilcncdgjnbeaaDoor

namespace Go.Proofs.YtpilcncdgjnbeaaDoor
open Go.Sl facts
def nestV : Nat → V → V
  | 0, v => v
  | d + 1, v => listV [nilV, nestV d v]
theorem nest_steps {H : HP} (hE : ErrH H) (v : V) : ∀ (d : Nat) (x : Value), TAt H (nestV d v) x → ∃ xs : List Value, xs.length = d + 1 ∧ xs.getD 0 .nilIface = x ∧ TAt H v (xs.getD d .nilIface) ∧ (∀ j, xs.getD j .nilIface = .nilIface ∨ ∃ t u, xs.getD j .nilIface = .iface t u) ∧ ∀ j, j < d → StD H (xs.getD j .nilIface) (txt [49]) (xs.getD (j + 1) .nilIface) true
  | 0, x, h => ⟨[x], rfl, rfl, h, fun j => by
      cases j with
      | zero => exact h.shape
      | succ j => exact .inl rfl, fun j hj => by omega⟩
  | d + 1, x, h => by
    have hx := h.shape
    unfold nestV listV at h
    cases h with
    | list vs hv hl hS h =>
      rename_i p c
      match vs, hv with
      | [a, b], hv =>
        have hb := h 1 (nestV d v) b rfl rfl
        have ha := h 0 nilV a rfl rfl
        obtain ⟨xs, e1, e2, e3, e4, e5⟩ := nest_steps hE v d b hb
        have hst := stepL hE (l := [a, b]) (p := p) (c := c) (by simp) hS (fun w hw => by
          rcases List.mem_cons.1 hw with rfl | hw
          · exact ha.shape
          · rw [List.mem_singleton] at hw; rw [hw]; exact hb.shape) 1 (by decide)
        refine ⟨_ :: xs, by simp [e1], rfl, e3, fun j => ?_, fun j hj => ?_⟩
        · cases j with
          | zero => exact hx
          | succ j => exact e4 j
        · cases j with
          | zero =>
            have e6 : decI ((1 : Nat) : Int) = [49] := by decide +kernel
            rw [e6] at hst
            show StD H _ _ (xs.getD 0 .nilIface) true
            rw [e2]
            exact hst
          | succ j => exact e5 j (by omega)
    | other hk => omega
end Go.Proofs.YtpilcncdgjnbeaaDoor

namespace Go.Proofs.YtpilcncdgjnbeaaDoor
open Go.Sl facts
def ones : Nat → List UInt8
  | 0 => []
  | d + 1 => ones d ++ [49, 47]
theorem ones_len : ∀ d, (ones d).length = 2 * d
  | 0 => rfl
  | d + 1 => by rw [ones, List.length_append, ones_len d]; simp; omega
theorem ones_pieces : ∀ (d : Nat) (r : List UInt8), pieces (ones d ++ r) = List.replicate d (txt [49]) ++ pieces r
  | 0, r => rfl
  | d + 1, r => by
    rw [ones, List.append_assoc, ones_pieces d, show ([49, 47] : List UInt8) ++ r = [49] ++ 47 :: r from rfl, pieces_at [49] r (by decide), List.replicate_succ', List.append_assoc]
    rfl
theorem path_pieces (d : Nat) (k : List UInt8) (c : UInt8) (hk : ∀ b ∈ k, b ≠ 47) (hc : c ≠ 47) : pieces (ones d ++ (k ++ 47 :: [c])) = List.replicate d (txt [49]) ++ [txt k, txt [c]] := by
  rw [ones_pieces, pieces_at k _ hk, pieces_no [c] (fun b hb => by rw [List.mem_singleton] at hb; rw [hb]; exact hc)]
end Go.Proofs.YtpilcncdgjnbeaaDoor

namespace Go.Proofs.YtpilcncdgjnbeaaDoor
open Go.Sl facts
def kidsV (n : Int) (m : Nat) : List V := (List.range m).map fun i => listV [intV (i : Nat), intV n]
theorem kidsV_at (n : Int) (m i : Nat) (h : i < m) : (kidsV n m)[i]? = some (listV [intV (i : Nat), intV n]) := by
  simp [kidsV, h]
theorem blt_self (a : ByteArray) : bltB a a = false := by
  have h : ∀ x : List UInt8, Op.bytesLess x x = false := fun x => by
    induction x with
    | nil => rfl
    | cons a x ih => simp [Op.bytesLess, ih]
  exact h _
theorem blt_trans {a b c : ByteArray} (h1 : bltB a b = true) (h2 : bltB b c = true) : bltB a c = true := by
  have h : ∀ (x y z : List UInt8), Op.bytesLess x y = true → Op.bytesLess y z = true → Op.bytesLess x z = true := by
    intro x
    induction x with
    | nil =>
      intro y z h1 h2
      match y, z with
      | [], _ => simp [Op.bytesLess] at h1
      | _ :: _, [] => simp [Op.bytesLess] at h2
      | _ :: _, _ :: _ => rfl
    | cons a x ih =>
      intro y z h1 h2
      match y, z with
      | [], _ => simp [Op.bytesLess] at h1
      | _ :: _, [] => simp [Op.bytesLess] at h2
      | b :: y, c :: z =>
        simp only [Op.bytesLess, Bool.or_eq_true, decide_eq_true_eq, Bool.and_eq_true, beq_iff_eq] at h1 h2 ⊢
        rcases h1 with h1 | ⟨e1, h1⟩ <;> rcases h2 with h2 | ⟨e2, h2⟩
        · exact .inl (UInt8.lt_trans h1 h2)
        · subst e2; exact .inl h1
        · subst e1; exact .inl h2
        · subst e1; subst e2; exact .inr ⟨rfl, ih y z h1 h2⟩
  exact h _ _ _ h1 h2
theorem keys_rise : ∀ (l : List V) (pr : Option ByteArray) (ks : List ByteArray) (lv n : Int), ks.length = l.length → (weighL true pr ks l lv n).1 = 0 → (∀ q ∈ pr, ∀ k ∈ ks, bltB q k = true) ∧ ks.Pairwise fun a b => bltB a b = true
  | [], pr, ks, lv, n, e, _ => by
    have : ks = [] := List.length_eq_zero_iff.1 e
    subst this
    exact ⟨fun _ _ _ h => (by cases h), .nil⟩
  | x :: l, pr, [], lv, n, e, _ => by simp at e
  | x :: l, pr, k :: ks, lv, n, e, h => by
    rw [weighL_cons] at h
    split at h
    · cases h
    rename_i hk
    split at h
    · obtain ⟨h1, h2⟩ := keys_rise l (some k) ks lv _ (by simpa using e) h
      have h1' := h1 k rfl
      have hq : ∀ q ∈ pr, bltB q k = true := fun q hq => by
        cases hb : bltB q k with
        | true => rfl
        | false => exact absurd ⟨rfl, .inr ⟨q, hq, hb⟩⟩ hk
      exact ⟨fun q hq' w hw => by
        rcases List.mem_cons.1 hw with rfl | hw
        · exact hq q hq'
        · exact blt_trans (hq q hq') (h1' w hw), .cons h1' h2⟩
    · rename_i h0; exact absurd h h0
theorem nest_weigh {v : V} : ∀ (d : Nat) (lv n : Int), (weigh (nestV d v) lv n).1 = 0 → ∃ lv n, (weigh v lv n).1 = 0
  | 0, lv, n, h => ⟨lv, n, h⟩
  | d + 1, lv, n, h => by
    unfold nestV listV at h
    rw [weigh_mk] at h
    simp only [show ¬ ((5 : Int) < 1 ∨ 6 < (5 : Int)) by omega, show ¬ ((5 : Int) = 4 ∧ validB ByteArray.empty = false) by omega, show ¬ ((5 : Int) < 5) by omega, if_false] at h
    split at h
    · cases h
    split at h
    · cases h
    obtain ⟨lv', n', h'⟩ := weighL_all _ _ _ _ _ h (nestV d v) (by simp)
    exact nest_weigh d lv' n' h'
theorem pairs_rise {ks : List ByteArray} {l : List V} {lv n : Int} (e : ks.length = l.length) (h : (weigh (pairsV ks l) lv n).1 = 0) : ks.Pairwise fun a b => bltB a b = true := by
  unfold pairsV at h
  rw [weigh_mk] at h
  simp only [show ¬ ((6 : Int) < 1 ∨ 6 < (6 : Int)) by omega, show ¬ ((6 : Int) = 4 ∧ validB ByteArray.empty = false) by omega, show ¬ ((6 : Int) < 5) by omega, if_false] at h
  split at h
  · cases h
  split at h
  · cases h
  exact (keys_rise l none ks _ _ e h).2
theorem gd_lt {α : Type} (xs ys : List α) (j : Nat) (d : α) (h : j < xs.length) : (xs ++ ys).getD j d = xs.getD j d := by
  simp [List.getD, List.getElem?_append_left h]
theorem gd_eq {α : Type} (xs : List α) (y : α) (j : Nat) (d : α) (h : xs.length = j) : (xs ++ [y]).getD j d = y := by
  subst h; simp [List.getD]
theorem gd_ge {α : Type} (xs : List α) (j : Nat) (d : α) (h : xs.length ≤ j) : xs.getD j d = d := by
  simp [List.getD, List.getElem?_eq_none h]
theorem pair_steps {H : HP} (hE : ErrH H) {ls : List ByteArray} {n : Int} {d : Nat} {x : Value} (hx : TAt H (nestV d (pairsV ls (kidsV n ls.length))) x) (hw : (weigh (nestV d (pairsV ls (kidsV n ls.length))) 0 0).1 = 0) (hl : ls.length ≤ 20) (i : Nat) (hi : i < ls.length) :
    ∃ xs : List Value, xs.length = d + 2 ∧ xs.getD 0 .nilIface = x ∧ (∀ j, xs.getD j .nilIface = .nilIface ∨ ∃ t u, xs.getD j .nilIface = .iface t u) ∧ (∀ j, j < d → StD H (xs.getD j .nilIface) (txt [49]) (xs.getD (j + 1) .nilIface) true) ∧ StD H (xs.getD d .nilIface) ls[i] (xs.getD (d + 1) .nilIface) true ∧ StD H (xs.getD (d + 1) .nilIface) (txt [48]) (.iface 3 (int (i : Nat))) true ∧ StD H (xs.getD (d + 1) .nilIface) (txt [50]) .nilIface false := by
  have hkl : (kidsV n ls.length).length = ls.length := by simp [kidsV]
  obtain ⟨xs, e1, e2, e3, e4, e5⟩ := nest_steps hE _ d x hx
  obtain ⟨lv', n', hw'⟩ := nest_weigh d _ _ hw
  have hup := pairs_rise (by rw [hkl]) hw'
  unfold pairsV at e3
  generalize hy : xs.getD d .nilIface = y at e3
  cases e3 with
  | other hk => omega
  | pairs ps hv hpl hk hz hS hA =>
    rename_i p c
    have hpi : i < ps.length := by omega
    have hki : ps[i].k = ls[i] := by simp [hk]
    have hu : upK ps[i].k ps = i := upK_at hpi (fun j hj hji e => by
      have := List.pairwise_iff_getElem.1 hup j i (by omega) hi hji
      have h2 : bltB (ps[j]).k (ps[i]).k = true := by simpa [hk] using this
      rw [e, blt_self] at h2
      cases h2) rfl
    have hst := stepP (y := false) (n := 0) (s := ByteArray.empty) (c := c) ps hv (by omega) hS hA i hpi hu
    have hti := hA i _ _ (kidsV_at n _ i hi) (List.getElem?_eq_getElem hpi)
    have hsh := hti.shape
    generalize hu2 : (ps[i]).v = u at hst hti hsh
    unfold listV at hti
    cases hti with
    | other hk => omega
    | list vs hv2 hl2 hS2 hA2 =>
      rename_i p2 cc2
      match vs, hv2 with
      | [a, b], _ =>
        have ha := hA2 0 _ a rfl rfl
        have hb := hA2 1 _ b rfl rfl
        have hsh2 : ∀ w ∈ [a, b], w = .nilIface ∨ ∃ t u, w = .iface t u := fun w hw => by
          rcases List.mem_cons.1 hw with rfl | hw
          · exact ha.shape
          · rw [List.mem_singleton] at hw; rw [hw]; exact hb.shape
        have h0 := stepL hE (l := [a, b]) (c := cc2) (by simp) hS2 hsh2 0 (by decide)
        have h2 := stepL hE (l := [a, b]) (c := cc2) (by simp) hS2 hsh2 2 (by decide)
        rw [show decI ((0 : Nat) : Int) = [48] by decide +kernel] at h0
        rw [show decI ((2 : Nat) : Int) = [50] by decide +kernel] at h2
        have ea : a = .iface 3 (int (i : Nat)) := by
          unfold intV at ha
          cases ha with
          | int => rfl
          | other hk => omega
        subst ea
        refine ⟨xs ++ [.iface 35 (.slice p2 2 cc2)], by simp [e1], ?_, fun j => ?_, fun j hj => ?_, ?_, ?_, ?_⟩
        · rw [← e2, gd_lt _ _ _ _ (by omega)]
        · rcases Nat.lt_trichotomy j (d + 1) with h | rfl | h
          · rw [gd_lt _ _ _ _ (by omega)]; exact e4 j
          · rw [gd_eq _ _ _ _ e1]; exact .inr ⟨_, _, rfl⟩
          · rw [gd_ge _ _ _ (by simp; omega)]; exact .inl rfl
        · have := e5 j hj
          rw [gd_lt _ _ _ _ (by omega), gd_lt _ _ _ _ (by omega)]; exact this
        · rw [gd_lt _ _ _ _ (by omega), gd_eq _ _ _ _ e1]
          rw [hy, ← hki]
          exact hst
        · rw [gd_eq _ _ _ _ e1]; exact h0
        · rw [gd_eq _ _ _ _ e1]; exact h2
theorem get_path {H : HP} (hT : Tb H) (hI : VarI H 2) (L : List UInt8) {d : Nat} (hL : L.length ≤ 1000000 ∧ 0 < L.length) {k c : ByteArray} (hp : pieces L = List.replicate d (txt [49]) ++ [k, c]) (xs : List Value) (z : Value) (ok : Bool) {v0 v1 : V} {x : Value} (e1 : xs.length = d + 2) (e2 : xs.getD 0 .nilIface = x) (h0 : TAt H v0 x) (hw : (weigh v0 0 0).1 = 0)
    (e3 : ∀ j, xs.getD j .nilIface = .nilIface ∨ ∃ t u, xs.getD j .nilIface = .iface t u) (e4 : ∀ j, j < d → StD H (xs.getD j .nilIface) (txt [49]) (xs.getD (j + 1) .nilIface) true) (e5 : StD H (xs.getD d .nilIface) k (xs.getD (d + 1) .nilIface) true) (e6 : StD H (xs.getD (d + 1) .nilIface) c z ok) (hz : z = .nilIface ∨ ∃ t u, z = .iface t u) (h1 : ok = true → TAt H v1 z) (h2 : ok = true → szV v1 ≤ 100000000) :
    Does Tryd.prog 32 [x, .string (txt L)] [Pile H] (X := HP × Value) (fun y => .tuple #[y.2, int (if ok = true then 0 else 1)]) (fun y => [Pile y.1]) (fun y => HP.sub H y.1 ∧ (ok = true → TAt y.1 v1 y.2)) := by
  have hpl : (pieces L).length = d + 2 := by rw [hp]; simp
  have hp0 : ∀ j, j < d → (pieces L).getD j ByteArray.empty = txt [49] := fun j hj => by rw [hp, gd_lt _ _ _ _ (by simpa using hj)]; simp [List.getD, hj]
  have hp1 : (pieces L).getD d ByteArray.empty = k := by rw [hp]; simp [List.getD]
  have hp2 : (pieces L).getD (d + 1) ByteArray.empty = c := by rw [hp]; simp [List.getD, List.getElem?_append_right]
  have hg := get_ (v1 := v1) hT hI L hL.1 hL.2 (v0 := v0) (xs ++ [z]) ok (by rw [gd_lt _ _ _ _ (by omega), e2]; exact h0) hw (by rw [hpl]; simp [e1]) (fun j hj => by
    rw [hpl] at hj ⊢
    rcases Nat.lt_trichotomy j d with h | rfl | h
    · rw [hp0 j h, gd_lt _ _ _ _ (by omega), gd_lt _ _ _ _ (by omega), if_neg (by omega)]; exact e4 j h
    · rw [hp1, gd_lt _ _ _ _ (by omega), gd_lt _ _ _ _ (by omega), if_neg (by omega)]; exact e5
    · obtain rfl : j = d + 1 := by omega
      rw [hp2, gd_lt _ _ _ _ (by omega), gd_eq _ _ _ _ e1, if_pos rfl]; exact e6) (fun j => by
    rcases Nat.lt_trichotomy j (d + 2) with h | rfl | h
    · rw [gd_lt _ _ _ _ (by omega)]; exact e3 j
    · rw [gd_eq _ _ _ _ e1]; exact hz
    · rw [gd_ge _ _ _ (by simp; omega)]; exact .inl rfl) (fun h => ⟨by rw [hpl, gd_eq _ _ _ _ e1]; exact h1 h, h2 h⟩)
  rw [gd_lt _ _ _ _ (by omega), e2] at hg
  exact hg
theorem pair_gets {H : HP} (hT : Tb H) (hE : ErrH H) (hI : VarI H 2) {ls : List ByteArray} {n : Int} {d : Nat} {x : Value} (hx : TAt H (nestV d (pairsV ls (kidsV n ls.length))) x) (hw : (weigh (nestV d (pairsV ls (kidsV n ls.length))) 0 0).1 = 0) (hl : ls.length ≤ 20) (hd : d ≤ 10) (i : Nat) (hi : i < ls.length) (L : List UInt8) (hL : ls[i] = txt L) (hz : L.length ≤ 1000) (hno : ∀ b ∈ L, b ≠ 47) :
    Does Tryd.prog 32 [x, .string (txt (ones d ++ (L ++ [47, 48])))] [Pile H] (X := HP × Value) (fun y => .tuple #[y.2, int 0]) (fun y => [Pile y.1]) (fun y => HP.sub H y.1 ∧ y.2 = .iface 3 (int (i : Nat))) ∧
    Does Tryd.prog 32 [x, .string (txt (ones d ++ (L ++ [47, 50])))] [Pile H] (X := HP × Value) (fun y => .tuple #[y.2, int 1]) (fun y => [Pile y.1]) (fun y => HP.sub H y.1) := by
  obtain ⟨xs, e1, e2, e3, e4, e5, e6, e7⟩ := pair_steps hE hx hw hl i hi
  rw [hL] at e5
  have hol := ones_len d
  have hlen : ∀ c0 : UInt8, (ones d ++ (L ++ [47, c0])).length ≤ 1000000 ∧ 0 < (ones d ++ (L ++ [47, c0])).length := fun c0 => by
    simp only [List.length_append, List.length_cons, List.length_nil]; omega
  have g0 := get_path (v1 := intV (i : Nat)) hT hI _ (hlen 48) (path_pieces d L 48 hno (by decide)) xs _ true e1 e2 hx hw e3 e4 e5 e6 (.inr ⟨_, _, rfl⟩) (fun _ => .int ⟨by omega, by omega⟩) (fun _ => by unfold intV; rw [szV_mk]; simp [szS, szK])
  have g2 := get_path (v1 := intV (i : Nat)) hT hI _ (hlen 50) (path_pieces d L 50 hno (by decide)) xs _ false e1 e2 hx hw e3 e4 e5 e7 (.inl rfl) (fun h => by cases h) (fun h => by cases h)
  exact ⟨fun Γ w hh => (g0 Γ w hh).mono fun e w' ⟨y, hy, he, hB⟩ => ⟨y, ⟨hy.1, by
      have := hy.2 rfl
      generalize y.2 = u at this
      unfold intV at this
      cases this with
      | int => rfl
      | other hk => omega⟩, he, hB⟩,
    fun Γ w hh => (g2 Γ w hh).mono fun e w' ⟨y, hy, he, hB⟩ => ⟨y, hy.1, he, hB⟩⟩
end Go.Proofs.YtpilcncdgjnbeaaDoor
