/- Contracts and laws that the proof stands on. -/
import Derived.Test.YtfjkfcfmbipfhaaDiskPlays15
set_option linter.unusedSimpArgs false
set_option linter.unusedVariables false
namespace Go.Proofs.Ytfjkfcfmbipfhaa
open Go.Sl facts
structure Df where
  nm : ByteArray
  p : Option Addr
  c : Nat
  bs : List UInt8
  sy : Nat
abbrev D3 := ByteArray × List UInt8 × Nat
abbrev fiD (x : Fi) : D3 := (x.nm, x.safe ++ x.loose, x.safe.length)
abbrev dfD (x : Df) : D3 := (x.nm, x.bs, x.sy)
def Rel (fs : List Fi) (ds : List Df) : Prop := ds.map dfD = fs.map fiD
theorem Rel.len {fs : List Fi} {ds : List Df} (h : Rel fs ds) : ds.length = fs.length := by
  have := congrArg List.length h
  simpa using this
theorem Rel.at_ {fs : List Fi} {ds : List Df} (h : Rel fs ds) {i : Nat} (hd : i < ds.length) (hf : i < fs.length) : ds[i].nm = fs[i].nm ∧ ds[i].bs = fs[i].safe ++ fs[i].loose ∧ ds[i].sy = fs[i].safe.length := by
  have e : (ds.map dfD)[i]? = (fs.map fiD)[i]? := by rw [h]
  simp only [List.getElem?_map, List.getElem?_eq_getElem hd, List.getElem?_eq_getElem hf, Option.map_some, Option.some.injEq, Prod.mk.injEq] at e
  exact ⟨e.1, e.2.1, e.2.2⟩
theorem Rel.nms {fs : List Fi} {ds : List Df} (h : Rel fs ds) : ds.map Df.nm = fs.map Fi.nm := by
  have := congrArg (List.map Prod.fst) h
  simpa [List.map_map, Function.comp_def] using this
abbrev dins (ds : List Df) (pos : Nat) (x : Df) : List Df := ds.take pos ++ x :: ds.drop pos
abbrev dupd (ds : List Df) (pos : Nat) (x : Df) : List Df := ds.take pos ++ x :: ds.drop (pos + 1)
abbrev ddel (ds : List Df) (pos : Nat) : List Df := ds.take pos ++ ds.drop (pos + 1)
abbrev del (fs : List Fi) (pos : Nat) : List Fi := fs.take pos ++ fs.drop (pos + 1)
theorem Rel.ins {fs : List Fi} {ds : List Df} (h : Rel fs ds) {x : Fi} {y : Df} (pos : Nat) (e : dfD y = fiD x) : Rel (ins fs pos x) (dins ds pos y) := by
  unfold Rel at h ⊢
  simp only [List.map_append, List.map_cons, List.map_take, List.map_drop, h, e]
theorem Rel.upd {fs : List Fi} {ds : List Df} (h : Rel fs ds) {x : Fi} {y : Df} (pos : Nat) (e : dfD y = fiD x) : Rel (upd fs pos x) (dupd ds pos y) := by
  unfold Rel at h ⊢
  simp only [List.map_append, List.map_cons, List.map_take, List.map_drop, h, e]
theorem Rel.del {fs : List Fi} {ds : List Df} (h : Rel fs ds) (pos : Nat) : Rel (del fs pos) (ddel ds pos) := by
  unfold Rel at h ⊢
  simp only [List.map_append, List.map_take, List.map_drop, h]
theorem sort_del {fs : List Fi} (h : SortF fs) (pos : Nat) : SortF (del fs pos) := by
  unfold SortF at h ⊢
  have : List.Sublist ((del fs pos).map Fi.nm) (fs.map Fi.nm) := by
    refine List.Sublist.map _ ?_
    have e : fs = fs.take pos ++ fs.drop pos := (List.take_append_drop pos fs).symm
    conv => rhs; rw [e]
    refine List.Sublist.append (List.Sublist.refl _) ?_
    rw [← List.drop_drop]
    exact List.drop_sublist _ _
  exact h.sublist this
theorem used_del (fs : List Fi) (pos : Nat) : used (del fs pos) ≤ used fs := by
  have e := used_append (fs.take pos) (fs.drop pos)
  rw [List.take_append_drop] at e
  have e2 := used_append ((fs.drop pos).take 1) ((fs.drop pos).drop 1)
  rw [List.take_append_drop, List.drop_drop] at e2
  rw [del, used_append]
  omega
theorem del_len (fs : List Fi) (pos : Nat) (h : pos < fs.length) : (del fs pos).length = fs.length - 1 := by simp [del]; omega
theorem ddel_len (ds : List Df) (pos : Nat) (h : pos < ds.length) : (ddel ds pos).length = ds.length - 1 := by simp [ddel]; omega
structure FndAt (ds : List Df) (nm : ByteArray) (k : Nat) : Prop where
  lt : k < ds.length
  eq : ds[k].nm = nm
  ne : ∀ (i : Nat) (h : i < ds.length), i < k → ds[i].nm ≠ nm
def FndNo (ds : List Df) (nm : ByteArray) : Prop := ∀ (i : Nat) (h : i < ds.length), ds[i].nm ≠ nm
structure PutAt (ds : List Df) (nm : ByteArray) (pos : Nat) : Prop where
  le : pos ≤ ds.length
  lo : ∀ (i : Nat) (h : i < ds.length), i < pos → ltB nm ds[i].nm = false
  hi : ∀ (i : Nat) (h : i < ds.length), pos ≤ i → ltB nm ds[i].nm = true
theorem Rel.fnd {fs : List Fi} {ds : List Df} (h : Rel fs ds) {nm : ByteArray} {pos : Nat} (hP : PosIs fs nm pos) (hf : foundB fs nm pos = true) : FndAt ds nm pos := by
  have hlt := found_lt hf
  have hl := h.len
  refine ⟨by omega, by rw [(h.at_ (by omega) hlt).1]; exact found_nm hf hlt, fun i hi hip e => ?_⟩
  rw [(h.at_ hi (by omega)).1] at e
  have := hP.lo i (by omega) hip
  rw [cmpS_zero.2 e] at this
  omega
theorem Rel.no {fs : List Fi} {ds : List Df} (h : Rel fs ds) (hs : SortF fs) {nm : ByteArray} {pos : Nat} (hP : PosIs fs nm pos) (hf : foundB fs nm pos = false) : FndNo ds nm := fun i hi e => by
  have hl := h.len
  have hi2 : i < fs.length := by omega
  rw [(h.at_ hi hi2).1] at e
  subst e
  obtain ⟨p1, p2⟩ := hs.at hi2
  have hpi : pos = i := by
    rcases Nat.lt_trichotomy pos i with q | q | q
    · have hlt : pos < fs.length := by omega
      have := p1.lo pos hlt q
      exact absurd this (hP.hi pos hlt (Nat.le_refl _))
    · exact q
    · have := hP.lo i hi2 q
      rw [cmpS_zero.2 rfl] at this
      omega
  subst hpi
  rw [p2] at hf
  cases hf
theorem Rel.put {fs : List Fi} {ds : List Df} (h : Rel fs ds) (hs : SortF fs) {nm : ByteArray} {pos : Nat} (hP : PosIs fs nm pos) (hf : foundB fs nm pos = false) : PutAt ds nm pos := by
  have hl := h.len
  have hno := h.no hs hP hf
  refine ⟨by have := hP.le; omega, fun i hi hip => ?_, fun i hi hip => ?_⟩
  · rw [(h.at_ hi (by omega)).1]
    exact ltB_asym (cmpS_neg.1 (hP.lo i (by omega) hip))
  · have hne := hno i hi
    have h1 := hP.hi i (by omega) hip
    rw [(h.at_ hi (by omega)).1] at hne ⊢
    rcases ltB_or fs[i].nm nm with q | q | q
    · exact absurd (cmpS_neg.2 q) h1
    · exact q
    · exact absurd q hne
theorem sort_at {fs : List Fi} (h : SortF fs) {x : Fi} {pos : Nat} (hf : foundB fs x.nm pos = true) : SortF (upd fs pos x) :=
  sort_upd h (found_lt hf) (found_nm hf (found_lt hf)).symm
theorem ins_del {α : Type} (l : List α) (pos : Nat) (x : α) (h : pos < l.length) : (l.take pos ++ l.drop (pos + 1)).take pos ++ x :: (l.take pos ++ l.drop (pos + 1)).drop pos = l.take pos ++ x :: l.drop (pos + 1) := by
  have e : (l.take pos).length = pos := by simp; omega
  rw [List.take_left' e, List.drop_left' e]
def CutRel (ops ct n last : Int) : Prop := n = ops ∧ 0 ≤ ops ∧ ((ct = 0 ∧ last = -1) ∨ (1 ≤ ct ∧ ct ≤ 1000000 ∧ 0 ≤ last ∧ last ≤ 1000000 ∧ ct - 1 = max (last - n) 0))
theorem CutRel.off {ops ct n last : Int} (h : CutRel ops ct n last) : (0 ≤ last ∧ n + 1 > last) ↔ ct = 1 := by
  obtain ⟨_, _, h | h⟩ := h <;> omega
theorem CutRel.next {ops ct n last : Int} (h : CutRel ops ct n last) : CutRel (ops + 1) (cutN ct) (n + 1) last := by
  obtain ⟨h1, h2, h⟩ := h
  refine ⟨by omega, by omega, ?_⟩
  unfold cutN
  rcases h with h | h
  · left; split <;> omega
  · obtain ⟨g1, g2, g3, g4, g5⟩ := h
    right
    split
    · refine ⟨by omega, by omega, g3, g4, by omega⟩
    · refine ⟨by omega, by omega, g3, g4, by omega⟩
theorem CutRel.cnt {ops ct n last : Int} (h : CutRel ops ct n last) (hb : ops ≤ 1000000) : Cnt ops ct := by
  obtain ⟨_, h2, h⟩ := h
  refine ⟨h2, by omega, ?_, ?_⟩ <;> rcases h with h | h <;> omega
end Go.Proofs.Ytfjkfcfmbipfhaa

namespace Go.Proofs.Ytfjkfcfmbipfhaa
open Go.Sl facts
attribute [local irreducible] Code.wp wpList Exit.then Exit.inBlock bodyPost Back MidQ G GP QStep VStep CStep SStep Does Post Reads
def nmOk (s : ByteArray) : Bool := decide (0 < s.size) && decide (s.size ≤ 100)
theorem nmOk_of {s : ByteArray} (h : nmOk s = true) : 0 < s.size ∧ s.size ≤ 100 := by
  unfold nmOk at h
  simpa using h
theorem size_zero {s : ByteArray} (h : s.size = 0) : s = ⟨#[]⟩ := by
  obtain ⟨⟨l⟩⟩ := s
  have : l.length = 0 := h
  rw [List.length_eq_zero_iff.1 this]
theorem nmOk_ne {s : ByteArray} (h : s.size ≠ 0) : nmOk s = decide (s.size ≤ 100) := by
  unfold nmOk
  rw [decide_eq_true (show 0 < s.size by omega), Bool.true_and]
theorem namedB (s : ByteArray) (hs : s.size ≤ 9223372036854775807) : Does1 Try.prog 29 [.string s] [] (.bool (nmOk s)) := by
  refine fn_intro Try.func29 rfl Try.ntmps29 rfl (by simp only [argFr, Nat.zero_add, Nat.reduceAdd]; rfl) (fun Γ => ?_)
  repeat (first
    | (refine g_ops ?_; first | refine s_q ?_ | refine s_v ?_ | refine s_s ?_ | refine s_n (fun _ => ?_) | refine s_x ?_ | refine s_y ?_ | refine s_mq ?_ | refine s_app (fun _ _ => ?_) | refine s_mv ?_ | refine s_ms ?_ | refine s_b0 (fun _ => ?_) | ((fail_if_success refine g_lit rfl rfl rfl ?_); first | apply g_partM rfl rfl rfl | apply g_partMB rfl rfl rfl | fail))
    | apply g_regB (id := 1) 2 | refine g_seq ?_ | refine g_region ?_ | refine g_nil ?_ | refine g_then_normal ?_ | refine g_block ?_ | refine g_in_normal ?_
    | refine g_retc ?_ | refine g_then_ret ?_ | refine g_in_ret ?_ | refine g_exit ?_ | refine g_then_exit ?_ | refine g_in_exit ?_ | refine g_in_other rfl ?_
    | refine g_skip ?_ | refine g_label ?_ | refine g_cond_true rfl ?_ | refine g_cond_false rfl ?_ | exact s_m | intro _ | (refine gp_take ?_; first | refine p_q ?_ | refine p_x ?_ | refine p_mq ?_ | ((fail_if_success refine gp_lit rfl rfl rfl rfl ?_); first | apply gp_guard_dec rfl rfl rfl rfl | apply gp_guard rfl rfl rfl rfl | fail))
    | (refine gp_see ?_; first | refine p_f ?_ | refine p_sx ?_ | ((fail_if_success refine gp_lit rfl rfl rfl rfl ?_); first | apply gp_guard_dec rfl rfl rfl rfl | apply gp_guard rfl rfl rfl rfl | fail) | refine p_sq ?_)
    | (refine gp_one ?_; first | refine p_v ?_ | refine p_s ?_ | refine p_n (fun _ => ?_) | refine p_y ?_ | refine p_app (fun _ _ => ?_) | refine p_mv ?_ | refine p_ms ?_ | refine p_b0 (fun _ => ?_) | ((fail_if_success refine gp_lit rfl rfl rfl rfl ?_); first | apply gp_guard_dec rfl rfl rfl rfl | apply gp_guard rfl rfl rfl rfl | fail))
    | refine gp_two ?_ ?_ | refine gp_done hd hk ?_ | intro _ | refine p_ta hd hk (fun _ _ _ hd hk => ?_) | refine p_ts hd hk (fun _ hd hk => ?_))
  by_cases h0 : s.size = 0
  · obtain rfl := size_zero h0
    exact g_ret () rfl (by (repeat (first | exact RVs.nil | apply RVs.tmp rfl | apply RVs.cellA rfl (by (repeat (first | exact Sel.here | apply Sel.there)); first | done | fail) (by (repeat (first | exact Cut.zero | apply Cut.take | apply Cut.skip)); first | done | fail) | apply RVs.cell1 rfl (by (repeat (first | exact Sel.here | apply Sel.there)); first | done | fail) rfl)); first | done | fail) (by (repeat (first | exact Take.nil | apply Take.cons | exact Sel.here | apply Sel.there)); first | done | fail) rfl trivial
  · have hne : ¬ s = ⟨#[]⟩ := fun e => by subst e; exact absurd rfl h0
    exact g_ret () rfl (by (repeat (first | exact RVs.nil | apply RVs.tmp rfl | apply RVs.cellA rfl (by (repeat (first | exact Sel.here | apply Sel.there)); first | done | fail) (by (repeat (first | exact Cut.zero | apply Cut.take | apply Cut.skip)); first | done | fail) | apply RVs.cell1 rfl (by (repeat (first | exact Sel.here | apply Sel.there)); first | done | fail) rfl)); first | done | fail) (by (repeat (first | exact Take.nil | apply Take.cons | exact Sel.here | apply Sel.there)); first | done | fail) (by rw [nmOk_ne h0]; simp [pack, hne]; omega) trivial
theorem append_bad (d : Nat) (room : Int) (fs : Value) (ops ct : Int) (h : Cnt ops ct) (h1 : ct ≠ 1) (nm : ByteArray) (hz : nm.size ≤ 9223372036854775807) (hb : nmOk nm = false) (sl : Value) : Does Try.prog 12 [ptr d, .string nm, sl] [drow d room fs ops ct] (X := Unit) (fun _ => int 1) (fun _ => [drow d room fs (ops + 1) (cutN ct)]) (fun _ => True) := by
  have hbg := h.starts d room fs
  rw [show decide (ct ≠ 1) = true from decide_eq_true h1] at hbg
  have hn := namedB nm hz
  rw [hb] at hn
  refine fn_intro Try.func12 rfl Try.ntmps12 rfl (by simp only [argFr, Nat.zero_add, Nat.reduceAdd]; rfl) (fun Γ => ?_)
  repeat (first
    | (refine g_ops ?_; first | refine s_q ?_ | refine s_v ?_ | refine s_s ?_ | refine s_n (fun _ => ?_) | refine s_x ?_ | refine s_y ?_ | refine s_mq ?_ | refine s_app (fun _ _ => ?_) | refine s_mv ?_ | refine s_ms ?_ | refine s_b0 (fun _ => ?_) | ((fail_if_success refine g_lit rfl rfl rfl ?_); first | apply g_partM rfl rfl rfl | apply g_partMB rfl rfl rfl | fail) | refine s_p (hn) ?_ | refine s_c (hbg) (fun _ _ => ?_))
    | refine g_seq ?_ | refine g_region ?_ | refine g_nil ?_ | refine g_then_normal ?_ | refine g_block ?_ | refine g_in_normal ?_ | refine g_retc ?_ | refine g_then_ret ?_
    | refine g_in_ret ?_ | refine g_exit ?_ | refine g_then_exit ?_ | refine g_in_exit ?_ | refine g_in_other rfl ?_ | refine g_skip ?_ | refine g_label ?_
    | refine g_cond_true rfl ?_ | refine g_cond_false rfl ?_ | exact s_m | intro _)
  exact g_ret () rfl (by (repeat (first | exact RVs.nil | apply RVs.tmp rfl | apply RVs.cellA rfl (by (repeat (first | exact Sel.here | apply Sel.there)); first | done | fail) (by (repeat (first | exact Cut.zero | apply Cut.take | apply Cut.skip)); first | done | fail) | apply RVs.cell1 rfl (by (repeat (first | exact Sel.here | apply Sel.there)); first | done | fail) rfl)); first | done | fail) (by (repeat (first | exact Take.nil | apply Take.cons | exact Sel.here | apply Sel.there)); first | done | fail) rfl trivial
theorem cutM (d : Nat) (room : Int) (fs : Value) (ops c n : Int) (h1 : n ≤ 1000000) :
    Does Try.prog 17 [ptr d, int n] [drow d room fs ops c] (X := Unit) (fun _ => .tuple #[]) (fun _ => [drow d room fs ops (max n 0 + 1)]) (fun _ => True) := by
  refine fn_intro Try.func17 rfl Try.ntmps17 rfl (by simp only [argFr, Nat.zero_add, Nat.reduceAdd]; rfl) (fun Γ => ?_)
  repeat (first
    | (refine g_ops ?_; first | refine s_q ?_ | refine s_v ?_ | refine s_s ?_ | refine s_n (fun _ => ?_) | refine s_x ?_ | refine s_y ?_ | refine s_mq ?_ | refine s_app (fun _ _ => ?_) | refine s_mv ?_ | refine s_ms ?_ | refine s_b0 (fun _ => ?_) | ((fail_if_success refine g_lit rfl rfl rfl ?_); first | apply g_partM rfl rfl rfl | apply g_partMB rfl rfl rfl | fail))
    | refine g_seq ?_ | refine g_region ?_ | refine g_nil ?_ | refine g_then_normal ?_ | refine g_block ?_ | refine g_in_normal ?_ | refine g_retc ?_ | refine g_then_ret ?_
    | refine g_in_ret ?_ | refine g_exit ?_ | refine g_then_exit ?_ | refine g_in_exit ?_ | refine g_in_other rfl ?_ | refine g_skip ?_ | refine g_label ?_
    | refine g_cond_true rfl ?_ | refine g_cond_false rfl ?_ | exact s_m | intro _ | (refine gp_take ?_; first | refine p_q ?_ | refine p_x ?_ | refine p_mq ?_ | ((fail_if_success refine gp_lit rfl rfl rfl rfl ?_); first | apply gp_guard_dec rfl rfl rfl rfl | apply gp_guard rfl rfl rfl rfl | fail))
    | (refine gp_see ?_; first | refine p_f ?_ | refine p_sx ?_ | ((fail_if_success refine gp_lit rfl rfl rfl rfl ?_); first | apply gp_guard_dec rfl rfl rfl rfl | apply gp_guard rfl rfl rfl rfl | fail) | refine p_sq ?_)
    | (refine gp_one ?_; first | refine p_v ?_ | refine p_s ?_ | refine p_n (fun _ => ?_) | refine p_y ?_ | refine p_app (fun _ _ => ?_) | refine p_mv ?_ | refine p_ms ?_ | refine p_b0 (fun _ => ?_) | ((fail_if_success refine gp_lit rfl rfl rfl rfl ?_); first | apply gp_guard_dec rfl rfl rfl rfl | apply gp_guard rfl rfl rfl rfl | fail))
    | refine gp_two ?_ ?_ | refine gp_done hd hk ?_ | intro _ | refine p_ta hd hk (fun _ _ _ hd hk => ?_) | refine p_ts hd hk (fun _ hd hk => ?_))
  refine g_cond_dec rfl (fun h => ?_) (fun h => ?_)
  · rw [show max n 0 = n by omega]
    repeat (first
      | (refine g_ops ?_; first | refine s_q ?_ | refine s_v ?_ | refine s_s ?_ | refine s_n (fun _ => ?_) | refine s_x ?_ | refine s_y ?_ | refine s_mq ?_ | refine s_app (fun _ _ => ?_) | refine s_mv ?_ | refine s_ms ?_ | refine s_b0 (fun _ => ?_) | ((fail_if_success refine g_lit rfl rfl rfl ?_); first | apply g_partM rfl rfl rfl | apply g_partMB rfl rfl rfl | fail))
      | refine g_seq ?_ | refine g_region ?_ | refine g_nil ?_ | refine g_then_normal ?_ | refine g_block ?_ | refine g_in_normal ?_ | refine g_retc ?_
      | refine g_then_ret ?_ | refine g_in_ret ?_ | refine g_exit ?_ | refine g_then_exit ?_ | refine g_in_exit ?_ | refine g_in_other rfl ?_ | refine g_skip ?_
      | refine g_label ?_ | refine g_cond_true rfl ?_ | refine g_cond_false rfl ?_ | exact s_m | intro _ | (refine gp_take ?_; first | refine p_q ?_ | refine p_x ?_ | refine p_mq ?_ | ((fail_if_success refine gp_lit rfl rfl rfl rfl ?_); first | apply gp_guard_dec rfl rfl rfl rfl | apply gp_guard rfl rfl rfl rfl | fail))
      | (refine gp_see ?_; first | refine p_f ?_ | refine p_sx ?_ | ((fail_if_success refine gp_lit rfl rfl rfl rfl ?_); first | apply gp_guard_dec rfl rfl rfl rfl | apply gp_guard rfl rfl rfl rfl | fail) | refine p_sq ?_)
      | (refine gp_one ?_; first | refine p_v ?_ | refine p_s ?_ | refine p_n (fun _ => ?_) | refine p_y ?_ | refine p_app (fun _ _ => ?_) | refine p_mv ?_ | refine p_ms ?_ | refine p_b0 (fun _ => ?_) | ((fail_if_success refine gp_lit rfl rfl rfl rfl ?_); first | apply gp_guard_dec rfl rfl rfl rfl | apply gp_guard rfl rfl rfl rfl | fail))
      | refine gp_two ?_ ?_ | refine gp_done hd hk ?_ | intro _ | refine p_ta hd hk (fun _ _ _ hd hk => ?_) | refine p_ts hd hk (fun _ hd hk => ?_))
    refine s_q (q := by exact qs_min rfl rfl) ?_
    refine g_as 13 (v' := int n) rfl (congrArg (Value.int .i64) (if_neg (by omega))) ?_
    repeat (first
      | (refine g_ops ?_; first | refine s_q ?_ | refine s_v ?_ | refine s_s ?_ | refine s_n (fun _ => ?_) | refine s_x ?_ | refine s_y ?_ | refine s_mq ?_ | refine s_app (fun _ _ => ?_) | refine s_mv ?_ | refine s_ms ?_ | refine s_b0 (fun _ => ?_) | ((fail_if_success refine g_lit rfl rfl rfl ?_); first | apply g_partM rfl rfl rfl | apply g_partMB rfl rfl rfl | fail))
      | refine g_seq ?_ | refine g_region ?_ | refine g_nil ?_ | refine g_then_normal ?_ | refine g_block ?_ | refine g_in_normal ?_ | refine g_retc ?_
      | refine g_then_ret ?_ | refine g_in_ret ?_ | refine g_exit ?_ | refine g_then_exit ?_ | refine g_in_exit ?_ | refine g_in_other rfl ?_ | refine g_skip ?_
      | refine g_label ?_ | refine g_cond_true rfl ?_ | refine g_cond_false rfl ?_ | exact s_m | intro _ | (refine gp_take ?_; first | refine p_q ?_ | refine p_x ?_ | refine p_mq ?_ | ((fail_if_success refine gp_lit rfl rfl rfl rfl ?_); first | apply gp_guard_dec rfl rfl rfl rfl | apply gp_guard rfl rfl rfl rfl | fail))
      | (refine gp_see ?_; first | refine p_f ?_ | refine p_sx ?_ | ((fail_if_success refine gp_lit rfl rfl rfl rfl ?_); first | apply gp_guard_dec rfl rfl rfl rfl | apply gp_guard rfl rfl rfl rfl | fail) | refine p_sq ?_)
      | (refine gp_one ?_; first | refine p_v ?_ | refine p_s ?_ | refine p_n (fun _ => ?_) | refine p_y ?_ | refine p_app (fun _ _ => ?_) | refine p_mv ?_ | refine p_ms ?_ | refine p_b0 (fun _ => ?_) | ((fail_if_success refine gp_lit rfl rfl rfl rfl ?_); first | apply gp_guard_dec rfl rfl rfl rfl | apply gp_guard rfl rfl rfl rfl | fail))
      | refine gp_two ?_ ?_ | refine gp_done hd hk ?_ | intro _ | refine p_ta hd hk (fun _ _ _ hd hk => ?_) | refine p_ts hd hk (fun _ hd hk => ?_))
    exact g_end () rfl (by (repeat (first | exact RVs.nil | apply RVs.tmp rfl | apply RVs.cellA rfl (by (repeat (first | exact Sel.here | apply Sel.there)); first | done | fail) (by (repeat (first | exact Cut.zero | apply Cut.take | apply Cut.skip)); first | done | fail) | apply RVs.cell1 rfl (by (repeat (first | exact Sel.here | apply Sel.there)); first | done | fail) rfl)); first | done | fail) (by (repeat (first | exact Take.nil | apply Take.cons | exact Sel.here | apply Sel.there)); first | done | fail) (by simp [pack]) trivial
  · rw [show max n 0 = 0 by omega]
    repeat (first
      | (refine g_ops ?_; first | refine s_q ?_ | refine s_v ?_ | refine s_s ?_ | refine s_n (fun _ => ?_) | refine s_x ?_ | refine s_y ?_ | refine s_mq ?_ | refine s_app (fun _ _ => ?_) | refine s_mv ?_ | refine s_ms ?_ | refine s_b0 (fun _ => ?_) | ((fail_if_success refine g_lit rfl rfl rfl ?_); first | apply g_partM rfl rfl rfl | apply g_partMB rfl rfl rfl | fail))
      | refine g_seq ?_ | refine g_region ?_ | refine g_nil ?_ | refine g_then_normal ?_ | refine g_block ?_ | refine g_in_normal ?_ | refine g_retc ?_
      | refine g_then_ret ?_ | refine g_in_ret ?_ | refine g_exit ?_ | refine g_then_exit ?_ | refine g_in_exit ?_ | refine g_in_other rfl ?_ | refine g_skip ?_
      | refine g_label ?_ | refine g_cond_true rfl ?_ | refine g_cond_false rfl ?_ | exact s_m | intro _ | (refine gp_take ?_; first | refine p_q ?_ | refine p_x ?_ | refine p_mq ?_ | ((fail_if_success refine gp_lit rfl rfl rfl rfl ?_); first | apply gp_guard_dec rfl rfl rfl rfl | apply gp_guard rfl rfl rfl rfl | fail))
      | (refine gp_see ?_; first | refine p_f ?_ | refine p_sx ?_ | ((fail_if_success refine gp_lit rfl rfl rfl rfl ?_); first | apply gp_guard_dec rfl rfl rfl rfl | apply gp_guard rfl rfl rfl rfl | fail) | refine p_sq ?_)
      | (refine gp_one ?_; first | refine p_v ?_ | refine p_s ?_ | refine p_n (fun _ => ?_) | refine p_y ?_ | refine p_app (fun _ _ => ?_) | refine p_mv ?_ | refine p_ms ?_ | refine p_b0 (fun _ => ?_) | ((fail_if_success refine gp_lit rfl rfl rfl rfl ?_); first | apply gp_guard_dec rfl rfl rfl rfl | apply gp_guard rfl rfl rfl rfl | fail))
      | refine gp_two ?_ ?_ | refine gp_done hd hk ?_ | intro _ | refine p_ta hd hk (fun _ _ _ hd hk => ?_) | refine p_ts hd hk (fun _ hd hk => ?_))
    exact g_end () rfl (by (repeat (first | exact RVs.nil | apply RVs.tmp rfl | apply RVs.cellA rfl (by (repeat (first | exact Sel.here | apply Sel.there)); first | done | fail) (by (repeat (first | exact Cut.zero | apply Cut.take | apply Cut.skip)); first | done | fail) | apply RVs.cell1 rfl (by (repeat (first | exact Sel.here | apply Sel.there)); first | done | fail) rfl)); first | done | fail) (by (repeat (first | exact Take.nil | apply Take.cons | exact Sel.here | apply Sel.there)); first | done | fail) (by simp [pack]) trivial
theorem del_ptrs (fs : List Fi) (i : Nat) : (ptrs fs).take i ++ (ptrs fs).drop (i + 1) = ptrs (del fs i) := by simp [ptrs, del]
theorem takeg (d : Nat) (room : Int) (q : Option Addr) (c : Nat) (ops ct : Int) (fs : List Fi) (i : Nat) (hi : i < fs.length) (hn : fs.length ≤ 2000) :
    Does Try.prog 38 [ptr d, int i] [drow d room (.slice q fs.length c) ops ct, .own q fs.length c 1 (ptrs fs) 67]
      (X := Unit) (fun _ => ptr fs[i].f) (fun _ => [drow d room (.slice q (fs.length - 1) c) ops ct, .own q (fs.length - 1) c 1 (ptrs (del fs i)) 67]) (fun _ => True) := by
  have hdl := deleteg q fs.length c i (ptrs fs) hi (by omega)
  rw [del_ptrs] at hdl
  have hpa := ptrs_at fs i hi
  generalize fs[i].f = pf at hpa ⊢
  refine fn_intro Try.func38 rfl Try.ntmps38 rfl (by simp only [argFr, Nat.zero_add, Nat.reduceAdd]; rfl) (fun Γ => ?_)
  refine g_own (p := q) (len := fs.length) (cap := c) (n := 1) (xs := ptrs fs) (e := 67) (by (repeat (first | exact Sel.here | apply Sel.there)); first | done | fail) (fun _ _ hp => ?_)
  obtain ⟨b, rfl⟩ := hp (by omega)
  have hr : ∀ j, j = i → Reads (.own (some ⟨b, 0, none⟩) fs.length c 1 (ptrs fs) 67) ⟨b, 0 + j, none⟩ (ptr pf) := fun j e => by
    subst e; rw [Nat.zero_add]; exact reads_own hpa
  have e1 : (i : Int) + 1 = ((i + 1 : Nat) : Int) := by push_cast; rfl
  rw [← e1] at hdl
  repeat (first
    | (refine g_ops ?_; first | refine s_q ?_ | refine s_v ?_ | refine s_s ?_ | refine s_n (fun _ => ?_) | refine s_x ?_ | refine s_y ?_ | refine s_mq ?_ | refine s_app (fun _ _ => ?_) | refine s_mv ?_ | refine s_ms ?_ | refine s_b0 (fun _ => ?_) | ((fail_if_success refine g_lit rfl rfl rfl ?_); first | apply g_partM rfl rfl rfl | apply g_partMB rfl rfl rfl | fail) | refine s_c (hdl) (fun _ _ => ?_))
    | refine g_seq ?_ | refine g_region ?_ | refine g_nil ?_ | refine g_then_normal ?_ | refine g_block ?_ | refine g_in_normal ?_ | refine g_retc ?_ | refine g_then_ret ?_
    | refine g_in_ret ?_ | refine g_exit ?_ | refine g_then_exit ?_ | refine g_in_exit ?_ | refine g_in_other rfl ?_ | refine g_skip ?_ | refine g_label ?_
    | refine g_cond_true rfl ?_ | refine g_cond_false rfl ?_ | exact s_m | intro _)
  exact g_ret () rfl (by (repeat (first | exact RVs.nil | apply RVs.tmp rfl | apply RVs.cellA rfl (by (repeat (first | exact Sel.here | apply Sel.there)); first | done | fail) (by (repeat (first | exact Cut.zero | apply Cut.take | apply Cut.skip)); first | done | fail) | apply RVs.cell1 rfl (by (repeat (first | exact Sel.here | apply Sel.there)); first | done | fail) rfl)); first | done | fail) (by (repeat (first | exact Take.nil | apply Take.cons | exact Sel.here | apply Sel.there)); first | done | fail) rfl trivial
theorem remove_off (d : Nat) (room : Int) (fs : Value) (ops ct : Int) (h : Cnt ops ct) (h1 : ct = 1) (nm : ByteArray) : Does Try.prog 23 [ptr d, .string nm] [drow d room fs ops ct] (X := Unit) (fun _ => int 9) (fun _ => [drow d room fs (ops + 1) ct]) (fun _ => True) := by
  have hb := begun_off d room fs ops ct h h1 nm
  refine fn_intro Try.func23 rfl Try.ntmps23 rfl (by simp only [argFr, Nat.zero_add, Nat.reduceAdd]; rfl) (fun Γ => ?_)
  repeat (first
    | (refine g_ops ?_; first | refine s_q ?_ | refine s_v ?_ | refine s_s ?_ | refine s_n (fun _ => ?_) | refine s_x ?_ | refine s_y ?_ | refine s_mq ?_ | refine s_app (fun _ _ => ?_) | refine s_mv ?_ | refine s_ms ?_ | refine s_b0 (fun _ => ?_) | ((fail_if_success refine g_lit rfl rfl rfl ?_); first | apply g_partM rfl rfl rfl | apply g_partMB rfl rfl rfl | fail) | refine s_c (hb) (fun _ _ => ?_))
    | refine g_seq ?_ | refine g_region ?_ | refine g_nil ?_ | refine g_then_normal ?_ | refine g_block ?_ | refine g_in_normal ?_ | refine g_retc ?_ | refine g_then_ret ?_
    | refine g_in_ret ?_ | refine g_exit ?_ | refine g_then_exit ?_ | refine g_in_exit ?_ | refine g_in_other rfl ?_ | refine g_skip ?_ | refine g_label ?_
    | refine g_cond_true rfl ?_ | refine g_cond_false rfl ?_ | exact s_m | intro _)
  exact g_ret () rfl (by (repeat (first | exact RVs.nil | apply RVs.tmp rfl | apply RVs.cellA rfl (by (repeat (first | exact Sel.here | apply Sel.there)); first | done | fail) (by (repeat (first | exact Cut.zero | apply Cut.take | apply Cut.skip)); first | done | fail) | apply RVs.cell1 rfl (by (repeat (first | exact Sel.here | apply Sel.there)); first | done | fail) rfl)); first | done | fail) (by (repeat (first | exact Take.nil | apply Take.cons | exact Sel.here | apply Sel.there)); first | done | fail) rfl trivial
theorem remove_no (d : Nat) (room : Int) (q : Option Addr) (c : Nat) (ops ct : Int) (h : Cnt ops ct) (h1 : ct ≠ 1) (fs : List Fi) (nm : ByteArray) (pos : Nat) (hn : fs.length ≤ 2000) (hP : PosIs fs nm pos) (hfd : foundB fs nm pos = false) :
    Does Try.prog 23 [ptr d, .string nm] (bagL d room ops ct q c fs []) (X := Unit) (fun _ => int 4) (fun _ => bagL d room (ops + 1) (cutN ct) q c fs []) (fun _ => True) := by
  have hb := begun_g d room q c ops ct h h1 fs nm pos hn hP
  simp only [hfd, Bool.false_eq_true, if_false] at hb
  refine fn_intro Try.func23 rfl Try.ntmps23 rfl (by simp only [argFr, Nat.zero_add, Nat.reduceAdd]; rfl) (fun Γ => ?_)
  repeat (first
    | (refine g_ops ?_; first | refine s_q ?_ | refine s_v ?_ | refine s_s ?_ | refine s_n (fun _ => ?_) | refine s_x ?_ | refine s_y ?_ | refine s_mq ?_ | refine s_app (fun _ _ => ?_) | refine s_mv ?_ | refine s_ms ?_ | refine s_b0 (fun _ => ?_) | ((fail_if_success refine g_lit rfl rfl rfl ?_); first | apply g_partM rfl rfl rfl | apply g_partMB rfl rfl rfl | fail) | refine s_c (hb) (fun _ _ => ?_))
    | refine g_seq ?_ | refine g_region ?_ | refine g_nil ?_ | refine g_then_normal ?_ | refine g_block ?_ | refine g_in_normal ?_ | refine g_retc ?_ | refine g_then_ret ?_
    | refine g_in_ret ?_ | refine g_exit ?_ | refine g_then_exit ?_ | refine g_in_exit ?_ | refine g_in_other rfl ?_ | refine g_skip ?_ | refine g_label ?_
    | refine g_cond_true rfl ?_ | refine g_cond_false rfl ?_ | exact s_m | intro _)
  exact g_ret () rfl (by (repeat (first | exact RVs.nil | apply RVs.tmp rfl | apply RVs.cellA rfl (by (repeat (first | exact Sel.here | apply Sel.there)); first | done | fail) (by (repeat (first | exact Cut.zero | apply Cut.take | apply Cut.skip)); first | done | fail) | apply RVs.cell1 rfl (by (repeat (first | exact Sel.here | apply Sel.there)); first | done | fail) rfl)); first | done | fail) (by (repeat (first | exact Take.nil | apply Take.cons | exact Sel.here | apply Sel.there)); first | done | fail) rfl trivial
theorem remove_g (d : Nat) (room : Int) (q : Option Addr) (c : Nat) (ops ct : Int) (h : Cnt ops ct) (h1 : ct ≠ 1) (fs : List Fi) (nm : ByteArray) (pos : Nat) (hn : fs.length ≤ 2000) (hP : PosIs fs nm pos) (hfd : foundB fs nm pos = true) (hlt : pos < fs.length) :
    Does Try.prog 23 [ptr d, .string nm] (bagL d room ops ct q c fs []) (X := Unit) (fun _ => int 0) (fun _ => bagL d room (ops + 1) (cutN ct) q c (del fs pos) []) (fun _ => True) := by
  have hb := begun_g d room q c ops ct h h1 fs nm pos hn hP
  simp only [hfd, if_true] at hb
  have htk := takeg d room q c (ops + 1) (cutN ct) fs pos hlt hn
  have hdl := del_len fs pos hlt
  refine fn_intro Try.func23 rfl Try.ntmps23 rfl (by simp only [argFr, Nat.zero_add, Nat.reduceAdd]; rfl) (fun Γ => ?_)
  repeat (first
    | (refine g_ops ?_; first | refine s_q ?_ | refine s_v ?_ | refine s_s ?_ | refine s_n (fun _ => ?_) | refine s_x ?_ | refine s_y ?_ | refine s_mq ?_ | refine s_app (fun _ _ => ?_) | refine s_mv ?_ | refine s_ms ?_ | refine s_b0 (fun _ => ?_) | ((fail_if_success refine g_lit rfl rfl rfl ?_); first | apply g_partM rfl rfl rfl | apply g_partMB rfl rfl rfl | fail) | refine s_c (hb) (fun _ _ => ?_) | refine s_c (htk) (fun _ _ => ?_))
    | refine g_seq ?_ | refine g_region ?_ | refine g_nil ?_ | refine g_then_normal ?_ | refine g_block ?_ | refine g_in_normal ?_ | refine g_retc ?_ | refine g_then_ret ?_
    | refine g_in_ret ?_ | refine g_exit ?_ | refine g_then_exit ?_ | refine g_in_exit ?_ | refine g_in_other rfl ?_ | refine g_skip ?_ | refine g_label ?_
    | refine g_cond_true rfl ?_ | refine g_cond_false rfl ?_ | exact s_m | intro _)
  refine g_file fs pos hlt (by (repeat (first | exact Take.nil | apply Take.cons | exact Sel.here | apply Sel.there)); first | done | fail) ?_
  dsimp only [List.cons_append, List.nil_append]
  rw [← hdl]
  exact g_ret () rfl (by (repeat (first | exact RVs.nil | apply RVs.tmp rfl | apply RVs.cellA rfl (by (repeat (first | exact Sel.here | apply Sel.there)); first | done | fail) (by (repeat (first | exact Cut.zero | apply Cut.take | apply Cut.skip)); first | done | fail) | apply RVs.cell1 rfl (by (repeat (first | exact Sel.here | apply Sel.there)); first | done | fail) rfl)); first | done | fail) (by (repeat (first | exact Take.nil | apply Take.cons | exact Sel.here | apply Sel.there)); first | done | fail) rfl trivial
theorem rename_off (d : Nat) (room : Int) (fs : Value) (ops ct : Int) (h : Cnt ops ct) (h1 : ct = 1) (nm to : ByteArray) : Does Try.prog 22 [ptr d, .string nm, .string to] [drow d room fs ops ct] (X := Unit) (fun _ => int 9) (fun _ => [drow d room fs (ops + 1) ct]) (fun _ => True) := by
  have hb := begun_off d room fs ops ct h h1 nm
  refine fn_intro Try.func22 rfl Try.ntmps22 rfl (by simp only [argFr, Nat.zero_add, Nat.reduceAdd]; rfl) (fun Γ => ?_)
  repeat (first
    | (refine g_ops ?_; first | refine s_q ?_ | refine s_v ?_ | refine s_s ?_ | refine s_n (fun _ => ?_) | refine s_x ?_ | refine s_y ?_ | refine s_mq ?_ | refine s_app (fun _ _ => ?_) | refine s_mv ?_ | refine s_ms ?_ | refine s_b0 (fun _ => ?_) | ((fail_if_success refine g_lit rfl rfl rfl ?_); first | apply g_partM rfl rfl rfl | apply g_partMB rfl rfl rfl | fail) | refine s_c (hb) (fun _ _ => ?_))
    | refine g_seq ?_ | refine g_region ?_ | refine g_nil ?_ | refine g_then_normal ?_ | refine g_block ?_ | refine g_in_normal ?_ | refine g_retc ?_ | refine g_then_ret ?_
    | refine g_in_ret ?_ | refine g_exit ?_ | refine g_then_exit ?_ | refine g_in_exit ?_ | refine g_in_other rfl ?_ | refine g_skip ?_ | refine g_label ?_
    | refine g_cond_true rfl ?_ | refine g_cond_false rfl ?_ | exact s_m | intro _)
  exact g_ret () rfl (by (repeat (first | exact RVs.nil | apply RVs.tmp rfl | apply RVs.cellA rfl (by (repeat (first | exact Sel.here | apply Sel.there)); first | done | fail) (by (repeat (first | exact Cut.zero | apply Cut.take | apply Cut.skip)); first | done | fail) | apply RVs.cell1 rfl (by (repeat (first | exact Sel.here | apply Sel.there)); first | done | fail) rfl)); first | done | fail) (by (repeat (first | exact Take.nil | apply Take.cons | exact Sel.here | apply Sel.there)); first | done | fail) rfl trivial
theorem rename_no (d : Nat) (room : Int) (q : Option Addr) (c : Nat) (ops ct : Int) (h : Cnt ops ct) (h1 : ct ≠ 1) (fs : List Fi) (nm to : ByteArray) (pos : Nat) (hn : fs.length ≤ 2000) (hP : PosIs fs nm pos) (hfd : foundB fs nm pos = false) :
    Does Try.prog 22 [ptr d, .string nm, .string to] (bagL d room ops ct q c fs []) (X := Unit) (fun _ => int 4) (fun _ => bagL d room (ops + 1) (cutN ct) q c fs []) (fun _ => True) := by
  have hb := begun_g d room q c ops ct h h1 fs nm pos hn hP
  simp only [hfd, Bool.false_eq_true, if_false] at hb
  refine fn_intro Try.func22 rfl Try.ntmps22 rfl (by simp only [argFr, Nat.zero_add, Nat.reduceAdd]; rfl) (fun Γ => ?_)
  repeat (first
    | (refine g_ops ?_; first | refine s_q ?_ | refine s_v ?_ | refine s_s ?_ | refine s_n (fun _ => ?_) | refine s_x ?_ | refine s_y ?_ | refine s_mq ?_ | refine s_app (fun _ _ => ?_) | refine s_mv ?_ | refine s_ms ?_ | refine s_b0 (fun _ => ?_) | ((fail_if_success refine g_lit rfl rfl rfl ?_); first | apply g_partM rfl rfl rfl | apply g_partMB rfl rfl rfl | fail) | refine s_c (hb) (fun _ _ => ?_))
    | refine g_seq ?_ | refine g_region ?_ | refine g_nil ?_ | refine g_then_normal ?_ | refine g_block ?_ | refine g_in_normal ?_ | refine g_retc ?_ | refine g_then_ret ?_
    | refine g_in_ret ?_ | refine g_exit ?_ | refine g_then_exit ?_ | refine g_in_exit ?_ | refine g_in_other rfl ?_ | refine g_skip ?_ | refine g_label ?_
    | refine g_cond_true rfl ?_ | refine g_cond_false rfl ?_ | exact s_m | intro _)
  exact g_ret () rfl (by (repeat (first | exact RVs.nil | apply RVs.tmp rfl | apply RVs.cellA rfl (by (repeat (first | exact Sel.here | apply Sel.there)); first | done | fail) (by (repeat (first | exact Cut.zero | apply Cut.take | apply Cut.skip)); first | done | fail) | apply RVs.cell1 rfl (by (repeat (first | exact Sel.here | apply Sel.there)); first | done | fail) rfl)); first | done | fail) (by (repeat (first | exact Take.nil | apply Take.cons | exact Sel.here | apply Sel.there)); first | done | fail) rfl trivial
theorem rename_bad (d : Nat) (room : Int) (q : Option Addr) (c : Nat) (ops ct : Int) (h : Cnt ops ct) (h1 : ct ≠ 1) (fs : List Fi) (nm to : ByteArray) (pos : Nat) (hn : fs.length ≤ 2000) (hP : PosIs fs nm pos) (hfd : foundB fs nm pos = true) (hz : to.size ≤ 9223372036854775807) (hbd : nmOk to = false) :
    Does Try.prog 22 [ptr d, .string nm, .string to] (bagL d room ops ct q c fs []) (X := Unit) (fun _ => int 1) (fun _ => bagL d room (ops + 1) (cutN ct) q c fs []) (fun _ => True) := by
  have hb := begun_g d room q c ops ct h h1 fs nm pos hn hP
  simp only [hfd, if_true] at hb
  have hnm := namedB to hz
  rw [hbd] at hnm
  refine fn_intro Try.func22 rfl Try.ntmps22 rfl (by simp only [argFr, Nat.zero_add, Nat.reduceAdd]; rfl) (fun Γ => ?_)
  repeat (first
    | (refine g_ops ?_; first | refine s_q ?_ | refine s_v ?_ | refine s_s ?_ | refine s_n (fun _ => ?_) | refine s_x ?_ | refine s_y ?_ | refine s_mq ?_ | refine s_app (fun _ _ => ?_) | refine s_mv ?_ | refine s_ms ?_ | refine s_b0 (fun _ => ?_) | ((fail_if_success refine g_lit rfl rfl rfl ?_); first | apply g_partM rfl rfl rfl | apply g_partMB rfl rfl rfl | fail) | refine s_p (hnm) ?_ | refine s_c (hb) (fun _ _ => ?_))
    | refine g_seq ?_ | refine g_region ?_ | refine g_nil ?_ | refine g_then_normal ?_ | refine g_block ?_ | refine g_in_normal ?_ | refine g_retc ?_ | refine g_then_ret ?_
    | refine g_in_ret ?_ | refine g_exit ?_ | refine g_then_exit ?_ | refine g_in_exit ?_ | refine g_in_other rfl ?_ | refine g_skip ?_ | refine g_label ?_
    | refine g_cond_true rfl ?_ | refine g_cond_false rfl ?_ | exact s_m | intro _)
  exact g_ret () rfl (by (repeat (first | exact RVs.nil | apply RVs.tmp rfl | apply RVs.cellA rfl (by (repeat (first | exact Sel.here | apply Sel.there)); first | done | fail) (by (repeat (first | exact Cut.zero | apply Cut.take | apply Cut.skip)); first | done | fail) | apply RVs.cell1 rfl (by (repeat (first | exact Sel.here | apply Sel.there)); first | done | fail) rfl)); first | done | fail) (by (repeat (first | exact Take.nil | apply Take.cons | exact Sel.here | apply Sel.there)); first | done | fail) rfl trivial
abbrev Fi.as (x : Fi) (to : ByteArray) : Fi := ⟨x.f, to, x.sp, x.safe, x.sc, x.lp, x.loose, x.lc⟩
structure RnX where
  q : Option Addr
  c : Nat
set_option maxHeartbeats 1000000 in
theorem rename_ins (d : Nat) (room : Int) (q : Option Addr) (c : Nat) (ops ct : Int) (h : Cnt ops ct) (h1 : ct ≠ 1) (fs : List Fi) (nm to : ByteArray) (pos : Nat) (hn : fs.length ≤ 2000) (hP : PosIs fs nm pos) (hfd : foundB fs nm pos = true) (hlt : pos < fs.length) (hz : to.size ≤ 9223372036854775807) (hok : nmOk to = true)
    (k : Nat) (hP2 : PosIs (del fs pos) to k) (hf2 : foundB (del fs pos) to k = false) :
    Does Try.prog 22 [ptr d, .string nm, .string to] (bagL d room ops ct q c fs []) (X := RnX) (fun _ => int 0) (fun x => bagL d room (ops + 1) (cutN ct) x.q x.c (ins (del fs pos) k (fs[pos].as to)) []) (fun _ => True) := by
  have hb := begun_g d room q c ops ct h h1 fs nm pos hn hP
  simp only [hfd, if_true] at hb
  have hnm := namedB to hz
  rw [hok] at hnm
  have htk := takeg d room q c (ops + 1) (cutN ct) fs pos hlt hn
  have hdl := del_len fs pos hlt
  have hf := findg d room q c (ops + 1) (cutN ct) (del fs pos) to k (by omega) hP2
  dsimp only [filesL] at hf
  rw [hf2, hdl] at hf
  have hk := hP2.le
  rw [hdl] at hk
  refine fn_intro Try.func22 rfl Try.ntmps22 rfl (by simp only [argFr, Nat.zero_add, Nat.reduceAdd]; rfl) (fun Γ => ?_)
  repeat (first
    | (refine g_ops ?_; first | refine s_q ?_ | refine s_v ?_ | refine s_s ?_ | refine s_n (fun _ => ?_) | refine s_x ?_ | refine s_y ?_ | refine s_mq ?_ | refine s_app (fun _ _ => ?_) | refine s_mv ?_ | refine s_ms ?_ | refine s_b0 (fun _ => ?_) | ((fail_if_success refine g_lit rfl rfl rfl ?_); first | apply g_partM rfl rfl rfl | apply g_partMB rfl rfl rfl | fail) | refine s_p (hnm) ?_ | refine s_c (hb) (fun _ _ => ?_) | refine s_c (htk) (fun _ _ => ?_))
    | refine g_seq ?_ | refine g_region ?_ | refine g_nil ?_ | refine g_then_normal ?_ | refine g_block ?_ | refine g_in_normal ?_ | refine g_retc ?_ | refine g_then_ret ?_
    | refine g_in_ret ?_ | refine g_exit ?_ | refine g_then_exit ?_ | refine g_in_exit ?_ | refine g_in_other rfl ?_ | refine g_skip ?_ | refine g_label ?_
    | refine g_cond_true rfl ?_ | refine g_cond_false rfl ?_ | exact s_m | intro _)
  refine g_file fs pos hlt (by (repeat (first | exact Take.nil | apply Take.cons | exact Sel.here | apply Sel.there)); first | done | fail) ?_
  have hxx : ∀ x : Fi, ptrs (ins (del fs pos) k x) = (ptrs (del fs pos)).take k ++ ptr x.f :: (ptrs (del fs pos)).drop k := fun x => ins_ptrs _ _ _
  have hil : ∀ x : Fi, (ins (del fs pos) k x).length = fs.length - 1 + 1 := fun x => by rw [ins_len _ _ _ hP2.le, hdl]
  generalize fs[pos] = x at *
  obtain ⟨f, xnm, sp, safe, sc, lp, loose, lc⟩ := x
  dsimp only [Fi.L, Fi.as] at *
  dsimp only [List.cons_append, List.nil_append]
  repeat (first
    | (refine g_ops ?_; first | refine s_q ?_ | refine s_v ?_ | refine s_s ?_ | refine s_n (fun _ => ?_) | refine s_x ?_ | refine s_y ?_ | refine s_mq ?_ | refine s_app (fun _ _ => ?_) | refine s_mv ?_ | refine s_ms ?_ | refine s_b0 (fun _ => ?_) | ((fail_if_success refine g_lit rfl rfl rfl ?_); first | apply g_partM rfl rfl rfl | apply g_partMB rfl rfl rfl | fail) | refine s_k (hf) ?_)
    | refine g_seq ?_ | refine g_region ?_ | refine g_nil ?_ | refine g_then_normal ?_ | refine g_block ?_ | refine g_in_normal ?_ | refine g_retc ?_ | refine g_then_ret ?_
    | refine g_in_ret ?_ | refine g_exit ?_ | refine g_then_exit ?_ | refine g_in_exit ?_ | refine g_in_other rfl ?_ | refine g_skip ?_ | refine g_label ?_
    | refine g_cond_true rfl ?_ | refine g_cond_false rfl ?_ | exact s_m | intro _)
  rename_i vb
  dsimp only [List.cons_append, List.nil_append]
  repeat (first
    | (refine g_ops ?_; first | refine s_q ?_ | refine s_v ?_ | refine s_s ?_ | refine s_n (fun _ => ?_) | refine s_x ?_ | refine s_y ?_ | refine s_mq ?_ | refine s_app (fun _ _ => ?_) | refine s_mv ?_ | refine s_ms ?_ | refine s_b0 (fun _ => ?_) | ((fail_if_success refine g_lit rfl rfl rfl ?_); first | apply g_partM rfl rfl rfl | apply g_partMB rfl rfl rfl | fail) | refine s_c (insertg q (fs.length - 1) c k vb f (ptrs (del fs pos)) hk (by omega) (ptrs_one _)) (fun _ _ => ?_))
    | refine g_seq ?_ | refine g_region ?_ | refine g_nil ?_ | refine g_then_normal ?_ | refine g_block ?_ | refine g_in_normal ?_ | refine g_retc ?_ | refine g_then_ret ?_
    | refine g_in_ret ?_ | refine g_exit ?_ | refine g_then_exit ?_ | refine g_in_exit ?_ | refine g_in_other rfl ?_ | refine g_skip ?_ | refine g_label ?_
    | refine g_cond_true rfl ?_ | refine g_cond_false rfl ?_ | exact s_m | intro _)
  rename_i x _
  obtain ⟨fq, fc⟩ := x
  refine g_bagIn ((del fs pos).take k) ((del fs pos).drop k) ⟨f, to, sp, safe, sc, lp, loose, lc⟩ (by rw [List.take_append_drop]; exact (by (repeat (first | exact Take.nil | apply Take.cons | exact Sel.here | apply Sel.there)); first | done | fail)) ?_
  rw [← hil ⟨f, to, sp, safe, sc, lp, loose, lc⟩, ← hxx ⟨f, to, sp, safe, sc, lp, loose, lc⟩]
  exact g_ret (⟨fq, fc⟩ : RnX) rfl (by (repeat (first | exact RVs.nil | apply RVs.tmp rfl | apply RVs.cellA rfl (by (repeat (first | exact Sel.here | apply Sel.there)); first | done | fail) (by (repeat (first | exact Cut.zero | apply Cut.take | apply Cut.skip)); first | done | fail) | apply RVs.cell1 rfl (by (repeat (first | exact Sel.here | apply Sel.there)); first | done | fail) rfl)); first | done | fail) (by (repeat (first | exact Take.nil | apply Take.cons | exact Sel.here | apply Sel.there)); first | done | fail) rfl trivial
set_option maxHeartbeats 1000000 in
theorem rename_to (d : Nat) (room : Int) (q : Option Addr) (c : Nat) (ops ct : Int) (h : Cnt ops ct) (h1 : ct ≠ 1) (fs : List Fi) (nm to : ByteArray) (pos : Nat) (hn : fs.length ≤ 2000) (hP : PosIs fs nm pos) (hfd : foundB fs nm pos = true) (hlt : pos < fs.length) (hz : to.size ≤ 9223372036854775807) (hok : nmOk to = true)
    (k : Nat) (hP2 : PosIs (del fs pos) to k) (hf2 : foundB (del fs pos) to k = true) (hk : k < (del fs pos).length) :
    Does Try.prog 22 [ptr d, .string nm, .string to] (bagL d room ops ct q c fs []) (X := Unit) (fun _ => int 0) (fun _ => bagL d room (ops + 1) (cutN ct) q c (upd (del fs pos) k (fs[pos].as to)) []) (fun _ => True) := by
  have hb := begun_g d room q c ops ct h h1 fs nm pos hn hP
  simp only [hfd, if_true] at hb
  have hnm := namedB to hz
  rw [hok] at hnm
  have htk := takeg d room q c (ops + 1) (cutN ct) fs pos hlt hn
  have hdl := del_len fs pos hlt
  have hf := findg d room q c (ops + 1) (cutN ct) (del fs pos) to k (by omega) hP2
  dsimp only [filesL] at hf
  rw [hf2, hdl] at hf
  refine fn_intro Try.func22 rfl Try.ntmps22 rfl (by simp only [argFr, Nat.zero_add, Nat.reduceAdd]; rfl) (fun Γ => ?_)
  repeat (first
    | (refine g_ops ?_; first | refine s_q ?_ | refine s_v ?_ | refine s_s ?_ | refine s_n (fun _ => ?_) | refine s_x ?_ | refine s_y ?_ | refine s_mq ?_ | refine s_app (fun _ _ => ?_) | refine s_mv ?_ | refine s_ms ?_ | refine s_b0 (fun _ => ?_) | ((fail_if_success refine g_lit rfl rfl rfl ?_); first | apply g_partM rfl rfl rfl | apply g_partMB rfl rfl rfl | fail) | refine s_p (hnm) ?_ | refine s_c (hb) (fun _ _ => ?_) | refine s_c (htk) (fun _ _ => ?_))
    | refine g_seq ?_ | refine g_region ?_ | refine g_nil ?_ | refine g_then_normal ?_ | refine g_block ?_ | refine g_in_normal ?_ | refine g_retc ?_ | refine g_then_ret ?_
    | refine g_in_ret ?_ | refine g_exit ?_ | refine g_then_exit ?_ | refine g_in_exit ?_ | refine g_in_other rfl ?_ | refine g_skip ?_ | refine g_label ?_
    | refine g_cond_true rfl ?_ | refine g_cond_false rfl ?_ | exact s_m | intro _)
  refine g_file fs pos hlt (by (repeat (first | exact Take.nil | apply Take.cons | exact Sel.here | apply Sel.there)); first | done | fail) ?_
  have hxx : ∀ x : Fi, ptrs (upd (del fs pos) k x) = (ptrs (del fs pos)).set k (ptr x.f) := fun x => by
    simp only [ptrs, upd, List.map_append, List.map_cons, List.map_take, List.map_drop]
    rw [List.set_eq_take_append_cons_drop, if_pos (by simpa using hk)]
  have hil : ∀ x : Fi, (upd (del fs pos) k x).length = fs.length - 1 := fun x => by rw [upd_len _ _ _ hk, hdl]
  generalize fs[pos] = x at *
  obtain ⟨f, xnm, sp, safe, sc, lp, loose, lc⟩ := x
  dsimp only [Fi.L, Fi.as] at *
  dsimp only [List.cons_append, List.nil_append]
  repeat (first
    | (refine g_ops ?_; first | refine s_q ?_ | refine s_v ?_ | refine s_s ?_ | refine s_n (fun _ => ?_) | refine s_x ?_ | refine s_y ?_ | refine s_mq ?_ | refine s_app (fun _ _ => ?_) | refine s_mv ?_ | refine s_ms ?_ | refine s_b0 (fun _ => ?_) | ((fail_if_success refine g_lit rfl rfl rfl ?_); first | apply g_partM rfl rfl rfl | apply g_partMB rfl rfl rfl | fail) | refine s_k (hf) ?_)
    | refine g_seq ?_ | refine g_region ?_ | refine g_nil ?_ | refine g_then_normal ?_ | refine g_block ?_ | refine g_in_normal ?_ | refine g_retc ?_ | refine g_then_ret ?_
    | refine g_in_ret ?_ | refine g_exit ?_ | refine g_then_exit ?_ | refine g_in_exit ?_ | refine g_in_other rfl ?_ | refine g_skip ?_ | refine g_label ?_
    | refine g_cond_true rfl ?_ | refine g_cond_false rfl ?_ | exact s_m | intro _)
  refine g_own (p := q) (len := fs.length - 1) (cap := c) (n := 1) (xs := ptrs (del fs pos)) (e := 67) (by (repeat (first | exact Sel.here | apply Sel.there)); first | done | fail) (fun _ _ hp => ?_)
  obtain ⟨b, rfl⟩ := hp (by omega)
  refine s_q (q := by exact qs_indexSlice1 rfl rfl (by omega)) ?_
  refine g_s (ss_storeOwn inferInstance rfl rfl rfl (by (repeat (first | exact Sel.here | apply Sel.there)); first | done | fail) (by simp only [ptrs, List.length_map]; omega)) rfl ?_
  rw [Nat.zero_add]
  repeat (first
    | (refine g_ops ?_; first | refine s_q ?_ | refine s_v ?_ | refine s_s ?_ | refine s_n (fun _ => ?_) | refine s_x ?_ | refine s_y ?_ | refine s_mq ?_ | refine s_app (fun _ _ => ?_) | refine s_mv ?_ | refine s_ms ?_ | refine s_b0 (fun _ => ?_) | ((fail_if_success refine g_lit rfl rfl rfl ?_); first | apply g_partM rfl rfl rfl | apply g_partMB rfl rfl rfl | fail))
    | refine g_seq ?_ | refine g_region ?_ | refine g_nil ?_ | refine g_then_normal ?_ | refine g_block ?_ | refine g_in_normal ?_ | refine g_retc ?_ | refine g_then_ret ?_
    | refine g_in_ret ?_ | refine g_exit ?_ | refine g_then_exit ?_ | refine g_in_exit ?_ | refine g_in_other rfl ?_ | refine g_skip ?_ | refine g_label ?_
    | refine g_cond_true rfl ?_ | refine g_cond_false rfl ?_ | exact s_m | intro _)
  refine g_file (del fs pos) k hk (by (repeat (first | exact Take.nil | apply Take.cons | exact Sel.here | apply Sel.there)); first | done | fail) ?_
  refine g_bagIn ((del fs pos).take k) ((del fs pos).drop (k + 1)) ⟨f, to, sp, safe, sc, lp, loose, lc⟩ (by (repeat (first | exact Take.nil | apply Take.cons | exact Sel.here | apply Sel.there)); first | done | fail) ?_
  rw [← hil ⟨f, to, sp, safe, sc, lp, loose, lc⟩, ← hxx ⟨f, to, sp, safe, sc, lp, loose, lc⟩]
  exact g_ret () rfl (by (repeat (first | exact RVs.nil | apply RVs.tmp rfl | apply RVs.cellA rfl (by (repeat (first | exact Sel.here | apply Sel.there)); first | done | fail) (by (repeat (first | exact Cut.zero | apply Cut.take | apply Cut.skip)); first | done | fail) | apply RVs.cell1 rfl (by (repeat (first | exact Sel.here | apply Sel.there)); first | done | fail) rfl)); first | done | fail) (by (repeat (first | exact Take.nil | apply Take.cons | exact Sel.here | apply Sel.there)); first | done | fail) rfl trivial
end Go.Proofs.Ytfjkfcfmbipfhaa
