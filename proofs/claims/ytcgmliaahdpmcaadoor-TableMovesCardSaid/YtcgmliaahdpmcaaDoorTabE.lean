/- Contracts: Names, Clone of events, Read. -/
import Derived.Test.YtcgmliaahdpmcaaDoorTabD
set_option linter.unusedSimpArgs false
set_option linter.unusedVariables false
namespace Go.Sl
theorem does_sortedSN {P : Program} {f g : FuncId} {Bm : Nat} {T : TypeId}
    (hC : ∀ w : World, w.cell? ⟨Bm, 0, none⟩ = some (.map none) → Bm < w.heap.size → Calls P f #[.func (.func g) #[] #[.pointer (some ⟨Bm, 0, none⟩)]] w fun e w' => e = .returned (.slice none 0 0) ∧ Go.RowKit.Below w.heap.size w w') :
    Does1 P f [.func (.func g) #[] #[.pointer (some ⟨Bm, 0, none⟩)]] [.row Bm [.map none] T] (.slice none 0 0) := fun Γ w hh => by
  have hB := hh.block .here
  refine (hC w (by simp [World.cell?, hB]) (Array.getElem?_eq_some_iff.1 hB).1).mono ?_
  rintro e w' ⟨rfl, hBl⟩
  exact ⟨(), trivial, rfl, hh.later hBl.os hBl.tape hBl.output hBl.size (fun c hc => hBl.block c hc)⟩
/-- A part of a slice of one's own. -/
theorem slAt_part {q : Option Addr} {len cap n a m : Nat} {xs : List Value} {e : TypeId} (hq : 0 < len → ∃ b, q = some ⟨b, 0, none⟩) (hl : xs.length = len * n) (ho : xs.all (·.oneCell') = true) (hlc : len ≤ cap) (ham : a + m ≤ len) :
    SlAt (.own q len cap n xs e) n (if cap = a then q else q.map (·.add (a * n))) m ((xs.drop (a * n)).take (m * n)) := by
  by_cases hm : m = 0
  · subst hm
    simp only [Nat.zero_mul, List.take_zero]
    exact SlAt.empty
  · obtain ⟨b, rfl⟩ := hq (by omega)
    have hle : (a + m) * n ≤ len * n := Nat.mul_le_mul_right n ham
    rw [Nat.add_mul] at hle
    rw [if_neg (by omega)]
    refine ⟨by rw [List.length_take, List.length_drop, hl]; omega, ?_, fun h => by simp at h, fun j v hv => ⟨b, a * n, by simp [Addr.add_lit], ?_⟩⟩
    · rw [List.all_eq_true] at ho ⊢
      exact fun z hz => ho z (List.mem_of_mem_drop (List.mem_of_mem_take hz))
    · rw [List.getElem?_take] at hv
      split at hv
      · rw [List.getElem?_drop] at hv
        exact reads_own hv
      · cases hv
theorem flat_part {α : Type} {g : α → List Value} {n : Nat} (hg : ∀ a, (g a).length = n) (l : List α) (a m : Nat) : ((l.flatMap g).drop (a * n)).take (m * n) = ((l.drop a).take m).flatMap g := by
  have hd : ∀ (l : List α) (a : Nat), (l.flatMap g).drop (a * n) = (l.drop a).flatMap g := fun l => by
    induction l with
    | nil => intro a; simp
    | cons x l ih =>
      intro a
      cases a with
      | zero => simp
      | succ a =>
        rw [List.flatMap_cons, List.drop_succ_cons, ← ih a, List.drop_append, hg, show (a + 1) * n - n = a * n by rw [Nat.succ_mul]; omega, List.drop_of_length_le (by rw [hg, Nat.succ_mul]; omega), List.nil_append]
  have ht : ∀ (l : List α) (m : Nat), (l.flatMap g).take (m * n) = (l.take m).flatMap g := fun l => by
    induction l with
    | nil => intro m; simp
    | cons x l ih =>
      intro m
      cases m with
      | zero => simp
      | succ m =>
        rw [List.flatMap_cons, List.take_succ_cons, List.flatMap_cons, ← ih m, List.take_append, hg, show (m + 1) * n - n = m * n by rw [Nat.succ_mul]; omega, List.take_of_length_le (by rw [hg, Nat.succ_mul]; omega)]
  rw [hd, ht]
end Go.Sl
namespace Go.Proofs.YtcgmliaahdpmcaaDoor
open Go.Sl facts
attribute [local irreducible] Code.wp wpList Exit.then Exit.inBlock bodyPost Back MidQ G GP QStep VStep CStep SStep Does Post Reads
theorem keysFA (mp : Option Nat) : Does Tryd.prog 30 [.map mp] [] (X := Nat) (fun b => .func (.func fKA) #[] #[.pointer (some ⟨b, 0, none⟩)]) (fun b => [.row b [.map mp] 49]) (fun _ => True) := by
  refine fn_intro Tryd.func30 rfl Tryd.ntmps30 rfl (by simp only [argFr, Nat.zero_add, Nat.reduceAdd]; rfl) (fun Γ => ?_)
  repeat (first
    | (refine g_ops ?_; first | refine s_q ?_ | refine s_v ?_ | refine s_s ?_ | refine s_n (fun _ => ?_) | refine s_x ?_ | refine s_y ?_ | refine s_mq ?_ | refine s_appB (fun _ _ => ?_) | refine s_app (fun _ _ => ?_) | refine s_mv ?_ | refine s_ms ?_ | refine s_b0 (fun _ => ?_) | ((fail_if_success refine g_lit rfl rfl rfl ?_); first | apply g_partM rfl rfl rfl | apply g_partMB rfl rfl rfl | fail))
    | refine g_seq ?_ | refine g_region ?_ | refine g_nil ?_ | refine g_then_normal ?_ | refine g_block ?_ | refine g_in_normal ?_ | refine g_retc ?_ | refine g_then_ret ?_
    | refine g_in_ret ?_ | refine g_exit ?_ | refine g_then_exit ?_ | refine g_in_exit ?_ | refine g_in_other rfl ?_ | refine g_skip ?_ | refine g_label ?_
    | refine g_cond_true rfl ?_ | refine g_cond_false rfl ?_ | exact s_m | intro _)
  rename_i b
  refine s_q (q := by exact qs_makeFunc (vs := [ptr b]) (by (repeat (first | exact Evs.nil | refine Evs.cons rfl ?_)); first | done | fail)) ?_
  repeat (first
    | (refine g_ops ?_; first | refine s_q ?_ | refine s_v ?_ | refine s_s ?_ | refine s_n (fun _ => ?_) | refine s_x ?_ | refine s_y ?_ | refine s_mq ?_ | refine s_appB (fun _ _ => ?_) | refine s_app (fun _ _ => ?_) | refine s_mv ?_ | refine s_ms ?_ | refine s_b0 (fun _ => ?_) | ((fail_if_success refine g_lit rfl rfl rfl ?_); first | apply g_partM rfl rfl rfl | apply g_partMB rfl rfl rfl | fail))
    | refine g_seq ?_ | refine g_region ?_ | refine g_nil ?_ | refine g_then_normal ?_ | refine g_block ?_ | refine g_in_normal ?_ | refine g_retc ?_ | refine g_then_ret ?_
    | refine g_in_ret ?_ | refine g_exit ?_ | refine g_then_exit ?_ | refine g_in_exit ?_ | refine g_in_other rfl ?_ | refine g_skip ?_ | refine g_label ?_
    | refine g_cond_true rfl ?_ | refine g_cond_false rfl ?_ | exact s_m | intro _)
  exact g_ret b rfl (by (repeat (first | exact RVs.nil | apply RVs.tmp rfl | apply RVs.cellA rfl (by (repeat (first | exact Sel.here | apply Sel.there)); first | done | fail) (by (repeat (first | exact Cut.zero | apply Cut.take | apply Cut.skip)); first | done | fail) | apply RVs.cell1 rfl (by (repeat (first | exact Sel.here | apply Sel.there)); first | done | fail) rfl)); first | done | fail) (by (repeat (first | exact Take.nil | apply Take.cons | exact Sel.here | apply Sel.there)); first | done | fail) rfl trivial
theorem names (t : Nat) (mp : Option Nat) (T : List Sm) (hl : T.length ≤ 1000000000) (hs : ∀ x ∈ T, x.nm.size ≤ 9223372036854775807) :
    Does Tryd.prog 12 [ptr t] (tabL t mp T) (X := SkX) (fun x => .slice x.p x.ys.length x.c) (fun x => .own x.p x.ys.length x.c 1 (x.ys.map .string) 9 :: tabL t mp T) (fun x => x.ys.Perm (T.map Sm.nm) ∧ x.ys.Pairwise fun a b => ltB a b = true) := by
  refine fn_intro Tryd.func12 rfl Tryd.ntmps12 rfl (by simp only [argFr, Nat.zero_add, Nat.reduceAdd]; rfl) (fun Γ => ?_)
  cases mp with
  | none =>
    refine g_get (A := mapO none (smap T)) (p := T = []) (by (repeat (first | exact Sel.here | apply Sel.there)); first | done | fail) (fun hp h => by have h' : smap T = [] := h; simpa [smap] using h') (fun hT0 => ?_)
    subst hT0
    repeat (first
      | (refine g_ops ?_; first | refine s_q ?_ | refine s_v ?_ | refine s_s ?_ | refine s_n (fun _ => ?_) | refine s_x ?_ | refine s_y ?_ | refine s_mq ?_ | refine s_appB (fun _ _ => ?_) | refine s_app (fun _ _ => ?_) | refine s_mv ?_ | refine s_ms ?_ | refine s_b0 (fun _ => ?_) | ((fail_if_success refine g_lit rfl rfl rfl ?_); first | apply g_partM rfl rfl rfl | apply g_partMB rfl rfl rfl | fail) | refine s_c (keysFA none) (fun _ _ => ?_))
      | refine g_seq ?_ | refine g_region ?_ | refine g_nil ?_ | refine g_then_normal ?_ | refine g_block ?_ | refine g_in_normal ?_ | refine g_retc ?_
      | refine g_then_ret ?_ | refine g_in_ret ?_ | refine g_exit ?_ | refine g_then_exit ?_ | refine g_in_exit ?_ | refine g_in_other rfl ?_ | refine g_skip ?_
      | refine g_label ?_ | refine g_cond_true rfl ?_ | refine g_cond_false rfl ?_ | exact s_m | intro _)
    rename_i b _
    repeat (first
      | (refine g_ops ?_; first | refine s_q ?_ | refine s_v ?_ | refine s_s ?_ | refine s_n (fun _ => ?_) | refine s_x ?_ | refine s_y ?_ | refine s_mq ?_ | refine s_appB (fun _ _ => ?_) | refine s_app (fun _ _ => ?_) | refine s_mv ?_ | refine s_ms ?_ | refine s_b0 (fun _ => ?_) | ((fail_if_success refine g_lit rfl rfl rfl ?_); first | apply g_partM rfl rfl rfl | apply g_partMB rfl rfl rfl | fail) | refine s_k (does_sortedSN (T := 49) (sortedN b)) ?_)
      | refine g_seq ?_ | refine g_region ?_ | refine g_nil ?_ | refine g_then_normal ?_ | refine g_block ?_ | refine g_in_normal ?_ | refine g_retc ?_
      | refine g_then_ret ?_ | refine g_in_ret ?_ | refine g_exit ?_ | refine g_then_exit ?_ | refine g_in_exit ?_ | refine g_in_other rfl ?_ | refine g_skip ?_
      | refine g_label ?_ | refine g_cond_true rfl ?_ | refine g_cond_false rfl ?_ | exact s_m | intro _)
    refine g_own_nil none 1 9 ?_
    exact g_ret (⟨none, 0, []⟩ : SkX) rfl (by (repeat (first | exact RVs.nil | apply RVs.tmp rfl | apply RVs.cellA rfl (by (repeat (first | exact Sel.here | apply Sel.there)); first | done | fail) (by (repeat (first | exact Cut.zero | apply Cut.take | apply Cut.skip)); first | done | fail) | apply RVs.cell1 rfl (by (repeat (first | exact Sel.here | apply Sel.there)); first | done | fail) rfl)); first | done | fail) (by (repeat (first | exact Take.nil | apply Take.cons | exact Sel.here | apply Sel.there)); first | done | fail) rfl ⟨.refl _, .nil⟩
  | some m =>
    repeat (first
      | (refine g_ops ?_; first | refine s_q ?_ | refine s_v ?_ | refine s_s ?_ | refine s_n (fun _ => ?_) | refine s_x ?_ | refine s_y ?_ | refine s_mq ?_ | refine s_appB (fun _ _ => ?_) | refine s_app (fun _ _ => ?_) | refine s_mv ?_ | refine s_ms ?_ | refine s_b0 (fun _ => ?_) | ((fail_if_success refine g_lit rfl rfl rfl ?_); first | apply g_partM rfl rfl rfl | apply g_partMB rfl rfl rfl | fail) | refine s_c (keysFA (some m)) (fun _ _ => ?_))
      | refine g_seq ?_ | refine g_region ?_ | refine g_nil ?_ | refine g_then_normal ?_ | refine g_block ?_ | refine g_in_normal ?_ | refine g_retc ?_
      | refine g_then_ret ?_ | refine g_in_ret ?_ | refine g_exit ?_ | refine g_then_exit ?_ | refine g_in_exit ?_ | refine g_in_other rfl ?_ | refine g_skip ?_
      | refine g_label ?_ | refine g_cond_true rfl ?_ | refine g_cond_false rfl ?_ | exact s_m | intro _)
    rename_i b _
    repeat (first
      | (refine g_ops ?_; first | refine s_q ?_ | refine s_v ?_ | refine s_s ?_ | refine s_n (fun _ => ?_) | refine s_x ?_ | refine s_y ?_ | refine s_mq ?_ | refine s_appB (fun _ _ => ?_) | refine s_app (fun _ _ => ?_) | refine s_mv ?_ | refine s_ms ?_ | refine s_b0 (fun _ => ?_) | ((fail_if_success refine g_lit rfl rfl rfl ?_); first | apply g_partM rfl rfl rfl | apply g_partMB rfl rfl rfl | fail) | refine s_c (does_sortedS (T := 49) (m := m) (M := smap T) (Bm := b) (P := Tryd.prog) (f := 29) (g := fKA) Tryd.underlying9 (by simpa using hl) (by simpa [maxLen] using hs) (sortedA b)) (fun _ _ => ?_))
      | refine g_seq ?_ | refine g_region ?_ | refine g_nil ?_ | refine g_then_normal ?_ | refine g_block ?_ | refine g_in_normal ?_ | refine g_retc ?_
      | refine g_then_ret ?_ | refine g_in_ret ?_ | refine g_exit ?_ | refine g_then_exit ?_ | refine g_in_exit ?_ | refine g_in_other rfl ?_ | refine g_skip ?_
      | refine g_label ?_ | refine g_cond_true rfl ?_ | refine g_cond_false rfl ?_ | exact s_m | intro _)
    rename_i y hy
    exact g_ret y rfl (by (repeat (first | exact RVs.nil | apply RVs.tmp rfl | apply RVs.cellA rfl (by (repeat (first | exact Sel.here | apply Sel.there)); first | done | fail) (by (repeat (first | exact Cut.zero | apply Cut.take | apply Cut.skip)); first | done | fail) | apply RVs.cell1 rfl (by (repeat (first | exact Sel.here | apply Sel.there)); first | done | fail) rfl)); first | done | fail) (by (repeat (first | exact Take.nil | apply Take.cons | exact Sel.here | apply Sel.there)); first | done | fail) rfl ⟨by have h1 := hy.1; rw [show (smap T).map (·.1) = T.map Sm.nm by simp [smap, Function.comp_def]] at h1; exact h1, hy.2⟩
theorem cloneE {C : Chunk} {p : Option Addr} {m c : Nat} {news : List Value} (h : SlAt C 7 p m news) (hm : m ≤ 1000000000) : Does Tryd.prog 31 [.slice p m c] [C] (X := OA) (fun q => .slice q.1 m q.2) (fun q => [.own q.1 m q.2 7 news 30, C]) (fun _ => True) := by
  cases p with
  | none =>
    obtain rfl : m = 0 := h.nil rfl
    obtain rfl : news = [] := List.eq_nil_of_length_eq_zero (by rw [h.len, Nat.zero_mul])
    refine fn_intro Tryd.func31 rfl Tryd.ntmps31 rfl (by simp only [argFr, Nat.zero_add, Nat.reduceAdd]; rfl) (fun Γ => ?_)
    repeat (first
      | (refine g_ops ?_; first | refine s_q ?_ | refine s_v ?_ | refine s_s ?_ | refine s_n (fun _ => ?_) | refine s_x ?_ | refine s_y ?_ | refine s_mq ?_ | refine s_appB (fun _ _ => ?_) | refine s_app (fun _ _ => ?_) | refine s_mv ?_ | refine s_ms ?_ | refine s_b0 (fun _ => ?_) | ((fail_if_success refine g_lit rfl rfl rfl ?_); first | apply g_partM rfl rfl rfl | apply g_partMB rfl rfl rfl | fail))
      | refine g_seq ?_ | refine g_region ?_ | refine g_nil ?_ | refine g_then_normal ?_ | refine g_block ?_ | refine g_in_normal ?_ | refine g_retc ?_
      | refine g_then_ret ?_ | refine g_in_ret ?_ | refine g_exit ?_ | refine g_then_exit ?_ | refine g_in_exit ?_ | refine g_in_other rfl ?_ | refine g_skip ?_
      | refine g_label ?_ | refine g_cond_true rfl ?_ | refine g_cond_false rfl ?_ | exact s_m | intro _)
    refine g_own_nil none 7 30 ?_
    exact s_r (none, 0)
  | some a =>
    refine fn_intro Tryd.func31 rfl Tryd.ntmps31 rfl (by simp only [argFr, Nat.zero_add, Nat.reduceAdd]; rfl) (fun Γ => ?_)
    have hsrc : ∀ {Γ : Ctx} {b : Nat}, SrcIs Tryd.prog Γ [.own (some ⟨b, 0, none⟩) 0 0 7 [] 30, C] 7 38 (.slice (some a) m c) m news := fun {Γ b} => srcAt h inferInstance (.there .here) (by decide)
    repeat (first
      | (refine g_ops ?_; first | refine s_q ?_ | refine s_v ?_ | refine s_s ?_ | refine s_n (fun _ => ?_) | refine s_x ?_ | refine s_y ?_ | refine s_mq ?_ | refine s_appB (fun _ _ => ?_) | refine s_app (fun _ _ => ?_) | refine s_mv ?_ | refine s_ms ?_ | refine s_b0 (fun _ => ?_) | ((fail_if_success refine g_lit rfl rfl rfl ?_); first | apply g_partM rfl rfl rfl | apply g_partMB rfl rfl rfl | fail))
      | refine g_seq ?_ | refine g_region ?_ | refine g_nil ?_ | refine g_then_normal ?_ | refine g_block ?_ | refine g_in_normal ?_ | refine g_retc ?_
      | refine g_then_ret ?_ | refine g_in_ret ?_ | refine g_exit ?_ | refine g_then_exit ?_ | refine g_in_exit ?_ | refine g_in_other rfl ?_ | refine g_skip ?_
      | refine g_label ?_ | refine g_cond_true rfl ?_ | refine g_cond_false rfl ?_ | exact s_m | intro _)
    rename_i q c'
    exact s_r (q, c') (hp := by simp [pack]) (tk := by rw [Nat.zero_add, List.nil_append]; exact (by (repeat (first | exact Take.nil | apply Take.cons | exact Sel.here | apply Sel.there)); first | done | fail))
theorem off0g (p : Option Addr) (cap n : Nat) : (if cap = 0 then p else p.map (·.add (0 * n))) = p := by
  split
  · rfl
  · cases p with
    | none => rfl
    | some a => obtain ⟨b, o, s⟩ := a; cases s <;> simp [Addr.add]
theorem ev_one (l : List Ev) : (l.flatMap Ev.cells).all (·.oneCell') = true := by
  rw [List.all_eq_true]
  intro v hv
  obtain ⟨x, _, hv⟩ := List.mem_flatMap.1 hv
  simp only [Ev.cells, List.mem_cons, List.not_mem_nil, or_false] at hv
  rcases hv with rfl | rfl | rfl | rfl | rfl | rfl | rfl <;> rfl
/-- What is read of a stream. -/
def readL (evs : List Ev) (frm mx : Int) : List Ev := if frm > evs.length ∨ mx < 1 then [] else (evs.drop (frm - 1).toNat).take mx.toNat
def evsOf (T : List Sm) (nm : ByteArray) : List Ev := match fnd T nm with
  | some x => x.evs
  | none => []
theorem verOf_eq (T : List Sm) (nm : ByteArray) : verOf T nm = (evsOf T nm).length := by
  unfold verOf evsOf; cases fnd T nm <;> rfl
theorem read_arg (v : Value) (t : Nat) (mp : Option Nat) (T : List Sm) (nm : ByteArray) (frm mx : Int) (h : frm < 1) : Does1 Tryd.prog 13 [ptr t, .string nm, int frm, int mx] (tabL t mp T) (.tuple #[.slice none 0 0, int 1]) := by
  refine fn_intro Tryd.func13 rfl Tryd.ntmps13 rfl (by simp only [argFr, Nat.zero_add, Nat.reduceAdd]; rfl) (fun Γ => ?_)
  repeat (first
    | (refine g_ops ?_; first | refine s_q ?_ | refine s_v ?_ | refine s_s ?_ | refine s_n (fun _ => ?_) | refine s_x ?_ | refine s_y ?_ | refine s_mq ?_ | refine s_appB (fun _ _ => ?_) | refine s_app (fun _ _ => ?_) | refine s_mv ?_ | refine s_ms ?_ | refine s_b0 (fun _ => ?_) | ((fail_if_success refine g_lit rfl rfl rfl ?_); first | apply g_partM rfl rfl rfl | apply g_partMB rfl rfl rfl | fail))
    | refine g_seq ?_ | refine g_region ?_ | refine g_nil ?_ | refine g_then_normal ?_ | refine g_block ?_ | refine g_in_normal ?_ | refine g_retc ?_ | refine g_then_ret ?_
    | refine g_in_ret ?_ | refine g_exit ?_ | refine g_then_exit ?_ | refine g_in_exit ?_ | refine g_in_other rfl ?_ | refine g_skip ?_ | refine g_label ?_
    | refine g_cond_true rfl ?_ | refine g_cond_false rfl ?_ | exact s_m | intro _)
  refine g_as 17 (v' := .bool true) rfl (congrArg Value.bool (decide_eq_true h)) ?_
  repeat (first
    | (refine g_ops ?_; first | refine s_q ?_ | refine s_v ?_ | refine s_s ?_ | refine s_n (fun _ => ?_) | refine s_x ?_ | refine s_y ?_ | refine s_mq ?_ | refine s_appB (fun _ _ => ?_) | refine s_app (fun _ _ => ?_) | refine s_mv ?_ | refine s_ms ?_ | refine s_b0 (fun _ => ?_) | ((fail_if_success refine g_lit rfl rfl rfl ?_); first | apply g_partM rfl rfl rfl | apply g_partMB rfl rfl rfl | fail))
    | refine g_seq ?_ | refine g_region ?_ | refine g_nil ?_ | refine g_then_normal ?_ | refine g_block ?_ | refine g_in_normal ?_ | refine g_retc ?_ | refine g_then_ret ?_
    | refine g_in_ret ?_ | refine g_exit ?_ | refine g_then_exit ?_ | refine g_in_exit ?_ | refine g_in_other rfl ?_ | refine g_skip ?_ | refine g_label ?_
    | refine g_cond_true rfl ?_ | refine g_cond_false rfl ?_ | exact s_m | intro _)
  exact g_ret () rfl (by (repeat (first | exact RVs.nil | apply RVs.tmp rfl | apply RVs.cellA rfl (by (repeat (first | exact Sel.here | apply Sel.there)); first | done | fail) (by (repeat (first | exact Cut.zero | apply Cut.take | apply Cut.skip)); first | done | fail) | apply RVs.cell1 rfl (by (repeat (first | exact Sel.here | apply Sel.there)); first | done | fail) rfl)); first | done | fail) (by (repeat (first | exact Take.nil | apply Take.cons | exact Sel.here | apply Sel.there)); first | done | fail) (by simp [pack]) trivial
theorem read (t : Nat) (mp : Option Nat) (T : List Sm) (nm : ByteArray) (frm mx : Int) (h : 1 ≤ frm) (hf : frm ≤ 9223372036854775807) (hl : (evsOf T nm).length ≤ 1000000000) : Does Tryd.prog 13 [ptr t, .string nm, int frm, int mx] (tabL t mp T) (X := OA)
    (fun x => .tuple #[.slice x.1 (readL (evsOf T nm) frm mx).length x.2, int 0]) (fun x => .own x.1 (readL (evsOf T nm) frm mx).length x.2 7 ((readL (evsOf T nm) frm mx).flatMap Ev.cells) 30 :: tabL t mp T) (fun _ => True) := by
  have hv := version t mp T nm
  rw [verOf_eq] at hv
  refine fn_intro Tryd.func13 rfl Tryd.ntmps13 rfl (by simp only [argFr, Nat.zero_add, Nat.reduceAdd]; rfl) (fun Γ => ?_)
  repeat (first
    | (refine g_ops ?_; first | refine s_q ?_ | refine s_v ?_ | refine s_s ?_ | refine s_n (fun _ => ?_) | refine s_x ?_ | refine s_y ?_ | refine s_mq ?_ | refine s_appB (fun _ _ => ?_) | refine s_app (fun _ _ => ?_) | refine s_mv ?_ | refine s_ms ?_ | refine s_b0 (fun _ => ?_) | ((fail_if_success refine g_lit rfl rfl rfl ?_); first | apply g_partM rfl rfl rfl | apply g_partMB rfl rfl rfl | fail))
    | refine g_seq ?_ | refine g_region ?_ | refine g_nil ?_ | refine g_then_normal ?_ | refine g_block ?_ | refine g_in_normal ?_ | refine g_retc ?_ | refine g_then_ret ?_
    | refine g_in_ret ?_ | refine g_exit ?_ | refine g_then_exit ?_ | refine g_in_exit ?_ | refine g_in_other rfl ?_ | refine g_skip ?_ | refine g_label ?_
    | refine g_cond_true rfl ?_ | refine g_cond_false rfl ?_ | exact s_m | intro _)
  refine g_as 17 (v' := .bool false) rfl (congrArg Value.bool (decide_eq_false (by omega))) ?_
  repeat (first
    | (refine g_ops ?_; first | refine s_q ?_ | refine s_v ?_ | refine s_s ?_ | refine s_n (fun _ => ?_) | refine s_x ?_ | refine s_y ?_ | refine s_mq ?_ | refine s_appB (fun _ _ => ?_) | refine s_app (fun _ _ => ?_) | refine s_mv ?_ | refine s_ms ?_ | refine s_b0 (fun _ => ?_) | ((fail_if_success refine g_lit rfl rfl rfl ?_); first | apply g_partM rfl rfl rfl | apply g_partMB rfl rfl rfl | fail) | refine s_k (hv) ?_)
    | apply g_regB (id := 1) 17 | apply g_regB (id := 4) 27 | refine g_seq ?_ | refine g_region ?_ | refine g_nil ?_ | refine g_then_normal ?_ | refine g_block ?_
    | refine g_in_normal ?_ | refine g_retc ?_ | refine g_then_ret ?_ | refine g_in_ret ?_ | refine g_exit ?_ | refine g_then_exit ?_ | refine g_in_exit ?_
    | refine g_in_other rfl ?_ | refine g_skip ?_ | refine g_label ?_ | refine g_cond_true rfl ?_ | refine g_cond_false rfl ?_ | exact s_m | intro _ | (refine gp_take ?_; first | refine p_q ?_ | refine p_x ?_ | refine p_mq ?_ | ((fail_if_success refine gp_lit rfl rfl rfl rfl ?_); first | apply gp_guard_dec rfl rfl rfl rfl | apply gp_guard rfl rfl rfl rfl | fail))
    | (refine gp_see ?_; first | refine p_f ?_ | refine p_sx ?_ | ((fail_if_success refine gp_lit rfl rfl rfl rfl ?_); first | apply gp_guard_dec rfl rfl rfl rfl | apply gp_guard rfl rfl rfl rfl | fail) | refine p_h (hv) hd hk ?_ | refine p_sq ?_)
    | (refine gp_one ?_; first | refine p_v ?_ | refine p_s ?_ | refine p_n (fun _ => ?_) | refine p_y ?_ | refine p_appB (fun _ _ => ?_) | refine p_app (fun _ _ => ?_) | refine p_mv ?_ | refine p_ms ?_ | refine p_b0 (fun _ => ?_) | ((fail_if_success refine gp_lit rfl rfl rfl rfl ?_); first | apply gp_guard_dec rfl rfl rfl rfl | apply gp_guard rfl rfl rfl rfl | fail) | refine p_k (hv) ?_)
    | refine gp_two ?_ ?_ | refine gp_done hd hk ?_ | intro _ | refine p_ta hd hk (fun _ _ _ hd hk => ?_) | refine p_ts hd hk (fun _ hd hk => ?_))
  refine g_cond rfl (fun h2 => ?_) (fun h2 => ?_)
  · have e : readL (evsOf T nm) frm mx = [] := by unfold readL; rw [if_pos (by simp at h2; omega)]
    rw [e]
    repeat (first
      | (refine g_ops ?_; first | refine s_q ?_ | refine s_v ?_ | refine s_s ?_ | refine s_n (fun _ => ?_) | refine s_x ?_ | refine s_y ?_ | refine s_mq ?_ | refine s_appB (fun _ _ => ?_) | refine s_app (fun _ _ => ?_) | refine s_mv ?_ | refine s_ms ?_ | refine s_b0 (fun _ => ?_) | ((fail_if_success refine g_lit rfl rfl rfl ?_); first | apply g_partM rfl rfl rfl | apply g_partMB rfl rfl rfl | fail))
      | refine g_seq ?_ | refine g_region ?_ | refine g_nil ?_ | refine g_then_normal ?_ | refine g_block ?_ | refine g_in_normal ?_ | refine g_retc ?_
      | refine g_then_ret ?_ | refine g_in_ret ?_ | refine g_exit ?_ | refine g_then_exit ?_ | refine g_in_exit ?_ | refine g_in_other rfl ?_ | refine g_skip ?_
      | refine g_label ?_ | refine g_cond_true rfl ?_ | refine g_cond_false rfl ?_ | exact s_m | intro _)
    refine g_own_nil none 7 30 ?_
    exact g_ret (none, 0) rfl (by (repeat (first | exact RVs.nil | apply RVs.tmp rfl | apply RVs.cellA rfl (by (repeat (first | exact Sel.here | apply Sel.there)); first | done | fail) (by (repeat (first | exact Cut.zero | apply Cut.take | apply Cut.skip)); first | done | fail) | apply RVs.cell1 rfl (by (repeat (first | exact Sel.here | apply Sel.there)); first | done | fail) rfl)); first | done | fail) (by (repeat (first | exact Take.nil | apply Take.cons | exact Sel.here | apply Sel.there)); first | done | fail) (by simp [pack]) trivial
  · have h3 : frm ≤ (evsOf T nm).length ∧ 1 ≤ mx := by simp at h2; omega
    have e : readL (evsOf T nm) frm mx = ((evsOf T nm).drop (frm - 1).toNat).take mx.toNat := by unfold readL; rw [if_neg (by omega)]
    rw [e]
    obtain ⟨x, hfx⟩ : ∃ x, fnd T nm = some x := by
      cases hfd : fnd T nm with
      | none => simp [evsOf, hfd] at h3; omega
      | some x => exact ⟨x, rfl⟩
    have ex : evsOf T nm = x.evs := by simp [evsOf, hfx]
    rw [ex] at h3 hl ⊢
    obtain ⟨a, rfl⟩ : ∃ a : Nat, frm = (a : Int) + 1 := ⟨(frm - 1).toNat, by omega⟩
    rw [show ((a : Int) + 1 - 1).toNat = a by omega]
    cases mp with
    | none =>
      refine g_get (A := mapO none (smap T)) (p := T = []) (by (repeat (first | exact Sel.here | apply Sel.there)); first | done | fail) (fun hp h => by have h' : smap T = [] := h; simpa [smap] using h') (fun hT0 => ?_)
      subst hT0
      cases hfx
    | some m =>
      repeat (first
        | (refine g_ops ?_; first | refine s_q ?_ | refine s_v ?_ | refine s_s ?_ | refine s_n (fun _ => ?_) | refine s_x ?_ | refine s_y ?_ | refine s_mq ?_ | refine s_appB (fun _ _ => ?_) | refine s_app (fun _ _ => ?_) | refine s_mv ?_ | refine s_ms ?_ | refine s_b0 (fun _ => ?_) | ((fail_if_success refine g_lit rfl rfl rfl ?_); first | apply g_partM rfl rfl rfl | apply g_partMB rfl rfl rfl | fail))
        | refine g_seq ?_ | refine g_region ?_ | refine g_nil ?_ | refine g_then_normal ?_ | refine g_block ?_ | refine g_in_normal ?_ | refine g_retc ?_
        | refine g_then_ret ?_ | refine g_in_ret ?_ | refine g_exit ?_ | refine g_then_exit ?_ | refine g_in_exit ?_ | refine g_in_other rfl ?_ | refine g_skip ?_
        | refine g_label ?_ | refine g_cond_true rfl ?_ | refine g_cond_false rfl ?_ | exact s_m | intro _)
      refine g_v (vs_lookup (κ := ByteArray) (k := nm) inferInstance inferInstance inferInstance kindS rfl rfl (by (repeat (first | exact Sel.here | apply Sel.there)); first | done | fail)) rfl rfl ?_
      refine g_as 33 (v' := optP (some x)) rfl (by rw [mget_smap, hfx]; rfl) ?_
      obtain ⟨_, A, B, rfl, _⟩ := fnd_split hfx
      refine g_bgOut A B x (by (repeat (first | exact Sel.here | apply Sel.there)); first | done | fail) ?_
      obtain ⟨f, nm', q, c, evs, mb, ks⟩ := x
      dsimp only [Sm.L, List.cons_append, List.nil_append] at h3 hl ⊢
      refine g_own (p := q) (len := evs.length) (cap := c) (n := 7) (xs := evs.flatMap Ev.cells) (e := 30) (by (repeat (first | exact Sel.here | apply Sel.there)); first | done | fail) (fun hql hlc hq => ?_)
      repeat (first
        | (refine g_ops ?_; first | refine s_q ?_ | refine s_v ?_ | refine s_s ?_ | refine s_n (fun _ => ?_) | refine s_x ?_ | refine s_y ?_ | refine s_mq ?_ | refine s_appB (fun _ _ => ?_) | refine s_app (fun _ _ => ?_) | refine s_mv ?_ | refine s_ms ?_ | refine s_b0 (fun _ => ?_) | ((fail_if_success refine g_lit rfl rfl rfl ?_); first | apply g_partM rfl rfl rfl | apply g_partMB rfl rfl rfl | fail))
        | refine g_seq ?_ | refine g_region ?_ | refine g_nil ?_ | refine g_then_normal ?_ | refine g_block ?_ | refine g_in_normal ?_ | refine g_retc ?_
        | refine g_then_ret ?_ | refine g_in_ret ?_ | refine g_exit ?_ | refine g_then_exit ?_ | refine g_in_exit ?_ | refine g_in_other rfl ?_ | refine g_skip ?_
        | refine g_label ?_ | refine g_cond_true rfl ?_ | refine g_cond_false rfl ?_ | exact s_m | intro _)
      refine g_as 38 (v' := int (a : Int)) rfl (congrArg (Value.int .i64) (by omega)) ?_
      refine s_q (q := by exact qs_slice (l := a) (h := evs.length) inferInstance inferInstance rfl (.some rfl rfl) .none (by omega) hlc) ?_
      repeat (first
        | (refine g_ops ?_; first | refine s_q ?_ | refine s_v ?_ | refine s_s ?_ | refine s_n (fun _ => ?_) | refine s_x ?_ | refine s_y ?_ | refine s_mq ?_ | refine s_appB (fun _ _ => ?_) | refine s_app (fun _ _ => ?_) | refine s_mv ?_ | refine s_ms ?_ | refine s_b0 (fun _ => ?_) | ((fail_if_success refine g_lit rfl rfl rfl ?_); first | apply g_partM rfl rfl rfl | apply g_partMB rfl rfl rfl | fail))
        | refine g_seq ?_ | refine g_region ?_ | refine g_nil ?_ | refine g_then_normal ?_ | refine g_block ?_ | refine g_in_normal ?_ | refine g_retc ?_
        | refine g_then_ret ?_ | refine g_in_ret ?_ | refine g_exit ?_ | refine g_then_exit ?_ | refine g_in_exit ?_ | refine g_in_other rfl ?_ | refine g_skip ?_
        | refine g_label ?_ | refine g_cond_true rfl ?_ | refine g_cond_false rfl ?_ | exact s_m | intro _)
      refine s_q (q := by exact qs_min rfl rfl) ?_
      obtain ⟨k, hk⟩ : ∃ k : Nat, k = min mx.toNat (evs.length - a) := ⟨_, rfl⟩
      have hkl : ((evs.drop a).take mx.toNat).length = k := by rw [List.length_take, List.length_drop, hk]
      refine g_as 44 (v' := int (k : Int)) rfl (congrArg (Value.int .i64) (by rw [hk]; split <;> omega)) ?_
      refine s_q (q := by exact qs_slice (l := 0) (h := k) inferInstance inferInstance rfl .none (.some rfl rfl) (Nat.zero_le _) (by omega)) ?_
      refine g_as 45 (v' := .slice (if c = a then q else q.map (·.add (a * 7))) k (c - a)) rfl (by rw [off0g]; rfl) ?_
      have hS := slAt_part (q := q) (len := evs.length) (cap := c) (n := 7) (a := a) (m := k) (e := 30) hq hql (ev_one evs) hlc (by omega)
      rw [flat_part ev_len, show ((evs.drop a).take k) = (evs.drop a).take mx.toNat by rw [List.take_eq_take_iff, List.length_drop]; omega] at hS
      rw [← hkl] at hS ⊢
      repeat (first
        | (refine g_ops ?_; first | refine s_q ?_ | refine s_v ?_ | refine s_s ?_ | refine s_n (fun _ => ?_) | refine s_x ?_ | refine s_y ?_ | refine s_mq ?_ | refine s_appB (fun _ _ => ?_) | refine s_app (fun _ _ => ?_) | refine s_mv ?_ | refine s_ms ?_ | refine s_b0 (fun _ => ?_) | ((fail_if_success refine g_lit rfl rfl rfl ?_); first | apply g_partM rfl rfl rfl | apply g_partMB rfl rfl rfl | fail) | refine s_c (cloneE hS (by omega)) (fun _ _ => ?_))
        | refine g_seq ?_ | refine g_region ?_ | refine g_nil ?_ | refine g_then_normal ?_ | refine g_block ?_ | refine g_in_normal ?_ | refine g_retc ?_
        | refine g_then_ret ?_ | refine g_in_ret ?_ | refine g_exit ?_ | refine g_then_exit ?_ | refine g_in_exit ?_ | refine g_in_other rfl ?_ | refine g_skip ?_
        | refine g_label ?_ | refine g_cond_true rfl ?_ | refine g_cond_false rfl ?_ | exact s_m | intro _)
      refine g_bgIn (F := Sm.L) A B ⟨f, nm', q, c, evs, mb, ks⟩ (by (repeat (first | exact Take.nil | apply Take.cons | exact Sel.here | apply Sel.there)); first | done | fail) ?_
      exact g_ret (_, _) rfl (by (repeat (first | exact RVs.nil | apply RVs.tmp rfl | apply RVs.cellA rfl (by (repeat (first | exact Sel.here | apply Sel.there)); first | done | fail) (by (repeat (first | exact Cut.zero | apply Cut.take | apply Cut.skip)); first | done | fail) | apply RVs.cell1 rfl (by (repeat (first | exact Sel.here | apply Sel.there)); first | done | fail) rfl)); first | done | fail) (by (repeat (first | exact Take.nil | apply Take.cons | exact Sel.here | apply Sel.there)); first | done | fail) (by simp [pack]) trivial
end Go.Proofs.YtcgmliaahdpmcaaDoor
