/- Contracts and laws that the proof stands on. -/
import Derived.Test.YtcgmliaahdpmcaaGreatDoorTablePlays15
import Derived.Test.YtcgmliaahdpmcaaGreatDoorTablePlays12
set_option linter.unusedSimpArgs false
set_option linter.unusedVariables false
namespace Go.Sl
theorem does_sortedSN {P : Program} {f g : FuncId} {Bm : Nat} {T : TypeId}
    (hC : ∀ w : World, w.cell? ⟨Bm, 0, none⟩ = some (.map none) → Bm < w.heap.size → Calls P f #[.func (.func g) #[] #[.pointer (some ⟨Bm, 0, none⟩)]] w fun e w' => e = .returned (.slice none 0 0) ∧ Go.RowKit.Below w.heap.size w w') :
    Does1 P f [.func (.func g) #[] #[.pointer (some ⟨Bm, 0, none⟩)]] [.row Bm [.map none] T] (.slice none 0 0) := fun Γ w hh => by
  have hB := hh.block .here
  refine (hC w (by simp [World.cell?, hB]) (Array.getElem?_eq_some_iff.1 hB).1).mono ?_
  rintro e w' ⟨rfl, hBl⟩
  exact ⟨(), trivial, rfl, hh.later hBl.os hBl.tape hBl.output hBl.size (fun c hc => hBl.block c hc)⟩
theorem slAt_part {q : Option Addr} {len cap n a m : Nat} {xs : List Value} {e : TypeId} (hq : 0 < len → ∃ b, q = some ⟨b, 0, none⟩) (hl : xs.length = len * n) (ho : xs.all (·.oneCell') = true) (hlc : len ≤ cap) (ham : a + m ≤ len) :
    SlAt (.own q len cap n xs e) n (if cap = a then q else q.map (·.add (a * n))) m ((xs.drop (a * n)).take (m * n)) := by
  by_cases hm : m = 0
  · subst hm
    simp only [Nat.zero_mul, List.take_zero]
    exact SlAt.empty
  · obtain ⟨b, rfl⟩ := hq (by omega)
    have hle : (a + m) * n ≤ len * n := Nat.mul_le_mul_right n ham
    rw [Nat.add_mul] at hle
    rw [if_neg (by omega)]
    refine ⟨by rw [List.length_take, List.length_drop, hl]; omega, ?_, fun h => by simp at h, fun j v hv => ⟨b, a * n, by simp [Addr.add_lit], ?_⟩⟩
    · rw [List.all_eq_true] at ho ⊢
      exact fun z hz => ho z (List.mem_of_mem_drop (List.mem_of_mem_take hz))
    · rw [List.getElem?_take] at hv
      split at hv
      · rw [List.getElem?_drop] at hv
        exact reads_own hv
      · cases hv
theorem flat_part {α : Type} {g : α → List Value} {n : Nat} (hg : ∀ a, (g a).length = n) (l : List α) (a m : Nat) : ((l.flatMap g).drop (a * n)).take (m * n) = ((l.drop a).take m).flatMap g := by
  have hd : ∀ (l : List α) (a : Nat), (l.flatMap g).drop (a * n) = (l.drop a).flatMap g := fun l => by
    induction l with
    | nil => intro a; simp
    | cons x l ih =>
      intro a
      cases a with
      | zero => simp
      | succ a =>
        rw [List.flatMap_cons, List.drop_succ_cons, ← ih a, List.drop_append, hg, show (a + 1) * n - n = a * n by rw [Nat.succ_mul]; omega, List.drop_of_length_le (by rw [hg, Nat.succ_mul]; omega), List.nil_append]
  have ht : ∀ (l : List α) (m : Nat), (l.flatMap g).take (m * n) = (l.take m).flatMap g := fun l => by
    induction l with
    | nil => intro m; simp
    | cons x l ih =>
      intro m
      cases m with
      | zero => simp
      | succ m =>
        rw [List.flatMap_cons, List.take_succ_cons, List.flatMap_cons, ← ih m, List.take_append, hg, show (m + 1) * n - n = m * n by rw [Nat.succ_mul]; omega, List.take_of_length_le (by rw [hg, Nat.succ_mul]; omega)]
  rw [hd, ht]
end Go.Sl
namespace Go.Proofs.YtcgmliaahdpmcaaGreatDoor
open Go.Sl facts
attribute [local irreducible] Code.wp wpList Exit.then Exit.inBlock bodyPost Back MidQ G GP QStep VStep CStep SStep Does Post Reads
theorem keysFA (mp : Option Nat) : Does Tryz.prog 44 [.map mp] [] (X := Nat) (fun b => .func (.func fKA) #[] #[.pointer (some ⟨b, 0, none⟩)]) (fun b => [.row b [.map mp] 69]) (fun _ => True) := by
  refine fn_intro Tryz.func44 rfl Tryz.ntmps44 rfl (by simp only [argFr, Nat.zero_add, Nat.reduceAdd]; rfl) (fun Γ => ?_)
  repeat (first
    | (refine g_ops ?_; first | refine s_q ?_ | refine s_v ?_ | refine s_s ?_ | refine s_n (fun _ => ?_) | refine s_x ?_ | refine s_y ?_ | refine s_mq ?_ | refine s_appB (fun _ _ => ?_) | refine s_app (fun _ _ => ?_) | refine s_mv ?_ | refine s_ms ?_ | refine s_b0 (fun _ => ?_) | ((fail_if_success refine g_lit rfl rfl rfl ?_); first | apply g_partM rfl rfl rfl | apply g_partMB rfl rfl rfl | fail))
    | refine g_seq ?_ | refine g_region ?_ | refine g_nil ?_ | refine g_then_normal ?_ | refine g_block ?_ | refine g_in_normal ?_ | refine g_retc ?_ | refine g_then_ret ?_
    | refine g_in_ret ?_ | refine g_exit ?_ | refine g_then_exit ?_ | refine g_in_exit ?_ | refine g_in_other rfl ?_ | refine g_skip ?_ | refine g_label ?_
    | refine g_cond_true rfl ?_ | refine g_cond_false rfl ?_ | exact s_m | intro _)
  rename_i b
  refine s_q (q := by exact qs_makeFunc (vs := [ptr b]) (by (repeat (first | exact Evs.nil | refine Evs.cons rfl ?_)); first | done | fail)) ?_
  repeat (first
    | (refine g_ops ?_; first | refine s_q ?_ | refine s_v ?_ | refine s_s ?_ | refine s_n (fun _ => ?_) | refine s_x ?_ | refine s_y ?_ | refine s_mq ?_ | refine s_appB (fun _ _ => ?_) | refine s_app (fun _ _ => ?_) | refine s_mv ?_ | refine s_ms ?_ | refine s_b0 (fun _ => ?_) | ((fail_if_success refine g_lit rfl rfl rfl ?_); first | apply g_partM rfl rfl rfl | apply g_partMB rfl rfl rfl | fail))
    | refine g_seq ?_ | refine g_region ?_ | refine g_nil ?_ | refine g_then_normal ?_ | refine g_block ?_ | refine g_in_normal ?_ | refine g_retc ?_ | refine g_then_ret ?_
    | refine g_in_ret ?_ | refine g_exit ?_ | refine g_then_exit ?_ | refine g_in_exit ?_ | refine g_in_other rfl ?_ | refine g_skip ?_ | refine g_label ?_
    | refine g_cond_true rfl ?_ | refine g_cond_false rfl ?_ | exact s_m | intro _)
  exact g_ret b rfl (by (repeat (first | exact RVs.nil | apply RVs.tmp rfl | apply RVs.cellA rfl (by (repeat (first | exact Sel.here | apply Sel.there)); first | done | fail) (by (repeat (first | exact Cut.zero | apply Cut.take | apply Cut.skip)); first | done | fail) | apply RVs.cell1 rfl (by (repeat (first | exact Sel.here | apply Sel.there)); first | done | fail) rfl)); first | done | fail) (by (repeat (first | exact Take.nil | apply Take.cons | exact Sel.here | apply Sel.there)); first | done | fail) rfl trivial
theorem names (t : Nat) (mp : Option Nat) (T : List Sm) (hl : T.length ≤ 1000000000) (hs : ∀ x ∈ T, x.nm.size ≤ 9223372036854775807) :
    Does Tryz.prog 22 [ptr t] (tabL t mp T) (X := SkX) (fun x => .slice x.p x.ys.length x.c) (fun x => .own x.p x.ys.length x.c 1 (x.ys.map .string) 9 :: tabL t mp T) (fun x => x.ys.Perm (T.map Sm.nm) ∧ x.ys.Pairwise fun a b => ltB a b = true) := by
  refine fn_intro Tryz.func22 rfl Tryz.ntmps22 rfl (by simp only [argFr, Nat.zero_add, Nat.reduceAdd]; rfl) (fun Γ => ?_)
  cases mp with
  | none =>
    refine g_get (A := mapO none (smap T)) (p := T = []) (by (repeat (first | exact Sel.here | apply Sel.there)); first | done | fail) (fun hp h => by have h' : smap T = [] := h; simpa [smap] using h') (fun hT0 => ?_)
    subst hT0
    repeat (first
      | (refine g_ops ?_; first | refine s_q ?_ | refine s_v ?_ | refine s_s ?_ | refine s_n (fun _ => ?_) | refine s_x ?_ | refine s_y ?_ | refine s_mq ?_ | refine s_appB (fun _ _ => ?_) | refine s_app (fun _ _ => ?_) | refine s_mv ?_ | refine s_ms ?_ | refine s_b0 (fun _ => ?_) | ((fail_if_success refine g_lit rfl rfl rfl ?_); first | apply g_partM rfl rfl rfl | apply g_partMB rfl rfl rfl | fail) | refine s_c (keysFA none) (fun _ _ => ?_))
      | refine g_seq ?_ | refine g_region ?_ | refine g_nil ?_ | refine g_then_normal ?_ | refine g_block ?_ | refine g_in_normal ?_ | refine g_retc ?_
      | refine g_then_ret ?_ | refine g_in_ret ?_ | refine g_exit ?_ | refine g_then_exit ?_ | refine g_in_exit ?_ | refine g_in_other rfl ?_ | refine g_skip ?_
      | refine g_label ?_ | refine g_cond_true rfl ?_ | refine g_cond_false rfl ?_ | exact s_m | intro _)
    rename_i b _
    repeat (first
      | (refine g_ops ?_; first | refine s_q ?_ | refine s_v ?_ | refine s_s ?_ | refine s_n (fun _ => ?_) | refine s_x ?_ | refine s_y ?_ | refine s_mq ?_ | refine s_appB (fun _ _ => ?_) | refine s_app (fun _ _ => ?_) | refine s_mv ?_ | refine s_ms ?_ | refine s_b0 (fun _ => ?_) | ((fail_if_success refine g_lit rfl rfl rfl ?_); first | apply g_partM rfl rfl rfl | apply g_partMB rfl rfl rfl | fail) | refine s_k (does_sortedSN (T := 69) (sortedN b)) ?_)
      | refine g_seq ?_ | refine g_region ?_ | refine g_nil ?_ | refine g_then_normal ?_ | refine g_block ?_ | refine g_in_normal ?_ | refine g_retc ?_
      | refine g_then_ret ?_ | refine g_in_ret ?_ | refine g_exit ?_ | refine g_then_exit ?_ | refine g_in_exit ?_ | refine g_in_other rfl ?_ | refine g_skip ?_
      | refine g_label ?_ | refine g_cond_true rfl ?_ | refine g_cond_false rfl ?_ | exact s_m | intro _)
    refine g_own_nil none 1 9 ?_
    exact g_ret (⟨none, 0, []⟩ : SkX) rfl (by (repeat (first | exact RVs.nil | apply RVs.tmp rfl | apply RVs.cellA rfl (by (repeat (first | exact Sel.here | apply Sel.there)); first | done | fail) (by (repeat (first | exact Cut.zero | apply Cut.take | apply Cut.skip)); first | done | fail) | apply RVs.cell1 rfl (by (repeat (first | exact Sel.here | apply Sel.there)); first | done | fail) rfl)); first | done | fail) (by (repeat (first | exact Take.nil | apply Take.cons | exact Sel.here | apply Sel.there)); first | done | fail) rfl ⟨.refl _, .nil⟩
  | some m =>
    repeat (first
      | (refine g_ops ?_; first | refine s_q ?_ | refine s_v ?_ | refine s_s ?_ | refine s_n (fun _ => ?_) | refine s_x ?_ | refine s_y ?_ | refine s_mq ?_ | refine s_appB (fun _ _ => ?_) | refine s_app (fun _ _ => ?_) | refine s_mv ?_ | refine s_ms ?_ | refine s_b0 (fun _ => ?_) | ((fail_if_success refine g_lit rfl rfl rfl ?_); first | apply g_partM rfl rfl rfl | apply g_partMB rfl rfl rfl | fail) | refine s_c (keysFA (some m)) (fun _ _ => ?_))
      | refine g_seq ?_ | refine g_region ?_ | refine g_nil ?_ | refine g_then_normal ?_ | refine g_block ?_ | refine g_in_normal ?_ | refine g_retc ?_
      | refine g_then_ret ?_ | refine g_in_ret ?_ | refine g_exit ?_ | refine g_then_exit ?_ | refine g_in_exit ?_ | refine g_in_other rfl ?_ | refine g_skip ?_
      | refine g_label ?_ | refine g_cond_true rfl ?_ | refine g_cond_false rfl ?_ | exact s_m | intro _)
    rename_i b _
    repeat (first
      | (refine g_ops ?_; first | refine s_q ?_ | refine s_v ?_ | refine s_s ?_ | refine s_n (fun _ => ?_) | refine s_x ?_ | refine s_y ?_ | refine s_mq ?_ | refine s_appB (fun _ _ => ?_) | refine s_app (fun _ _ => ?_) | refine s_mv ?_ | refine s_ms ?_ | refine s_b0 (fun _ => ?_) | ((fail_if_success refine g_lit rfl rfl rfl ?_); first | apply g_partM rfl rfl rfl | apply g_partMB rfl rfl rfl | fail) | refine s_c (does_sortedS (T := 69) (m := m) (M := smap T) (Bm := b) (P := Tryz.prog) (f := 40) (g := fKA) Tryz.underlying9 (by simpa using hl) (by simpa [maxLen] using hs) (sortedA b)) (fun _ _ => ?_))
      | refine g_seq ?_ | refine g_region ?_ | refine g_nil ?_ | refine g_then_normal ?_ | refine g_block ?_ | refine g_in_normal ?_ | refine g_retc ?_
      | refine g_then_ret ?_ | refine g_in_ret ?_ | refine g_exit ?_ | refine g_then_exit ?_ | refine g_in_exit ?_ | refine g_in_other rfl ?_ | refine g_skip ?_
      | refine g_label ?_ | refine g_cond_true rfl ?_ | refine g_cond_false rfl ?_ | exact s_m | intro _)
    rename_i y hy
    exact g_ret y rfl (by (repeat (first | exact RVs.nil | apply RVs.tmp rfl | apply RVs.cellA rfl (by (repeat (first | exact Sel.here | apply Sel.there)); first | done | fail) (by (repeat (first | exact Cut.zero | apply Cut.take | apply Cut.skip)); first | done | fail) | apply RVs.cell1 rfl (by (repeat (first | exact Sel.here | apply Sel.there)); first | done | fail) rfl)); first | done | fail) (by (repeat (first | exact Take.nil | apply Take.cons | exact Sel.here | apply Sel.there)); first | done | fail) rfl ⟨by have h1 := hy.1; rw [show (smap T).map (·.1) = T.map Sm.nm by simp [smap, Function.comp_def]] at h1; exact h1, hy.2⟩
theorem cloneE {C : Chunk} {p : Option Addr} {m c : Nat} {news : List Value} (h : SlAt C 7 p m news) (hm : m ≤ 1000000000) : Does Tryz.prog 36 [.slice p m c] [C] (X := OA) (fun q => .slice q.1 m q.2) (fun q => [.own q.1 m q.2 7 news 68, C]) (fun _ => True) := by
  cases p with
  | none =>
    obtain rfl : m = 0 := h.nil rfl
    obtain rfl : news = [] := List.eq_nil_of_length_eq_zero (by rw [h.len, Nat.zero_mul])
    refine fn_intro Tryz.func36 rfl Tryz.ntmps36 rfl (by simp only [argFr, Nat.zero_add, Nat.reduceAdd]; rfl) (fun Γ => ?_)
    repeat (first
      | (refine g_ops ?_; first | refine s_q ?_ | refine s_v ?_ | refine s_s ?_ | refine s_n (fun _ => ?_) | refine s_x ?_ | refine s_y ?_ | refine s_mq ?_ | refine s_appB (fun _ _ => ?_) | refine s_app (fun _ _ => ?_) | refine s_mv ?_ | refine s_ms ?_ | refine s_b0 (fun _ => ?_) | ((fail_if_success refine g_lit rfl rfl rfl ?_); first | apply g_partM rfl rfl rfl | apply g_partMB rfl rfl rfl | fail))
      | refine g_seq ?_ | refine g_region ?_ | refine g_nil ?_ | refine g_then_normal ?_ | refine g_block ?_ | refine g_in_normal ?_ | refine g_retc ?_
      | refine g_then_ret ?_ | refine g_in_ret ?_ | refine g_exit ?_ | refine g_then_exit ?_ | refine g_in_exit ?_ | refine g_in_other rfl ?_ | refine g_skip ?_
      | refine g_label ?_ | refine g_cond_true rfl ?_ | refine g_cond_false rfl ?_ | exact s_m | intro _)
    refine g_own_nil none 7 68 ?_
    exact s_r (none, 0)
  | some a =>
    refine fn_intro Tryz.func36 rfl Tryz.ntmps36 rfl (by simp only [argFr, Nat.zero_add, Nat.reduceAdd]; rfl) (fun Γ => ?_)
    have hsrc : ∀ {Γ : Ctx} {b : Nat}, SrcIs Tryz.prog Γ [.own (some ⟨b, 0, none⟩) 0 0 7 [] 68, C] 7 32 (.slice (some a) m c) m news := fun {Γ b} => srcAt h inferInstance (.there .here) (by decide)
    repeat (first
      | (refine g_ops ?_; first | refine s_q ?_ | refine s_v ?_ | refine s_s ?_ | refine s_n (fun _ => ?_) | refine s_x ?_ | refine s_y ?_ | refine s_mq ?_ | refine s_appB (fun _ _ => ?_) | refine s_app (fun _ _ => ?_) | refine s_mv ?_ | refine s_ms ?_ | refine s_b0 (fun _ => ?_) | ((fail_if_success refine g_lit rfl rfl rfl ?_); first | apply g_partM rfl rfl rfl | apply g_partMB rfl rfl rfl | fail))
      | refine g_seq ?_ | refine g_region ?_ | refine g_nil ?_ | refine g_then_normal ?_ | refine g_block ?_ | refine g_in_normal ?_ | refine g_retc ?_
      | refine g_then_ret ?_ | refine g_in_ret ?_ | refine g_exit ?_ | refine g_then_exit ?_ | refine g_in_exit ?_ | refine g_in_other rfl ?_ | refine g_skip ?_
      | refine g_label ?_ | refine g_cond_true rfl ?_ | refine g_cond_false rfl ?_ | exact s_m | intro _)
    rename_i q c'
    exact s_r (q, c') (hp := by simp [pack]) (tk := by rw [Nat.zero_add, List.nil_append]; exact (by (repeat (first | exact Take.nil | apply Take.cons | exact Sel.here | apply Sel.there)); first | done | fail))
theorem off0g (p : Option Addr) (cap n : Nat) : (if cap = 0 then p else p.map (·.add (0 * n))) = p := by
  split
  · rfl
  · cases p with
    | none => rfl
    | some a => obtain ⟨b, o, s⟩ := a; cases s <;> simp [Addr.add]
theorem ev_one (l : List Ev) : (l.flatMap Ev.cells).all (·.oneCell') = true := by
  rw [List.all_eq_true]
  intro v hv
  obtain ⟨x, _, hv⟩ := List.mem_flatMap.1 hv
  simp only [Ev.cells, List.mem_cons, List.not_mem_nil, or_false] at hv
  rcases hv with rfl | rfl | rfl | rfl | rfl | rfl | rfl <;> rfl
def readL (evs : List Ev) (frm mx : Int) : List Ev := if frm > evs.length ∨ mx < 1 then [] else (evs.drop (frm - 1).toNat).take mx.toNat
def evsOf (T : List Sm) (nm : ByteArray) : List Ev := match fnd T nm with
  | some x => x.evs
  | none => []
theorem verOf_eq (T : List Sm) (nm : ByteArray) : verOf T nm = (evsOf T nm).length := by
  unfold verOf evsOf; cases fnd T nm <;> rfl
theorem read_arg (v : Value) (t : Nat) (mp : Option Nat) (T : List Sm) (nm : ByteArray) (frm mx : Int) (h : frm < 1) : Does1 Tryz.prog 18 [ptr t, .string nm, int frm, int mx] (tabL t mp T) (.tuple #[.slice none 0 0, int 1]) := by
  refine fn_intro Tryz.func18 rfl Tryz.ntmps18 rfl (by simp only [argFr, Nat.zero_add, Nat.reduceAdd]; rfl) (fun Γ => ?_)
  repeat (first
    | (refine g_ops ?_; first | refine s_q ?_ | refine s_v ?_ | refine s_s ?_ | refine s_n (fun _ => ?_) | refine s_x ?_ | refine s_y ?_ | refine s_mq ?_ | refine s_appB (fun _ _ => ?_) | refine s_app (fun _ _ => ?_) | refine s_mv ?_ | refine s_ms ?_ | refine s_b0 (fun _ => ?_) | ((fail_if_success refine g_lit rfl rfl rfl ?_); first | apply g_partM rfl rfl rfl | apply g_partMB rfl rfl rfl | fail))
    | refine g_seq ?_ | refine g_region ?_ | refine g_nil ?_ | refine g_then_normal ?_ | refine g_block ?_ | refine g_in_normal ?_ | refine g_retc ?_ | refine g_then_ret ?_
    | refine g_in_ret ?_ | refine g_exit ?_ | refine g_then_exit ?_ | refine g_in_exit ?_ | refine g_in_other rfl ?_ | refine g_skip ?_ | refine g_label ?_
    | refine g_cond_true rfl ?_ | refine g_cond_false rfl ?_ | exact s_m | intro _)
  refine g_as 17 (v' := .bool true) rfl (congrArg Value.bool (decide_eq_true h)) ?_
  repeat (first
    | (refine g_ops ?_; first | refine s_q ?_ | refine s_v ?_ | refine s_s ?_ | refine s_n (fun _ => ?_) | refine s_x ?_ | refine s_y ?_ | refine s_mq ?_ | refine s_appB (fun _ _ => ?_) | refine s_app (fun _ _ => ?_) | refine s_mv ?_ | refine s_ms ?_ | refine s_b0 (fun _ => ?_) | ((fail_if_success refine g_lit rfl rfl rfl ?_); first | apply g_partM rfl rfl rfl | apply g_partMB rfl rfl rfl | fail))
    | refine g_seq ?_ | refine g_region ?_ | refine g_nil ?_ | refine g_then_normal ?_ | refine g_block ?_ | refine g_in_normal ?_ | refine g_retc ?_ | refine g_then_ret ?_
    | refine g_in_ret ?_ | refine g_exit ?_ | refine g_then_exit ?_ | refine g_in_exit ?_ | refine g_in_other rfl ?_ | refine g_skip ?_ | refine g_label ?_
    | refine g_cond_true rfl ?_ | refine g_cond_false rfl ?_ | exact s_m | intro _)
  exact g_ret () rfl (by (repeat (first | exact RVs.nil | apply RVs.tmp rfl | apply RVs.cellA rfl (by (repeat (first | exact Sel.here | apply Sel.there)); first | done | fail) (by (repeat (first | exact Cut.zero | apply Cut.take | apply Cut.skip)); first | done | fail) | apply RVs.cell1 rfl (by (repeat (first | exact Sel.here | apply Sel.there)); first | done | fail) rfl)); first | done | fail) (by (repeat (first | exact Take.nil | apply Take.cons | exact Sel.here | apply Sel.there)); first | done | fail) (by simp [pack]) trivial
theorem read (t : Nat) (mp : Option Nat) (T : List Sm) (nm : ByteArray) (frm mx : Int) (h : 1 ≤ frm) (hf : frm ≤ 9223372036854775807) (hl : (evsOf T nm).length ≤ 1000000000) : Does Tryz.prog 18 [ptr t, .string nm, int frm, int mx] (tabL t mp T) (X := OA)
    (fun x => .tuple #[.slice x.1 (readL (evsOf T nm) frm mx).length x.2, int 0]) (fun x => .own x.1 (readL (evsOf T nm) frm mx).length x.2 7 ((readL (evsOf T nm) frm mx).flatMap Ev.cells) 68 :: tabL t mp T) (fun _ => True) := by
  have hv := version t mp T nm
  rw [verOf_eq] at hv
  refine fn_intro Tryz.func18 rfl Tryz.ntmps18 rfl (by simp only [argFr, Nat.zero_add, Nat.reduceAdd]; rfl) (fun Γ => ?_)
  repeat (first
    | (refine g_ops ?_; first | refine s_q ?_ | refine s_v ?_ | refine s_s ?_ | refine s_n (fun _ => ?_) | refine s_x ?_ | refine s_y ?_ | refine s_mq ?_ | refine s_appB (fun _ _ => ?_) | refine s_app (fun _ _ => ?_) | refine s_mv ?_ | refine s_ms ?_ | refine s_b0 (fun _ => ?_) | ((fail_if_success refine g_lit rfl rfl rfl ?_); first | apply g_partM rfl rfl rfl | apply g_partMB rfl rfl rfl | fail))
    | refine g_seq ?_ | refine g_region ?_ | refine g_nil ?_ | refine g_then_normal ?_ | refine g_block ?_ | refine g_in_normal ?_ | refine g_retc ?_ | refine g_then_ret ?_
    | refine g_in_ret ?_ | refine g_exit ?_ | refine g_then_exit ?_ | refine g_in_exit ?_ | refine g_in_other rfl ?_ | refine g_skip ?_ | refine g_label ?_
    | refine g_cond_true rfl ?_ | refine g_cond_false rfl ?_ | exact s_m | intro _)
  refine g_as 17 (v' := .bool false) rfl (congrArg Value.bool (decide_eq_false (by omega))) ?_
  repeat (first
    | (refine g_ops ?_; first | refine s_q ?_ | refine s_v ?_ | refine s_s ?_ | refine s_n (fun _ => ?_) | refine s_x ?_ | refine s_y ?_ | refine s_mq ?_ | refine s_appB (fun _ _ => ?_) | refine s_app (fun _ _ => ?_) | refine s_mv ?_ | refine s_ms ?_ | refine s_b0 (fun _ => ?_) | ((fail_if_success refine g_lit rfl rfl rfl ?_); first | apply g_partM rfl rfl rfl | apply g_partMB rfl rfl rfl | fail) | refine s_k (hv) ?_)
    | apply g_regB (id := 1) 17 | apply g_regB (id := 4) 27 | refine g_seq ?_ | refine g_region ?_ | refine g_nil ?_ | refine g_then_normal ?_ | refine g_block ?_
    | refine g_in_normal ?_ | refine g_retc ?_ | refine g_then_ret ?_ | refine g_in_ret ?_ | refine g_exit ?_ | refine g_then_exit ?_ | refine g_in_exit ?_
    | refine g_in_other rfl ?_ | refine g_skip ?_ | refine g_label ?_ | refine g_cond_true rfl ?_ | refine g_cond_false rfl ?_ | exact s_m | intro _ | (refine gp_take ?_; first | refine p_q ?_ | refine p_x ?_ | refine p_mq ?_ | ((fail_if_success refine gp_lit rfl rfl rfl rfl ?_); first | apply gp_guard_dec rfl rfl rfl rfl | apply gp_guard rfl rfl rfl rfl | fail))
    | (refine gp_see ?_; first | refine p_f ?_ | refine p_sx ?_ | ((fail_if_success refine gp_lit rfl rfl rfl rfl ?_); first | apply gp_guard_dec rfl rfl rfl rfl | apply gp_guard rfl rfl rfl rfl | fail) | refine p_h (hv) hd hk ?_ | refine p_sq ?_)
    | (refine gp_one ?_; first | refine p_v ?_ | refine p_s ?_ | refine p_n (fun _ => ?_) | refine p_y ?_ | refine p_appB (fun _ _ => ?_) | refine p_app (fun _ _ => ?_) | refine p_mv ?_ | refine p_ms ?_ | refine p_b0 (fun _ => ?_) | ((fail_if_success refine gp_lit rfl rfl rfl rfl ?_); first | apply gp_guard_dec rfl rfl rfl rfl | apply gp_guard rfl rfl rfl rfl | fail) | refine p_k (hv) ?_)
    | refine gp_two ?_ ?_ | refine gp_done hd hk ?_ | intro _ | refine p_ta hd hk (fun _ _ _ hd hk => ?_) | refine p_ts hd hk (fun _ hd hk => ?_))
  refine g_cond rfl (fun h2 => ?_) (fun h2 => ?_)
  · have e : readL (evsOf T nm) frm mx = [] := by unfold readL; rw [if_pos (by simp at h2; omega)]
    rw [e]
    repeat (first
      | (refine g_ops ?_; first | refine s_q ?_ | refine s_v ?_ | refine s_s ?_ | refine s_n (fun _ => ?_) | refine s_x ?_ | refine s_y ?_ | refine s_mq ?_ | refine s_appB (fun _ _ => ?_) | refine s_app (fun _ _ => ?_) | refine s_mv ?_ | refine s_ms ?_ | refine s_b0 (fun _ => ?_) | ((fail_if_success refine g_lit rfl rfl rfl ?_); first | apply g_partM rfl rfl rfl | apply g_partMB rfl rfl rfl | fail))
      | refine g_seq ?_ | refine g_region ?_ | refine g_nil ?_ | refine g_then_normal ?_ | refine g_block ?_ | refine g_in_normal ?_ | refine g_retc ?_
      | refine g_then_ret ?_ | refine g_in_ret ?_ | refine g_exit ?_ | refine g_then_exit ?_ | refine g_in_exit ?_ | refine g_in_other rfl ?_ | refine g_skip ?_
      | refine g_label ?_ | refine g_cond_true rfl ?_ | refine g_cond_false rfl ?_ | exact s_m | intro _)
    refine g_own_nil none 7 68 ?_
    exact g_ret (none, 0) rfl (by (repeat (first | exact RVs.nil | apply RVs.tmp rfl | apply RVs.cellA rfl (by (repeat (first | exact Sel.here | apply Sel.there)); first | done | fail) (by (repeat (first | exact Cut.zero | apply Cut.take | apply Cut.skip)); first | done | fail) | apply RVs.cell1 rfl (by (repeat (first | exact Sel.here | apply Sel.there)); first | done | fail) rfl)); first | done | fail) (by (repeat (first | exact Take.nil | apply Take.cons | exact Sel.here | apply Sel.there)); first | done | fail) (by simp [pack]) trivial
  · have h3 : frm ≤ (evsOf T nm).length ∧ 1 ≤ mx := by simp at h2; omega
    have e : readL (evsOf T nm) frm mx = ((evsOf T nm).drop (frm - 1).toNat).take mx.toNat := by unfold readL; rw [if_neg (by omega)]
    rw [e]
    obtain ⟨x, hfx⟩ : ∃ x, fnd T nm = some x := by
      cases hfd : fnd T nm with
      | none => simp [evsOf, hfd] at h3; omega
      | some x => exact ⟨x, rfl⟩
    have ex : evsOf T nm = x.evs := by simp [evsOf, hfx]
    rw [ex] at h3 hl ⊢
    obtain ⟨a, rfl⟩ : ∃ a : Nat, frm = (a : Int) + 1 := ⟨(frm - 1).toNat, by omega⟩
    rw [show ((a : Int) + 1 - 1).toNat = a by omega]
    cases mp with
    | none =>
      refine g_get (A := mapO none (smap T)) (p := T = []) (by (repeat (first | exact Sel.here | apply Sel.there)); first | done | fail) (fun hp h => by have h' : smap T = [] := h; simpa [smap] using h') (fun hT0 => ?_)
      subst hT0
      cases hfx
    | some m =>
      repeat (first
        | (refine g_ops ?_; first | refine s_q ?_ | refine s_v ?_ | refine s_s ?_ | refine s_n (fun _ => ?_) | refine s_x ?_ | refine s_y ?_ | refine s_mq ?_ | refine s_appB (fun _ _ => ?_) | refine s_app (fun _ _ => ?_) | refine s_mv ?_ | refine s_ms ?_ | refine s_b0 (fun _ => ?_) | ((fail_if_success refine g_lit rfl rfl rfl ?_); first | apply g_partM rfl rfl rfl | apply g_partMB rfl rfl rfl | fail))
        | refine g_seq ?_ | refine g_region ?_ | refine g_nil ?_ | refine g_then_normal ?_ | refine g_block ?_ | refine g_in_normal ?_ | refine g_retc ?_
        | refine g_then_ret ?_ | refine g_in_ret ?_ | refine g_exit ?_ | refine g_then_exit ?_ | refine g_in_exit ?_ | refine g_in_other rfl ?_ | refine g_skip ?_
        | refine g_label ?_ | refine g_cond_true rfl ?_ | refine g_cond_false rfl ?_ | exact s_m | intro _)
      refine g_v (vs_lookup (κ := ByteArray) (k := nm) inferInstance inferInstance inferInstance kindS rfl rfl (by (repeat (first | exact Sel.here | apply Sel.there)); first | done | fail)) rfl rfl ?_
      refine g_as 33 (v' := optP (some x)) rfl (by rw [mget_smap, hfx]; rfl) ?_
      obtain ⟨_, A, B, rfl, _⟩ := fnd_split hfx
      refine g_bgOut A B x (by (repeat (first | exact Sel.here | apply Sel.there)); first | done | fail) ?_
      obtain ⟨f, nm', q, c, evs, mb, ks⟩ := x
      dsimp only [Sm.L, List.cons_append, List.nil_append] at h3 hl ⊢
      refine g_own (p := q) (len := evs.length) (cap := c) (n := 7) (xs := evs.flatMap Ev.cells) (e := 68) (by (repeat (first | exact Sel.here | apply Sel.there)); first | done | fail) (fun hql hlc hq => ?_)
      repeat (first
        | (refine g_ops ?_; first | refine s_q ?_ | refine s_v ?_ | refine s_s ?_ | refine s_n (fun _ => ?_) | refine s_x ?_ | refine s_y ?_ | refine s_mq ?_ | refine s_appB (fun _ _ => ?_) | refine s_app (fun _ _ => ?_) | refine s_mv ?_ | refine s_ms ?_ | refine s_b0 (fun _ => ?_) | ((fail_if_success refine g_lit rfl rfl rfl ?_); first | apply g_partM rfl rfl rfl | apply g_partMB rfl rfl rfl | fail))
        | refine g_seq ?_ | refine g_region ?_ | refine g_nil ?_ | refine g_then_normal ?_ | refine g_block ?_ | refine g_in_normal ?_ | refine g_retc ?_
        | refine g_then_ret ?_ | refine g_in_ret ?_ | refine g_exit ?_ | refine g_then_exit ?_ | refine g_in_exit ?_ | refine g_in_other rfl ?_ | refine g_skip ?_
        | refine g_label ?_ | refine g_cond_true rfl ?_ | refine g_cond_false rfl ?_ | exact s_m | intro _)
      refine g_as 38 (v' := int (a : Int)) rfl (congrArg (Value.int .i64) (by omega)) ?_
      refine s_q (q := by exact qs_slice (l := a) (h := evs.length) inferInstance inferInstance rfl (.some rfl rfl) .none (by omega) hlc) ?_
      repeat (first
        | (refine g_ops ?_; first | refine s_q ?_ | refine s_v ?_ | refine s_s ?_ | refine s_n (fun _ => ?_) | refine s_x ?_ | refine s_y ?_ | refine s_mq ?_ | refine s_appB (fun _ _ => ?_) | refine s_app (fun _ _ => ?_) | refine s_mv ?_ | refine s_ms ?_ | refine s_b0 (fun _ => ?_) | ((fail_if_success refine g_lit rfl rfl rfl ?_); first | apply g_partM rfl rfl rfl | apply g_partMB rfl rfl rfl | fail))
        | refine g_seq ?_ | refine g_region ?_ | refine g_nil ?_ | refine g_then_normal ?_ | refine g_block ?_ | refine g_in_normal ?_ | refine g_retc ?_
        | refine g_then_ret ?_ | refine g_in_ret ?_ | refine g_exit ?_ | refine g_then_exit ?_ | refine g_in_exit ?_ | refine g_in_other rfl ?_ | refine g_skip ?_
        | refine g_label ?_ | refine g_cond_true rfl ?_ | refine g_cond_false rfl ?_ | exact s_m | intro _)
      refine s_q (q := by exact qs_min rfl rfl) ?_
      obtain ⟨k, hk⟩ : ∃ k : Nat, k = min mx.toNat (evs.length - a) := ⟨_, rfl⟩
      have hkl : ((evs.drop a).take mx.toNat).length = k := by rw [List.length_take, List.length_drop, hk]
      refine g_as 44 (v' := int (k : Int)) rfl (congrArg (Value.int .i64) (by rw [hk]; split <;> omega)) ?_
      refine s_q (q := by exact qs_slice (l := 0) (h := k) inferInstance inferInstance rfl .none (.some rfl rfl) (Nat.zero_le _) (by omega)) ?_
      refine g_as 45 (v' := .slice (if c = a then q else q.map (·.add (a * 7))) k (c - a)) rfl (by rw [off0g]; rfl) ?_
      have hS := slAt_part (q := q) (len := evs.length) (cap := c) (n := 7) (a := a) (m := k) (e := 68) hq hql (ev_one evs) hlc (by omega)
      rw [flat_part ev_len, show ((evs.drop a).take k) = (evs.drop a).take mx.toNat by rw [List.take_eq_take_iff, List.length_drop]; omega] at hS
      rw [← hkl] at hS ⊢
      repeat (first
        | (refine g_ops ?_; first | refine s_q ?_ | refine s_v ?_ | refine s_s ?_ | refine s_n (fun _ => ?_) | refine s_x ?_ | refine s_y ?_ | refine s_mq ?_ | refine s_appB (fun _ _ => ?_) | refine s_app (fun _ _ => ?_) | refine s_mv ?_ | refine s_ms ?_ | refine s_b0 (fun _ => ?_) | ((fail_if_success refine g_lit rfl rfl rfl ?_); first | apply g_partM rfl rfl rfl | apply g_partMB rfl rfl rfl | fail) | refine s_c (cloneE hS (by omega)) (fun _ _ => ?_))
        | refine g_seq ?_ | refine g_region ?_ | refine g_nil ?_ | refine g_then_normal ?_ | refine g_block ?_ | refine g_in_normal ?_ | refine g_retc ?_
        | refine g_then_ret ?_ | refine g_in_ret ?_ | refine g_exit ?_ | refine g_then_exit ?_ | refine g_in_exit ?_ | refine g_in_other rfl ?_ | refine g_skip ?_
        | refine g_label ?_ | refine g_cond_true rfl ?_ | refine g_cond_false rfl ?_ | exact s_m | intro _)
      refine g_bgIn (F := Sm.L) A B ⟨f, nm', q, c, evs, mb, ks⟩ (by (repeat (first | exact Take.nil | apply Take.cons | exact Sel.here | apply Sel.there)); first | done | fail) ?_
      exact g_ret (_, _) rfl (by (repeat (first | exact RVs.nil | apply RVs.tmp rfl | apply RVs.cellA rfl (by (repeat (first | exact Sel.here | apply Sel.there)); first | done | fail) (by (repeat (first | exact Cut.zero | apply Cut.take | apply Cut.skip)); first | done | fail) | apply RVs.cell1 rfl (by (repeat (first | exact Sel.here | apply Sel.there)); first | done | fail) rfl)); first | done | fail) (by (repeat (first | exact Take.nil | apply Take.cons | exact Sel.here | apply Sel.there)); first | done | fail) (by simp [pack]) trivial
end Go.Proofs.YtcgmliaahdpmcaaGreatDoor

namespace Go.Sl
variable {P : Program} {Γ : Ctx} {L R : List Chunk} {N : Nat} {fr : Fr} {Q : Exit → Act → World → Prop} {ops : Array Oper} {rest : List Oper}
variable {d : Nat} {ty : TypeId} {pos : String} {aft : Array Edge} {gd : Option (Nat × Bool)} {x y z : Operand} {v u : Value} {t t2 tx : TypeId}
theorem does_weak {f : FuncId} {args : List Value} {A : List Chunk} {X Y : Type} {ret : X → Value} {B : X → List Chunk} {φ : X → Prop} {ret' : Y → Value} {B' : Y → List Chunk} {ψ : Y → Prop} (d : Does P f args A ret B φ) (g : X → Y) (h1 : ∀ x, ret x = ret' (g x)) (h2 : ∀ x (h : HP), All (B x) h → All (B' (g x)) h) (h3 : ∀ x, φ x → ψ (g x)) : Does P f args A ret' B' ψ := fun Γ w hh =>
  (d Γ w hh).mono fun e w' ⟨x, hx, he, hB⟩ => ⟨g x, h3 x hx, by rw [he, h1], hB.mono fun h => h2 x h⟩
end Go.Sl
namespace Go.Proofs.YtcgmliaahdpmcaaGreatDoor
open Go.Sl
theorem goes_append : ∀ (a b : List Ev) (v : Int), goesB (a ++ b) v = (goesB a v && goesB b (v + a.length))
  | [], b, v => by simp [goesB]
  | e :: a, b, v => by
    simp only [List.cons_append, goesB, goes_append a b, List.length_cons, Bool.and_assoc]
    congr 3
    push_cast; omega
theorem tput_mem {T : List Sm} {x y : Sm} (h : y ∈ tput T x) : y = x ∨ y ∈ T := by
  induction T with
  | nil => simpa [tput] using h
  | cons z T ih =>
    simp only [tput] at h
    split at h
    · rcases List.mem_cons.1 h with h | h
      · exact .inl h
      · exact .inr (List.mem_cons_of_mem _ h)
    · rcases List.mem_cons.1 h with h | h
      · exact .inr (by rw [h]; exact List.mem_cons_self ..)
      · rcases ih h with h | h
        · exact .inl h
        · exact .inr (List.mem_cons_of_mem _ h)
theorem tput_names {T : List Sm} {x : Sm} : (x.nm ∈ T.map Sm.nm ∧ (tput T x).map Sm.nm = T.map Sm.nm) ∨ (x.nm ∉ T.map Sm.nm ∧ (tput T x).map Sm.nm = T.map Sm.nm ++ [x.nm]) := by
  induction T with
  | nil => right; simp [tput]
  | cons z T ih =>
    simp only [tput]
    by_cases e : x.nm = z.nm
    · rw [if_pos e]
      left
      simp [e]
    · rw [if_neg e]
      rcases ih with ⟨h1, h2⟩ | ⟨h1, h2⟩
      · left
        exact ⟨List.mem_cons_of_mem _ h1, by simp only [List.map_cons, h2]⟩
      · right
        refine ⟨fun h => ?_, by simp only [List.map_cons, h2, List.cons_append]⟩
        rcases List.mem_cons.1 h with h | h
        · exact e h
        · exact h1 h
theorem tput_nodup {T : List Sm} {x : Sm} (h : (T.map Sm.nm).Nodup) : ((tput T x).map Sm.nm).Nodup := by
  rcases tput_names (T := T) (x := x) with ⟨_, e⟩ | ⟨hn, e⟩
  · rw [e]; exact h
  · rw [e]
    exact List.nodup_append.2 ⟨h, by simp, fun a ha b hb e => hn (by simp at hb; rw [← hb, ← e]; exact ha)⟩
theorem tput_len {T : List Sm} {x : Sm} : (tput T x).length ≤ T.length + 1 := by
  induction T with
  | nil => simp [tput]
  | cons z T ih =>
    simp only [tput]
    split
    · simp
    · simp only [List.length_cons]; omega
theorem fnd_of_mem {T : List Sm} {x : Sm} (hn : (T.map Sm.nm).Nodup) (h : x ∈ T) : fnd T x.nm = some x := by
  induction T with
  | nil => cases h
  | cons z T ih =>
    simp only [fnd]
    rcases List.mem_cons.1 h with e | h
    · rw [if_pos (by rw [e]), e]
    · have h1 := List.pairwise_cons.1 (show (z.nm :: T.map Sm.nm).Pairwise (· ≠ ·) from hn)
      rw [if_neg (fun e => h1.1 x.nm (List.mem_map.2 ⟨x, h, rfl⟩) e.symm)]
      exact ih h1.2 h
structure SGood (x : Sm) (k : Nat) : Prop where
  goes : goesB x.evs 0 = true
  pos : 0 < x.evs.length
  len : x.evs.length ≤ k
  st : ∀ e ∈ x.evs, e.st = x.nm
  nm : x.nm.size ≤ 160
structure TGood (T : List Sm) (n k : Nat) : Prop where
  nd : (T.map Sm.nm).Nodup
  len : T.length ≤ n
  str : ∀ x ∈ T, SGood x k
theorem TGood.nil : TGood [] 0 0 := ⟨.nil, Nat.le_refl _, by simp⟩
theorem SGood.mono {x : Sm} {k k' : Nat} (h : SGood x k) (hk : k ≤ k') : SGood x k' := ⟨h.goes, h.pos, Nat.le_trans h.len hk, h.st, h.nm⟩
theorem TGood.mono {T : List Sm} {n n' k k' : Nat} (h : TGood T n k) (hn : n ≤ n') (hk : k ≤ k') : TGood T n' k' := ⟨h.nd, Nat.le_trans h.len hn, fun x hx => (h.str x hx).mono hk⟩
theorem TGood.old {T : List Sm} {n k : Nat} (h : TGood T n k) (nm : ByteArray) : (oldE T nm).length = verOf T nm ∧ (oldE T nm).length ≤ k ∧ goesB (oldE T nm) 0 = true ∧ ∀ e ∈ oldE T nm, e.st = nm := by
  cases hf : fnd T nm with
  | none => simp [oldE, verOf, hf, goesB]
  | some x =>
    obtain ⟨h1, A, B, e, _⟩ := fnd_split hf
    have hx := h.str x (by rw [e]; simp)
    refine ⟨by simp [oldE, verOf, hf], by simp only [oldE, hf]; exact hx.len, by simp only [oldE, hf]; exact hx.goes, fun e he => ?_⟩
    simp only [oldE, hf] at he
    rw [hx.st e he, h1]
theorem may_all {evs : List Ev} {key : ByteArray} {e0 : Ev} {l : List Ev} (he : evs = e0 :: l) (h : mayB evs key = true) : (∀ e ∈ evs, e.st = e0.st ∧ (e.s.w = e0.s.w ∧ e.s.l = e0.s.l ∧ e.s.n = e0.s.n) ∧ e.ok = true) ∧ keyB key = true := by
  subst he
  simp only [mayB, ne_eq, reduceCtorEq, not_false_eq_true, decide_true, Bool.true_and, Bool.and_eq_true, alikeB, List.all_eq_true, decide_eq_true_eq] at h
  exact ⟨fun e he => ⟨(h.1 e he).1, (h.1 e he).2.1, (h.1 e he).2.2⟩, h.2⟩
theorem TGood.put {T : List Sm} {n k : Nat} (h : TGood T n k) {evs : List Ev} {key : ByteArray} {e0 : Ev} {l : List Ev} (he : evs = e0 :: l) (hm : mayB evs key = true) (hg : goesB evs (verOf T e0.st) = true) {x : Sm} (h1 : x.nm = e0.st) (h2 : x.evs = oldE T e0.st ++ evs) {m : Nat} (hl : evs.length ≤ m) : TGood (tput T x) (n + 1) (k + m) := by
  obtain ⟨o1, o2, o3, o4⟩ := h.old e0.st
  have ha := (may_all he hm).1
  refine ⟨tput_nodup h.nd, Nat.le_trans tput_len (Nat.succ_le_succ h.len), fun y hy => ?_⟩
  rcases tput_mem hy with rfl | hy
  · refine ⟨?_, ?_, ?_, ?_, ?_⟩
    · rw [h2, goes_append, o3, Bool.true_and, o1, Int.zero_add]; exact hg
    · rw [h2, he]; simp; omega
    · rw [h2, List.length_append]; omega
    · intro e hh
      rw [h2] at hh
      rcases List.mem_append.1 hh with hh | hh
      · rw [h1]; exact o4 e hh
      · rw [h1]; exact (ha e hh).1
    · have := (ha e0 (by rw [he]; exact List.mem_cons_self ..)).2.2
      rw [Ev.ok_iff] at this
      rw [h1]
      exact (name_size this.1).2
  · exact (h.str y hy).mono (by omega)
end Go.Proofs.YtcgmliaahdpmcaaGreatDoor

namespace Go.Proofs.YtcgmliaahdpmcaaGreatDoor
open Go.Sl facts
attribute [local irreducible] Code.wp wpList Exit.then Exit.inBlock bodyPost Back MidQ G GP QStep VStep CStep SStep Does Post Reads
def tA : ByteArray := ⟨#[97]⟩
def tK : ByteArray := ⟨#[107]⟩
def evA (v w i : Int) : Ev := ⟨tA, v, ByteArray.empty, ⟨w, 0, 1⟩, i⟩
theorem evsOk_of {l : List Ev} (h : ∀ x ∈ l, x.st = tA ∧ x.data = ByteArray.empty) : EvsOk l :=
  ⟨fun x hx => by rw [(h x hx).1]; show (1 : Nat) ≤ _; decide, fun x hx => by rw [(h x hx).2]; show (0 : Nat) ≤ _; decide⟩
theorem awake_may : mayB [evA 1 5 0, evA 2 5 1] tK = true := by decide +kernel
set_option maxHeartbeats 2000000 in
theorem awake {H : HP} (hU : UtH H) : Does1 Tryz.prog 6 [] [Pile H] (.bool true) := by
  refine fn_intro Tryz.func6 rfl Tryz.ntmps6 rfl (by simp only [argFr, Nat.zero_add, Nat.reduceAdd]; rfl) (fun Γ => ?_)
  repeat ((fail_if_success refine s_at 12 ?_); first
    | (refine g_ops ?_; first | refine s_q ?_ | refine s_v ?_ | refine s_s ?_ | refine s_n (fun _ => ?_) | refine s_x ?_ | refine s_y ?_ | refine s_mq ?_ | refine s_appB (fun _ _ => ?_) | refine s_app (fun _ _ => ?_) | refine s_mv ?_ | refine s_ms ?_ | refine s_b0 (fun _ => ?_) | ((fail_if_success refine g_lit rfl rfl rfl ?_); first | apply g_partM rfl rfl rfl | apply g_partMB rfl rfl rfl | fail) | refine s_c (new) (fun _ _ => ?_))
    | refine g_seq ?_ | refine g_region ?_ | refine g_nil ?_ | refine g_then_normal ?_ | refine g_block ?_ | refine g_in_normal ?_ | refine g_retc ?_ | refine g_then_ret ?_
    | refine g_in_ret ?_ | refine g_exit ?_ | refine g_then_exit ?_ | refine g_in_exit ?_ | refine g_in_other rfl ?_ | refine g_skip ?_ | refine g_label ?_
    | refine g_cond_true rfl ?_ | refine g_cond_false rfl ?_ | exact s_m | intro _)
  rename_i t _ b
  refine g_toOwn (b := b) (len := 2) (n := 7) (by (repeat (first | exact Sel.here | apply Sel.there)); first | done | fail) rfl rfl ?_
  refine g_pile (by (repeat (first | exact Sel.here | apply Sel.there)); first | done | fail) (by (repeat (first | exact Sel.here | apply Sel.there)); first | done | fail) (fun H' hs hS => ?_)
  have hap := append_yes (hU.grow hs) (some ⟨b, 0, none⟩) 2 [evA 1 5 0, evA 2 5 1] hS (evsOk_of (by simp [evA])) (by decide) t none [] tK (by decide) (evA 1 5 0) ⟨_, rfl⟩ awake_may rfl (by simp)
  repeat (first
    | (refine g_ops ?_; first | refine s_q ?_ | refine s_v ?_ | refine s_s ?_ | refine s_n (fun _ => ?_) | refine s_x ?_ | refine s_y ?_ | refine s_mq ?_ | refine s_appB (fun _ _ => ?_) | refine s_app (fun _ _ => ?_) | refine s_mv ?_ | refine s_ms ?_ | refine s_b0 (fun _ => ?_) | ((fail_if_success refine g_lit rfl rfl rfl ?_); first | apply g_partM rfl rfl rfl | apply g_partMB rfl rfl rfl | fail) | refine s_c (hap) (fun _ _ => ?_))
    | refine g_seq ?_ | refine g_region ?_ | refine g_nil ?_ | refine g_then_normal ?_ | refine g_block ?_ | refine g_in_normal ?_ | refine g_retc ?_ | refine g_then_ret ?_
    | refine g_in_ret ?_ | refine g_exit ?_ | refine g_then_exit ?_ | refine g_in_exit ?_ | refine g_in_other rfl ?_ | refine g_skip ?_ | refine g_label ?_
    | refine g_cond_true rfl ?_ | refine g_cond_false rfl ?_ | exact s_m | intro _)
  rename_i y hy
  obtain ⟨m, x⟩ := y
  obtain ⟨h1, h2, h3⟩ := hy
  dsimp only at h1 h2 h3 ⊢
  have hkn := known t (some m) [x] tA tK
  have hvr := version t (some m) [x] tA
  have hf : fnd [x] tA = some x := by simp only [fnd]; rw [if_pos (by rw [h1]; rfl)]
  have e1 : knOf [x] tA tK = some ⟨tK, 1, ⟨5, 0, 1⟩⟩ := by simp only [knOf, hf, h3]; rfl
  have e2 : verOf [x] tA = 2 := by simp only [verOf, hf, h2]; rfl
  rw [e1] at hkn
  rw [e2] at hvr
  repeat (first
    | (refine g_ops ?_; first | refine s_q ?_ | refine s_v ?_ | refine s_s ?_ | refine s_n (fun _ => ?_) | refine s_x ?_ | refine s_y ?_ | refine s_mq ?_ | refine s_appB (fun _ _ => ?_) | refine s_app (fun _ _ => ?_) | refine s_mv ?_ | refine s_ms ?_ | refine s_b0 (fun _ => ?_) | ((fail_if_success refine g_lit rfl rfl rfl ?_); first | apply g_partM rfl rfl rfl | apply g_partMB rfl rfl rfl | fail) | refine s_k (hkn) ?_ | refine s_k (hvr) ?_)
    | apply g_regB (id := 4) 0 | refine g_seq ?_ | refine g_region ?_ | refine g_nil ?_ | refine g_then_normal ?_ | refine g_block ?_ | refine g_in_normal ?_
    | refine g_retc ?_ | refine g_then_ret ?_ | refine g_in_ret ?_ | refine g_exit ?_ | refine g_then_exit ?_ | refine g_in_exit ?_ | refine g_in_other rfl ?_
    | refine g_skip ?_ | refine g_label ?_ | refine g_cond_true rfl ?_ | refine g_cond_false rfl ?_ | exact s_m | intro _ | (refine gp_take ?_; first | refine p_q ?_ | refine p_x ?_ | refine p_mq ?_ | ((fail_if_success refine gp_lit rfl rfl rfl rfl ?_); first | apply gp_guard_dec rfl rfl rfl rfl | apply gp_guard rfl rfl rfl rfl | fail))
    | (refine gp_see ?_; first | refine p_f ?_ | refine p_sx ?_ | ((fail_if_success refine gp_lit rfl rfl rfl rfl ?_); first | apply gp_guard_dec rfl rfl rfl rfl | apply gp_guard rfl rfl rfl rfl | fail) | refine p_h (hkn) hd hk ?_ | refine p_h (hvr) hd hk ?_ | refine p_sq ?_)
    | (refine gp_one ?_; first | refine p_v ?_ | refine p_s ?_ | refine p_n (fun _ => ?_) | refine p_y ?_ | refine p_appB (fun _ _ => ?_) | refine p_app (fun _ _ => ?_) | refine p_mv ?_ | refine p_ms ?_ | refine p_b0 (fun _ => ?_) | ((fail_if_success refine gp_lit rfl rfl rfl rfl ?_); first | apply gp_guard_dec rfl rfl rfl rfl | apply gp_guard rfl rfl rfl rfl | fail) | refine p_k (hkn) ?_ | refine p_k (hvr) ?_)
    | refine gp_two ?_ ?_ | refine gp_done hd hk ?_ | intro _ | refine p_ta hd hk (fun _ _ _ hd hk => ?_) | refine p_ts hd hk (fun _ hd hk => ?_))
  refine g_unpile hs (by (repeat (first | exact Sel.here | apply Sel.there)); first | done | fail) ?_
  exact g_ret () rfl (by (repeat (first | exact RVs.nil | apply RVs.tmp rfl | apply RVs.cellA rfl (by (repeat (first | exact Sel.here | apply Sel.there)); first | done | fail) (by (repeat (first | exact Cut.zero | apply Cut.take | apply Cut.skip)); first | done | fail) | apply RVs.cell1 rfl (by (repeat (first | exact Sel.here | apply Sel.there)); first | done | fail) rfl)); first | done | fail) (by (repeat (first | exact Take.nil | apply Take.cons | exact Sel.here | apply Sel.there)); first | done | fail) rfl trivial
structure KX where
  i : Nat
  mp : Option Nat
  T : List Sm
  H : HP
end Go.Proofs.YtcgmliaahdpmcaaGreatDoor

namespace Go.Proofs.YtcgmliaahdpmcaaGreatDoor
open Go.Sl facts
attribute [local irreducible] Code.wp wpList Exit.then Exit.inBlock bodyPost Back MidQ G GP QStep VStep CStep SStep Does Post Reads
structure GX where
  i : Nat
  mp : Option Nat
  T : List Sm
end Go.Proofs.YtcgmliaahdpmcaaGreatDoor
