/- Contracts and laws that the proof stands on. -/
import Derived.Test.YtaahibcibgljbaaGreatDoorCallTold15
import Derived.Test.YtaahibcibgljbaaGreatDoorCallTold18
set_option linter.unusedSimpArgs false
set_option linter.unusedVariables false
namespace Go.Proofs.YtaahibcibgljbaaGreatDoor
open Go Go.ChangeShapes Go.WideShapes Go.ChangeAt Go.RowKit Go.Sl facts
def lstE : List (String × DataW Unit) := [("math/bits.deBruijn32tab", Rows.laid_math_bits_deBruijn32tab), ("math/bits.deBruijn64tab", Rows.laid_math_bits_deBruijn64tab), ("internal/strconv.uint64pow10", Rows.laid_internal_strconv_uint64pow10), ("unicode/utf8.acceptRanges", Rows.laid_unicode_utf8_acceptRanges), ("strconv.ErrRange", Rows.laid_strconv_ErrRange), ("strconv.ErrSyntax", Rows.laid_strconv_ErrSyntax), ("unicode/utf8.first", Rows.laid_unicode_utf8_first)]
theorem doorE_met (os : Os) (args : Array Value) : laidMetH Tryz.prog lstE ((doorW os).forCall (fun _ _ => 0) ⟨#[], args, []⟩).memory :=
  laidMetH_of_parts3 (fuel := 8) (laidMet_of_run' 8 (by kernel_rfl) (by kernel_rfl)) (by kernel_rfl) (by kernel_rfl)
theorem starE : "*" ++ "errors.errorString" = "*errors.errorString" := by decide
theorem rowE (u : TypeId) (h : Tryz.prog.typeName? 3 u = some "*errors.errorString") : u = 183 :=
  typeName_ptr_named (nm := "errors.errorString") (by rw [starE]; kernel_rfl) (by kernel_rfl) (by decide) u (by rw [starE]; exact h)
theorem var_of {W : World} {n : String} {g : Nat} {v : Value} (hg : Tryz.prog.globalNamed n = some g) (hv : W.var? Tryz.prog n = some #[v]) (h : ∃ t u, v = .iface t u) : VarH (wheap W) g := by
  unfold World.var? at hv
  rw [hg] at hv
  simp only [Option.bind_some] at hv
  split at hv
  · rename_i cs e fz hb
    simp only [Option.some.injEq] at hv
    subst hv
    exact ⟨#[v], e, fz, v, hb, rfl, .inr h⟩
  · cases hv
theorem err_of {W : World} (h : laidMetH Tryz.prog lstE W) : Tb (wheap W) ∧ ErrH (wheap W) := by
  rw [MakeChecks.laidMetH_plain _ _ _ (by kernel_rfl)] at h
  have h4 := laidMet.tail (laidMet.tail (laidMet.tail (laidMet.tail h)))
  refine ⟨tb_of (ut_of h (.tail _ (.tail _ (.tail _ (.tail _ (.tail _ (.tail _ (.head _))))))) (.tail _ (.tail _ (.tail _ (.head _))))) (tabH_of (laidMet.tail (laidMet.tail h))), ?_, ?_⟩
  · obtain ⟨a, s, hv, _⟩ := laid_sentinel (laidMet.tail h4) (show Tryz.prog.globalNamed "strconv.ErrSyntax" = some 1 by kernel_rfl) (show (Tryz.prog.globals[1]?).map (·.type) = some 117 by kernel_rfl) Tryz.underlying117 rowE Tryz.underlying183 Tryz.underlying185 rfl rfl Tryz.underlying9 (by kernel_rfl) (by kernel_rfl)
    exact var_of (by kernel_rfl) hv ⟨_, _, rfl⟩
  · obtain ⟨a, s, hv, _⟩ := laid_sentinel h4 (show Tryz.prog.globalNamed "strconv.ErrRange" = some 2 by kernel_rfl) (show (Tryz.prog.globals[2]?).map (·.type) = some 117 by kernel_rfl) Tryz.underlying117 rowE Tryz.underlying183 Tryz.underlying185 rfl rfl Tryz.underlying9 (by kernel_rfl) (by kernel_rfl)
    exact var_of (by kernel_rfl) hv ⟨_, _, rfl⟩
end Go.Proofs.YtaahibcibgljbaaGreatDoor

namespace Go.Sl
theorem slAt_end {C : Chunk} {n m a b o : Nat} {news : List Value} (h : SlAt C n (some ⟨b, o, none⟩) m news) (ham : a ≤ m) : SlAt C n (some ⟨b, o + a * n, none⟩) (m - a) (news.drop (a * n)) where
  len := by rw [List.length_drop, h.len, Nat.sub_mul]
  one := by
    rw [List.all_eq_true]
    intro v hv
    exact List.all_eq_true.1 h.one v (List.mem_of_mem_drop hv)
  nil := fun e => by cases e
  reads := fun j v hv => by
    rw [List.getElem?_drop] at hv
    obtain ⟨b', o', e, hr⟩ := h.reads _ _ hv
    simp only [Option.some.injEq, Addr.mk.injEq, and_true] at e
    obtain ⟨rfl, rfl⟩ := e
    exact ⟨b, o + a * n, rfl, by rw [Nat.add_assoc]; exact hr⟩
end Go.Sl
namespace Go.Proofs.YtaahibcibgljbaaGreatDoor
open Go.Sl facts
structure Fm where
  p : Option Addr
  c : Nat
  ps : List Pr
  bad : Bool
abbrev Fm.row (b : Nat) (f : Fm) : Chunk := .row b [.slice f.p f.ps.length f.c, .bool f.bad] 93
structure Fm.On (H : HP) (f : Fm) : Prop where
  sl : SlAt (Pile H) 2 f.p f.ps.length (f.ps.flatMap Pr.cells)
  len : f.ps.length ≤ 1000000000
  cap : f.ps.length ≤ f.c
  sh : ∀ q ∈ f.ps, q.v = .nilIface ∨ ∃ t u, q.v = .iface t u
def Fm.spoil (f : Fm) : Fm := { f with bad := true }
def Fm.tail (f : Fm) : Fm := ⟨if f.c = 1 then f.p else f.p.map (·.add 2), f.c - 1, f.ps.tail, f.bad⟩
theorem Fm.On.spoil {H : HP} {f : Fm} (h : f.On H) : f.spoil.On H := ⟨h.sl, h.len, h.cap, h.sh⟩
theorem Fm.On.grow {H H' : HP} {f : Fm} (h : f.On H) (s : HP.sub H H') : f.On H' := ⟨h.sl.grow s, h.len, h.cap, h.sh⟩
theorem Fm.On.tail {H : HP} {f : Fm} (h : f.On H) (hne : f.ps ≠ []) : f.tail.On H := by
  obtain ⟨p, c, ps, bad⟩ := f
  obtain ⟨h1, h2, h3, h4⟩ := h
  dsimp only at h1 h2 h3 h4 hne
  cases ps with
  | nil => exact absurd rfl hne
  | cons q r =>
    obtain ⟨b, o, rfl, hr0⟩ := slAt_elem h1 Pr.len (by decide) (i := 0) (a := q) rfl
    have he := slAt_end (a := 1) h1 (by simp)
    simp only [List.length_cons] at h2 h3
    refine ⟨?_, ?_, ?_, fun q' hq' => h4 q' (List.mem_cons_of_mem _ hq')⟩
    · dsimp only [Fm.tail, List.tail_cons]
      by_cases hc : c = 1
      · obtain rfl : r = [] := List.eq_nil_of_length_eq_zero (by omega)
        exact ⟨rfl, rfl, fun _ => rfl, fun j v hv => by simp at hv⟩
      · rw [if_neg hc]
        simpa [Pr.cells, Addr.add] using he
    · simp only [Fm.tail, List.tail_cons]; omega
    · simp only [Fm.tail, List.tail_cons]; omega
def Fm.next (f : Fm) (key : ByteArray) : Value × Fm := match f.ps with
  | [] => (.nilIface, f.spoil)
  | q :: _ => if f.bad = false ∧ q.k = key then (q.v, f.tail) else (.nilIface, f.spoil)
attribute [local irreducible] Code.wp wpList Exit.then Exit.inBlock bodyPost Back MidQ G GP QStep VStep CStep SStep Does Post Reads
set_option maxHeartbeats 4000000 in
theorem fnext_ {H : HP} (b : Nat) (f : Fm) (hf : f.On H) (key : ByteArray) : Does Tryz.prog 62 [ptr b, .string key] [f.row b, Pile H] (X := Unit) (fun _ => (f.next key).1) (fun _ => [(f.next key).2.row b, Pile H]) (fun _ => True) := by
  obtain ⟨p, c, ps, bad⟩ := f
  obtain ⟨h1, h2, h3, h4⟩ := hf
  dsimp only at h1 h2 h3 h4
  cases bad with
  | true =>
    have en : (⟨p, c, ps, true⟩ : Fm).next key = (.nilIface, ⟨p, c, ps, true⟩) := by cases ps <;> rfl
    rw [en]
    dsimp only [Fm.row]
    refine fn_intro Tryz.func62 rfl Tryz.ntmps62 rfl (by simp only [argFr, Nat.zero_add, Nat.reduceAdd]; rfl) (fun Γ => ?_)
    repeat (first
      | (refine g_ops ?_; first | refine sO ?_ | refine s_n (fun _ => ?_) | refine s_app (fun _ _ => ?_) | refine s_b0 (fun _ => ?_) | ((fail_if_success refine g_lit rfl rfl rfl ?_); first | apply g_partM rfl rfl rfl | apply g_partMB rfl rfl rfl | fail))
      | refine gS ?_ | exact s_m | intro _)
    exact gR () trivial
  | false =>
    cases ps with
    | nil =>
      have en : (⟨p, c, [], false⟩ : Fm).next key = (.nilIface, ⟨p, c, [], true⟩) := rfl
      rw [en]
      dsimp only [Fm.row]
      refine fn_intro Tryz.func62 rfl Tryz.ntmps62 rfl (by simp only [argFr, Nat.zero_add, Nat.reduceAdd]; rfl) (fun Γ => ?_)
      repeat (first
        | (refine g_ops ?_; first | refine sO ?_ | refine s_n (fun _ => ?_) | refine s_app (fun _ _ => ?_) | refine s_b0 (fun _ => ?_) | ((fail_if_success refine g_lit rfl rfl rfl ?_); first | apply g_partM rfl rfl rfl | apply g_partMB rfl rfl rfl | fail))
        | refine gS ?_ | exact s_m | intro _)
      exact gR () trivial
    | cons q r =>
      obtain ⟨rb, ro, rfl, hr0⟩ := slAt_elem h1 Pr.len (by decide) (i := 0) (a := q) rfl
      have hvi := h4 q (by simp)
      have en : (⟨some ⟨rb, ro, none⟩, c, q :: r, false⟩ : Fm).next key = if q.k = key then (q.v, ⟨if c = 1 then some ⟨rb, ro, none⟩ else some ⟨rb, ro + 2, none⟩, c - 1, r, false⟩) else (.nilIface, ⟨some ⟨rb, ro, none⟩, c, q :: r, true⟩) := by
        unfold Fm.next
        by_cases h : q.k = key
        · simp [h, Fm.tail, Addr.add]
        · simp [h, Fm.spoil]
      rw [en]
      obtain ⟨qk, qv⟩ := q
      dsimp only at hvi h2 h3 ⊢
      have hl : r.length + 1 ≤ c := by simpa using h3
      have hr : ∀ a, a = ro + 0 * 2 + 0 → Reads (Pile H) ⟨rb, a, none⟩ (.string qk) := fun a e => by have := hr0 0 _ rfl; rw [e]; exact this
      have hr2 : ∀ a, a = ro + 0 * 2 + 1 → Reads (Pile H) ⟨rb, a, none⟩ qv := fun a e => by have := hr0 1 _ rfl; rw [e]; exact this
      by_cases h : qk = key
      · rw [if_pos h]
        dsimp only [Fm.row]
        simp only [List.length_cons] at hl ⊢
        refine fn_intro Tryz.func62 rfl Tryz.ntmps62 rfl (by simp only [argFr, Nat.zero_add, Nat.reduceAdd]; rfl) (fun Γ => ?_)
        repeat (first
          | (refine g_ops ?_; first | refine sO ?_ | refine s_n (fun _ => ?_) | refine s_app (fun _ _ => ?_) | refine s_b0 (fun _ => ?_) | ((fail_if_success refine g_lit rfl rfl rfl ?_); first | apply g_partM rfl rfl rfl | apply g_partMB rfl rfl rfl | fail))
          | refine gS ?_ | exact s_m | intro _)
        have e0 : decide (qk ≠ key) = false := decide_eq_false (fun e => e h)
        rw [e0]
        rcases hvi with rfl | ⟨t, u, rfl⟩
        · repeat (first
            | (refine g_ops ?_; first | refine sO ?_ | refine s_n (fun _ => ?_) | refine s_app (fun _ _ => ?_) | refine s_b0 (fun _ => ?_) | ((fail_if_success refine g_lit rfl rfl rfl ?_); first | apply g_partM rfl rfl rfl | apply g_partMB rfl rfl rfl | fail))
            | refine gS ?_ | exact s_m | intro _)
          refine s_q (q := by exact qs_slice (l := 1) (h := r.length + 1) inferInstance inferInstance rfl (.some rfl rfl) .none (by omega) hl) ?_
          repeat (first
            | (refine g_ops ?_; first | refine sO ?_ | refine s_n (fun _ => ?_) | refine s_app (fun _ _ => ?_) | refine s_b0 (fun _ => ?_) | ((fail_if_success refine g_lit rfl rfl rfl ?_); first | apply g_partM rfl rfl rfl | apply g_partMB rfl rfl rfl | fail))
            | refine gS ?_ | exact s_m | intro _)
          exact gR () trivial
        · repeat (first
            | (refine g_ops ?_; first | refine sO ?_ | refine s_n (fun _ => ?_) | refine s_app (fun _ _ => ?_) | refine s_b0 (fun _ => ?_) | ((fail_if_success refine g_lit rfl rfl rfl ?_); first | apply g_partM rfl rfl rfl | apply g_partMB rfl rfl rfl | fail))
            | refine gS ?_ | exact s_m | intro _)
          refine s_q (q := by exact qs_slice (l := 1) (h := r.length + 1) inferInstance inferInstance rfl (.some rfl rfl) .none (by omega) hl) ?_
          repeat (first
            | (refine g_ops ?_; first | refine sO ?_ | refine s_n (fun _ => ?_) | refine s_app (fun _ _ => ?_) | refine s_b0 (fun _ => ?_) | ((fail_if_success refine g_lit rfl rfl rfl ?_); first | apply g_partM rfl rfl rfl | apply g_partMB rfl rfl rfl | fail))
            | refine gS ?_ | exact s_m | intro _)
          exact gR () trivial
      · rw [if_neg h]
        dsimp only [Fm.row]
        simp only [List.length_cons] at hl ⊢
        refine fn_intro Tryz.func62 rfl Tryz.ntmps62 rfl (by simp only [argFr, Nat.zero_add, Nat.reduceAdd]; rfl) (fun Γ => ?_)
        repeat (first
          | (refine g_ops ?_; first | refine sO ?_ | refine s_n (fun _ => ?_) | refine s_app (fun _ _ => ?_) | refine s_b0 (fun _ => ?_) | ((fail_if_success refine g_lit rfl rfl rfl ?_); first | apply g_partM rfl rfl rfl | apply g_partMB rfl rfl rfl | fail))
          | refine gS ?_ | exact s_m | intro _)
        have e0 : decide (qk ≠ key) = true := decide_eq_true h
        rw [e0]
        repeat (first
          | (refine g_ops ?_; first | refine sO ?_ | refine s_n (fun _ => ?_) | refine s_app (fun _ _ => ?_) | refine s_b0 (fun _ => ?_) | ((fail_if_success refine g_lit rfl rfl rfl ?_); first | apply g_partM rfl rfl rfl | apply g_partMB rfl rfl rfl | fail))
          | refine gS ?_ | exact s_m | intro _)
        exact gR () trivial
set_option maxHeartbeats 4000000 in
theorem fint_yes {H : HP} (b : Nat) (f : Fm) (hf : f.On H) (key : ByteArray) (n : Int) (he : (f.next key).1 = .iface 3 (int n)) : Does Tryz.prog 61 [ptr b, .string key] [f.row b, Pile H] (X := Unit) (fun _ => int n) (fun _ => [(f.next key).2.row b, Pile H]) (fun _ => True) := by
  have hn := fnext_ b f hf key
  rw [he] at hn
  generalize (f.next key).2 = f2 at hn ⊢
  obtain ⟨p, c, ps, bad⟩ := f2
  dsimp only [Fm.row] at hn ⊢
  cases bad with
  | true =>
    refine fn_intro Tryz.func61 rfl Tryz.ntmps61 rfl (by simp only [argFr, Nat.zero_add, Nat.reduceAdd]; rfl) (fun Γ => ?_)
    repeat (first
      | (refine g_ops ?_; first | refine sO ?_ | refine s_n (fun _ => ?_) | refine s_app (fun _ _ => ?_) | refine s_b0 (fun _ => ?_) | ((fail_if_success refine g_lit rfl rfl rfl ?_); first | apply g_partM rfl rfl rfl | apply g_partMB rfl rfl rfl | fail) | refine s_c (hn) (fun _ _ => ?_))
      | refine gS ?_ | exact s_m | intro _)
    exact gR () trivial
  | false =>
    refine fn_intro Tryz.func61 rfl Tryz.ntmps61 rfl (by simp only [argFr, Nat.zero_add, Nat.reduceAdd]; rfl) (fun Γ => ?_)
    repeat (first
      | (refine g_ops ?_; first | refine sO ?_ | refine s_n (fun _ => ?_) | refine s_app (fun _ _ => ?_) | refine s_b0 (fun _ => ?_) | ((fail_if_success refine g_lit rfl rfl rfl ?_); first | apply g_partM rfl rfl rfl | apply g_partMB rfl rfl rfl | fail) | refine s_c (hn) (fun _ _ => ?_))
      | refine gS ?_ | exact s_m | intro _)
    exact gR () trivial
set_option maxHeartbeats 4000000 in
theorem fint_no {H : HP} (b : Nat) (f : Fm) (hf : f.On H) (key : ByteArray) (he : Other 3 (f.next key).1) : Does Tryz.prog 61 [ptr b, .string key] [f.row b, Pile H] (X := Unit) (fun _ => int 0) (fun _ => [(f.next key).2.spoil.row b, Pile H]) (fun _ => True) := by
  have hn := fnext_ b f hf key
  generalize (f.next key).1 = x at hn he
  generalize (f.next key).2 = f2 at hn ⊢
  obtain ⟨p, c, ps, bad⟩ := f2
  dsimp only [Fm.row, Fm.spoil] at hn ⊢
  rcases he with rfl | ⟨t, v, rfl, ne⟩
  · cases bad with
    | true =>
      refine fn_intro Tryz.func61 rfl Tryz.ntmps61 rfl (by simp only [argFr, Nat.zero_add, Nat.reduceAdd]; rfl) (fun Γ => ?_)
      repeat (first
        | (refine g_ops ?_; first | refine sO ?_ | refine s_n (fun _ => ?_) | refine s_app (fun _ _ => ?_) | refine s_b0 (fun _ => ?_) | ((fail_if_success refine g_lit rfl rfl rfl ?_); first | apply g_partM rfl rfl rfl | apply g_partMB rfl rfl rfl | fail) | refine s_c (hn) (fun _ _ => ?_))
        | refine gS ?_ | exact s_m | intro _)
      exact gR () trivial
    | false =>
      refine fn_intro Tryz.func61 rfl Tryz.ntmps61 rfl (by simp only [argFr, Nat.zero_add, Nat.reduceAdd]; rfl) (fun Γ => ?_)
      repeat (first
        | (refine g_ops ?_; first | refine sO ?_ | refine s_n (fun _ => ?_) | refine s_app (fun _ _ => ?_) | refine s_b0 (fun _ => ?_) | ((fail_if_success refine g_lit rfl rfl rfl ?_); first | apply g_partM rfl rfl rfl | apply g_partMB rfl rfl rfl | fail) | refine s_c (hn) (fun _ _ => ?_))
        | refine gS ?_ | exact s_m | intro _)
      exact gR () trivial
  · cases bad with
    | true =>
      refine fn_intro Tryz.func61 rfl Tryz.ntmps61 rfl (by simp only [argFr, Nat.zero_add, Nat.reduceAdd]; rfl) (fun Γ => ?_)
      repeat (first
        | (refine g_ops ?_; first | refine sO ?_ | refine s_n (fun _ => ?_) | refine s_app (fun _ _ => ?_) | refine s_b0 (fun _ => ?_) | ((fail_if_success refine g_lit rfl rfl rfl ?_); first | apply g_partM rfl rfl rfl | apply g_partMB rfl rfl rfl | fail) | refine s_c (hn) (fun _ _ => ?_))
        | refine gS ?_ | exact s_m | intro _)
      exact gR () trivial
    | false =>
      refine fn_intro Tryz.func61 rfl Tryz.ntmps61 rfl (by simp only [argFr, Nat.zero_add, Nat.reduceAdd]; rfl) (fun Γ => ?_)
      repeat (first
        | (refine g_ops ?_; first | refine sO ?_ | refine s_n (fun _ => ?_) | refine s_app (fun _ _ => ?_) | refine s_b0 (fun _ => ?_) | ((fail_if_success refine g_lit rfl rfl rfl ?_); first | apply g_partM rfl rfl rfl | apply g_partMB rfl rfl rfl | fail) | refine s_c (hn) (fun _ _ => ?_))
        | refine gS ?_ | exact s_m | intro _)
      exact gR () trivial
set_option maxHeartbeats 4000000 in
theorem ftext_yes {H : HP} (b : Nat) (f : Fm) (hf : f.On H) (key : ByteArray) (n : ByteArray) (he : (f.next key).1 = .iface 9 (.string n)) : Does Tryz.prog 60 [ptr b, .string key] [f.row b, Pile H] (X := Unit) (fun _ => .string n) (fun _ => [(f.next key).2.row b, Pile H]) (fun _ => True) := by
  have hn := fnext_ b f hf key
  rw [he] at hn
  generalize (f.next key).2 = f2 at hn ⊢
  obtain ⟨p, c, ps, bad⟩ := f2
  dsimp only [Fm.row] at hn ⊢
  cases bad with
  | true =>
    refine fn_intro Tryz.func60 rfl Tryz.ntmps60 rfl (by simp only [argFr, Nat.zero_add, Nat.reduceAdd]; rfl) (fun Γ => ?_)
    repeat (first
      | (refine g_ops ?_; first | refine sO ?_ | refine s_n (fun _ => ?_) | refine s_app (fun _ _ => ?_) | refine s_b0 (fun _ => ?_) | ((fail_if_success refine g_lit rfl rfl rfl ?_); first | apply g_partM rfl rfl rfl | apply g_partMB rfl rfl rfl | fail) | refine s_c (hn) (fun _ _ => ?_))
      | refine gS ?_ | exact s_m | intro _)
    exact gR () trivial
  | false =>
    refine fn_intro Tryz.func60 rfl Tryz.ntmps60 rfl (by simp only [argFr, Nat.zero_add, Nat.reduceAdd]; rfl) (fun Γ => ?_)
    repeat (first
      | (refine g_ops ?_; first | refine sO ?_ | refine s_n (fun _ => ?_) | refine s_app (fun _ _ => ?_) | refine s_b0 (fun _ => ?_) | ((fail_if_success refine g_lit rfl rfl rfl ?_); first | apply g_partM rfl rfl rfl | apply g_partMB rfl rfl rfl | fail) | refine s_c (hn) (fun _ _ => ?_))
      | refine gS ?_ | exact s_m | intro _)
    exact gR () trivial
set_option maxHeartbeats 4000000 in
theorem ftext_no {H : HP} (b : Nat) (f : Fm) (hf : f.On H) (key : ByteArray) (he : Other 9 (f.next key).1) : Does Tryz.prog 60 [ptr b, .string key] [f.row b, Pile H] (X := Unit) (fun _ => .string ByteArray.empty) (fun _ => [(f.next key).2.spoil.row b, Pile H]) (fun _ => True) := by
  have hn := fnext_ b f hf key
  generalize (f.next key).1 = x at hn he
  generalize (f.next key).2 = f2 at hn ⊢
  obtain ⟨p, c, ps, bad⟩ := f2
  dsimp only [Fm.row, Fm.spoil] at hn ⊢
  rcases he with rfl | ⟨t, v, rfl, ne⟩
  · cases bad with
    | true =>
      refine fn_intro Tryz.func60 rfl Tryz.ntmps60 rfl (by simp only [argFr, Nat.zero_add, Nat.reduceAdd]; rfl) (fun Γ => ?_)
      repeat (first
        | (refine g_ops ?_; first | refine sO ?_ | refine s_n (fun _ => ?_) | refine s_app (fun _ _ => ?_) | refine s_b0 (fun _ => ?_) | ((fail_if_success refine g_lit rfl rfl rfl ?_); first | apply g_partM rfl rfl rfl | apply g_partMB rfl rfl rfl | fail) | refine s_c (hn) (fun _ _ => ?_))
        | refine gS ?_ | exact s_m | intro _)
      exact gR () trivial
    | false =>
      refine fn_intro Tryz.func60 rfl Tryz.ntmps60 rfl (by simp only [argFr, Nat.zero_add, Nat.reduceAdd]; rfl) (fun Γ => ?_)
      repeat (first
        | (refine g_ops ?_; first | refine sO ?_ | refine s_n (fun _ => ?_) | refine s_app (fun _ _ => ?_) | refine s_b0 (fun _ => ?_) | ((fail_if_success refine g_lit rfl rfl rfl ?_); first | apply g_partM rfl rfl rfl | apply g_partMB rfl rfl rfl | fail) | refine s_c (hn) (fun _ _ => ?_))
        | refine gS ?_ | exact s_m | intro _)
      exact gR () trivial
  · cases bad with
    | true =>
      refine fn_intro Tryz.func60 rfl Tryz.ntmps60 rfl (by simp only [argFr, Nat.zero_add, Nat.reduceAdd]; rfl) (fun Γ => ?_)
      repeat (first
        | (refine g_ops ?_; first | refine sO ?_ | refine s_n (fun _ => ?_) | refine s_app (fun _ _ => ?_) | refine s_b0 (fun _ => ?_) | ((fail_if_success refine g_lit rfl rfl rfl ?_); first | apply g_partM rfl rfl rfl | apply g_partMB rfl rfl rfl | fail) | refine s_c (hn) (fun _ _ => ?_))
        | refine gS ?_ | exact s_m | intro _)
      exact gR () trivial
    | false =>
      refine fn_intro Tryz.func60 rfl Tryz.ntmps60 rfl (by simp only [argFr, Nat.zero_add, Nat.reduceAdd]; rfl) (fun Γ => ?_)
      repeat (first
        | (refine g_ops ?_; first | refine sO ?_ | refine s_n (fun _ => ?_) | refine s_app (fun _ _ => ?_) | refine s_b0 (fun _ => ?_) | ((fail_if_success refine g_lit rfl rfl rfl ?_); first | apply g_partM rfl rfl rfl | apply g_partMB rfl rfl rfl | fail) | refine s_c (hn) (fun _ _ => ?_))
        | refine gS ?_ | exact s_m | intro _)
      exact gR () trivial
end Go.Proofs.YtaahibcibgljbaaGreatDoor

namespace Go.Sl
theorem slAt_slice {C : Chunk} {n m a c : Nat} {p : Option Addr} {news : List Value} (h : SlAt C n p m news) (h0 : 0 < a) (hn : 0 < n) (ham : a ≤ m) (hc : m ≤ c) : SlAt C n (if c = a then p else p.map (·.add (a * n))) (m - a) (news.drop (a * n)) := by
  by_cases e : c = a
  · rw [if_pos e]
    have em : m - a = 0 := by omega
    have en : news.drop (a * n) = [] := List.drop_eq_nil_of_le (by rw [h.len]; exact Nat.mul_le_mul_right _ (by omega))
    rw [em, en]
    exact ⟨by simp, rfl, fun _ => rfl, fun j v hv => by simp at hv⟩
  · rw [if_neg e]
    obtain ⟨v, hv⟩ : ∃ v, news[0]? = some v := by
      have : 0 < news.length := by rw [h.len]; exact Nat.mul_pos (by omega) hn
      exact ⟨_, List.getElem?_eq_getElem this⟩
    obtain ⟨b, o, rfl, _⟩ := h.reads 0 v hv
    have := slAt_end h ham
    have hz : ¬ a * n = 0 := by
      have : 0 < a * n := Nat.mul_pos h0 hn
      omega
    simpa [Addr.add, hz] using this
def As (ty : TypeId) (z w r : Value) (ok : Bool) : Prop := (w = .iface ty r ∧ ok = true) ∨ ((w = .nilIface ∨ ∃ t v, w = .iface t v ∧ Nat.beq t ty = false) ∧ r = z ∧ ok = false)
theorem qs_assertA {P : Program} {Γ : Ctx} {fr : Fr} {d : Nat} {at_ xt ty : TypeId} {pos : String} {aft : Array Edge} {gd : Option (Nat × Bool)} {x : Operand} {td : TypeDesc} {z w r : Value} {ok : Bool} (h : As at_ z w r ok) (D : TDesc P at_ td) (hi : ifaceD td = false) (Zr : TZero P at_ z) (hx : ev fr x = some w) : QStep P Γ fr ⟨some d, .typeAssert x xt at_ true, ty, pos, aft, gd⟩ (.tuple #[r, .bool ok]) := by
  rcases h with ⟨rfl, rfl⟩ | ⟨rfl | ⟨t, v, rfl, ne⟩, rfl, rfl⟩
  · exact qs_assertYes D hi hx
  · exact qs_assertNil D hi Zr hx
  · exact qs_assertNo D hi Zr hx ne
end Go.Sl
namespace Go.Proofs.YtaahibcibgljbaaGreatDoor
open Go.Sl facts
theorem TAt.txt {H : HP} {x : V} {w : Value} (h : TAt H x w) : (w = .iface 9 (.string x.s) ∧ x.kind = 4 ∧ x.s.size ≤ 9223372036854775807) ∨ (Other 9 w ∧ x.kind ≠ 4) := by
  cases h with
  | nil => exact .inr ⟨.inl rfl, by simp [V.kind]⟩
  | bool => exact .inr ⟨.inr ⟨_, _, rfl, rfl⟩, by simp [V.kind]⟩
  | int => exact .inr ⟨.inr ⟨_, _, rfl, rfl⟩, by simp [V.kind]⟩
  | text h => exact .inl ⟨rfl, rfl, h⟩
  | list => exact .inr ⟨.inr ⟨_, _, rfl, rfl⟩, by simp [V.kind]⟩
  | pairs => exact .inr ⟨.inr ⟨_, _, rfl, rfl⟩, by simp [V.kind]⟩
  | other hk h1 h2 h3 => exact .inr ⟨.inr ⟨_, _, rfl, h3⟩, by simp only [V.kind]; omega⟩
theorem TAt.num {H : HP} {x : V} {w : Value} (h : TAt H x w) : (w = .iface 3 (.int .i64 x.n) ∧ x.kind = 3 ∧ -9223372036854775808 ≤ x.n ∧ x.n ≤ 9223372036854775807) ∨ (Other 3 w ∧ x.kind ≠ 3) := by
  cases h with
  | nil => exact .inr ⟨.inl rfl, by simp [V.kind]⟩
  | bool => exact .inr ⟨.inr ⟨_, _, rfl, rfl⟩, by simp [V.kind]⟩
  | int h => exact .inl ⟨rfl, rfl, h⟩
  | text => exact .inr ⟨.inr ⟨_, _, rfl, rfl⟩, by simp [V.kind]⟩
  | list => exact .inr ⟨.inr ⟨_, _, rfl, rfl⟩, by simp [V.kind]⟩
  | pairs => exact .inr ⟨.inr ⟨_, _, rfl, rfl⟩, by simp [V.kind]⟩
  | other hk h1 h2 h3 => exact .inr ⟨.inr ⟨_, _, rfl, h2⟩, by simp only [V.kind]; omega⟩
structure LAt (H : HP) (x : V) (p : Option Addr) (c : Nat) (vs : List Value) : Prop where
  k : x.kind = 5
  l : vs.length = x.kids.length
  b : x.kids.length ≤ 9223372036854775807
  c : x.kids.length ≤ c
  s : SlAt (Pile H) 1 p x.kids.length vs
  h : ∀ (i : Nat) a w, x.kids[i]? = some a → vs[i]? = some w → TAt H a w
theorem TAt.lst {H : HP} {x : V} {w : Value} (h : TAt H x w) : (∃ p c vs, w = .iface 105 (.slice p x.kids.length c) ∧ LAt H x p c vs) ∨ (Other 105 w ∧ x.kind ≠ 5) := by
  cases h with
  | nil => exact .inr ⟨.inl rfl, by simp [V.kind]⟩
  | bool => exact .inr ⟨.inr ⟨_, _, rfl, rfl⟩, by simp [V.kind]⟩
  | int => exact .inr ⟨.inr ⟨_, _, rfl, rfl⟩, by simp [V.kind]⟩
  | text => exact .inr ⟨.inr ⟨_, _, rfl, rfl⟩, by simp [V.kind]⟩
  | list vs hv hl hS h => exact .inl ⟨_, _, vs, rfl, rfl, hv, hl.1, hl.2, hS, h⟩
  | pairs => exact .inr ⟨.inr ⟨_, _, rfl, rfl⟩, by simp [V.kind]⟩
  | other hk h1 h2 h3 h4 => exact .inr ⟨.inr ⟨_, _, rfl, h4⟩, by simp only [V.kind]; omega⟩
structure PtD where
  st : ByteArray
  exp : Int
  data : List ByteArray
structure Pt where
  st : ByteArray
  exp : Int
  dp : Option Addr
  dc : Nat
  data : List ByteArray
abbrev Pt.cells (x : Pt) : List Value := [.string x.st, .int .i64 x.exp, .slice x.dp x.data.length x.dc]
def Pt.d (x : Pt) : PtD := ⟨x.st, x.exp, x.data⟩
structure PtAt (C : Chunk) (x : Pt) : Prop where
  at_ : SlAt C 1 x.dp x.data.length (x.data.map Value.string)
  len : x.data.length ≤ 1000000000
theorem PtAt.grow {H H' : HP} {x : Pt} (h : PtAt (Pile H) x) (s : HP.sub H H') : PtAt (Pile H') x := ⟨h.at_.grow s, h.len⟩
def strV (x : V) : ByteArray := if x.kind = 4 then x.s else ByteArray.empty
def numV (x : V) : Int := if x.kind = 3 then x.n else 0
theorem TAt.asS {H : HP} {x : V} {w : Value} (h : TAt H x w) : As 9 (.string ByteArray.empty) w (.string (strV x)) (decide (x.kind = 4)) := by
  unfold strV
  rcases h.txt with ⟨rfl, hk, _⟩ | ⟨ho, hk⟩
  · exact .inl ⟨by rw [if_pos hk], decide_eq_true hk⟩
  · exact .inr ⟨ho, by rw [if_neg hk], decide_eq_false hk⟩
theorem int1 {H : HP} {x : V} {w : Value} (h : TAt H x w) : Does1 Tryz.prog 14 [w] [] (.tuple #[int (numV x), .bool (decide (x.kind = 3))]) := by
  unfold numV
  rcases h.num with ⟨rfl, hk, _⟩ | ⟨ho, hk⟩
  · rw [if_pos hk, decide_eq_true hk]; exact int_yes _
  · rw [if_neg hk, decide_eq_false hk]; exact int_no ho
def putV (v : V) : Option PtD := match v.kids with
  | a :: b :: r => if v.kind = 5 ∧ a.kind = 4 ∧ b.kind = 3 ∧ ∀ x ∈ r, x.kind = 4 then some ⟨a.s, b.n, r.map V.s⟩ else none
  | _ => none
attribute [local irreducible] Code.wp wpList Exit.then Exit.inBlock bodyPost Back MidQ G GP QStep VStep CStep SStep Does Post Reads
structure PuS where
  k : Nat
  q : Option Addr
  c : Nat
set_option maxHeartbeats 8000000 in
theorem put1 {H : HP} (v : V) (w : Value) (hw : TAt H v w) (hz : v.kids.length ≤ 1000000000) : Does Tryz.prog 82 [w] [Pile H] (X := HP × Pt) (fun y => .tuple #[.agg y.2.cells.toArray, .bool (putV v).isSome]) (fun y => [Pile y.1]) (fun y => HP.sub H y.1 ∧ PtAt (Pile y.1) y.2 ∧ ∀ d, putV v = some d → y.2.d = d) := by
  rcases hw.lst with ⟨p, c, vs, rfl, hL⟩ | ⟨ho, hk⟩
  · obtain ⟨hk, hvl, _, hc, hS, hA⟩ := hL
    match hkids : v.kids, hvl with
    | [], hvl =>
      have e : putV v = none := by unfold putV; rw [hkids]
      rw [e]
      rw [hkids] at hc hS
      refine fn_intro Tryz.func82 rfl Tryz.ntmps82 rfl (by simp only [argFr, Nat.zero_add, Nat.reduceAdd]; rfl) (fun Γ => ?_)
      repeat (first
        | (refine g_ops ?_; first | refine sO ?_ | refine s_n (fun _ => ?_) | refine s_app (fun _ _ => ?_) | refine s_b0 (fun _ => ?_) | ((fail_if_success refine g_lit rfl rfl rfl ?_); first | apply g_partM rfl rfl rfl | apply g_partMB rfl rfl rfl | fail))
        | refine gS ?_ | exact s_m | intro _)
      exact gR (H, ⟨ByteArray.empty, 0, none, 0, []⟩) ⟨HP.sub.refl _, ⟨SlAt.none, by simp⟩, fun d h => by cases h⟩
    | [a], hvl =>
      have e : putV v = none := by unfold putV; rw [hkids]
      rw [e]
      rw [hkids] at hc hS
      refine fn_intro Tryz.func82 rfl Tryz.ntmps82 rfl (by simp only [argFr, Nat.zero_add, Nat.reduceAdd]; rfl) (fun Γ => ?_)
      repeat (first
        | (refine g_ops ?_; first | refine sO ?_ | refine s_n (fun _ => ?_) | refine s_app (fun _ _ => ?_) | refine s_b0 (fun _ => ?_) | ((fail_if_success refine g_lit rfl rfl rfl ?_); first | apply g_partM rfl rfl rfl | apply g_partMB rfl rfl rfl | fail))
        | refine gS ?_ | exact s_m | intro _)
      exact gR (H, ⟨ByteArray.empty, 0, none, 0, []⟩) ⟨HP.sub.refl _, ⟨SlAt.none, by simp⟩, fun d h => by cases h⟩
    | a :: b :: r, hvl =>
      rw [hkids] at hc hS hz
      match vs, hvl with
      | wa :: wb :: wr, hvl =>
        have hwr : wr.length = r.length := by simpa using hvl
        have hta := hA 0 a wa (by rw [hkids]; rfl) rfl
        have htb := hA 1 b wb (by rw [hkids]; rfl) rfl
        have htr : ∀ (i : Nat) x w, r[i]? = some x → wr[i]? = some w → TAt H x w := fun i x w h1 h2 => hA (i + 2) x w (by rw [hkids]; simpa using h1) (by simpa using h2)
        have hi1 := int1 htb
        have hS2 := slAt_slice (a := 2) hS (by decide) (by decide) (by simp) hc
        obtain ⟨pb, po, rfl, hr0⟩ := slAt_cell hS (i := 0) (v := wa) rfl
        obtain ⟨_, _, epp, hr1⟩ := slAt_cell hS (i := 1) (v := wb) rfl
        simp only [Option.some.injEq, Addr.mk.injEq, and_true] at epp
        obtain ⟨rfl, rfl⟩ := epp
        have hr : ∀ k, k = po → Reads (Pile H) ⟨pb, k, none⟩ wa := fun k e => by rw [e]; exact hr0
        have hr2 : ∀ k, k = po + 1 → Reads (Pile H) ⟨pb, k, none⟩ wb := fun k e => by rw [e]; exact hr1
        simp only [List.length_cons] at hc hS2 hz ⊢
        have hlen2 : r.length + 1 + 1 - 2 = r.length := by omega
        rw [hlen2] at hS2
        have hS3 : SlAt (Pile H) 1 (if c = 2 then some ⟨pb, po, none⟩ else (some (⟨pb, po, none⟩ : Addr)).map (·.add (2 * 1))) r.length wr := hS2
        clear hS2
        have hpv : putV v = if v.kind = 5 ∧ a.kind = 4 ∧ b.kind = 3 ∧ ∀ x ∈ r, x.kind = 4 then some ⟨a.s, b.n, r.map V.s⟩ else none := by unfold putV; rw [hkids]
        have hps : (putV v).isSome = (decide (a.kind = 4) && decide (b.kind = 3) && r.all (fun y => decide (y.kind = 4))) := by
          rw [hpv]
          rw [Bool.eq_iff_iff]
          split
          · rename_i h; simpa using ⟨⟨h.2.1, h.2.2.1⟩, h.2.2.2⟩
          · rename_i h
            simp only [Option.isSome_none, Bool.false_eq_true, Bool.and_eq_true, decide_eq_true_eq, List.all_eq_true, false_iff]
            exact fun h' => h ⟨hk, h'.1.1, h'.1.2, h'.2⟩
        rw [hps]
        refine fn_intro Tryz.func82 rfl Tryz.ntmps82 rfl (by simp only [argFr, Nat.zero_add, Nat.reduceAdd]; rfl) (fun Γ => ?_)
        repeat (first
          | (refine g_ops ?_; first | refine sO ?_ | refine s_n (fun _ => ?_) | refine s_app (fun _ _ => ?_) | refine s_b0 (fun _ => ?_) | ((fail_if_success refine g_lit rfl rfl rfl ?_); first | apply g_partM rfl rfl rfl | apply g_partMB rfl rfl rfl | fail))
          | refine gS ?_ | exact s_m | intro _)
        refine s_q (q := by exact qs_assertA hta.asS inferInstance rfl inferInstance rfl) ?_
        repeat ((fail_if_success refine s_at 8 ?_); first
          | (refine g_ops ?_; first | refine sO ?_ | refine s_n (fun _ => ?_) | refine s_app (fun _ _ => ?_) | refine s_b0 (fun _ => ?_) | ((fail_if_success refine g_lit rfl rfl rfl ?_); first | apply g_partM rfl rfl rfl | apply g_partMB rfl rfl rfl | fail) | refine s_k (hi1) ?_)
          | refine gS ?_ | exact s_m | intro _)
        repeat (first | (refine g_ops ?_; first | refine sO ?_) | refine g_nil ?_ | refine g_then_normal ?_ | refine g_seq ?_)
        rename_i sb
        refine g_cutX (X := Unit) (fun _ => [(3, .bool (decide (a.kind = 4) && decide (b.kind = 3))), (4, .slice (some ⟨pb, po, none⟩) (r.length + 1 + 1) c), (2, ptr sb)]) (fun _ => [.row sb [.string (strV a), int (numV b), .slice none 0 0] 73, Pile H]) (fun _ => True) ?_ (fun _ _ => ?_)
        · cases decide (a.kind = 4) <;> cases decide (b.kind = 3)
          · repeat (first
              | (refine g_ops ?_; first | refine sO ?_ | refine s_n (fun _ => ?_) | refine s_app (fun _ _ => ?_) | refine s_b0 (fun _ => ?_) | ((fail_if_success refine g_lit rfl rfl rfl ?_); first | apply g_partM rfl rfl rfl | apply g_partMB rfl rfl rfl | fail))
              | refine gS ?_ | exact s_m | intro _)
            exact gM () trivial
          · repeat (first
              | (refine g_ops ?_; first | refine sO ?_ | refine s_n (fun _ => ?_) | refine s_app (fun _ _ => ?_) | refine s_b0 (fun _ => ?_) | ((fail_if_success refine g_lit rfl rfl rfl ?_); first | apply g_partM rfl rfl rfl | apply g_partMB rfl rfl rfl | fail))
              | refine gS ?_ | exact s_m | intro _)
            exact gM () trivial
          · repeat (first
              | (refine g_ops ?_; first | refine sO ?_ | refine s_n (fun _ => ?_) | refine s_app (fun _ _ => ?_) | refine s_b0 (fun _ => ?_) | ((fail_if_success refine g_lit rfl rfl rfl ?_); first | apply g_partM rfl rfl rfl | apply g_partMB rfl rfl rfl | fail))
              | refine gS ?_ | exact s_m | intro _)
            exact gM () trivial
          · repeat (first
              | (refine g_ops ?_; first | refine sO ?_ | refine s_n (fun _ => ?_) | refine s_app (fun _ _ => ?_) | refine s_b0 (fun _ => ?_) | ((fail_if_success refine g_lit rfl rfl rfl ?_); first | apply g_partM rfl rfl rfl | apply g_partMB rfl rfl rfl | fail))
              | refine gS ?_ | exact s_m | intro _)
            exact gM () trivial
        repeat (first
          | (refine g_ops ?_; first | refine sO ?_ | refine s_n (fun _ => ?_) | refine s_app (fun _ _ => ?_) | refine s_b0 (fun _ => ?_) | ((fail_if_success refine g_lit rfl rfl rfl ?_); first | apply g_partM rfl rfl rfl | apply g_partMB rfl rfl rfl | fail))
          | refine gS ?_ | exact s_m | intro _)
        refine s_q (q := by exact qs_slice (l := 2) (h := r.length + 1 + 1) inferInstance inferInstance rfl (.some rfl rfl) .none (by omega) hc) ?_
        rw [hlen2]
        generalize (if c = 2 then some ⟨pb, po, none⟩ else (some (⟨pb, po, none⟩ : Addr)).map (·.add (2 * 1))) = q3 at hS3 ⊢
        generalize c - 2 = c3
        repeat (first
          | (refine g_ops ?_; first | refine sO ?_ | refine s_n (fun _ => ?_) | refine s_app (fun _ _ => ?_) | refine s_b0 (fun _ => ?_) | ((fail_if_success refine g_lit rfl rfl rfl ?_); first | apply g_partM rfl rfl rfl | apply g_partMB rfl rfl rfl | fail))
          | refine gS ?_ | exact s_m | intro _)
        refine g_as 3 (v' := .bool (decide (a.kind = 4) && decide (b.kind = 3) && (r.take 0).all (fun y => decide (y.kind = 4)))) rfl (congrArg Value.bool (by simp)) ?_
        refine g_own_nil none 1 9 ?_
        refine g_loop (X := PuS) (fun x => [(3, .bool (decide (a.kind = 4) && decide (b.kind = 3) && (r.take x.k).all (fun y => decide (y.kind = 4)))), (2, ptr sb), (49, .slice q3 r.length c3), (50, int r.length), (51, int x.k)]) (fun x => [.own x.q x.k x.c 1 (((r.take x.k).map strV).map .string) 9, .row sb [.string (strV a), int (numV b), .slice x.q x.k x.c] 73, Pile H])
          (fun x => x.k ≤ r.length) (fun x => r.length - x.k) ⟨0, none, 0⟩ (Nat.zero_le _) (by (repeat (first | exact FrSub.nil | refine FrSub.cons rfl ?_)); first | done | fail) (by (repeat (first | exact Take.nil | apply Take.cons | exact Sel.here | apply Sel.there)); first | done | fail) (fun x hx => ?_)
        obtain ⟨k, q, c4⟩ := x
        dsimp only at hx ⊢
        repeat (first
          | (refine g_ops ?_; first | refine sO ?_ | refine s_n (fun _ => ?_) | refine s_app (fun _ _ => ?_) | refine s_b0 (fun _ => ?_) | ((fail_if_success refine g_lit rfl rfl rfl ?_); first | apply g_partM rfl rfl rfl | apply g_partMB rfl rfl rfl | fail))
          | refine gS ?_ | exact s_m | intro _)
        refine g_cond_dec rfl (fun h2 => ?_) (fun h2 => ?_)
        · have hk' : k < r.length := by omega
          have hgl : r[k]? = some r[k] := List.getElem?_eq_getElem hk'
          have hgw : wr[k]? = some (wr[k]'(by omega)) := List.getElem?_eq_getElem _
          have hat := htr k _ _ hgl hgw
          obtain ⟨b3, o3, rfl, hr3⟩ := slAt_cell hS3 hgw
          have htk : r.take (k + 1) = r.take k ++ [r[k]] := by rw [List.take_add_one, hgl]; rfl
          generalize r[k] = y at hat htk
          generalize wr[k]'_ = w at hat hr3
          have hr : ∀ k', k' = k → Reads (Pile H) ⟨b3, o3 + k', none⟩ w := fun _ e => e ▸ hr3
          repeat (first
            | (refine g_ops ?_; first | refine sO ?_ | refine s_n (fun _ => ?_) | refine s_app (fun _ _ => ?_) | refine s_b0 (fun _ => ?_) | ((fail_if_success refine g_lit rfl rfl rfl ?_); first | apply g_partM rfl rfl rfl | apply g_partMB rfl rfl rfl | fail))
            | refine gS ?_ | exact s_m | intro _)
          refine s_q (q := by exact qs_assertA hat.asS inferInstance rfl inferInstance rfl) ?_
          cases hX : (decide (a.kind = 4) && decide (b.kind = 3) && (r.take k).all (fun y => decide (y.kind = 4)))
          · repeat (first
              | (refine g_ops ?_; first | refine sO ?_ | refine s_n (fun _ => ?_) | refine s_app (fun _ _ => ?_) | refine s_b0 (fun _ => ?_) | ((fail_if_success refine g_lit rfl rfl rfl ?_); first | apply g_partM rfl rfl rfl | apply g_partMB rfl rfl rfl | fail))
              | refine gS ?_ | exact s_m | intro _)
            refine g_as 3 (v' := .bool (decide (a.kind = 4) && decide (b.kind = 3) && (r.take (k + 1)).all (fun y => decide (y.kind = 4)))) rfl (congrArg Value.bool (by rw [htk, List.all_append, ← Bool.and_assoc, hX]; simp)) ?_
            refine g_as 51 (v' := int ((k + 1 : Nat) : Int)) rfl (congrArg (Value.int .i64) (by push_cast; rfl)) ?_
            rw [show ((r.take k).map strV).map Value.string ++ [.string (strV y)] = ((r.take (k + 1)).map strV).map .string by rw [htk]; simp]
            rename_i q5 c5
            exact gA ⟨k + 1, q5, c5⟩ (by simp only; omega) hk'
          · repeat (first
              | (refine g_ops ?_; first | refine sO ?_ | refine s_n (fun _ => ?_) | refine s_app (fun _ _ => ?_) | refine s_b0 (fun _ => ?_) | ((fail_if_success refine g_lit rfl rfl rfl ?_); first | apply g_partM rfl rfl rfl | apply g_partMB rfl rfl rfl | fail))
              | refine gS ?_ | exact s_m | intro _)
            refine g_as 3 (v' := .bool (decide (a.kind = 4) && decide (b.kind = 3) && (r.take (k + 1)).all (fun y => decide (y.kind = 4)))) rfl (congrArg Value.bool (by rw [htk, List.all_append, ← Bool.and_assoc, hX]; simp)) ?_
            refine g_as 51 (v' := int ((k + 1 : Nat) : Int)) rfl (congrArg (Value.int .i64) (by push_cast; rfl)) ?_
            rw [show ((r.take k).map strV).map Value.string ++ [.string (strV y)] = ((r.take (k + 1)).map strV).map .string by rw [htk]; simp]
            rename_i q5 c5
            exact gA ⟨k + 1, q5, c5⟩ (by simp only; omega) hk'
        · obtain rfl : k = r.length := by omega
          rw [List.take_length]
          repeat (first
            | (refine g_ops ?_; first | refine sO ?_ | refine s_n (fun _ => ?_) | refine s_app (fun _ _ => ?_) | refine s_b0 (fun _ => ?_) | ((fail_if_success refine g_lit rfl rfl rfl ?_); first | apply g_partM rfl rfl rfl | apply g_partMB rfl rfl rfl | fail))
            | refine gS ?_ | exact s_m | intro _)
          obtain ⟨D, hD⟩ : ∃ D, D = r.map strV := ⟨_, rfl⟩
          have hDl : r.length = D.length := by rw [hD]; simp
          rw [← hD]
          refine g_pile (n := 1) (by (repeat (first | exact Sel.here | apply Sel.there)); first | done | fail) (by (repeat (first | exact Sel.here | apply Sel.there)); first | done | fail) (fun H2 hs2 hS2 => ?_)
          rw [hDl] at hS2 ⊢
          exact gR (H2, ⟨strV a, numV b, q, c4, D⟩) ⟨hs2, ⟨hS2, by dsimp only; omega⟩, fun d h => by
            rw [hpv] at h
            split at h
            · rename_i hc4
              cases h
              obtain ⟨_, h4, h3, hr4⟩ := hc4
              simp only [Pt.d, PtD.mk.injEq]
              refine ⟨by unfold strV; rw [if_pos h4], by unfold numV; rw [if_pos h3], ?_⟩
              rw [hD]
              exact List.map_congr_left fun x hx => by unfold strV; rw [if_pos (hr4 x hx)]
            · cases h⟩
  · have e : putV v = none := by unfold putV; split <;> simp [hk]
    rw [e]
    rcases ho with rfl | ⟨t, u, rfl, ne⟩
    · refine fn_intro Tryz.func82 rfl Tryz.ntmps82 rfl (by simp only [argFr, Nat.zero_add, Nat.reduceAdd]; rfl) (fun Γ => ?_)
      repeat (first
        | (refine g_ops ?_; first | refine sO ?_ | refine s_n (fun _ => ?_) | refine s_app (fun _ _ => ?_) | refine s_b0 (fun _ => ?_) | ((fail_if_success refine g_lit rfl rfl rfl ?_); first | apply g_partM rfl rfl rfl | apply g_partMB rfl rfl rfl | fail))
        | refine gS ?_ | exact s_m | intro _)
      exact gR (H, ⟨ByteArray.empty, 0, none, 0, []⟩) ⟨HP.sub.refl _, ⟨SlAt.none, by simp⟩, fun d h => by cases h⟩
    · refine fn_intro Tryz.func82 rfl Tryz.ntmps82 rfl (by simp only [argFr, Nat.zero_add, Nat.reduceAdd]; rfl) (fun Γ => ?_)
      repeat (first
        | (refine g_ops ?_; first | refine sO ?_ | refine s_n (fun _ => ?_) | refine s_app (fun _ _ => ?_) | refine s_b0 (fun _ => ?_) | ((fail_if_success refine g_lit rfl rfl rfl ?_); first | apply g_partM rfl rfl rfl | apply g_partMB rfl rfl rfl | fail))
        | refine gS ?_ | exact s_m | intro _)
      exact gR (H, ⟨ByteArray.empty, 0, none, 0, []⟩) ⟨HP.sub.refl _, ⟨SlAt.none, by simp⟩, fun d h => by cases h⟩
structure PsX where
  k : Nat
  bad : Bool
  q : Option Addr
  c : Nat
  pts : List Pt
  H : HP
def PtsOf (H : HP) (l : List V) (pts : List Pt) : Prop := pts.length = l.length ∧ (∀ x ∈ pts, PtAt (Pile H) x) ∧ ∀ (i : Nat) v x d, l[i]? = some v → pts[i]? = some x → putV v = some d → x.d = d
theorem PtsOf.grow {H H' : HP} {l : List V} {pts : List Pt} (h : PtsOf H l pts) (s : HP.sub H H') : PtsOf H' l pts := ⟨h.1, fun x hx => (h.2.1 x hx).grow s, h.2.2⟩
theorem PtsOf.snoc {H : HP} {l : List V} {pts : List Pt} (h : PtsOf H l pts) {v : V} {x : Pt} (hx : PtAt (Pile H) x) (hd : ∀ d, putV v = some d → x.d = d) : PtsOf H (l ++ [v]) (pts ++ [x]) := by
  obtain ⟨h1, h2, h3⟩ := h
  refine ⟨by simp [h1], fun y hy => ?_, fun i w y d e1 e2 e3 => ?_⟩
  · rcases List.mem_append.1 hy with hy | hy
    · exact h2 y hy
    · rw [List.mem_singleton] at hy; rw [hy]; exact hx
  · rcases Nat.lt_or_ge i l.length with hi | hi
    · rw [List.getElem?_append_left hi] at e1
      rw [List.getElem?_append_left (by omega)] at e2
      exact h3 i w y d e1 e2 e3
    · rw [List.getElem?_append_right hi] at e1
      rw [List.getElem?_append_right (by omega)] at e2
      have hi0 : i - l.length = 0 := by
        have := (List.getElem?_eq_some_iff.1 e1).1
        simp only [List.length_singleton] at this
        omega
      rw [hi0] at e1
      rw [h1, hi0] at e2
      cases e1; cases e2
      exact hd d e3
set_option maxHeartbeats 8000000 in
theorem puts_no {H : HP} (b : Nat) (f : Fm) (hf : f.On H) (key : ByteArray) (he : Other 105 (f.next key).1) : Does Tryz.prog 59 [ptr b, .string key] [f.row b, Pile H] (X := Unit) (fun _ => .slice none 0 0) (fun _ => [(f.next key).2.spoil.row b, Pile H]) (fun _ => True) := by
  have hn := fnext_ b f hf key
  generalize (f.next key).1 = x at hn he
  generalize (f.next key).2 = f2 at hn ⊢
  obtain ⟨p, c, ps, bad⟩ := f2
  dsimp only [Fm.row, Fm.spoil] at hn ⊢
  have ha : As 105 (.slice none 0 0) x (.slice none 0 0) false := .inr ⟨he, rfl, rfl⟩
  refine fn_intro Tryz.func59 rfl Tryz.ntmps59 rfl (by simp only [argFr, Nat.zero_add, Nat.reduceAdd]; rfl) (fun Γ => ?_)
  repeat (first
    | (refine g_ops ?_; first | refine sO ?_ | refine s_n (fun _ => ?_) | refine s_app (fun _ _ => ?_) | refine s_b0 (fun _ => ?_) | ((fail_if_success refine g_lit rfl rfl rfl ?_); first | apply g_partM rfl rfl rfl | apply g_partMB rfl rfl rfl | fail) | refine s_c (hn) (fun _ _ => ?_))
    | refine gS ?_ | exact s_m | intro _)
  refine s_q (q := by exact qs_assertA ha inferInstance rfl inferInstance rfl) ?_
  cases bad with
  | true =>
    repeat (first
      | (refine g_ops ?_; first | refine sO ?_ | refine s_n (fun _ => ?_) | refine s_app (fun _ _ => ?_) | refine s_b0 (fun _ => ?_) | ((fail_if_success refine g_lit rfl rfl rfl ?_); first | apply g_partM rfl rfl rfl | apply g_partMB rfl rfl rfl | fail))
      | refine gS ?_ | exact s_m | intro _)
    refine g_loop (X := Unit) (fun _ => [(0, ptr b), (4, .slice none 0 0), (29, .slice none 0 0), (30, int 0), (31, int 0)]) (fun _ => [.row b [.slice p ps.length c, .bool true] 93, Pile H]) (fun _ => True) (fun _ => 0) () trivial (by (repeat (first | exact FrSub.nil | refine FrSub.cons rfl ?_)); first | done | fail) (by (repeat (first | exact Take.nil | apply Take.cons | exact Sel.here | apply Sel.there)); first | done | fail) (fun _ _ => ?_)
    repeat (first
      | (refine g_ops ?_; first | refine sO ?_ | refine s_n (fun _ => ?_) | refine s_app (fun _ _ => ?_) | refine s_b0 (fun _ => ?_) | ((fail_if_success refine g_lit rfl rfl rfl ?_); first | apply g_partM rfl rfl rfl | apply g_partMB rfl rfl rfl | fail))
      | refine gS ?_ | exact s_m | intro _)
    exact gR () trivial
  | false =>
    repeat (first
      | (refine g_ops ?_; first | refine sO ?_ | refine s_n (fun _ => ?_) | refine s_app (fun _ _ => ?_) | refine s_b0 (fun _ => ?_) | ((fail_if_success refine g_lit rfl rfl rfl ?_); first | apply g_partM rfl rfl rfl | apply g_partMB rfl rfl rfl | fail))
      | refine gS ?_ | exact s_m | intro _)
    refine g_loop (X := Unit) (fun _ => [(0, ptr b), (4, .slice none 0 0), (29, .slice none 0 0), (30, int 0), (31, int 0)]) (fun _ => [.row b [.slice p ps.length c, .bool true] 93, Pile H]) (fun _ => True) (fun _ => 0) () trivial (by (repeat (first | exact FrSub.nil | refine FrSub.cons rfl ?_)); first | done | fail) (by (repeat (first | exact Take.nil | apply Take.cons | exact Sel.here | apply Sel.there)); first | done | fail) (fun _ _ => ?_)
    repeat (first
      | (refine g_ops ?_; first | refine sO ?_ | refine s_n (fun _ => ?_) | refine s_app (fun _ _ => ?_) | refine s_b0 (fun _ => ?_) | ((fail_if_success refine g_lit rfl rfl rfl ?_); first | apply g_partM rfl rfl rfl | apply g_partMB rfl rfl rfl | fail))
      | refine gS ?_ | exact s_m | intro _)
    exact gR () trivial
set_option maxHeartbeats 8000000 in
theorem puts_yes {H : HP} (b : Nat) (f : Fm) (hf : f.On H) (key : ByteArray) (v : V) (p : Option Addr) (c : Nat) (vs : List Value) (hL : LAt H v p c vs) (hz : v.kids.length ≤ 100000) (hzk : ∀ x ∈ v.kids, x.kids.length ≤ 100000) (he : (f.next key).1 = .iface 105 (.slice p v.kids.length c)) :
    Does Tryz.prog 59 [ptr b, .string key] [f.row b, Pile H] (X := HP × Option Addr × Nat × List Pt) (fun y => .slice y.2.1 y.2.2.2.length y.2.2.1)
      (fun y => [(⟨(f.next key).2.p, (f.next key).2.c, (f.next key).2.ps, (f.next key).2.bad || !(v.kids.all fun x => (putV x).isSome)⟩ : Fm).row b, Pile y.1]) (fun y => HP.sub H y.1 ∧ SlAt (Pile y.1) 3 y.2.1 y.2.2.2.length (y.2.2.2.flatMap Pt.cells) ∧ PtsOf y.1 v.kids y.2.2.2) := by
  have hn := fnext_ b f hf key
  rw [he] at hn
  generalize (f.next key).2 = f2 at hn ⊢
  obtain ⟨p2, c2, ps, bad⟩ := f2
  dsimp only [Fm.row] at hn ⊢
  obtain ⟨hk, hvl, _, hc, hS, hA⟩ := hL
  refine fn_intro Tryz.func59 rfl Tryz.ntmps59 rfl (by simp only [argFr, Nat.zero_add, Nat.reduceAdd]; rfl) (fun Γ => ?_)
  repeat ((fail_if_success refine s_at 6 ?_); first
    | (refine g_ops ?_; first | refine sO ?_ | refine s_n (fun _ => ?_) | refine s_app (fun _ _ => ?_) | refine s_b0 (fun _ => ?_) | ((fail_if_success refine g_lit rfl rfl rfl ?_); first | apply g_partM rfl rfl rfl | apply g_partMB rfl rfl rfl | fail) | refine s_c (hn) (fun _ _ => ?_))
    | refine gS ?_ | exact s_m | intro _)
  repeat (first | (refine g_ops ?_; first | refine sO ?_) | refine g_nil ?_ | refine g_then_normal ?_ | refine g_seq ?_)
  refine g_cutX (X := Unit) (fun _ => [(0, ptr b), (4, .slice none 0 0), (5, .slice p v.kids.length c)]) (fun _ => [.row b [.slice p2 ps.length c2, .bool bad] 93, Pile H]) (fun _ => True) ?_ (fun _ _ => ?_)
  · cases bad
    · repeat (first
        | (refine g_ops ?_; first | refine sO ?_ | refine s_n (fun _ => ?_) | refine s_app (fun _ _ => ?_) | refine s_b0 (fun _ => ?_) | ((fail_if_success refine g_lit rfl rfl rfl ?_); first | apply g_partM rfl rfl rfl | apply g_partMB rfl rfl rfl | fail))
        | refine gS ?_ | exact s_m | intro _)
      exact gM () trivial
    · repeat (first
        | (refine g_ops ?_; first | refine sO ?_ | refine s_n (fun _ => ?_) | refine s_app (fun _ _ => ?_) | refine s_b0 (fun _ => ?_) | ((fail_if_success refine g_lit rfl rfl rfl ?_); first | apply g_partM rfl rfl rfl | apply g_partMB rfl rfl rfl | fail))
        | refine gS ?_ | exact s_m | intro _)
      exact gM () trivial
  repeat (first
    | (refine g_ops ?_; first | refine sO ?_ | refine s_n (fun _ => ?_) | refine s_app (fun _ _ => ?_) | refine s_b0 (fun _ => ?_) | ((fail_if_success refine g_lit rfl rfl rfl ?_); first | apply g_partM rfl rfl rfl | apply g_partMB rfl rfl rfl | fail))
    | refine gS ?_ | exact s_m | intro _)
  refine g_own_nil none 3 73 ?_
  refine g_loop (X := PsX) (fun x => [(0, ptr b), (4, .slice x.q x.pts.length x.c), (29, .slice p v.kids.length c), (30, int v.kids.length), (31, int x.k)]) (fun x => [.own x.q x.pts.length x.c 3 (x.pts.flatMap Pt.cells) 73, .row b [.slice p2 ps.length c2, .bool x.bad] 93, Pile x.H])
    (fun x => x.k ≤ v.kids.length ∧ HP.sub H x.H ∧ PtsOf x.H (v.kids.take x.k) x.pts ∧ x.bad = (bad || !((v.kids.take x.k).all fun x => (putV x).isSome))) (fun x => v.kids.length - x.k) ⟨0, bad, none, 0, [], H⟩ ⟨Nat.zero_le _, HP.sub.refl _, ⟨rfl, (fun _ h => by cases h), fun i _ _ _ h => by simp at h⟩, by simp⟩ (by (repeat (first | exact FrSub.nil | refine FrSub.cons rfl ?_)); first | done | fail) (by (repeat (first | exact Take.nil | apply Take.cons | exact Sel.here | apply Sel.there)); first | done | fail) (fun x hx => ?_)
  obtain ⟨k, β, q, c4, pts, H1⟩ := x
  obtain ⟨hk1, hs1, hpts, hβ⟩ := hx
  dsimp only at hk1 hs1 hpts hβ ⊢
  repeat (first
    | (refine g_ops ?_; first | refine sO ?_ | refine s_n (fun _ => ?_) | refine s_app (fun _ _ => ?_) | refine s_b0 (fun _ => ?_) | ((fail_if_success refine g_lit rfl rfl rfl ?_); first | apply g_partM rfl rfl rfl | apply g_partMB rfl rfl rfl | fail))
    | refine gS ?_ | exact s_m | intro _)
  refine g_cond_dec rfl (fun h2 => ?_) (fun h2 => ?_)
  · have hk' : k < v.kids.length := by omega
    have hgl : v.kids[k]? = some v.kids[k] := List.getElem?_eq_getElem hk'
    have hgw : vs[k]? = some (vs[k]'(by omega)) := List.getElem?_eq_getElem _
    have hat := (hA k _ _ hgl hgw).grow hs1
    have hzy := hzk _ (List.getElem_mem hk')
    obtain ⟨b3, o3, rfl, hr3⟩ := slAt_cell (hS.grow hs1) hgw
    have htk : v.kids.take (k + 1) = v.kids.take k ++ [v.kids[k]] := by rw [List.take_add_one, hgl]; rfl
    generalize v.kids[k] = y at hat htk hzy
    generalize vs[k]'_ = w at hat hr3
    have hr : ∀ k', k' = k → Reads (Pile H1) ⟨b3, o3 + k', none⟩ w := fun _ e => e ▸ hr3
    have hpl : pts.length ≤ 100000 := by rw [hpts.1, List.length_take]; omega
    have hput := put1 y w hat (by omega)
    repeat (first
      | (refine g_ops ?_; first | refine sO ?_ | refine s_n (fun _ => ?_) | refine s_app (fun _ _ => ?_) | refine s_b0 (fun _ => ?_) | ((fail_if_success refine g_lit rfl rfl rfl ?_); first | apply g_partM rfl rfl rfl | apply g_partMB rfl rfl rfl | fail) | refine s_c (hput) (fun _ _ => ?_))
      | refine gS ?_ | exact s_m | intro _)
    rename_i z hz2 sb
    obtain ⟨H2, px⟩ := z
    obtain ⟨hs2, hpx, hpd⟩ := hz2
    dsimp only [List.cons_append, List.nil_append, List.append_eq] at hs2 hpx hpd ⊢
    have hsn : PtsOf H2 (v.kids.take (k + 1)) (pts ++ [px]) := by rw [htk]; exact (hpts.grow hs2).snoc hpx hpd
    have hbn : (β || !(putV y).isSome) = (bad || !((v.kids.take (k + 1)).all fun x => (putV x).isSome)) := by
      rw [htk, hβ, List.all_append]
      cases bad <;> cases ((v.kids.take k).all fun x => (putV x).isSome) <;> simp
    clear hβ
    cases β
    · repeat (first
        | (refine g_ops ?_; first | refine sO ?_ | refine s_n (fun _ => ?_) | refine s_app (fun _ _ => ?_) | refine s_b0 (fun _ => ?_) | ((fail_if_success refine g_lit rfl rfl rfl ?_); first | apply g_partM rfl rfl rfl | apply g_partMB rfl rfl rfl | fail))
        | refine gS ?_ | exact s_m | intro _)
      rename_i q5 c5
      refine g_as 31 (v' := int ((k + 1 : Nat) : Int)) rfl (congrArg (Value.int .i64) (by push_cast; rfl)) ?_
      rw [show pts.flatMap Pt.cells ++ [.string px.st, .int .i64 px.exp, .slice px.dp px.data.length px.dc] = (pts ++ [px]).flatMap Pt.cells by simp, show pts.length + 1 = (pts ++ [px]).length by simp]
      exact gA ⟨k + 1, _, q5, c5, pts ++ [px], H2⟩ (by simp only; omega) ⟨hk', hs1.trans hs2, hsn, hbn⟩
    · repeat (first
        | (refine g_ops ?_; first | refine sO ?_ | refine s_n (fun _ => ?_) | refine s_app (fun _ _ => ?_) | refine s_b0 (fun _ => ?_) | ((fail_if_success refine g_lit rfl rfl rfl ?_); first | apply g_partM rfl rfl rfl | apply g_partMB rfl rfl rfl | fail))
        | refine gS ?_ | exact s_m | intro _)
      rename_i q5 c5
      refine g_as 31 (v' := int ((k + 1 : Nat) : Int)) rfl (congrArg (Value.int .i64) (by push_cast; rfl)) ?_
      rw [show pts.flatMap Pt.cells ++ [.string px.st, .int .i64 px.exp, .slice px.dp px.data.length px.dc] = (pts ++ [px]).flatMap Pt.cells by simp, show pts.length + 1 = (pts ++ [px]).length by simp]
      exact gA ⟨k + 1, _, q5, c5, pts ++ [px], H2⟩ (by simp only; omega) ⟨hk', hs1.trans hs2, hsn, hbn⟩
  · obtain rfl : k = v.kids.length := by omega
    rw [List.take_length] at hβ hpts
    rw [← hβ]
    repeat (first
      | (refine g_ops ?_; first | refine sO ?_ | refine s_n (fun _ => ?_) | refine s_app (fun _ _ => ?_) | refine s_b0 (fun _ => ?_) | ((fail_if_success refine g_lit rfl rfl rfl ?_); first | apply g_partM rfl rfl rfl | apply g_partMB rfl rfl rfl | fail))
      | refine gS ?_ | exact s_m | intro _)
    refine g_pile (n := 3) (by (repeat (first | exact Sel.here | apply Sel.there)); first | done | fail) (by (repeat (first | exact Sel.here | apply Sel.there)); first | done | fail) (fun H2 hs2 hS2 => ?_)
    exact gR (H2, q, c4, pts) ⟨hs1.trans hs2, hS2, hpts.grow hs2⟩
end Go.Proofs.YtaahibcibgljbaaGreatDoor
