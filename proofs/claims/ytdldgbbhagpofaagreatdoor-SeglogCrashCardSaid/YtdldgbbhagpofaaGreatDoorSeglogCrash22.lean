/- Contracts and laws that the proof stands on. -/
import Derived.Test.YtdldgbbhagpofaaGreatDoorSeglogCrash21
set_option linter.unusedSimpArgs false
set_option linter.unusedVariables false
namespace Go.Proofs.YtdldgbbhagpofaaGreatDoor
open Go.Sl facts
structure Ld where
  recs : List (List UInt8)
  firsts : List Nat
  size : Nat
  sl : Bool
abbrev ld0 : Ld := ⟨[], [], 0, false⟩
abbrev Vw := Nat → Option (SgC × List UInt8)
def ldStep (V : Vw) (s : Ld) : Option Ld :=
  match V s.firsts.length with
  | some (some (v, rs), t) => if v = s.recs.length then some ⟨s.recs ++ rs, s.firsts ++ [v], sumB rs, decide (t ≠ [])⟩ else none
  | _ => none
inductive Run (V : Vw) : Ld → Prop where
  | zero : Run V ld0
  | next {s s' : Ld} : Run V s → ldStep V s = some s' → Run V s'
structure LdIs (x : LG) (s : Ld) : Prop where
  recs : bts x.rs = s.recs
  fst : x.fs = s.firsts.map fun v : Nat => (v : Int)
  size : x.size = (s.size : Int)
  sl : x.sl = s.sl
structure VwAt (fs : List Fi) (a : Nat) (sg : SgC) (t : List UInt8) : Prop where
  at_ : ∃ y, fdat fs (nmB a) = some y ∧ y.1 ++ y.2 = frB (sgL sg) ++ t
  torn : TornT t
  len : ∀ r ∈ sgL sg, r.length ≤ 131072
  num : (sgL sg).length ≤ 1000000
  fst : ∀ v rs, sg = some (v, rs) → v ≤ 1000000
structure View (fs : List Fi) (V : Vw) (T : Nat) : Prop where
  top : T < 100
  no : ∀ a, a < 100 → V a = none → fdat fs (nmB a) = none
  yes : ∀ a, a < 100 → ∀ sg t, V a = some (sg, t) → VwAt fs a sg t
  end_ : V T = none
  recs : ∀ s, Run V s → s.recs.length ≤ 1000000
theorem ldStep_len {V : Vw} {s s' : Ld} (h : ldStep V s = some s') : s'.firsts.length = s.firsts.length + 1 ∧ V s.firsts.length ≠ none := by
  unfold ldStep at h
  split at h
  · rename_i v rs t hV
    split at h
    · obtain rfl := Option.some.inj h
      exact ⟨by simp, by rw [hV]; simp⟩
    · cases h
  · cases h
theorem Run.le {V : Vw} {T : Nat} (hT : V T = none) {s : Ld} (h : Run V s) : s.firsts.length ≤ T := by
  induction h with
  | zero => exact Nat.zero_le _
  | @next s s' _ hs ih =>
    obtain ⟨h1, h2⟩ := ldStep_len hs
    rw [h1]
    rcases Nat.lt_or_ge s.firsts.length T with h3 | h3
    · exact h3
    · have : s.firsts.length = T := by omega
      rw [this] at h2
      exact (h2 hT).elim
theorem Run.has {V : Vw} {s : Ld} (h : Run V s) : ∀ a, a < s.firsts.length → V a ≠ none := by
  induction h with
  | zero => intro a ha; simp at ha
  | @next s s' _ hs ih =>
    obtain ⟨h1, h2⟩ := ldStep_len hs
    intro a ha
    rw [h1] at ha
    rcases Nat.lt_or_ge a s.firsts.length with h3 | h3
    · exact ih a h3
    · obtain rfl : a = s.firsts.length := by omega
      exact h2
theorem LdIs.start : LdIs lg0 ld0 := ⟨rfl, rfl, rfl, rfl⟩
theorem LdIs.len {x : LG} {s : Ld} (h : LdIs x s) : x.rs.length = s.recs.length ∧ x.fs.length = s.firsts.length := by
  refine ⟨by have := congrArg List.length h.recs; simpa using this, by rw [h.fst, List.length_map]⟩
theorem LdIs.next {x : LG} {s : Ld} (h : LdIs x s) {V : Vw} {sg : SgC} {t : List UInt8} (hV : V s.firsts.length = some (sg, t)) {y : LdX} (hy : LdRes x t y sg) : (y.b = true ∧ ∃ s', ldStep V s = some s' ∧ LdIs y.x s') ∨ (y.b = false ∧ ldStep V s = none ∧ y.x = x) := by
  have hl := h.len
  cases sg with
  | none =>
    obtain ⟨h1, h2⟩ := hy
    exact .inr ⟨h1, by unfold ldStep; rw [hV], h2⟩
  | some vr =>
    obtain ⟨v, rs⟩ := vr
    have hst : ldStep V s = if v = s.recs.length then some ⟨s.recs ++ rs, s.firsts ++ [v], sumB rs, decide (t ≠ [])⟩ else none := by unfold ldStep; rw [hV]
    have hy' : if v = x.rs.length then LdOk x v rs t y else y.b = false ∧ y.x = x := hy
    rw [hl.1] at hy'
    by_cases hv : v = s.recs.length
    · rw [if_pos hv] at hst hy'
      exact .inl ⟨hy'.b, _, hst, ⟨by rw [hy'.recs, h.recs], by rw [hy'.fst, h.fst]; simp, hy'.size, hy'.sl⟩⟩
    · rw [if_neg hv] at hst hy'
      exact .inr ⟨hy'.1, hst, hy'.2⟩
structure LoX where
  s : Ld
  x : LG
  H : HP
structure LoOk (V : Vw) (H0 : HP) (y : LoX) : Prop where
  run : Run V y.s
  is_ : LdIs y.x y.s
  sub : HP.sub H0 y.H
  at_ : BtsAt y.H y.x.rs
structure SyX where
  i : Nat
  z : CyX
structure OpX where
  ok : Bool
  lg : Nat
  x : LG
  z : CyX
  H : HP
theorem nms_of {fs gs : List Fi} {nm : ByteArray} (hn : ∃ i, i < 100 ∧ nm = nmB i) (hF : ∀ x ∈ fs, ∃ i, i < 100 ∧ x.nm = nmB i) (he : ∀ nm', nm' ≠ nm → fdat gs nm' = fdat fs nm') : ∀ x ∈ gs, ∃ i, i < 100 ∧ x.nm = nmB i := fun x hx => by
  by_cases h : x.nm = nm
  · rw [h]; exact hn
  · obtain ⟨y, hy⟩ := fdat_mem hx
    rw [he _ h] at hy
    obtain ⟨z, hz, h2, _⟩ := fdat_some hy
    rw [← h2]
    exact hF z hz
theorem fall_of {fs gs : List Fi} {nm : ByteArray} (h : fdat gs nm = fdat fs nm) : fall gs nm = fall fs nm := by unfold fall; rw [h]
structure SyOk (fs : List Fi) (k : Nat) (ops ct : Int) (y : SyX) : Prop where
  le : y.i ≤ k
  sort : SortF y.z.y.fs
  nms : ∀ x ∈ y.z.y.fs, ∃ i, i < 100 ∧ x.nm = nmB i
  used : Go.Proofs.YtdldgbbhagpofaaGreatDoor.used y.z.y.fs ≤ Go.Proofs.YtdldgbbhagpofaaGreatDoor.used fs
  len : y.z.y.fs.length ≤ fs.length
  at_ : ∀ a, a < 100 → fdat y.z.y.fs (nmB a) = if k ≤ a then none else if a < y.i then some (fall fs (nmB a), []) else fdat fs (nmB a)
  opb : ops ≤ y.z.ops ∧ y.z.ops ≤ ops + 301 + y.i
  ctb : 0 ≤ y.z.ct ∧ y.z.ct ≤ ct ∧ (ct ≠ 0 → y.z.ct ≠ 0)
theorem SyOk.next {fs : List Fi} {k : Nat} {ops ct : Int} {y : SyX} (h : SyOk fs k ops ct y) (hi : y.i < k) (hk : k < 100) {w : DkX} (hw : Syn1 (nmB y.i) y.z.y.fs w.fs) (hc : y.z.ct ≠ 1) : SyOk fs k ops ct ⟨y.i + 1, ⟨w, y.z.ops + 1, cutN y.z.ct⟩⟩ := by
  have h1 := h.opb
  have h2 := h.ctb
  have hii := h.at_ y.i (by omega)
  rw [if_neg (by omega), if_neg (by omega)] at hii
  refine ⟨hi, hw.sort, nms_of ⟨y.i, by omega, rfl⟩ h.nms hw.else_, by rw [hw.used]; exact h.used, by rw [hw.len]; exact h.len, fun a ha => ?_, ⟨by show _ ≤ y.z.ops + 1; omega, by show y.z.ops + 1 ≤ _; push_cast; omega⟩, ?_⟩
  · show fdat w.fs (nmB a) = if k ≤ a then none else if a < y.i + 1 then _ else _
    by_cases e : a = y.i
    · subst e
      rw [hw.at_, if_neg (by omega), if_pos (by omega), fall_of hii]
    · rw [hw.else_ _ (fun e2 => e (nm_inj ha (by omega) e2)), h.at_ a ha]
      by_cases hka : k ≤ a
      · rw [if_pos hka, if_pos hka]
      · rw [if_neg hka, if_neg hka]
        by_cases hai : a < y.i
        · rw [if_pos hai, if_pos (by omega)]
        · rw [if_neg hai, if_neg (by omega)]
  · show 0 ≤ cutN y.z.ct ∧ cutN y.z.ct ≤ ct ∧ (ct ≠ 0 → cutN y.z.ct ≠ 0)
    unfold cutN
    split <;> omega
structure OpOk (V : Vw) (fs : List Fi) (H0 : HP) (ops ct : Int) (s : Ld) (y : OpX) : Prop where
  run : Run V s
  fin : ldStep V s = none
  sub : HP.sub H0 y.H
  sort : SortF y.z.y.fs
  nms : ∀ x ∈ y.z.y.fs, ∃ i, i < 100 ∧ x.nm = nmB i
  used : Go.Proofs.YtdldgbbhagpofaaGreatDoor.used y.z.y.fs ≤ Go.Proofs.YtdldgbbhagpofaaGreatDoor.used fs
  len : y.z.y.fs.length ≤ fs.length
  opb : ops ≤ y.z.ops ∧ y.z.ops ≤ ops + 401
  ctb : 0 ≤ y.z.ct ∧ y.z.ct ≤ ct ∧ (ct ≠ 0 → y.z.ct ≠ 0)
  yes : y.ok = true → LdIs y.x s ∧ BtsAt y.H y.x.rs ∧ ∀ a, a < 100 → fdat y.z.y.fs (nmB a) = if a < s.firsts.length then some (fall fs (nmB a), []) else none
  no : y.ok = false → ct ≠ 0 ∧ ∀ a, a < 100 → (a < s.firsts.length → fdat y.z.y.fs (nmB a) = fdat fs (nmB a) ∨ fdat y.z.y.fs (nmB a) = some (fall fs (nmB a), [])) ∧ (s.firsts.length ≤ a → fdat y.z.y.fs (nmB a) = fdat fs (nmB a) ∨ fdat y.z.y.fs (nmB a) = none)
theorem OpOk.of_clean {V : Vw} {fs : List Fi} {H0 H1 : HP} {ops ct : Int} {s : Ld} {w : CyX} {x : LG} {lg : Nat} (hF : FsN fs) (hrun : Run V s) (hfin : ldStep V s = none) (hsub : HP.sub H0 H1) (h : ClOk s.firsts.length fs ops ct ⟨true, w⟩) : OpOk V fs H0 ops ct s ⟨false, lg, x, w, H1⟩ := by
  obtain ⟨m, hm, hat, _⟩ := h.at_
  refine ⟨hrun, hfin, hsub, h.sort, fun x hx => hF.nms x (h.mem x hx), h.used, h.len, ⟨h.ops.1, by have := h.ops.2; dsimp only at this; show w.ops ≤ _; omega⟩, h.ct, fun h => (by cases h), fun _ => ⟨h.off rfl, fun a ha => ⟨fun hk => .inl ?_, fun hk => ?_⟩⟩⟩
  · have := hat a ha
    rw [if_neg (by omega)] at this
    exact this
  · have := hat a ha
    by_cases hma : m ≤ a
    · rw [if_pos hma] at this; exact .inr this
    · rw [if_neg hma] at this; exact .inl this
theorem SyOk.start {fs : List Fi} {k : Nat} {ops ct : Int} {w : CyX} (hF : FsN fs) (h : ClOk k fs ops ct ⟨false, w⟩) : SyOk fs k ops ct ⟨0, w⟩ := by
  obtain ⟨m, hm, hat, h0⟩ := h.at_
  obtain rfl := h0 rfl
  refine ⟨Nat.zero_le _, h.sort, fun x hx => hF.nms x (h.mem x hx), h.used, h.len, fun a ha => ?_, ⟨h.ops.1, by have := h.ops.2; dsimp only at this; show w.ops ≤ _; simp; omega⟩, h.ct⟩
  rw [hat a ha]
  rfl
theorem OpOk.of_off {V : Vw} {fs : List Fi} {H0 H1 : HP} {ops ct : Int} {s : Ld} {y : SyX} {x : LG} {lg : Nat} (hrun : Run V s) (hfin : ldStep V s = none) (hsub : HP.sub H0 H1) (h : SyOk fs s.firsts.length ops ct y) (hk : s.firsts.length < 100) (hi : y.i < s.firsts.length) (hc : y.z.ct = 1) : OpOk V fs H0 ops ct s ⟨false, lg, x, ⟨y.z.y, y.z.ops + 1, y.z.ct⟩, H1⟩ := by
  have h1 := h.opb
  have h2 := h.ctb
  refine ⟨hrun, hfin, hsub, h.sort, h.nms, h.used, h.len, ⟨by show _ ≤ y.z.ops + 1; omega, by show y.z.ops + 1 ≤ _; omega⟩, h.ctb, fun h => (by cases h), fun _ => ⟨by omega, fun a ha => ⟨fun hka => ?_, fun hka => ?_⟩⟩⟩
  · have := h.at_ a ha
    rw [if_neg (by omega)] at this
    by_cases hai : a < y.i
    · rw [if_pos hai] at this; exact .inr this
    · rw [if_neg hai] at this; exact .inl this
  · have := h.at_ a ha
    rw [if_pos hka] at this
    exact .inr this
theorem OpOk.of_on {V : Vw} {fs : List Fi} {H0 H1 : HP} {ops ct : Int} {s : Ld} {z : CyX} {x : LG} {lg : Nat} (hrun : Run V s) (hfin : ldStep V s = none) (hsub : HP.sub H0 H1) (h : SyOk fs s.firsts.length ops ct ⟨s.firsts.length, z⟩) (hk : s.firsts.length < 100) (his : LdIs x s) (hat : BtsAt H1 x.rs) : OpOk V fs H0 ops ct s ⟨true, lg, x, z, H1⟩ := by
  have h1 := h.opb
  refine ⟨hrun, hfin, hsub, h.sort, h.nms, h.used, h.len, ⟨h1.1, by have := h1.2; show z.ops ≤ _; dsimp only at this; omega⟩, h.ctb, fun _ => ⟨his, hat, fun a ha => ?_⟩, fun h => (by cases h)⟩
  have := h.at_ a ha
  show fdat z.y.fs (nmB a) = _
  dsimp only at this
  rw [this]
  by_cases hka : s.firsts.length ≤ a
  · rw [if_pos hka, if_neg (by omega)]
  · rw [if_neg hka, if_pos (by omega), if_pos (by omega)]
end Go.Proofs.YtdldgbbhagpofaaGreatDoor

namespace Go.Proofs.YtdldgbbhagpofaaGreatDoor
open Go.Sl facts
attribute [local irreducible] Code.wp wpList Exit.then Exit.inBlock bodyPost Back MidQ G GP QStep VStep CStep SStep Does Post Reads
attribute [local irreducible] Begin RPost MPost frameB frB
set_option maxHeartbeats 2000000 in
theorem open_ {H : HP} (d : Nat) (room : Int) (q : Option Addr) (c : Nat) (ops ct : Int) (hc0 : 0 ≤ ops ∧ ops ≤ 10000000) (hc1 : 0 ≤ ct ∧ ct ≤ 1000000) (fs : List Fi) (hF : FsN fs) (hu : used fs ≤ 1000000) (V : Vw) (T : Nat) (hV : View fs V T) :
    Does Tryz.prog 19 [ptr d] (bagL d room ops ct q c fs [Pile H]) (X := OpX) (fun y => .tuple #[if y.ok then ptr y.lg else .pointer none, int (if y.ok then 0 else 9)])
      (fun y => (if y.ok then y.x.L y.lg d false else []) ++ bagL d room y.z.ops y.z.ct y.z.y.q y.z.y.c y.z.y.fs [Pile y.H]) (fun y => ∃ s, OpOk V fs H ops ct s y) := by
  refine fn_intro Tryz.func19 rfl Tryz.ntmps19 rfl (by simp only [argFr, Nat.zero_add, Nat.reduceAdd]; rfl) (fun Γ => ?_)
  repeat ((fail_if_success refine s_at 4 ?_); first
    | (refine g_ops ?_; first | refine sO ?_ | refine s_n (fun _ => ?_) | refine s_appB (fun _ _ => ?_) | refine s_app (fun _ _ => ?_) | refine s_b0 (fun _ => ?_) | ((fail_if_success refine g_lit rfl rfl rfl ?_); first | apply g_partM rfl rfl rfl | apply g_partMB rfl rfl rfl | fail))
    | refine gS ?_ | exact s_m | intro _)
  first
    | (refine g_ops ?_; first | refine sO ?_ | refine s_n (fun _ => ?_) | refine s_appB (fun _ _ => ?_) | refine s_app (fun _ _ => ?_) | refine s_b0 (fun _ => ?_) | ((fail_if_success refine g_lit rfl rfl rfl ?_); first | apply g_partM rfl rfl rfl | apply g_partMB rfl rfl rfl | fail))
    | refine gS ?_ | exact s_m | intro _
  rename_i lg
  refine g_nil ?_
  refine g_then_normal ?_
  refine g_seq ?_
  refine g_own_nil none 1 28 ?_
  refine g_own_nil none 1 3 ?_
  refine g_cutX (X := LoX) (fun y => [(0, ptr d), (4, ptr lg)]) (fun y => y.x.L lg d false ++ bagL d room ops ct q c fs [Pile y.H]) (fun y => LoOk V H y ∧ ldStep V y.s = none) ?_ (fun y hy => ?_)
  · refine g_block ?_
    refine g_loop (X := LoX) (fun y => [(0, ptr d), (4, ptr lg)]) (fun y => y.x.L lg d false ++ bagL d room ops ct q c fs [Pile y.H]) (LoOk V H) (fun y => T - y.s.firsts.length) ⟨ld0, lg0, H⟩ ⟨.zero, LdIs.start, HP.sub.refl _, fun r hr => by simp at hr⟩ (by (repeat (first | exact FrSub.nil | refine FrSub.cons rfl ?_)); first | done | fail) (by (repeat (first | exact Take.nil | apply Take.cons | exact Sel.here | apply Sel.there)); first | done | fail) (fun y hy => ?_)
    obtain ⟨s, x, H1⟩ := y
    have hrun := hy.run
    have his := hy.is_
    have hsub := hy.sub
    have hat := hy.at_
    dsimp only at hrun his hsub hat ⊢
    have hsT := hrun.le hV.end_
    have hT := hV.top
    have hxl := his.len
    have hrl := hV.recs s hrun
    have hsm := sname s.firsts.length (by omega)
    obtain ⟨rq, rc, xs, fq, fc, fs', size, sl⟩ := x
    dsimp only at hxl
    rw [← hxl.2] at hsm
    cases hv : V s.firsts.length with
    | none =>
      have hno := hV.no s.firsts.length (by omega) hv
      rw [← hxl.2] at hno
      have hrd := readN d room q c ops ct fs hF.sort (nmB fs'.length) (by have := hF.len; omega) hno
      dsimp only [LG.L, LG.own, LG.row, List.cons_append, List.nil_append]
      repeat (first
        | (refine g_ops ?_; first | refine sO ?_ | refine s_n (fun _ => ?_) | refine s_appB (fun _ _ => ?_) | refine s_app (fun _ _ => ?_) | refine s_b0 (fun _ => ?_) | ((fail_if_success refine g_lit rfl rfl rfl ?_); first | apply g_partM rfl rfl rfl | apply g_partMB rfl rfl rfl | fail) | refine s_k (hsm) ?_ | refine s_k (hrd) ?_)
        | refine gS ?_ | exact s_m | intro _)
      dsimp only [List.cons_append, List.nil_append]
      exact gM (⟨s, ⟨rq, rc, xs, fq, fc, fs', size, sl⟩, H1⟩ : LoX) ⟨hy, by unfold ldStep; rw [hv]⟩
    | some w =>
      obtain ⟨sg, t⟩ := w
      have hvw := hV.yes s.firsts.length (by omega) sg t hv
      obtain ⟨yv, hyv, hye⟩ := hvw.at_
      have hyu := fdat_used hyv
      rw [← hxl.2] at hyv
      have hrd := readS d room q c ops ct fs hF.sort (nmB fs'.length) (by have := hF.len; omega) hu yv hyv
      rw [hye] at hrd
      have hbl : (frB (sgL sg) ++ t).length ≤ 1000000 := by rw [← hye, List.length_append]; omega
      dsimp only [LG.L, LG.own, LG.row, List.cons_append, List.nil_append]
      generalize hbb : frB (sgL sg) ++ t = bb at *
      repeat (first
        | (refine g_ops ?_; first | refine sO ?_ | refine s_n (fun _ => ?_) | refine s_appB (fun _ _ => ?_) | refine s_app (fun _ _ => ?_) | refine s_b0 (fun _ => ?_) | ((fail_if_success refine g_lit rfl rfl rfl ?_); first | apply g_partM rfl rfl rfl | apply g_partMB rfl rfl rfl | fail) | refine s_k (hsm) ?_ | refine s_c (hrd) (fun _ _ => ?_))
        | refine gS ?_ | exact s_m | intro _)
      rename_i yr _
      obtain ⟨rp, rcc⟩ := yr
      dsimp only [List.cons_append, List.nil_append]
      refine g_own (p := rp) (len := bb.length) (cap := rcc) (n := 1) (xs := cells8 bb) (e := 5) (by (repeat (first | exact Sel.here | apply Sel.there)); first | done | fail) (fun _ hlc _ => ?_)
      refine g_pile (p := rp) (m := bb.length) (c := rcc) (n := 1) (xs := cells8 bb) (e := 5) (by (repeat (first | exact Sel.here | apply Sel.there)); first | done | fail) (by (repeat (first | exact Sel.here | apply Sel.there)); first | done | fail) (fun H2 hs2 hA2 => ?_)
      have hld := load_ (H := H2) lg d ⟨rq, rc, xs, fq, fc, fs', size, sl⟩ false rp bb rcc (btAt_of rfl hA2) hlc (by omega) sg t hbb.symm hvw.torn hvw.len hvw.num (fun r hr => BtAt.grow (hat r hr) hs2) (by dsimp only; omega) (by dsimp only; omega) hvw.fst
      dsimp only [LG.L, LG.own, LG.row, List.cons_append, List.nil_append] at hld
      repeat (first
        | (refine g_ops ?_; first | refine sO ?_ | refine s_n (fun _ => ?_) | refine s_appB (fun _ _ => ?_) | refine s_app (fun _ _ => ?_) | refine s_b0 (fun _ => ?_) | ((fail_if_success refine g_lit rfl rfl rfl ?_); first | apply g_partM rfl rfl rfl | apply g_partMB rfl rfl rfl | fail) | refine s_c (hld) (fun _ _ => ?_))
        | refine gS ?_ | exact s_m | intro _)
      rename_i yl hyl
      obtain ⟨h1, h2, h3⟩ := hyl
      have hnx := his.next hv h3
      obtain ⟨yb, yx, yH⟩ := yl
      dsimp only at h1 h2 hnx ⊢
      dsimp only [List.cons_append, List.nil_append]
      rcases hnx with ⟨rfl, s', hs', his'⟩ | ⟨rfl, hs', rfl⟩
      · repeat (first
          | (refine g_ops ?_; first | refine sO ?_ | refine s_n (fun _ => ?_) | refine s_appB (fun _ _ => ?_) | refine s_app (fun _ _ => ?_) | refine s_b0 (fun _ => ?_) | ((fail_if_success refine g_lit rfl rfl rfl ?_); first | apply g_partM rfl rfl rfl | apply g_partMB rfl rfl rfl | fail))
          | refine gS ?_ | exact s_m | intro _)
        have hlen' := (ldStep_len hs').1
        have hsT' := (hrun.next hs').le hV.end_
        exact gA (⟨s', yx, yH⟩ : LoX) (by simp only; omega) ⟨hrun.next hs', his', hsub.trans (hs2.trans h1), h2⟩
      · repeat (first
          | (refine g_ops ?_; first | refine sO ?_ | refine s_n (fun _ => ?_) | refine s_appB (fun _ _ => ?_) | refine s_app (fun _ _ => ?_) | refine s_b0 (fun _ => ?_) | ((fail_if_success refine g_lit rfl rfl rfl ?_); first | apply g_partM rfl rfl rfl | apply g_partMB rfl rfl rfl | fail))
          | refine gS ?_ | exact s_m | intro _)
        exact gM (⟨s, ⟨rq, rc, xs, fq, fc, fs', size, sl⟩, yH⟩ : LoX) ⟨⟨hrun, his, hsub.trans (hs2.trans h1), h2⟩, hs'⟩
  · obtain ⟨s, x, H1⟩ := y
    obtain ⟨⟨hrun, his, hsub, hat⟩, hfin⟩ := hy
    dsimp only at hrun his hsub hat hfin ⊢
    have hsT := hrun.le hV.end_
    have hT := hV.top
    have hxl := his.len
    have hcl := clean_ lg d x false room q c ops ct ⟨by omega, by omega⟩ hc1 fs hF (by omega)
    dsimp only [LG.L, LG.own, List.cons_append, List.nil_append] at hcl ⊢
    repeat (first
      | (refine g_ops ?_; first | refine sO ?_ | refine s_n (fun _ => ?_) | refine s_appB (fun _ _ => ?_) | refine s_app (fun _ _ => ?_) | refine s_b0 (fun _ => ?_) | ((fail_if_success refine g_lit rfl rfl rfl ?_); first | apply g_partM rfl rfl rfl | apply g_partMB rfl rfl rfl | fail) | refine s_c (hcl) (fun _ _ => ?_))
      | refine gS ?_ | exact s_m | intro _)
    rename_i w hw
    obtain ⟨wb, wz⟩ := w
    rw [hxl.2] at hw
    cases wb with
    | true =>
      refine g_as 41 (v' := .bool true) rfl rfl ?_
      repeat (first
        | (refine g_ops ?_; first | refine sO ?_ | refine s_n (fun _ => ?_) | refine s_appB (fun _ _ => ?_) | refine s_app (fun _ _ => ?_) | refine s_b0 (fun _ => ?_) | ((fail_if_success refine g_lit rfl rfl rfl ?_); first | apply g_partM rfl rfl rfl | apply g_partMB rfl rfl rfl | fail))
        | refine gS ?_ | exact s_m | intro _)
      exact gR (⟨false, lg, x, wz, H1⟩ : OpX) ⟨s, OpOk.of_clean hF hrun hfin hsub hw⟩
    | false =>
      have hsy := SyOk.start hF hw
      refine g_as 41 (v' := .bool false) rfl rfl ?_
      dsimp only [LG.row, List.cons_append, List.nil_append]
      repeat (first
        | (refine g_ops ?_; first | refine sO ?_ | refine s_n (fun _ => ?_) | refine s_appB (fun _ _ => ?_) | refine s_app (fun _ _ => ?_) | refine s_b0 (fun _ => ?_) | ((fail_if_success refine g_lit rfl rfl rfl ?_); first | apply g_partM rfl rfl rfl | apply g_partMB rfl rfl rfl | fail))
        | refine gS ?_ | exact s_m | intro _)
      refine g_as 48 (v' := int ((0 : Nat) : Int)) rfl rfl ?_
      refine g_loop (X := SyX) (fun y => [(0, ptr d), (4, ptr lg), (47, int x.fs.length), (48, int y.i)]) (fun y => lrow lg d (.slice x.rq x.rs.length x.rc) (.slice x.fq x.fs.length x.fc) x.size x.sl false :: bagL d room y.z.ops y.z.ct y.z.y.q y.z.y.c y.z.y.fs [.own x.rq x.rs.length x.rc 1 (x.rs.map BV.v) 28, .own x.fq x.fs.length x.fc 1 (x.fs.map int) 3, Pile H1]) (SyOk fs s.firsts.length ops ct) (fun y => s.firsts.length - y.i) ⟨0, wz⟩ hsy (by (repeat (first | exact FrSub.nil | refine FrSub.cons rfl ?_)); first | done | fail) (by (repeat (first | exact Take.nil | apply Take.cons | exact Sel.here | apply Sel.there)); first | done | fail) (fun y hy => ?_)
      clear hsy hw
      obtain ⟨i, ⟨⟨yq, yc, ys⟩, yo, yt⟩⟩ := y
      have hil := hy.le
      have hob := hy.opb
      have hcb := hy.ctb
      have hyl := hy.len
      have hyu := hy.used
      have hys := hy.sort
      have hyat := hy.at_
      dsimp only at hil hob hcb hyl hyu hys hyat ⊢
      have hfl := hF.len
      repeat (first
        | (refine g_ops ?_; first | refine sO ?_ | refine s_n (fun _ => ?_) | refine s_appB (fun _ _ => ?_) | refine s_app (fun _ _ => ?_) | refine s_b0 (fun _ => ?_) | ((fail_if_success refine g_lit rfl rfl rfl ?_); first | apply g_partM rfl rfl rfl | apply g_partMB rfl rfl rfl | fail))
        | refine gS ?_ | exact s_m | intro _)
      refine g_cond_dec rfl (fun h => ?_) (fun h => ?_)
      · have hi : i < s.firsts.length := by rw [← hxl.2]; omega
        have hsm := sname i (by omega)
        have hnx := fun w hw hc => hy.next hi (by omega) (w := w) hw hc
        dsimp only at hnx
        by_cases hct : yt = 1
        · have hso := sync_off d room (.slice yq ys.length yc) yo yt ⟨by omega, by omega, by omega, by omega⟩ hct (nmB i)
          repeat (first
            | (refine g_ops ?_; first | refine sO ?_ | refine s_n (fun _ => ?_) | refine s_appB (fun _ _ => ?_) | refine s_app (fun _ _ => ?_) | refine s_b0 (fun _ => ?_) | ((fail_if_success refine g_lit rfl rfl rfl ?_); first | apply g_partM rfl rfl rfl | apply g_partMB rfl rfl rfl | fail) | refine s_p (hsm) ?_ | refine s_c (hso) (fun _ _ => ?_))
            | refine gS ?_ | exact s_m | intro _)
          exact gR (⟨false, lg, x, ⟨⟨yq, yc, ys⟩, yo + 1, yt⟩, H1⟩ : OpX) ⟨s, OpOk.of_off hrun hfin hsub hy (by omega) hi hct⟩
        · obtain ⟨yv, hyv⟩ : ∃ yv, fdat ys (nmB i) = some yv := by
            rw [hyat i (by omega), if_neg (by omega), if_neg (by omega)]
            cases hv : V i with
            | none => exact (hrun.has i hi hv).elim
            | some w =>
              obtain ⟨sg, t⟩ := w
              obtain ⟨y0, hy0, _⟩ := (hV.yes i (by omega) sg t hv).at_
              exact ⟨y0, hy0⟩
          have hso := syncS d room yq yc yo yt ⟨by omega, by omega, by omega, by omega⟩ hct ys hys (nmB i) (by omega) (by omega) yv hyv
          repeat (first
            | (refine g_ops ?_; first | refine sO ?_ | refine s_n (fun _ => ?_) | refine s_appB (fun _ _ => ?_) | refine s_app (fun _ _ => ?_) | refine s_b0 (fun _ => ?_) | ((fail_if_success refine g_lit rfl rfl rfl ?_); first | apply g_partM rfl rfl rfl | apply g_partMB rfl rfl rfl | fail) | refine s_p (hsm) ?_ | refine s_c (hso) (fun _ _ => ?_))
            | refine gS ?_ | exact s_m | intro _)
          rename_i w hw
          obtain ⟨wq, wc, ws⟩ := w
          refine g_as 48 (v' := int ((i + 1 : Nat) : Int)) rfl (congrArg (Value.int .i64) (by push_cast; rfl)) ?_
          exact gA (⟨i + 1, ⟨⟨wq, wc, ws⟩, yo + 1, cutN yt⟩⟩ : SyX) (by simp only; omega) (hnx ⟨wq, wc, ws⟩ hw hct)
      · obtain rfl : i = s.firsts.length := by rw [← hxl.2] at hil ⊢; omega
        repeat (first
          | (refine g_ops ?_; first | refine sO ?_ | refine s_n (fun _ => ?_) | refine s_appB (fun _ _ => ?_) | refine s_app (fun _ _ => ?_) | refine s_b0 (fun _ => ?_) | ((fail_if_success refine g_lit rfl rfl rfl ?_); first | apply g_partM rfl rfl rfl | apply g_partMB rfl rfl rfl | fail))
          | refine gS ?_ | exact s_m | intro _)
        exact gR (⟨true, lg, x, ⟨⟨yq, yc, ys⟩, yo, yt⟩, H1⟩ : OpX) ⟨s, OpOk.of_on hrun hfin hsub hy (by omega) his hat⟩
end Go.Proofs.YtdldgbbhagpofaaGreatDoor

namespace Go.Proofs.YtdldgbbhagpofaaGreatDoor
open Go.Sl facts
abbrev Sg := Nat × List (List UInt8)
def flatS (S : List Sg) : List (List UInt8) := S.flatMap fun s => s.2
theorem flatS_snoc (S : List Sg) (s : Sg) : flatS (S ++ [s]) = flatS S ++ s.2 := by simp [flatS]
theorem flatS_append (S T : List Sg) : flatS (S ++ T) = flatS S ++ flatS T := by simp [flatS]
def modLast : List Sg → List (List UInt8) → List Sg
  | [], _ => []
  | [s], l => [(s.1, s.2 ++ l)]
  | s :: b :: t, l => s :: modLast (b :: t) l
theorem modLast_snoc : ∀ (S : List Sg) (s : Sg) (l : List (List UInt8)), modLast (S ++ [s]) l = S ++ [(s.1, s.2 ++ l)]
  | [], s, l => rfl
  | [a], s, l => rfl
  | a :: b :: t, s, l => by
    have := modLast_snoc (b :: t) s l
    simp only [List.cons_append] at this ⊢
    show a :: modLast (b :: (t ++ [s])) l = _
    rw [this]
theorem snoc_of {α : Type} {S : List α} (h : S ≠ []) : ∃ T s, S = T ++ [s] := ⟨S.dropLast, S.getLast h, (List.dropLast_concat_getLast h).symm⟩
theorem modLast_nil (S : List Sg) : modLast S [] = S := by
  by_cases h : S = []
  · subst h; rfl
  · obtain ⟨T, s, rfl⟩ := snoc_of h
    rw [modLast_snoc]; simp
theorem modLast_append (S : List Sg) (a b : List (List UInt8)) : modLast S (a ++ b) = modLast (modLast S a) b := by
  by_cases h : S = []
  · subst h; rfl
  · obtain ⟨T, s, rfl⟩ := snoc_of h
    rw [modLast_snoc, modLast_snoc, modLast_snoc]; simp
theorem modLast_len (S : List Sg) (l : List (List UInt8)) : (modLast S l).length = S.length := by
  by_cases h : S = []
  · subst h; rfl
  · obtain ⟨T, s, rfl⟩ := snoc_of h
    rw [modLast_snoc]; simp
def add1 (S : List Sg) (z : PA) : List Sg := if z.fresh then S ++ [(z.first, bts z.l)] else modLast S (bts z.l)
def addP (S : List Sg) (out : List PA) : List Sg := out.foldl add1 S
theorem addP_snoc (S : List Sg) (out : List PA) (z : PA) : addP S (out ++ [z]) = add1 (addP S out) z := by unfold addP; rw [List.foldl_append]; rfl
theorem add1_l (U : List Sg) (a : PA) (r : BV) : add1 U { a with l := a.l ++ [r] } = modLast (add1 U a) [r.l] := by
  unfold add1
  cases a.fresh
  · simp only [Bool.false_eq_true, if_false]
    rw [bts_snoc, modLast_append]
  · simp only [if_true]
    rw [modLast_snoc, bts_snoc]
def Cons (S : List Sg) : Prop := ∀ (i : Nat) (h : i < S.length), S[i].1 = (flatS (S.take i)).length
theorem cons_nil : Cons [] := fun i h => by simp at h
theorem cons_snoc {S : List Sg} {s : Sg} : Cons (S ++ [s]) ↔ Cons S ∧ s.1 = (flatS S).length := by
  constructor
  · intro h
    refine ⟨fun i hi => ?_, ?_⟩
    · have := h i (by simp; omega)
      rw [List.getElem_append_left hi, List.take_append_of_le_length (by omega)] at this
      exact this
    · have := h S.length (by simp)
      rw [List.getElem_append_right (Nat.le_refl _), List.take_left] at this
      simpa using this
  · intro ⟨h1, h2⟩ i hi
    by_cases hlt : i < S.length
    · rw [List.getElem_append_left hlt, List.take_append_of_le_length (by omega)]
      exact h1 i hlt
    · have hie : i = S.length := by simp at hi; omega
      subst hie
      rw [List.getElem_append_right (Nat.le_refl _), List.take_left]
      simpa using h2
theorem cons_mod {S : List Sg} {s : Sg} {l : List (List UInt8)} (h : Cons (S ++ [s])) : Cons (S ++ [(s.1, l)]) := by
  obtain ⟨h1, h2⟩ := cons_snoc.1 h
  exact cons_snoc.2 ⟨h1, h2⟩
def Clo (S : List Sg) : Prop := ∀ x ∈ S.dropLast, 2000 ≤ sumB x.2
theorem clo_snoc {S : List Sg} {s : Sg} : Clo (S ++ [s]) ↔ ∀ x ∈ S, 2000 ≤ sumB x.2 := by unfold Clo; rw [List.dropLast_concat]
def lastB (S : List Sg) : Nat := match S.getLast? with | some s => sumB s.2 | none => 0
theorem lastB_snoc (S : List Sg) (s : Sg) : lastB (S ++ [s]) = sumB s.2 := by unfold lastB; simp
theorem sumB_append (a b : List (List UInt8)) : sumB (a ++ b) = sumB a + sumB b := by unfold sumB; simp
theorem clo_all {S : List Sg} (h : Clo S) (hl : S = [] ∨ 2000 ≤ lastB S) : ∀ x ∈ S, 2000 ≤ sumB x.2 := by
  by_cases h0 : S = []
  · subst h0; intro x hx; simp at hx
  · obtain ⟨T, s, rfl⟩ := snoc_of h0
    intro x hx
    rcases List.mem_append.1 hx with h1 | h1
    · exact clo_snoc.1 h x h1
    · rw [List.mem_singleton.1 h1]
      rcases hl with h2 | h2
      · exact (h0 h2).elim
      · rwa [lastB_snoc] at h2
theorem all_len {S : List Sg} (h : ∀ x ∈ S, 2000 ≤ sumB x.2) : 2000 * S.length ≤ sumB (flatS S) := by
  induction S with
  | nil => simp
  | cons s S ih =>
    have h1 := h s (by simp)
    have h2 := ih (fun x hx => h x (List.mem_cons_of_mem _ hx))
    have e : flatS (s :: S) = s.2 ++ flatS S := by simp [flatS]
    rw [e, sumB_append, List.length_cons]; omega
theorem clo_len {S : List Sg} (h : Clo S) : 2000 * S.length ≤ sumB (flatS S) + 2000 := by
  by_cases h0 : S = []
  · subst h0; simp
  · obtain ⟨T, s, rfl⟩ := snoc_of h0
    have := all_len (clo_snoc.1 h)
    rw [flatS_snoc, sumB_append, List.length_append, List.length_singleton]; omega
def fileSeq : Nat → List PA → Prop
  | _, [] => True
  | n, z :: t => z.file = n ∧ z.fresh = true ∧ fileSeq (n + 1) t
theorem fileSeq_snoc : ∀ (n : Nat) (out : List PA) (z : PA), fileSeq n (out ++ [z]) ↔ fileSeq n out ∧ z.file = n + out.length ∧ z.fresh = true
  | n, [], z => by simp [fileSeq]
  | n, a :: t, z => by
    have := fileSeq_snoc (n + 1) t z
    simp only [List.cons_append, fileSeq, this, List.length_cons]
    constructor
    · rintro ⟨h1, h2, h3, h4, h5⟩; exact ⟨⟨h1, h2, h3⟩, by omega, h5⟩
    · rintro ⟨⟨h1, h2, h3⟩, h4, h5⟩; exact ⟨h1, h2, h3, by omega, h5⟩
theorem addLast_of (r : BV) (out : List PA) (a : PA) : addLast r (out ++ [a]) = out ++ [{ a with l := a.l ++ [r] }] := addLast_snoc r a out
theorem fileSeq_last {n : Nat} {out : List PA} (r : BV) (h : fileSeq n out) : fileSeq n (addLast r out) := by
  by_cases h0 : out = []
  · subst h0; exact h
  · obtain ⟨o, a, rfl⟩ := snoc_of h0
    rw [addLast_of]
    obtain ⟨h1, h2, h3⟩ := (fileSeq_snoc _ _ _).1 h
    exact (fileSeq_snoc _ _ _).2 ⟨h1, h2, h3⟩
theorem fileSeq_len : ∀ {n : Nat} {out : List PA} (S : List Sg), fileSeq n out → (addP S out).length = S.length + out.length
  | _, [], S, _ => rfl
  | n, z :: t, S, h => by
    obtain ⟨h1, h2, h3⟩ := h
    show (addP (add1 S z) t).length = _
    rw [fileSeq_len _ h3]
    unfold add1
    rw [if_pos h2]
    simp; omega
def FilesOk (n : Nat) (out : List PA) : Prop := fileSeq n out ∨ ∃ z t, out = z :: t ∧ z.fresh = false ∧ z.file + 1 = n ∧ fileSeq n t
theorem FilesOk.len {S : List Sg} {out : List PA} (h : FilesOk S.length out) : fileSeq S.length out ∧ (addP S out).length = S.length + out.length ∨ ∃ z t, out = z :: t ∧ z.fresh = false ∧ z.file + 1 = S.length ∧ fileSeq S.length t ∧ (addP S out).length = S.length + t.length := by
  rcases h with h | ⟨z, t, rfl, h1, h2, h3⟩
  · exact .inl ⟨h, fileSeq_len S h⟩
  · refine .inr ⟨z, t, rfl, h1, h2, h3, ?_⟩
    show (addP (add1 S z) t).length = _
    rw [fileSeq_len _ h3]
    unfold add1
    rw [if_neg (by rw [h1]; decide), modLast_len]
theorem FilesOk.snoc {S : List Sg} {out : List PA} (h : FilesOk S.length out) {z : PA} (hf : z.file = (addP S out).length) (hz : z.fresh = true) : FilesOk S.length (out ++ [z]) := by
  rcases h.len with ⟨h1, h2⟩ | ⟨w, t, rfl, h1, h2, h3, h4⟩
  · exact .inl ((fileSeq_snoc _ _ _).2 ⟨h1, by rw [hf, h2], hz⟩)
  · exact .inr ⟨w, t ++ [z], rfl, h1, h2, (fileSeq_snoc _ _ _).2 ⟨h3, by rw [hf, h4], hz⟩⟩
theorem FilesOk.last {n : Nat} {out : List PA} (h : FilesOk n out) (r : BV) : FilesOk n (addLast r out) := by
  rcases h with h | ⟨z, t, rfl, h1, h2, h3⟩
  · exact .inl (fileSeq_last r h)
  · cases t with
    | nil => exact .inr ⟨{ z with l := z.l ++ [r] }, [], rfl, h1, h2, trivial⟩
    | cons a t => exact .inr ⟨z, addLast r (a :: t), rfl, h1, h2, fileSeq_last r h3⟩
structure PL (S0 : List Sg) (pre : List BV) (s : St) : Prop where
  flat : flatS (addP S0 s.out) = flatS S0 ++ bts pre
  cons : Cons (addP S0 s.out)
  clo : Clo (addP S0 s.out)
  next : s.next = (addP S0 s.out).length
  opn : s.opn = true → s.out ≠ [] ∧ s.size = lastB (addP S0 s.out) ∧ addP S0 s.out ≠ []
  shut : s.opn = false → s.out = [] ∧ ∀ x ∈ S0, 2000 ≤ sumB x.2
  files : FilesOk S0.length s.out
theorem PL.step {S0 : List Sg} {pre : List BV} {s : St} (h : PL S0 pre s) (r : BV) : PL S0 (pre ++ [r]) (St.step (flatS S0).length pre.length r s) := by
  have hfl := congrArg List.length h.flat
  rw [List.length_append, List.length_map] at hfl
  unfold St.step
  split
  · rename_i hc
    have hall : ∀ x ∈ addP S0 s.out, 2000 ≤ sumB x.2 := by
      cases ho : s.opn with
      | true =>
        have h1 := (h.opn ho).2.1
        rw [ho] at hc
        have h2 := hc.resolve_left (by decide)
        exact clo_all h.clo (.inr (by omega))
      | false =>
        obtain ⟨h1, h2⟩ := h.shut ho
        rw [h1]
        exact h2
    have e : addP S0 (s.out ++ [⟨s.next, (flatS S0).length + pre.length, true, [r]⟩]) = addP S0 s.out ++ [((flatS S0).length + pre.length, [r.l])] := by rw [addP_snoc]; rfl
    refine ⟨?_, ?_, ?_, ?_, fun _ => ⟨by simp, ?_, ?_⟩, fun h => (by cases h), ?_⟩
    · dsimp only; rw [e, flatS_snoc, h.flat, bts_snoc, List.append_assoc]
    · dsimp only; rw [e]; exact cons_snoc.2 ⟨h.cons, by rw [hfl]⟩
    · dsimp only; rw [e]; exact clo_snoc.2 hall
    · dsimp only; rw [e, List.length_append, ← h.next]; rfl
    · dsimp only; rw [e, lastB_snoc]; simp [sumB]
    · dsimp only; rw [e]; simp
    · exact h.files.snoc h.next rfl
  · rename_i hc
    have ho : s.opn = true := by
      cases ho : s.opn with
      | true => rfl
      | false => exact (hc (.inl ho)).elim
    obtain ⟨h1, h2, h3⟩ := h.opn ho
    obtain ⟨o, a, hoa⟩ := snoc_of h1
    obtain ⟨T, t, hTt⟩ := snoc_of h3
    have e : addP S0 (addLast r s.out) = T ++ [(t.1, t.2 ++ [r.l])] := by
      rw [hoa, addLast_of, addP_snoc, add1_l, ← addP_snoc, ← hoa, hTt, modLast_snoc]
    have hf := h.flat
    have hcn := h.cons
    have hcl := h.clo
    have hnx := h.next
    rw [hTt] at hf hcn hcl hnx h2
    refine ⟨?_, ?_, ?_, ?_, fun _ => ⟨?_, ?_, ?_⟩, fun h => (by rw [ho] at h; cases h), ?_⟩
    · dsimp only; rw [e, flatS_snoc, bts_snoc, ← List.append_assoc, ← List.append_assoc, ← hf, flatS_snoc]
    · dsimp only; rw [e]; exact cons_mod hcn
    · dsimp only; rw [e]; exact clo_snoc.2 (clo_snoc.1 hcl)
    · dsimp only; rw [e, hnx]; simp
    · dsimp only; rw [hoa, addLast_of]; simp
    · dsimp only; rw [e, lastB_snoc, sumB_append, h2, lastB_snoc]; simp [sumB]
    · dsimp only; rw [e]; simp
    · exact h.files.last r
theorem PL.go {S0 : List Sg} : ∀ (t : List BV) {pre : List BV} {s : St}, PL S0 pre s → PL S0 (pre ++ t) (pgo (flatS S0).length pre.length t s)
  | [], pre, s, h => by simpa [pgo] using h
  | r :: t, pre, s, h => by
    have := PL.go t (h.step r)
    simp only [pgo]
    rw [show pre ++ r :: t = (pre ++ [r]) ++ t by simp, show pre.length + 1 = (pre ++ [r]).length by simp]
    exact this
theorem PL.start {S0 : List Sg} (hc : Cons S0) (hl : Clo S0) : PL S0 [] (st0 S0.length (lastB S0) false (flatS S0).length) := by
  unfold st0
  split
  · rename_i h
    obtain ⟨h1, _, h3⟩ := h
    have e : addP S0 [⟨S0.length - 1, (flatS S0).length, false, []⟩] = S0 := by
      show modLast S0 [] = S0
      exact modLast_nil S0
    have hne : S0 ≠ [] := fun h0 => by rw [h0] at h1; simp at h1
    exact ⟨by dsimp only; rw [e]; simp, by dsimp only; rw [e]; exact hc, by dsimp only; rw [e]; exact hl, by dsimp only; rw [e], fun _ => ⟨by simp, by dsimp only; rw [e], by dsimp only; rw [e]; exact hne⟩, fun h => (by cases h), .inr ⟨_, [], rfl, rfl, by show S0.length - 1 + 1 = _; omega, trivial⟩⟩
  · rename_i h
    refine ⟨by simp [addP], hc, hl, rfl, fun h => (by cases h), fun _ => ⟨rfl, clo_all hl ?_⟩, .inl trivial⟩
    by_cases h0 : S0 = []
    · exact .inl h0
    · right
      have : 0 < S0.length := by cases S0 with | nil => exact (h0 rfl).elim | cons => simp
      have := Nat.not_lt.1 (fun h3 => h ⟨this, rfl, h3⟩)
      exact this
theorem parts_lay {S0 : List Sg} (hc : Cons S0) (hl : Clo S0) (rs : List BV) : PL S0 rs (partsL S0.length (lastB S0) false (flatS S0).length rs) := by
  have := PL.go rs (PL.start hc hl)
  simpa [partsL] using this
theorem pokN {segs size : Nat} {sl : Bool} {f0 : Nat} {rs : List BV} (h1 : (partsL segs size sl f0 rs).next ≤ 100) (hn : rs.length ≤ 100) (h2 : f0 ≤ 100000000) (h3 : size + sumL rs ≤ 1000000000) : POk rs (partsL segs size sl f0 rs) (sumL rs + 26 * rs.length) := by
  have h := PI.go rs (PI.start segs size sl f0)
  simp only [Nat.zero_add, List.nil_append] at h
  have e : partsL segs size sl f0 rs = pgo f0 0 rs (st0 segs size sl f0) := rfl
  rw [e] at h1 ⊢
  generalize pgo f0 0 rs (st0 segs size sl f0) = s at h h1
  have hz := h.size
  refine ⟨fun z hz => ⟨?_, ?_⟩, h.mem, by have := h.len; omega, fun z hz => by have := h.pl z hz; omega, by omega, fun ps hps => ?_⟩
  · have := h.file z hz; omega
  · have := h.fst z hz; omega
  · have hb := h.byt
    have hle : pbytes ps ≤ paS s.out := by
      rw [← hps]
      have hf : ∀ z ∈ ps, z.first ≤ 1000000000 := fun z hz => by
        have := h.fst z.a (by rw [← hps]; exact List.mem_map.2 ⟨z, hz, rfl⟩)
        dsimp only [PV.a] at this
        omega
      clear hps hb
      induction ps with
      | nil => simp [pbytes, paS]
      | cons z ps ih =>
        have ih' := ih (fun y hy => hf y (List.mem_cons_of_mem _ hy))
        have hz1 := hf z (by simp)
        have hv := vb_len10 z.first (by omega)
        have e1 : (partB z).length ≤ paB z.a := by
          unfold partB paB
          rw [List.length_append, recB_len]
          cases hfr : z.fresh <;> simp [PV.a, hfr, frameB_len] <;> omega
        unfold pbytes paS at *
        simp only [List.map_cons, List.sum_cons] at ih' ⊢
        omega
    omega
end Go.Proofs.YtdldgbbhagpofaaGreatDoor

namespace Go.Proofs.YtdldgbbhagpofaaGreatDoor
open Go.Sl facts
def sgB (s : Sg) : List UInt8 := frB (vb s.1 :: s.2)
theorem recB_frB (l : List BV) : recB l = frB (bts l) := by unfold recB frB; rw [List.map_map]; rfl
def partA (a : PA) : List UInt8 := (if a.fresh then frameB (vb a.first) else []) ++ recB a.l
theorem partB_a (z : PV) : partB z = partA z.a := rfl
theorem partA_new {a : PA} (h : a.fresh = true) : partA a = sgB (a.first, bts a.l) := by
  unfold partA sgB
  rw [if_pos h, recB_frB, frB_cons]
theorem partA_old {a : PA} (h : a.fresh = false) (s : Sg) : sgB s ++ partA a = sgB (s.1, s.2 ++ bts a.l) := by
  unfold partA sgB
  rw [if_neg (by rw [h]; decide), recB_frB, List.nil_append, frB_cons, frB_cons, frB_append, List.append_assoc]
def DLay (fs : List Fi) (S : List Sg) : Prop := ∀ a, a < 100 → fdat fs (nmB a) = (S[a]?).map fun s => (sgB s, [])
theorem WrL.dat {ps : List PV} {fs gs : List Fi} (h : WrL ps fs gs) (hn : (ps.map PV.file).Nodup) (h1 : ∀ z ∈ ps, z.file < 100) : ∀ a, a < 100 → (∃ z ∈ ps, z.file = a ∧ fdat gs (nmB a) = some (fall fs (nmB a) ++ partA z.a, [])) ∨ ((∀ z ∈ ps, z.file ≠ a) ∧ fdat gs (nmB a) = fdat fs (nmB a)) := by
  induction h with
  | nil => intro a _; exact .inr ⟨fun z hz => by simp at hz, rfl⟩
  | @cons z ps fs gs hs hw hz ih =>
    intro a ha
    rw [List.map_cons, List.nodup_cons] at hn
    have ih' := ih hn.2 (fun y hy => h1 y (List.mem_cons_of_mem _ hy))
    have hzf := h1 z (by simp)
    by_cases e : a = z.file
    · subst e
      left
      refine ⟨z, by simp, rfl, ?_⟩
      rw [hz.at_, partB_a]
      rcases ih' z.file ha with ⟨y, hy, hye, _⟩ | ⟨_, h3⟩
      · exact (hn.1 (List.mem_map.2 ⟨y, hy, hye⟩)).elim
      · rw [fall_of h3]
    · have hne : nmB a ≠ nmB z.file := fun h => e (nm_inj ha hzf h)
      rw [hz.else_ _ hne]
      rcases ih' a ha with ⟨y, hy, hye, h3⟩ | ⟨h2, h3⟩
      · exact .inl ⟨y, List.mem_cons_of_mem _ hy, hye, h3⟩
      · refine .inr ⟨fun y hy => ?_, h3⟩
        rcases List.mem_cons.1 hy with rfl | hy
        · exact Ne.symm e
        · exact h2 y hy
theorem WrL.nms {ps : List PV} {fs gs : List Fi} (h : WrL ps fs gs) (h1 : ∀ z ∈ ps, z.file < 100) (hF : ∀ x ∈ fs, ∃ i, i < 100 ∧ x.nm = nmB i) : ∀ x ∈ gs, ∃ i, i < 100 ∧ x.nm = nmB i := by
  induction h with
  | nil => exact hF
  | @cons z ps fs gs hs hw hz ih => exact nms_of ⟨z.file, h1 z (by simp), rfl⟩ (ih (fun y hy => h1 y (List.mem_cons_of_mem _ hy)) hF) hz.else_
theorem fileSeq_mem : ∀ {n : Nat} {out : List PA}, fileSeq n out → ∀ z ∈ out, n ≤ z.file ∧ z.file < n + out.length ∧ out[z.file - n]? = some z ∧ z.fresh = true
  | _, [], _, z, hz => by simp at hz
  | n, w :: t, ⟨h1, h2, h3⟩, z, hz => by
    rcases List.mem_cons.1 hz with rfl | hz
    · refine ⟨by omega, by simp; omega, ?_, h2⟩
      rw [h1, Nat.sub_self]; rfl
    · obtain ⟨g1, g2, g3, g4⟩ := fileSeq_mem h3 z hz
      refine ⟨by omega, by simp; omega, ?_, g4⟩
      rw [show z.file - n = (z.file - (n + 1)) + 1 by omega]
      exact g3
theorem fileSeq_idx : ∀ {n : Nat} {out : List PA} {i : Nat} {z : PA}, fileSeq n out → out[i]? = some z → z.file = n + i
  | _, [], i, z, _, h => by simp at h
  | n, w :: t, 0, z, ⟨h1, _, _⟩, h => by simp at h; rw [← h]; omega
  | n, w :: t, i + 1, z, ⟨_, _, h3⟩, h => by have := fileSeq_idx h3 (i := i) (z := z) (by simpa using h); omega
theorem fileSeq_nodup : ∀ {n : Nat} {out : List PA}, fileSeq n out → (out.map PA.file).Nodup
  | _, [], _ => by simp
  | n, w :: t, ⟨h1, _, h3⟩ => by
    rw [List.map_cons, List.nodup_cons]
    refine ⟨fun hm => ?_, fileSeq_nodup h3⟩
    obtain ⟨z, hz, e⟩ := List.mem_map.1 hm
    have := (fileSeq_mem h3 z hz).1
    omega
theorem fileSeq_get : ∀ {n : Nat} {out : List PA} (S : List Sg), fileSeq n out → S.length = n → ∀ j, (addP S out)[j]? = if j < n then S[j]? else (out[j - n]?).map fun z => (z.first, bts z.l)
  | _, [], S, _, hn, j => by
    show S[j]? = _
    split
    · rfl
    · simp; omega
  | n, z :: t, S, ⟨h1, h2, h3⟩, hn, j => by
    show (addP (add1 S z) t)[j]? = _
    have e : add1 S z = S ++ [(z.first, bts z.l)] := by unfold add1; rw [if_pos h2]
    rw [e, fileSeq_get _ h3 (by simp; omega) j]
    by_cases hj : j < n
    · rw [if_pos (by omega), if_pos hj, List.getElem?_append_left (by omega)]
    · rw [if_neg hj]
      by_cases hj2 : j < n + 1
      · obtain rfl : j = n := by omega
        rw [if_pos hj2, List.getElem?_append_right (by omega), hn, Nat.sub_self]
        rfl
      · rw [if_neg hj2, show j - n = (j - (n + 1)) + 1 by omega]
        rfl
theorem FilesOk.nodup {n : Nat} {out : List PA} (h : FilesOk n out) : (out.map PA.file).Nodup := by
  rcases h with h | ⟨z, t, rfl, h1, h2, h3⟩
  · exact fileSeq_nodup h
  · rw [List.map_cons, List.nodup_cons]
    refine ⟨fun hm => ?_, fileSeq_nodup h3⟩
    obtain ⟨y, hy, e⟩ := List.mem_map.1 hm
    have := (fileSeq_mem h3 y hy).1
    omega
theorem ps_files {ps : List PV} {out : List PA} (h : ps.map PV.a = out) : ps.map PV.file = out.map PA.file := by rw [← h, List.map_map]; rfl
theorem DLay.none {fs : List Fi} {S : List Sg} (h : DLay fs S) {a : Nat} (ha : a < 100) (hs : S.length ≤ a) : fdat fs (nmB a) = none := by
  rw [h a ha, List.getElem?_eq_none hs]; rfl
theorem DLay.some {fs : List Fi} {S : List Sg} (h : DLay fs S) {a : Nat} (ha : a < 100) {s : Sg} (hs : S[a]? = some s) : fdat fs (nmB a) = some (sgB s, []) := by
  rw [h a ha, hs]; rfl
theorem DLay.next {fs gs : List Fi} {S : List Sg} {out : List PA} (h : DLay fs S) (hf : FilesOk S.length out) {ps : List PV} (hps : ps.map PV.a = out) (hw : WrL ps fs gs) (hT : (addP S out).length ≤ 100) : DLay gs (addP S out) := by
  have hmem : ∀ z ∈ ps, z.a ∈ out := fun z hz => by rw [← hps]; exact List.mem_map.2 ⟨z, hz, rfl⟩
  have hnd : (ps.map PV.file).Nodup := by rw [ps_files hps]; exact hf.nodup
  have hex : ∀ a ∈ out, ∃ z ∈ ps, z.a = a := fun a ha => by rw [← hps] at ha; exact List.mem_map.1 ha
  rcases hf.len with ⟨h1, h2⟩ | ⟨w, t, rfl, h1, h2, h3, h4⟩
  · have hlt : ∀ z ∈ ps, z.file < 100 := fun z hz => by
      have := (fileSeq_mem h1 z.a (hmem z hz)).2.1
      have e : z.a.file = z.file := rfl
      omega
    intro a ha
    rw [fileSeq_get S h1 rfl a]
    rcases hw.dat hnd hlt a ha with ⟨z, hz, rfl, h5⟩ | ⟨h5, h6⟩
    · obtain ⟨g1, g2, g3, g4⟩ := fileSeq_mem h1 z.a (hmem z hz)
      have e : z.a.file = z.file := rfl
      rw [e] at g1 g3
      have hno := h.none ha g1
      rw [if_neg (by omega), g3, h5]
      have hfa : fall fs (nmB z.file) = [] := by unfold fall; rw [hno]
      rw [hfa, List.nil_append, partA_new g4]
      rfl
    · rw [h6]
      by_cases hlt2 : a < S.length
      · rw [if_pos hlt2]; exact h a ha
      · rw [if_neg hlt2, h.none ha (by omega)]
        cases ho : out[a - S.length]? with
        | none => rfl
        | some z =>
          exfalso
          have hzm := List.mem_of_getElem? ho
          obtain ⟨y, hy, hye⟩ := hex z hzm
          have hix := fileSeq_idx h1 ho
          have e : y.file = z.file := by rw [← hye]
          exact h5 y hy (by omega)
  · have hlt : ∀ z ∈ ps, z.file < 100 := fun z hz => by
      have e : z.a.file = z.file := rfl
      rcases List.mem_cons.1 (hmem z hz) with h6 | h6
      · rw [h6] at e; omega
      · have := (fileSeq_mem h3 z.a h6).2.1
        omega
    have hS0 : S ≠ [] := fun h0 => by rw [h0] at h2; simp at h2
    obtain ⟨S', s, rfl⟩ := snoc_of hS0
    have e1 : addP (S' ++ [s]) (w :: t) = addP (S' ++ [(s.1, s.2 ++ bts w.l)]) t := by
      show addP (add1 _ w) t = _
      unfold add1
      rw [if_neg (by rw [h1]; decide), modLast_snoc]
    have hwf : w.file = S'.length := by simp at h2; omega
    intro a ha
    rw [e1, fileSeq_get _ h3 (by simp) a]
    simp only [List.length_append, List.length_singleton]
    rcases hw.dat hnd hlt a ha with ⟨z, hz, rfl, h5⟩ | ⟨h5, h6⟩
    · have e : z.a.file = z.file := rfl
      rcases List.mem_cons.1 (hmem z hz) with h7 | h7
      · rw [h7] at e
        have hd := h.some (a := z.file) ha (s := s) (by rw [← e, hwf]; simp)
        rw [if_pos (by omega), h5, h7]
        have hfa : fall fs (nmB z.file) = sgB s := by unfold fall; rw [hd]; simp
        rw [hfa, partA_old h1, ← e, hwf]
        simp
      · obtain ⟨g1, g2, g3, g4⟩ := fileSeq_mem h3 z.a h7
        rw [e] at g1 g3
        simp only [List.length_append, List.length_singleton] at g1 g3
        have hno := h.none ha (by simpa using g1)
        rw [if_neg (by omega), g3, h5]
        have hfa : fall fs (nmB z.file) = [] := by unfold fall; rw [hno]
        rw [hfa, List.nil_append, partA_new g4]
        rfl
    · rw [h6]
      by_cases hlt2 : a < S'.length + 1
      · rw [if_pos hlt2]
        have hne : a ≠ S'.length := fun h8 => by
          obtain ⟨y, hy, hye⟩ := hex w (by simp)
          have e : y.file = w.file := by rw [← hye]
          exact h5 y hy (by omega)
        rw [h a ha, List.getElem?_append_left (by omega), List.getElem?_append_left (by omega)]
      · rw [if_neg hlt2, h.none ha (by simp; omega)]
        cases ho : t[a - (S'.length + 1)]? with
        | none => rfl
        | some z =>
          exfalso
          have hzm := List.mem_of_getElem? ho
          obtain ⟨y, hy, hye⟩ := hex z (List.mem_cons_of_mem _ hzm)
          have hix := fileSeq_idx h3 ho
          simp only [List.length_append, List.length_singleton] at hix
          have e : y.file = z.file := by rw [← hye]
          exact h5 y hy (by omega)
end Go.Proofs.YtdldgbbhagpofaaGreatDoor

namespace Go.Proofs.YtdldgbbhagpofaaGreatDoor
open Go.Sl facts
theorem nodup_len : ∀ {l m : List Nat}, l.Nodup → (∀ x ∈ l, x ∈ m) → l.length ≤ m.length
  | [], _, _, _ => Nat.zero_le _
  | a :: l, m, hd, hs => by
    obtain ⟨h1, h2⟩ := List.nodup_cons.1 hd
    have ha := hs a (by simp)
    have h3 := nodup_len (m := m.erase a) h2 fun x hx => (List.mem_erase_of_ne (fun e => h1 (by rw [← e]; exact hx))).2 (hs x (by simp [hx]))
    rw [List.length_erase_of_mem ha] at h3
    have : 0 < m.length := List.length_pos_of_mem ha
    rw [List.length_cons]; omega
theorem fs_len {fs : List Fi} (hs : SortF fs) (hn : ∀ x ∈ fs, ∃ i, i < 100 ∧ x.nm = nmB i) : fs.length ≤ 100 := by
  have h1 : (fs.map fun x => ixOf x.nm).Nodup := by
    unfold SortF at hs
    rw [List.pairwise_map] at hs
    show List.Pairwise _ _
    rw [List.pairwise_map]
    have h2 : fs.Pairwise fun a b => (a ∈ fs ∧ b ∈ fs) ∧ ltB a.nm b.nm = true := List.Pairwise.and_mem.1 hs |>.imp fun {a b} ⟨p, q, r⟩ => ⟨⟨p, q⟩, r⟩
    refine h2.imp fun {a b} ⟨⟨ha, hb⟩, hlt⟩ e => ?_
    have e1 := (ix_nm (hn a ha)).2
    have e2 := (ix_nm (hn b hb)).2
    rw [e] at e1
    rw [e1, ← e2, ltB_irr] at hlt
    cases hlt
  have := nodup_len (m := List.range 100) h1 (fun i hi => by
    obtain ⟨x, hx, rfl⟩ := List.mem_map.1 hi
    exact List.mem_range.2 (ix_nm (hn x hx)).1)
  simpa using this
def vwS (S : List Sg) : Vw := fun a => (S[a]?).map fun s => (some s, [])
def sI (S : List Sg) (i : Nat) : Ld := ⟨flatS (S.take i), (S.take i).map fun s => s.1, lastB (S.take i), false⟩
theorem sI_len (S : List Sg) (i : Nat) (h : i ≤ S.length) : (sI S i).firsts.length = i := by simp [sI]; omega
theorem take_snocS {S : List Sg} {i : Nat} (h : i < S.length) : S.take (i + 1) = S.take i ++ [S[i]] := by rw [List.take_add_one, List.getElem?_eq_getElem h]; rfl
theorem sI_step {S : List Sg} (hc : Cons S) {V : Vw} {i : Nat} (h : i < S.length) (hV : V i = some (some S[i], [])) : ldStep V (sI S i) = some (sI S (i + 1)) := by
  have hl := sI_len S i (by omega)
  have e : ldStep V (sI S i) = if S[i].1 = (sI S i).recs.length then some ⟨(sI S i).recs ++ S[i].2, (sI S i).firsts ++ [S[i].1], sumB S[i].2, decide (([] : List UInt8) ≠ [])⟩ else none := by
    unfold ldStep
    rw [hl, hV]
  rw [e, if_pos (show S[i].1 = (sI S i).recs.length from hc i h)]
  unfold sI
  rw [take_snocS h, flatS_snoc, lastB_snoc, List.map_append]
  rfl
theorem run_S {S : List Sg} (hc : Cons S) {s : Ld} (h : Run (vwS S) s) : ∃ i, i ≤ S.length ∧ s = sI S i := by
  induction h with
  | zero => exact ⟨0, Nat.zero_le _, rfl⟩
  | @next s s' _ hs ih =>
    obtain ⟨i, hi, rfl⟩ := ih
    have h2 := (ldStep_len hs).2
    rw [sI_len S i hi] at h2
    have hlt : i < S.length := by
      rcases Nat.lt_or_ge i S.length with h3 | h3
      · exact h3
      · exact (h2 (by unfold vwS; rw [List.getElem?_eq_none h3]; rfl)).elim
    have := sI_step hc (V := vwS S) hlt (by unfold vwS; rw [List.getElem?_eq_getElem hlt]; rfl)
    rw [this] at hs
    exact ⟨i + 1, hlt, (Option.some.inj hs).symm⟩
theorem run_fin {S : List Sg} (hc : Cons S) {s : Ld} (h : Run (vwS S) s) (hf : ldStep (vwS S) s = none) : s = sI S S.length := by
  obtain ⟨i, hi, rfl⟩ := run_S hc h
  rcases Nat.lt_or_ge i S.length with h3 | h3
  · have := sI_step hc (V := vwS S) h3 (by unfold vwS; rw [List.getElem?_eq_getElem h3]; rfl)
    rw [this] at hf; cases hf
  · rw [show i = S.length by omega]
theorem flat_le {S : List Sg} (i : Nat) : (flatS (S.take i)).length ≤ (flatS S).length := by
  conv => rhs; rw [← List.take_append_drop i S, flatS_append, List.length_append]
  omega
theorem flat_mem {S : List Sg} {s : Sg} (h : s ∈ S) : ∀ r ∈ s.2, r ∈ flatS S := fun r hr => List.mem_flatMap.2 ⟨s, h, hr⟩
theorem seg_le {S : List Sg} {s : Sg} (h : s ∈ S) : s.2.length ≤ (flatS S).length := by
  obtain ⟨A, B, rfl⟩ := List.append_of_mem h
  have : flatS (A ++ s :: B) = flatS A ++ (s.2 ++ flatS B) := by simp [flatS]
  rw [this, List.length_append, List.length_append]; omega
theorem vb_short (v : Nat) (h : v ≤ 1000000) : (vb v).length ≤ 131072 := by have := vb_len10 v (by omega); omega
theorem view_S {fs : List Fi} {S : List Sg} (hd : DLay fs S) (hc : Cons S) (hl : S.length < 100) (hr : ∀ r ∈ flatS S, r.length ≤ 65536) (hn : (flatS S).length ≤ 100000) : View fs (vwS S) S.length := by
  refine ⟨hl, fun a ha h => ?_, fun a ha sg t h => ?_, by unfold vwS; rw [List.getElem?_eq_none (Nat.le_refl _)]; rfl, fun s h => ?_⟩
  · rw [hd a ha]
    unfold vwS at h
    cases hs : S[a]? with
    | none => rfl
    | some s => rw [hs] at h; cases h
  · unfold vwS at h
    cases hs : S[a]? with
    | none => rw [hs] at h; cases h
    | some s =>
      rw [hs] at h
      obtain ⟨rfl, rfl⟩ := Prod.mk.inj (Option.some.inj h)
      have hsm := List.mem_of_getElem? hs
      have hlt := (List.getElem?_eq_some_iff.1 hs).1
      have hv : s.1 ≤ 100000 := by
        have := hc a hlt
        rw [(List.getElem?_eq_some_iff.1 hs).2] at this
        have := flat_le (S := S) a
        omega
      have hsl := seg_le hsm
      refine ⟨⟨_, hd.some ha hs, ?_⟩, TornT.nil, fun r hr' => ?_, ?_, fun v rs e => ?_⟩
      · rfl
      · rcases List.mem_cons.1 (show r ∈ vb s.1 :: s.2 from hr') with rfl | h1
        · exact vb_short _ (by omega)
        · have := hr r (flat_mem hsm r h1); omega
      · show (vb s.1 :: s.2).length ≤ _
        rw [List.length_cons]; omega
      · have := congrArg Prod.fst (Option.some.inj e)
        dsimp only at this; omega
  · obtain ⟨i, hi, rfl⟩ := run_S hc h
    have := flat_le (S := S) i
    show (flatS (S.take i)).length ≤ _
    omega
theorem modLast_fst (S : List Sg) (l : List (List UInt8)) : (modLast S l).map (fun s => s.1) = S.map fun s => s.1 := by
  by_cases h : S = []
  · subst h; rfl
  · obtain ⟨T, s, rfl⟩ := snoc_of h
    rw [modLast_snoc]; simp
theorem addP_fst : ∀ (out : List PA) (S : List Sg), (addP S out).map (fun s => s.1) = (S.map fun s => s.1) ++ (out.filter (·.fresh)).map fun a => a.first
  | [], S => by simp [addP]
  | z :: t, S => by
    show (addP (add1 S z) t).map _ = _
    rw [addP_fst t]
    unfold add1
    cases h : z.fresh
    · simp only [Bool.false_eq_true, if_false]
      rw [modLast_fst, List.filter_cons_of_neg (by simp [h])]
    · simp only [if_true]
      rw [List.filter_cons_of_pos (by simpa using h)]
      simp
structure JL (S : List Sg) (x : LG) (fs : List Fi) (B U : Nat) : Prop where
  cons : Cons S
  clo : Clo S
  is_ : LdIs x (sI S S.length)
  dlay : DLay fs S
  sort : SortF fs
  nms : ∀ x ∈ fs, ∃ i, i < 100 ∧ x.nm = nmB i
  byt : sumB (flatS S) ≤ B
  used : Go.Proofs.YtdldgbbhagpofaaGreatDoor.used fs ≤ U
  rec_ : ∀ r ∈ flatS S, r.length ≤ 65536
  num : (flatS S).length ≤ U
theorem sI_all (S : List Sg) : sI S S.length = ⟨flatS S, S.map fun s => s.1, lastB S, false⟩ := by unfold sI; rw [List.take_length]
theorem JL.args {S : List Sg} {x : LG} {fs : List Fi} {B U : Nat} (h : JL S x fs B U) : x.fs.length = S.length ∧ x.size = (lastB S : Int) ∧ x.sl = false ∧ x.rs.length = (flatS S).length ∧ bts x.rs = flatS S := by
  have h1 := h.is_
  rw [sI_all] at h1
  have h2 := h1.len
  exact ⟨by have := h2.2; simpa using this, h1.size, h1.sl, h2.1, h1.recs⟩
theorem JL.start : JL [] lg0 [] 0 0 := ⟨cons_nil, fun x hx => by simp at hx, ⟨rfl, rfl, rfl, rfl⟩, fun a _ => rfl, by simp [SortF], fun x hx => by simp at hx, Nat.le_refl _, Nat.le_refl _, fun r hr => by simp [flatS] at hr, Nat.le_refl _⟩
theorem sumB_bts (rs : List BV) : sumB (bts rs) = sumL rs := by unfold sumB sumL; rw [List.map_map]; rfl
theorem JL.pok {S : List Sg} {x : LG} {fs : List Fi} {B U : Nat} (h : JL S x fs B U) {rs : List BV} (hn : rs.length ≤ 100) (hB : B + sumL rs ≤ 190000) (hU : U ≤ 1000000) : POk rs (partsL S.length (lastB S) false (flatS S).length rs) (sumL rs + 26 * rs.length) := by
  have hp := parts_lay h.cons h.clo rs
  have h1 := clo_len hp.clo
  rw [hp.flat, sumB_append, sumB_bts, ← hp.next] at h1
  have hb := h.byt
  have hnum := h.num
  have hlb : lastB S ≤ sumB (flatS S) := by
    by_cases h0 : S = []
    · subst h0; exact Nat.zero_le _
    · obtain ⟨T, s, rfl⟩ := snoc_of h0
      rw [lastB_snoc, flatS_snoc, sumB_append]; omega
  exact pokN (by omega) hn (by omega) (by omega)
theorem JL.next {S : List Sg} {x : LG} {fs : List Fi} {B U : Nat} (h : JL S x fs B U) {rs : List BV} (h0 : 0 < rs.length) (hn : rs.length ≤ 100) (hr : ∀ r ∈ rs, r.l.length ≤ 65536) (hB : B + sumL rs ≤ 190000) (hU : U ≤ 1000000) {H : HP} {w : ApX} (ha : ApOk H x rs (partsL S.length (lastB S) false (flatS S).length rs) fs w) :
    JL (addP S (partsL S.length (lastB S) false (flatS S).length rs).out) w.x w.y.fs (B + sumL rs) (U + (sumL rs + 26 * rs.length)) ∧ flatS (addP S (partsL S.length (lastB S) false (flatS S).length rs).out) = flatS S ++ bts rs := by
  have hp := parts_lay h.cons h.clo rs
  have hpk := h.pok hn hB hU
  generalize partsL S.length (lastB S) false (flatS S).length rs = st at *
  obtain ⟨ps, hps, hw⟩ := ha.wr
  have hbyt := hpk.byt ps hps
  have hlt : ∀ z ∈ ps, z.file < 100 := fun z hz => (hpk.file z.a (by rw [← hps]; exact List.mem_map.2 ⟨z, hz, rfl⟩)).1
  have h1 := clo_len hp.clo
  have hb := h.byt
  rw [hp.flat, sumB_append, sumB_bts] at h1
  have hopn : st.opn = true := by
    cases ho : st.opn with
    | true => rfl
    | false =>
      have := hp.flat
      rw [(hp.shut ho).1] at this
      have h2 := congrArg List.length this
      simp only [addP, List.foldl_nil, List.length_append, List.length_map] at h2
      omega
  have ha1 := h.args
  have hnum := h.num
  refine ⟨⟨hp.cons, hp.clo, ?_, h.dlay.next hp.files hps hw (by omega), hw.sort h.sort, hw.nms hlt h.nms, ?_, ?_, ?_, ?_⟩, hp.flat⟩
  · rw [sI_all]
    refine ⟨?_, ?_, ?_, ?_⟩
    · show bts w.x.rs = flatS _
      rw [ha.recs, hp.flat, ha1.2.2.2.2]
    · show w.x.fs = _
      rw [ha.fst, addP_fst, h.is_.fst, sI_all]
      simp [List.map_map, Function.comp_def]
    · show w.x.size = _
      rw [ha.size, (hp.opn hopn).2.1]
    · show w.x.sl = false
      rw [ha.sl, ha1.2.2.1]; rfl
  · rw [hp.flat, sumB_append, sumB_bts]; omega
  · have := hw.used
    have := h.used
    omega
  · intro r hr'
    rw [hp.flat] at hr'
    rcases List.mem_append.1 hr' with h2 | h2
    · exact h.rec_ r h2
    · obtain ⟨b, hb, rfl⟩ := List.mem_map.1 h2
      exact hr b hb
  · rw [hp.flat, List.length_append, List.length_map]; omega
theorem JL.segs {S : List Sg} {x : LG} {fs : List Fi} {B U : Nat} (h : JL S x fs B U) (hB : B ≤ 190000) : S.length < 100 := by
  have := clo_len h.clo
  have := h.byt
  omega
theorem JL.view {S : List Sg} {x : LG} {fs : List Fi} {B U : Nat} (h : JL S x fs B U) (hB : B ≤ 190000) (hU : (flatS S).length ≤ 100000) : View fs (vwS S) S.length := view_S h.dlay h.cons (h.segs hB) h.rec_ hU
end Go.Proofs.YtdldgbbhagpofaaGreatDoor
