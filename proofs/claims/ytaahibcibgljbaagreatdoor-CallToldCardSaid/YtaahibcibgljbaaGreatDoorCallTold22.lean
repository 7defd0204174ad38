/- Contracts and laws that the proof stands on. -/
import Derived.Test.YtaahibcibgljbaaGreatDoorCallTold21
set_option linter.unusedSimpArgs false
set_option linter.unusedVariables false
namespace Go.Proofs.YtaahibcibgljbaaGreatDoor
open Go.Sl facts
abbrev kAppend : ByteArray := ⟨#[97, 112, 112, 101, 110, 100]⟩
abbrev kKey : ByteArray := ⟨#[107, 101, 121]⟩
abbrev kFrom : ByteArray := ⟨#[102, 114, 111, 109]⟩
abbrev kMax : ByteArray := ⟨#[109, 97, 120]⟩
abbrev kRead : ByteArray := ⟨#[114, 101, 97, 100]⟩
abbrev kPoll : ByteArray := ⟨#[112, 111, 108, 108]⟩
abbrev kSplit : ByteArray := ⟨#[115, 112, 108, 105, 116]⟩
abbrev kMove : ByteArray := ⟨#[109, 111, 118, 101]⟩
abbrev kTo : ByteArray := ⟨#[116, 111]⟩
abbrev kMap : ByteArray := ⟨#[109, 97, 112]⟩
structure ClV where
  kind : Int := 0
  key : ByteArray := ByteArray.empty
  pv : List V := []
  stream : ByteArray := ByteArray.empty
  frm : Int := 0
  pattern : ByteArray := ByteArray.empty
  max : Int := 0
  first : Int := 0
  tt : Int := 0
structure Cl where
  kind : Int := 0
  key : ByteArray := ByteArray.empty
  pp : Option Addr := none
  pc : Nat := 0
  pts : List Pt := []
  stream : ByteArray := ByteArray.empty
  frm : Int := 0
  pattern : ByteArray := ByteArray.empty
  max : Int := 0
  first : Int := 0
  tt : Int := 0
abbrev Cl.cells (x : Cl) : List Value := [int x.kind, int 0, int 0, int 0, .string x.key, .slice x.pp x.pts.length x.pc, .string x.stream, int x.frm, int 0, int 0, int 0, int 0, .string ByteArray.empty, .string x.pattern, int x.max, int x.first, int 0, int 0, int 0, int x.tt]
structure ClAt (H : HP) (x : Cl) (d : ClV) : Prop where
  kind : x.kind = d.kind
  key : x.key = d.key
  sl : SlAt (Pile H) 3 x.pp x.pts.length (x.pts.flatMap Pt.cells)
  pts : PtsOf H d.pv x.pts
  stream : x.stream = d.stream
  frm : x.frm = d.frm
  pattern : x.pattern = d.pattern
  max : x.max = d.max
  first : x.first = d.first
  tt : x.tt = d.tt
theorem TAt.isNil {H : HP} {x : V} {w : Value} (h : TAt H x w) : (w = .nilIface ∧ x.kind = 1) ∨ (∃ t u, w = .iface t u ∧ x.kind ≠ 1) := by
  cases h with
  | nil => exact .inl ⟨rfl, rfl⟩
  | bool => exact .inr ⟨_, _, rfl, by simp [V.kind]⟩
  | int => exact .inr ⟨_, _, rfl, by simp [V.kind]⟩
  | text => exact .inr ⟨_, _, rfl, by simp [V.kind]⟩
  | list => exact .inr ⟨_, _, rfl, by simp [V.kind]⟩
  | pairs => exact .inr ⟨_, _, rfl, by simp [V.kind]⟩
  | other hk => exact .inr ⟨_, _, rfl, by simp only [V.kind]; omega⟩
theorem PtsOf.nil {H : HP} : PtsOf H [] [] := ⟨rfl, (fun _ h => by cases h), fun i _ _ _ h => by simp at h⟩
def callS (s : FS) : ClV × FS := match s.2 with
  | [] => ({}, (true, []))
  | (k, _) :: _ =>
    if k = kAppend then ({ kind := 1, pv := (putsS s kAppend).1, key := (textS (putsS s kAppend).2 kKey).1 }, (textS (putsS s kAppend).2 kKey).2)
    else if k = kFrom then ({ kind := 2, frm := (intS s kFrom).1, max := (intS (intS s kFrom).2 kMax).1, stream := (textS (intS (intS s kFrom).2 kMax).2 kRead).1 }, (textS (intS (intS s kFrom).2 kMax).2 kRead).2)
    else if k = kMax then ({ kind := 3, max := (intS s kMax).1, pattern := (textS (intS s kMax).2 kPoll).1 }, (textS (intS s kMax).2 kPoll).2)
    else if k = kSplit then ({ kind := 4, frm := (intS s kSplit).1 }, (intS s kSplit).2)
    else if k = kMove then ({ kind := 5, first := (intS s kMove).1, tt := (intS (intS s kMove).2 kTo).1 }, (intS (intS s kMove).2 kTo).2)
    else if k = kMap then ({ kind := 6 }, ((nextS s kMap).2.1 || !decide ((nextS s kMap).1.kind = 1), (nextS s kMap).2.2))
    else ({}, (true, s.2))
attribute [local irreducible] Code.wp wpList Exit.then Exit.inBlock bodyPost Back MidQ G GP QStep VStep CStep SStep Does Post Reads
set_option maxHeartbeats 16000000 in
theorem call_ {H : HP} (b : Nat) (f : Fm) (s : FS) (h : Rel H f s) (hz : SmK s) : Does Tryz.prog 33 [ptr b] [f.row b, Pile H] (X := HP × Cl × Fm) (fun y => .agg y.2.1.cells.toArray) (fun y => [y.2.2.row b, Pile y.1]) (fun y => HP.sub H y.1 ∧ ClAt y.1 y.2.1 (callS s).1 ∧ Rel y.1 y.2.2 (callS s).2) := by
  have hp := putsR b h hz kAppend
  have hnm := nextR b h kMap
  have h0 := h
  obtain ⟨p, c, ps, bad⟩ := f
  obtain ⟨⟨h1, h2, h3, h4⟩, hb, hl, hks, hat⟩ := h
  obtain ⟨sb, l⟩ := s
  dsimp only at h1 h2 h3 h4 hb hl hks hat
  subst hb
  cases ps with
  | nil =>
    obtain rfl : l = [] := List.eq_nil_of_length_eq_zero hl.symm
    dsimp only [Fm.row]
    refine fn_intro Tryz.func33 rfl Tryz.ntmps33 rfl (by simp only [argFr, Nat.zero_add, Nat.reduceAdd]; rfl) (fun Γ => ?_)
    repeat (first
      | (refine g_ops ?_; first | refine sO ?_ | refine s_n (fun _ => ?_) | refine s_app (fun _ _ => ?_) | refine s_b0 (fun _ => ?_) | ((fail_if_success refine g_lit rfl rfl rfl ?_); first | apply g_partM rfl rfl rfl | apply g_partMB rfl rfl rfl | fail))
      | refine gS ?_ | exact s_m | intro _)
    exact gR (H, {}, ⟨p, c, [], true⟩) ⟨HP.sub.refl _, ⟨rfl, rfl, SlAt.none, PtsOf.nil, rfl, rfl, rfl, rfl, rfl, rfl⟩, ⟨⟨h1, h2, h3, h4⟩, rfl, rfl, rfl, hat⟩⟩
  | cons q r =>
    cases l with
    | nil => cases hl
    | cons x l =>
    obtain ⟨k, x⟩ := x
    obtain ⟨rb, ro, rfl, hr0⟩ := slAt_elem h1 Pr.len (by decide) (i := 0) (a := q) rfl
    simp only [List.map_cons, List.cons.injEq] at hks
    obtain ⟨hkk, hks⟩ := hks
    have hr : ∀ a, a = ro + 0 * 2 + 0 → Reads (Pile H) ⟨rb, a, none⟩ (.string k) := fun a e => by have := hr0 0 _ rfl; rw [e, ← hkk]; exact this
    dsimp only [Fm.row, List.length_cons] at hp hnm ⊢
    generalize hS : callS (bad, (k, x) :: l) = S
    simp only [callS] at hS
    refine fn_intro Tryz.func33 rfl Tryz.ntmps33 rfl (by simp only [argFr, Nat.zero_add, Nat.reduceAdd]; rfl) (fun Γ => ?_)
    repeat (first
      | (refine g_ops ?_; first | refine sO ?_ | refine s_n (fun _ => ?_) | refine s_app (fun _ _ => ?_) | refine s_b0 (fun _ => ?_) | ((fail_if_success refine g_lit rfl rfl rfl ?_); first | apply g_partM rfl rfl rfl | apply g_partMB rfl rfl rfl | fail))
      | refine gS ?_ | exact s_m | intro _)
    refine g_cond_dec rfl (fun h5 => ?_) (fun h5 => ?_)
    · rw [if_pos h5] at hS
      subst hS
      repeat (first
        | (refine g_ops ?_; first | refine sO ?_ | refine s_n (fun _ => ?_) | refine s_app (fun _ _ => ?_) | refine s_b0 (fun _ => ?_) | ((fail_if_success refine g_lit rfl rfl rfl ?_); first | apply g_partM rfl rfl rfl | apply g_partMB rfl rfl rfl | fail) | refine s_c (hp) (fun _ _ => ?_))
        | refine gS ?_ | exact s_m | intro _)
      rename_i y1 hy1
      try dsimp only [List.cons_append, List.nil_append, List.append_eq]
      have c2 := textR b hy1.2.2.2 kKey
      dsimp only [Fm.row] at c2
      repeat (first
        | (refine g_ops ?_; first | refine sO ?_ | refine s_n (fun _ => ?_) | refine s_app (fun _ _ => ?_) | refine s_b0 (fun _ => ?_) | ((fail_if_success refine g_lit rfl rfl rfl ?_); first | apply g_partM rfl rfl rfl | apply g_partMB rfl rfl rfl | fail) | refine s_c (c2) (fun _ _ => ?_))
        | refine gS ?_ | exact s_m | intro _)
      rename_i f2 g2
      try dsimp only [List.cons_append, List.nil_append, List.append_eq]
      exact gR (y1.1, { kind := 1, key := _, pp := y1.2.1, pc := y1.2.2.1, pts := y1.2.2.2.1 }, f2) ⟨hy1.1, ⟨rfl, rfl, hy1.2.1, hy1.2.2.1, rfl, rfl, rfl, rfl, rfl, rfl⟩, g2⟩
    rw [if_neg h5] at hS
    repeat (first
      | (refine g_ops ?_; first | refine sO ?_ | refine s_n (fun _ => ?_) | refine s_app (fun _ _ => ?_) | refine s_b0 (fun _ => ?_) | ((fail_if_success refine g_lit rfl rfl rfl ?_); first | apply g_partM rfl rfl rfl | apply g_partMB rfl rfl rfl | fail))
      | refine gS ?_ | exact s_m | intro _)
    refine g_cond_dec rfl (fun h6 => ?_) (fun h6 => ?_)
    · rw [if_pos h6] at hS
      subst hS
      have c1 := intR b h0 kFrom
      dsimp only [Fm.row] at c1
      repeat (first
        | (refine g_ops ?_; first | refine sO ?_ | refine s_n (fun _ => ?_) | refine s_app (fun _ _ => ?_) | refine s_b0 (fun _ => ?_) | ((fail_if_success refine g_lit rfl rfl rfl ?_); first | apply g_partM rfl rfl rfl | apply g_partMB rfl rfl rfl | fail) | refine s_c (c1) (fun _ _ => ?_))
        | refine gS ?_ | exact s_m | intro _)
      rename_i f1 g1
      try dsimp only [List.cons_append, List.nil_append, List.append_eq]
      have c2 := intR b g1 kMax
      dsimp only [Fm.row] at c2
      repeat (first
        | (refine g_ops ?_; first | refine sO ?_ | refine s_n (fun _ => ?_) | refine s_app (fun _ _ => ?_) | refine s_b0 (fun _ => ?_) | ((fail_if_success refine g_lit rfl rfl rfl ?_); first | apply g_partM rfl rfl rfl | apply g_partMB rfl rfl rfl | fail) | refine s_c (c2) (fun _ _ => ?_))
        | refine gS ?_ | exact s_m | intro _)
      rename_i f2 g2
      try dsimp only [List.cons_append, List.nil_append, List.append_eq]
      have c3 := textR b g2 kRead
      dsimp only [Fm.row] at c3
      repeat (first
        | (refine g_ops ?_; first | refine sO ?_ | refine s_n (fun _ => ?_) | refine s_app (fun _ _ => ?_) | refine s_b0 (fun _ => ?_) | ((fail_if_success refine g_lit rfl rfl rfl ?_); first | apply g_partM rfl rfl rfl | apply g_partMB rfl rfl rfl | fail) | refine s_c (c3) (fun _ _ => ?_))
        | refine gS ?_ | exact s_m | intro _)
      rename_i f3 g3
      try dsimp only [List.cons_append, List.nil_append, List.append_eq]
      exact gR (H, { kind := 2, frm := _, max := _, stream := _ }, f3) ⟨HP.sub.refl _, ⟨rfl, rfl, SlAt.none, PtsOf.nil, rfl, rfl, rfl, rfl, rfl, rfl⟩, g3⟩
    rw [if_neg h6] at hS
    repeat (first
      | (refine g_ops ?_; first | refine sO ?_ | refine s_n (fun _ => ?_) | refine s_app (fun _ _ => ?_) | refine s_b0 (fun _ => ?_) | ((fail_if_success refine g_lit rfl rfl rfl ?_); first | apply g_partM rfl rfl rfl | apply g_partMB rfl rfl rfl | fail))
      | refine gS ?_ | exact s_m | intro _)
    refine g_cond_dec rfl (fun h7 => ?_) (fun h7 => ?_)
    · rw [if_pos h7] at hS
      subst hS
      have c1 := intR b h0 kMax
      dsimp only [Fm.row] at c1
      repeat (first
        | (refine g_ops ?_; first | refine sO ?_ | refine s_n (fun _ => ?_) | refine s_app (fun _ _ => ?_) | refine s_b0 (fun _ => ?_) | ((fail_if_success refine g_lit rfl rfl rfl ?_); first | apply g_partM rfl rfl rfl | apply g_partMB rfl rfl rfl | fail) | refine s_c (c1) (fun _ _ => ?_))
        | refine gS ?_ | exact s_m | intro _)
      rename_i f1 g1
      try dsimp only [List.cons_append, List.nil_append, List.append_eq]
      have c2 := textR b g1 kPoll
      dsimp only [Fm.row] at c2
      repeat (first
        | (refine g_ops ?_; first | refine sO ?_ | refine s_n (fun _ => ?_) | refine s_app (fun _ _ => ?_) | refine s_b0 (fun _ => ?_) | ((fail_if_success refine g_lit rfl rfl rfl ?_); first | apply g_partM rfl rfl rfl | apply g_partMB rfl rfl rfl | fail) | refine s_c (c2) (fun _ _ => ?_))
        | refine gS ?_ | exact s_m | intro _)
      rename_i f2 g2
      try dsimp only [List.cons_append, List.nil_append, List.append_eq]
      exact gR (H, { kind := 3, max := _, pattern := _ }, f2) ⟨HP.sub.refl _, ⟨rfl, rfl, SlAt.none, PtsOf.nil, rfl, rfl, rfl, rfl, rfl, rfl⟩, g2⟩
    rw [if_neg h7] at hS
    repeat (first
      | (refine g_ops ?_; first | refine sO ?_ | refine s_n (fun _ => ?_) | refine s_app (fun _ _ => ?_) | refine s_b0 (fun _ => ?_) | ((fail_if_success refine g_lit rfl rfl rfl ?_); first | apply g_partM rfl rfl rfl | apply g_partMB rfl rfl rfl | fail))
      | refine gS ?_ | exact s_m | intro _)
    refine g_cond_dec rfl (fun h8 => ?_) (fun h8 => ?_)
    · rw [if_pos h8] at hS
      subst hS
      have c1 := intR b h0 kSplit
      dsimp only [Fm.row] at c1
      repeat (first
        | (refine g_ops ?_; first | refine sO ?_ | refine s_n (fun _ => ?_) | refine s_app (fun _ _ => ?_) | refine s_b0 (fun _ => ?_) | ((fail_if_success refine g_lit rfl rfl rfl ?_); first | apply g_partM rfl rfl rfl | apply g_partMB rfl rfl rfl | fail) | refine s_c (c1) (fun _ _ => ?_))
        | refine gS ?_ | exact s_m | intro _)
      rename_i f1 g1
      try dsimp only [List.cons_append, List.nil_append, List.append_eq]
      exact gR (H, { kind := 4, frm := _ }, f1) ⟨HP.sub.refl _, ⟨rfl, rfl, SlAt.none, PtsOf.nil, rfl, rfl, rfl, rfl, rfl, rfl⟩, g1⟩
    rw [if_neg h8] at hS
    repeat (first
      | (refine g_ops ?_; first | refine sO ?_ | refine s_n (fun _ => ?_) | refine s_app (fun _ _ => ?_) | refine s_b0 (fun _ => ?_) | ((fail_if_success refine g_lit rfl rfl rfl ?_); first | apply g_partM rfl rfl rfl | apply g_partMB rfl rfl rfl | fail))
      | refine gS ?_ | exact s_m | intro _)
    refine g_cond_dec rfl (fun h9 => ?_) (fun h9 => ?_)
    · rw [if_pos h9] at hS
      subst hS
      have c1 := intR b h0 kMove
      dsimp only [Fm.row] at c1
      repeat (first
        | (refine g_ops ?_; first | refine sO ?_ | refine s_n (fun _ => ?_) | refine s_app (fun _ _ => ?_) | refine s_b0 (fun _ => ?_) | ((fail_if_success refine g_lit rfl rfl rfl ?_); first | apply g_partM rfl rfl rfl | apply g_partMB rfl rfl rfl | fail) | refine s_c (c1) (fun _ _ => ?_))
        | refine gS ?_ | exact s_m | intro _)
      rename_i f1 g1
      try dsimp only [List.cons_append, List.nil_append, List.append_eq]
      have c2 := intR b g1 kTo
      dsimp only [Fm.row] at c2
      repeat (first
        | (refine g_ops ?_; first | refine sO ?_ | refine s_n (fun _ => ?_) | refine s_app (fun _ _ => ?_) | refine s_b0 (fun _ => ?_) | ((fail_if_success refine g_lit rfl rfl rfl ?_); first | apply g_partM rfl rfl rfl | apply g_partMB rfl rfl rfl | fail) | refine s_c (c2) (fun _ _ => ?_))
        | refine gS ?_ | exact s_m | intro _)
      rename_i f2 g2
      try dsimp only [List.cons_append, List.nil_append, List.append_eq]
      exact gR (H, { kind := 5, first := _, tt := _ }, f2) ⟨HP.sub.refl _, ⟨rfl, rfl, SlAt.none, PtsOf.nil, rfl, rfl, rfl, rfl, rfl, rfl⟩, g2⟩
    rw [if_neg h9] at hS
    repeat (first
      | (refine g_ops ?_; first | refine sO ?_ | refine s_n (fun _ => ?_) | refine s_app (fun _ _ => ?_) | refine s_b0 (fun _ => ?_) | ((fail_if_success refine g_lit rfl rfl rfl ?_); first | apply g_partM rfl rfl rfl | apply g_partMB rfl rfl rfl | fail))
      | refine gS ?_ | exact s_m | intro _)
    refine g_cond_dec rfl (fun h10 => ?_) (fun h10 => ?_)
    · rw [if_pos h10] at hS
      subst hS
      repeat (first
        | (refine g_ops ?_; first | refine sO ?_ | refine s_n (fun _ => ?_) | refine s_app (fun _ _ => ?_) | refine s_b0 (fun _ => ?_) | ((fail_if_success refine g_lit rfl rfl rfl ?_); first | apply g_partM rfl rfl rfl | apply g_partMB rfl rfl rfl | fail) | refine s_c (hnm) (fun _ _ => ?_))
        | refine gS ?_ | exact s_m | intro _)
      rename_i y1 hy1
      obtain ⟨w, f1⟩ := y1
      obtain ⟨hw, g1⟩ := hy1
      have hbad := g1.bad
      obtain ⟨p1, c1, ps1, bad1⟩ := f1
      dsimp only at hw g1 hbad ⊢
      try dsimp only [List.cons_append, List.nil_append, List.append_eq]
      rcases hw.isNil with ⟨rfl, hk⟩ | ⟨t, u, rfl, hk⟩
      · rw [decide_eq_true hk, Bool.not_true, Bool.or_false]
        repeat (first
          | (refine g_ops ?_; first | refine sO ?_ | refine s_n (fun _ => ?_) | refine s_app (fun _ _ => ?_) | refine s_b0 (fun _ => ?_) | ((fail_if_success refine g_lit rfl rfl rfl ?_); first | apply g_partM rfl rfl rfl | apply g_partMB rfl rfl rfl | fail))
          | refine gS ?_ | exact s_m | intro _)
        exact gR (H, { kind := 6 }, ⟨p1, c1, ps1, bad1⟩) ⟨HP.sub.refl _, ⟨rfl, rfl, SlAt.none, PtsOf.nil, rfl, rfl, rfl, rfl, rfl, rfl⟩, g1⟩
      · rw [decide_eq_false hk, Bool.not_false, Bool.or_true]
        repeat (first
          | (refine g_ops ?_; first | refine sO ?_ | refine s_n (fun _ => ?_) | refine s_app (fun _ _ => ?_) | refine s_b0 (fun _ => ?_) | ((fail_if_success refine g_lit rfl rfl rfl ?_); first | apply g_partM rfl rfl rfl | apply g_partMB rfl rfl rfl | fail))
          | refine gS ?_ | exact s_m | intro _)
        exact gR (H, { kind := 6 }, ⟨p1, c1, ps1, true⟩) ⟨HP.sub.refl _, ⟨rfl, rfl, SlAt.none, PtsOf.nil, rfl, rfl, rfl, rfl, rfl, rfl⟩, g1.setBad true⟩
    rw [if_neg h10] at hS
    subst hS
    repeat (first
      | (refine g_ops ?_; first | refine sO ?_ | refine s_n (fun _ => ?_) | refine s_app (fun _ _ => ?_) | refine s_b0 (fun _ => ?_) | ((fail_if_success refine g_lit rfl rfl rfl ?_); first | apply g_partM rfl rfl rfl | apply g_partMB rfl rfl rfl | fail))
      | refine gS ?_ | exact s_m | intro _)
    exact gR (H, {}, ⟨some ⟨rb, ro, none⟩, c, q :: r, true⟩) ⟨HP.sub.refl _, ⟨rfl, rfl, SlAt.none, PtsOf.nil, rfl, rfl, rfl, rfl, rfl, rfl⟩, h0.setBad true⟩
end Go.Proofs.YtaahibcibgljbaaGreatDoor

namespace Go.Proofs.YtaahibcibgljbaaGreatDoor
open Go.Sl facts
theorem kids_sz (x : V) : x.kids.length ≤ szV x ∧ ∀ y ∈ x.kids, szV y ≤ szV x := by
  obtain ⟨k, y, n, s, ks, l⟩ := x
  rw [szV_mk]
  simp only [V.kids]
  have := szK_len l
  exact ⟨by omega, fun y hy => by have := szK_mem hy; omega⟩
def Bnd2 (v : V) : Prop := v.kids.length ≤ 100000 ∧ ∀ x ∈ v.kids, x.kids.length ≤ 100000 ∧ ∀ y ∈ x.kids, y.kids.length ≤ 100000
theorem Bnd2.of {v : V} (h : szV v ≤ 100000) : Bnd2 v := by
  have h0 := kids_sz v
  refine ⟨by omega, fun x hx => ?_⟩
  have h1 := h0.2 x hx
  have h2 := kids_sz x
  exact ⟨by omega, fun y hy => by have := h2.2 y hy; have := (kids_sz y).1; omega⟩
theorem smK_of {v : V} (h : Bnd2 v) (b : Bool) (ks : List ByteArray) : SmK (b, ks.zip v.kids) := fun x hx =>
  h.2 x.2 (List.of_mem_zip (a := x.1) (b := x.2) hx).2
structure PAt (H : HP) (x : V) (p : Option Addr) (c : Nat) (ps : List Pr) : Prop where
  k : x.kind = 6
  l : ps.length = x.kids.length
  b : x.kids.length ≤ 9223372036854775807
  c : x.kids.length ≤ c
  ks : x.keys = ps.map Pr.k
  s : SlAt (Pile H) 2 p x.kids.length (ps.flatMap Pr.cells)
  h : ∀ (i : Nat) a q, x.kids[i]? = some a → ps[i]? = some q → TAt H a q.v
theorem TAt.prs {H : HP} {x : V} {w : Value} (h : TAt H x w) : (∃ p c ps, w = .iface 89 (.slice p x.kids.length c) ∧ PAt H x p c ps) ∨ (Other 89 w ∧ x.kind ≠ 6) := by
  cases h with
  | nil => exact .inr ⟨.inl rfl, by simp [V.kind]⟩
  | bool => exact .inr ⟨.inr ⟨_, _, rfl, rfl⟩, by simp [V.kind]⟩
  | int => exact .inr ⟨.inr ⟨_, _, rfl, rfl⟩, by simp [V.kind]⟩
  | text => exact .inr ⟨.inr ⟨_, _, rfl, rfl⟩, by simp [V.kind]⟩
  | list => exact .inr ⟨.inr ⟨_, _, rfl, rfl⟩, by simp [V.kind]⟩
  | pairs ps hv hl hk hz hS h => exact .inl ⟨_, _, ps, rfl, rfl, hv, hl.1, hl.2, hk, hS, h⟩
  | other hk h1 h2 h3 h4 h5 => exact .inr ⟨.inr ⟨_, _, rfl, h5⟩, by simp only [V.kind]; omega⟩
theorem PAt.rel {H : HP} {v : V} {p : Option Addr} {c : Nat} {ps : List Pr} (h : PAt H v p c ps) (hz : v.kids.length ≤ 1000000000) : Rel H ⟨p, c, ps, false⟩ (false, v.keys.zip v.kids) := by
  have hkl : v.keys.length = v.kids.length := by rw [h.ks, List.length_map, h.l]
  refine ⟨⟨by dsimp only; rw [h.l]; exact h.s, by dsimp only; rw [h.l]; exact hz, by dsimp only; rw [h.l]; exact h.c, fun q hq => ?_⟩, rfl, ?_, ?_, fun i x q h1 h2 => ?_⟩
  · obtain ⟨i, hi, rfl⟩ := List.mem_iff_getElem.1 hq
    have hi : i < ps.length := hi
    exact (h.h i _ _ (List.getElem?_eq_getElem (by rw [← h.l]; exact hi)) (List.getElem?_eq_getElem hi)).shape
  · simp only [List.length_zip, hkl, h.l, Nat.min_self]
  · dsimp only
    rw [List.map_fst_zip (by omega), h.ks]
  · have h1' := h1
    dsimp only at h1 h2
    rw [List.getElem?_zip_eq_some] at h1
    exact h.h i _ _ h1.2 h2
def ofOk (v : V) : Bool := decide (v.kind = 6 ∧ (weigh v 0 0).1 = 0 ∧ (callS (false, v.keys.zip v.kids)).2.1 = false ∧ (callS (false, v.keys.zip v.kids)).2.2 = [])
def ofC (v : V) : ClV := if ofOk v = true then (callS (false, v.keys.zip v.kids)).1 else {}
theorem ClAt.zero {H : HP} : ClAt H {} {} := ⟨rfl, rfl, SlAt.none, PtsOf.nil, rfl, rfl, rfl, rfl, rfl, rfl⟩
attribute [local irreducible] Code.wp wpList Exit.then Exit.inBlock bodyPost Back MidQ G GP QStep VStep CStep SStep Does Post Reads
attribute [local irreducible] weigh weighL callS
set_option maxHeartbeats 16000000 in
theorem of1 {H : HP} (hV : VStr H) {v : V} {w : Value} (hw : TAt H v w) (hz : Bnd2 v) : Does Tryz.prog 17 [w] [Pile H] (X := HP × Cl) (fun y => .tuple #[.agg y.2.cells.toArray, int (if ofOk v = true then 0 else 1)]) (fun y => [Pile y.1]) (fun y => HP.sub H y.1 ∧ ClAt y.1 y.2 (ofC v)) := by
  have hc := check1 hV hw
  have hno : ofOk v = false → ofC v = {} := fun h => by unfold ofC; rw [h]; rfl
  have hyes : ofOk v = true → ofC v = (callS (false, v.keys.zip v.kids)).1 := fun h => by unfold ofC; rw [h]; rfl
  rcases hw.prs with ⟨p, c, ps, rfl, hP⟩ | ⟨ho, hk⟩
  · have hkl := hz.1
    have hR := hP.rel (by omega)
    have hS := smK_of hz false v.keys
    rw [← hP.l] at hc ⊢
    have hcall := fun b => call_ b _ _ hR hS
    dsimp only [Fm.row] at hcall
    by_cases hw0 : (weigh v 0 0).1 = 0
    · have hok : ofOk v = decide ((callS (false, v.keys.zip v.kids)).2.1 = false ∧ (callS (false, v.keys.zip v.kids)).2.2 = []) := by unfold ofOk; simp [hP.k, hw0]
      generalize callS (false, v.keys.zip v.kids) = S at hcall hok hyes
      refine fn_intro Tryz.func17 rfl Tryz.ntmps17 rfl (by simp only [argFr, Nat.zero_add, Nat.reduceAdd]; rfl) (fun Γ => ?_)
      repeat (first
        | (refine g_ops ?_; first | refine sO ?_ | refine s_n (fun _ => ?_) | refine s_app (fun _ _ => ?_) | refine s_b0 (fun _ => ?_) | ((fail_if_success refine g_lit rfl rfl rfl ?_); first | apply g_partM rfl rfl rfl | apply g_partMB rfl rfl rfl | fail) | refine s_k (hc) ?_)
        | refine gS ?_ | exact s_m | intro _)
      refine g_as 19 (v' := .bool false) rfl (congrArg Value.bool (decide_eq_false (fun h => h hw0))) ?_
      repeat (first
        | (refine g_ops ?_; first | refine sO ?_ | refine s_n (fun _ => ?_) | refine s_app (fun _ _ => ?_) | refine s_b0 (fun _ => ?_) | ((fail_if_success refine g_lit rfl rfl rfl ?_); first | apply g_partM rfl rfl rfl | apply g_partMB rfl rfl rfl | fail))
        | refine gS ?_ | exact s_m | intro _)
      rename_i fb
      have hcb := hcall fb
      repeat (first
        | (refine g_ops ?_; first | refine sO ?_ | refine s_n (fun _ => ?_) | refine s_app (fun _ _ => ?_) | refine s_b0 (fun _ => ?_) | ((fail_if_success refine g_lit rfl rfl rfl ?_); first | apply g_partM rfl rfl rfl | apply g_partMB rfl rfl rfl | fail) | refine s_c (hcb) (fun _ _ => ?_))
        | refine gS ?_ | exact s_m | intro _)
      rename_i y1 hy1 b7
      obtain ⟨H1, cl, f1⟩ := y1
      obtain ⟨hs1, hcl, hr1⟩ := hy1
      have hb1 := hr1.bad
      have hl1 := hr1.len
      obtain ⟨p1, c1, ps1, bad1⟩ := f1
      dsimp only at hs1 hcl hr1 hb1 hl1 ⊢
      try dsimp only [List.cons_append, List.nil_append, List.append_eq]
      cases bad1 with
      | true =>
        have hof : ofOk v = false := by rw [hok, ← hb1]; simp
        rw [hof]
        repeat (first
          | (refine g_ops ?_; first | refine sO ?_ | refine s_n (fun _ => ?_) | refine s_app (fun _ _ => ?_) | refine s_b0 (fun _ => ?_) | ((fail_if_success refine g_lit rfl rfl rfl ?_); first | apply g_partM rfl rfl rfl | apply g_partMB rfl rfl rfl | fail))
          | refine gS ?_ | exact s_m | intro _)
        exact gR (H1, {}) ⟨hs1, by rw [hno hof]; exact ClAt.zero⟩
      | false =>
        by_cases hl0 : ps1.length = 0
        · have hof : ofOk v = true := by
            rw [hok, ← hb1]
            simpa using List.eq_nil_of_length_eq_zero (by rw [← hl1]; exact hl0)
          rw [hof]
          repeat (first
            | (refine g_ops ?_; first | refine sO ?_ | refine s_n (fun _ => ?_) | refine s_app (fun _ _ => ?_) | refine s_b0 (fun _ => ?_) | ((fail_if_success refine g_lit rfl rfl rfl ?_); first | apply g_partM rfl rfl rfl | apply g_partMB rfl rfl rfl | fail))
            | refine gS ?_ | exact s_m | intro _)
          refine g_as 37 (v' := .bool false) rfl (congrArg Value.bool (decide_eq_false (by omega))) ?_
          repeat (first
            | (refine g_ops ?_; first | refine sO ?_ | refine s_n (fun _ => ?_) | refine s_app (fun _ _ => ?_) | refine s_b0 (fun _ => ?_) | ((fail_if_success refine g_lit rfl rfl rfl ?_); first | apply g_partM rfl rfl rfl | apply g_partMB rfl rfl rfl | fail))
            | refine gS ?_ | exact s_m | intro _)
          exact gR (H1, cl) ⟨hs1, by rw [hyes hof]; exact hcl⟩
        · have hof : ofOk v = false := by
            rw [hok, ← hb1]
            have : ¬ S.2.2 = [] := fun e => hl0 (by rw [hl1, e]; rfl)
            simp [this]
          rw [hof]
          repeat (first
            | (refine g_ops ?_; first | refine sO ?_ | refine s_n (fun _ => ?_) | refine s_app (fun _ _ => ?_) | refine s_b0 (fun _ => ?_) | ((fail_if_success refine g_lit rfl rfl rfl ?_); first | apply g_partM rfl rfl rfl | apply g_partMB rfl rfl rfl | fail))
            | refine gS ?_ | exact s_m | intro _)
          refine g_as 37 (v' := .bool true) rfl (congrArg Value.bool (decide_eq_true (by omega))) ?_
          repeat (first
            | (refine g_ops ?_; first | refine sO ?_ | refine s_n (fun _ => ?_) | refine s_app (fun _ _ => ?_) | refine s_b0 (fun _ => ?_) | ((fail_if_success refine g_lit rfl rfl rfl ?_); first | apply g_partM rfl rfl rfl | apply g_partMB rfl rfl rfl | fail))
            | refine gS ?_ | exact s_m | intro _)
          exact gR (H1, {}) ⟨hs1, by rw [hno hof]; exact ClAt.zero⟩
    · have hok : ofOk v = false := by unfold ofOk; simp [hw0]
      rw [hok]
      refine fn_intro Tryz.func17 rfl Tryz.ntmps17 rfl (by simp only [argFr, Nat.zero_add, Nat.reduceAdd]; rfl) (fun Γ => ?_)
      repeat (first
        | (refine g_ops ?_; first | refine sO ?_ | refine s_n (fun _ => ?_) | refine s_app (fun _ _ => ?_) | refine s_b0 (fun _ => ?_) | ((fail_if_success refine g_lit rfl rfl rfl ?_); first | apply g_partM rfl rfl rfl | apply g_partMB rfl rfl rfl | fail) | refine s_k (hc) ?_)
        | refine gS ?_ | exact s_m | intro _)
      refine g_as 19 (v' := .bool true) rfl (congrArg Value.bool (decide_eq_true hw0)) ?_
      repeat (first
        | (refine g_ops ?_; first | refine sO ?_ | refine s_n (fun _ => ?_) | refine s_app (fun _ _ => ?_) | refine s_b0 (fun _ => ?_) | ((fail_if_success refine g_lit rfl rfl rfl ?_); first | apply g_partM rfl rfl rfl | apply g_partMB rfl rfl rfl | fail))
        | refine gS ?_ | exact s_m | intro _)
      exact gR (H, {}) ⟨HP.sub.refl _, by rw [hno hok]; exact ClAt.zero⟩
  · have hok : ofOk v = false := by unfold ofOk; simp [hk]
    rw [hok]
    rcases ho with rfl | ⟨t, u, rfl, ne⟩
    · refine fn_intro Tryz.func17 rfl Tryz.ntmps17 rfl (by simp only [argFr, Nat.zero_add, Nat.reduceAdd]; rfl) (fun Γ => ?_)
      repeat (first
        | (refine g_ops ?_; first | refine sO ?_ | refine s_n (fun _ => ?_) | refine s_app (fun _ _ => ?_) | refine s_b0 (fun _ => ?_) | ((fail_if_success refine g_lit rfl rfl rfl ?_); first | apply g_partM rfl rfl rfl | apply g_partMB rfl rfl rfl | fail))
        | refine gS ?_ | exact s_m | intro _)
      exact gR (H, {}) ⟨HP.sub.refl _, by rw [hno hok]; exact ClAt.zero⟩
    · refine fn_intro Tryz.func17 rfl Tryz.ntmps17 rfl (by simp only [argFr, Nat.zero_add, Nat.reduceAdd]; rfl) (fun Γ => ?_)
      repeat (first
        | (refine g_ops ?_; first | refine sO ?_ | refine s_n (fun _ => ?_) | refine s_app (fun _ _ => ?_) | refine s_b0 (fun _ => ?_) | ((fail_if_success refine g_lit rfl rfl rfl ?_); first | apply g_partM rfl rfl rfl | apply g_partMB rfl rfl rfl | fail))
        | refine gS ?_ | exact s_m | intro _)
      exact gR (H, {}) ⟨HP.sub.refl _, by rw [hno hok]; exact ClAt.zero⟩
end Go.Proofs.YtaahibcibgljbaaGreatDoor

namespace Go.Proofs.YtaahibcibgljbaaGreatDoor
open Go.Sl facts
attribute [local irreducible] Code.wp wpList Exit.then Exit.inBlock bodyPost Back MidQ G GP QStep VStep CStep SStep Does Post Reads
structure PdX where
  k : Nat
  q : Option Addr
  c : Nat
end Go.Proofs.YtaahibcibgljbaaGreatDoor

namespace Go.Proofs.YtaahibcibgljbaaGreatDoor
open Go.Sl facts
def isF (v : V) (ks : List ByteArray) (kd : List Int) : Prop := v.kind = 6 ∧ v.keys = ks ∧ (v.kids.take kd.length).map V.kind = kd
instance (v : V) (ks : List ByteArray) (kd : List Int) : Decidable (isF v ks kd) := by unfold isF; infer_instance
def kid (v : V) (i : Nat) : V := v.kids.getD i nilV
def docOf (v : V) : Option ClV :=
  if (weigh v 0 0).1 ≠ 0 then none
  else if isF v [kAppend, kKey] [5, 4] then (if ((kid v 0).kids.all fun x => (putV x).isSome) = true then some { kind := 1, key := (kid v 1).s, pv := (kid v 0).kids } else none)
  else if isF v [kFrom, kMax, kRead] [3, 3, 4] then some { kind := 2, frm := (kid v 0).n, max := (kid v 1).n, stream := (kid v 2).s }
  else if isF v [kMax, kPoll] [3, 4] then some { kind := 3, max := (kid v 0).n, pattern := (kid v 1).s }
  else if isF v [kSplit] [3] then some { kind := 4, frm := (kid v 0).n }
  else if isF v [kMove, kTo] [3, 3] then some { kind := 5, first := (kid v 0).n, tt := (kid v 1).n }
  else if isF v [kMap] [1] then some { kind := 6 }
  else none
attribute [local irreducible] Code.wp wpList Exit.then Exit.inBlock bodyPost Back MidQ G GP QStep VStep CStep SStep Does Post Reads
attribute [local irreducible] weigh weighL
structure PoX where
  k : Nat
  q : Option Addr
  c : Nat
  pts : List Pt
  H : HP
end Go.Proofs.YtaahibcibgljbaaGreatDoor

namespace Go.Proofs.YtaahibcibgljbaaGreatDoor
open Go.Sl facts
attribute [local irreducible] weigh weighL
theorem app_first {l : List (ByteArray × V)} {k : ByteArray} {x : V} : nextS (false, (k, x) :: l) k = (x, (false, l)) := by simp [nextS]
theorem next_bad (l : List (ByteArray × V)) (key : ByteArray) : (nextS (true, l) key).2.1 = true := by
  cases l with
  | nil => rfl
  | cons a l => simp [nextS]
theorem int_bad (l : List (ByteArray × V)) (key : ByteArray) : (intS (true, l) key).2.1 = true := by unfold intS; dsimp only; rw [next_bad]; rfl
theorem text_bad (l : List (ByteArray × V)) (key : ByteArray) : (textS (true, l) key).2.1 = true := by unfold textS; dsimp only; rw [next_bad]; rfl
theorem int_ok {s : FS} {key : ByteArray} (h : (intS s key).2.1 = false) : ∃ x r, s = (false, (key, x) :: r) ∧ x.kind = 3 ∧ intS s key = (x.n, (false, r)) := by
  obtain ⟨b, l⟩ := s
  cases b with
  | true => rw [int_bad] at h; cases h
  | false =>
    cases l with
    | nil => simp [intS, nextS] at h
    | cons a l =>
      obtain ⟨k, x⟩ := a
      by_cases hk : k = key
      · subst hk
        unfold intS at h ⊢
        rw [app_first] at h ⊢
        simp only [Bool.false_or, Bool.not_eq_false', decide_eq_true_eq] at h
        exact ⟨x, l, rfl, h, by simp [h, numV]⟩
      · simp [intS, nextS, hk] at h
theorem text_ok {s : FS} {key : ByteArray} (h : (textS s key).2.1 = false) : ∃ x r, s = (false, (key, x) :: r) ∧ x.kind = 4 ∧ textS s key = (x.s, (false, r)) := by
  obtain ⟨b, l⟩ := s
  cases b with
  | true => rw [text_bad] at h; cases h
  | false =>
    cases l with
    | nil => simp [textS, nextS] at h
    | cons a l =>
      obtain ⟨k, x⟩ := a
      by_cases hk : k = key
      · subst hk
        unfold textS at h ⊢
        rw [app_first] at h ⊢
        simp only [Bool.false_or, Bool.not_eq_false', decide_eq_true_eq] at h
        exact ⟨x, l, rfl, h, by simp [h, strV]⟩
      · simp [textS, nextS, hk] at h
theorem puts_ok {s : FS} {key : ByteArray} (h : (putsS s key).2.1 = false) : ∃ x r, s = (false, (key, x) :: r) ∧ x.kind = 5 ∧ (x.kids.all fun y => (putV y).isSome) = true ∧ putsS s key = (x.kids, (false, r)) := by
  obtain ⟨b, l⟩ := s
  cases b with
  | true =>
    unfold putsS at h; dsimp only at h; rw [next_bad] at h; cases h
  | false =>
    cases l with
    | nil => simp [putsS, nextS, nilV, V.kind] at h
    | cons a l =>
      obtain ⟨k, x⟩ := a
      by_cases hk : k = key
      · subst hk
        unfold putsS at h ⊢
        rw [app_first] at h ⊢
        simp only [Bool.false_or, Bool.not_eq_false', Bool.and_eq_true, decide_eq_true_eq] at h
        exact ⟨x, l, rfl, h.1, h.2, by simp [h.1, h.2]⟩
      · simp [putsS, nextS, hk] at h
theorem map_ok {s : FS} {key : ByteArray} (h : ((nextS s key).2.1 || !decide ((nextS s key).1.kind = 1)) = false) : ∃ x r, s = (false, (key, x) :: r) ∧ x.kind = 1 ∧ nextS s key = (x, (false, r)) := by
  obtain ⟨b, l⟩ := s
  cases b with
  | true => rw [next_bad] at h; cases h
  | false =>
    cases l with
    | nil => simp [nextS] at h
    | cons a l =>
      obtain ⟨k, x⟩ := a
      by_cases hk : k = key
      · subst hk
        rw [app_first] at h ⊢
        simp only [Bool.false_or, Bool.not_eq_false', decide_eq_true_eq] at h
        exact ⟨x, l, rfl, h, rfl⟩
      · simp [nextS, hk] at h
theorem not_isF {v : V} {ks ks' : List ByteArray} {kd : List Int} (h : v.keys = ks') (hne : ks' ≠ ks) : ¬ isF v ks kd := fun hf => hne (h.symm.trans hf.2.1)
theorem unzip_ {ks : List ByteArray} {l : List V} (hl : ks.length = l.length) {z : List (ByteArray × V)} (h : ks.zip l = z) : ks = z.map Prod.fst ∧ l = z.map Prod.snd := by
  subst h
  exact ⟨(List.map_fst_zip (by omega)).symm, (List.map_snd_zip (by omega)).symm⟩
set_option maxHeartbeats 4000000 in
theorem doc_of {v : V} (hl : v.kind = 6 → v.keys.length = v.kids.length) (h : ofOk v = true) : docOf v = some (callS (false, v.keys.zip v.kids)).1 := by
  unfold ofOk at h
  obtain ⟨hk, hw, hb, he⟩ := of_decide_eq_true h
  have hl := hl hk
  have hz := unzip_ hl rfl
  generalize v.keys.zip v.kids = z at hb he hz ⊢
  obtain ⟨hz1, hz2⟩ := hz
  unfold docOf
  rw [if_neg (fun h => h hw)]
  cases z with
  | nil => simp [callS] at hb
  | cons q z =>
    obtain ⟨k, x⟩ := q
    unfold callS at hb he ⊢
    dsimp only at hb he ⊢
    by_cases h1 : k = kAppend
    · rw [if_pos h1] at hb he ⊢
      obtain ⟨b, r2, e1, hb4, e2⟩ := text_ok hb
      obtain ⟨a, r1, e3, ha5, hap, e4⟩ := puts_ok (by rw [e1])
      rw [e4] at e1 e2 he ⊢
      simp only [Prod.mk.injEq, true_and] at e1
      simp only [e2] at he ⊢
      subst he
      simp only [Prod.mk.injEq, List.cons.injEq, true_and] at e3
      obtain ⟨⟨rfl, rfl⟩, rfl⟩ := e3
      subst e1
      simp only [List.map_cons, List.map_nil] at hz1 hz2
      rw [if_pos ⟨hk, hz1, by rw [hz2]; simp [ha5, hb4]⟩]
      simp only [kid, hz2, List.getD_cons_zero, List.getD_cons_succ]
      rw [if_pos hap]
    rw [if_neg h1] at hb he ⊢
    by_cases h2 : k = kFrom
    · rw [if_pos h2] at hb he ⊢
      obtain ⟨c, r3, e1, hc4, e2⟩ := text_ok hb
      obtain ⟨b, r2, e3, hb3, e4⟩ := int_ok (by rw [e1])
      obtain ⟨a, r1, e5, ha3, e6⟩ := int_ok (by rw [e3])
      rw [e6] at e1 e2 e3 e4 he ⊢
      simp only [Prod.mk.injEq, true_and] at e3
      rw [e4] at e1 e2 he ⊢
      simp only [Prod.mk.injEq, true_and] at e1
      simp only [e2] at he ⊢
      subst he
      simp only [Prod.mk.injEq, List.cons.injEq, true_and] at e5
      obtain ⟨⟨rfl, rfl⟩, rfl⟩ := e5
      subst e3
      subst e1
      simp only [List.map_cons, List.map_nil] at hz1 hz2
      rw [if_neg (not_isF hz1 (by decide)), if_pos ⟨hk, hz1, by rw [hz2]; simp [ha3, hb3, hc4]⟩]
      simp only [kid, hz2, List.getD_cons_zero, List.getD_cons_succ]
    rw [if_neg h2] at hb he ⊢
    by_cases h3 : k = kMax
    · rw [if_pos h3] at hb he ⊢
      obtain ⟨b, r2, e1, hb4, e2⟩ := text_ok hb
      obtain ⟨a, r1, e3, ha3, e4⟩ := int_ok (by rw [e1])
      rw [e4] at e1 e2 he ⊢
      simp only [Prod.mk.injEq, true_and] at e1
      simp only [e2] at he ⊢
      subst he
      simp only [Prod.mk.injEq, List.cons.injEq, true_and] at e3
      obtain ⟨⟨rfl, rfl⟩, rfl⟩ := e3
      subst e1
      simp only [List.map_cons, List.map_nil] at hz1 hz2
      rw [if_neg (not_isF hz1 (by decide)), if_neg (not_isF hz1 (by decide)), if_pos ⟨hk, hz1, by rw [hz2]; simp [ha3, hb4]⟩]
      simp only [kid, hz2, List.getD_cons_zero, List.getD_cons_succ]
    rw [if_neg h3] at hb he ⊢
    by_cases h4 : k = kSplit
    · rw [if_pos h4] at hb he ⊢
      obtain ⟨a, r1, e3, ha3, e4⟩ := int_ok hb
      rw [e4] at he ⊢
      dsimp only at he
      subst he
      simp only [Prod.mk.injEq, List.cons.injEq, true_and] at e3
      obtain ⟨⟨rfl, rfl⟩, rfl⟩ := e3
      simp only [List.map_cons, List.map_nil] at hz1 hz2
      rw [if_neg (not_isF hz1 (by decide)), if_neg (not_isF hz1 (by decide)), if_neg (not_isF hz1 (by decide)), if_pos ⟨hk, hz1, by rw [hz2]; simp [ha3]⟩]
      simp only [kid, hz2, List.getD_cons_zero]
    rw [if_neg h4] at hb he ⊢
    by_cases h5 : k = kMove
    · rw [if_pos h5] at hb he ⊢
      obtain ⟨b, r2, e1, hb3, e2⟩ := int_ok hb
      obtain ⟨a, r1, e3, ha3, e4⟩ := int_ok (by rw [e1])
      rw [e4] at e1 e2 he ⊢
      simp only [Prod.mk.injEq, true_and] at e1
      simp only [e2] at he ⊢
      subst he
      simp only [Prod.mk.injEq, List.cons.injEq, true_and] at e3
      obtain ⟨⟨rfl, rfl⟩, rfl⟩ := e3
      subst e1
      simp only [List.map_cons, List.map_nil] at hz1 hz2
      rw [if_neg (not_isF hz1 (by decide)), if_neg (not_isF hz1 (by decide)), if_neg (not_isF hz1 (by decide)), if_neg (not_isF hz1 (by decide)), if_pos ⟨hk, hz1, by rw [hz2]; simp [ha3, hb3]⟩]
      simp only [kid, hz2, List.getD_cons_zero, List.getD_cons_succ]
    rw [if_neg h5] at hb he ⊢
    by_cases h6 : k = kMap
    · rw [if_pos h6] at hb he ⊢
      dsimp only at hb he
      obtain ⟨a, r1, e3, ha1, e4⟩ := map_ok hb
      rw [e4] at he
      dsimp only at he
      subst he
      simp only [Prod.mk.injEq, List.cons.injEq, true_and] at e3
      obtain ⟨⟨rfl, rfl⟩, rfl⟩ := e3
      simp only [List.map_cons, List.map_nil] at hz1 hz2
      rw [if_neg (not_isF hz1 (by decide)), if_neg (not_isF hz1 (by decide)), if_neg (not_isF hz1 (by decide)), if_neg (not_isF hz1 (by decide)), if_neg (not_isF hz1 (by decide)), if_pos ⟨hk, hz1, by rw [hz2]; simp [ha1]⟩]
    rw [if_neg h6] at hb
    cases hb
theorem two_of {l : List V} (h : l.length = 2) : ∃ a b, l = [a, b] := by
  match l, h with
  | [a, b], _ => exact ⟨a, b, rfl⟩
theorem one_of' {l : List V} (h : l.length = 1) : ∃ a, l = [a] := by
  match l, h with
  | [a], _ => exact ⟨a, rfl⟩
theorem three_of {l : List V} (h : l.length = 3) : ∃ a b c, l = [a, b, c] := by
  match l, h with
  | [a, b, c], _ => exact ⟨a, b, c, rfl⟩
theorem nextS_hit (k : ByteArray) (x : V) (l : List (ByteArray × V)) : nextS (false, (k, x) :: l) k = (x, (false, l)) := app_first
theorem int_hit {k : ByteArray} {x : V} {l : List (ByteArray × V)} (h : x.kind = 3) : intS (false, (k, x) :: l) k = (x.n, (false, l)) := by unfold intS; rw [nextS_hit]; simp [h, numV]
theorem text_hit {k : ByteArray} {x : V} {l : List (ByteArray × V)} (h : x.kind = 4) : textS (false, (k, x) :: l) k = (x.s, (false, l)) := by unfold textS; rw [nextS_hit]; simp [h, strV]
theorem puts_hit {k : ByteArray} {x : V} {l : List (ByteArray × V)} (h : x.kind = 5) (hp : (x.kids.all fun y => (putV y).isSome) = true) : putsS (false, (k, x) :: l) k = (x.kids, (false, l)) := by unfold putsS; rw [nextS_hit]; simp [h, hp]
set_option maxHeartbeats 4000000 in
theorem of_doc' {v : V} (hl : v.kind = 6 → v.keys.length = v.kids.length) (h : (docOf v).isSome = true) : ofOk v = true := by
  unfold docOf at h
  split at h
  · cases h
  rename_i hw
  have hw : (weigh v 0 0).1 = 0 := Classical.not_not.1 hw
  unfold ofOk
  split at h
  · rename_i hF
    obtain ⟨hk, hks, hkd⟩ := hF
    obtain ⟨a, b, e⟩ := two_of (l := v.kids) (by rw [← hl hk, hks]; rfl)
    simp only [e, List.length_cons, List.length_nil, List.take_succ_cons, List.take_zero, List.map_cons, List.map_nil, List.cons.injEq, and_true] at hkd
    simp only [kid, e, List.getD_cons_zero] at h
    split at h
    · rename_i hp
      rw [hks, e]
      simp only [List.zip_cons_cons, List.zip_nil_left, callS, if_true]
      rw [puts_hit hkd.1 hp, text_hit hkd.2]
      simp [hk, hw]
    · cases h
  split at h
  · rename_i hF
    obtain ⟨hk, hks, hkd⟩ := hF
    obtain ⟨a, b, c, e⟩ := three_of (l := v.kids) (by rw [← hl hk, hks]; rfl)
    simp only [e, List.length_cons, List.length_nil, List.take_succ_cons, List.take_zero, List.map_cons, List.map_nil, List.cons.injEq, and_true] at hkd
    rw [hks, e]
    simp only [List.zip_cons_cons, List.zip_nil_left, callS]
    rw [if_neg (by decide), if_pos trivial, int_hit hkd.1, int_hit hkd.2.1, text_hit hkd.2.2]
    simp [hk, hw]
  split at h
  · rename_i hF
    obtain ⟨hk, hks, hkd⟩ := hF
    obtain ⟨a, b, e⟩ := two_of (l := v.kids) (by rw [← hl hk, hks]; rfl)
    simp only [e, List.length_cons, List.length_nil, List.take_succ_cons, List.take_zero, List.map_cons, List.map_nil, List.cons.injEq, and_true] at hkd
    rw [hks, e]
    simp only [List.zip_cons_cons, List.zip_nil_left, callS]
    rw [if_neg (by decide), if_neg (by decide), if_pos trivial, int_hit hkd.1, text_hit hkd.2]
    simp [hk, hw]
  split at h
  · rename_i hF
    obtain ⟨hk, hks, hkd⟩ := hF
    obtain ⟨a, e⟩ := one_of' (l := v.kids) (by rw [← hl hk, hks]; rfl)
    simp only [e, List.length_cons, List.length_nil, List.take_succ_cons, List.take_zero, List.map_cons, List.map_nil, List.cons.injEq, and_true] at hkd
    rw [hks, e]
    simp only [List.zip_cons_cons, List.zip_nil_left, callS]
    rw [if_neg (by decide), if_neg (by decide), if_neg (by decide), if_pos trivial, int_hit hkd]
    simp [hk, hw]
  split at h
  · rename_i hF
    obtain ⟨hk, hks, hkd⟩ := hF
    obtain ⟨a, b, e⟩ := two_of (l := v.kids) (by rw [← hl hk, hks]; rfl)
    simp only [e, List.length_cons, List.length_nil, List.take_succ_cons, List.take_zero, List.map_cons, List.map_nil, List.cons.injEq, and_true] at hkd
    rw [hks, e]
    simp only [List.zip_cons_cons, List.zip_nil_left, callS]
    rw [if_neg (by decide), if_neg (by decide), if_neg (by decide), if_neg (by decide), if_pos trivial, int_hit hkd.1, int_hit hkd.2]
    simp [hk, hw]
  split at h
  · rename_i hF
    obtain ⟨hk, hks, hkd⟩ := hF
    obtain ⟨a, e⟩ := one_of' (l := v.kids) (by rw [← hl hk, hks]; rfl)
    simp only [e, List.length_cons, List.length_nil, List.take_succ_cons, List.take_zero, List.map_cons, List.map_nil, List.cons.injEq, and_true] at hkd
    rw [hks, e]
    simp only [List.zip_cons_cons, List.zip_nil_left, callS]
    rw [if_neg (by decide), if_neg (by decide), if_neg (by decide), if_neg (by decide), if_neg (by decide), if_pos trivial]
    simp [hk, hw, hkd, nextS_hit]
  · cases h
theorem of_same {v : V} (hl : v.kind = 6 → v.keys.length = v.kids.length) : ofOk v = (docOf v).isSome ∧ ofC v = (docOf v).getD {} := by
  cases h : ofOk v with
  | true =>
    have := doc_of hl h
    unfold ofC
    rw [h, this]
    exact ⟨rfl, rfl⟩
  | false =>
    have hn : docOf v = none := by
      cases hd : docOf v with
      | none => rfl
      | some d =>
        have := of_doc' hl (by rw [hd]; rfl)
        rw [h] at this; cases this
    unfold ofC
    rw [h, hn]
    exact ⟨rfl, rfl⟩
end Go.Proofs.YtaahibcibgljbaaGreatDoor

namespace Go.Proofs.YtaahibcibgljbaaGreatDoor
open Go.Sl facts
theorem weighL_cnt : ∀ (l : List V) (p : Bool) (pr : Option ByteArray) (ks : List ByteArray) (lv n : Int), 0 ≤ n → (weighL p pr ks l lv n).1 = 0 → n + l.length ≤ (weighL p pr ks l lv n).2
  | [], p, pr, ks, lv, n, _, _ => by rw [weighL_nil]; simp
  | x :: l, p, pr, ks, lv, n, hn, h => by
    rw [weighL_cons] at h ⊢
    split
    · rename_i hc; rw [if_pos hc] at h; cases h
    · rename_i hc
      rw [if_neg hc] at h
      split
      · rename_i h0
        rw [if_pos h0] at h
        have hm := weigh_most x lv n hn h0
        have := weighL_cnt l p _ _ _ _ (by omega) h
        simp only [List.length_cons]
        push_cast
        omega
      · rename_i h0; rw [if_neg h0] at h; exact absurd h h0
theorem weighL_all0 {p : Bool} : ∀ (l : List V) (pr : Option ByteArray) (ks : List ByteArray) (lv n : Int), 0 ≤ n → (weighL p pr ks l lv n).1 = 0 → ∀ x ∈ l, ∃ lv n, 0 ≤ n ∧ (weigh x lv n).1 = 0
  | [], _, _, _, _, _, _, x, hx => by cases hx
  | y :: l, pr, ks, lv, n, hn, h, x, hx => by
    rw [weighL_cons] at h
    split at h
    · cases h
    · split at h
      · rename_i h0
        rcases List.mem_cons.1 hx with rfl | hx
        · exact ⟨lv, n, hn, h0⟩
        · have hm := weigh_most y lv n hn h0
          exact weighL_all0 l _ _ _ _ (by omega) h x hx
      · rename_i h0; exact absurd h h0
theorem nrmL_each : ∀ {l : List V}, nrmL l = l → ∀ x ∈ l, nrm x = x
  | [], _, x, hx => by cases hx
  | y :: l, h, x, hx => by
    rw [nrmL_cons] at h
    injection h with h1 h2
    rcases List.mem_cons.1 hx with rfl | hx
    · exact h1
    · exact nrmL_each h2 x hx
theorem kids_cnt {v : V} {lv n : Int} (h0 : 0 ≤ n) (h : (weigh v lv n).1 = 0) (hn : nrm v = v) : v.kids.length ≤ 1000 ∧ ∀ x ∈ v.kids, nrm x = x ∧ ∃ lv n, 0 ≤ n ∧ (weigh x lv n).1 = 0 := by
  obtain ⟨k, y, m, s, ks, l⟩ := v
  have hm := weigh_most _ lv n h0 h
  rw [nrm_mk] at hn
  simp only [V.kids]
  by_cases h5 : k < 5
  · have hl : l = [] := by
      split at hn
      · unfold nilV at hn; injection hn with _ _ _ _ _ e; exact e.symm
      split at hn
      · unfold boolV at hn; injection hn with _ _ _ _ _ e; exact e.symm
      split at hn
      · unfold intV at hn; injection hn with _ _ _ _ _ e; exact e.symm
      split at hn
      · unfold textV at hn; injection hn with _ _ _ _ _ e; exact e.symm
      split at hn
      · omega
      · unfold pairsV at hn; injection hn with e; omega
    subst hl
    exact ⟨by simp, fun x hx => by cases hx⟩
  · rw [weigh_mk] at h hm
    have hk : ¬ (k < 1 ∨ 6 < k) := fun hc => by rw [if_pos hc] at h; cases h
    rw [if_neg hk, if_neg (fun hc => by omega)] at h hm
    have h1 : ¬ 1000 < n + 1 := fun hc => by rw [if_pos hc] at h; cases h
    rw [if_neg h1, if_neg h5] at h hm
    have h2 : ¬ 20 ≤ lv := fun hc => by rw [if_pos hc] at h; cases h
    rw [if_neg h2] at h hm
    have hc := weighL_cnt l _ _ _ _ _ (by omega) h
    have hl : nrmL l = l := by
      split at hn
      · unfold nilV at hn; injection hn with e; omega
      split at hn
      · unfold boolV at hn; injection hn with e; omega
      split at hn
      · unfold intV at hn; injection hn with e; omega
      split at hn
      · unfold textV at hn; injection hn with e; omega
      split at hn
      · unfold listV at hn; injection hn
      · unfold pairsV at hn; injection hn
    refine ⟨by omega, fun x hx => ?_⟩
    exact ⟨nrmL_each hl x hx, weighL_all0 l _ _ _ _ (by omega) h x hx⟩
theorem Bnd2.read {v : V} (h : (weigh v 0 0).1 = 0) (hn : nrm v = v) : Bnd2 v := by
  have h0 := kids_cnt (by decide) h hn
  refine ⟨by omega, fun x hx => ?_⟩
  obtain ⟨hx1, lv, n, hx2, hx3⟩ := h0.2 x hx
  have h1 := kids_cnt hx2 hx3 hx1
  refine ⟨by omega, fun y hy => ?_⟩
  obtain ⟨hy1, lv', n', hy2, hy3⟩ := h1.2 y hy
  have := (kids_cnt hy2 hy3 hy1).1
  omega
def cpE (L : List UInt8) : Int := match parsP L with
  | none => 10
  | some v => if ofOk v = true then 0 else 1
def cpC (L : List UInt8) : ClV := match parsP L with
  | none => {}
  | some v => ofC v
attribute [local irreducible] Code.wp wpList Exit.then Exit.inBlock bodyPost Back MidQ G GP QStep VStep CStep SStep Does Post Reads
attribute [local irreducible] weigh weighL callS parsP
set_option maxHeartbeats 4000000 in
theorem cparse1 {H : HP} (hT : Tb H) (hE : ErrH H) (L : List UInt8) (hL : L.length ≤ 400000) : Does Tryz.prog 6 [.string (txt L)] [Pile H] (X := HP × Cl) (fun y => .tuple #[.agg y.2.cells.toArray, int (cpE L)]) (fun y => [Pile y.1]) (fun y => HP.sub H y.1 ∧ ClAt y.1 y.2 (cpC L)) := by
  have hp := parse1 hT hE L hL
  have hps := @parsP_some L
  unfold cpE cpC
  cases hq : parsP L with
  | none =>
    rw [hq] at hp
    simp only [Option.isSome_none, Bool.false_eq_true, if_false] at hp
    refine fn_intro Tryz.func6 rfl Tryz.ntmps6 rfl (by simp only [argFr, Nat.zero_add, Nat.reduceAdd]; rfl) (fun Γ => ?_)
    repeat (first
      | (refine g_ops ?_; first | refine sO ?_ | refine s_n (fun _ => ?_) | refine s_app (fun _ _ => ?_) | refine s_b0 (fun _ => ?_) | ((fail_if_success refine g_lit rfl rfl rfl ?_); first | apply g_partM rfl rfl rfl | apply g_partMB rfl rfl rfl | fail) | refine s_c (hp) (fun _ _ => ?_))
      | refine gS ?_ | exact s_m | intro _)
    rename_i y hy
    obtain ⟨H1, w⟩ := y
    obtain ⟨hs1, _, hw⟩ := hy
    have hw := hw trivial
    dsimp only at hs1 hw ⊢
    try dsimp only [List.cons_append, List.nil_append, List.append_eq]
    exact gR (H1, {}) ⟨hs1, ClAt.zero⟩
  | some v =>
    obtain ⟨h1, _, _, h4⟩ := hps hq
    have hb := Bnd2.read h1 h4
    rw [hq] at hp
    simp only [Option.isSome_some, if_true] at hp
    dsimp only
    refine fn_intro Tryz.func6 rfl Tryz.ntmps6 rfl (by simp only [argFr, Nat.zero_add, Nat.reduceAdd]; rfl) (fun Γ => ?_)
    repeat (first
      | (refine g_ops ?_; first | refine sO ?_ | refine s_n (fun _ => ?_) | refine s_app (fun _ _ => ?_) | refine s_b0 (fun _ => ?_) | ((fail_if_success refine g_lit rfl rfl rfl ?_); first | apply g_partM rfl rfl rfl | apply g_partMB rfl rfl rfl | fail) | refine s_c (hp) (fun _ _ => ?_))
      | refine gS ?_ | exact s_m | intro _)
    rename_i y hy
    obtain ⟨H1, w⟩ := y
    obtain ⟨hs1, hw, _⟩ := hy
    have hw := hw v rfl
    dsimp only at hs1 hw ⊢
    try dsimp only [List.cons_append, List.nil_append, List.append_eq]
    have hof := of1 (hT.grow hs1).vs hw hb
    repeat (first
      | (refine g_ops ?_; first | refine sO ?_ | refine s_n (fun _ => ?_) | refine s_app (fun _ _ => ?_) | refine s_b0 (fun _ => ?_) | ((fail_if_success refine g_lit rfl rfl rfl ?_); first | apply g_partM rfl rfl rfl | apply g_partMB rfl rfl rfl | fail) | refine s_c (hof) (fun _ _ => ?_))
      | refine gS ?_ | exact s_m | intro _)
    rename_i y2 hy2
    obtain ⟨H2, cl⟩ := y2
    obtain ⟨hs2, hcl⟩ := hy2
    exact gR (H2, cl) ⟨hs1.trans hs2, hcl⟩
abbrev kCode : ByteArray := ⟨#[99, 111, 100, 101]⟩
structure Rp where
  code : Int := 0
  w : Int := 0
  l : Int := 0
  n : Int := 0
  fp : Option Addr := none
  fn : Nat := 0
  fc : Nat := 0
  ep : Option Addr := none
  en : Nat := 0
  ec : Nat := 0
  cw : Int := 0
  cl : Int := 0
  cn : Int := 0
  ci : Int := 0
  cs : ByteArray := ByteArray.empty
  rp : Option Addr := none
  rn : Nat := 0
  rc : Nat := 0
  node : Int := 0
abbrev Rp.cells (x : Rp) : List Value := [int x.code, int x.w, int x.l, int x.n, .slice x.fp x.fn x.fc, .slice x.ep x.en x.ec, int x.cw, int x.cl, int x.cn, int x.ci, .string x.cs, .slice x.rp x.rn x.rc, int x.node]
set_option maxHeartbeats 4000000 in
theorem reply_err {H : HP} (x : Rp) (hc : x.code = 11) : Does Tryz.prog 26 [.agg x.cells.toArray] [Pile H] (X := HP × Value) (fun y => y.2) (fun y => [Pile y.1]) (fun y => HP.sub H y.1 ∧ TAt y.1 (pairsV [kCode] [intV 11]) y.2) := by
  obtain ⟨code, w, l, n, fp, fn, fc, ep, en, ec, cw, cl, cn, ci, cs, rp, rn, rc, node⟩ := x
  dsimp only at hc
  subst hc
  dsimp only [Rp.cells]
  refine fn_intro Tryz.func26 rfl Tryz.ntmps26 rfl (by simp only [argFr, Nat.zero_add, Nat.reduceAdd]; rfl) (fun Γ => ?_)
  repeat (first
    | (refine g_ops ?_; first | refine sO ?_ | refine s_n (fun _ => ?_) | refine s_app (fun _ _ => ?_) | refine s_b0 (fun _ => ?_) | ((fail_if_success refine g_lit rfl rfl rfl ?_); first | apply g_partM rfl rfl rfl | apply g_partMB rfl rfl rfl | fail))
    | refine gS ?_ | exact s_m | intro _)
  rename_i rb lb
  refine g_toOwn (b := lb) (len := 1) (n := 2) (by (repeat (first | exact Sel.here | apply Sel.there)); first | done | fail) rfl rfl ?_
  refine g_pile (n := 2) (by (repeat (first | exact Sel.here | apply Sel.there)); first | done | fail) (by (repeat (first | exact Sel.here | apply Sel.there)); first | done | fail) (fun H2 hs2 hS2 => ?_)
  exact gR (H2, .iface 89 (.slice (some ⟨lb, 0, none⟩) 1 1)) ⟨hs2, .pairs [⟨kCode, .iface 3 (int 11)⟩] rfl (by simp) rfl (fun q hq => by rw [List.mem_singleton] at hq; rw [hq]; show kCode.size ≤ _; decide) hS2 fun i a q h1 h2 => by
    match i with
    | 0 => cases h1; cases h2; exact .int ⟨by decide, by decide⟩
    | i + 1 => simp at h1⟩
theorem busy_w : (weigh (pairsV [kCode] [intV 11]) 0 0).1 = 0 := by
  unfold pairsV intV
  simp only [weigh_mk, weighL_cons, weighL_nil, List.headD_cons, show keyB kCode = true by decide +kernel]
  decide
theorem busy_t : textL (pairsV [kCode] [intV 11]) = [123, 34, 99, 111, 100, 101, 34, 58, 49, 49, 125] := by
  unfold pairsV intV
  simp only [textL_mk, textK_cons, textK_nil, List.headD_cons, show quoteL kCode = [34, 99, 111, 100, 101, 34] by decide +kernel, show decI 11 = [49, 49] by decide +kernel]
  decide
theorem map_w : (weigh (pairsV [kMap] [nilV]) 0 0).1 = 0 := by
  unfold pairsV nilV
  simp only [weigh_mk, weighL_cons, weighL_nil, List.headD_cons, show keyB kMap = true by decide +kernel]
  decide
theorem map_t : textL (pairsV [kMap] [nilV]) = [123, 34, 109, 97, 112, 34, 58, 110, 105, 108, 125] := by
  unfold pairsV nilV
  simp only [textL_mk, textK_cons, textK_nil, List.headD_cons, show quoteL kMap = [34, 109, 97, 112, 34] by decide +kernel]
  decide
theorem goodP {ks : List ByteArray} {l : List V} (hl : ks.length = l.length) (h : ∀ x ∈ l, GoodT x) : GoodT (pairsV ks l) := by
  unfold pairsV
  exact ⟨.mk (fun _ => hl) (fun h => absurd rfl h) (fun h => by omega) (fun x hx => (h x hx).1), ⟨⟨by decide, by decide⟩, fun x hx => (h x hx).2⟩⟩
theorem goodI {n : Int} (h : inI n) : GoodT (intV n) := flatG (by decide) h
theorem goodN : GoodT nilV := flatG (by decide) ⟨by decide, by decide⟩
theorem cpMap : cpE [123, 34, 109, 97, 112, 34, 58, 110, 105, 108, 125] = 0 ∧ (cpC [123, 34, 109, 97, 112, 34, 58, 110, 105, 108, 125]).kind = 6 := by
  have h := parsP_of map_w (goodP rfl fun x hx => by rw [List.mem_singleton] at hx; rw [hx]; exact goodN)
  rw [map_t, show nrm (pairsV [kMap] [nilV]) = pairsV [kMap] [nilV] by unfold pairsV nilV; rw [nrm_mk]; simp [nrmL_cons, nrmL_nil, nrm_mk, pairsV, nilV]] at h
  have ho : ofOk (pairsV [kMap] [nilV]) = true := by
    refine of_doc' (fun _ => rfl) ?_
    unfold docOf
    rw [if_neg (fun h => h map_w), if_neg (not_isF (ks' := [kMap]) rfl (by decide)), if_neg (not_isF (ks' := [kMap]) rfl (by decide)), if_neg (not_isF (ks' := [kMap]) rfl (by decide)), if_neg (not_isF (ks' := [kMap]) rfl (by decide)), if_neg (not_isF (ks' := [kMap]) rfl (by decide)), if_pos ⟨rfl, rfl, rfl⟩]
    rfl
  have hc := doc_of (v := pairsV [kMap] [nilV]) (fun _ => rfl) ho
  unfold cpE cpC
  rw [h]
  dsimp only
  rw [if_pos ho]
  refine ⟨rfl, ?_⟩
  rw [(of_same (v := pairsV [kMap] [nilV]) (fun _ => rfl)).2]
  unfold docOf
  rw [if_neg (fun h => h map_w), if_neg (not_isF (ks' := [kMap]) rfl (by decide)), if_neg (not_isF (ks' := [kMap]) rfl (by decide)), if_neg (not_isF (ks' := [kMap]) rfl (by decide)), if_neg (not_isF (ks' := [kMap]) rfl (by decide)), if_neg (not_isF (ks' := [kMap]) rfl (by decide)), if_pos ⟨rfl, rfl, rfl⟩]
  rfl
attribute [local irreducible] cpE cpC textB
theorem ctext {H : HP} (hT : Tb H) (x : Rp) {v : V} (hv : Does Tryz.prog 26 [.agg x.cells.toArray] [Pile H] (X := HP × Value) (fun y => y.2) (fun y => [Pile y.1]) (fun y => HP.sub H y.1 ∧ TAt y.1 v y.2)) (hok : VOk v) (hsz : szV v ≤ 1000000000) : Does Tryz.prog 12 [.agg x.cells.toArray] [Pile H] (X := HP) (fun _ => .string (textB v)) (fun y => [Pile y]) (fun y => HP.sub H y) := by
  obtain ⟨code, w, l, n, fp, fn, fc, ep, en, ec, cw, cl, cn, ci, cs, rp, rn, rc, node⟩ := x
  dsimp only [Rp.cells] at hv ⊢
  refine fn_intro Tryz.func12 rfl Tryz.ntmps12 rfl (by simp only [argFr, Nat.zero_add, Nat.reduceAdd]; rfl) (fun Γ => ?_)
  repeat (first
    | (refine g_ops ?_; first | refine sO ?_ | refine s_n (fun _ => ?_) | refine s_app (fun _ _ => ?_) | refine s_b0 (fun _ => ?_) | ((fail_if_success refine g_lit rfl rfl rfl ?_); first | apply g_partM rfl rfl rfl | apply g_partMB rfl rfl rfl | fail) | refine s_c (hv) (fun _ _ => ?_))
    | refine gS ?_ | exact s_m | intro _)
  rename_i y hy
  obtain ⟨H1, w1⟩ := y
  obtain ⟨hs1, hw⟩ := hy
  dsimp only at hs1 hw ⊢
  try dsimp only [List.cons_append, List.nil_append, List.append_eq]
  have ht := text1 (hT.grow hs1) hw hok hsz
  repeat (first
    | (refine g_ops ?_; first | refine sO ?_ | refine s_n (fun _ => ?_) | refine s_app (fun _ _ => ?_) | refine s_b0 (fun _ => ?_) | ((fail_if_success refine g_lit rfl rfl rfl ?_); first | apply g_partM rfl rfl rfl | apply g_partMB rfl rfl rfl | fail) | refine s_k (ht) ?_)
    | refine gS ?_ | exact s_m | intro _)
  exact gR H1 hs1
set_option maxHeartbeats 4000000 in
theorem awake28 {H : HP} (hT : Tb H) (hE : ErrH H) : Does1 Tryz.prog 5 [] [Pile H] (.bool true) := by
  have hcp := cparse1 hT hE [123, 34, 109, 97, 112, 34, 58, 110, 105, 108, 125] (by decide)
  rw [cpMap.1] at hcp
  have hk6 := cpMap.2
  have hb : textB (pairsV [kCode] [intV 11]) = ⟨#[123, 34, 99, 111, 100, 101, 34, 58, 49, 49, 125]⟩ := by unfold textB; rw [if_pos busy_w, busy_t]
  have hg : GoodT (pairsV [kCode] [intV 11]) := goodP rfl fun x hx => by rw [List.mem_singleton] at hx; rw [hx]; exact goodI ⟨by decide, by decide⟩
  have hct := fun (H' : HP) (hs : HP.sub H H') => ctext (hT.grow hs) { code := 11 } (reply_err { code := 11 } rfl) hg.2 (by unfold pairsV intV; simp only [szV_mk, szK_cons, szK_nil, szS_cons, szS_nil]; decide)
  rw [hb] at hct
  dsimp only [Rp.cells] at hct
  refine fn_intro Tryz.func5 rfl Tryz.ntmps5 rfl (by simp only [argFr, Nat.zero_add, Nat.reduceAdd]; rfl) (fun Γ => ?_)
  repeat (first
    | (refine g_ops ?_; first | refine sO ?_ | refine s_n (fun _ => ?_) | refine s_app (fun _ _ => ?_) | refine s_b0 (fun _ => ?_) | ((fail_if_success refine g_lit rfl rfl rfl ?_); first | apply g_partM rfl rfl rfl | apply g_partMB rfl rfl rfl | fail) | refine s_c (hcp) (fun _ _ => ?_))
    | refine gS ?_ | exact s_m | intro _)
  rename_i y hy b1
  obtain ⟨H1, cl⟩ := y
  obtain ⟨hs1, hcl⟩ := hy
  have hk := hcl.kind
  rw [hk6] at hk
  have hct1 := hct H1 hs1
  dsimp only at hs1 hct1 ⊢
  try dsimp only [List.cons_append, List.nil_append, List.append_eq]
  refine g_as 14 (v' := .bool true) rfl (congrArg Value.bool (decide_eq_true hk)) ?_
  repeat (first
    | (refine g_ops ?_; first | refine sO ?_ | refine s_n (fun _ => ?_) | refine s_app (fun _ _ => ?_) | refine s_b0 (fun _ => ?_) | ((fail_if_success refine g_lit rfl rfl rfl ?_); first | apply g_partM rfl rfl rfl | apply g_partMB rfl rfl rfl | fail) | refine s_c (hct1) (fun _ _ => ?_))
    | refine gS ?_ | exact s_m | intro _)
  rename_i H2 hs2
  try dsimp only [List.cons_append, List.nil_append, List.append_eq] at hs2 ⊢
  refine g_unpile (hs1.trans hs2) (by (repeat (first | exact Sel.here | apply Sel.there)); first | done | fail) ?_
  exact s_r ()
end Go.Proofs.YtaahibcibgljbaaGreatDoor
