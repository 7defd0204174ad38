/- Contracts and laws that the proof stands on. -/
import Derived.Test.YtaahibcibgljbaaGreatDoorCallParses22
set_option linter.unusedSimpArgs false
set_option linter.unusedVariables false
namespace Go.Proofs.YtaahibcibgljbaaGreatDoor
open Go.Sl facts
abbrev kAppend : ByteArray := ⟨#[97, 112, 112, 101, 110, 100]⟩
abbrev kKey : ByteArray := ⟨#[107, 101, 121]⟩
abbrev kFrom : ByteArray := ⟨#[102, 114, 111, 109]⟩
abbrev kMax : ByteArray := ⟨#[109, 97, 120]⟩
abbrev kRead : ByteArray := ⟨#[114, 101, 97, 100]⟩
abbrev kPoll : ByteArray := ⟨#[112, 111, 108, 108]⟩
abbrev kSplit : ByteArray := ⟨#[115, 112, 108, 105, 116]⟩
abbrev kMove : ByteArray := ⟨#[109, 111, 118, 101]⟩
abbrev kTo : ByteArray := ⟨#[116, 111]⟩
abbrev kMap : ByteArray := ⟨#[109, 97, 112]⟩
structure ClV where
  kind : Int := 0
  key : ByteArray := ByteArray.empty
  pv : List V := []
  stream : ByteArray := ByteArray.empty
  frm : Int := 0
  pattern : ByteArray := ByteArray.empty
  max : Int := 0
  first : Int := 0
  tt : Int := 0
structure Cl where
  kind : Int := 0
  key : ByteArray := ByteArray.empty
  pp : Option Addr := none
  pc : Nat := 0
  pts : List Pt := []
  stream : ByteArray := ByteArray.empty
  frm : Int := 0
  pattern : ByteArray := ByteArray.empty
  max : Int := 0
  first : Int := 0
  tt : Int := 0
abbrev Cl.cells (x : Cl) : List Value := [int x.kind, int 0, int 0, int 0, .string x.key, .slice x.pp x.pts.length x.pc, .string x.stream, int x.frm, int 0, int 0, int 0, int 0, .string ByteArray.empty, .string x.pattern, int x.max, int x.first, int 0, int 0, int 0, int x.tt]
structure ClAt (H : HP) (x : Cl) (d : ClV) : Prop where
  kind : x.kind = d.kind
  key : x.key = d.key
  sl : SlAt (Pile H) 3 x.pp x.pts.length (x.pts.flatMap Pt.cells)
  pts : PtsOf H d.pv x.pts
  stream : x.stream = d.stream
  frm : x.frm = d.frm
  pattern : x.pattern = d.pattern
  max : x.max = d.max
  first : x.first = d.first
  tt : x.tt = d.tt
theorem TAt.isNil {H : HP} {x : V} {w : Value} (h : TAt H x w) : (w = .nilIface ∧ x.kind = 1) ∨ (∃ t u, w = .iface t u ∧ x.kind ≠ 1) := by
  cases h with
  | nil => exact .inl ⟨rfl, rfl⟩
  | bool => exact .inr ⟨_, _, rfl, by simp [V.kind]⟩
  | int => exact .inr ⟨_, _, rfl, by simp [V.kind]⟩
  | text => exact .inr ⟨_, _, rfl, by simp [V.kind]⟩
  | list => exact .inr ⟨_, _, rfl, by simp [V.kind]⟩
  | pairs => exact .inr ⟨_, _, rfl, by simp [V.kind]⟩
  | other hk => exact .inr ⟨_, _, rfl, by simp only [V.kind]; omega⟩
theorem PtsOf.nil {H : HP} : PtsOf H [] [] := ⟨rfl, (fun _ h => by cases h), fun i _ _ _ h => by simp at h⟩
def callS (s : FS) : ClV × FS := match s.2 with
  | [] => ({}, (true, []))
  | (k, _) :: _ =>
    if k = kAppend then ({ kind := 1, pv := (putsS s kAppend).1, key := (textS (putsS s kAppend).2 kKey).1 }, (textS (putsS s kAppend).2 kKey).2)
    else if k = kFrom then ({ kind := 2, frm := (intS s kFrom).1, max := (intS (intS s kFrom).2 kMax).1, stream := (textS (intS (intS s kFrom).2 kMax).2 kRead).1 }, (textS (intS (intS s kFrom).2 kMax).2 kRead).2)
    else if k = kMax then ({ kind := 3, max := (intS s kMax).1, pattern := (textS (intS s kMax).2 kPoll).1 }, (textS (intS s kMax).2 kPoll).2)
    else if k = kSplit then ({ kind := 4, frm := (intS s kSplit).1 }, (intS s kSplit).2)
    else if k = kMove then ({ kind := 5, first := (intS s kMove).1, tt := (intS (intS s kMove).2 kTo).1 }, (intS (intS s kMove).2 kTo).2)
    else if k = kMap then ({ kind := 6 }, ((nextS s kMap).2.1 || !decide ((nextS s kMap).1.kind = 1), (nextS s kMap).2.2))
    else ({}, (true, s.2))
attribute [local irreducible] Code.wp wpList Exit.then Exit.inBlock bodyPost Back MidQ G GP QStep VStep CStep SStep Does Post Reads
set_option maxHeartbeats 16000000 in
theorem call_ {H : HP} (b : Nat) (f : Fm) (s : FS) (h : Rel H f s) (hz : SmK s) : Does Tryz.prog 33 [ptr b] [f.row b, Pile H] (X := HP × Cl × Fm) (fun y => .agg y.2.1.cells.toArray) (fun y => [y.2.2.row b, Pile y.1]) (fun y => HP.sub H y.1 ∧ ClAt y.1 y.2.1 (callS s).1 ∧ Rel y.1 y.2.2 (callS s).2) := by
  have hp := putsR b h hz kAppend
  have hnm := nextR b h kMap
  have h0 := h
  obtain ⟨p, c, ps, bad⟩ := f
  obtain ⟨⟨h1, h2, h3, h4⟩, hb, hl, hks, hat⟩ := h
  obtain ⟨sb, l⟩ := s
  dsimp only at h1 h2 h3 h4 hb hl hks hat
  subst hb
  cases ps with
  | nil =>
    obtain rfl : l = [] := List.eq_nil_of_length_eq_zero hl.symm
    dsimp only [Fm.row]
    refine fn_intro Tryz.func33 rfl Tryz.ntmps33 rfl (by simp only [argFr, Nat.zero_add, Nat.reduceAdd]; rfl) (fun Γ => ?_)
    repeat (first
      | (refine g_ops ?_; first | refine sO ?_ | refine s_n (fun _ => ?_) | refine s_app (fun _ _ => ?_) | refine s_b0 (fun _ => ?_) | ((fail_if_success refine g_lit rfl rfl rfl ?_); first | apply g_partM rfl rfl rfl | apply g_partMB rfl rfl rfl | fail))
      | refine gS ?_ | exact s_m | intro _)
    exact gR (H, {}, ⟨p, c, [], true⟩) ⟨HP.sub.refl _, ⟨rfl, rfl, SlAt.none, PtsOf.nil, rfl, rfl, rfl, rfl, rfl, rfl⟩, ⟨⟨h1, h2, h3, h4⟩, rfl, rfl, rfl, hat⟩⟩
  | cons q r =>
    cases l with
    | nil => cases hl
    | cons x l =>
    obtain ⟨k, x⟩ := x
    obtain ⟨rb, ro, rfl, hr0⟩ := slAt_elem h1 Pr.len (by decide) (i := 0) (a := q) rfl
    simp only [List.map_cons, List.cons.injEq] at hks
    obtain ⟨hkk, hks⟩ := hks
    have hr : ∀ a, a = ro + 0 * 2 + 0 → Reads (Pile H) ⟨rb, a, none⟩ (.string k) := fun a e => by have := hr0 0 _ rfl; rw [e, ← hkk]; exact this
    dsimp only [Fm.row, List.length_cons] at hp hnm ⊢
    generalize hS : callS (bad, (k, x) :: l) = S
    simp only [callS] at hS
    refine fn_intro Tryz.func33 rfl Tryz.ntmps33 rfl (by simp only [argFr, Nat.zero_add, Nat.reduceAdd]; rfl) (fun Γ => ?_)
    repeat (first
      | (refine g_ops ?_; first | refine sO ?_ | refine s_n (fun _ => ?_) | refine s_app (fun _ _ => ?_) | refine s_b0 (fun _ => ?_) | ((fail_if_success refine g_lit rfl rfl rfl ?_); first | apply g_partM rfl rfl rfl | apply g_partMB rfl rfl rfl | fail))
      | refine gS ?_ | exact s_m | intro _)
    refine g_cond_dec rfl (fun h5 => ?_) (fun h5 => ?_)
    · rw [if_pos h5] at hS
      subst hS
      repeat (first
        | (refine g_ops ?_; first | refine sO ?_ | refine s_n (fun _ => ?_) | refine s_app (fun _ _ => ?_) | refine s_b0 (fun _ => ?_) | ((fail_if_success refine g_lit rfl rfl rfl ?_); first | apply g_partM rfl rfl rfl | apply g_partMB rfl rfl rfl | fail) | refine s_c (hp) (fun _ _ => ?_))
        | refine gS ?_ | exact s_m | intro _)
      rename_i y1 hy1
      try dsimp only [List.cons_append, List.nil_append, List.append_eq]
      have c2 := textR b hy1.2.2.2 kKey
      dsimp only [Fm.row] at c2
      repeat (first
        | (refine g_ops ?_; first | refine sO ?_ | refine s_n (fun _ => ?_) | refine s_app (fun _ _ => ?_) | refine s_b0 (fun _ => ?_) | ((fail_if_success refine g_lit rfl rfl rfl ?_); first | apply g_partM rfl rfl rfl | apply g_partMB rfl rfl rfl | fail) | refine s_c (c2) (fun _ _ => ?_))
        | refine gS ?_ | exact s_m | intro _)
      rename_i f2 g2
      try dsimp only [List.cons_append, List.nil_append, List.append_eq]
      exact gR (y1.1, { kind := 1, key := _, pp := y1.2.1, pc := y1.2.2.1, pts := y1.2.2.2.1 }, f2) ⟨hy1.1, ⟨rfl, rfl, hy1.2.1, hy1.2.2.1, rfl, rfl, rfl, rfl, rfl, rfl⟩, g2⟩
    rw [if_neg h5] at hS
    repeat (first
      | (refine g_ops ?_; first | refine sO ?_ | refine s_n (fun _ => ?_) | refine s_app (fun _ _ => ?_) | refine s_b0 (fun _ => ?_) | ((fail_if_success refine g_lit rfl rfl rfl ?_); first | apply g_partM rfl rfl rfl | apply g_partMB rfl rfl rfl | fail))
      | refine gS ?_ | exact s_m | intro _)
    refine g_cond_dec rfl (fun h6 => ?_) (fun h6 => ?_)
    · rw [if_pos h6] at hS
      subst hS
      have c1 := intR b h0 kFrom
      dsimp only [Fm.row] at c1
      repeat (first
        | (refine g_ops ?_; first | refine sO ?_ | refine s_n (fun _ => ?_) | refine s_app (fun _ _ => ?_) | refine s_b0 (fun _ => ?_) | ((fail_if_success refine g_lit rfl rfl rfl ?_); first | apply g_partM rfl rfl rfl | apply g_partMB rfl rfl rfl | fail) | refine s_c (c1) (fun _ _ => ?_))
        | refine gS ?_ | exact s_m | intro _)
      rename_i f1 g1
      try dsimp only [List.cons_append, List.nil_append, List.append_eq]
      have c2 := intR b g1 kMax
      dsimp only [Fm.row] at c2
      repeat (first
        | (refine g_ops ?_; first | refine sO ?_ | refine s_n (fun _ => ?_) | refine s_app (fun _ _ => ?_) | refine s_b0 (fun _ => ?_) | ((fail_if_success refine g_lit rfl rfl rfl ?_); first | apply g_partM rfl rfl rfl | apply g_partMB rfl rfl rfl | fail) | refine s_c (c2) (fun _ _ => ?_))
        | refine gS ?_ | exact s_m | intro _)
      rename_i f2 g2
      try dsimp only [List.cons_append, List.nil_append, List.append_eq]
      have c3 := textR b g2 kRead
      dsimp only [Fm.row] at c3
      repeat (first
        | (refine g_ops ?_; first | refine sO ?_ | refine s_n (fun _ => ?_) | refine s_app (fun _ _ => ?_) | refine s_b0 (fun _ => ?_) | ((fail_if_success refine g_lit rfl rfl rfl ?_); first | apply g_partM rfl rfl rfl | apply g_partMB rfl rfl rfl | fail) | refine s_c (c3) (fun _ _ => ?_))
        | refine gS ?_ | exact s_m | intro _)
      rename_i f3 g3
      try dsimp only [List.cons_append, List.nil_append, List.append_eq]
      exact gR (H, { kind := 2, frm := _, max := _, stream := _ }, f3) ⟨HP.sub.refl _, ⟨rfl, rfl, SlAt.none, PtsOf.nil, rfl, rfl, rfl, rfl, rfl, rfl⟩, g3⟩
    rw [if_neg h6] at hS
    repeat (first
      | (refine g_ops ?_; first | refine sO ?_ | refine s_n (fun _ => ?_) | refine s_app (fun _ _ => ?_) | refine s_b0 (fun _ => ?_) | ((fail_if_success refine g_lit rfl rfl rfl ?_); first | apply g_partM rfl rfl rfl | apply g_partMB rfl rfl rfl | fail))
      | refine gS ?_ | exact s_m | intro _)
    refine g_cond_dec rfl (fun h7 => ?_) (fun h7 => ?_)
    · rw [if_pos h7] at hS
      subst hS
      have c1 := intR b h0 kMax
      dsimp only [Fm.row] at c1
      repeat (first
        | (refine g_ops ?_; first | refine sO ?_ | refine s_n (fun _ => ?_) | refine s_app (fun _ _ => ?_) | refine s_b0 (fun _ => ?_) | ((fail_if_success refine g_lit rfl rfl rfl ?_); first | apply g_partM rfl rfl rfl | apply g_partMB rfl rfl rfl | fail) | refine s_c (c1) (fun _ _ => ?_))
        | refine gS ?_ | exact s_m | intro _)
      rename_i f1 g1
      try dsimp only [List.cons_append, List.nil_append, List.append_eq]
      have c2 := textR b g1 kPoll
      dsimp only [Fm.row] at c2
      repeat (first
        | (refine g_ops ?_; first | refine sO ?_ | refine s_n (fun _ => ?_) | refine s_app (fun _ _ => ?_) | refine s_b0 (fun _ => ?_) | ((fail_if_success refine g_lit rfl rfl rfl ?_); first | apply g_partM rfl rfl rfl | apply g_partMB rfl rfl rfl | fail) | refine s_c (c2) (fun _ _ => ?_))
        | refine gS ?_ | exact s_m | intro _)
      rename_i f2 g2
      try dsimp only [List.cons_append, List.nil_append, List.append_eq]
      exact gR (H, { kind := 3, max := _, pattern := _ }, f2) ⟨HP.sub.refl _, ⟨rfl, rfl, SlAt.none, PtsOf.nil, rfl, rfl, rfl, rfl, rfl, rfl⟩, g2⟩
    rw [if_neg h7] at hS
    repeat (first
      | (refine g_ops ?_; first | refine sO ?_ | refine s_n (fun _ => ?_) | refine s_app (fun _ _ => ?_) | refine s_b0 (fun _ => ?_) | ((fail_if_success refine g_lit rfl rfl rfl ?_); first | apply g_partM rfl rfl rfl | apply g_partMB rfl rfl rfl | fail))
      | refine gS ?_ | exact s_m | intro _)
    refine g_cond_dec rfl (fun h8 => ?_) (fun h8 => ?_)
    · rw [if_pos h8] at hS
      subst hS
      have c1 := intR b h0 kSplit
      dsimp only [Fm.row] at c1
      repeat (first
        | (refine g_ops ?_; first | refine sO ?_ | refine s_n (fun _ => ?_) | refine s_app (fun _ _ => ?_) | refine s_b0 (fun _ => ?_) | ((fail_if_success refine g_lit rfl rfl rfl ?_); first | apply g_partM rfl rfl rfl | apply g_partMB rfl rfl rfl | fail) | refine s_c (c1) (fun _ _ => ?_))
        | refine gS ?_ | exact s_m | intro _)
      rename_i f1 g1
      try dsimp only [List.cons_append, List.nil_append, List.append_eq]
      exact gR (H, { kind := 4, frm := _ }, f1) ⟨HP.sub.refl _, ⟨rfl, rfl, SlAt.none, PtsOf.nil, rfl, rfl, rfl, rfl, rfl, rfl⟩, g1⟩
    rw [if_neg h8] at hS
    repeat (first
      | (refine g_ops ?_; first | refine sO ?_ | refine s_n (fun _ => ?_) | refine s_app (fun _ _ => ?_) | refine s_b0 (fun _ => ?_) | ((fail_if_success refine g_lit rfl rfl rfl ?_); first | apply g_partM rfl rfl rfl | apply g_partMB rfl rfl rfl | fail))
      | refine gS ?_ | exact s_m | intro _)
    refine g_cond_dec rfl (fun h9 => ?_) (fun h9 => ?_)
    · rw [if_pos h9] at hS
      subst hS
      have c1 := intR b h0 kMove
      dsimp only [Fm.row] at c1
      repeat (first
        | (refine g_ops ?_; first | refine sO ?_ | refine s_n (fun _ => ?_) | refine s_app (fun _ _ => ?_) | refine s_b0 (fun _ => ?_) | ((fail_if_success refine g_lit rfl rfl rfl ?_); first | apply g_partM rfl rfl rfl | apply g_partMB rfl rfl rfl | fail) | refine s_c (c1) (fun _ _ => ?_))
        | refine gS ?_ | exact s_m | intro _)
      rename_i f1 g1
      try dsimp only [List.cons_append, List.nil_append, List.append_eq]
      have c2 := intR b g1 kTo
      dsimp only [Fm.row] at c2
      repeat (first
        | (refine g_ops ?_; first | refine sO ?_ | refine s_n (fun _ => ?_) | refine s_app (fun _ _ => ?_) | refine s_b0 (fun _ => ?_) | ((fail_if_success refine g_lit rfl rfl rfl ?_); first | apply g_partM rfl rfl rfl | apply g_partMB rfl rfl rfl | fail) | refine s_c (c2) (fun _ _ => ?_))
        | refine gS ?_ | exact s_m | intro _)
      rename_i f2 g2
      try dsimp only [List.cons_append, List.nil_append, List.append_eq]
      exact gR (H, { kind := 5, first := _, tt := _ }, f2) ⟨HP.sub.refl _, ⟨rfl, rfl, SlAt.none, PtsOf.nil, rfl, rfl, rfl, rfl, rfl, rfl⟩, g2⟩
    rw [if_neg h9] at hS
    repeat (first
      | (refine g_ops ?_; first | refine sO ?_ | refine s_n (fun _ => ?_) | refine s_app (fun _ _ => ?_) | refine s_b0 (fun _ => ?_) | ((fail_if_success refine g_lit rfl rfl rfl ?_); first | apply g_partM rfl rfl rfl | apply g_partMB rfl rfl rfl | fail))
      | refine gS ?_ | exact s_m | intro _)
    refine g_cond_dec rfl (fun h10 => ?_) (fun h10 => ?_)
    · rw [if_pos h10] at hS
      subst hS
      repeat (first
        | (refine g_ops ?_; first | refine sO ?_ | refine s_n (fun _ => ?_) | refine s_app (fun _ _ => ?_) | refine s_b0 (fun _ => ?_) | ((fail_if_success refine g_lit rfl rfl rfl ?_); first | apply g_partM rfl rfl rfl | apply g_partMB rfl rfl rfl | fail) | refine s_c (hnm) (fun _ _ => ?_))
        | refine gS ?_ | exact s_m | intro _)
      rename_i y1 hy1
      obtain ⟨w, f1⟩ := y1
      obtain ⟨hw, g1⟩ := hy1
      have hbad := g1.bad
      obtain ⟨p1, c1, ps1, bad1⟩ := f1
      dsimp only at hw g1 hbad ⊢
      try dsimp only [List.cons_append, List.nil_append, List.append_eq]
      rcases hw.isNil with ⟨rfl, hk⟩ | ⟨t, u, rfl, hk⟩
      · rw [decide_eq_true hk, Bool.not_true, Bool.or_false]
        repeat (first
          | (refine g_ops ?_; first | refine sO ?_ | refine s_n (fun _ => ?_) | refine s_app (fun _ _ => ?_) | refine s_b0 (fun _ => ?_) | ((fail_if_success refine g_lit rfl rfl rfl ?_); first | apply g_partM rfl rfl rfl | apply g_partMB rfl rfl rfl | fail))
          | refine gS ?_ | exact s_m | intro _)
        exact gR (H, { kind := 6 }, ⟨p1, c1, ps1, bad1⟩) ⟨HP.sub.refl _, ⟨rfl, rfl, SlAt.none, PtsOf.nil, rfl, rfl, rfl, rfl, rfl, rfl⟩, g1⟩
      · rw [decide_eq_false hk, Bool.not_false, Bool.or_true]
        repeat (first
          | (refine g_ops ?_; first | refine sO ?_ | refine s_n (fun _ => ?_) | refine s_app (fun _ _ => ?_) | refine s_b0 (fun _ => ?_) | ((fail_if_success refine g_lit rfl rfl rfl ?_); first | apply g_partM rfl rfl rfl | apply g_partMB rfl rfl rfl | fail))
          | refine gS ?_ | exact s_m | intro _)
        exact gR (H, { kind := 6 }, ⟨p1, c1, ps1, true⟩) ⟨HP.sub.refl _, ⟨rfl, rfl, SlAt.none, PtsOf.nil, rfl, rfl, rfl, rfl, rfl, rfl⟩, g1.setBad true⟩
    rw [if_neg h10] at hS
    subst hS
    repeat (first
      | (refine g_ops ?_; first | refine sO ?_ | refine s_n (fun _ => ?_) | refine s_app (fun _ _ => ?_) | refine s_b0 (fun _ => ?_) | ((fail_if_success refine g_lit rfl rfl rfl ?_); first | apply g_partM rfl rfl rfl | apply g_partMB rfl rfl rfl | fail))
      | refine gS ?_ | exact s_m | intro _)
    exact gR (H, {}, ⟨some ⟨rb, ro, none⟩, c, q :: r, true⟩) ⟨HP.sub.refl _, ⟨rfl, rfl, SlAt.none, PtsOf.nil, rfl, rfl, rfl, rfl, rfl, rfl⟩, h0.setBad true⟩
end Go.Proofs.YtaahibcibgljbaaGreatDoor

namespace Go.Proofs.YtaahibcibgljbaaGreatDoor
open Go.Sl facts
theorem kids_sz (x : V) : x.kids.length ≤ szV x ∧ ∀ y ∈ x.kids, szV y ≤ szV x := by
  obtain ⟨k, y, n, s, ks, l⟩ := x
  rw [szV_mk]
  simp only [V.kids]
  have := szK_len l
  exact ⟨by omega, fun y hy => by have := szK_mem hy; omega⟩
def Bnd2 (v : V) : Prop := v.kids.length ≤ 100000 ∧ ∀ x ∈ v.kids, x.kids.length ≤ 100000 ∧ ∀ y ∈ x.kids, y.kids.length ≤ 100000
theorem Bnd2.of {v : V} (h : szV v ≤ 100000) : Bnd2 v := by
  have h0 := kids_sz v
  refine ⟨by omega, fun x hx => ?_⟩
  have h1 := h0.2 x hx
  have h2 := kids_sz x
  exact ⟨by omega, fun y hy => by have := h2.2 y hy; have := (kids_sz y).1; omega⟩
theorem smK_of {v : V} (h : Bnd2 v) (b : Bool) (ks : List ByteArray) : SmK (b, ks.zip v.kids) := fun x hx =>
  h.2 x.2 (List.of_mem_zip (a := x.1) (b := x.2) hx).2
structure PAt (H : HP) (x : V) (p : Option Addr) (c : Nat) (ps : List Pr) : Prop where
  k : x.kind = 6
  l : ps.length = x.kids.length
  b : x.kids.length ≤ 9223372036854775807
  c : x.kids.length ≤ c
  ks : x.keys = ps.map Pr.k
  s : SlAt (Pile H) 2 p x.kids.length (ps.flatMap Pr.cells)
  h : ∀ (i : Nat) a q, x.kids[i]? = some a → ps[i]? = some q → TAt H a q.v
theorem TAt.prs {H : HP} {x : V} {w : Value} (h : TAt H x w) : (∃ p c ps, w = .iface 89 (.slice p x.kids.length c) ∧ PAt H x p c ps) ∨ (Other 89 w ∧ x.kind ≠ 6) := by
  cases h with
  | nil => exact .inr ⟨.inl rfl, by simp [V.kind]⟩
  | bool => exact .inr ⟨.inr ⟨_, _, rfl, rfl⟩, by simp [V.kind]⟩
  | int => exact .inr ⟨.inr ⟨_, _, rfl, rfl⟩, by simp [V.kind]⟩
  | text => exact .inr ⟨.inr ⟨_, _, rfl, rfl⟩, by simp [V.kind]⟩
  | list => exact .inr ⟨.inr ⟨_, _, rfl, rfl⟩, by simp [V.kind]⟩
  | pairs ps hv hl hk hz hS h => exact .inl ⟨_, _, ps, rfl, rfl, hv, hl.1, hl.2, hk, hS, h⟩
  | other hk h1 h2 h3 h4 h5 => exact .inr ⟨.inr ⟨_, _, rfl, h5⟩, by simp only [V.kind]; omega⟩
theorem PAt.rel {H : HP} {v : V} {p : Option Addr} {c : Nat} {ps : List Pr} (h : PAt H v p c ps) (hz : v.kids.length ≤ 1000000000) : Rel H ⟨p, c, ps, false⟩ (false, v.keys.zip v.kids) := by
  have hkl : v.keys.length = v.kids.length := by rw [h.ks, List.length_map, h.l]
  refine ⟨⟨by dsimp only; rw [h.l]; exact h.s, by dsimp only; rw [h.l]; exact hz, by dsimp only; rw [h.l]; exact h.c, fun q hq => ?_⟩, rfl, ?_, ?_, fun i x q h1 h2 => ?_⟩
  · obtain ⟨i, hi, rfl⟩ := List.mem_iff_getElem.1 hq
    have hi : i < ps.length := hi
    exact (h.h i _ _ (List.getElem?_eq_getElem (by rw [← h.l]; exact hi)) (List.getElem?_eq_getElem hi)).shape
  · simp only [List.length_zip, hkl, h.l, Nat.min_self]
  · dsimp only
    rw [List.map_fst_zip (by omega), h.ks]
  · have h1' := h1
    dsimp only at h1 h2
    rw [List.getElem?_zip_eq_some] at h1
    exact h.h i _ _ h1.2 h2
def ofOk (v : V) : Bool := decide (v.kind = 6 ∧ (weigh v 0 0).1 = 0 ∧ (callS (false, v.keys.zip v.kids)).2.1 = false ∧ (callS (false, v.keys.zip v.kids)).2.2 = [])
def ofC (v : V) : ClV := if ofOk v = true then (callS (false, v.keys.zip v.kids)).1 else {}
theorem ClAt.zero {H : HP} : ClAt H {} {} := ⟨rfl, rfl, SlAt.none, PtsOf.nil, rfl, rfl, rfl, rfl, rfl, rfl⟩
attribute [local irreducible] Code.wp wpList Exit.then Exit.inBlock bodyPost Back MidQ G GP QStep VStep CStep SStep Does Post Reads
attribute [local irreducible] weigh weighL callS
set_option maxHeartbeats 16000000 in
theorem of1 {H : HP} (hV : VStr H) {v : V} {w : Value} (hw : TAt H v w) (hz : Bnd2 v) : Does Tryz.prog 17 [w] [Pile H] (X := HP × Cl) (fun y => .tuple #[.agg y.2.cells.toArray, int (if ofOk v = true then 0 else 1)]) (fun y => [Pile y.1]) (fun y => HP.sub H y.1 ∧ ClAt y.1 y.2 (ofC v)) := by
  have hc := check1 hV hw
  have hno : ofOk v = false → ofC v = {} := fun h => by unfold ofC; rw [h]; rfl
  have hyes : ofOk v = true → ofC v = (callS (false, v.keys.zip v.kids)).1 := fun h => by unfold ofC; rw [h]; rfl
  rcases hw.prs with ⟨p, c, ps, rfl, hP⟩ | ⟨ho, hk⟩
  · have hkl := hz.1
    have hR := hP.rel (by omega)
    have hS := smK_of hz false v.keys
    rw [← hP.l] at hc ⊢
    have hcall := fun b => call_ b _ _ hR hS
    dsimp only [Fm.row] at hcall
    by_cases hw0 : (weigh v 0 0).1 = 0
    · have hok : ofOk v = decide ((callS (false, v.keys.zip v.kids)).2.1 = false ∧ (callS (false, v.keys.zip v.kids)).2.2 = []) := by unfold ofOk; simp [hP.k, hw0]
      generalize callS (false, v.keys.zip v.kids) = S at hcall hok hyes
      refine fn_intro Tryz.func17 rfl Tryz.ntmps17 rfl (by simp only [argFr, Nat.zero_add, Nat.reduceAdd]; rfl) (fun Γ => ?_)
      repeat (first
        | (refine g_ops ?_; first | refine sO ?_ | refine s_n (fun _ => ?_) | refine s_app (fun _ _ => ?_) | refine s_b0 (fun _ => ?_) | ((fail_if_success refine g_lit rfl rfl rfl ?_); first | apply g_partM rfl rfl rfl | apply g_partMB rfl rfl rfl | fail) | refine s_k (hc) ?_)
        | refine gS ?_ | exact s_m | intro _)
      refine g_as 19 (v' := .bool false) rfl (congrArg Value.bool (decide_eq_false (fun h => h hw0))) ?_
      repeat (first
        | (refine g_ops ?_; first | refine sO ?_ | refine s_n (fun _ => ?_) | refine s_app (fun _ _ => ?_) | refine s_b0 (fun _ => ?_) | ((fail_if_success refine g_lit rfl rfl rfl ?_); first | apply g_partM rfl rfl rfl | apply g_partMB rfl rfl rfl | fail))
        | refine gS ?_ | exact s_m | intro _)
      rename_i fb
      have hcb := hcall fb
      repeat (first
        | (refine g_ops ?_; first | refine sO ?_ | refine s_n (fun _ => ?_) | refine s_app (fun _ _ => ?_) | refine s_b0 (fun _ => ?_) | ((fail_if_success refine g_lit rfl rfl rfl ?_); first | apply g_partM rfl rfl rfl | apply g_partMB rfl rfl rfl | fail) | refine s_c (hcb) (fun _ _ => ?_))
        | refine gS ?_ | exact s_m | intro _)
      rename_i y1 hy1 b7
      obtain ⟨H1, cl, f1⟩ := y1
      obtain ⟨hs1, hcl, hr1⟩ := hy1
      have hb1 := hr1.bad
      have hl1 := hr1.len
      obtain ⟨p1, c1, ps1, bad1⟩ := f1
      dsimp only at hs1 hcl hr1 hb1 hl1 ⊢
      try dsimp only [List.cons_append, List.nil_append, List.append_eq]
      cases bad1 with
      | true =>
        have hof : ofOk v = false := by rw [hok, ← hb1]; simp
        rw [hof]
        repeat (first
          | (refine g_ops ?_; first | refine sO ?_ | refine s_n (fun _ => ?_) | refine s_app (fun _ _ => ?_) | refine s_b0 (fun _ => ?_) | ((fail_if_success refine g_lit rfl rfl rfl ?_); first | apply g_partM rfl rfl rfl | apply g_partMB rfl rfl rfl | fail))
          | refine gS ?_ | exact s_m | intro _)
        exact gR (H1, {}) ⟨hs1, by rw [hno hof]; exact ClAt.zero⟩
      | false =>
        by_cases hl0 : ps1.length = 0
        · have hof : ofOk v = true := by
            rw [hok, ← hb1]
            simpa using List.eq_nil_of_length_eq_zero (by rw [← hl1]; exact hl0)
          rw [hof]
          repeat (first
            | (refine g_ops ?_; first | refine sO ?_ | refine s_n (fun _ => ?_) | refine s_app (fun _ _ => ?_) | refine s_b0 (fun _ => ?_) | ((fail_if_success refine g_lit rfl rfl rfl ?_); first | apply g_partM rfl rfl rfl | apply g_partMB rfl rfl rfl | fail))
            | refine gS ?_ | exact s_m | intro _)
          refine g_as 37 (v' := .bool false) rfl (congrArg Value.bool (decide_eq_false (by omega))) ?_
          repeat (first
            | (refine g_ops ?_; first | refine sO ?_ | refine s_n (fun _ => ?_) | refine s_app (fun _ _ => ?_) | refine s_b0 (fun _ => ?_) | ((fail_if_success refine g_lit rfl rfl rfl ?_); first | apply g_partM rfl rfl rfl | apply g_partMB rfl rfl rfl | fail))
            | refine gS ?_ | exact s_m | intro _)
          exact gR (H1, cl) ⟨hs1, by rw [hyes hof]; exact hcl⟩
        · have hof : ofOk v = false := by
            rw [hok, ← hb1]
            have : ¬ S.2.2 = [] := fun e => hl0 (by rw [hl1, e]; rfl)
            simp [this]
          rw [hof]
          repeat (first
            | (refine g_ops ?_; first | refine sO ?_ | refine s_n (fun _ => ?_) | refine s_app (fun _ _ => ?_) | refine s_b0 (fun _ => ?_) | ((fail_if_success refine g_lit rfl rfl rfl ?_); first | apply g_partM rfl rfl rfl | apply g_partMB rfl rfl rfl | fail))
            | refine gS ?_ | exact s_m | intro _)
          refine g_as 37 (v' := .bool true) rfl (congrArg Value.bool (decide_eq_true (by omega))) ?_
          repeat (first
            | (refine g_ops ?_; first | refine sO ?_ | refine s_n (fun _ => ?_) | refine s_app (fun _ _ => ?_) | refine s_b0 (fun _ => ?_) | ((fail_if_success refine g_lit rfl rfl rfl ?_); first | apply g_partM rfl rfl rfl | apply g_partMB rfl rfl rfl | fail))
            | refine gS ?_ | exact s_m | intro _)
          exact gR (H1, {}) ⟨hs1, by rw [hno hof]; exact ClAt.zero⟩
    · have hok : ofOk v = false := by unfold ofOk; simp [hw0]
      rw [hok]
      refine fn_intro Tryz.func17 rfl Tryz.ntmps17 rfl (by simp only [argFr, Nat.zero_add, Nat.reduceAdd]; rfl) (fun Γ => ?_)
      repeat (first
        | (refine g_ops ?_; first | refine sO ?_ | refine s_n (fun _ => ?_) | refine s_app (fun _ _ => ?_) | refine s_b0 (fun _ => ?_) | ((fail_if_success refine g_lit rfl rfl rfl ?_); first | apply g_partM rfl rfl rfl | apply g_partMB rfl rfl rfl | fail) | refine s_k (hc) ?_)
        | refine gS ?_ | exact s_m | intro _)
      refine g_as 19 (v' := .bool true) rfl (congrArg Value.bool (decide_eq_true hw0)) ?_
      repeat (first
        | (refine g_ops ?_; first | refine sO ?_ | refine s_n (fun _ => ?_) | refine s_app (fun _ _ => ?_) | refine s_b0 (fun _ => ?_) | ((fail_if_success refine g_lit rfl rfl rfl ?_); first | apply g_partM rfl rfl rfl | apply g_partMB rfl rfl rfl | fail))
        | refine gS ?_ | exact s_m | intro _)
      exact gR (H, {}) ⟨HP.sub.refl _, by rw [hno hok]; exact ClAt.zero⟩
  · have hok : ofOk v = false := by unfold ofOk; simp [hk]
    rw [hok]
    rcases ho with rfl | ⟨t, u, rfl, ne⟩
    · refine fn_intro Tryz.func17 rfl Tryz.ntmps17 rfl (by simp only [argFr, Nat.zero_add, Nat.reduceAdd]; rfl) (fun Γ => ?_)
      repeat (first
        | (refine g_ops ?_; first | refine sO ?_ | refine s_n (fun _ => ?_) | refine s_app (fun _ _ => ?_) | refine s_b0 (fun _ => ?_) | ((fail_if_success refine g_lit rfl rfl rfl ?_); first | apply g_partM rfl rfl rfl | apply g_partMB rfl rfl rfl | fail))
        | refine gS ?_ | exact s_m | intro _)
      exact gR (H, {}) ⟨HP.sub.refl _, by rw [hno hok]; exact ClAt.zero⟩
    · refine fn_intro Tryz.func17 rfl Tryz.ntmps17 rfl (by simp only [argFr, Nat.zero_add, Nat.reduceAdd]; rfl) (fun Γ => ?_)
      repeat (first
        | (refine g_ops ?_; first | refine sO ?_ | refine s_n (fun _ => ?_) | refine s_app (fun _ _ => ?_) | refine s_b0 (fun _ => ?_) | ((fail_if_success refine g_lit rfl rfl rfl ?_); first | apply g_partM rfl rfl rfl | apply g_partMB rfl rfl rfl | fail))
        | refine gS ?_ | exact s_m | intro _)
      exact gR (H, {}) ⟨HP.sub.refl _, by rw [hno hok]; exact ClAt.zero⟩
end Go.Proofs.YtaahibcibgljbaaGreatDoor
