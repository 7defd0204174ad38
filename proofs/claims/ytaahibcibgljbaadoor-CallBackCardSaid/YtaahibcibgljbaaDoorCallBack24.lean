/- Contracts and laws that the proof stands on. -/
import Derived.Test.YtaahibcibgljbaaDoorCallBack23
import Derived.Test.YtaahibcibgljbaaDoorCallBack13
set_option linter.unusedSimpArgs false
set_option linter.unusedVariables false
namespace Go.Proofs.YtaahibcibgljbaaDoor
open Go.Sl facts
attribute [local irreducible] weigh weighL
theorem never12L {p : Bool} : ∀ (l : List V), (∀ x ∈ l, ∀ lv n, (weigh x lv n).1 ≠ 12) → ∀ pr ks lv n, (weighL p pr ks l lv n).1 ≠ 12
  | [], _, pr, ks, lv, n => by rw [weighL_nil]; simp
  | x :: l, h, pr, ks, lv, n => by
    rw [weighL_cons]
    split
    · simp
    split
    · exact never12L l (fun y hy => h y (List.mem_cons_of_mem _ hy)) _ _ _ _
    · exact h x (by simp) _ _
theorem never12 (v : V) : KOk v → ∀ lv n, (weigh v lv n).1 ≠ 12 := by
  refine V.ind (Q := fun v => KOk v → ∀ lv n, (weigh v lv n).1 ≠ 12) (fun k y m s ks l ih hk lv n => ?_) v
  obtain ⟨hk, hl⟩ := hk
  rw [weigh_mk]
  split
  · omega
  split
  · simp
  split
  · simp
  split
  · simp
  split
  · simp
  · exact never12L l (fun x hx => ih x hx (hl x hx)) _ _ _ _
theorem goodS {s : ByteArray} : GoodT (textV s) := flatG (by decide) ⟨by decide, by decide⟩
theorem goodL {l : List V} (h : ∀ x ∈ l, GoodT x) : GoodT (listV l) := by
  unfold listV
  exact ⟨.mk (fun h => absurd h (by decide)) (fun _ => rfl) (fun h => by omega) (fun x hx => (h x hx).1), ⟨⟨by decide, by decide⟩, fun x hx => (h x hx).2⟩⟩
theorem goodPut {x : Pt} (h : inI x.exp) : GoodT (putL x) := goodL fun y hy => by
  simp only [List.mem_cons, List.mem_map] at hy
  rcases hy with rfl | rfl | ⟨t, _, rfl⟩
  · exact goodS
  · exact goodI h
  · exact goodS
theorem kokT {k : Int} {y : Bool} {n : Int} {s : ByteArray} {ks : List ByteArray} (h : 1 ≤ k ∧ k ≤ 6) : KOk (.mk k y n s ks []) := .mk h fun x hx => by cases hx
theorem nrmL_id : ∀ {l : List V}, (∀ x ∈ l, nrm x = x) → nrmL l = l
  | [], _ => nrmL_nil
  | x :: l, h => by rw [nrmL_cons, h x (by simp), nrmL_id fun y hy => h y (List.mem_cons_of_mem _ hy)]
theorem nrm_list {l : List V} (h : ∀ x ∈ l, nrm x = x) : nrm (listV l) = listV l := by
  unfold listV
  rw [nrm_mk]
  simp [listV, nrmL_id h]
theorem nrm_pairs {ks : List ByteArray} {l : List V} (h : ∀ x ∈ l, nrm x = x) : nrm (pairsV ks l) = pairsV ks l := by
  unfold pairsV
  rw [nrm_mk]
  simp [pairsV, nrmL_id h]
theorem nrm_text (s : ByteArray) : nrm (textV s) = textV s := by unfold textV; rw [nrm_mk]; simp [textV]
theorem nrm_int (n : Int) : nrm (intV n) = intV n := by unfold intV; rw [nrm_mk]; simp [intV]
theorem nrm_nil : nrm nilV = nilV := by unfold nilV; rw [nrm_mk]; simp [nilV]
theorem nrm_put (x : Pt) : nrm (putL x) = putL x := nrm_list fun y hy => by
  simp only [List.mem_cons, List.mem_map] at hy
  rcases hy with rfl | rfl | ⟨t, _, rfl⟩
  · exact nrm_text _
  · exact nrm_int _
  · exact nrm_text _
theorem put_back (x : Pt) : putV (putL x) = some x.d := by
  obtain ⟨st, ex, dp, dc, data⟩ := x
  have hall : ∀ y ∈ data.map textV, y.kind = 4 := fun y hy => by
    obtain ⟨t, _, rfl⟩ := List.mem_map.1 hy
    rfl
  have hmap : (data.map textV).map V.s = data := by rw [List.map_map]; exact (List.map_congr_left (fun t _ => rfl)).trans (List.map_id _)
  unfold putV putL
  show (if (5 : Int) = 5 ∧ (4 : Int) = 4 ∧ (3 : Int) = 3 ∧ ∀ y ∈ data.map textV, y.kind = 4 then some (⟨st, ex, (data.map textV).map V.s⟩ : PtD) else none) = some ⟨st, ex, data⟩
  rw [if_pos ⟨rfl, rfl, rfl, hall⟩, hmap]
theorem kokPut (x : Pt) : KOk (putL x) := .mk ⟨by decide, by decide⟩ fun y hy => by
  simp only [List.mem_cons, List.mem_map] at hy
  rcases hy with rfl | rfl | ⟨t, _, rfl⟩
  · exact kokT ⟨by decide, by decide⟩
  · exact kokT ⟨by decide, by decide⟩
  · exact kokT ⟨by decide, by decide⟩
inductive IsX : Cl → ClV → V → Prop where
  | a (key pp pc pts) : IsX { kind := 1, key := key, pp := pp, pc := pc, pts := pts } { kind := 1, key := key, pv := pts.map putL } (pairsV [kAppend, kKey] [listV (pts.map putL), textV key])
  | r (stream frm max) : IsX { kind := 2, stream := stream, frm := frm, max := max } { kind := 2, stream := stream, frm := frm, max := max } (pairsV [kFrom, kMax, kRead] [intV frm, intV max, textV stream])
  | p (pattern max) : IsX { kind := 3, pattern := pattern, max := max } { kind := 3, pattern := pattern, max := max } (pairsV [kMax, kPoll] [intV max, textV pattern])
  | s (frm) : IsX { kind := 4, frm := frm } { kind := 4, frm := frm } (pairsV [kSplit] [intV frm])
  | m (first tt) : IsX { kind := 5, first := first, tt := tt } { kind := 5, first := first, tt := tt } (pairsV [kMove, kTo] [intV first, intV tt])
  | z : IsX { kind := 6 } { kind := 6 } (pairsV [kMap] [nilV])
theorem IsX.val {x : Cl} {d : ClV} {v : V} (h : IsX x d v) : valC' x = v := by cases h <;> rfl
theorem IsX.nrm' {x : Cl} {d : ClV} {v : V} (h : IsX x d v) : nrm v = v := by
  cases h
  all_goals refine nrm_pairs fun y hy => ?_
  all_goals simp only [List.mem_cons, List.not_mem_nil, or_false] at hy
  · rcases hy with rfl | rfl
    · exact nrm_list fun z hz => by
        obtain ⟨t, _, rfl⟩ := List.mem_map.1 hz
        exact nrm_put t
    · exact nrm_text _
  · rcases hy with rfl | rfl | rfl
    · exact nrm_int _
    · exact nrm_int _
    · exact nrm_text _
  · rcases hy with rfl | rfl
    · exact nrm_int _
    · exact nrm_text _
  · subst hy; exact nrm_int _
  · rcases hy with rfl | rfl
    · exact nrm_int _
    · exact nrm_int _
  · subst hy; exact nrm_nil
theorem IsX.kok {x : Cl} {d : ClV} {v : V} (h : IsX x d v) : KOk v := by
  cases h
  all_goals refine .mk ⟨by decide, by decide⟩ fun y hy => ?_
  all_goals simp only [List.mem_cons, List.not_mem_nil, or_false] at hy
  · rcases hy with rfl | rfl
    · exact .mk ⟨by decide, by decide⟩ fun z hz => by
        obtain ⟨t, _, rfl⟩ := List.mem_map.1 hz
        exact kokPut t
    · exact kokT ⟨by decide, by decide⟩
  · rcases hy with rfl | rfl | rfl <;> exact kokT ⟨by decide, by decide⟩
  · rcases hy with rfl | rfl <;> exact kokT ⟨by decide, by decide⟩
  · subst hy; exact kokT ⟨by decide, by decide⟩
  · rcases hy with rfl | rfl <;> exact kokT ⟨by decide, by decide⟩
  · subst hy; exact kokT ⟨by decide, by decide⟩
theorem IsX.good {H : HP} {x : Cl} {d : ClV} {v : V} (h : IsX x d v) (hx : ClIn H x) : GoodT v := by
  obtain ⟨_, hp, _, _, _, _, _, h1, h2, h3, h4⟩ := hx
  cases h
  all_goals refine goodP rfl fun y hy => ?_
  all_goals simp only [List.mem_cons, List.not_mem_nil, or_false] at hy
  · rcases hy with rfl | rfl
    · exact goodL fun z hz => by
        obtain ⟨t, ht, rfl⟩ := List.mem_map.1 hz
        exact goodPut (hp t ht).ex
    · exact goodS
  · rcases hy with rfl | rfl | rfl
    · exact goodI h1
    · exact goodI h2
    · exact goodS
  · rcases hy with rfl | rfl
    · exact goodI h2
    · exact goodS
  · subst hy; exact goodI h1
  · rcases hy with rfl | rfl
    · exact goodI h3
    · exact goodI h4
  · subst hy; exact goodN
theorem IsX.doc {x : Cl} {d : ClV} {v : V} (h : IsX x d v) (hw : (weigh v 0 0).1 = 0) : docOf v = some d := by
  cases h
  · rename_i key pp pc pts
    have hF : isF (pairsV [kAppend, kKey] [listV (pts.map putL), textV key]) [kAppend, kKey] [5, 4] := ⟨rfl, rfl, rfl⟩
    have hp : ((kid (pairsV [kAppend, kKey] [listV (pts.map putL), textV key]) 0).kids.all fun y => (putV y).isSome) = true := List.all_eq_true.2 fun y hy => by
      have hy : y ∈ pts.map putL := hy
      obtain ⟨t, _, rfl⟩ := List.mem_map.1 hy
      rw [put_back]; rfl
    unfold docOf
    rw [if_neg (fun h => h hw), if_pos hF, if_pos hp]
    try rfl
  · rename_i stream frm max
    have hF : isF (pairsV [kFrom, kMax, kRead] [intV frm, intV max, textV stream]) [kFrom, kMax, kRead] [3, 3, 4] := ⟨rfl, rfl, rfl⟩
    unfold docOf
    rw [if_neg (fun h => h hw), if_neg (not_isF (ks' := [kFrom, kMax, kRead]) rfl (by decide)), if_pos hF]
    try rfl
  · rename_i pattern max
    have hF : isF (pairsV [kMax, kPoll] [intV max, textV pattern]) [kMax, kPoll] [3, 4] := ⟨rfl, rfl, rfl⟩
    unfold docOf
    rw [if_neg (fun h => h hw), if_neg (not_isF (ks' := [kMax, kPoll]) rfl (by decide)), if_neg (not_isF (ks' := [kMax, kPoll]) rfl (by decide)), if_pos hF]
    try rfl
  · rename_i frm
    have hF : isF (pairsV [kSplit] [intV frm]) [kSplit] [3] := ⟨rfl, rfl, rfl⟩
    unfold docOf
    rw [if_neg (fun h => h hw), if_neg (not_isF (ks' := [kSplit]) rfl (by decide)), if_neg (not_isF (ks' := [kSplit]) rfl (by decide)), if_neg (not_isF (ks' := [kSplit]) rfl (by decide)), if_pos hF]
    try rfl
  · rename_i first tt
    have hF : isF (pairsV [kMove, kTo] [intV first, intV tt]) [kMove, kTo] [3, 3] := ⟨rfl, rfl, rfl⟩
    unfold docOf
    rw [if_neg (fun h => h hw), if_neg (not_isF (ks' := [kMove, kTo]) rfl (by decide)), if_neg (not_isF (ks' := [kMove, kTo]) rfl (by decide)), if_neg (not_isF (ks' := [kMove, kTo]) rfl (by decide)), if_neg (not_isF (ks' := [kMove, kTo]) rfl (by decide)), if_pos hF]
    try rfl
  · unfold docOf
    rw [if_neg (fun h => h hw), if_neg (not_isF (ks' := [kMap]) rfl (by decide)), if_neg (not_isF (ks' := [kMap]) rfl (by decide)), if_neg (not_isF (ks' := [kMap]) rfl (by decide)), if_neg (not_isF (ks' := [kMap]) rfl (by decide)), if_neg (not_isF (ks' := [kMap]) rfl (by decide)), if_pos ⟨rfl, rfl, rfl⟩]
    try rfl
theorem IsX.lens {x : Cl} {d : ClV} {v : V} (h : IsX x d v) : v.kind = 6 → v.keys.length = v.kids.length := by cases h <;> exact fun _ => rfl
theorem IsX.self {H : HP} {x : Cl} {d : ClV} {v : V} (h : IsX x d v) (hx : ClIn H x) : ClAt H x d ∧ (∀ z ∈ d.pv, (putV z).isSome = true) ∧ d.pv.length ≤ 1000000000 := by
  obtain ⟨hsl, hp, hn, hm, _⟩ := hx
  cases h
  · rename_i key pp pc pts
    refine ⟨⟨rfl, rfl, hsl, ⟨by simp, fun y hy => ⟨(hp y hy).at_, by have := hm y hy; omega⟩, fun i w y e h1 h2 h3 => ?_⟩, rfl, rfl, rfl, rfl, rfl, rfl⟩, fun z hz => ?_, by dsimp only at hn ⊢; rw [List.length_map]; omega⟩
    · dsimp only at h1 h2
      rw [List.getElem?_map, h2] at h1
      cases h1
      rw [put_back] at h3
      exact (Option.some.inj h3)
    · obtain ⟨t, _, rfl⟩ := List.mem_map.1 hz
      rw [put_back]; rfl
  all_goals exact ⟨⟨rfl, rfl, SlAt.none, PtsOf.nil, rfl, rfl, rfl, rfl, rfl, rfl⟩, (fun _ h => by cases h), Nat.zero_le _⟩
theorem szK_texts : ∀ (l : List ByteArray), szK (l.map textV) = l.length + szS l
  | [] => by simp [szK_nil, szS_nil]
  | x :: l => by
    rw [List.map_cons, szK_cons, szK_texts l, szS_cons]
    unfold textV
    rw [szV_mk, szS_nil, szK_nil]
    simp only [List.length_cons]
    omega
theorem szPut (x : Pt) : szV (putL x) = 3 + x.st.size + x.data.length + szS x.data := by
  unfold putL listV
  rw [szV_mk, szK_cons, szK_cons, szK_texts]
  unfold textV intV
  simp only [szV_mk, szS_nil, szK_nil]
  have : ByteArray.empty.size = 0 := rfl
  omega
theorem szPuts : ∀ (l : List Pt), szK (l.map putL) = 3 * l.length + szP l
  | [] => rfl
  | x :: l => by
    rw [List.map_cons, szK_cons, szPuts l, szPut, szP_cons]
    simp only [List.length_cons]
    omega
theorem IsX.sz {x : Cl} {d : ClV} {v : V} (h : IsX x d v) : szV v ≤ 30 + x.key.size + 3 * x.pts.length + szP x.pts + x.stream.size + x.pattern.size := by
  have e0 : ByteArray.empty.size = 0 := rfl
  have k1 : kAppend.size = 6 := rfl
  have k2 : kKey.size = 3 := rfl
  have k3 : kFrom.size = 4 := rfl
  have k4 : kMax.size = 3 := rfl
  have k5 : kRead.size = 4 := rfl
  have k6 : kPoll.size = 4 := rfl
  have k7 : kSplit.size = 5 := rfl
  have k8 : kMove.size = 4 := rfl
  have k9 : kTo.size = 2 := rfl
  have k10 : kMap.size = 3 := rfl
  cases h
  all_goals unfold pairsV
  all_goals try unfold listV
  all_goals try unfold textV
  all_goals try unfold intV
  all_goals try unfold nilV
  all_goals simp only [szV_mk, szK_cons, szK_nil, szS_cons, szS_nil, szPuts, szP, List.length_nil]
  all_goals omega
end Go.Proofs.YtaahibcibgljbaaDoor

namespace Go.Proofs.YtaahibcibgljbaaDoor
open Go.Sl facts
attribute [local irreducible] Code.wp wpList Exit.then Exit.inBlock bodyPost Back MidQ G GP QStep VStep CStep SStep Does Post Reads
attribute [local irreducible] weigh weighL callS ofOk ofC docOf sumF textB
structure Ca where
  kind : Int
  t1 : Int
  t2 : Int
  t3 : Int
  key : ByteArray
  pp : Option Addr
  pc : Nat
  pts : List Pt
  stream : ByteArray
  frm : Int
  c1 : Int
  c2 : Int
  c3 : Int
  ci : Int
  cs : ByteArray
  pattern : ByteArray
  max : Int
  r1 : Int
  r2 : Int
  r3 : Int
  r4 : Int
  tt : Int
abbrev Ca.cells (x : Ca) : List Value := [int x.kind, int x.t1, int x.t2, int x.t3, .string x.key, .slice x.pp x.pts.length x.pc, .string x.stream, int x.frm, int x.c1, int x.c2, int x.c3, int x.ci, .string x.cs, .string x.pattern, int x.max, int x.r1, int x.r2, int x.r3, int x.r4, int x.tt]
structure CaIn (H : HP) (x : Ca) : Prop where
  sl : SlAt (Pile H) 3 x.pp x.pts.length (x.pts.flatMap Pt.cells)
  pts : ∀ y ∈ x.pts, PtIn (Pile H) y
  n : x.pts.length ≤ 9223372036854775807
  k : x.key.size ≤ 9223372036854775807
  s : x.stream.size ≤ 9223372036854775807
  p : x.pattern.size ≤ 9223372036854775807
  i1 : inI x.frm
  i2 : inI x.max
  i3 : inI x.r1
  i4 : inI x.tt
set_option maxHeartbeats 4000000 in
theorem value_no {H : HP} (x : Ca) (h : x.kind < 1 ∨ 6 < x.kind) : Does1 Tryd.prog 20 [.agg x.cells.toArray] [Pile H] .nilIface := by
  obtain ⟨kind, t1, t2, t3, key, pp, pc, pts, stream, frm, c1, c2, c3, ci, cs, pattern, max, r1, r2, r3, r4, tt⟩ := x
  dsimp only at h
  dsimp only [Ca.cells]
  refine fn_intro Tryd.func20 rfl Tryd.ntmps20 rfl (by simp only [argFr, Nat.zero_add, Nat.reduceAdd]; rfl) (fun Γ => ?_)
  repeat (first
    | (refine g_ops ?_; first | refine sO ?_ | refine s_n (fun _ => ?_) | refine s_app (fun _ _ => ?_) | refine s_b0 (fun _ => ?_) | ((fail_if_success refine g_lit rfl rfl rfl ?_); first | apply g_partM rfl rfl rfl | apply g_partMB rfl rfl rfl | fail))
    | refine gS ?_ | exact s_m | intro _)
  refine g_cond_dec rfl (fun k1 => by omega) (fun k1 => ?_)
  repeat (first
    | (refine g_ops ?_; first | refine sO ?_ | refine s_n (fun _ => ?_) | refine s_app (fun _ _ => ?_) | refine s_b0 (fun _ => ?_) | ((fail_if_success refine g_lit rfl rfl rfl ?_); first | apply g_partM rfl rfl rfl | apply g_partMB rfl rfl rfl | fail))
    | refine gS ?_ | exact s_m | intro _)
  refine g_cond_dec rfl (fun k1 => by omega) (fun k1 => ?_)
  repeat (first
    | (refine g_ops ?_; first | refine sO ?_ | refine s_n (fun _ => ?_) | refine s_app (fun _ _ => ?_) | refine s_b0 (fun _ => ?_) | ((fail_if_success refine g_lit rfl rfl rfl ?_); first | apply g_partM rfl rfl rfl | apply g_partMB rfl rfl rfl | fail))
    | refine gS ?_ | exact s_m | intro _)
  refine g_cond_dec rfl (fun k1 => by omega) (fun k1 => ?_)
  repeat (first
    | (refine g_ops ?_; first | refine sO ?_ | refine s_n (fun _ => ?_) | refine s_app (fun _ _ => ?_) | refine s_b0 (fun _ => ?_) | ((fail_if_success refine g_lit rfl rfl rfl ?_); first | apply g_partM rfl rfl rfl | apply g_partMB rfl rfl rfl | fail))
    | refine gS ?_ | exact s_m | intro _)
  refine g_cond_dec rfl (fun k1 => by omega) (fun k1 => ?_)
  repeat (first
    | (refine g_ops ?_; first | refine sO ?_ | refine s_n (fun _ => ?_) | refine s_app (fun _ _ => ?_) | refine s_b0 (fun _ => ?_) | ((fail_if_success refine g_lit rfl rfl rfl ?_); first | apply g_partM rfl rfl rfl | apply g_partMB rfl rfl rfl | fail))
    | refine gS ?_ | exact s_m | intro _)
  refine g_cond_dec rfl (fun k1 => by omega) (fun k1 => ?_)
  repeat (first
    | (refine g_ops ?_; first | refine sO ?_ | refine s_n (fun _ => ?_) | refine s_app (fun _ _ => ?_) | refine s_b0 (fun _ => ?_) | ((fail_if_success refine g_lit rfl rfl rfl ?_); first | apply g_partM rfl rfl rfl | apply g_partMB rfl rfl rfl | fail))
    | refine gS ?_ | exact s_m | intro _)
  refine g_cond_dec rfl (fun k1 => by omega) (fun k1 => ?_)
  repeat (first
    | (refine g_ops ?_; first | refine sO ?_ | refine s_n (fun _ => ?_) | refine s_app (fun _ _ => ?_) | refine s_b0 (fun _ => ?_) | ((fail_if_success refine g_lit rfl rfl rfl ?_); first | apply g_partM rfl rfl rfl | apply g_partMB rfl rfl rfl | fail))
    | refine gS ?_ | exact s_m | intro _)
  exact gR () trivial
structure CbX where
  x : Cl
  d : ClV
  v : V
set_option maxHeartbeats 16000000 in
theorem back {H : HP} (hT : Tb H) (hE : ErrH H) (x : Ca) (hx : CaIn H x) : Does1 Tryd.prog 6 [.agg x.cells.toArray] [Pile H] (.bool true) := by
  have hno := value_no (H := H) x
  obtain ⟨kind, t1, t2, t3, key, pp, pc, pts, stream, frm, c1, c2, c3, ci, cs, pattern, max, r1, r2, r3, r4, tt⟩ := x
  obtain ⟨hsl, hpts, hn, hk, hs, hp, i1, i2, i3, i4⟩ := hx
  dsimp only at hsl hpts hn hk hs hp i1 i2 i3 i4 hno
  have hb := batch28 key pp pc pts hsl hpts hn hk
  have aw := awake28 hT hE
  have hmost : most = 1099511627776 := rfl
  dsimp only [Ca.cells] at hno ⊢
  refine fn_intro Tryd.func6 rfl Tryd.ntmps6 rfl (by simp only [argFr, Nat.zero_add, Nat.reduceAdd]; rfl) (fun Γ => ?_)
  repeat ((fail_if_success refine s_at 2 ?_); first
    | (refine g_ops ?_; first | refine sO ?_ | refine s_n (fun _ => ?_) | refine s_app (fun _ _ => ?_) | refine s_b0 (fun _ => ?_) | ((fail_if_success refine g_lit rfl rfl rfl ?_); first | apply g_partM rfl rfl rfl | apply g_partMB rfl rfl rfl | fail))
    | refine gS ?_ | exact s_m | intro _)
  rename_i rb
  repeat (first | (refine g_ops ?_; first | refine sO ?_) | refine g_nil ?_ | refine g_then_normal ?_ | refine g_seq ?_)
  refine g_cutX (X := Int) (fun r => [(1, ptr rb), (2, .bool false), (20, .bool (decide (3000 < r)))]) (fun _ => [.row rb [int kind, int t1, int t2, int t3, .string key, .slice pp pts.length pc, .string stream, int frm, int c1, int c2, int c3, int ci, .string cs, .string pattern, int max, int r1, int r2, int r3, int r4, int tt] 38, Pile H]) (fun r => 0 ≤ r ∧ (r ≤ 3000 → (key.size : Int) + pts.length + szP pts + stream.size + pattern.size ≤ r)) ?_ (fun r hr => ?_)
  · have hsum := fun (T : Int) (hT : 0 ≤ T ∧ T ≤ most ∧ (T ≤ 3000 → (key.size : Int) + pts.length + szP pts ≤ T)) => sum_upS T [(stream.size : Int), (pattern.size : Int)] (by simp) hT.2.1
    have hlim : ∀ x ∈ [(stream.size : Int), (pattern.size : Int)], 0 ≤ x ∧ x ≤ 9223372036854775807 := by simp; omega
    refine g_draw (.take 0 (.see 1 [] (.take 3 (.see 4 [] (.take 5 (.take 6 (.see 7 [] (.take 8 (.two 2 (.one 9 (.one 10 (.take 11 .done))) 9 (.one 2 (.one 10 (.take 11 .done)))))))))))) (by kernel_rfl) (C := [.row rb [int kind, int t1, int t2, int t3, .string key, .slice pp pts.length pc, .string stream, int frm, int c1, int c2, int c3, int ci, .string cs, .string pattern, int max, int r1, int r2, int r3, int r4, int tt] 38]) (by (repeat (first | exact Take.nil | apply Take.cons | exact Sel.here | apply Sel.there)); first | done | fail) (fun m hd hk => ?_)
    repeat (first
      | (refine gp_take ?_; first | refine pT ?_ | ((fail_if_success refine gp_lit rfl rfl rfl rfl ?_); first | apply gp_guard_dec rfl rfl rfl rfl | apply gp_guard rfl rfl rfl rfl | fail))
      | (refine gp_see ?_; first | refine p_f ?_ | refine pS ?_ | ((fail_if_success refine gp_lit rfl rfl rfl rfl ?_); first | apply gp_guard_dec rfl rfl rfl rfl | apply gp_guard rfl rfl rfl rfl | fail))
      | (refine gp_one ?_; first | refine pO ?_ | refine p_n (fun _ => ?_) | refine p_app (fun _ _ => ?_) | refine p_b0 (fun _ => ?_) | ((fail_if_success refine gp_lit rfl rfl rfl rfl ?_); first | apply gp_guard_dec rfl rfl rfl rfl | apply gp_guard rfl rfl rfl rfl | fail) | refine p_c (hb) (fun _ _ => ?_))
      | refine gp_two ?_ ?_ | refine gp_done hd hk ?_ | intro _ | refine p_ta hd hk (fun _ _ _ hd hk => ?_) | refine p_ts hd hk (fun _ hd hk => ?_))
    · rename_i T hTt _
      have h1 := hsum T hTt
      simp only [List.sum_cons, List.sum_nil, Int.add_zero] at h1
      repeat (first
        | (refine gp_take ?_; first | refine pT ?_ | ((fail_if_success refine gp_lit rfl rfl rfl rfl ?_); first | apply gp_guard_dec rfl rfl rfl rfl | apply gp_guard rfl rfl rfl rfl | fail))
        | (refine gp_see ?_; first | refine p_f ?_ | refine pS ?_ | ((fail_if_success refine gp_lit rfl rfl rfl rfl ?_); first | apply gp_guard_dec rfl rfl rfl rfl | apply gp_guard rfl rfl rfl rfl | fail) | refine p_h (sum_row _ _ _ T [(stream.size : Int), (pattern.size : Int)] ⟨hTt.1, hTt.2.1⟩ hlim (by simp)) hd hk ?_)
        | (refine gp_one ?_; first | refine pO ?_ | refine p_n (fun _ => ?_) | refine p_app (fun _ _ => ?_) | refine p_b0 (fun _ => ?_) | ((fail_if_success refine gp_lit rfl rfl rfl rfl ?_); first | apply gp_guard_dec rfl rfl rfl rfl | apply gp_guard rfl rfl rfl rfl | fail) | refine p_k (sum_row _ _ _ T [(stream.size : Int), (pattern.size : Int)] ⟨hTt.1, hTt.2.1⟩ hlim (by simp)) ?_)
        | refine gp_two ?_ ?_ | refine gp_done hd hk ?_ | intro _ | refine p_ta hd hk (fun _ _ _ hd hk => ?_) | refine p_ts hd hk (fun _ hd hk => ?_))
      generalize sumF T [(stream.size : Int), (pattern.size : Int)] = m1 at h1 ⊢
      try dsimp only [List.cons_append, List.nil_append, List.append_eq]
      exact g_midX m1 ⟨by omega, fun h => by
        have := h1.2.2 (by omega)
        have := hTt.2.2 (by omega)
        omega⟩ (by (repeat (first | exact FrSub.nil | refine FrSub.cons rfl ?_)); first | done | fail) (by (repeat (first | exact Take.nil | apply Take.cons | exact Sel.here | apply Sel.there)); first | done | fail)
    · repeat (first
        | (refine gp_take ?_; first | refine pT ?_ | ((fail_if_success refine gp_lit rfl rfl rfl rfl ?_); first | apply gp_guard_dec rfl rfl rfl rfl | apply gp_guard rfl rfl rfl rfl | fail))
        | (refine gp_see ?_; first | refine p_f ?_ | refine pS ?_ | ((fail_if_success refine gp_lit rfl rfl rfl rfl ?_); first | apply gp_guard_dec rfl rfl rfl rfl | apply gp_guard rfl rfl rfl rfl | fail))
        | (refine gp_one ?_; first | refine pO ?_ | refine p_n (fun _ => ?_) | refine p_app (fun _ _ => ?_) | refine p_b0 (fun _ => ?_) | ((fail_if_success refine gp_lit rfl rfl rfl rfl ?_); first | apply gp_guard_dec rfl rfl rfl rfl | apply gp_guard rfl rfl rfl rfl | fail) | refine p_c (hb) (fun _ _ => ?_))
        | refine gp_two ?_ ?_ | refine gp_done hd hk ?_ | intro _ | refine p_ta hd hk (fun _ _ _ hd hk => ?_) | refine p_ts hd hk (fun _ hd hk => ?_))
      rename_i b9 T hTt
      have h1 := hsum T hTt
      simp only [List.sum_cons, List.sum_nil, Int.add_zero] at h1
      repeat (first
        | (refine gp_take ?_; first | refine pT ?_ | ((fail_if_success refine gp_lit rfl rfl rfl rfl ?_); first | apply gp_guard_dec rfl rfl rfl rfl | apply gp_guard rfl rfl rfl rfl | fail))
        | (refine gp_see ?_; first | refine p_f ?_ | refine pS ?_ | ((fail_if_success refine gp_lit rfl rfl rfl rfl ?_); first | apply gp_guard_dec rfl rfl rfl rfl | apply gp_guard rfl rfl rfl rfl | fail) | refine p_h (sum_row _ _ _ T [(stream.size : Int), (pattern.size : Int)] ⟨hTt.1, hTt.2.1⟩ hlim (by simp)) hd hk ?_)
        | (refine gp_one ?_; first | refine pO ?_ | refine p_n (fun _ => ?_) | refine p_app (fun _ _ => ?_) | refine p_b0 (fun _ => ?_) | ((fail_if_success refine gp_lit rfl rfl rfl rfl ?_); first | apply gp_guard_dec rfl rfl rfl rfl | apply gp_guard rfl rfl rfl rfl | fail) | refine p_k (sum_row _ _ _ T [(stream.size : Int), (pattern.size : Int)] ⟨hTt.1, hTt.2.1⟩ hlim (by simp)) ?_)
        | refine gp_two ?_ ?_ | refine gp_done hd hk ?_ | intro _ | refine p_ta hd hk (fun _ _ _ hd hk => ?_) | refine p_ts hd hk (fun _ hd hk => ?_))
      generalize sumF T [(stream.size : Int), (pattern.size : Int)] = m1 at h1 ⊢
      try dsimp only [List.cons_append, List.nil_append, List.append_eq]
      exact g_midX m1 ⟨by omega, fun h => by
        have := h1.2.2 (by omega)
        have := hTt.2.2 (by omega)
        omega⟩ (by (repeat (first | exact FrSub.nil | refine FrSub.cons rfl ?_)); first | done | fail) (by (repeat (first | exact Take.nil | apply Take.cons | exact Sel.here | apply Sel.there)); first | done | fail)
  repeat (first
    | (refine g_ops ?_; first | refine sO ?_ | refine s_n (fun _ => ?_) | refine s_app (fun _ _ => ?_) | refine s_b0 (fun _ => ?_) | ((fail_if_success refine g_lit rfl rfl rfl ?_); first | apply g_partM rfl rfl rfl | apply g_partMB rfl rfl rfl | fail))
    | refine gS ?_ | exact s_m | intro _)
  refine g_cond_dec rfl (fun h1 => ?_) (fun h1 => ?_)
  · repeat (first
      | (refine g_ops ?_; first | refine sO ?_ | refine s_n (fun _ => ?_) | refine s_app (fun _ _ => ?_) | refine s_b0 (fun _ => ?_) | ((fail_if_success refine g_lit rfl rfl rfl ?_); first | apply g_partM rfl rfl rfl | apply g_partMB rfl rfl rfl | fail) | refine s_k (aw) ?_)
      | refine gS ?_ | exact s_m | intro _)
    exact s_r ()
  have hsz := hr.2 (by omega)
  have hdl : ∀ y ∈ pts, y.data.length ≤ 100000 := fun y hy => by have := szP_mem hy; omega
  repeat (first
    | (refine g_ops ?_; first | refine sO ?_ | refine s_n (fun _ => ?_) | refine s_app (fun _ _ => ?_) | refine s_b0 (fun _ => ?_) | ((fail_if_success refine g_lit rfl rfl rfl ?_); first | apply g_partM rfl rfl rfl | apply g_partMB rfl rfl rfl | fail))
    | refine gS ?_ | exact s_m | intro _)
  rename_i xb
  by_cases hkd : kind < 1 ∨ 6 < kind
  · have hn1 := hno hkd
    refine g_cond_dec rfl (fun k1 => by omega) (fun k1 => ?_)
    repeat (first
      | (refine g_ops ?_; first | refine sO ?_ | refine s_n (fun _ => ?_) | refine s_app (fun _ _ => ?_) | refine s_b0 (fun _ => ?_) | ((fail_if_success refine g_lit rfl rfl rfl ?_); first | apply g_partM rfl rfl rfl | apply g_partMB rfl rfl rfl | fail))
      | refine gS ?_ | exact s_m | intro _)
    refine g_cond_dec rfl (fun k1 => by omega) (fun k1 => ?_)
    repeat (first
      | (refine g_ops ?_; first | refine sO ?_ | refine s_n (fun _ => ?_) | refine s_app (fun _ _ => ?_) | refine s_b0 (fun _ => ?_) | ((fail_if_success refine g_lit rfl rfl rfl ?_); first | apply g_partM rfl rfl rfl | apply g_partMB rfl rfl rfl | fail))
      | refine gS ?_ | exact s_m | intro _)
    refine g_cond_dec rfl (fun k1 => by omega) (fun k1 => ?_)
    repeat (first
      | (refine g_ops ?_; first | refine sO ?_ | refine s_n (fun _ => ?_) | refine s_app (fun _ _ => ?_) | refine s_b0 (fun _ => ?_) | ((fail_if_success refine g_lit rfl rfl rfl ?_); first | apply g_partM rfl rfl rfl | apply g_partMB rfl rfl rfl | fail))
      | refine gS ?_ | exact s_m | intro _)
    refine g_cond_dec rfl (fun k1 => by omega) (fun k1 => ?_)
    repeat (first
      | (refine g_ops ?_; first | refine sO ?_ | refine s_n (fun _ => ?_) | refine s_app (fun _ _ => ?_) | refine s_b0 (fun _ => ?_) | ((fail_if_success refine g_lit rfl rfl rfl ?_); first | apply g_partM rfl rfl rfl | apply g_partMB rfl rfl rfl | fail))
      | refine gS ?_ | exact s_m | intro _)
    refine g_cond_dec rfl (fun k1 => by omega) (fun k1 => ?_)
    repeat (first
      | (refine g_ops ?_; first | refine sO ?_ | refine s_n (fun _ => ?_) | refine s_app (fun _ _ => ?_) | refine s_b0 (fun _ => ?_) | ((fail_if_success refine g_lit rfl rfl rfl ?_); first | apply g_partM rfl rfl rfl | apply g_partMB rfl rfl rfl | fail))
      | refine gS ?_ | exact s_m | intro _)
    refine g_cond_dec rfl (fun k1 => by omega) (fun k1 => ?_)
    repeat (first
      | (refine g_ops ?_; first | refine sO ?_ | refine s_n (fun _ => ?_) | refine s_app (fun _ _ => ?_) | refine s_b0 (fun _ => ?_) | ((fail_if_success refine g_lit rfl rfl rfl ?_); first | apply g_partM rfl rfl rfl | apply g_partMB rfl rfl rfl | fail) | refine s_k (hn1) ?_ | refine s_k (aw) ?_)
      | refine gS ?_ | exact s_m | intro _)
    exact s_r ()
  refine g_cutX (X := CbX) (fun z => [(1, ptr rb), (2, .bool false), (3, ptr xb)]) (fun z => [.row xb z.x.cells 38, .row rb [int kind, int t1, int t2, int t3, .string key, .slice pp pts.length pc, .string stream, int frm, int c1, int c2, int c3, int ci, .string cs, .string pattern, int max, int r1, int r2, int r3, int r4, int tt] 38, Pile H]) (fun z => IsX z.x z.d z.v ∧ ClIn H z.x ∧ z.x.key.size + 3 * z.x.pts.length + szP z.x.pts + z.x.stream.size + z.x.pattern.size ≤ 9100) ?_ (fun z hz => ?_)
  · have e0 : ByteArray.empty.size = 0 := rfl
    have z0 : inI 0 := ⟨by decide, by decide⟩
    have n0 : ByteArray.empty.size ≤ 9223372036854775807 := by decide
    have p0 : ∀ y ∈ ([] : List Pt), PtIn (Pile H) y := fun _ h => by cases h
    have m0 : ∀ y ∈ ([] : List Pt), y.data.length ≤ 100000 := fun _ h => by cases h
    refine g_cond_dec rfl (fun k1 => ?_) (fun k1 => ?_)
    · subst k1
      repeat (first
        | (refine g_ops ?_; first | refine sO ?_ | refine s_n (fun _ => ?_) | refine s_app (fun _ _ => ?_) | refine s_b0 (fun _ => ?_) | ((fail_if_success refine g_lit rfl rfl rfl ?_); first | apply g_partM rfl rfl rfl | apply g_partMB rfl rfl rfl | fail))
        | refine gS ?_ | exact s_m | intro _)
      exact gM ⟨{ kind := 1, key := key, pp := pp, pc := pc, pts := pts }, _, _⟩ ⟨.a _ _ _ _, ⟨hsl, hpts, by dsimp only; omega, hdl, hk, n0, n0, z0, z0, z0, z0⟩, by simp only [szP, List.length_nil]; omega⟩
    repeat (first
      | (refine g_ops ?_; first | refine sO ?_ | refine s_n (fun _ => ?_) | refine s_app (fun _ _ => ?_) | refine s_b0 (fun _ => ?_) | ((fail_if_success refine g_lit rfl rfl rfl ?_); first | apply g_partM rfl rfl rfl | apply g_partMB rfl rfl rfl | fail))
      | refine gS ?_ | exact s_m | intro _)
    refine g_cond_dec rfl (fun k1 => ?_) (fun k1 => ?_)
    · subst k1
      repeat (first
        | (refine g_ops ?_; first | refine sO ?_ | refine s_n (fun _ => ?_) | refine s_app (fun _ _ => ?_) | refine s_b0 (fun _ => ?_) | ((fail_if_success refine g_lit rfl rfl rfl ?_); first | apply g_partM rfl rfl rfl | apply g_partMB rfl rfl rfl | fail))
        | refine gS ?_ | exact s_m | intro _)
      exact gM ⟨{ kind := 2, stream := stream, frm := frm, max := max }, _, _⟩ ⟨.r _ _ _, ⟨SlAt.none, p0, Nat.zero_le _, m0, n0, hs, n0, i1, i2, z0, z0⟩, by simp only [szP, List.length_nil]; omega⟩
    repeat (first
      | (refine g_ops ?_; first | refine sO ?_ | refine s_n (fun _ => ?_) | refine s_app (fun _ _ => ?_) | refine s_b0 (fun _ => ?_) | ((fail_if_success refine g_lit rfl rfl rfl ?_); first | apply g_partM rfl rfl rfl | apply g_partMB rfl rfl rfl | fail))
      | refine gS ?_ | exact s_m | intro _)
    refine g_cond_dec rfl (fun k1 => ?_) (fun k1 => ?_)
    · subst k1
      repeat (first
        | (refine g_ops ?_; first | refine sO ?_ | refine s_n (fun _ => ?_) | refine s_app (fun _ _ => ?_) | refine s_b0 (fun _ => ?_) | ((fail_if_success refine g_lit rfl rfl rfl ?_); first | apply g_partM rfl rfl rfl | apply g_partMB rfl rfl rfl | fail))
        | refine gS ?_ | exact s_m | intro _)
      exact gM ⟨{ kind := 3, pattern := pattern, max := max }, _, _⟩ ⟨.p _ _, ⟨SlAt.none, p0, Nat.zero_le _, m0, n0, n0, hp, z0, i2, z0, z0⟩, by simp only [szP, List.length_nil]; omega⟩
    repeat (first
      | (refine g_ops ?_; first | refine sO ?_ | refine s_n (fun _ => ?_) | refine s_app (fun _ _ => ?_) | refine s_b0 (fun _ => ?_) | ((fail_if_success refine g_lit rfl rfl rfl ?_); first | apply g_partM rfl rfl rfl | apply g_partMB rfl rfl rfl | fail))
      | refine gS ?_ | exact s_m | intro _)
    refine g_cond_dec rfl (fun k1 => ?_) (fun k1 => ?_)
    · subst k1
      repeat (first
        | (refine g_ops ?_; first | refine sO ?_ | refine s_n (fun _ => ?_) | refine s_app (fun _ _ => ?_) | refine s_b0 (fun _ => ?_) | ((fail_if_success refine g_lit rfl rfl rfl ?_); first | apply g_partM rfl rfl rfl | apply g_partMB rfl rfl rfl | fail))
        | refine gS ?_ | exact s_m | intro _)
      exact gM ⟨{ kind := 4, frm := frm }, _, _⟩ ⟨.s _, ⟨SlAt.none, p0, Nat.zero_le _, m0, n0, n0, n0, i1, z0, z0, z0⟩, by simp only [szP, List.length_nil]; omega⟩
    repeat (first
      | (refine g_ops ?_; first | refine sO ?_ | refine s_n (fun _ => ?_) | refine s_app (fun _ _ => ?_) | refine s_b0 (fun _ => ?_) | ((fail_if_success refine g_lit rfl rfl rfl ?_); first | apply g_partM rfl rfl rfl | apply g_partMB rfl rfl rfl | fail))
      | refine gS ?_ | exact s_m | intro _)
    refine g_cond_dec rfl (fun k1 => ?_) (fun k1 => ?_)
    · subst k1
      repeat (first
        | (refine g_ops ?_; first | refine sO ?_ | refine s_n (fun _ => ?_) | refine s_app (fun _ _ => ?_) | refine s_b0 (fun _ => ?_) | ((fail_if_success refine g_lit rfl rfl rfl ?_); first | apply g_partM rfl rfl rfl | apply g_partMB rfl rfl rfl | fail))
        | refine gS ?_ | exact s_m | intro _)
      exact gM ⟨{ kind := 5, first := r1, tt := tt }, _, _⟩ ⟨.m _ _, ⟨SlAt.none, p0, Nat.zero_le _, m0, n0, n0, n0, z0, z0, i3, i4⟩, by simp only [szP, List.length_nil]; omega⟩
    repeat (first
      | (refine g_ops ?_; first | refine sO ?_ | refine s_n (fun _ => ?_) | refine s_app (fun _ _ => ?_) | refine s_b0 (fun _ => ?_) | ((fail_if_success refine g_lit rfl rfl rfl ?_); first | apply g_partM rfl rfl rfl | apply g_partMB rfl rfl rfl | fail))
      | refine gS ?_ | exact s_m | intro _)
    obtain rfl : kind = 6 := by omega
    refine g_cond_dec rfl (fun k1 => ?_) (fun k1 => absurd rfl k1)
    repeat (first
      | (refine g_ops ?_; first | refine sO ?_ | refine s_n (fun _ => ?_) | refine s_app (fun _ _ => ?_) | refine s_b0 (fun _ => ?_) | ((fail_if_success refine g_lit rfl rfl rfl ?_); first | apply g_partM rfl rfl rfl | apply g_partMB rfl rfl rfl | fail))
      | refine gS ?_ | exact s_m | intro _)
    exact gM ⟨{ kind := 6 }, _, _⟩ ⟨.z, ⟨SlAt.none, p0, Nat.zero_le _, m0, n0, n0, n0, z0, z0, z0, z0⟩, by simp only [szP, List.length_nil]; omega⟩
  obtain ⟨x, d, v⟩ := z
  obtain ⟨hX, hIn, hbz⟩ := hz
  dsimp only at hX hIn hbz ⊢
  have hval := value28 x hIn
  rw [hX.val] at hval
  have hvsz := hX.sz
  have hgd := hX.good hIn
  obtain ⟨hself, hall, hlen⟩ := hX.self hIn
  have hlen2 := textL_len v hgd.2
  have hnv := hX.nrm'
  have hko := never12 v hX.kok 0 0
  obtain ⟨q1, q2⟩ := of_same hX.lens
  have hdoc := hX.doc
  repeat (first
    | (refine g_ops ?_; first | refine sO ?_ | refine s_n (fun _ => ?_) | refine s_app (fun _ _ => ?_) | refine s_b0 (fun _ => ?_) | ((fail_if_success refine g_lit rfl rfl rfl ?_); first | apply g_partM rfl rfl rfl | apply g_partMB rfl rfl rfl | fail) | refine s_c (hval) (fun _ _ => ?_))
    | refine gS ?_ | exact s_m | intro _)
  rename_i y1 hy1
  obtain ⟨H1, w⟩ := y1
  obtain ⟨hs1, hw⟩ := hy1
  dsimp only at hs1 hw ⊢
  try dsimp only [List.cons_append, List.nil_append, List.append_eq]
  have hck := check1 (hT.grow hs1).vs hw
  have aw1 := awake28 (hT.grow hs1) (hE.grow hs1)
  repeat (first
    | (refine g_ops ?_; first | refine sO ?_ | refine s_n (fun _ => ?_) | refine s_app (fun _ _ => ?_) | refine s_b0 (fun _ => ?_) | ((fail_if_success refine g_lit rfl rfl rfl ?_); first | apply g_partM rfl rfl rfl | apply g_partMB rfl rfl rfl | fail) | refine s_k (hck) ?_)
    | refine gS ?_ | exact s_m | intro _)
  try dsimp only [List.cons_append, List.nil_append, List.append_eq]
  by_cases hw0 : (weigh v 0 0).1 = 0
  · have hok : ofOk v = true := by rw [q1, hdoc hw0]; rfl
    have hoc : ofC v = d := by rw [q2, hdoc hw0]; rfl
    have hbd := Bnd2.read hw0 hnv
    have hlt : (textL v).length ≤ 400000 := by omega
    have htx := text1 (hT.grow hs1) hw hgd.2 (by omega)
    have etx : textB v = txt (textL v) := by unfold textB; exact if_pos hw0
    rw [etx] at htx
    have hof := of1 (hT.grow hs1).vs hw hbd
    rw [if_pos hok, hoc] at hof
    have hpv := parsP_of hw0 hgd
    rw [hnv] at hpv
    refine g_as 78 (v' := .bool false) rfl (congrArg Value.bool (decide_eq_false (by simpa using hw0))) ?_
    repeat (first
      | (refine g_ops ?_; first | refine sO ?_ | refine s_n (fun _ => ?_) | refine s_app (fun _ _ => ?_) | refine s_b0 (fun _ => ?_) | ((fail_if_success refine g_lit rfl rfl rfl ?_); first | apply g_partM rfl rfl rfl | apply g_partMB rfl rfl rfl | fail) | refine s_c (hof) (fun _ _ => ?_))
      | refine gS ?_ | exact s_m | intro _)
    rename_i y2 hy2 b5
    obtain ⟨H2, c1⟩ := y2
    obtain ⟨hs2, hc1⟩ := hy2
    dsimp only at hs2 hc1 ⊢
    try dsimp only [List.cons_append, List.nil_append, List.append_eq]
    have hs3 := hs1.trans hs2
    have htx := text1 (hT.grow hs3) (hw.grow hs2) hgd.2 (by omega)
    have etx : textB v = txt (textL v) := by unfold textB; exact if_pos hw0
    rw [etx] at htx
    have hcp := cparse1 (hT.grow hs3) (hE.grow hs3) (textL v) hlt
    have ecE : cpE (textL v) = 0 := by unfold cpE; rw [hpv]; exact if_pos hok
    have ecC : cpC (textL v) = d := by unfold cpC; rw [hpv]; exact hoc
    rw [ecE, ecC] at hcp
    repeat (first
      | (refine g_ops ?_; first | refine sO ?_ | refine s_n (fun _ => ?_) | refine s_app (fun _ _ => ?_) | refine s_b0 (fun _ => ?_) | ((fail_if_success refine g_lit rfl rfl rfl ?_); first | apply g_partM rfl rfl rfl | apply g_partMB rfl rfl rfl | fail) | refine s_k (htx) ?_ | refine s_c (hcp) (fun _ _ => ?_))
      | refine gS ?_ | exact s_m | intro _)
    rename_i y3 hy3 b7
    obtain ⟨H3, c2⟩ := y3
    obtain ⟨hs4, hc2⟩ := hy3
    dsimp only at hs4 hc2 ⊢
    try dsimp only [List.cons_append, List.nil_append, List.append_eq]
    have hs5 := hs3.trans hs4
    have aw3 := awake28 (hT.grow hs5) (hE.grow hs5)
    have sm1 := same28 (hc1.grow hs4) (hself.grow hs5) hall hlen
    have sm2 := same28 hc2 (hself.grow hs5) hall hlen
    dsimp only [Cl.cells] at sm1 sm2 ⊢
    repeat (first
      | (refine g_ops ?_; first | refine sO ?_ | refine s_n (fun _ => ?_) | refine s_app (fun _ _ => ?_) | refine s_b0 (fun _ => ?_) | ((fail_if_success refine g_lit rfl rfl rfl ?_); first | apply g_partM rfl rfl rfl | apply g_partMB rfl rfl rfl | fail) | refine s_k (sm1) ?_ | refine s_k (sm2) ?_ | refine s_k (aw3) ?_)
      | refine gS ?_ | exact s_m | intro _)
    refine g_unpile hs5 (by (repeat (first | exact Sel.here | apply Sel.there)); first | done | fail) ?_
    exact s_r ()
  · refine g_as 78 (v' := .bool true) rfl (congrArg Value.bool (decide_eq_true hw0)) ?_
    repeat (first
      | (refine g_ops ?_; first | refine sO ?_ | refine s_n (fun _ => ?_) | refine s_app (fun _ _ => ?_) | refine s_b0 (fun _ => ?_) | ((fail_if_success refine g_lit rfl rfl rfl ?_); first | apply g_partM rfl rfl rfl | apply g_partMB rfl rfl rfl | fail) | refine s_k (hck) ?_ | refine s_k (aw1) ?_)
      | refine gS ?_ | exact s_m | intro _)
    refine g_as 82 (v' := .bool true) rfl (congrArg Value.bool (decide_eq_true hko)) ?_
    repeat (first
      | (refine g_ops ?_; first | refine sO ?_ | refine s_n (fun _ => ?_) | refine s_app (fun _ _ => ?_) | refine s_b0 (fun _ => ?_) | ((fail_if_success refine g_lit rfl rfl rfl ?_); first | apply g_partM rfl rfl rfl | apply g_partMB rfl rfl rfl | fail) | refine s_k (aw1) ?_)
      | refine gS ?_ | exact s_m | intro _)
    refine g_unpile hs1 (by (repeat (first | exact Sel.here | apply Sel.there)); first | done | fail) ?_
    exact s_r ()
end Go.Proofs.YtaahibcibgljbaaDoor

namespace Go.Sl
open Go
theorem sl_in {W : World} {α β : Type} {A : World → α → List Value → Prop} {n : Nat} {s : SliceOf α} {f : α → β} {g : β → List Value} {R : β → Prop} (hn : 0 < n)
    (h : s.xs.length ≤ s.cap ∧ s.cap ≤ maxLen ∧ (s.place = none → s.xs = [] ∧ s.cap = 0) ∧ (∀ (i : Nat) (x : α), s.xs[i]? = some x → ∃ b o c, s.place = some ⟨b, o, none⟩ ∧ A W x c ∧ c.length = n ∧ CellsAt W b (o + i * n) c))
    (hg : ∀ x c, A W x c → c = g (f x) ∧ R (f x)) (h1 : ∀ x, (g x).all (·.oneCell') = true) (hl : ∀ x, (g x).length = n) :
    SlAt (Init W) n s.place (s.xs.map f).length ((s.xs.map f).flatMap g) ∧ s.xs.length ≤ 9223372036854775807 ∧ ∀ y ∈ s.xs.map f, R y := by
  obtain ⟨g1, g2, g3, g4⟩ := h
  refine ⟨?_, ?_, fun y hy => ?_⟩
  · rw [List.length_map, List.flatMap_map]
    exact slAt_of (g := fun x => g (f x)) hn (fun e => (g3 e).1) g4 (fun x c hx _ => (hg x c hx).1) (fun x => h1 _) (fun x => hl _)
  · unfold maxLen at g2; omega
  · obtain ⟨x, hx, rfl⟩ := List.mem_map.1 hy
    obtain ⟨i, hi, rfl⟩ := List.mem_iff_getElem.1 hx
    obtain ⟨_, _, c, _, ha, _⟩ := g4 i _ (List.getElem?_eq_getElem hi)
    exact (hg _ _ ha).2
end Go.Sl
namespace Go.Proofs.YtaahibcibgljbaaDoor
open Go Go.Sl facts
abbrev S3T := Int × Int × Int × Unit
abbrev RgT := Int × Int × Int × Int × Unit
abbrev CuT := S3T × Int × ByteArray × Unit
abbrev PtT := ByteArray × Int × SliceOf ByteArray × Unit
abbrev BtT := ByteArray × SliceOf PtT × Unit
abbrev CaT := Int × S3T × BtT × ByteArray × Int × CuT × ByteArray × Int × RgT × Int × Unit
def ptT (x : PtT) : Pt := ⟨x.1, x.2.1, x.2.2.1.place, x.2.2.1.cap, x.2.2.1.xs⟩
theorem ml {n : Nat} (h : n ≤ maxLen) : n ≤ 9223372036854775807 := by unfold maxLen at h; omega
theorem txtI_of {W : World} {x : ByteArray} {c : List Value} (h : Opens.is (P := Tryd.prog) (t := 9) W x c) : c = [.string x] ∧ x.size ≤ 9223372036854775807 := by
  obtain ⟨h1, g1⟩ := h
  exact ⟨h1, ml g1⟩
theorem flat_one (l : List ByteArray) : l.flatMap (fun t => [Value.string t]) = l.map .string := by
  induction l with
  | nil => rfl
  | cons a l ih => simp only [List.flatMap_cons, List.map_cons, ih]; rfl
theorem ptT_of {W : World} {x : PtT} {c : List Value} (h : Opens.is (P := Tryd.prog) (t := 80) W x c) : c = (ptT x).cells ∧ PtIn (Init W) (ptT x) := by
  obtain ⟨hl, ⟨h1, g1⟩, ⟨h2, g2⟩, ⟨h3, g3⟩, _⟩ := h
  match c, hl with
  | [c0, c1, c2], _ =>
    simp [SliceOf.val] at h1 h2 h3
    subst h1 h2 h3
    obtain ⟨e1, e2, e3⟩ := sl_in (f := id) (g := fun t => [Value.string t]) (R := fun y => y.size ≤ 9223372036854775807) (by decide) g3 (fun x c => txtI_of) (fun _ => rfl) (fun _ => rfl)
    rw [List.map_id, flat_one] at e1
    rw [List.map_id] at e3
    exact ⟨rfl, ⟨e1, e2, ml g1, e3, inI_wfV g2⟩⟩
def caT (x : CaT) : Ca :=
  let ⟨kind, s, b, stream, frm, cu, pattern, max, r, tt, _⟩ := x
  { kind := kind, t1 := s.1, t2 := s.2.1, t3 := s.2.2.1, key := b.1, pp := b.2.1.place, pc := b.2.1.cap, pts := b.2.1.xs.map ptT, stream := stream, frm := frm, c1 := cu.1.1, c2 := cu.1.2.1, c3 := cu.1.2.2.1, ci := cu.2.1, cs := cu.2.2.1, pattern := pattern, max := max, r1 := r.1, r2 := r.2.1, r3 := r.2.2.1, r4 := r.2.2.2.1, tt := tt }
set_option synthInstance.maxHeartbeats 400000 in
set_option synthInstance.maxSize 4000 in
set_option maxSynthPendingDepth 20 in
instance opensCa : Opens Tryd.prog 38 CaT := inferInstance
set_option synthInstance.maxHeartbeats 400000 in
set_option synthInstance.maxSize 4000 in
set_option maxSynthPendingDepth 20 in
theorem caT_of {W : World} {x : CaT} {c : List Value} (h : opensCa.is W x c) : c = (caT x).cells ∧ CaIn (wheap W) (caT x) := by
  obtain ⟨kind, ⟨s1, s2, s3, _⟩, ⟨key, ps, _⟩, stream, frm, ⟨⟨u1, u2, u3, _⟩, ui, us, _⟩, pattern, max, ⟨r1, r2, r3, r4, _⟩, tt, _⟩ := x
  obtain ⟨hl, ⟨h1, g1⟩, ⟨_, ⟨h2, _⟩, ⟨h3, _⟩, ⟨h4, _⟩, _⟩, ⟨_, ⟨h5, g5⟩, ⟨h6, g6⟩, _⟩, ⟨h7, g7⟩, ⟨h8, g8⟩, ⟨_, ⟨_, ⟨k1, _⟩, ⟨k2, _⟩, ⟨k3, _⟩, _⟩, ⟨k4, _⟩, ⟨k5, _⟩, _⟩, ⟨k6, q6⟩, ⟨k7, q7⟩, ⟨_, ⟨l1, f1⟩, ⟨l2, _⟩, ⟨l3, _⟩, ⟨l4, _⟩, _⟩, ⟨l5, f5⟩, _⟩ := h
  dsimp only at h1 h2 h3 h4 h5 h6 h7 h8 k1 k2 k3 k4 k5 k6 k7 l1 l2 l3 l4 l5 g1 g5 g6 g7 g8 q6 q7 f1 f5
  obtain ⟨e1, e2, e3⟩ := sl_in (f := ptT) (R := PtIn (Init W)) (by decide) g6 (fun x c => ptT_of) (fun _ => rfl) pt_len
  match c, hl with
  | [c0, c1, c2, c3, c4, c5, c6, c7, c8, c9, c10, c11, c12, c13, c14, c15, c16, c17, c18, c19], _ =>
    simp [SliceOf.val] at h1 h2 h3 h4 h5 h6 h7 h8 k1 k2 k3 k4 k5 k6 k7 l1 l2 l3 l4 l5
    subst h1 h2 h3 h4 h5 h6 h7 h8 k1 k2 k3 k4 k5 k6 k7 l1 l2 l3 l4 l5
    exact ⟨by simp [Ca.cells, caT], ⟨e1, e3, by simpa [caT] using e2, ml g5, ml g7, ml q6, inI_wfV g8, inI_wfV q7, inI_wfV f1, inI_wfV f5⟩⟩
end Go.Proofs.YtaahibcibgljbaaDoor
