/- Contracts and laws that the proof stands on. -/
import Derived.Test.YtaahibcibgljbaaGreatDoorCallTold22
set_option linter.unusedSimpArgs false
set_option linter.unusedVariables false
namespace Go.Proofs.YtaahibcibgljbaaGreatDoor
open Go.Sl facts
attribute [local irreducible] Code.wp wpList Exit.then Exit.inBlock bodyPost Back MidQ G GP QStep VStep CStep SStep Does Post Reads
theorem PtsOf.same {H : HP} {l : List V} {ps qs : List Pt} (h1 : PtsOf H l ps) (h2 : PtsOf H l qs) (hall : ∀ y ∈ l, (putV y).isSome = true) : ps.map Pt.d = qs.map Pt.d := by
  apply List.ext_getElem
  · simp [h1.1, h2.1]
  · intro i g1 g2
    have g1 : i < ps.length := by simpa using g1
    have g2 : i < qs.length := by simpa using g2
    have hi : i < l.length := by rw [← h1.1]; exact g1
    obtain ⟨d, hd⟩ := Option.isSome_iff_exists.1 (hall l[i] (List.getElem_mem _))
    simp only [List.getElem_map]
    rw [h1.2.2 i _ _ d (List.getElem?_eq_getElem hi) (List.getElem?_eq_getElem g1) hd, h2.2.2 i _ _ d (List.getElem?_eq_getElem hi) (List.getElem?_eq_getElem g2) hd]
theorem ClAt.grow {H H' : HP} {x : Cl} {d : ClV} (h : ClAt H x d) (s : HP.sub H H') : ClAt H' x d := ⟨h.kind, h.key, h.sl.grow s, h.pts.grow s, h.stream, h.frm, h.pattern, h.max, h.first, h.tt⟩
attribute [local irreducible] weigh weighL callS ofOk ofC docOf
end Go.Proofs.YtaahibcibgljbaaGreatDoor

namespace Go.Proofs.YtaahibcibgljbaaGreatDoor
open Go.Sl facts
structure PtIn (C : Chunk) (x : Pt) : Prop where
  at_ : SlAt C 1 x.dp x.data.length (x.data.map Value.string)
  len : x.data.length ≤ 9223372036854775807
  nl : x.st.size ≤ 9223372036854775807
  tl : ∀ t ∈ x.data, t.size ≤ 9223372036854775807
  ex : inI x.exp
theorem PtIn.grow {H H' : HP} {x : Pt} (h : PtIn (Pile H) x) (s : HP.sub H H') : PtIn (Pile H') x := ⟨h.at_.grow s, h.len, h.nl, h.tl, h.ex⟩
def szP : List Pt → Nat
  | [] => 0
  | x :: l => x.st.size + x.data.length + szS x.data + szP l
theorem szP_cons (x : Pt) (l : List Pt) : szP (x :: l) = x.st.size + x.data.length + szS x.data + szP l := rfl
attribute [local irreducible] Code.wp wpList Exit.then Exit.inBlock bodyPost Back MidQ G GP QStep VStep CStep SStep Does Post Reads
attribute [local irreducible] sumF
def putL (x : Pt) : V := listV (textV x.st :: intV x.exp :: x.data.map textV)
def valC' (x : Cl) : V :=
  if x.kind = 1 then pairsV [kAppend, kKey] [listV (x.pts.map putL), textV x.key]
  else if x.kind = 2 then pairsV [kFrom, kMax, kRead] [intV x.frm, intV x.max, textV x.stream]
  else if x.kind = 3 then pairsV [kMax, kPoll] [intV x.max, textV x.pattern]
  else if x.kind = 4 then pairsV [kSplit] [intV x.frm]
  else if x.kind = 5 then pairsV [kMove, kTo] [intV x.first, intV x.tt]
  else if x.kind = 6 then pairsV [kMap] [nilV]
  else nilV
structure ClIn (H : HP) (x : Cl) : Prop where
  sl : SlAt (Pile H) 3 x.pp x.pts.length (x.pts.flatMap Pt.cells)
  pts : ∀ y ∈ x.pts, PtIn (Pile H) y
  n : x.pts.length ≤ 100000
  m : ∀ y ∈ x.pts, y.data.length ≤ 100000
  k : x.key.size ≤ 9223372036854775807
  s : x.stream.size ≤ 9223372036854775807
  p : x.pattern.size ≤ 9223372036854775807
  i1 : inI x.frm
  i2 : inI x.max
  i3 : inI x.first
  i4 : inI x.tt
structure VoX where
  k : Nat
  q : Option Addr
  c : Nat
  vs : List Value
  H : HP
structure ViX where
  k : Nat
  q : Option Addr
  c : Nat
end Go.Proofs.YtaahibcibgljbaaGreatDoor

namespace Go.Proofs.YtaahibcibgljbaaGreatDoor
open Go.Sl facts
attribute [local irreducible] weigh weighL
theorem goodS {s : ByteArray} : GoodT (textV s) := flatG (by decide) ⟨by decide, by decide⟩
theorem goodL {l : List V} (h : ∀ x ∈ l, GoodT x) : GoodT (listV l) := by
  unfold listV
  exact ⟨.mk (fun h => absurd h (by decide)) (fun _ => rfl) (fun h => by omega) (fun x hx => (h x hx).1), ⟨⟨by decide, by decide⟩, fun x hx => (h x hx).2⟩⟩
theorem goodPut {x : Pt} (h : inI x.exp) : GoodT (putL x) := goodL fun y hy => by
  simp only [List.mem_cons, List.mem_map] at hy
  rcases hy with rfl | rfl | ⟨t, _, rfl⟩
  · exact goodS
  · exact goodI h
  · exact goodS
theorem kokT {k : Int} {y : Bool} {n : Int} {s : ByteArray} {ks : List ByteArray} (h : 1 ≤ k ∧ k ≤ 6) : KOk (.mk k y n s ks []) := .mk h fun x hx => by cases hx
theorem nrmL_id : ∀ {l : List V}, (∀ x ∈ l, nrm x = x) → nrmL l = l
  | [], _ => nrmL_nil
  | x :: l, h => by rw [nrmL_cons, h x (by simp), nrmL_id fun y hy => h y (List.mem_cons_of_mem _ hy)]
theorem nrm_list {l : List V} (h : ∀ x ∈ l, nrm x = x) : nrm (listV l) = listV l := by
  unfold listV
  rw [nrm_mk]
  simp [listV, nrmL_id h]
theorem nrm_pairs {ks : List ByteArray} {l : List V} (h : ∀ x ∈ l, nrm x = x) : nrm (pairsV ks l) = pairsV ks l := by
  unfold pairsV
  rw [nrm_mk]
  simp [pairsV, nrmL_id h]
theorem nrm_text (s : ByteArray) : nrm (textV s) = textV s := by unfold textV; rw [nrm_mk]; simp [textV]
theorem nrm_int (n : Int) : nrm (intV n) = intV n := by unfold intV; rw [nrm_mk]; simp [intV]
theorem nrm_nil : nrm nilV = nilV := by unfold nilV; rw [nrm_mk]; simp [nilV]
theorem nrm_put (x : Pt) : nrm (putL x) = putL x := nrm_list fun y hy => by
  simp only [List.mem_cons, List.mem_map] at hy
  rcases hy with rfl | rfl | ⟨t, _, rfl⟩
  · exact nrm_text _
  · exact nrm_int _
  · exact nrm_text _
theorem kokPut (x : Pt) : KOk (putL x) := .mk ⟨by decide, by decide⟩ fun y hy => by
  simp only [List.mem_cons, List.mem_map] at hy
  rcases hy with rfl | rfl | ⟨t, _, rfl⟩
  · exact kokT ⟨by decide, by decide⟩
  · exact kokT ⟨by decide, by decide⟩
  · exact kokT ⟨by decide, by decide⟩
inductive IsX : Cl → ClV → V → Prop where
  | a (key pp pc pts) : IsX { kind := 1, key := key, pp := pp, pc := pc, pts := pts } { kind := 1, key := key, pv := pts.map putL } (pairsV [kAppend, kKey] [listV (pts.map putL), textV key])
  | r (stream frm max) : IsX { kind := 2, stream := stream, frm := frm, max := max } { kind := 2, stream := stream, frm := frm, max := max } (pairsV [kFrom, kMax, kRead] [intV frm, intV max, textV stream])
  | p (pattern max) : IsX { kind := 3, pattern := pattern, max := max } { kind := 3, pattern := pattern, max := max } (pairsV [kMax, kPoll] [intV max, textV pattern])
  | s (frm) : IsX { kind := 4, frm := frm } { kind := 4, frm := frm } (pairsV [kSplit] [intV frm])
  | m (first tt) : IsX { kind := 5, first := first, tt := tt } { kind := 5, first := first, tt := tt } (pairsV [kMove, kTo] [intV first, intV tt])
  | z : IsX { kind := 6 } { kind := 6 } (pairsV [kMap] [nilV])
theorem IsX.val {x : Cl} {d : ClV} {v : V} (h : IsX x d v) : valC' x = v := by cases h <;> rfl
theorem IsX.nrm' {x : Cl} {d : ClV} {v : V} (h : IsX x d v) : nrm v = v := by
  cases h
  all_goals refine nrm_pairs fun y hy => ?_
  all_goals simp only [List.mem_cons, List.not_mem_nil, or_false] at hy
  · rcases hy with rfl | rfl
    · exact nrm_list fun z hz => by
        obtain ⟨t, _, rfl⟩ := List.mem_map.1 hz
        exact nrm_put t
    · exact nrm_text _
  · rcases hy with rfl | rfl | rfl
    · exact nrm_int _
    · exact nrm_int _
    · exact nrm_text _
  · rcases hy with rfl | rfl
    · exact nrm_int _
    · exact nrm_text _
  · subst hy; exact nrm_int _
  · rcases hy with rfl | rfl
    · exact nrm_int _
    · exact nrm_int _
  · subst hy; exact nrm_nil
theorem IsX.kok {x : Cl} {d : ClV} {v : V} (h : IsX x d v) : KOk v := by
  cases h
  all_goals refine .mk ⟨by decide, by decide⟩ fun y hy => ?_
  all_goals simp only [List.mem_cons, List.not_mem_nil, or_false] at hy
  · rcases hy with rfl | rfl
    · exact .mk ⟨by decide, by decide⟩ fun z hz => by
        obtain ⟨t, _, rfl⟩ := List.mem_map.1 hz
        exact kokPut t
    · exact kokT ⟨by decide, by decide⟩
  · rcases hy with rfl | rfl | rfl <;> exact kokT ⟨by decide, by decide⟩
  · rcases hy with rfl | rfl <;> exact kokT ⟨by decide, by decide⟩
  · subst hy; exact kokT ⟨by decide, by decide⟩
  · rcases hy with rfl | rfl <;> exact kokT ⟨by decide, by decide⟩
  · subst hy; exact kokT ⟨by decide, by decide⟩
theorem szK_texts : ∀ (l : List ByteArray), szK (l.map textV) = l.length + szS l
  | [] => by simp [szK_nil, szS_nil]
  | x :: l => by
    rw [List.map_cons, szK_cons, szK_texts l, szS_cons]
    unfold textV
    rw [szV_mk, szS_nil, szK_nil]
    simp only [List.length_cons]
    omega
theorem szPut (x : Pt) : szV (putL x) = 3 + x.st.size + x.data.length + szS x.data := by
  unfold putL listV
  rw [szV_mk, szK_cons, szK_cons, szK_texts]
  unfold textV intV
  simp only [szV_mk, szS_nil, szK_nil]
  have : ByteArray.empty.size = 0 := rfl
  omega
theorem szPuts : ∀ (l : List Pt), szK (l.map putL) = 3 * l.length + szP l
  | [] => rfl
  | x :: l => by
    rw [List.map_cons, szK_cons, szPuts l, szPut, szP_cons]
    simp only [List.length_cons]
    omega
theorem IsX.sz {x : Cl} {d : ClV} {v : V} (h : IsX x d v) : szV v ≤ 30 + x.key.size + 3 * x.pts.length + szP x.pts + x.stream.size + x.pattern.size := by
  have e0 : ByteArray.empty.size = 0 := rfl
  have k1 : kAppend.size = 6 := rfl
  have k2 : kKey.size = 3 := rfl
  have k3 : kFrom.size = 4 := rfl
  have k4 : kMax.size = 3 := rfl
  have k5 : kRead.size = 4 := rfl
  have k6 : kPoll.size = 4 := rfl
  have k7 : kSplit.size = 5 := rfl
  have k8 : kMove.size = 4 := rfl
  have k9 : kTo.size = 2 := rfl
  have k10 : kMap.size = 3 := rfl
  cases h
  all_goals unfold pairsV
  all_goals try unfold listV
  all_goals try unfold textV
  all_goals try unfold intV
  all_goals try unfold nilV
  all_goals simp only [szV_mk, szK_cons, szK_nil, szS_cons, szS_nil, szPuts, szP, List.length_nil]
  all_goals omega
end Go.Proofs.YtaahibcibgljbaaGreatDoor

namespace Go.Proofs.YtaahibcibgljbaaGreatDoor
open Go.Sl facts
def ItH (H : HP) : Prop := ∀ n : Int, inI n → Does1 Tryz.prog 55 [int n] [Pile H] (.string (txt (decI n)))
theorem ItH.grow {H H' : HP} (h : ItH H) (s : HP.sub H H') : ItH H' := fun n hn => does1_grow s (h n hn)
def stext (w l n : Int) : ByteArray := txt (decI w ++ (46 :: decI l) ++ (64 :: decI n))
theorem stext_eq (w l n : Int) : (((txt (decI w) ++ ⟨#[46]⟩) ++ txt (decI l)) ++ ⟨#[64]⟩) ++ txt (decI n) = stext w l n := by
  rw [show (⟨#[46]⟩ : ByteArray) = txt [46] from rfl, show (⟨#[64]⟩ : ByteArray) = txt [64] from rfl]
  simp only [txt_append]
  simp [stext]
theorem stext_len (w l n : Int) (hw : inI w) (hl : inI l) (hn : inI n) : (stext w l n).size ≤ 62 := by
  have s1 := (decI_len20 w hw).1
  have s2 := (decI_len20 l hl).1
  have s3 := (decI_len20 n hn).1
  unfold stext
  rw [txt_size]
  simp only [List.length_append, List.length_cons]
  omega
structure Evt where
  st : ByteArray
  n : Int
  data : ByteArray
  w : Int
  l : Int
  nd : Int
  ex : Int
abbrev Evt.cells (x : Evt) : List Value := [.string x.st, int x.n, .string x.data, int x.w, int x.l, int x.nd, int x.ex]
theorem evt_len (x : Evt) : x.cells.length = 7 := rfl
structure Rge where
  a : Int
  b : Int
  c : Int
  d : Int
abbrev Rge.cells (x : Rge) : List Value := [int x.a, int x.b, int x.c, int x.d]
theorem rge_len (x : Rge) : x.cells.length = 4 := rfl
structure EvtIn (y : Evt) : Prop where
  s : y.st.size ≤ 9223372036854775807
  d : y.data.size ≤ 9223372036854775807
  i1 : inI y.n
  i2 : inI y.w
  i3 : inI y.l
  i4 : inI y.nd
  i5 : inI y.ex
structure RpIn (H : HP) (x : Rp) (fs : List Int) (es : List Evt) (rs : List Rge) : Prop where
  fn : x.fn = fs.length
  en : x.en = es.length
  rn : x.rn = rs.length
  fS : SlAt (Pile H) 1 x.fp fs.length (fs.map fun n => int n)
  eS : SlAt (Pile H) 7 x.ep es.length (es.flatMap Evt.cells)
  rS : SlAt (Pile H) 4 x.rp rs.length (rs.flatMap Rge.cells)
  ev : ∀ y ∈ es, EvtIn y
  fi : ∀ y ∈ fs, inI y
  ri : ∀ y ∈ rs, inI y.a ∧ inI y.b ∧ inI y.c ∧ inI y.d
  i1 : inI x.code
  i2 : inI x.w
  i3 : inI x.l
  i4 : inI x.n
  i5 : inI x.cw
  i6 : inI x.cl
  i7 : inI x.cn
  i8 : inI x.ci
  i9 : inI x.node
  cz : x.cs.size ≤ 9223372036854775807
  fz : fs.length ≤ 100000
  ez : es.length ≤ 100000
  rz : rs.length ≤ 100000
theorem RpIn.grow {H H' : HP} {x : Rp} {fs : List Int} {es : List Evt} {rs : List Rge} (h : RpIn H x fs es rs) (s : HP.sub H H') : RpIn H' x fs es rs := { h with fS := h.fS.grow s, eS := h.eS.grow s, rS := h.rS.grow s }
def evL (y : Evt) : V := listV [textV y.st, intV y.n, textV y.data, textV (stext y.w y.l y.nd), intV y.ex]
def rgL (y : Rge) : V := listV [intV y.a, intV y.b, intV y.c, intV y.d]
attribute [local irreducible] Code.wp wpList Exit.then Exit.inBlock bodyPost Back MidQ G GP QStep VStep CStep SStep Does Post Reads
def LvAt (H : HP) (l : List V) (ws : List Value) : Prop := ws.length = l.length ∧ ∀ (i : Nat) a w, l[i]? = some a → ws[i]? = some w → TAt H a w
theorem LvAt.nil {H : HP} : LvAt H [] [] := ⟨rfl, fun i a w h => by simp at h⟩
theorem LvAt.snoc {H H' : HP} {l : List V} {ws : List Value} {v : V} {w : Value} (h : LvAt H l ws) (s : HP.sub H H') (hv : TAt H' v w) : LvAt H' (l ++ [v]) (ws ++ [w]) := by
  refine ⟨by simp [h.1], fun i a u h1 h2 => ?_⟩
  rcases Nat.lt_or_ge i l.length with hj | hj
  · rw [List.getElem?_append_left hj] at h1
    rw [List.getElem?_append_left (by rw [h.1]; exact hj)] at h2
    exact (h.2 i a u h1 h2).grow s
  · rw [List.getElem?_append_right hj] at h1
    rw [List.getElem?_append_right (by rw [h.1]; exact hj), h.1] at h2
    have h0 : i - l.length = 0 := by
      have := (List.getElem?_eq_some_iff.1 h1).1
      simp only [List.length_singleton] at this
      omega
    rw [h0] at h1 h2
    cases h1; cases h2
    exact hv
theorem LvAt.tat {H H' : HP} {l : List V} {ws : List Value} {q : Option Addr} {k c : Nat} (h : LvAt H l ws) (s : HP.sub H H') (hk : k = l.length) (hS : SlAt (Pile H') 1 q k ws) (hc : k ≤ c) (hl : l.length ≤ 9223372036854775807) : TAt H' (listV l) (.iface 105 (.slice q k c)) := by
  subst hk
  exact .list ws h.1 ⟨hl, hc⟩ hS fun i a w h1 h2 => (h.2 i a w h1 h2).grow s
set_option maxHeartbeats 4000000 in
theorem stText {H : HP} (hI : ItH H) (w l n : Int) (hw : inI w) (hl : inI l) (hn : inI n) : Does1 Tryz.prog 48 [.agg [int w, int l, int n].toArray] [Pile H] (.string (stext w l n)) := by
  have s1 := (decI_len20 w hw).1
  have s2 := (decI_len20 l hl).1
  have s3 := (decI_len20 n hn).1
  have c1 : (⟨#[46]⟩ : ByteArray).size = 1 := rfl
  have c2 : (⟨#[64]⟩ : ByteArray).size = 1 := rfl
  refine fn_intro Tryz.func48 rfl Tryz.ntmps48 rfl (by simp only [argFr, Nat.zero_add, Nat.reduceAdd]; rfl) (fun Γ => ?_)
  repeat (first
    | (refine g_ops ?_; first | refine sO ?_ | refine s_n (fun _ => ?_) | refine s_app (fun _ _ => ?_) | refine s_b0 (fun _ => ?_) | ((fail_if_success refine g_lit rfl rfl rfl ?_); first | apply g_partM rfl rfl rfl | apply g_partMB rfl rfl rfl | fail))
    | refine gS ?_ | exact s_m | intro _)
  refine g_draw (.take 0 (.see 1 [] (.take 4 (.see 5 [] (.take 9 (.see 10 [] (.one 2 (.take 3 (.one 6 (.take 7 (.take 8 (.one 11 (.take 12 (.take 13 .done)))))))))))))) (by kernel_rfl) (take_all _) (fun k hd hk => ?_)
  repeat (first
    | (refine gp_take ?_; first | refine pT ?_ | ((fail_if_success refine gp_lit rfl rfl rfl rfl ?_); first | apply gp_guard_dec rfl rfl rfl rfl | apply gp_guard rfl rfl rfl rfl | fail))
    | (refine gp_see ?_; first | refine p_f ?_ | refine pS ?_ | ((fail_if_success refine gp_lit rfl rfl rfl rfl ?_); first | apply gp_guard_dec rfl rfl rfl rfl | apply gp_guard rfl rfl rfl rfl | fail))
    | (refine gp_one ?_; first | refine pO ?_ | refine p_n (fun _ => ?_) | refine p_app (fun _ _ => ?_) | refine p_b0 (fun _ => ?_) | ((fail_if_success refine gp_lit rfl rfl rfl rfl ?_); first | apply gp_guard_dec rfl rfl rfl rfl | apply gp_guard rfl rfl rfl rfl | fail) | refine p_cP (hI _ hw) hd hk (fun _ _ => ?_))
    | refine gp_two ?_ ?_ | refine gp_done hd hk ?_ | intro _ | refine p_ta hd hk (fun _ _ _ hd hk => ?_) | refine p_ts hd hk (fun _ hd hk => ?_))
  refine gp_q (fun _ => qs_addS rfl rfl (by rw [txt_size, c1]; omega)) rfl rfl rfl ?_
  repeat (first
    | (refine gp_take ?_; first | refine pT ?_ | ((fail_if_success refine gp_lit rfl rfl rfl rfl ?_); first | apply gp_guard_dec rfl rfl rfl rfl | apply gp_guard rfl rfl rfl rfl | fail))
    | (refine gp_see ?_; first | refine p_f ?_ | refine pS ?_ | ((fail_if_success refine gp_lit rfl rfl rfl rfl ?_); first | apply gp_guard_dec rfl rfl rfl rfl | apply gp_guard rfl rfl rfl rfl | fail))
    | (refine gp_one ?_; first | refine pO ?_ | refine p_n (fun _ => ?_) | refine p_app (fun _ _ => ?_) | refine p_b0 (fun _ => ?_) | ((fail_if_success refine gp_lit rfl rfl rfl rfl ?_); first | apply gp_guard_dec rfl rfl rfl rfl | apply gp_guard rfl rfl rfl rfl | fail) | refine p_cP (hI _ hl) hd hk (fun _ _ => ?_))
    | refine gp_two ?_ ?_ | refine gp_done hd hk ?_ | intro _ | refine p_ta hd hk (fun _ _ _ hd hk => ?_) | refine p_ts hd hk (fun _ hd hk => ?_))
  refine gp_q (fun _ => qs_addS rfl rfl (by simp only [ByteArray.size_append, txt_size, c1]; omega)) rfl rfl rfl ?_
  refine gp_q (fun _ => qs_addS rfl rfl (by simp only [ByteArray.size_append, txt_size, c1, c2]; omega)) rfl rfl rfl ?_
  repeat (first
    | (refine gp_take ?_; first | refine pT ?_ | ((fail_if_success refine gp_lit rfl rfl rfl rfl ?_); first | apply gp_guard_dec rfl rfl rfl rfl | apply gp_guard rfl rfl rfl rfl | fail))
    | (refine gp_see ?_; first | refine p_f ?_ | refine pS ?_ | ((fail_if_success refine gp_lit rfl rfl rfl rfl ?_); first | apply gp_guard_dec rfl rfl rfl rfl | apply gp_guard rfl rfl rfl rfl | fail))
    | (refine gp_one ?_; first | refine pO ?_ | refine p_n (fun _ => ?_) | refine p_app (fun _ _ => ?_) | refine p_b0 (fun _ => ?_) | ((fail_if_success refine gp_lit rfl rfl rfl rfl ?_); first | apply gp_guard_dec rfl rfl rfl rfl | apply gp_guard rfl rfl rfl rfl | fail) | refine p_cP (hI _ hn) hd hk (fun _ _ => ?_))
    | refine gp_two ?_ ?_ | refine gp_done hd hk ?_ | intro _ | refine p_ta hd hk (fun _ _ _ hd hk => ?_) | refine p_ts hd hk (fun _ hd hk => ?_))
  refine gp_q (fun _ => qs_addS rfl rfl (by simp only [ByteArray.size_append, txt_size, c1, c2]; omega)) rfl rfl rfl ?_
  repeat (first
    | (refine gp_take ?_; first | refine pT ?_ | ((fail_if_success refine gp_lit rfl rfl rfl rfl ?_); first | apply gp_guard_dec rfl rfl rfl rfl | apply gp_guard rfl rfl rfl rfl | fail))
    | (refine gp_see ?_; first | refine p_f ?_ | refine pS ?_ | ((fail_if_success refine gp_lit rfl rfl rfl rfl ?_); first | apply gp_guard_dec rfl rfl rfl rfl | apply gp_guard rfl rfl rfl rfl | fail))
    | (refine gp_one ?_; first | refine pO ?_ | refine p_n (fun _ => ?_) | refine p_app (fun _ _ => ?_) | refine p_b0 (fun _ => ?_) | ((fail_if_success refine gp_lit rfl rfl rfl rfl ?_); first | apply gp_guard_dec rfl rfl rfl rfl | apply gp_guard rfl rfl rfl rfl | fail))
    | refine gp_two ?_ ?_ | refine gp_done hd hk ?_ | intro _ | refine p_ta hd hk (fun _ _ _ hd hk => ?_) | refine p_ts hd hk (fun _ hd hk => ?_))
  repeat (first
    | (refine g_ops ?_; first | refine sO ?_ | refine s_n (fun _ => ?_) | refine s_app (fun _ _ => ?_) | refine s_b0 (fun _ => ?_) | ((fail_if_success refine g_lit rfl rfl rfl ?_); first | apply g_partM rfl rfl rfl | apply g_partMB rfl rfl rfl | fail))
    | refine gS ?_ | exact s_m | intro _)
  exact g_ret () rfl (by (repeat (first | exact RVs.nil | apply RVs.tmp rfl | apply RVs.cellA rfl (by (repeat (first | exact Sel.here | apply Sel.there)); first | done | fail) (by (repeat (first | exact Cut.zero | apply Cut.take | apply Cut.skip)); first | done | fail) | apply RVs.cell1 rfl (by (repeat (first | exact Sel.here | apply Sel.there)); first | done | fail) rfl)); first | done | fail) (by (repeat (first | exact Take.nil | apply Take.cons | exact Sel.here | apply Sel.there)); first | done | fail) (by simp only [pack]; exact congrArg Value.string (stext_eq w l n)) trivial
structure LzX where
  k : Nat
  q : Option Addr
  c : Nat
  ws : List Value
  H : HP
structure LzR where
  H : HP
  q1 : Option Addr
  c1 : Nat
  q2 : Option Addr
  c2 : Nat
  q3 : Option Addr
  c3 : Nat
set_option maxHeartbeats 16000000 in
theorem clists {H : HP} (hI : ItH H) (x : Rp) {fs : List Int} {es : List Evt} {rs : List Rge} (hx : RpIn H x fs es rs) : Does Tryz.prog 49 [.agg x.cells.toArray] [Pile H] (X := LzR) (fun y => .tuple #[.slice y.q1 es.length y.c1, .slice y.q2 fs.length y.c2, .slice y.q3 rs.length y.c3]) (fun y => [Pile y.H]) (fun y => HP.sub H y.H ∧ TAt y.H (listV (es.map evL)) (.iface 105 (.slice y.q1 es.length y.c1)) ∧ TAt y.H (listV (fs.map intV)) (.iface 105 (.slice y.q2 fs.length y.c2)) ∧ TAt y.H (listV (rs.map rgL)) (.iface 105 (.slice y.q3 rs.length y.c3))) := by
  obtain ⟨code, w, l, n, fp, fn, fc, ep, en, ec, cw, cl, cn, ci, cs, rp, rn, rc, node⟩ := x
  obtain ⟨rfl, rfl, rfl, fS, eS, rS, ev, fi, ri, _, _, _, _, _, _, _, _, _, _, fz, ez, rz⟩ := hx
  dsimp only at fS eS rS
  dsimp only [Rp.cells]
  refine fn_intro Tryz.func49 rfl Tryz.ntmps49 rfl (by simp only [argFr, Nat.zero_add, Nat.reduceAdd]; rfl) (fun Γ => ?_)
  repeat (first
    | (refine g_ops ?_; first | refine sO ?_ | refine s_n (fun _ => ?_) | refine s_app (fun _ _ => ?_) | refine s_b0 (fun _ => ?_) | ((fail_if_success refine g_lit rfl rfl rfl ?_); first | apply g_partM rfl rfl rfl | apply g_partMB rfl rfl rfl | fail))
    | refine gS ?_ | exact s_m | intro _)
  rename_i rb
  refine g_own_nil none 1 20 ?_
  refine g_loop (X := LzX) (fun x => [(1, ptr rb), (3, .slice none 0 0), (4, .slice none 0 0), (2, .slice x.q x.k x.c), (12, .slice ep es.length ec), (13, int es.length), (14, int x.k)]) (fun x => [.own x.q x.k x.c 1 x.ws 20, .row rb [int code, int w, int l, int n, .slice fp fs.length fc, .slice ep es.length ec, int cw, int cl, int cn, int ci, .string cs, .slice rp rs.length rc, int node] 52, Pile x.H])
      (fun x => x.k ≤ es.length ∧ HP.sub H x.H ∧ LvAt x.H ((es.take x.k).map evL) x.ws) (fun x => es.length - x.k) ⟨0, none, 0, [], H⟩ ⟨Nat.zero_le _, HP.sub.refl _, LvAt.nil⟩ (by (repeat (first | exact FrSub.nil | refine FrSub.cons rfl ?_)); first | done | fail) (by (repeat (first | exact Take.nil | apply Take.cons | exact Sel.here | apply Sel.there)); first | done | fail) (fun x hx => ?_)
  obtain ⟨k, q, c4, ws, H1⟩ := x
  obtain ⟨hk, hs1, hts⟩ := hx
  dsimp only at hk hs1 hts ⊢
  repeat (first
    | (refine g_ops ?_; first | refine sO ?_ | refine s_n (fun _ => ?_) | refine s_app (fun _ _ => ?_) | refine s_b0 (fun _ => ?_) | ((fail_if_success refine g_lit rfl rfl rfl ?_); first | apply g_partM rfl rfl rfl | apply g_partMB rfl rfl rfl | fail))
    | refine gS ?_ | exact s_m | intro _)
  refine g_cond_dec rfl (fun g1 => ?_) (fun g1 => ?_)
  · have hlt : k < es.length := by omega
    have hgl : es[k]? = some es[k] := List.getElem?_eq_getElem hlt
    have hev := ev _ (List.getElem_mem hlt)
    obtain ⟨b3, o3, rfl, hrow⟩ := slAt_elem (eS.grow hs1) evt_len (by decide) hgl
    have htk : es.take (k + 1) = es.take k ++ [es[k]] := by rw [List.take_add_one, hgl]; rfl
    generalize es[k] = y at hev hrow htk
    obtain ⟨st, nn, data, yw, yl, yn, ex⟩ := y
    obtain ⟨e1, e2, e3, e4, e5, e6, e7⟩ := hev
    dsimp only at e1 e2 e3 e4 e5 e6 e7 hrow
    have htx := stText (hI.grow hs1) yw yl yn e4 e5 e6
    have htz := stext_len yw yl yn e4 e5 e6
    repeat (first
      | (refine g_ops ?_; first | refine sO ?_ | refine s_n (fun _ => ?_) | refine s_app (fun _ _ => ?_) | refine s_b0 (fun _ => ?_) | ((fail_if_success refine g_lit rfl rfl rfl ?_); first | apply g_partM rfl rfl rfl | apply g_partMB rfl rfl rfl | fail))
      | refine gS ?_ | exact s_m | intro _)
    rename_i b6
    dsimp only
    refine g_draw (.take 0 (.take 1 (.see 2 [] (.take 3 (.take 4 (.see 5 [] (.take 6 (.take 7 (.see 8 [] (.take 9 (.take 10 (.see 11 [] (.take 14 (.see 15 [] (.take 16 (.one 12 (.take 13 (.one 17 (.take 18 (.one 19 (.one 20 (.take 21 .done)))))))))))))))))))))) (by kernel_rfl) (C := [.row b6 [.string st, int nn, .string data, int yw, int yl, int yn, int ex] 130, Pile H1]) (by (repeat (first | exact Take.nil | apply Take.cons | exact Sel.here | apply Sel.there)); first | done | fail) (fun m hd hk => ?_)
    repeat (first
      | (refine gp_take ?_; first | refine pT ?_ | ((fail_if_success refine gp_lit rfl rfl rfl rfl ?_); first | apply gp_guard_dec rfl rfl rfl rfl | apply gp_guard rfl rfl rfl rfl | fail))
      | (refine gp_see ?_; first | refine p_f ?_ | refine pS ?_ | ((fail_if_success refine gp_lit rfl rfl rfl rfl ?_); first | apply gp_guard_dec rfl rfl rfl rfl | apply gp_guard rfl rfl rfl rfl | fail))
      | (refine gp_one ?_; first | refine pO ?_ | refine p_n (fun _ => ?_) | refine p_app (fun _ _ => ?_) | refine p_b0 (fun _ => ?_) | ((fail_if_success refine gp_lit rfl rfl rfl rfl ?_); first | apply gp_guard_dec rfl rfl rfl rfl | apply gp_guard rfl rfl rfl rfl | fail) | refine p_cP (htx) hd hk (fun _ _ => ?_))
      | refine gp_two ?_ ?_ | refine gp_done hd hk ?_ | intro _ | refine p_ta hd hk (fun _ _ _ hd hk => ?_) | refine p_ts hd hk (fun _ hd hk => ?_))
    rename_i lb _ q6 c6
    dsimp only [List.cons_append, List.nil_append, List.append_eq]
    refine g_toOwn (b := lb) (len := 5) (n := 1) (by (repeat (first | exact Sel.here | apply Sel.there)); first | done | fail) rfl rfl ?_
    refine g_pile (p := some ⟨lb, 0, none⟩) (n := 1) (by (repeat (first | exact Sel.here | apply Sel.there)); first | done | fail) (by (repeat (first | exact Sel.here | apply Sel.there)); first | done | fail) (fun H2 hs2 hS2 => ?_)
    have hit : TAt H2 (evL ⟨st, nn, data, yw, yl, yn, ex⟩) (.iface 105 (.slice (some ⟨lb, 0, none⟩) 5 5)) :=
      (((((LvAt.nil.snoc (HP.sub.refl _) (.text (H := H2) e1)).snoc (HP.sub.refl _) (.int e3)).snoc (HP.sub.refl _) (.text e2)).snoc (HP.sub.refl _) (TAt.text (H := H2) (s := stext yw yl yn) (by omega))).snoc (HP.sub.refl _) (.int e7)).tat (HP.sub.refl _) rfl hS2 (by omega) (by simp)
    repeat (first
      | (refine g_ops ?_; first | refine sO ?_ | refine s_n (fun _ => ?_) | refine s_app (fun _ _ => ?_) | refine s_b0 (fun _ => ?_) | ((fail_if_success refine g_lit rfl rfl rfl ?_); first | apply g_partM rfl rfl rfl | apply g_partMB rfl rfl rfl | fail))
      | refine gS ?_ | exact s_m | intro _)
    refine g_as 14 (v' := int ((k + 1 : Nat) : Int)) rfl (congrArg (Value.int .i64) (by push_cast; rfl)) ?_
    refine gA ⟨k + 1, q6, c6, ws ++ [.iface 105 (.slice (some ⟨lb, 0, none⟩) 5 5)], H2⟩ (by simp only; omega) ⟨hlt, hs1.trans hs2, ?_⟩
    dsimp only
    rw [htk, List.map_append]
    exact hts.snoc hs2 hit
  · obtain rfl : k = es.length := by omega
    rw [List.take_length] at hts
    refine g_capO (by (repeat (first | exact Sel.here | apply Sel.there)); first | done | fail) (fun hcap => ?_)
    refine g_pile (p := q) (n := 1) (by (repeat (first | exact Sel.here | apply Sel.there)); first | done | fail) (by (repeat (first | exact Sel.here | apply Sel.there)); first | done | fail) (fun H2 hs2 hS2 => ?_)
    have tE := hts.tat hs2 (by simp) hS2 hcap (by simp; omega)
    have hs3 := hs1.trans hs2
    clear hS2 hcap hts
    repeat (first
      | (refine g_ops ?_; first | refine sO ?_ | refine s_n (fun _ => ?_) | refine s_app (fun _ _ => ?_) | refine s_b0 (fun _ => ?_) | ((fail_if_success refine g_lit rfl rfl rfl ?_); first | apply g_partM rfl rfl rfl | apply g_partMB rfl rfl rfl | fail))
      | refine gS ?_ | exact s_m | intro _)
    refine g_own_nil none 1 20 ?_
    refine g_loop (X := LzX) (fun x => [(1, ptr rb), (2, .slice q es.length c4), (4, .slice none 0 0), (3, .slice x.q x.k x.c), (41, .slice fp fs.length fc), (42, int fs.length), (43, int x.k)]) (fun x => [.own x.q x.k x.c 1 x.ws 20, .row rb [int code, int w, int l, int n, .slice fp fs.length fc, .slice ep es.length ec, int cw, int cl, int cn, int ci, .string cs, .slice rp rs.length rc, int node] 52, Pile H2])
      (fun x => x.k ≤ fs.length ∧ LvAt H2 ((fs.take x.k).map intV) x.ws) (fun x => fs.length - x.k) ⟨0, none, 0, [], H⟩ ⟨Nat.zero_le _, LvAt.nil⟩ (by (repeat (first | exact FrSub.nil | refine FrSub.cons rfl ?_)); first | done | fail) (by (repeat (first | exact Take.nil | apply Take.cons | exact Sel.here | apply Sel.there)); first | done | fail) (fun x hx => ?_)
    obtain ⟨k, q2, c2, ws2, _⟩ := x
    obtain ⟨hk2, hts⟩ := hx
    dsimp only at hk2 hts ⊢
    repeat (first
      | (refine g_ops ?_; first | refine sO ?_ | refine s_n (fun _ => ?_) | refine s_app (fun _ _ => ?_) | refine s_b0 (fun _ => ?_) | ((fail_if_success refine g_lit rfl rfl rfl ?_); first | apply g_partM rfl rfl rfl | apply g_partMB rfl rfl rfl | fail))
      | refine gS ?_ | exact s_m | intro _)
    refine g_cond_dec rfl (fun g2 => ?_) (fun g2 => ?_)
    · have hlt : k < fs.length := by omega
      have hgl : fs[k]? = some fs[k] := List.getElem?_eq_getElem hlt
      have hfi := fi _ (List.getElem_mem hlt)
      obtain ⟨b3, o3, rfl, hr0⟩ := slAt_cell (fS.grow hs3) (i := k) (v := int fs[k]) (by simp [hlt])
      have htk : fs.take (k + 1) = fs.take k ++ [fs[k]] := by rw [List.take_add_one, hgl]; rfl
      generalize fs[k] = y at hfi hr0 htk
      have hr : ∀ a, a = k → Reads (Pile H2) ⟨b3, o3 + a, none⟩ (int y) := fun _ e => e ▸ hr0
      repeat (first
        | (refine g_ops ?_; first | refine sO ?_ | refine s_n (fun _ => ?_) | refine s_app (fun _ _ => ?_) | refine s_b0 (fun _ => ?_) | ((fail_if_success refine g_lit rfl rfl rfl ?_); first | apply g_partM rfl rfl rfl | apply g_partMB rfl rfl rfl | fail))
        | refine gS ?_ | exact s_m | intro _)
      rename_i q6 c6
      refine g_as 43 (v' := int ((k + 1 : Nat) : Int)) rfl (congrArg (Value.int .i64) (by push_cast; rfl)) ?_
      refine gA ⟨k + 1, q6, c6, ws2 ++ [.iface 3 (int y)], H⟩ (by simp only; omega) ⟨hlt, ?_⟩
      dsimp only
      rw [htk, List.map_append]
      exact hts.snoc (HP.sub.refl _) (.int hfi)
    · obtain rfl : k = fs.length := by omega
      rw [List.take_length] at hts
      refine g_capO (by (repeat (first | exact Sel.here | apply Sel.there)); first | done | fail) (fun hcap => ?_)
      refine g_pile (p := q2) (n := 1) (by (repeat (first | exact Sel.here | apply Sel.there)); first | done | fail) (by (repeat (first | exact Sel.here | apply Sel.there)); first | done | fail) (fun H3 hs4 hS2 => ?_)
      have tF := hts.tat hs4 (by simp) hS2 hcap (by simp; omega)
      have hs5 := hs3.trans hs4
      clear hS2 hcap hts
      repeat (first
        | (refine g_ops ?_; first | refine sO ?_ | refine s_n (fun _ => ?_) | refine s_app (fun _ _ => ?_) | refine s_b0 (fun _ => ?_) | ((fail_if_success refine g_lit rfl rfl rfl ?_); first | apply g_partM rfl rfl rfl | apply g_partMB rfl rfl rfl | fail))
        | refine gS ?_ | exact s_m | intro _)
      refine g_own_nil none 1 20 ?_
      refine g_loop (X := LzX) (fun x => [(1, ptr rb), (2, .slice q es.length c4), (3, .slice q2 fs.length c2), (4, .slice x.q x.k x.c), (54, .slice rp rs.length rc), (55, int rs.length), (56, int x.k)]) (fun x => [.own x.q x.k x.c 1 x.ws 20, .row rb [int code, int w, int l, int n, .slice fp fs.length fc, .slice ep es.length ec, int cw, int cl, int cn, int ci, .string cs, .slice rp rs.length rc, int node] 52, Pile x.H])
        (fun x => x.k ≤ rs.length ∧ HP.sub H3 x.H ∧ LvAt x.H ((rs.take x.k).map rgL) x.ws) (fun x => rs.length - x.k) ⟨0, none, 0, [], H3⟩ ⟨Nat.zero_le _, HP.sub.refl _, LvAt.nil⟩ (by (repeat (first | exact FrSub.nil | refine FrSub.cons rfl ?_)); first | done | fail) (by (repeat (first | exact Take.nil | apply Take.cons | exact Sel.here | apply Sel.there)); first | done | fail) (fun x hx => ?_)
      obtain ⟨k, q3, c3, ws3, H4⟩ := x
      obtain ⟨hk3, hs6, hts⟩ := hx
      dsimp only at hk3 hs6 hts ⊢
      repeat (first
        | (refine g_ops ?_; first | refine sO ?_ | refine s_n (fun _ => ?_) | refine s_app (fun _ _ => ?_) | refine s_b0 (fun _ => ?_) | ((fail_if_success refine g_lit rfl rfl rfl ?_); first | apply g_partM rfl rfl rfl | apply g_partMB rfl rfl rfl | fail))
        | refine gS ?_ | exact s_m | intro _)
      refine g_cond_dec rfl (fun g3 => ?_) (fun g3 => ?_)
      · have hlt : k < rs.length := by omega
        have hgl : rs[k]? = some rs[k] := List.getElem?_eq_getElem hlt
        have hri := ri _ (List.getElem_mem hlt)
        obtain ⟨b3, o3, rfl, hrow⟩ := slAt_elem (rS.grow (hs5.trans hs6)) rge_len (by decide) hgl
        have htk : rs.take (k + 1) = rs.take k ++ [rs[k]] := by rw [List.take_add_one, hgl]; rfl
        generalize rs[k] = y at hri hrow htk
        obtain ⟨ya, yb, yc, yd⟩ := y
        obtain ⟨e1, e2, e3, e4⟩ := hri
        dsimp only at e1 e2 e3 e4 hrow
        repeat (first
          | (refine g_ops ?_; first | refine sO ?_ | refine s_n (fun _ => ?_) | refine s_app (fun _ _ => ?_) | refine s_b0 (fun _ => ?_) | ((fail_if_success refine g_lit rfl rfl rfl ?_); first | apply g_partM rfl rfl rfl | apply g_partMB rfl rfl rfl | fail))
          | refine gS ?_ | exact s_m | intro _)
        rename_i lb _ q6 c6
        refine g_toOwn (b := lb) (len := 4) (n := 1) (by (repeat (first | exact Sel.here | apply Sel.there)); first | done | fail) rfl rfl ?_
        refine g_pile (p := some ⟨lb, 0, none⟩) (n := 1) (by (repeat (first | exact Sel.here | apply Sel.there)); first | done | fail) (by (repeat (first | exact Sel.here | apply Sel.there)); first | done | fail) (fun H5 hs7 hS2 => ?_)
        have hit : TAt H5 (rgL ⟨ya, yb, yc, yd⟩) (.iface 105 (.slice (some ⟨lb, 0, none⟩) 4 4)) :=
          ((((LvAt.nil.snoc (HP.sub.refl _) (.int (H := H5) e1)).snoc (HP.sub.refl _) (.int e2)).snoc (HP.sub.refl _) (.int e3)).snoc (HP.sub.refl _) (.int e4)).tat (HP.sub.refl _) rfl hS2 (by omega) (by simp)
        refine g_as 56 (v' := int ((k + 1 : Nat) : Int)) rfl (congrArg (Value.int .i64) (by push_cast; rfl)) ?_
        refine gA ⟨k + 1, q6, c6, ws3 ++ [.iface 105 (.slice (some ⟨lb, 0, none⟩) 4 4)], H5⟩ (by simp only; omega) ⟨hlt, hs6.trans hs7, ?_⟩
        dsimp only
        rw [htk, List.map_append]
        exact hts.snoc hs7 hit
      · obtain rfl : k = rs.length := by omega
        rw [List.take_length] at hts
        refine g_capO (by (repeat (first | exact Sel.here | apply Sel.there)); first | done | fail) (fun hcap => ?_)
        refine g_pile (p := q3) (n := 1) (by (repeat (first | exact Sel.here | apply Sel.there)); first | done | fail) (by (repeat (first | exact Sel.here | apply Sel.there)); first | done | fail) (fun H5 hs7 hS2 => ?_)
        have tR := hts.tat hs7 (by simp) hS2 hcap (by simp; omega)
        repeat (first
          | (refine g_ops ?_; first | refine sO ?_ | refine s_n (fun _ => ?_) | refine s_app (fun _ _ => ?_) | refine s_b0 (fun _ => ?_) | ((fail_if_success refine g_lit rfl rfl rfl ?_); first | apply g_partM rfl rfl rfl | apply g_partMB rfl rfl rfl | fail))
          | refine gS ?_ | exact s_m | intro _)
        exact gR ⟨H5, q, c4, q2, c2, q3, c3⟩ ⟨hs5.trans (hs6.trans hs7), tE.grow (hs4.trans (hs6.trans hs7)), tF.grow (hs6.trans hs7), tR⟩
end Go.Proofs.YtaahibcibgljbaaGreatDoor
