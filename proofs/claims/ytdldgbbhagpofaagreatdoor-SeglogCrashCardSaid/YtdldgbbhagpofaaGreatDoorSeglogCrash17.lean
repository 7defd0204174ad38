/- Contracts and laws that the proof stands on. -/
import Derived.Test.YtdldgbbhagpofaaGreatDoorSeglogCrash16
set_option linter.unusedSimpArgs false
set_option linter.unusedVariables false
namespace Go.Proofs.YtdldgbbhagpofaaGreatDoor
open Go.Sl facts
theorem btAt_of {C : Chunk} {p : Option Addr} {l : List UInt8} {m : Nat} (hm : m = l.length) (h : SlAt C 1 p m (cells8 l)) : BtAt C p l := fun j hj => slAt_cell h (cells8_get l j hj)
structure LG where
  rq : Option Addr
  rc : Nat
  rs : List BV
  fq : Option Addr
  fc : Nat
  fs : List Int
  size : Int
  sl : Bool
abbrev LG.own (x : LG) : List Chunk := [.own x.rq x.rs.length x.rc 1 (x.rs.map BV.v) 28, .own x.fq x.fs.length x.fc 1 (x.fs.map int) 3]
abbrev LG.row (x : LG) (lg d : Nat) (off : Bool) : Chunk := lrow lg d (.slice x.rq x.rs.length x.rc) (.slice x.fq x.fs.length x.fc) x.size x.sl off
abbrev LG.L (x : LG) (lg d : Nat) (off : Bool) : List Chunk := x.row lg d off :: x.own
def BtsAt (H : HP) (rs : List BV) : Prop := ∀ r ∈ rs, BtAt (Pile H) r.p r.l
theorem BtsAt.grow {H H' : HP} {rs : List BV} (h : BtsAt H rs) (s : HP.sub H H') : BtsAt H' rs := fun r hr => BtAt.grow (h r hr) s
structure RdX where
  q : Option Addr
  c : Nat
  ws : List BV
  H : HP
abbrev bts (rs : List BV) : List (List UInt8) := rs.map (·.l)
attribute [local irreducible] Code.wp wpList Exit.then Exit.inBlock bodyPost Back MidQ G GP QStep VStep CStep SStep Does Post Reads
theorem read_bad (lg d : Nat) (x : LG) (off : Bool) (from_ max : Int) (h : from_ < 0 ∨ (x.rs.length : Int) < from_) : Does1 Tryz.prog 16 [ptr lg, int from_, int max] [x.row lg d off] (.tuple #[.slice none 0 0, int 4]) := by
  have hL := len_ lg d x.rq x.rs.length x.rc (.slice x.fq x.fs.length x.fc) x.size x.sl off
  refine fn_intro Tryz.func16 rfl Tryz.ntmps16 rfl (by simp only [argFr, Nat.zero_add, Nat.reduceAdd]; rfl) (fun Γ => ?_)
  repeat (first
    | (refine g_ops ?_; first | refine sO ?_ | refine s_n (fun _ => ?_) | refine s_appB (fun _ _ => ?_) | refine s_app (fun _ _ => ?_) | refine s_b0 (fun _ => ?_) | ((fail_if_success refine g_lit rfl rfl rfl ?_); first | apply g_partM rfl rfl rfl | apply g_partMB rfl rfl rfl | fail) | refine s_k (hL) ?_)
    | apply g_regB (id := 1) 16 | apply g_regB (id := 4) 27 | refine gS ?_ | exact s_m | intro _ | (refine gp_take ?_; first | refine pT ?_ | ((fail_if_success refine gp_lit rfl rfl rfl rfl ?_); first | apply gp_guard_dec rfl rfl rfl rfl | apply gp_guard rfl rfl rfl rfl | fail))
    | (refine gp_see ?_; first | refine p_f ?_ | refine pS ?_ | ((fail_if_success refine gp_lit rfl rfl rfl rfl ?_); first | apply gp_guard_dec rfl rfl rfl rfl | apply gp_guard rfl rfl rfl rfl | fail) | refine p_h (hL) hd hk ?_)
    | (refine gp_one ?_; first | refine pO ?_ | refine p_n (fun _ => ?_) | refine p_appB (fun _ _ => ?_) | refine p_app (fun _ _ => ?_) | refine p_b0 (fun _ => ?_) | ((fail_if_success refine gp_lit rfl rfl rfl rfl ?_); first | apply gp_guard_dec rfl rfl rfl rfl | apply gp_guard rfl rfl rfl rfl | fail) | refine p_k (hL) ?_)
    | refine gp_two ?_ ?_ | refine gp_done hd hk ?_ | intro _ | refine p_ta hd hk (fun _ _ _ hd hk => ?_) | refine p_ts hd hk (fun _ hd hk => ?_))
  refine g_as 16 (v' := .bool true) rfl (congrArg Value.bool (by rcases h with h | h <;> simp [h])) ?_
  repeat (first
    | (refine g_ops ?_; first | refine sO ?_ | refine s_n (fun _ => ?_) | refine s_appB (fun _ _ => ?_) | refine s_app (fun _ _ => ?_) | refine s_b0 (fun _ => ?_) | ((fail_if_success refine g_lit rfl rfl rfl ?_); first | apply g_partM rfl rfl rfl | apply g_partMB rfl rfl rfl | fail))
    | refine gS ?_ | exact s_m | intro _)
  exact gR () trivial
def rdL (rs : List BV) (from_ : Nat) (max : Int) : List BV := (rs.drop from_).take max.toNat
theorem bts_snoc (ws : List BV) (w : BV) : bts (ws ++ [w]) = bts ws ++ [w.l] := by simp
theorem rd_snoc {rs : List BV} {f k : Nat} (h : f + k < rs.length) : bts ((rs.drop f).take (k + 1)) = bts ((rs.drop f).take k) ++ [rs[f + k].l] := by
  rw [List.take_add_one, List.getElem?_drop, List.getElem?_eq_getElem h]
  simp
theorem read_ {H : HP} (lg d : Nat) (x : LG) (off : Bool) (f : Nat) (max : Int) (hf : f ≤ x.rs.length) (hR : BtsAt H x.rs) (hn : x.rs.length ≤ 1000000) (hb : ∀ r ∈ x.rs, r.l.length ≤ 1000000) :
    Does Tryz.prog 16 [ptr lg, int f, int max] (x.L lg d off ++ [Pile H]) (X := RdX) (fun y => .tuple #[.slice y.q y.ws.length y.c, int 0]) (fun y => x.L lg d off ++ [.own y.q y.ws.length y.c 1 (y.ws.map BV.v) 28, Pile y.H])
      (fun y => HP.sub H y.H ∧ BtsAt y.H y.ws ∧ bts y.ws = bts (rdL x.rs f max)) := by
  obtain ⟨rq, rc, rs, fq, fc, fs, size, sl⟩ := x
  dsimp only [LG.L, LG.row, LG.own] at hf hR hn hb ⊢
  have hL := len_ lg d rq rs.length rc (.slice fq fs.length fc) size sl off
  refine fn_intro Tryz.func16 rfl Tryz.ntmps16 rfl (by simp only [argFr, Nat.zero_add, Nat.reduceAdd]; rfl) (fun Γ => ?_)
  dsimp only [List.cons_append, List.nil_append]
  repeat (first
    | (refine g_ops ?_; first | refine sO ?_ | refine s_n (fun _ => ?_) | refine s_appB (fun _ _ => ?_) | refine s_app (fun _ _ => ?_) | refine s_b0 (fun _ => ?_) | ((fail_if_success refine g_lit rfl rfl rfl ?_); first | apply g_partM rfl rfl rfl | apply g_partMB rfl rfl rfl | fail) | refine s_k (hL) ?_)
    | apply g_regB (id := 1) 16 | apply g_regB (id := 4) 27 | refine gS ?_ | exact s_m | intro _ | (refine gp_take ?_; first | refine pT ?_ | ((fail_if_success refine gp_lit rfl rfl rfl rfl ?_); first | apply gp_guard_dec rfl rfl rfl rfl | apply gp_guard rfl rfl rfl rfl | fail))
    | (refine gp_see ?_; first | refine p_f ?_ | refine pS ?_ | ((fail_if_success refine gp_lit rfl rfl rfl rfl ?_); first | apply gp_guard_dec rfl rfl rfl rfl | apply gp_guard rfl rfl rfl rfl | fail) | refine p_h (hL) hd hk ?_)
    | (refine gp_one ?_; first | refine pO ?_ | refine p_n (fun _ => ?_) | refine p_appB (fun _ _ => ?_) | refine p_app (fun _ _ => ?_) | refine p_b0 (fun _ => ?_) | ((fail_if_success refine gp_lit rfl rfl rfl rfl ?_); first | apply gp_guard_dec rfl rfl rfl rfl | apply gp_guard rfl rfl rfl rfl | fail) | refine p_k (hL) ?_)
    | refine gp_two ?_ ?_ | refine gp_done hd hk ?_ | intro _ | refine p_ta hd hk (fun _ _ _ hd hk => ?_) | refine p_ts hd hk (fun _ hd hk => ?_))
  refine g_as 16 (v' := .bool false) rfl (congrArg Value.bool (by simp; omega)) ?_
  repeat (first
    | (refine g_ops ?_; first | refine sO ?_ | refine s_n (fun _ => ?_) | refine s_appB (fun _ _ => ?_) | refine s_app (fun _ _ => ?_) | refine s_b0 (fun _ => ?_) | ((fail_if_success refine g_lit rfl rfl rfl ?_); first | apply g_partM rfl rfl rfl | apply g_partMB rfl rfl rfl | fail))
    | refine gS ?_ | exact s_m | intro _)
  refine g_own_nil none 1 28 ?_
  refine g_loop (X := RdX) (fun y => [(0, ptr lg), (2, int max), (6, .slice y.q y.ws.length y.c), (8, int ((f + y.ws.length : Nat) : Int))]) (fun y => (LG.mk rq rc rs fq fc fs size sl).L lg d off ++ [.own y.q y.ws.length y.c 1 (y.ws.map BV.v) 28, Pile y.H])
    (fun y => HP.sub H y.H ∧ BtsAt y.H y.ws ∧ f + y.ws.length ≤ rs.length ∧ (y.ws.length = 0 ∨ (y.ws.length : Int) ≤ max) ∧ bts y.ws = bts ((rs.drop f).take y.ws.length)) (fun y => rs.length - y.ws.length) ⟨none, 0, [], H⟩ ⟨HP.sub.refl _, fun r hr => by simp at hr, by simpa using hf, .inl rfl, by simp⟩ (by (repeat (first | exact FrSub.nil | refine FrSub.cons rfl ?_)); first | done | fail) (by (repeat (first | exact Take.nil | apply Take.cons | exact Sel.here | apply Sel.there)); first | done | fail) (fun y hy => ?_)
  obtain ⟨q, c, ws, H1⟩ := y
  obtain ⟨hsub, hW, hle, hmx, heq⟩ := hy
  dsimp only at hsub hW hle hmx heq ⊢
  dsimp only [List.cons_append, List.nil_append]
  repeat (first
    | (refine g_ops ?_; first | refine sO ?_ | refine s_n (fun _ => ?_) | refine s_appB (fun _ _ => ?_) | refine s_app (fun _ _ => ?_) | refine s_b0 (fun _ => ?_) | ((fail_if_success refine g_lit rfl rfl rfl ?_); first | apply g_partM rfl rfl rfl | apply g_partMB rfl rfl rfl | fail) | refine s_k (hL) ?_)
    | apply g_regB (id := 1) 16 | apply g_regB (id := 4) 27 | refine gS ?_ | exact s_m | intro _ | (refine gp_take ?_; first | refine pT ?_ | ((fail_if_success refine gp_lit rfl rfl rfl rfl ?_); first | apply gp_guard_dec rfl rfl rfl rfl | apply gp_guard rfl rfl rfl rfl | fail))
    | (refine gp_see ?_; first | refine p_f ?_ | refine pS ?_ | ((fail_if_success refine gp_lit rfl rfl rfl rfl ?_); first | apply gp_guard_dec rfl rfl rfl rfl | apply gp_guard rfl rfl rfl rfl | fail) | refine p_h (hL) hd hk ?_)
    | (refine gp_one ?_; first | refine pO ?_ | refine p_n (fun _ => ?_) | refine p_appB (fun _ _ => ?_) | refine p_app (fun _ _ => ?_) | refine p_b0 (fun _ => ?_) | ((fail_if_success refine gp_lit rfl rfl rfl rfl ?_); first | apply gp_guard_dec rfl rfl rfl rfl | apply gp_guard rfl rfl rfl rfl | fail) | refine p_k (hL) ?_)
    | refine gp_two ?_ ?_ | refine gp_done hd hk ?_ | intro _ | refine p_ta hd hk (fun _ _ _ hd hk => ?_) | refine p_ts hd hk (fun _ hd hk => ?_))
  by_cases hgo : f + ws.length < rs.length ∧ (ws.length : Int) < max
  · obtain ⟨hi, hm⟩ := hgo
    refine g_as 27 (v' := .bool true) rfl (congrArg Value.bool (by rw [decide_eq_true (show ((f + ws.length : Nat) : Int) < (rs.length : Int) by omega), decide_eq_true hm]; rfl)) ?_
    refine g_own (p := rq) (len := rs.length) (cap := rc) (n := 1) (xs := rs.map BV.v) (e := 28) (by (repeat (first | exact Sel.here | apply Sel.there)); first | done | fail) (fun _ _ hq => ?_)
    obtain ⟨b, rfl⟩ := hq (by omega)
    have hrow := reads_own (b := b) (len := rs.length) (cap := rc) (n := 1) (e := 28) (xs := rs.map BV.v) (j := f + ws.length) (v := (rs[f + ws.length]).v) (by simp [hi])
    have hrd := rd_snoc hi
    have hbb := hR rs[f + ws.length] (List.getElem_mem hi)
    have hbl := hb rs[f + ws.length] (List.getElem_mem hi)
    generalize hr0 : rs[f + ws.length] = r at hrow hrd hbb hbl
    have hr : ∀ k, k = f + ws.length → Reads (.own (some ⟨b, 0, none⟩) rs.length rc 1 (rs.map BV.v) 28) ⟨b, k, none⟩ r.v := fun k hk => by rw [hk]; exact hrow
    have hcl := cloneB (C := Pile H1) (p := r.p) (m := r.l.length) (c := r.c) (news := cells8 r.l) (btAt_slAt (BtAt.grow hbb hsub)) (by omega)
    repeat (first
      | (refine g_ops ?_; first | refine sO ?_ | refine s_n (fun _ => ?_) | refine s_appB (fun _ _ => ?_) | refine s_app (fun _ _ => ?_) | refine s_b0 (fun _ => ?_) | ((fail_if_success refine g_lit rfl rfl rfl ?_); first | apply g_partM rfl rfl rfl | apply g_partMB rfl rfl rfl | fail) | refine s_c (hcl) (fun _ _ => ?_))
      | refine gS ?_ | exact s_m | intro _)
    rename_i y _ rb q' c'
    obtain ⟨yp, yc⟩ := y
    dsimp only
    refine g_pile (p := yp) (m := r.l.length) (c := yc) (n := 1) (xs := cells8 r.l) (e := 5) (by (repeat (first | exact Sel.here | apply Sel.there)); first | done | fail) (by (repeat (first | exact Sel.here | apply Sel.there)); first | done | fail) (fun H2 hs2 hA2 => ?_)
    have hlen : (ws ++ [BV.mk yp r.l yc]).length = ws.length + 1 := by simp
    have hmap : (ws ++ [BV.mk yp r.l yc]).map BV.v = ws.map BV.v ++ [.slice yp r.l.length yc] := by simp
    refine g_as 8 (v' := int ((f + (ws.length + 1) : Nat) : Int)) rfl (congrArg (Value.int .i64) (by push_cast; omega)) ?_
    rw [← hlen, ← hmap]
    refine gA ⟨q', c', ws ++ [BV.mk yp r.l yc], H2⟩ (by simp only; omega) ⟨hsub.trans hs2, fun z hz => ?_, by simp only; omega, .inr (by simp only; rw [hlen]; push_cast; omega), ?_⟩
    · rcases List.mem_append.1 hz with h | h
      · exact BtAt.grow (hW z h) hs2
      · rw [List.mem_singleton.1 h]
        exact btAt_of rfl hA2
    · dsimp only
      rw [hlen, hrd, bts_snoc, ← heq]
  · refine g_as 27 (v' := .bool false) rfl (congrArg Value.bool (by
      by_cases h1 : ((f + ws.length : Nat) : Int) < (rs.length : Int)
      · rw [decide_eq_true h1, decide_eq_false (fun h2 => hgo ⟨by omega, h2⟩)]; rfl
      · rw [decide_eq_false h1]; rfl)) ?_
    repeat (first
      | (refine g_ops ?_; first | refine sO ?_ | refine s_n (fun _ => ?_) | refine s_appB (fun _ _ => ?_) | refine s_app (fun _ _ => ?_) | refine s_b0 (fun _ => ?_) | ((fail_if_success refine g_lit rfl rfl rfl ?_); first | apply g_partM rfl rfl rfl | apply g_partMB rfl rfl rfl | fail))
      | refine gS ?_ | exact s_m | intro _)
    refine gR ⟨q, c, ws, H1⟩ ⟨hsub, hW, ?_⟩
    rw [heq]
    unfold rdL
    congr 1
    by_cases h1 : f + ws.length < rs.length
    · have : ¬ (ws.length : Int) < max := fun h => hgo ⟨h1, h⟩
      rcases hmx with h0 | h0
      · rw [h0]
        have : max.toNat = 0 := by omega
        rw [this]
      · have : max.toNat = ws.length := by omega
        rw [this]
    · rw [List.take_of_length_le (by rw [List.length_drop]; omega)]
      rcases hmx with h0 | h0
      · have : rs.drop f = [] := List.drop_eq_nil_of_le (by omega)
        rw [this]; simp
      · rw [List.take_of_length_le (by rw [List.length_drop]; omega)]
end Go.Proofs.YtdldgbbhagpofaaGreatDoor

namespace Go.Proofs.YtdldgbbhagpofaaGreatDoor
open Go.Sl facts
structure PA where
  file : Nat
  first : Nat
  fresh : Bool
  l : List BV
structure PV where
  file : Nat
  first : Nat
  fresh : Bool
  l : List BV
  p : Option Addr
  c : Nat
abbrev PV.a (x : PV) : PA := ⟨x.file, x.first, x.fresh, x.l⟩
abbrev PV.cells (x : PV) : List Value := [int x.file, int x.first, .bool x.fresh, .slice x.p x.l.length x.c]
abbrev PV.v (x : PV) : Value := .agg x.cells.toArray
def PAt (H : HP) (x : PV) : Prop := SlAt (Pile H) 1 x.p x.l.length (x.l.map BV.v)
theorem PAt.grow {H H' : HP} {x : PV} (h : PAt H x) (s : HP.sub H H') : PAt H' x := SlAt.grow h s
structure St where
  out : List PA
  next : Nat
  size : Nat
  opn : Bool
def addLast (r : BV) : List PA → List PA
  | [] => []
  | [a] => [{ a with l := a.l ++ [r] }]
  | a :: b :: t => a :: addLast r (b :: t)
theorem addLast_snoc (r : BV) (a : PA) : ∀ d : List PA, addLast r (d ++ [a]) = d ++ [{ a with l := a.l ++ [r] }]
  | [] => rfl
  | [b] => rfl
  | b :: c :: t => by
    have := addLast_snoc r a (c :: t)
    simp only [List.cons_append] at this ⊢
    show b :: addLast r (c :: (t ++ [a])) = _
    rw [this]
def St.step (f0 i : Nat) (r : BV) (s : St) : St :=
  if s.opn = false ∨ 2000 ≤ s.size then ⟨s.out ++ [⟨s.next, f0 + i, true, [r]⟩], s.next + 1, r.l.length, true⟩
  else ⟨addLast r s.out, s.next, s.size + r.l.length, s.opn⟩
def pgo (f0 : Nat) : Nat → List BV → St → St
  | _, [], s => s
  | i, r :: t, s => pgo f0 (i + 1) t (s.step f0 i r)
def st0 (segs size : Nat) (sealed_ : Bool) (f0 : Nat) : St :=
  if 0 < segs ∧ sealed_ = false ∧ size < 2000 then ⟨[⟨segs - 1, f0, false, []⟩], segs, size, true⟩ else ⟨[], segs, size, false⟩
def partsL (segs size : Nat) (sealed_ : Bool) (f0 : Nat) (rs : List BV) : St := pgo f0 0 rs (st0 segs size sealed_ f0)
structure PsX where
  i : Nat
  ps : List PV
  q : Option Addr
  ll : List BV
  c : Nat
  next : Nat
  size : Nat
  opn : Bool
  oq : Option Addr
  oc : Nat
  H : HP
structure PrX where
  ps : List PV
  oq : Option Addr
  oc : Nat
  H : HP
structure MdX where
  dn : List PV
  la : PV
  next : Nat
  size : Nat
  oq : Option Addr
  oc : Nat
  H : HP
theorem pv_len (x : PV) : x.cells.length = 4 := rfl
structure PsOk (f0 : Nat) (rs : List BV) (fin : St) (n0 b0 : Nat) (H0 : HP) (x : PsX) : Prop where
  le : x.i ≤ rs.length
  sub : HP.sub H0 x.H
  fin : pgo f0 x.i (rs.drop x.i) ⟨x.ps.map PV.a, x.next, x.size, x.opn⟩ = fin
  opn : x.opn = true → ∃ dn la, x.ps = dn ++ [la] ∧ la.p = x.q ∧ la.l = x.ll ∧ la.c = x.c ∧ ∀ p ∈ dn, PAt x.H p
  shut : x.opn = false → x.ps = []
  ll : x.ll.length ≤ x.i
  pl : x.ps.length ≤ x.i + 1
  nx : x.next ≤ n0 + x.i
  sz : x.size ≤ b0 + sumL (rs.take x.i)
theorem flat_set (dn : List PV) (la : PV) (l : List BV) (q : Option Addr) (c : Nat) : ((dn ++ [la]).flatMap PV.cells).set (dn.length * 4 + 3) (.slice q l.length c) = (dn ++ [{ la with l := l, p := q, c := c }]).flatMap PV.cells := by
  have hl : (dn.flatMap PV.cells).length = dn.length * 4 := flat_len pv_len dn
  rw [List.flatMap_append, List.flatMap_append, List.set_append_right _ _ (by omega), hl, Nat.add_sub_cancel_left]
  rfl
structure MdOk (f0 i : Nat) (r : BV) (s0 : St) (n0 b0 : Nat) (H1 : HP) (y : MdX) : Prop where
  sub : HP.sub H1 y.H
  dn : ∀ z ∈ y.dn, PAt y.H z
  step : St.step f0 i r s0 = ⟨addLast r ((y.dn ++ [y.la]).map PV.a), y.next, y.size + r.l.length, true⟩
  ll : y.la.l.length ≤ i
  pl : (y.dn ++ [y.la]).length ≤ i + 2
  nx : y.next ≤ n0 + i + 1
  sz : y.size ≤ b0
attribute [local irreducible] Code.wp wpList Exit.then Exit.inBlock bodyPost Back MidQ G GP QStep VStep CStep SStep Does Post Reads
theorem parts_ {H : HP} (lg d : Nat) (x : LG) (off : Bool) (p : Option Addr) (c : Nat) (rs : List BV) (size0 : Nat) (hz : x.size = size0) (hR : RecsAt H p rs) (hn : rs.length ≤ 100) (hs : sumL rs ≤ 8388608) (hz1 : size0 ≤ 1000000000) (h1 : x.rs.length ≤ 1000000) (h2 : x.fs.length ≤ 1000000) :
    Does Tryz.prog 27 [ptr lg, .slice p rs.length c] [x.row lg d off, Pile H] (X := PrX) (fun y => .tuple #[.slice y.oq y.ps.length y.oc, int (partsL x.fs.length size0 x.sl x.rs.length rs).size])
      (fun y => [x.row lg d off, .own y.oq y.ps.length y.oc 4 (y.ps.flatMap PV.cells) 63, Pile y.H])
      (fun y => HP.sub H y.H ∧ y.ps.map PV.a = (partsL x.fs.length size0 x.sl x.rs.length rs).out ∧ ∀ z ∈ y.ps, PAt y.H z) := by
  obtain ⟨rq, rc, xs, fq, fc, fs, size, sl⟩ := x
  dsimp only [LG.row] at hz h1 h2 ⊢
  subst hz
  have hfin : pgo xs.length 0 rs (st0 fs.length size0 sl xs.length) = partsL fs.length size0 sl xs.length rs := rfl
  generalize partsL fs.length size0 sl xs.length rs = fin at hfin ⊢
  refine fn_intro Tryz.func27 rfl Tryz.ntmps27 rfl (by simp only [argFr, Nat.zero_add, Nat.reduceAdd]; rfl) (fun Γ => ?_)
  repeat (first
    | (refine g_ops ?_; first | refine sO ?_ | refine s_n (fun _ => ?_) | refine s_appB (fun _ _ => ?_) | refine s_app (fun _ _ => ?_) | refine s_b0 (fun _ => ?_) | ((fail_if_success refine g_lit rfl rfl rfl ?_); first | apply g_partM rfl rfl rfl | apply g_partMB rfl rfl rfl | fail))
    | refine g_draw (id := 1) (.take 0 (.take 1 (.take 2 (.see 3 [] (.take 4 (.take 5 (.take 6 (.take 7 (.see 8 [] (.take 9 (.take 10 (.take 11 (.see 12 [] (.take 13 (.take 14 (.take 15 (.take 16 .done))))))))))))))))) (by kernel_rfl) (take_all _) (fun k hd hk => ?_)
    | apply g_regB (id := 2) 8 | apply g_regB (id := 8) 59 | refine gS ?_ | exact s_m | intro _ | (refine gp_take ?_; first | refine pT ?_ | ((fail_if_success refine gp_lit rfl rfl rfl rfl ?_); first | apply gp_guard_dec rfl rfl rfl rfl | apply gp_guard rfl rfl rfl rfl | fail))
    | (refine gp_see ?_; first | refine p_f ?_ | refine pS ?_ | ((fail_if_success refine gp_lit rfl rfl rfl rfl ?_); first | apply gp_guard_dec rfl rfl rfl rfl | apply gp_guard rfl rfl rfl rfl | fail))
    | (refine gp_one ?_; first | refine pO ?_ | refine p_n (fun _ => ?_) | refine p_appB (fun _ _ => ?_) | refine p_app (fun _ _ => ?_) | refine p_b0 (fun _ => ?_) | ((fail_if_success refine gp_lit rfl rfl rfl rfl ?_); first | apply gp_guard_dec rfl rfl rfl rfl | apply gp_guard rfl rfl rfl rfl | fail))
    | refine gp_two ?_ ?_ | refine gp_done hd hk ?_ | intro _ | refine p_ta hd hk (fun _ _ _ hd hk => ?_) | refine p_ts hd hk (fun _ hd hk => ?_))
  dsimp only [List.nil_append]
  refine g_own_nil none 4 63 ?_
  refine g_own_nil none 1 28 ?_
  refine g_cutX (X := PsX) (fun y => [(1, .slice p rs.length c), (4, .slice y.oq y.ps.length y.oc), (5, int y.size), (6, int y.next), (7, int xs.length), (8, .bool y.opn)])
    (fun y => [lrow lg d (.slice rq xs.length rc) (.slice fq fs.length fc) size0 sl off, .own y.oq y.ps.length y.oc 4 (y.ps.flatMap PV.cells) 63, .own y.q y.ll.length y.c 1 (y.ll.map BV.v) 28, Pile y.H]) (fun y => y.i = 0 ∧ PsOk xs.length rs fin fs.length size0 H y) ?_ (fun y hy => ?_)
  · by_cases hop : 0 < fs.length ∧ sl = false ∧ size0 < 2000
    · have e0 : st0 fs.length size0 sl xs.length = ⟨[⟨fs.length - 1, xs.length, false, []⟩], fs.length, size0, true⟩ := by unfold st0; rw [if_pos hop]
      rw [e0] at hfin
      obtain ⟨g1, g2, g3⟩ := hop
      subst g2
      refine g_as 39 (v' := .bool true) rfl (congrArg Value.bool (by rw [decide_eq_true (show (0 : Int) < (fs.length : Int) by omega), decide_eq_true (show (size0 : Int) < 2000 by omega)]; rfl)) ?_
      refine g_as 8 (v' := .bool true) rfl (congrArg Value.bool (by rw [decide_eq_true (show (0 : Int) < (fs.length : Int) by omega), decide_eq_true (show (size0 : Int) < 2000 by omega)]; rfl)) ?_
      repeat (first
        | (refine g_ops ?_; first | refine sO ?_ | refine s_n (fun _ => ?_) | refine s_appB (fun _ _ => ?_) | refine s_app (fun _ _ => ?_) | refine s_b0 (fun _ => ?_) | ((fail_if_success refine g_lit rfl rfl rfl ?_); first | apply g_partM rfl rfl rfl | apply g_partMB rfl rfl rfl | fail))
        | refine gS ?_ | exact s_m | intro _)
      rename_i vb' q' c'
      dsimp only [List.nil_append]
      have e1 : ((fs.length : Int) - 1) = ((fs.length - 1 : Nat) : Int) := by omega
      rw [e1]
      exact gM (⟨0, [⟨fs.length - 1, xs.length, false, [], none, 0⟩], none, [], 0, fs.length, size0, true, q', c', H⟩ : PsX) ⟨rfl, Nat.zero_le _, HP.sub.refl _, hfin, fun _ => ⟨[], _, rfl, rfl, rfl, rfl, fun z hz => by simp at hz⟩, fun h => (by cases h), Nat.zero_le _, by simp, by simp, by simp⟩
    · have e0 : st0 fs.length size0 sl xs.length = ⟨[], fs.length, size0, false⟩ := by unfold st0; rw [if_neg hop]
      rw [e0] at hfin
      have eb : (bif decide ((0 : Int) < (fs.length : Int)) then bif !sl then decide ((size0 : Int) < 2000) else false else false) = false := by
        by_cases g1 : 0 < fs.length
        · cases sl with
          | true => simp
          | false =>
            have g3 : ¬ size0 < 2000 := fun h => hop ⟨g1, rfl, h⟩
            simp; omega
        · rw [decide_eq_false (by omega)]; rfl
      refine g_as 39 (v' := .bool false) rfl (congrArg Value.bool eb) ?_
      refine g_as 8 (v' := .bool false) rfl (congrArg Value.bool eb) ?_
      repeat (first
        | (refine g_ops ?_; first | refine sO ?_ | refine s_n (fun _ => ?_) | refine s_appB (fun _ _ => ?_) | refine s_app (fun _ _ => ?_) | refine s_b0 (fun _ => ?_) | ((fail_if_success refine g_lit rfl rfl rfl ?_); first | apply g_partM rfl rfl rfl | apply g_partMB rfl rfl rfl | fail))
        | refine gS ?_ | exact s_m | intro _)
      exact gM (⟨0, [], none, [], 0, fs.length, size0, false, none, 0, H⟩ : PsX) ⟨rfl, Nat.zero_le _, HP.sub.refl _, hfin, fun h => (by cases h), fun _ => rfl, Nat.zero_le _, by simp, by simp, by simp⟩
  · obtain ⟨hi0, hok⟩ := hy
    obtain ⟨i0, ps, q, ll, c1, next, size, opn, oq, oc, H1⟩ := y
    dsimp only at hi0
    subst hi0
    dsimp only
    repeat (first
      | (refine g_ops ?_; first | refine sO ?_ | refine s_n (fun _ => ?_) | refine s_appB (fun _ _ => ?_) | refine s_app (fun _ _ => ?_) | refine s_b0 (fun _ => ?_) | ((fail_if_success refine g_lit rfl rfl rfl ?_); first | apply g_partM rfl rfl rfl | apply g_partMB rfl rfl rfl | fail))
      | refine gS ?_ | exact s_m | intro _)
    refine g_as 49 (v' := int ((0 : Nat) : Int)) rfl rfl ?_
    refine g_loop (X := PsX) (fun y => [(1, .slice p rs.length c), (4, .slice y.oq y.ps.length y.oc), (5, int y.size), (6, int y.next), (7, int xs.length), (8, .bool y.opn), (47, .slice p rs.length c), (48, int rs.length), (49, int y.i)])
      (fun y => [lrow lg d (.slice rq xs.length rc) (.slice fq fs.length fc) size0 sl off, .own y.oq y.ps.length y.oc 4 (y.ps.flatMap PV.cells) 63, .own y.q y.ll.length y.c 1 (y.ll.map BV.v) 28, Pile y.H]) (PsOk xs.length rs fin fs.length size0 H) (fun y => rs.length - y.i) ⟨0, ps, q, ll, c1, next, size, opn, oq, oc, H1⟩ hok (by (repeat (first | exact FrSub.nil | refine FrSub.cons rfl ?_)); first | done | fail) (by (repeat (first | exact Take.nil | apply Take.cons | exact Sel.here | apply Sel.there)); first | done | fail) (fun y hy => ?_)
    clear hok
    obtain ⟨i, ps, q, ll, c1, next, size, opn, oq, oc, H1⟩ := y
    obtain ⟨hle, hsub, hfn, hop, hsh, hll, hpl, hnx, hsz⟩ := hy
    dsimp only at hle hsub hfn hop hsh hll hpl hnx hsz ⊢
    repeat (first
      | (refine g_ops ?_; first | refine sO ?_ | refine s_n (fun _ => ?_) | refine s_appB (fun _ _ => ?_) | refine s_app (fun _ _ => ?_) | refine s_b0 (fun _ => ?_) | ((fail_if_success refine g_lit rfl rfl rfl ?_); first | apply g_partM rfl rfl rfl | apply g_partMB rfl rfl rfl | fail))
      | refine gS ?_ | exact s_m | intro _)
    refine g_cond_dec rfl (fun h5 => ?_) (fun h5 => ?_)
    · have hi' : i < rs.length := by omega
      obtain ⟨rb, ro, rfl, hrow⟩ := slAt_cell (hR.grow hsub).sl (i := i) (v := (rs[i]).v) (by simp [hi'])
      have hst := sumL_take rs i hi'
      have hsl := sumL_take_le rs (i + 1)
      rw [List.drop_eq_getElem_cons hi'] at hfn
      generalize hr0 : rs[i] = r at hrow hst hfn
      have hr : ∀ k, k = i → Reads (Pile H1) ⟨rb, ro + k, none⟩ r.v := fun k hk => by rw [hk]; exact hrow
      replace hfn : pgo xs.length (i + 1) (rs.drop (i + 1)) (St.step xs.length i r ⟨ps.map PV.a, next, size, opn⟩) = fin := hfn
      repeat (first
        | (refine g_ops ?_; first | refine sO ?_ | refine s_n (fun _ => ?_) | refine s_appB (fun _ _ => ?_) | refine s_app (fun _ _ => ?_) | refine s_b0 (fun _ => ?_) | ((fail_if_success refine g_lit rfl rfl rfl ?_); first | apply g_partM rfl rfl rfl | apply g_partMB rfl rfl rfl | fail))
        | refine g_draw (id := 1) (.take 0 (.take 1 (.take 2 (.see 3 [] (.take 4 (.take 5 (.take 6 (.take 7 (.see 8 [] (.take 9 (.take 10 (.take 11 (.see 12 [] (.take 13 (.take 14 (.take 15 (.take 16 .done))))))))))))))))) (by kernel_rfl) (take_all _) (fun k hd hk => ?_)
        | apply g_regB (id := 2) 8 | apply g_regB (id := 8) 59 | refine gS ?_ | exact s_m | intro _ | (refine gp_take ?_; first | refine pT ?_ | ((fail_if_success refine gp_lit rfl rfl rfl rfl ?_); first | apply gp_guard_dec rfl rfl rfl rfl | apply gp_guard rfl rfl rfl rfl | fail))
        | (refine gp_see ?_; first | refine p_f ?_ | refine pS ?_ | ((fail_if_success refine gp_lit rfl rfl rfl rfl ?_); first | apply gp_guard_dec rfl rfl rfl rfl | apply gp_guard rfl rfl rfl rfl | fail))
        | (refine gp_one ?_; first | refine pO ?_ | refine p_n (fun _ => ?_) | refine p_appB (fun _ _ => ?_) | refine p_app (fun _ _ => ?_) | refine p_b0 (fun _ => ?_) | ((fail_if_success refine gp_lit rfl rfl rfl rfl ?_); first | apply gp_guard_dec rfl rfl rfl rfl | apply gp_guard rfl rfl rfl rfl | fail))
        | refine gp_two ?_ ?_ | refine gp_done hd hk ?_ | intro _ | refine p_ta hd hk (fun _ _ _ hd hk => ?_) | refine p_ts hd hk (fun _ hd hk => ?_))
      refine g_cutX (X := MdX) (fun y => [(1, .slice (some ⟨rb, ro, none⟩) rs.length c), (4, .slice y.oq (y.dn ++ [y.la]).length y.oc), (5, int y.size), (6, int y.next), (7, int xs.length), (8, .bool true), (10, r.v), (47, .slice (some ⟨rb, ro, none⟩) rs.length c), (48, int rs.length), (49, int i)])
        (fun y => [lrow lg d (.slice rq xs.length rc) (.slice fq fs.length fc) size0 sl off, .own y.oq (y.dn ++ [y.la]).length y.oc 4 ((y.dn ++ [y.la]).flatMap PV.cells) 63, .own y.la.p y.la.l.length y.la.c 1 (y.la.l.map BV.v) 28, Pile y.H]) (MdOk xs.length i r ⟨ps.map PV.a, next, size, opn⟩ fs.length (size0 + sumL (rs.take i)) H1) ?_ (fun y hy => ?_)
      · by_cases hc : opn = false ∨ 2000 ≤ size
        · refine g_as 59 (v' := .bool true) rfl (congrArg Value.bool (by
            rcases hc with h | h
            · rw [h]; rfl
            · rw [decide_eq_true (show (2000 : Int) ≤ (size : Int) by omega)]; cases opn <;> rfl)) ?_
          have hstep : St.step xs.length i r ⟨ps.map PV.a, next, size, opn⟩ = ⟨ps.map PV.a ++ [⟨next, xs.length + i, true, [r]⟩], next + 1, r.l.length, true⟩ := by unfold St.step; rw [if_pos hc]
          repeat (first
            | (refine g_ops ?_; first | refine sO ?_ | refine s_n (fun _ => ?_) | refine s_appB (fun _ _ => ?_) | refine s_app (fun _ _ => ?_) | refine s_b0 (fun _ => ?_) | ((fail_if_success refine g_lit rfl rfl rfl ?_); first | apply g_partM rfl rfl rfl | apply g_partMB rfl rfl rfl | fail))
            | refine gS ?_ | exact s_m | intro _)
          rename_i vb' q' c'
          refine g_pile (p := q) (m := ll.length) (c := c1) (n := 1) (xs := ll.map BV.v) (e := 28) (by (repeat (first | exact Sel.here | apply Sel.there)); first | done | fail) (by (repeat (first | exact Sel.here | apply Sel.there)); first | done | fail) (fun H2 hs2 hA2 => ?_)
          refine g_own_nil none 1 28 ?_
          have e1 : ((xs.length : Int) + (i : Int)) = ((xs.length + i : Nat) : Int) := by push_cast; rfl
          have e2 : ((next : Int) + 1) = ((next + 1 : Nat) : Int) := by push_cast; rfl
          rw [e1, e2]
          have hpa : ∀ z ∈ ps, PAt H2 z := fun z hz => by
            cases opn with
            | false => rw [hsh rfl] at hz; simp at hz
            | true =>
              obtain ⟨dn, la, rfl, rfl, rfl, rfl, hdn⟩ := hop rfl
              rcases List.mem_append.1 hz with h | h
              · exact PAt.grow (hdn z h) hs2
              · rw [List.mem_singleton.1 h]; exact hA2
          have hfl : ps.flatMap PV.cells ++ [int next, int ((xs.length + i : Nat) : Int), .bool true, .slice none 0 0] = (ps ++ [(⟨next, xs.length + i, true, [], none, 0⟩ : PV)]).flatMap PV.cells := by simp
          rw [hfl]
          have hlp : (ps ++ [(⟨next, xs.length + i, true, [], none, 0⟩ : PV)]).length = ps.length + 1 := by simp
          rw [← hlp]
          refine gM (⟨ps, ⟨next, xs.length + i, true, [], none, 0⟩, next + 1, 0, q', c', H2⟩ : MdX) ⟨hs2, hpa, ?_, Nat.zero_le _, ?_, ?_, Nat.zero_le _⟩
          · rw [hstep]
            dsimp only
            rw [List.map_append, List.map_singleton, addLast_snoc, Nat.zero_add]
            rfl
          · dsimp only; rw [hlp]; omega
          · dsimp only; omega
        · have ho : opn = true := by cases opn <;> simp_all
          subst ho
          have hz2 : ¬ 2000 ≤ size := fun h => hc (.inr h)
          obtain ⟨dn, la, rfl, rfl, rfl, rfl, hdn⟩ := hop rfl
          refine g_as 59 (v' := .bool false) rfl (congrArg Value.bool (by rw [decide_eq_false (show ¬ (2000 : Int) ≤ (size : Int) by omega)]; rfl)) ?_
          have hstep : St.step xs.length i r ⟨(dn ++ [la]).map PV.a, next, size, true⟩ = ⟨addLast r ((dn ++ [la]).map PV.a), next, size + r.l.length, true⟩ := by unfold St.step; rw [if_neg hc]
          repeat (first
            | (refine g_ops ?_; first | refine sO ?_ | refine s_n (fun _ => ?_) | refine s_appB (fun _ _ => ?_) | refine s_app (fun _ _ => ?_) | refine s_b0 (fun _ => ?_) | ((fail_if_success refine g_lit rfl rfl rfl ?_); first | apply g_partM rfl rfl rfl | apply g_partMB rfl rfl rfl | fail))
            | refine gS ?_ | exact s_m | intro _)
          exact gM (⟨dn, la, next, size, oq, oc, H1⟩ : MdX) ⟨HP.sub.refl _, hdn, hstep, hll, Nat.le_succ_of_le hpl, Nat.le_succ_of_le hnx, hsz⟩
      · obtain ⟨dn, ⟨f1, f2, f3, ll2, lq2, lc2⟩, next2, size2, oq2, oc2, H2⟩ := y
        obtain ⟨m1, m2, m3, m4, m5, m6, m7⟩ := hy
        dsimp only at m1 m2 m3 m4 m5 m6 m7 ⊢
        repeat (first
          | (refine g_ops ?_; first | refine sO ?_ | refine s_n (fun _ => ?_) | refine s_appB (fun _ _ => ?_) | refine s_app (fun _ _ => ?_) | refine s_b0 (fun _ => ?_) | ((fail_if_success refine g_lit rfl rfl rfl ?_); first | apply g_partM rfl rfl rfl | apply g_partMB rfl rfl rfl | fail))
          | refine gS ?_ | exact s_m | intro _)
        have hdl : (dn ++ [(⟨f1, f2, f3, ll2, lq2, lc2⟩ : PV)]).length = dn.length + 1 := by simp
        refine g_own (p := oq2) (len := (dn ++ [(⟨f1, f2, f3, ll2, lq2, lc2⟩ : PV)]).length) (cap := oc2) (n := 4) (xs := (dn ++ [(⟨f1, f2, f3, ll2, lq2, lc2⟩ : PV)]).flatMap PV.cells) (e := 63) (by (repeat (first | exact Sel.here | apply Sel.there)); first | done | fail) (fun hxl _ hq => ?_)
        obtain ⟨ob, rfl⟩ := hq (by omega)
        refine g_as 73 (v' := int ((dn.length : Nat) : Int)) rfl (congrArg (Value.int .i64) (by rw [hdl]; push_cast; omega)) ?_
        have hcell2 := own_at (b := ob) (len := (dn ++ [(⟨f1, f2, f3, ll2, lq2, lc2⟩ : PV)]).length) (cap := oc2) (e := 63) pv_len (l := dn ++ [(⟨f1, f2, f3, ll2, lq2, lc2⟩ : PV)]) (i := dn.length) (a := ⟨f1, f2, f3, ll2, lq2, lc2⟩) (by simp) 3 (.slice lq2 ll2.length lc2) rfl
        have hr2 : ∀ k, k = dn.length * 4 + 3 → Reads (.own (some ⟨ob, 0, none⟩) (dn ++ [(⟨f1, f2, f3, ll2, lq2, lc2⟩ : PV)]).length oc2 4 ((dn ++ [(⟨f1, f2, f3, ll2, lq2, lc2⟩ : PV)]).flatMap PV.cells) 63) ⟨ob, k, none⟩ (.slice lq2 ll2.length lc2) := fun k hk => by rw [hk]; simpa only [Nat.zero_add] using hcell2
        repeat (first
          | (refine g_ops ?_; first | refine sO ?_ | refine s_n (fun _ => ?_) | refine s_appB (fun _ _ => ?_) | refine s_app (fun _ _ => ?_) | refine s_b0 (fun _ => ?_) | ((fail_if_success refine g_lit rfl rfl rfl ?_); first | apply g_partM rfl rfl rfl | apply g_partMB rfl rfl rfl | fail))
          | refine gS ?_ | exact s_m | intro _)
        rename_i vb' q' c'
        refine g_s (ss_storeOwn (v := .slice q' (ll2.length + 1) c') inferInstance rfl rfl rfl (by (repeat (first | exact Sel.here | apply Sel.there)); first | done | fail) (by rw [hxl, hdl]; omega)) rfl ?_
        have hset := flat_set dn ⟨f1, f2, f3, ll2, lq2, lc2⟩ (ll2 ++ [r]) q' c'
        have hlr : (ll2 ++ [r]).length = ll2.length + 1 := by simp
        have hmr : (ll2 ++ [r]).map BV.v = ll2.map BV.v ++ [r.v] := by simp
        rw [hlr] at hset
        rw [show 0 + dn.length * 4 + 3 = dn.length * 4 + 3 by omega, hset, ← hmr]
        repeat (first
          | (refine g_ops ?_; first | refine sO ?_ | refine s_n (fun _ => ?_) | refine s_appB (fun _ _ => ?_) | refine s_app (fun _ _ => ?_) | refine s_b0 (fun _ => ?_) | ((fail_if_success refine g_lit rfl rfl rfl ?_); first | apply g_partM rfl rfl rfl | apply g_partMB rfl rfl rfl | fail))
          | refine gS ?_ | exact s_m | intro _)
        refine g_as 5 (v' := int ((size2 + r.l.length : Nat) : Int)) rfl (congrArg (Value.int .i64) (by push_cast; rfl)) ?_
        refine g_as 49 (v' := int ((i + 1 : Nat) : Int)) rfl (congrArg (Value.int .i64) (by push_cast; rfl)) ?_
        have hdl2 : (dn ++ [(⟨f1, f2, f3, ll2 ++ [r], q', c'⟩ : PV)]).length = dn.length + 1 := by simp
        rw [hdl, ← hdl2, ← hlr]
        refine gA ⟨i + 1, dn ++ [⟨f1, f2, f3, ll2 ++ [r], q', c'⟩], q', ll2 ++ [r], c', next2, size2 + r.l.length, true, _, oc2, H2⟩ (by simp only; omega) ⟨?_, hsub.trans m1, ?_, fun _ => ⟨dn, _, rfl, rfl, rfl, rfl, m2⟩, fun h => (by cases h), ?_, ?_, ?_, ?_⟩
        · exact hi'
        · dsimp only
          rw [← hfn, m3]
          congr 2
          rw [List.map_append, List.map_append, List.map_singleton, List.map_singleton, addLast_snoc]
        · dsimp only; omega
        · dsimp only; omega
        · dsimp only; omega
        · dsimp only; omega
    · obtain rfl : i = rs.length := by omega
      rw [List.drop_length] at hfn
      replace hfn : (⟨ps.map PV.a, next, size, opn⟩ : St) = fin := hfn
      subst hfn
      refine g_pile (p := q) (m := ll.length) (c := c1) (n := 1) (xs := ll.map BV.v) (e := 28) (by (repeat (first | exact Sel.here | apply Sel.there)); first | done | fail) (by (repeat (first | exact Sel.here | apply Sel.there)); first | done | fail) (fun H2 hs2 hA2 => ?_)
      have hpa : ∀ z ∈ ps, PAt H2 z := fun z hz => by
        cases opn with
        | false => rw [hsh rfl] at hz; simp at hz
        | true =>
          obtain ⟨dn, la, rfl, rfl, rfl, rfl, hdn⟩ := hop rfl
          rcases List.mem_append.1 hz with h | h
          · exact PAt.grow (hdn z h) hs2
          · rw [List.mem_singleton.1 h]; exact hA2
      repeat (first
        | (refine g_ops ?_; first | refine sO ?_ | refine s_n (fun _ => ?_) | refine s_appB (fun _ _ => ?_) | refine s_app (fun _ _ => ?_) | refine s_b0 (fun _ => ?_) | ((fail_if_success refine g_lit rfl rfl rfl ?_); first | apply g_partM rfl rfl rfl | apply g_partMB rfl rfl rfl | fail))
        | refine gS ?_ | exact s_m | intro _)
      exact gR (⟨ps, oq, oc, H2⟩ : PrX) ⟨hsub.trans hs2, rfl, hpa⟩
end Go.Proofs.YtdldgbbhagpofaaGreatDoor

namespace Go.Proofs.YtdldgbbhagpofaaGreatDoor
open Go.Sl facts
abbrev FD := List UInt8 × List UInt8
def fdat (fs : List Fi) (nm : ByteArray) : Option FD := (fs.find? fun x => decide (x.nm = nm)).map fun x => (x.safe, x.loose)
theorem fdat_append (a b : List Fi) (nm : ByteArray) : fdat (a ++ b) nm = (fdat a nm).or (fdat b nm) := by
  unfold fdat
  rw [List.find?_append]
  cases h : a.find? fun x => decide (x.nm = nm) <;> simp
theorem fdat_cons (x : Fi) (b : List Fi) (nm : ByteArray) : fdat (x :: b) nm = if x.nm = nm then some (x.safe, x.loose) else fdat b nm := by
  unfold fdat
  rw [List.find?_cons]
  by_cases h : x.nm = nm <;> simp [h]
theorem fdat_none {a : List Fi} {nm : ByteArray} (h : ∀ x ∈ a, x.nm ≠ nm) : fdat a nm = none := by
  unfold fdat
  rw [List.find?_eq_none.2 (fun x hx => by simpa using h x hx)]
  rfl
theorem take_ne {fs : List Fi} {nm : ByteArray} {pos : Nat} (hP : PosIs fs nm pos) : ∀ x ∈ fs.take pos, x.nm ≠ nm := fun x hx => by
  obtain ⟨i, hi, rfl⟩ := List.mem_iff_getElem.1 hx
  simp only [List.length_take] at hi
  rw [List.getElem_take]
  intro e
  have := cmpS_neg.1 (hP.lo i (by omega) (by omega))
  rw [e, ltB_irr] at this
  cases this
theorem fdat_no {fs : List Fi} {nm : ByteArray} {pos : Nat} (hS : SortF fs) (hP : PosIs fs nm pos) (hf : foundB fs nm pos = false) : fdat fs nm = none := by
  refine fdat_none fun x hx e => ?_
  obtain ⟨i, hi, rfl⟩ := List.mem_iff_getElem.1 hx
  obtain ⟨hP2, hF2⟩ := hS.at hi
  rw [e] at hP2 hF2
  have : pos = i := by
    rcases Nat.lt_trichotomy pos i with h | h | h
    · have h1 := hP2.lo pos (by omega) h
      exact absurd h1 (hP.hi pos (by omega) (Nat.le_refl _))
    · exact h
    · have h1 := hP.lo i hi h
      exact absurd h1 (hP2.hi i hi (Nat.le_refl _))
  subst this
  rw [hf] at hF2
  cases hF2
theorem fdat_yes {fs : List Fi} {nm : ByteArray} {pos : Nat} (hP : PosIs fs nm pos) (hlt : pos < fs.length) (hf : foundB fs nm pos = true) : fdat fs nm = some (fs[pos].safe, fs[pos].loose) := by
  conv => lhs; rw [split_at fs pos hlt]
  rw [fdat_append, fdat_none (take_ne hP), fdat_cons, if_pos (found_nm hf hlt)]
  rfl
theorem fdat_ins {fs : List Fi} {x : Fi} {pos : Nat} (hP : PosIs fs x.nm pos) (nm : ByteArray) : fdat (ins fs pos x) nm = if nm = x.nm then some (x.safe, x.loose) else fdat fs nm := by
  unfold ins
  rw [fdat_append, fdat_cons]
  by_cases h : nm = x.nm
  · subst h
    rw [fdat_none (take_ne hP), if_pos rfl, if_pos rfl]
    rfl
  · rw [if_neg (Ne.symm h), if_neg h, ← fdat_append, List.take_append_drop]
theorem fdat_upd {fs : List Fi} {x : Fi} {nm0 : ByteArray} {pos : Nat} (hP : PosIs fs nm0 pos) (hlt : pos < fs.length) (hx : x.nm = nm0) (hf : fs[pos].nm = nm0) (nm : ByteArray) : fdat (upd fs pos x) nm = if nm = nm0 then some (x.safe, x.loose) else fdat fs nm := by
  subst hx
  unfold upd
  by_cases h : nm = x.nm
  · subst h
    rw [fdat_append, fdat_cons, fdat_none (take_ne hP), if_pos rfl, if_pos rfl]
    rfl
  · rw [if_neg h]
    conv => rhs; rw [split_at fs pos hlt]
    rw [fdat_append, fdat_cons, fdat_append, fdat_cons, if_neg (Ne.symm h), if_neg (by rw [hf]; exact Ne.symm h)]
def fall (fs : List Fi) (nm : ByteArray) : List UInt8 := match fdat fs nm with | some (a, b) => a ++ b | none => []
structure DkX where
  q : Option Addr
  c : Nat
  fs : List Fi
structure Put1 (nm : ByteArray) (l : List UInt8) (fs gs : List Fi) : Prop where
  sort : SortF gs
  used : used gs = used fs + l.length
  len : gs.length ≤ fs.length + 1
  at_ : fdat gs nm = some (match fdat fs nm with | some (a, b) => (a, b ++ l) | none => ([], l))
  else_ : ∀ nm', nm' ≠ nm → fdat gs nm' = fdat fs nm'
structure Syn1 (nm : ByteArray) (fs gs : List Fi) : Prop where
  sort : SortF gs
  used : Go.Proofs.YtdldgbbhagpofaaGreatDoor.used gs = Go.Proofs.YtdldgbbhagpofaaGreatDoor.used fs
  len : gs.length = fs.length
  at_ : fdat gs nm = some (fall fs nm, [])
  else_ : ∀ nm', nm' ≠ nm → fdat gs nm' = fdat fs nm'
attribute [local irreducible] Code.wp wpList Exit.then Exit.inBlock bodyPost Back MidQ G GP QStep VStep CStep SStep Does Post Reads
theorem appendS (d : Nat) (room : Int) (q : Option Addr) (c : Nat) (ops ct : Int) (h : Cnt ops ct) (h1 : ct ≠ 1) (fs : List Fi) (hS : SortF fs) (nm : ByteArray) (hn0 : 0 < nm.size) (hn1 : nm.size ≤ 100) (hn : fs.length ≤ 1000) (hr0 : 0 ≤ room ∧ room ≤ 8388608) (hu : used fs ≤ 100000000) {C : Chunk} {p : Option Addr} {l : List UInt8} (cap : Nat) (hB : BtAt C p l) (hl : l.length ≤ 1000000) (hfit : (l.length : Int) ≤ room - used fs) :
    Does Tryz.prog 49 [ptr d, .string nm, .slice p l.length cap] (bagL d room ops ct q c fs [C]) (X := DkX) (fun _ => int 0) (fun y => bagL d room (ops + 1) (cutN ct) y.q y.c y.fs [C]) (fun y => Put1 nm l fs y.fs) := by
  obtain ⟨pos, hP⟩ := hS.pos nm
  cases hfd : foundB fs nm pos with
  | false =>
    refine does_map (fun x : AX => ⟨x.q, x.c, ins fs pos x.x⟩) (take_all _) (fun _ _ => rfl) (fun _ _ _ _ h => h) (fun x hx => ?_) (append_add d room q c ops ct h h1 fs nm pos hn0 hn1 (by omega) hP hr0 hu cap (btAt_slAt hB) hl hfd hfit)
    obtain ⟨e1, e2, e3⟩ := hx
    subst e1
    refine ⟨sort_ins hS hP hfd, ?_, ?_, ?_, fun nm' h' => ?_⟩
    · dsimp only; rw [used_ins, e2, e3]; simp
    · dsimp only; rw [ins_len _ _ _ hP.le]; exact Nat.le_refl _
    · dsimp only; rw [fdat_ins hP, if_pos rfl, fdat_no hS hP hfd, e2, e3]
    · dsimp only; rw [fdat_ins hP, if_neg h']
  | true =>
    have hlt := found_lt hfd
    refine does_map (fun x : Fi => ⟨q, c, upd fs pos x⟩) (take_all _) (fun _ _ => rfl) (fun Γ x w _ h => ?_) (fun x hx => ?_) (append_to d room q c ops ct h h1 fs nm pos hn0 hn1 (by omega) hP hr0 hu cap (btAt_slAt hB) hl hfd hlt hfit)
    · exact h
    · obtain ⟨e1, e2, e3⟩ := hx
      have e4 := found_nm hfd hlt
      refine ⟨sort_upd hS hlt e1, ?_, ?_, ?_, fun nm' h' => ?_⟩
      · dsimp only
        have := used_upd fs pos x hlt
        rw [e2, e3, List.length_append] at this
        omega
      · dsimp only; rw [upd_len _ _ _ hlt]; omega
      · dsimp only; rw [fdat_upd hP hlt (e1.trans e4) e4, if_pos rfl, fdat_yes hP hlt hfd, e2, e3]
      · dsimp only; rw [fdat_upd hP hlt (e1.trans e4) e4, if_neg h']
theorem fdat_found {fs : List Fi} {nm : ByteArray} {pos : Nat} (hS : SortF fs) (hP : PosIs fs nm pos) {y : FD} (h : fdat fs nm = some y) : foundB fs nm pos = true := by
  cases hf : foundB fs nm pos with
  | true => rfl
  | false => rw [fdat_no hS hP hf] at h; cases h
theorem syncS (d : Nat) (room : Int) (q : Option Addr) (c : Nat) (ops ct : Int) (h : Cnt ops ct) (h1 : ct ≠ 1) (fs : List Fi) (hS : SortF fs) (nm : ByteArray) (hn : fs.length ≤ 1001) (hu : used fs ≤ 100000000) (y : FD) (hy : fdat fs nm = some y) :
    Does Tryz.prog 39 [ptr d, .string nm] (bagL d room ops ct q c fs []) (X := DkX) (fun _ => int 0) (fun y => bagL d room (ops + 1) (cutN ct) y.q y.c y.fs []) (fun y => Syn1 nm fs y.fs) := by
  obtain ⟨pos, hP⟩ := hS.pos nm
  have hfd := fdat_found hS hP hy
  have hlt := found_lt hfd
  refine does_map (fun x : Fi => ⟨q, c, upd fs pos x⟩) (take_all _) (fun _ _ => rfl) (fun Γ x w hx h => ?_) (fun x hx => ?_) (sync_g d room q c ops ct h h1 fs nm pos (by omega) hP hu hfd hlt)
  · exact h
  · obtain ⟨e1, e2, e3⟩ := hx
    have e4 := found_nm hfd hlt
    have hall : fall fs nm = fs[pos].safe ++ fs[pos].loose := by unfold fall; rw [fdat_yes hP hlt hfd]
    refine ⟨sort_upd hS hlt e1, ?_, ?_, ?_, fun nm' h' => ?_⟩
    · dsimp only
      have := used_upd fs pos x hlt
      rw [e2, e3, List.length_append, List.length_nil] at this
      omega
    · dsimp only; rw [upd_len _ _ _ hlt]
    · dsimp only; rw [fdat_upd hP hlt (e1.trans e4) e4, if_pos rfl, hall, e2, e3]
    · dsimp only; rw [fdat_upd hP hlt (e1.trans e4) e4, if_neg h']
end Go.Proofs.YtdldgbbhagpofaaGreatDoor

namespace Go.Proofs.YtdldgbbhagpofaaGreatDoor
open Go.Sl facts
structure Wr (nm : ByteArray) (l : List UInt8) (fs gs : List Fi) : Prop where
  sort : SortF gs
  used : Go.Proofs.YtdldgbbhagpofaaGreatDoor.used gs = Go.Proofs.YtdldgbbhagpofaaGreatDoor.used fs + l.length
  len : gs.length ≤ fs.length + 1
  at_ : fdat gs nm = some (fall fs nm ++ l, [])
  else_ : ∀ nm', nm' ≠ nm → fdat gs nm' = fdat fs nm'
theorem Wr.of {nm : ByteArray} {l : List UInt8} {fs gs hs : List Fi} (h1 : Put1 nm l fs gs) (h2 : Syn1 nm gs hs) : Wr nm l fs hs := by
  refine ⟨h2.sort, by rw [h2.used, h1.used], by rw [h2.len]; exact h1.len, ?_, fun nm' h => by rw [h2.else_ nm' h, h1.else_ nm' h]⟩
  rw [h2.at_]
  unfold fall
  rw [h1.at_]
  cases fdat fs nm with
  | none => rfl
  | some y => obtain ⟨a, b⟩ := y; simp
def recB (l : List BV) : List UInt8 := (l.map fun r => frameB r.l).flatten
def partB (z : PV) : List UInt8 := (if z.fresh then frameB (vb z.first) else []) ++ recB z.l
theorem recB_take (l : List BV) (i : Nat) (h : i < l.length) : recB (l.take (i + 1)) = recB (l.take i) ++ frameB l[i].l := by
  unfold recB
  rw [List.take_add_one, List.getElem?_eq_getElem h, List.map_append, List.flatten_append]
  simp
theorem recB_len (l : List BV) : (recB l).length = sumL l + 8 * l.length := by
  induction l with
  | nil => rfl
  | cons r l ih =>
    have e : recB (r :: l) = frameB r.l ++ recB l := rfl
    have e2 : sumL (r :: l) = r.l.length + sumL l := by unfold sumL; simp
    rw [e, List.length_append, ih, frameB_len, e2, List.length_cons]
    omega
theorem rec_0 (l : List BV) : recB (l.take 0) = [] := rfl
theorem rec_le (l : List BV) (i : Nat) : (recB (l.take i)).length ≤ (recB l).length := by
  rw [recB_len, recB_len]
  have := sumL_take_le l i
  rw [List.length_take]
  omega
structure WrX where
  i : Nat
  q : Option Addr
  c : Nat
attribute [local irreducible] Code.wp wpList Exit.then Exit.inBlock bodyPost Back MidQ G GP QStep VStep CStep SStep Does Post Reads
attribute [local irreducible] frameB recB
theorem write_ {H : HP} (lg d : Nat) (x : LG) (off : Bool) (room : Int) (q : Option Addr) (c : Nat) (ops ct : Int) (h : Cnt (ops + 1) (cutN ct)) (hc0 : Cnt ops ct) (hct : ct = 0) (fs : List Fi) (hS : SortF fs) (hn : fs.length ≤ 999) (hr0' : 0 ≤ room ∧ room ≤ 8388608) (hu : used fs ≤ 10000000)
    (z : PV) (hz : z.file < 100) (hz1 : z.first ≤ 1000000000) (hP : PAt H z) (hB : BtsAt H z.l) (hbl : ∀ r ∈ z.l, r.l.length ≤ 131072) (hzl : z.l.length ≤ 1000) (hpl : (partB z).length ≤ 1000000) (hfit : ((partB z).length : Int) ≤ room - used fs) :
    Does Tryz.prog 29 [ptr lg, z.v] (x.row lg d off :: bagL d room ops ct q c fs [Pile H]) (X := DkX) (fun _ => int 0) (fun y => x.row lg d off :: bagL d room (ops + 2) ct y.q y.c y.fs [Pile H]) (fun y => Wr (nmB z.file) (partB z) fs y.fs) := by
  obtain ⟨rq, rc, xs, fq, fc, fs', size, sl⟩ := x
  dsimp only [LG.row]
  have hnm := nm_size z.file hz
  have hpe : partB z = (if z.fresh then frameB (vb z.first) else []) ++ recB z.l := rfl
  refine fn_intro Tryz.func29 rfl Tryz.ntmps29 rfl (by simp only [argFr, Nat.zero_add, Nat.reduceAdd]; rfl) (fun Γ => ?_)
  repeat (first
    | (refine g_ops ?_; first | refine sO ?_ | refine s_n (fun _ => ?_) | refine s_appB (fun _ _ => ?_) | refine s_app (fun _ _ => ?_) | refine s_b0 (fun _ => ?_) | ((fail_if_success refine g_lit rfl rfl rfl ?_); first | apply g_partM rfl rfl rfl | apply g_partMB rfl rfl rfl | fail))
    | refine gS ?_ | exact s_m | intro _)
  rename_i bx
  refine g_cutX (X := OA) (fun y => [(0, ptr lg), (3, ptr bx), (5, .slice y.1 (if z.fresh then frameB (vb z.first) else []).length y.2)])
    (fun y => .own y.1 (if z.fresh then frameB (vb z.first) else []).length y.2 1 (cells8 (if z.fresh then frameB (vb z.first) else [])) 5 :: .row bx z.cells 63 :: lrow lg d (.slice rq xs.length rc) (.slice fq fs'.length fc) size sl off :: bagL d room ops ct q c fs [Pile H]) (fun _ => True) ?_ (fun y _ => ?_)
  · cases hfr : z.fresh with
    | false =>
      refine g_own_nil none 1 5 ?_
      repeat (first
        | (refine g_ops ?_; first | refine sO ?_ | refine s_n (fun _ => ?_) | refine s_appB (fun _ _ => ?_) | refine s_app (fun _ _ => ?_) | refine s_b0 (fun _ => ?_) | ((fail_if_success refine g_lit rfl rfl rfl ?_); first | apply g_partM rfl rfl rfl | apply g_partMB rfl rfl rfl | fail))
        | refine gS ?_ | exact s_m | intro _)
      exact gM ((none, 0) : OA) trivial
    | true =>
      repeat (first
        | (refine g_ops ?_; first | refine sO ?_ | refine s_n (fun _ => ?_) | refine s_appB (fun _ _ => ?_) | refine s_app (fun _ _ => ?_) | refine s_b0 (fun _ => ?_) | ((fail_if_success refine g_lit rfl rfl rfl ?_); first | apply g_partM rfl rfl rfl | apply g_partMB rfl rfl rfl | fail))
        | refine gS ?_ | exact s_m | intro _)
      refine s_q (q := by exact qs_convInt rfl) ?_
      refine g_as 16 (v' := .int .u64 ((z.first : Nat) : Int)) rfl (congrArg (Value.int .u64) (by rw [u64_mod]; omega)) ?_
      have hv := varint z.first (by omega)
      repeat (first
        | (refine g_ops ?_; first | refine sO ?_ | refine s_n (fun _ => ?_) | refine s_appB (fun _ _ => ?_) | refine s_app (fun _ _ => ?_) | refine s_b0 (fun _ => ?_) | ((fail_if_success refine g_lit rfl rfl rfl ?_); first | apply g_partM rfl rfl rfl | apply g_partMB rfl rfl rfl | fail) | refine s_c (hv) (fun _ _ => ?_))
        | refine gS ?_ | exact s_m | intro _)
      rename_i yv _
      obtain ⟨vp, vc⟩ := yv
      dsimp only [List.cons_append, List.nil_append]
      refine g_own (p := vp) (len := (vb z.first).length) (cap := vc) (n := 1) (xs := cells8 (vb z.first)) (e := 5) (by (repeat (first | exact Sel.here | apply Sel.there)); first | done | fail) (fun _ _ hq => ?_)
      have hvl := vb_len10 z.first (by omega)
      have hf := fPut (.own vp (vb z.first).length vc 1 (cells8 (vb z.first)) 5) vp (vb z.first) vc (btAt_own hq rfl) (by omega)
      repeat (first
        | (refine g_ops ?_; first | refine sO ?_ | refine s_n (fun _ => ?_) | refine s_appB (fun _ _ => ?_) | refine s_app (fun _ _ => ?_) | refine s_b0 (fun _ => ?_) | ((fail_if_success refine g_lit rfl rfl rfl ?_); first | apply g_partM rfl rfl rfl | apply g_partMB rfl rfl rfl | fail) | refine s_c (hf) (fun _ _ => ?_))
        | refine gS ?_ | exact s_m | intro _)
      rename_i yf _
      obtain ⟨fp, fcc⟩ := yf
      dsimp only [List.cons_append, List.nil_append]
      exact gM ((fp, fcc) : OA) trivial
  · generalize hB0 : (if z.fresh = true then frameB (vb z.first) else []) = B0 at *
    obtain ⟨q0, c0⟩ := y
    dsimp only
    repeat (first
      | (refine g_ops ?_; first | refine sO ?_ | refine s_n (fun _ => ?_) | refine s_appB (fun _ _ => ?_) | refine s_app (fun _ _ => ?_) | refine s_b0 (fun _ => ?_) | ((fail_if_success refine g_lit rfl rfl rfl ?_); first | apply g_partM rfl rfl rfl | apply g_partMB rfl rfl rfl | fail))
      | refine gS ?_ | exact s_m | intro _)
    refine g_as 24 (v' := int ((0 : Nat) : Int)) rfl rfl ?_
    refine g_loop (X := WrX) (fun y => [(0, ptr lg), (3, ptr bx), (5, .slice y.q (B0 ++ recB (z.l.take y.i)).length y.c), (22, .slice z.p z.l.length z.c), (23, int z.l.length), (24, int y.i)])
      (fun y => .own y.q (B0 ++ recB (z.l.take y.i)).length y.c 1 (cells8 (B0 ++ recB (z.l.take y.i))) 5 :: .row bx z.cells 63 :: lrow lg d (.slice rq xs.length rc) (.slice fq fs'.length fc) size sl off :: bagL d room ops ct q c fs [Pile H]) (fun y => y.i ≤ z.l.length) (fun y => z.l.length - y.i) ⟨0, q0, c0⟩ (Nat.zero_le _) (by rw [rec_0, List.append_nil]; exact ((by (repeat (first | exact FrSub.nil | refine FrSub.cons rfl ?_)); first | done | fail))) (by rw [rec_0, List.append_nil]; exact ((by (repeat (first | exact Take.nil | apply Take.cons | exact Sel.here | apply Sel.there)); first | done | fail))) (fun y hy => ?_)
    obtain ⟨i, q1, c1⟩ := y
    dsimp only at hy ⊢
    repeat (first
      | (refine g_ops ?_; first | refine sO ?_ | refine s_n (fun _ => ?_) | refine s_appB (fun _ _ => ?_) | refine s_app (fun _ _ => ?_) | refine s_b0 (fun _ => ?_) | ((fail_if_success refine g_lit rfl rfl rfl ?_); first | apply g_partM rfl rfl rfl | apply g_partMB rfl rfl rfl | fail))
      | refine gS ?_ | exact s_m | intro _)
    refine g_cond_dec rfl (fun h5 => ?_) (fun h5 => ?_)
    · have hi' : i < z.l.length := by omega
      obtain ⟨rb, ro, hzp, hrow⟩ := slAt_cell hP (i := i) (v := (z.l[i]).v) (by simp [hi'])
      have hst := recB_take z.l i hi'
      have hbt := hB z.l[i] (List.getElem_mem hi')
      have hbn := hbl z.l[i] (List.getElem_mem hi')
      have hlen : (B0 ++ recB (z.l.take i)).length ≤ 1000000 := by
        have : (recB (z.l.take i)).length ≤ (recB z.l).length := rec_le z.l i
        rw [hpe, List.length_append] at hpl
        rw [List.length_append]; omega
      generalize hr0 : z.l[i] = r at hrow hst hbt hbn
      rw [hzp]
      have hr : ∀ k, k = i → Reads (Pile H) ⟨rb, ro + k, none⟩ r.v := fun k hk => by rw [hk]; exact hrow
      have hf := fPut (Pile H) r.p r.l r.c hbt (by omega)
      have hfl := frameB_len r.l
      have hsn : B0 ++ recB (z.l.take (i + 1)) = (B0 ++ recB (z.l.take i)) ++ frameB r.l := by rw [hst, List.append_assoc]
      generalize B0 ++ recB (z.l.take i) = b1 at *
      repeat (first
        | (refine g_ops ?_; first | refine sO ?_ | refine s_n (fun _ => ?_) | refine s_appB (fun _ _ => ?_) | refine s_app (fun _ _ => ?_) | refine s_b0 (fun _ => ?_) | ((fail_if_success refine g_lit rfl rfl rfl ?_); first | apply g_partM rfl rfl rfl | apply g_partMB rfl rfl rfl | fail) | refine s_c (hf) (fun _ _ => ?_))
        | refine gS ?_ | exact s_m | intro _)
      rename_i yf _ q' c'
      rw [← hsn]
      refine g_as 24 (v' := int ((i + 1 : Nat) : Int)) rfl (congrArg (Value.int .i64) (by push_cast; rfl)) ?_
      exact gA ⟨i + 1, q', c'⟩ (by simp only; omega) hi'
    · obtain rfl : i = z.l.length := by omega
      rw [List.take_length, ← hpe]
      subst hct
      have hpl2 := hpl
      generalize hpb : partB z = pb at *
      repeat (first
        | (refine g_ops ?_; first | refine sO ?_ | refine s_n (fun _ => ?_) | refine s_appB (fun _ _ => ?_) | refine s_app (fun _ _ => ?_) | refine s_b0 (fun _ => ?_) | ((fail_if_success refine g_lit rfl rfl rfl ?_); first | apply g_partM rfl rfl rfl | apply g_partMB rfl rfl rfl | fail))
        | refine gS ?_ | exact s_m | intro _)
      refine g_own (p := q1) (len := pb.length) (cap := c1) (n := 1) (xs := cells8 pb) (e := 5) (by (repeat (first | exact Sel.here | apply Sel.there)); first | done | fail) (fun _ _ hq => ?_)
      have happ := appendS d room q c ops 0 hc0 (by decide) fs hS (nmB z.file) hnm.2 (by omega) (by omega) hr0' (by omega) (C := .own q1 pb.length c1 1 (cells8 pb) 5) c1 (btAt_own hq rfl) hpl hfit
      have hsn := sname z.file hz
      refine g_draw (id := 10) (C := [.row bx z.cells 63, lrow lg d (.slice rq xs.length rc) (.slice fq fs'.length fc) size sl off]) (.take 0 (.take 1 (.take 2 (.see 3 [8,9] (.take 4 (.see 5 [6,8,9] (.see 6 [8,9] (.take 7 (.thaw 8 (.take 9 .done)))))))))) (by kernel_rfl) (by (repeat (first | exact Take.nil | apply Take.cons | exact Sel.here | apply Sel.there)); first | done | fail) (fun k hd hk => ?_)
      repeat (first
        | (refine gp_take ?_; first | refine pT ?_ | ((fail_if_success refine gp_lit rfl rfl rfl rfl ?_); first | apply gp_guard_dec rfl rfl rfl rfl | apply gp_guard rfl rfl rfl rfl | fail) | refine p_p (hsn) ?_)
        | (refine gp_see ?_; first | refine p_f ?_ | refine pS ?_ | ((fail_if_success refine gp_lit rfl rfl rfl rfl ?_); first | apply gp_guard_dec rfl rfl rfl rfl | apply gp_guard rfl rfl rfl rfl | fail) | refine p_sp (hsn) ?_)
        | (refine gp_one ?_; first | refine pO ?_ | refine p_n (fun _ => ?_) | refine p_appB (fun _ _ => ?_) | refine p_app (fun _ _ => ?_) | refine p_b0 (fun _ => ?_) | ((fail_if_success refine gp_lit rfl rfl rfl rfl ?_); first | apply gp_guard_dec rfl rfl rfl rfl | apply gp_guard rfl rfl rfl rfl | fail))
        | refine gp_two ?_ ?_ | refine gp_done hd hk ?_ | intro _ | refine p_tc (happ) hd hk (fun _ _ _ hd hk => ?_) | refine p_ta hd hk (fun _ _ _ hd hk => ?_) | refine p_ts hd hk (fun _ hd hk => ?_))
      rename_i y1 m1 hput
      obtain ⟨q2, c2, gs⟩ := y1
      dsimp only [List.cons_append, List.nil_append] at hput ⊢
      have hct2 : cutN 0 = 0 := by decide
      have hsy := syncS d room q2 c2 (ops + 1) (cutN 0) h (by decide) gs hput.sort (nmB z.file) (by have := hput.len; omega) (by have := hput.used; omega) _ hput.at_
      repeat (first
        | (refine g_ops ?_; first | refine sO ?_ | refine s_n (fun _ => ?_) | refine s_appB (fun _ _ => ?_) | refine s_app (fun _ _ => ?_) | refine s_b0 (fun _ => ?_) | ((fail_if_success refine g_lit rfl rfl rfl ?_); first | apply g_partM rfl rfl rfl | apply g_partMB rfl rfl rfl | fail))
        | refine gS ?_ | exact s_m | intro _)
      refine g_draw (id := 13) (C := [.row bx z.cells 63, lrow lg d (.slice rq xs.length rc) (.slice fq fs'.length fc) size sl off]) (.take 0 (.take 1 (.take 2 (.see 3 [7,8] (.take 4 (.see 5 [6,7,8] (.see 6 [7,8] (.thaw 7 (.take 8 .done))))))))) (by kernel_rfl) (by (repeat (first | exact Take.nil | apply Take.cons | exact Sel.here | apply Sel.there)); first | done | fail) (fun k hd hk => ?_)
      repeat (first
        | (refine gp_take ?_; first | refine pT ?_ | ((fail_if_success refine gp_lit rfl rfl rfl rfl ?_); first | apply gp_guard_dec rfl rfl rfl rfl | apply gp_guard rfl rfl rfl rfl | fail) | refine p_p (hsn) ?_)
        | (refine gp_see ?_; first | refine p_f ?_ | refine pS ?_ | ((fail_if_success refine gp_lit rfl rfl rfl rfl ?_); first | apply gp_guard_dec rfl rfl rfl rfl | apply gp_guard rfl rfl rfl rfl | fail) | refine p_sp (hsn) ?_)
        | (refine gp_one ?_; first | refine pO ?_ | refine p_n (fun _ => ?_) | refine p_appB (fun _ _ => ?_) | refine p_app (fun _ _ => ?_) | refine p_b0 (fun _ => ?_) | ((fail_if_success refine gp_lit rfl rfl rfl rfl ?_); first | apply gp_guard_dec rfl rfl rfl rfl | apply gp_guard rfl rfl rfl rfl | fail))
        | refine gp_two ?_ ?_ | refine gp_done hd hk ?_ | intro _ | refine p_tc (hsy) hd hk (fun _ _ _ hd hk => ?_) | refine p_ta hd hk (fun _ _ _ hd hk => ?_) | refine p_ts hd hk (fun _ hd hk => ?_))
      rename_i y2 m2 hsyn
      obtain ⟨q3, c3, hs3⟩ := y2
      dsimp only [List.cons_append, List.nil_append] at hsyn ⊢
      rw [hct2, hct2, show ops + 1 + 1 = ops + 2 by omega]
      repeat (first
        | (refine g_ops ?_; first | refine sO ?_ | refine s_n (fun _ => ?_) | refine s_appB (fun _ _ => ?_) | refine s_app (fun _ _ => ?_) | refine s_b0 (fun _ => ?_) | ((fail_if_success refine g_lit rfl rfl rfl ?_); first | apply g_partM rfl rfl rfl | apply g_partMB rfl rfl rfl | fail))
        | refine gS ?_ | exact s_m | intro _)
      exact gR (⟨q3, c3, hs3⟩ : DkX) (Wr.of hput hsyn)
end Go.Proofs.YtdldgbbhagpofaaGreatDoor
