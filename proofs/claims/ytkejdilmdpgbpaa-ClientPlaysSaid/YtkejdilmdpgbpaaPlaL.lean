/- Contracts at the law: Take of both, what it leads to in one word; Feed. -/
import Derived.Test.YtkejdilmdpgbpaaPlaK
set_option linter.unusedSimpArgs false
set_option linter.unusedVariables false
namespace Go.Proofs.Ytkejdilmdpgbpaa
open Go.Sl facts
def nxS (pb : Bool) (c0 : Cur) (s : Cl) (r : RepV) : Cl := ⟨s.last, tokOf s r, if moves pb c0 s r = true then r.cur else s.cur⟩
def nxF (pb : Bool) (c0 : Cur) (s : Cl) (r : Rp) (fs : List Ev) : List Ev := fs ++ if moves pb c0 s r.v = true then r.evs else []
theorem nxF_len (pb : Bool) (c0 : Cur) (s : Cl) (r : Rp) (fs : List Ev) : (nxF pb c0 s r fs).length ≤ fs.length + r.evs.length := by
  unfold nxF
  split
  · rw [List.length_append]; exact Nat.le_refl _
  · rw [List.append_nil]; exact Nat.le_add_right _ _
theorem fold_eq {ps : List Po} {num : Int} {pb : Bool} {c0 : Cur} (h : Mt ps num pb c0) (s : Cl) (r : Rp) (fs : List Ev) : ps.foldl (plyF num r.v r.evs) (s.cur, fs) = ((nxS pb c0 s r.v).cur, nxF pb c0 s r fs) := by
  rw [h r.v r.evs (s.cur, fs)]
  unfold nxS nxF
  by_cases e : moves pb c0 s r.v = true
  · rw [if_pos e, if_pos e, if_pos (show (pb && (sameC c0 (s.cur, fs).1 && decide (r.v.code = 0))) = true from e)]
  · rw [if_neg e, if_neg e, if_neg (show ¬ (pb && (sameC c0 (s.cur, fs).1 && decide (r.v.code = 0))) = true from e), List.append_nil]
theorem repliesQ (b : Nat) (s : Cl) (mp : Option Nat) (fp : Option Addr) (fl fc : Nat) (rp : Option Addr) (rc : Nat) (as_ : List Ans) (hal : as_.length ≤ 1000000000) {H : HP} (hA : ∀ a ∈ as_, RpAt (Pile H) a.r) (n : Nat) (hn : as_.length = n) :
    Does Try.prog 19 [ptr b] [clr b s mp fp fl fc rp as_.length rc, .own rp as_.length rc 15 (as_.flatMap Ans.cells) 74, Pile H] (X := RpY) (fun y => .slice y.q n y.c)
      (fun y => [.own y.q n y.c 15 (y.o.flatMap Ans.cells) 74, clr b s mp fp fl fc rp as_.length rc, .own rp as_.length rc 15 (as_.flatMap Ans.cells) 74, Pile y.H])
      (fun y => HP.sub H y.H ∧ (∀ a ∈ y.o, RpAt (Pile y.H) a.r) ∧ y.o.map Ans.d = as_.map Ans.d ∧ y.o.length = n) := fun Γ w hh => by
  refine (replies_ b s mp fp fl fc rp rc as_ hal hA Γ w hh).mono ?_
  rintro e w' ⟨y, ⟨hs, ho, hd⟩, he, hB⟩
  have hl : y.o.length = n := by rw [← hn]; simpa using congrArg List.length hd
  dsimp only at he hB
  rw [hl] at he hB
  exact ⟨y, ⟨hs, ho, hd, hl⟩, he, hB⟩
attribute [local irreducible] Code.wp wpList Exit.then Exit.inBlock bodyPost Back MidQ G GP QStep VStep CStep SStep Does Post Reads
theorem takeP (b : Nat) (s : Cl) (m : Nat) (M : List (Int × Value)) (fp : Option Addr) (fc : Nat) (fs : List Ev) (rp : Option Addr) (rc : Nat) (as_ : List Ans) (num : Int) {H : HP} (r : Rp) (hr : RpAt (Pile H) r) (pb : Bool) (c0 : Cur)
    (hq : mget M num = some (askV pb c0)) (hfl : fs.length ≤ 1000000000) (hal : as_.length ≤ 1000000000) :
    Does Try.prog 9 [ptr b, int num, .agg r.cells.toArray] (Pile H :: [clr b s (some m) fp fs.length fc rp as_.length rc, .map m M, .own fp fs.length fc 7 (fs.flatMap Ev.cells) 53, .own rp as_.length rc 15 (as_.flatMap Ans.cells) 74]) (X := TaX) (fun _ => .bool true)
      (fun y => Pile y.H :: [clr b (nxS pb c0 s r.v) (some m) y.fp (nxF pb c0 s r fs).length y.fc y.rp (as_ ++ [(⟨num, y.r⟩ : Ans)]).length y.rc, .map m (mdel M num), .own y.fp (nxF pb c0 s r fs).length y.fc 7 ((nxF pb c0 s r fs).flatMap Ev.cells) 53,
        .own y.rp (as_ ++ [(⟨num, y.r⟩ : Ans)]).length y.rc 15 ((as_ ++ [(⟨num, y.r⟩ : Ans)]).flatMap Ans.cells) 74])
      (fun y => HP.sub H y.H ∧ RpAt (Pile y.H) y.r ∧ y.r.v = r.v ∧ y.r.evs = r.evs) :=
  does_perm (by (repeat (first | exact Take.nil | apply Take.cons | exact Sel.here | apply Sel.there)); first | done | fail) (fun _ => ⟨_, (by (repeat (first | exact Take.nil | apply Take.cons | exact Sel.here | apply Sel.there)); first | done | fail)⟩) (take_ b s m M fp fc fs rp rc as_ num r hr pb c0 hq hfl hal)
theorem rtakeP (b : Nat) (s : Cl) (fp : Option Addr) (fc : Nat) (fs : List Ev) (rp : Option Addr) (rc : Nat) (as_ : List Ans) (pp : Option Addr) (pc : Nat) (ps : List Po) (tp : Option Addr) (tc : Nat) (ts : List Int) (num : Int) {H : HP} (r : Rp) (hr : RpAt (Pile H) r)
    (hfS : SlAt (Pile H) 7 fp fs.length (fs.flatMap Ev.cells)) (hyes : 1 ≤ num ∧ num ≤ s.last ∧ num ∉ ts) (hal : as_.length ≤ 1000000000) (hpl : ps.length ≤ 10000) (htl : ts.length ≤ 1000000000) (hfl : fs.length ≤ 10000000) (hel : r.evs.length ≤ 10000) (pb : Bool) (c0 : Cur) (hmt : Mt ps num pb c0) :
    Does Try.prog 23 [ptr b, int num, .agg r.cells.toArray] (Pile H :: [rrow b s fp fs.length fc rp as_.length rc pp ps.length pc tp ts.length tc, .own rp as_.length rc 15 (as_.flatMap Ans.cells) 74, .own pp ps.length pc 6 (ps.flatMap Po.cells) 85, .own tp ts.length tc 1 (ts.map int) 3]) (X := RtX) (fun _ => .bool true)
      (fun y => Pile y.H :: [rrow b (nxS pb c0 s r.v) y.fp (nxF pb c0 s r fs).length y.fc y.rp (as_ ++ [(⟨num, r⟩ : Ans)]).length y.rc pp ps.length pc y.tp (ts ++ [num]).length y.tc, .own y.rp (as_ ++ [(⟨num, r⟩ : Ans)]).length y.rc 15 ((as_ ++ [(⟨num, r⟩ : Ans)]).flatMap Ans.cells) 74, .own pp ps.length pc 6 (ps.flatMap Po.cells) 85, .own y.tp (ts ++ [num]).length y.tc 1 ((ts ++ [num]).map int) 3])
      (fun y => HP.sub H y.H ∧ SlAt (Pile y.H) 7 y.fp (nxF pb c0 s r fs).length ((nxF pb c0 s r fs).flatMap Ev.cells)) := by
  have hB : ∀ j, j ≤ ps.length → ((ps.take j).foldl (plyF num r.v r.evs) (s.cur, fs)).2.length ≤ 1000000000 := fun j hj => by
    refine Nat.le_trans (fold_len 10000 hel _ _) ?_
    have h1 : (ps.take j).length ≤ 10000 := Nat.le_trans (List.length_take_le _ _) (by omega)
    have h2 : (ps.take j).length * 10000 ≤ 10000 * 10000 := Nat.mul_le_mul_right _ h1
    dsimp only
    omega
  have h := rtake_ b s fp fc fs rp rc as_ pp pc ps tp tc ts num r hr hfS hyes hal (by omega) htl hB
  rw [fold_eq hmt s r fs, tok_eq] at h
  exact does_perm (by (repeat (first | exact Take.nil | apply Take.cons | exact Sel.here | apply Sel.there)); first | done | fail) (fun _ => ⟨_, (by (repeat (first | exact Take.nil | apply Take.cons | exact Sel.here | apply Sel.there)); first | done | fail)⟩) h
theorem feedQ (b : Nat) (s : Cl) (mp : Option Nat) (fp : Option Addr) (fc : Nat) (fs : List Ev) (rp : Option Addr) (rl rc : Nat) (hl : fs.length ≤ 1000000000) : Does Try.prog 11 [ptr b] [clr b s mp fp fs.length fc rp rl rc, .own fp fs.length fc 7 (fs.flatMap Ev.cells) 53] (X := Option Addr × Nat) (fun q => .slice q.1 fs.length q.2)
    (fun q => [.own q.1 fs.length q.2 7 (fs.flatMap Ev.cells) 53, clr b s mp fp fs.length fc rp rl rc, .own fp fs.length fc 7 (fs.flatMap Ev.cells) 53]) (fun q => 0 < fs.length → ∃ d, q.1 = some ⟨d, 0, none⟩) := by
  refine fn_intro Try.func11 rfl Try.ntmps11 rfl (by simp only [argFr, Nat.zero_add, Nat.reduceAdd]; rfl) (fun Γ => ?_)
  refine g_own (p := fp) (len := fs.length) (cap := fc) (n := 7) (xs := fs.flatMap Ev.cells) (e := 53) (by (repeat (first | exact Sel.here | apply Sel.there)); first | done | fail) (fun hql _ hqe => ?_)
  have hSe := slAt_own (c := fc) (e := 53) hql (ev_one fs) hqe
  repeat (first
    | (refine g_ops ?_; first | refine s_q ?_ | refine s_v ?_ | refine s_s ?_ | refine s_n (fun _ => ?_) | refine s_x ?_ | refine s_y ?_ | refine s_mq ?_ | refine s_app (fun _ _ => ?_) | refine s_mv ?_ | refine s_ms ?_ | refine s_b0 (fun _ => ?_) | ((fail_if_success refine g_lit rfl rfl rfl ?_); first | apply g_partM rfl rfl rfl | apply g_partMB rfl rfl rfl | fail) | refine s_c (clone_evs hSe hl) (fun _ _ => ?_))
    | refine g_seq ?_ | refine g_region ?_ | refine g_nil ?_ | refine g_then_normal ?_ | refine g_block ?_ | refine g_in_normal ?_ | refine g_retc ?_ | refine g_then_ret ?_
    | refine g_in_ret ?_ | refine g_exit ?_ | refine g_then_exit ?_ | refine g_in_exit ?_ | refine g_in_other rfl ?_ | refine g_skip ?_ | refine g_label ?_
    | refine g_cond_true rfl ?_ | refine g_cond_false rfl ?_ | exact s_m | intro _)
  rename_i q _
  obtain ⟨q1, q2⟩ := q
  refine g_own (p := q1) (len := fs.length) (cap := q2) (n := 7) (xs := fs.flatMap Ev.cells) (e := 53) (by (repeat (first | exact Sel.here | apply Sel.there)); first | done | fail) (fun _ _ hqe2 => ?_)
  exact g_ret (q1, q2) rfl (by (repeat (first | exact RVs.nil | apply RVs.tmp rfl | apply RVs.cellA rfl (by (repeat (first | exact Sel.here | apply Sel.there)); first | done | fail) (by (repeat (first | exact Cut.zero | apply Cut.take | apply Cut.skip)); first | done | fail) | apply RVs.cell1 rfl (by (repeat (first | exact Sel.here | apply Sel.there)); first | done | fail) rfl)); first | done | fail) (by (repeat (first | exact Take.nil | apply Take.cons | exact Sel.here | apply Sel.there)); first | done | fail) rfl hqe2
end Go.Proofs.Ytkejdilmdpgbpaa
