/- Contract: cut: a batch's parts by their owners. -/
import Derived.Test.YtfachckbjmofgaaCrdC
set_option linter.unusedSimpArgs false
set_option linter.unusedVariables false
namespace Go.Sl
theorem mget_mputI {M : List (Int × Value)} {k y : Int} {v : Value} : mget (mput M k v) y = if y = k then some v else mget M y := by
  induction M with
  | nil => simp [mput, mget]
  | cons a M ih =>
    obtain ⟨a, u⟩ := a
    simp only [mput]
    by_cases h : k = a
    · rw [if_pos h]
      subst h
      simp only [mget]
      by_cases h2 : y = k <;> simp [h2]
    · rw [if_neg h]
      simp only [mget, ih]
      by_cases h2 : y = a
      · subst h2
        rw [if_pos rfl, if_neg (fun e => h e.symm), if_pos rfl]
      · rw [if_neg h2, if_neg h2]
theorem g_bgOutE {Γ : Ctx} {N : Nat} {fr : Fr} {L R : List Chunk} {φ : Act → World → Prop} {α : Type} {F : α → List Chunk} {l : List α} (A B : List α) (x : α) (e : l = A ++ x :: B) (s : Sel L (Bg F l) R) (g : G Γ N fr (F x ++ (Bg F (A ++ B) :: R)) φ) : G Γ N fr L φ := by
  subst e; exact g_bgOut A B x s g
theorem g_bgInE {Γ : Ctx} {N : Nat} {fr : Fr} {L R : List Chunk} {φ : Act → World → Prop} {α : Type} {F : α → List Chunk} {l : List α} (A B : List α) (x : α) (e : l = A ++ x :: B) (t : Take L (F x ++ [Bg F (A ++ B)]) R) (g : G Γ N fr (Bg F l :: R) φ) : G Γ N fr L φ := by
  subst e; exact g_bgIn A B x t g
end Go.Sl
namespace Go.Proofs.Ytfachckbjmofgaa
open Go.Sl facts
/-- A part in memory: whose, and its puts in a slice of its own. -/
structure Pr where
  k : Int
  q : Option Addr
  c : Nat
  puts : List Pt
abbrev Pr.v (key : ByteArray) (x : Pr) : Value := .agg [.string key, .slice x.q x.puts.length x.c].toArray
abbrev pmap (key : ByteArray) (T : List Pr) : List (Int × Value) := T.map fun x => (x.k, x.v key)
def fndP : List Pr → Int → Option Pr
  | [], _ => none
  | x :: T, k => if k = x.k then some x else fndP T k
def pput : List Pr → Pr → List Pr
  | [], x => [x]
  | y :: T, x => if x.k = y.k then x :: T else y :: pput T x
theorem mget_pmap (key : ByteArray) (T : List Pr) (k : Int) : mget (pmap key T) k = (fndP T k).map (Pr.v key) := by
  induction T with
  | nil => rfl
  | cons x T ih =>
    simp only [pmap, List.map_cons, mget, fndP]
    split
    · rfl
    · exact ih
theorem pmap_pput (key : ByteArray) (T : List Pr) (x : Pr) : pmap key (pput T x) = mput (pmap key T) x.k (x.v key) := by
  induction T with
  | nil => rfl
  | cons y T ih =>
    simp only [pput, pmap, List.map_cons, mput]
    by_cases h : x.k = y.k
    · rw [if_pos h, if_pos h, List.map_cons, h]
    · rw [if_neg h, if_neg h, List.map_cons]
      congr 1
theorem fndP_some {T : List Pr} {k : Int} {x : Pr} (h : fndP T k = some x) : x.k = k ∧ ∃ A B, T = A ++ x :: B ∧ ∀ x' : Pr, x'.k = k → pput T x' = A ++ x' :: B := by
  induction T with
  | nil => cases h
  | cons y T ih =>
    simp only [fndP] at h
    split at h
    · rename_i e
      cases h
      exact ⟨e.symm, [], T, rfl, fun x' hx => by simp [pput, hx, e]⟩
    · rename_i e
      obtain ⟨h1, A, B, h2, h3⟩ := ih h
      refine ⟨h1, y :: A, B, by simp [h2], fun x' hx => ?_⟩
      simp only [pput, hx, if_neg e, h3 x' hx, List.cons_append]
theorem fndP_none {T : List Pr} {k : Int} (h : fndP T k = none) : ∀ x' : Pr, x'.k = k → pput T x' = T ++ [x'] := by
  induction T with
  | nil => intro x' _; rfl
  | cons y T ih =>
    simp only [fndP] at h
    split at h
    · cases h
    · rename_i e
      intro x' hx
      simp only [pput, hx, if_neg e, ih h x' hx, List.cons_append]
/-- What a put says. -/
abbrev PtD := ByteArray × Int × List ByteArray
def Pt.d (x : Pt) : PtD := (x.st, x.exp, x.data)
/-- The parts, plainly: of each owner its puts. -/
def dput : List (Int × List PtD) → Int → PtD → List (Int × List PtD)
  | [], k, x => [(k, [x])]
  | (a, l) :: T, k, x => if k = a then (a, l ++ [x]) :: T else (a, l) :: dput T k x
def cutD : List (Int × PtD) → List (Int × List PtD)
  | l => l.foldl (fun T x => if x.1 > 0 then dput T x.1 x.2 else T) []
def Pr.d (x : Pr) : Int × List PtD := (x.k, x.puts.map Pt.d)
theorem pput_d {T : List Pr} {x : Pr} {l : List Pt} {y : Pt} (h : (fndP T x.k).elim [] Pr.puts = l) (hx : x.puts.map Pt.d = l.map Pt.d ++ [y.d]) : (pput T x).map Pr.d = dput (T.map Pr.d) x.k y.d := by
  induction T with
  | nil =>
    obtain rfl : l = [] := by simpa [fndP] using h.symm
    simp only [pput, List.map_cons, List.map_nil, dput, Pr.d, hx, List.nil_append]
  | cons z T ih =>
    simp only [fndP] at h
    simp only [pput, List.map_cons, dput, Pr.d]
    by_cases e : x.k = z.k
    · rw [if_pos e] at h
      rw [if_pos e, if_pos e]
      simp only [List.map_cons, Pr.d, hx]
      obtain rfl : z.puts = l := by simpa using h
      rw [e]
    · rw [if_neg e] at h
      rw [if_neg e, if_neg e]
      simp only [List.map_cons, Pr.d]
      congr 1
      exact ih h
attribute [local irreducible] Code.wp wpList Exit.then Exit.inBlock bodyPost Back MidQ G GP QStep VStep CStep SStep Does Post Reads
abbrev Pr.L (x : Pr) : List Chunk := [.own x.q x.puts.length x.c 3 (x.puts.flatMap Pt.cells) 34]
structure CuY where
  z : Pr
  A : List Pr
  B : List Pr
  b9 : Nat
  kx : ByteArray
structure CuX where
  i : Nat
  T : List Pr
  H : HP
/-- What is held of parts: their data stands. -/
def PrsAt (C : Chunk) (T : List Pr) (n : Nat) : Prop := ∀ x ∈ T, (∀ y ∈ x.puts, PtAt C y) ∧ x.puts.length ≤ n
def cutL (ws : List Int) (ps : List Pt) : List (Int × List PtD) := cutD ((ws.zip ps).map fun z => (z.1, z.2.d))
set_option maxHeartbeats 4000000 in
theorem cut_ {H : HP} (x : Bt) (hx : BtAt' (Pile H) x) (op : Option Addr) (oc : Nat) (ws : List Int) (hw : ws.length = x.puts.length) (hwi : ∀ w ∈ ws, inI w) :
    Does Try.prog 26 [.agg x.cells.toArray, .slice op ws.length oc] [.own op ws.length oc 1 (ws.map int) 3, Pile H] (X := Nat × List Pr × HP) (fun y => .map (some y.1)) (fun y => [.map y.1 (pmap x.key y.2.1), Bg Pr.L y.2.1, .own op ws.length oc 1 (ws.map int) 3, Pile y.2.2])
      (fun y => HP.sub H y.2.2 ∧ PrsAt (Pile y.2.2) y.2.1 x.puts.length ∧ y.2.1.map Pr.d = cutL ws x.puts) := by
  obtain ⟨key, pp, pc, puts⟩ := x
  obtain ⟨a1, a2, a3⟩ := hx
  dsimp only at a1 a2 a3 hw ⊢
  refine fn_intro Try.func26 rfl Try.ntmps26 rfl (by simp only [argFr, Nat.zero_add, Nat.reduceAdd]; rfl) (fun Γ => ?_)
  refine g_own (p := op) (len := ws.length) (cap := oc) (n := 1) (xs := ws.map int) (e := 3) (by (repeat (first | exact Sel.here | apply Sel.there)); first | done | fail) (fun _ _ hq => ?_)
  repeat (first
    | (refine g_ops ?_; first | refine s_q ?_ | refine s_v ?_ | refine s_s ?_ | refine s_n (fun _ => ?_) | refine s_x ?_ | refine s_y ?_ | refine s_mq ?_ | refine s_app (fun _ _ => ?_) | refine s_mv ?_ | refine s_ms ?_ | refine s_b0 (fun _ => ?_) | ((fail_if_success refine g_lit rfl rfl rfl ?_); first | apply g_partM rfl rfl rfl | apply g_partMB rfl rfl rfl | fail))
    | refine g_seq ?_ | refine g_region ?_ | refine g_nil ?_ | refine g_then_normal ?_ | refine g_block ?_ | refine g_in_normal ?_ | refine g_retc ?_ | refine g_then_ret ?_
    | refine g_in_ret ?_ | refine g_exit ?_ | refine g_then_exit ?_ | refine g_in_exit ?_ | refine g_in_other rfl ?_ | refine g_skip ?_ | refine g_label ?_
    | refine g_cond_true rfl ?_ | refine g_cond_false rfl ?_ | exact s_m | intro _)
  refine s_mkI (fun m => ?_)
  repeat (first
    | (refine g_ops ?_; first | refine s_q ?_ | refine s_v ?_ | refine s_s ?_ | refine s_n (fun _ => ?_) | refine s_x ?_ | refine s_y ?_ | refine s_mq ?_ | refine s_app (fun _ _ => ?_) | refine s_mv ?_ | refine s_ms ?_ | refine s_b0 (fun _ => ?_) | ((fail_if_success refine g_lit rfl rfl rfl ?_); first | apply g_partM rfl rfl rfl | apply g_partMB rfl rfl rfl | fail))
    | refine g_seq ?_ | refine g_region ?_ | refine g_nil ?_ | refine g_then_normal ?_ | refine g_block ?_ | refine g_in_normal ?_ | refine g_retc ?_ | refine g_then_ret ?_
    | refine g_in_ret ?_ | refine g_exit ?_ | refine g_then_exit ?_ | refine g_in_exit ?_ | refine g_in_other rfl ?_ | refine g_skip ?_ | refine g_label ?_
    | refine g_cond_true rfl ?_ | refine g_cond_false rfl ?_ | exact s_m | intro _)
  rename_i b2
  refine g_bgNil (F := Pr.L) ?_
  refine g_loop (X := CuX) (fun y => [(2, ptr b2), (5, .map (some m)), (1, .slice op ws.length oc), (12, .slice pp puts.length pc), (13, int puts.length), (14, int y.i)])
    (fun y => [.map m (pmap key y.T), Bg Pr.L y.T, .row b2 [.string key, .slice pp puts.length pc] 25, .own op ws.length oc 1 (ws.map int) 3, Pile y.H])
    (fun y => y.i ≤ puts.length ∧ HP.sub H y.H ∧ PrsAt (Pile y.H) y.T y.i ∧ y.T.map Pr.d = cutL (ws.take y.i) (puts.take y.i)) (fun y => puts.length - y.i) ⟨0, [], H⟩ ⟨Nat.zero_le _, HP.sub.refl _, (fun x hx => by cases hx), rfl⟩ (by (repeat (first | exact FrSub.nil | refine FrSub.cons rfl ?_)); first | done | fail) (by (repeat (first | exact Take.nil | apply Take.cons | exact Sel.here | apply Sel.there)); first | done | fail) (fun y hy => ?_)
  obtain ⟨i, T, H1⟩ := y
  obtain ⟨hi, hsb, hT, hdd⟩ := hy
  dsimp only at hi hsb hT hdd ⊢
  repeat (first
    | (refine g_ops ?_; first | refine s_q ?_ | refine s_v ?_ | refine s_s ?_ | refine s_n (fun _ => ?_) | refine s_x ?_ | refine s_y ?_ | refine s_mq ?_ | refine s_app (fun _ _ => ?_) | refine s_mv ?_ | refine s_ms ?_ | refine s_b0 (fun _ => ?_) | ((fail_if_success refine g_lit rfl rfl rfl ?_); first | apply g_partM rfl rfl rfl | apply g_partMB rfl rfl rfl | fail))
    | refine g_seq ?_ | refine g_region ?_ | refine g_nil ?_ | refine g_then_normal ?_ | refine g_block ?_ | refine g_in_normal ?_ | refine g_retc ?_ | refine g_then_ret ?_
    | refine g_in_ret ?_ | refine g_exit ?_ | refine g_then_exit ?_ | refine g_in_exit ?_ | refine g_in_other rfl ?_ | refine g_skip ?_ | refine g_label ?_
    | refine g_cond_true rfl ?_ | refine g_cond_false rfl ?_ | exact s_m | intro _)
  refine g_cond_dec rfl (fun h => ?_) (fun h => ?_)
  · have hi' : i < puts.length := by omega
    have hiw : i < ws.length := by omega
    obtain ⟨b, o, rfl, hrow⟩ := slAt_elem (a1.grow hsb) pt_len (by decide) (i := i) (a := puts[i]) (by simp [hi'])
    obtain ⟨ob, rfl⟩ := hq (by omega)
    have hxa := (a2 puts[i] (List.getElem_mem _)).grow hsb
    have hr : ∀ k, k = i → Reads (.own (some ⟨ob, 0, none⟩) ws.length oc 1 (ws.map int) 3) ⟨ob, 0 + k, none⟩ (int ws[i]) := fun k e => by
      subst e; rw [Nat.zero_add]; exact reads_own (by simp [hiw])
    have hcs : cutL (ws.take (i + 1)) (puts.take (i + 1)) = if ws[i] > 0 then dput (cutL (ws.take i) (puts.take i)) ws[i] puts[i].d else cutL (ws.take i) (puts.take i) := by
      unfold cutL cutD
      rw [List.take_succ_eq_append_getElem hi', List.take_succ_eq_append_getElem hiw, List.zip_append (by simp; omega), List.map_append, List.foldl_append]
      rfl
    have hwi' := hwi ws[i] (List.getElem_mem _)
    generalize puts[i] = x at hrow hxa hcs
    generalize ws[i] = w at hr hcs hwi'
    repeat (first
      | (refine g_ops ?_; first | refine s_q ?_ | refine s_v ?_ | refine s_s ?_ | refine s_n (fun _ => ?_) | refine s_x ?_ | refine s_y ?_ | refine s_mq ?_ | refine s_app (fun _ _ => ?_) | refine s_mv ?_ | refine s_ms ?_ | refine s_b0 (fun _ => ?_) | ((fail_if_success refine g_lit rfl rfl rfl ?_); first | apply g_partM rfl rfl rfl | apply g_partMB rfl rfl rfl | fail))
      | refine g_seq ?_ | refine g_region ?_ | refine g_nil ?_ | refine g_then_normal ?_ | refine g_block ?_ | refine g_in_normal ?_ | refine g_retc ?_
      | refine g_then_ret ?_ | refine g_in_ret ?_ | refine g_exit ?_ | refine g_then_exit ?_ | refine g_in_exit ?_ | refine g_in_other rfl ?_ | refine g_skip ?_
      | refine g_label ?_ | refine g_cond_true rfl ?_ | refine g_cond_false rfl ?_ | exact s_m | intro _)
    rename_i b7
    refine g_cond_dec rfl (fun h2 => ?_) (fun h2 => ?_)
    · have hw0 : w > 0 := by omega
      rw [if_pos hw0] at hcs
      repeat (refine g_seq ?_)
      refine g_cutX (X := CuY) (fun y => [(9, ptr y.b9), (8, int w), (7, ptr b7), (6, int i), (2, ptr b2), (5, .map (some m)), (1, .slice (some ⟨ob, 0, none⟩) ws.length oc), (12, .slice (some ⟨b, o, none⟩) puts.length pc), (13, int puts.length), (14, int i)])
        (fun y => .row y.b9 [.string y.kx, .slice y.z.q y.z.puts.length y.z.c] 25 :: (y.z.L ++ [.row b7 [.string x.st, .int .i64 x.exp, .slice x.dp x.data.length x.dc] 34, .map m (pmap key T), Bg Pr.L (y.A ++ y.B), .row b2 [.string key, .slice (some ⟨b, o, none⟩) puts.length pc] 25, .own (some ⟨ob, 0, none⟩) ws.length oc 1 (ws.map int) 3, Pile H1]))
        (fun y => y.z.k = w ∧ ((fndP T w).elim [] Pr.puts = y.z.puts ∧ (∀ x' : Pr, x'.k = w → pput T x' = y.A ++ x' :: y.B)) ∧ ((∀ a ∈ y.z.puts, PtAt (Pile H1) a) ∧ y.z.puts.length ≤ i) ∧ ∀ a ∈ y.A ++ y.B, a ∈ T) ?_ (fun y hy => ?_)
      · repeat (first
          | (refine g_ops ?_; first | refine s_q ?_ | refine s_v ?_ | refine s_s ?_ | refine s_n (fun _ => ?_) | refine s_x ?_ | refine s_y ?_ | refine s_mq ?_ | refine s_app (fun _ _ => ?_) | refine s_mv ?_ | refine s_ms ?_ | refine s_b0 (fun _ => ?_) | ((fail_if_success refine g_lit rfl rfl rfl ?_); first | apply g_partM rfl rfl rfl | apply g_partMB rfl rfl rfl | fail))
          | refine g_seq ?_ | refine g_region ?_ | refine g_nil ?_ | refine g_then_normal ?_ | refine g_block ?_ | refine g_in_normal ?_ | refine g_retc ?_
          | refine g_then_ret ?_ | refine g_in_ret ?_ | refine g_exit ?_ | refine g_then_exit ?_ | refine g_in_exit ?_ | refine g_in_other rfl ?_ | refine g_skip ?_
          | refine g_label ?_ | refine g_cond_true rfl ?_ | refine g_cond_false rfl ?_ | exact s_m | intro _)
        refine g_v (vs_lookup (κ := Int) (k := w) inferInstance inferInstance inferInstance kindI rfl rfl (by (repeat (first | exact Sel.here | apply Sel.there)); first | done | fail)) rfl rfl ?_
        cases hf : fndP T w with
        | none =>
          refine g_as 27 (v' := .agg [.string ByteArray.empty, .slice none 0 0].toArray) rfl (by rw [mget_pmap, hf]; rfl) ?_
          repeat (first
            | (refine g_ops ?_; first | refine s_q ?_ | refine s_v ?_ | refine s_s ?_ | refine s_n (fun _ => ?_) | refine s_x ?_ | refine s_y ?_ | refine s_mq ?_ | refine s_app (fun _ _ => ?_) | refine s_mv ?_ | refine s_ms ?_ | refine s_b0 (fun _ => ?_) | ((fail_if_success refine g_lit rfl rfl rfl ?_); first | apply g_partM rfl rfl rfl | apply g_partMB rfl rfl rfl | fail))
            | refine g_seq ?_ | refine g_region ?_ | refine g_nil ?_ | refine g_then_normal ?_ | refine g_block ?_ | refine g_in_normal ?_ | refine g_retc ?_
            | refine g_then_ret ?_ | refine g_in_ret ?_ | refine g_exit ?_ | refine g_then_exit ?_ | refine g_in_exit ?_ | refine g_in_other rfl ?_ | refine g_skip ?_
            | refine g_label ?_ | refine g_cond_true rfl ?_ | refine g_cond_false rfl ?_ | exact s_m | intro _)
          rename_i b9
          refine g_own_nil none 3 34 ?_
          exact g_midX (⟨⟨w, none, 0, []⟩, T, [], b9, ByteArray.empty⟩ : CuY) ⟨rfl, ⟨rfl, fun x' hx' => fndP_none hf x' hx'⟩, ⟨(fun a ha => by cases ha), Nat.zero_le _⟩, fun a ha => by simpa using ha⟩ (by (repeat (first | exact FrSub.nil | refine FrSub.cons rfl ?_)); first | done | fail) (by simp only [List.append_nil]; exact (by (repeat (first | exact Take.nil | apply Take.cons | exact Sel.here | apply Sel.there)); first | done | fail))
        | some z =>
          obtain ⟨hzk, A, B, hAB, hpp⟩ := fndP_some hf
          refine g_as 27 (v' := z.v key) rfl (by rw [mget_pmap, hf]; rfl) ?_
          repeat (first
            | (refine g_ops ?_; first | refine s_q ?_ | refine s_v ?_ | refine s_s ?_ | refine s_n (fun _ => ?_) | refine s_x ?_ | refine s_y ?_ | refine s_mq ?_ | refine s_app (fun _ _ => ?_) | refine s_mv ?_ | refine s_ms ?_ | refine s_b0 (fun _ => ?_) | ((fail_if_success refine g_lit rfl rfl rfl ?_); first | apply g_partM rfl rfl rfl | apply g_partMB rfl rfl rfl | fail))
            | refine g_seq ?_ | refine g_region ?_ | refine g_nil ?_ | refine g_then_normal ?_ | refine g_block ?_ | refine g_in_normal ?_ | refine g_retc ?_
            | refine g_then_ret ?_ | refine g_in_ret ?_ | refine g_exit ?_ | refine g_then_exit ?_ | refine g_in_exit ?_ | refine g_in_other rfl ?_ | refine g_skip ?_
            | refine g_label ?_ | refine g_cond_true rfl ?_ | refine g_cond_false rfl ?_ | exact s_m | intro _)
          rename_i b9
          refine g_bgOutE A B z hAB (by (repeat (first | exact Sel.here | apply Sel.there)); first | done | fail) ?_
          exact g_midX (⟨z, A, B, b9, key⟩ : CuY) ⟨hzk, ⟨rfl, hpp⟩, hT z (by rw [hAB]; simp), fun a ha => by rw [hAB]; rcases List.mem_append.1 ha with h | h <;> simp [h]⟩ (by (repeat (first | exact FrSub.nil | refine FrSub.cons rfl ?_)); first | done | fail) (by (repeat (first | exact Take.nil | apply Take.cons | exact Sel.here | apply Sel.there)); first | done | fail)
      · obtain ⟨⟨zk, zq, zc, zp⟩, A, B, b9, kx⟩ := y
        obtain ⟨hzk, ⟨hz1, hz2⟩, ⟨hz3, hz4⟩, hz5⟩ := hy
        dsimp only [Pr.L, List.cons_append, List.nil_append] at hzk hz1 hz2 hz3 hz4 hz5 ⊢
        subst hzk
        repeat (first
          | (refine g_ops ?_; first | refine s_q ?_ | refine s_v ?_ | refine s_s ?_ | refine s_n (fun _ => ?_) | refine s_x ?_ | refine s_y ?_ | refine s_mq ?_ | refine s_app (fun _ _ => ?_) | refine s_mv ?_ | refine s_ms ?_ | refine s_b0 (fun _ => ?_) | ((fail_if_success refine g_lit rfl rfl rfl ?_); first | apply g_partM rfl rfl rfl | apply g_partMB rfl rfl rfl | fail))
          | refine g_seq ?_ | refine g_region ?_ | refine g_nil ?_ | refine g_then_normal ?_ | refine g_block ?_ | refine g_in_normal ?_ | refine g_retc ?_
          | refine g_then_ret ?_ | refine g_in_ret ?_ | refine g_exit ?_ | refine g_then_exit ?_ | refine g_in_exit ?_ | refine g_in_other rfl ?_ | refine g_skip ?_
          | refine g_label ?_ | refine g_cond_true rfl ?_ | refine g_cond_false rfl ?_ | exact s_m | intro _)
        refine g_draw (.take 0 (.see 1 [5,6,7] (.see 2 [3,4,5,6,7] (.one 3 (.one 4 (.one 5 (.take 6 (.thaw 7 .done)))))))) (by kernel_rfl) (C := [.row b9 [.string key, .slice zq zp.length zc] 25, .row b7 [.string x.st, .int .i64 x.exp, .slice x.dp x.data.length x.dc] 34]) (by (repeat (first | exact Take.nil | apply Take.cons | exact Sel.here | apply Sel.there)); first | done | fail) (fun k' hd hk => ?_)
        repeat (first
          | (refine gp_take ?_; first | refine p_q ?_ | refine p_x ?_ | refine p_mq ?_ | ((fail_if_success refine gp_lit rfl rfl rfl rfl ?_); first | apply gp_guard_dec rfl rfl rfl rfl | apply gp_guard rfl rfl rfl rfl | fail))
          | (refine gp_see ?_; first | refine p_f ?_ | refine p_sx ?_ | ((fail_if_success refine gp_lit rfl rfl rfl rfl ?_); first | apply gp_guard_dec rfl rfl rfl rfl | apply gp_guard rfl rfl rfl rfl | fail) | refine p_sq ?_)
          | (refine gp_one ?_; first | refine p_v ?_ | refine p_s ?_ | refine p_n (fun _ => ?_) | refine p_y ?_ | refine p_app (fun _ _ => ?_) | refine p_mv ?_ | refine p_ms ?_ | refine p_b0 (fun _ => ?_) | ((fail_if_success refine gp_lit rfl rfl rfl rfl ?_); first | apply gp_guard_dec rfl rfl rfl rfl | apply gp_guard rfl rfl rfl rfl | fail) | refine p_c (own_ x hxa) (fun _ _ => ?_))
          | refine gp_two ?_ ?_ | refine gp_done hd hk ?_ | intro _ | refine p_ta hd hk (fun _ _ _ hd hk => ?_) | refine p_ts hd hk (fun _ hd hk => ?_))
        rename_i yo hyo b35 q2 c2 _
        obtain ⟨H2, p2, d2⟩ := yo
        obtain ⟨hs2, hP2⟩ := hyo
        dsimp only [List.cons_append, List.nil_append] at hs2 hP2 ⊢
        rw [show zp.flatMap Pt.cells ++ [.string x.st, .int .i64 x.exp, .slice p2 x.data.length d2] = (zp ++ [(⟨x.st, x.exp, p2, d2, x.data⟩ : Pt)]).flatMap Pt.cells by simp, show zp.length + 1 = (zp ++ [(⟨x.st, x.exp, p2, d2, x.data⟩ : Pt)]).length by simp]
        repeat (first
          | (refine g_ops ?_; first | refine s_q ?_ | refine s_v ?_ | refine s_s ?_ | refine s_n (fun _ => ?_) | refine s_x ?_ | refine s_y ?_ | refine s_mq ?_ | refine s_app (fun _ _ => ?_) | refine s_mv ?_ | refine s_ms ?_ | refine s_b0 (fun _ => ?_) | ((fail_if_success refine g_lit rfl rfl rfl ?_); first | apply g_partM rfl rfl rfl | apply g_partMB rfl rfl rfl | fail))
          | refine g_seq ?_ | refine g_region ?_ | refine g_nil ?_ | refine g_then_normal ?_ | refine g_block ?_ | refine g_in_normal ?_ | refine g_retc ?_
          | refine g_then_ret ?_ | refine g_in_ret ?_ | refine g_exit ?_ | refine g_then_exit ?_ | refine g_in_exit ?_ | refine g_in_other rfl ?_ | refine g_skip ?_
          | refine g_label ?_ | refine g_cond_true rfl ?_ | refine g_cond_false rfl ?_ | exact s_m | intro _)
        rw [show mput (pmap key T) zk (.agg [.string key, .slice q2 (zp ++ [(⟨x.st, x.exp, p2, d2, x.data⟩ : Pt)]).length c2].toArray) = pmap key (pput T ⟨zk, q2, c2, zp ++ [(⟨x.st, x.exp, p2, d2, x.data⟩ : Pt)]⟩) from (pmap_pput key T (⟨zk, q2, c2, zp ++ [(⟨x.st, x.exp, p2, d2, x.data⟩ : Pt)]⟩ : Pr)).symm]
        have hpp := hz2 (⟨zk, q2, c2, zp ++ [(⟨x.st, x.exp, p2, d2, x.data⟩ : Pt)]⟩ : Pr) rfl
        refine g_bgInE (F := Pr.L) A B (⟨zk, q2, c2, zp ++ [(⟨x.st, x.exp, p2, d2, x.data⟩ : Pt)]⟩ : Pr) hpp (by (repeat (first | exact Take.nil | apply Take.cons | exact Sel.here | apply Sel.there)); first | done | fail) ?_
        repeat (first
          | (refine g_ops ?_; first | refine s_q ?_ | refine s_v ?_ | refine s_s ?_ | refine s_n (fun _ => ?_) | refine s_x ?_ | refine s_y ?_ | refine s_mq ?_ | refine s_app (fun _ _ => ?_) | refine s_mv ?_ | refine s_ms ?_ | refine s_b0 (fun _ => ?_) | ((fail_if_success refine g_lit rfl rfl rfl ?_); first | apply g_partM rfl rfl rfl | apply g_partMB rfl rfl rfl | fail))
          | refine g_seq ?_ | refine g_region ?_ | refine g_nil ?_ | refine g_then_normal ?_ | refine g_block ?_ | refine g_in_normal ?_ | refine g_retc ?_
          | refine g_then_ret ?_ | refine g_in_ret ?_ | refine g_exit ?_ | refine g_then_exit ?_ | refine g_in_exit ?_ | refine g_in_other rfl ?_ | refine g_skip ?_
          | refine g_label ?_ | refine g_cond_true rfl ?_ | refine g_cond_false rfl ?_ | exact s_m | intro _)
        refine g_as 14 (v' := int ((i + 1 : Nat) : Int)) rfl (congrArg (Value.int .i64) (by push_cast; rfl)) ?_
        exact g_again ⟨i + 1, pput T ⟨zk, q2, c2, zp ++ [(⟨x.st, x.exp, p2, d2, x.data⟩ : Pt)]⟩, H2⟩ (by simp only; omega) ⟨hi', hsb.trans hs2, fun a ha => by
          have hold : ∀ a ∈ A ++ B, (∀ y ∈ a.puts, PtAt (Pile H2) y) ∧ a.puts.length ≤ i + 1 := fun a ha => ⟨fun y hy => ((hT a (hz5 a ha)).1 y hy).grow hs2, by have := (hT a (hz5 a ha)).2; omega⟩
          simp only at ha
          rw [hpp] at ha
          rcases List.mem_append.1 ha with ha | ha
          · exact hold a (List.mem_append_left _ ha)
          · rcases List.mem_cons.1 ha with rfl | ha
            · refine ⟨fun y hy => ?_, by simp only [List.length_append, List.length_cons, List.length_nil]; omega⟩
              rcases List.mem_append.1 hy with hy | hy
              · exact (hz3 y hy).grow hs2
              · rw [List.mem_singleton.1 hy]; exact hP2
            · exact hold a (List.mem_append_right _ ha), by
          simp only
          rw [hcs, ← hdd]
          exact pput_d (l := zp) hz1 (by simp [Pt.d])⟩ (by (repeat (first | exact FrSub.nil | refine FrSub.cons rfl ?_)); first | done | fail) (by (repeat (first | exact Take.nil | apply Take.cons | exact Sel.here | apply Sel.there)); first | done | fail)
    · rw [if_neg (by omega)] at hcs
      repeat (first
        | (refine g_ops ?_; first | refine s_q ?_ | refine s_v ?_ | refine s_s ?_ | refine s_n (fun _ => ?_) | refine s_x ?_ | refine s_y ?_ | refine s_mq ?_ | refine s_app (fun _ _ => ?_) | refine s_mv ?_ | refine s_ms ?_ | refine s_b0 (fun _ => ?_) | ((fail_if_success refine g_lit rfl rfl rfl ?_); first | apply g_partM rfl rfl rfl | apply g_partMB rfl rfl rfl | fail))
        | refine g_seq ?_ | refine g_region ?_ | refine g_nil ?_ | refine g_then_normal ?_ | refine g_block ?_ | refine g_in_normal ?_ | refine g_retc ?_
        | refine g_then_ret ?_ | refine g_in_ret ?_ | refine g_exit ?_ | refine g_then_exit ?_ | refine g_in_exit ?_ | refine g_in_other rfl ?_ | refine g_skip ?_
        | refine g_label ?_ | refine g_cond_true rfl ?_ | refine g_cond_false rfl ?_ | exact s_m | intro _)
      refine g_as 14 (v' := int ((i + 1 : Nat) : Int)) rfl (congrArg (Value.int .i64) (by push_cast; rfl)) ?_
      exact g_again ⟨i + 1, T, H1⟩ (by simp only; omega) ⟨hi', hsb, fun a ha => ⟨(hT a ha).1, by have := (hT a ha).2; simp only; omega⟩, by simp only; rw [hcs, hdd]⟩ (by (repeat (first | exact FrSub.nil | refine FrSub.cons rfl ?_)); first | done | fail) (by (repeat (first | exact Take.nil | apply Take.cons | exact Sel.here | apply Sel.there)); first | done | fail)
  · obtain rfl : i = puts.length := by omega
    rw [List.take_length, ← hw, List.take_length] at hdd
    repeat (first
      | (refine g_ops ?_; first | refine s_q ?_ | refine s_v ?_ | refine s_s ?_ | refine s_n (fun _ => ?_) | refine s_x ?_ | refine s_y ?_ | refine s_mq ?_ | refine s_app (fun _ _ => ?_) | refine s_mv ?_ | refine s_ms ?_ | refine s_b0 (fun _ => ?_) | ((fail_if_success refine g_lit rfl rfl rfl ?_); first | apply g_partM rfl rfl rfl | apply g_partMB rfl rfl rfl | fail))
      | refine g_seq ?_ | refine g_region ?_ | refine g_nil ?_ | refine g_then_normal ?_ | refine g_block ?_ | refine g_in_normal ?_ | refine g_retc ?_
      | refine g_then_ret ?_ | refine g_in_ret ?_ | refine g_exit ?_ | refine g_then_exit ?_ | refine g_in_exit ?_ | refine g_in_other rfl ?_ | refine g_skip ?_
      | refine g_label ?_ | refine g_cond_true rfl ?_ | refine g_cond_false rfl ?_ | exact s_m | intro _)
    exact g_ret (m, T, H1) rfl (by (repeat (first | exact RVs.nil | apply RVs.tmp rfl | apply RVs.cellA rfl (by (repeat (first | exact Sel.here | apply Sel.there)); first | done | fail) (by (repeat (first | exact Cut.zero | apply Cut.take | apply Cut.skip)); first | done | fail) | apply RVs.cell1 rfl (by (repeat (first | exact Sel.here | apply Sel.there)); first | done | fail) rfl)); first | done | fail) (by (repeat (first | exact Take.nil | apply Take.cons | exact Sel.here | apply Sel.there)); first | done | fail) rfl ⟨hsb, hT, hdd⟩
end Go.Proofs.Ytfachckbjmofgaa
