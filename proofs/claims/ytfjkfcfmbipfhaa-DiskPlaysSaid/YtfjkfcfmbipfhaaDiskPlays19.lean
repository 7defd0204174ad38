/- Contracts and laws that the proof stands on. -/
import Derived.Test.YtfjkfcfmbipfhaaDiskPlays18
set_option linter.unusedSimpArgs false
set_option linter.unusedVariables false
namespace Go.Sl
theorem flat_setC {α : Type} {g : α → List Value} {n : Nat} (hg : ∀ a, (g a).length = n) : ∀ (l : List α) (i j : Nat) (a a' : α) (w : Value), l[i]? = some a → g a' = (g a).set j w → j < n → (l.flatMap g).set (0 + i * n + j) w = (l.set i a').flatMap g
  | [], i, j, a, a', w, h, _, _ => by simp at h
  | x :: l, 0, j, a, a', w, h, e, hj => by
    simp only [List.getElem?_cons_zero, Option.some.injEq] at h
    subst h
    simp only [Nat.zero_mul, Nat.zero_add]
    rw [List.flatMap_cons, List.set_cons_zero, List.flatMap_cons, e, List.set_append_left _ _ (by rw [hg]; exact hj)]
  | x :: l, i + 1, j, a, a', w, h, e, hj => by
    simp only [List.getElem?_cons_succ] at h
    rw [List.flatMap_cons, List.set_cons_succ, List.flatMap_cons, List.set_append_right _ _ (by rw [hg, Nat.succ_mul]; omega), hg, show 0 + (i + 1) * n + j - n = 0 + i * n + j by rw [Nat.succ_mul]; omega, flat_setC hg l i j a a' w h e hj]
end Go.Sl
namespace Go.Proofs.Ytfjkfcfmbipfhaa
open Go.Sl facts
attribute [local irreducible] Code.wp wpList Exit.then Exit.inBlock bodyPost Back MidQ G GP QStep VStep CStep SStep Does Post Reads
theorem set_upd (ds : List Df) (k : Nat) (z : Df) (h : k < ds.length) : ds.set k z = dupd ds k z := by
  rw [List.set_eq_take_append_cons_drop, if_pos h]
def DsAt (H : HP) (ds : List Df) : Prop := ∀ x ∈ ds, SlAt (Pile H) 1 x.p x.bs.length (cells8 x.bs) ∧ x.bs.length ≤ x.c
theorem DsAt.grow {H H' : HP} {ds : List Df} (h : DsAt H ds) (s : HP.sub H H') : DsAt H' ds := fun x hx => ⟨(h x hx).1.grow s, (h x hx).2⟩
theorem DsAt.sub {H : HP} {ds es : List Df} (h : DsAt H ds) (s : ∀ x ∈ es, x ∈ ds) : DsAt H es := fun x hx => h x (s x hx)
theorem DsAt.ins {H : HP} {ds : List Df} (h : DsAt H ds) (k : Nat) {z : Df} (hz : SlAt (Pile H) 1 z.p z.bs.length (cells8 z.bs) ∧ z.bs.length ≤ z.c) : DsAt H (dins ds k z) := fun x hx => by
  rcases List.mem_append.1 hx with hx | hx
  · exact h x (List.mem_of_mem_take hx)
  · rcases List.mem_cons.1 hx with rfl | hx
    · exact hz
    · exact h x (List.mem_of_mem_drop hx)
theorem DsAt.upd {H : HP} {ds : List Df} (h : DsAt H ds) (k : Nat) {z : Df} (hz : SlAt (Pile H) 1 z.p z.bs.length (cells8 z.bs) ∧ z.bs.length ≤ z.c) : DsAt H (dupd ds k z) := fun x hx => by
  rcases List.mem_append.1 hx with hx | hx
  · exact h x (List.mem_of_mem_take hx)
  · rcases List.mem_cons.1 hx with rfl | hx
    · exact hz
    · exact h x (List.mem_of_mem_drop hx)
theorem DsAt.del {H : HP} {ds : List Df} (h : DsAt H ds) (k : Nat) : DsAt H (ddel ds k) := fun x hx => by
  rcases List.mem_append.1 hx with hx | hx
  · exact h x (List.mem_of_mem_take hx)
  · exact h x (List.mem_of_mem_drop hx)
def usedD : List Df → Nat
  | [] => 0
  | x :: r => x.bs.length + usedD r
theorem usedD_append : ∀ a b : List Df, usedD (a ++ b) = usedD a + usedD b
  | [], b => by simp [usedD]
  | x :: a, b => by
    have := usedD_append a b
    simp only [List.cons_append, usedD]
    omega
theorem usedD_take (ds : List Df) (i : Nat) (h : i < ds.length) : usedD (ds.take (i + 1)) = usedD (ds.take i) + ds[i].bs.length := by
  rw [List.take_succ_eq_append_getElem h, usedD_append]
  simp [usedD]
theorem usedD_le (ds : List Df) (i : Nat) : usedD (ds.take i) ≤ usedD ds := by
  have := usedD_append (ds.take i) (ds.drop i)
  rw [List.take_append_drop] at this
  omega
theorem rel_used : ∀ {fs : List Fi} {ds : List Df}, Rel fs ds → usedD ds = used fs
  | [], [], _ => rfl
  | [], _ :: _, h => by simp [Rel] at h
  | _ :: _, [], h => by simp [Rel] at h
  | x :: fs, y :: ds, h => by
    simp only [Rel, List.map_cons, List.cons.injEq, Prod.mk.injEq] at h
    have ih := rel_used (fs := fs) (ds := ds) h.2
    have hl := congrArg List.length h.1.2.1
    rw [List.length_append] at hl
    simp only [used, usedD, ih]
    omega
structure MX where
  e : Int
  q : Option Addr
  c : Nat
  ds : List Df
  H : HP
theorem mapp_off (m : Nat) (room : Int) (q : Option Addr) (n c : Nat) (ops last : Int) (h0 : 0 ≤ ops ∧ ops ≤ 1000000000) (hoff : 0 ≤ last ∧ ops + 1 > last) (nm : ByteArray) (sl : Value) : Does Try.prog 40 [ptr m, .string nm, sl] [mrow m room q n c ops last] (X := Unit) (fun _ => int 9) (fun _ => [mrow m room q n c (ops + 1) last]) (fun _ => True) := by
  have ho := offM m room q n c ops last h0
  rw [decide_eq_true hoff] at ho
  refine fn_intro Try.func40 rfl Try.ntmps40 rfl (by simp only [argFr, Nat.zero_add, Nat.reduceAdd]; rfl) (fun Γ => ?_)
  repeat (first
    | (refine g_ops ?_; first | refine s_q ?_ | refine s_v ?_ | refine s_s ?_ | refine s_n (fun _ => ?_) | refine s_x ?_ | refine s_y ?_ | refine s_mq ?_ | refine s_app (fun _ _ => ?_) | refine s_mv ?_ | refine s_ms ?_ | refine s_b0 (fun _ => ?_) | ((fail_if_success refine g_lit rfl rfl rfl ?_); first | apply g_partM rfl rfl rfl | apply g_partMB rfl rfl rfl | fail) | refine s_c (ho) (fun _ _ => ?_))
    | refine g_seq ?_ | refine g_region ?_ | refine g_nil ?_ | refine g_then_normal ?_ | refine g_block ?_ | refine g_in_normal ?_ | refine g_retc ?_ | refine g_then_ret ?_
    | refine g_in_ret ?_ | refine g_exit ?_ | refine g_then_exit ?_ | refine g_in_exit ?_ | refine g_in_other rfl ?_ | refine g_skip ?_ | refine g_label ?_
    | refine g_cond_true rfl ?_ | refine g_cond_false rfl ?_ | exact s_m | intro _)
  exact g_ret () rfl (by (repeat (first | exact RVs.nil | apply RVs.tmp rfl | apply RVs.cellA rfl (by (repeat (first | exact Sel.here | apply Sel.there)); first | done | fail) (by (repeat (first | exact Cut.zero | apply Cut.take | apply Cut.skip)); first | done | fail) | apply RVs.cell1 rfl (by (repeat (first | exact Sel.here | apply Sel.there)); first | done | fail) rfl)); first | done | fail) (by (repeat (first | exact Take.nil | apply Take.cons | exact Sel.here | apply Sel.there)); first | done | fail) rfl trivial
theorem mapp_bad (m : Nat) (room : Int) (q : Option Addr) (n c : Nat) (ops last : Int) (h0 : 0 ≤ ops ∧ ops ≤ 1000000000) (hoff : ¬ (0 ≤ last ∧ ops + 1 > last)) (nm : ByteArray) (hz : nm.size ≤ 9223372036854775807) (hb : nmOk nm = false) (sl : Value) : Does Try.prog 40 [ptr m, .string nm, sl] [mrow m room q n c ops last] (X := Unit) (fun _ => int 1) (fun _ => [mrow m room q n c (ops + 1) last]) (fun _ => True) := by
  have ho := offM m room q n c ops last h0
  rw [decide_eq_false hoff] at ho
  have hbd := badM nm hz
  rw [hb] at hbd
  refine fn_intro Try.func40 rfl Try.ntmps40 rfl (by simp only [argFr, Nat.zero_add, Nat.reduceAdd]; rfl) (fun Γ => ?_)
  repeat (first
    | (refine g_ops ?_; first | refine s_q ?_ | refine s_v ?_ | refine s_s ?_ | refine s_n (fun _ => ?_) | refine s_x ?_ | refine s_y ?_ | refine s_mq ?_ | refine s_app (fun _ _ => ?_) | refine s_mv ?_ | refine s_ms ?_ | refine s_b0 (fun _ => ?_) | ((fail_if_success refine g_lit rfl rfl rfl ?_); first | apply g_partM rfl rfl rfl | apply g_partMB rfl rfl rfl | fail) | refine s_p (hbd) ?_ | refine s_c (ho) (fun _ _ => ?_))
    | refine g_seq ?_ | refine g_region ?_ | refine g_nil ?_ | refine g_then_normal ?_ | refine g_block ?_ | refine g_in_normal ?_ | refine g_retc ?_ | refine g_then_ret ?_
    | refine g_in_ret ?_ | refine g_exit ?_ | refine g_then_exit ?_ | refine g_in_exit ?_ | refine g_in_other rfl ?_ | refine g_skip ?_ | refine g_label ?_
    | refine g_cond_true rfl ?_ | refine g_cond_false rfl ?_ | exact s_m | intro _)
  exact g_ret () rfl (by (repeat (first | exact RVs.nil | apply RVs.tmp rfl | apply RVs.cellA rfl (by (repeat (first | exact Sel.here | apply Sel.there)); first | done | fail) (by (repeat (first | exact Cut.zero | apply Cut.take | apply Cut.skip)); first | done | fail) | apply RVs.cell1 rfl (by (repeat (first | exact Sel.here | apply Sel.there)); first | done | fail) rfl)); first | done | fail) (by (repeat (first | exact Take.nil | apply Take.cons | exact Sel.here | apply Sel.there)); first | done | fail) rfl trivial
structure WhereAt (ds : List Df) (nm : ByteArray) (fd : Bool) (k : Nat) : Prop where
  yes : fd = true → FndAt ds nm k
  no : fd = false → FndNo ds nm ∧ PutAt ds nm k
theorem WhereAt.finds {ds : List Df} {nm : ByteArray} {fd : Bool} {k : Nat} (h : WhereAt ds nm fd k) (m : Nat) (room ops last : Int) (q : Option Addr) (c : Nat) (hn : ds.length ≤ 2000) : Does1 Try.prog 61 [ptr m, .string nm] (mL m room ops last q c ds []) (int (if fd = true then (k : Int) else -1)) := by
  cases fd with
  | true => exact mfind_yes m room ops last q c ds nm k (h.yes rfl) hn
  | false => exact mfind_no m room ops last q c ds nm (h.no rfl).1 hn
set_option maxHeartbeats 2000000 in
theorem mapp (m : Nat) (room : Int) (q : Option Addr) (c : Nat) (ops last : Int) (ds : List Df) (h0 : 0 ≤ ops ∧ ops ≤ 1000000000) (hoff : ¬ (0 ≤ last ∧ ops + 1 > last)) (nm : ByteArray) (hz : nm.size ≤ 9223372036854775807) (hb : nmOk nm = true) (fd : Bool) (k : Nat) (hW : WhereAt ds nm fd k) (hn : ds.length ≤ 2000) (hr0 : 0 ≤ room ∧ room ≤ 8388608) (hu : usedD ds ≤ 1000000)
    {H : HP} (hD : DsAt H ds) {C : Chunk} {p : Option Addr} {l : List UInt8} (cap : Nat) (hS : SlAt C 1 p l.length (cells8 l)) (hl : l.length ≤ 1000000) :
    Does Try.prog 40 [ptr m, .string nm, .slice p l.length cap] (Pile H :: mL m room ops last q c ds [C]) (X := MX) (fun y => int y.e) (fun y => Pile y.H :: mL m room (ops + 1) last y.q y.c y.ds [C])
      (fun y => HP.sub H y.H ∧ DsAt y.H y.ds ∧ (((l.length : Int) ≤ room - usedD ds ∧ y.e = 0 ∧ ((fd = true ∧ ∃ (z : Df) (hk : k < ds.length), y.ds = dupd ds k z ∧ dfD z = (ds[k].nm, ds[k].bs ++ l, ds[k].sy)) ∨ (fd = false ∧ ∃ z : Df, y.ds = dins ds k z ∧ dfD z = (nm, l, 0)))) ∨ (¬ (l.length : Int) ≤ room - usedD ds ∧ y.e = 3 ∧ y.ds = ds))) := by
  have ho := offM m room q ds.length c ops last h0
  rw [decide_eq_false hoff] at ho
  have hbd := badM nm hz
  rw [hb] at hbd
  have hfi := hW.finds m room (ops + 1) last q c hn
  refine fn_intro Try.func40 rfl Try.ntmps40 rfl (by simp only [argFr, Nat.zero_add, Nat.reduceAdd]; rfl) (fun Γ => ?_)
  repeat (first
    | (refine g_ops ?_; first | refine s_q ?_ | refine s_v ?_ | refine s_s ?_ | refine s_n (fun _ => ?_) | refine s_x ?_ | refine s_y ?_ | refine s_mq ?_ | refine s_app (fun _ _ => ?_) | refine s_mv ?_ | refine s_ms ?_ | refine s_b0 (fun _ => ?_) | ((fail_if_success refine g_lit rfl rfl rfl ?_); first | apply g_partM rfl rfl rfl | apply g_partMB rfl rfl rfl | fail) | refine s_p (hbd) ?_ | refine s_k (hfi) ?_ | refine s_c (ho) (fun _ _ => ?_))
    | refine g_seq ?_ | refine g_region ?_ | refine g_nil ?_ | refine g_then_normal ?_ | refine g_block ?_ | refine g_in_normal ?_ | refine g_retc ?_ | refine g_then_ret ?_
    | refine g_in_ret ?_ | refine g_exit ?_ | refine g_then_exit ?_ | refine g_in_exit ?_ | refine g_in_other rfl ?_ | refine g_skip ?_ | refine g_label ?_
    | refine g_cond_true rfl ?_ | refine g_cond_false rfl ?_ | exact s_m | intro _)
  refine g_own (p := q) (len := ds.length) (cap := c) (n := 3) (xs := ds.flatMap Df.cells) (e := 97) (by (repeat (first | exact Sel.here | apply Sel.there)); first | done | fail) (fun _ _ hp => ?_)
  refine g_as 8 (v' := int ((usedD (ds.take 0) : Nat) : Int)) rfl (by simp [usedD]) ?_
  refine g_loop (X := Nat) (fun i => [(0, ptr m), (1, .string nm), (2, .slice p l.length cap), (7, int (if fd = true then (k : Int) else -1)), (8, int ((usedD (ds.take i) : Nat) : Int)), (9, int i)]) (fun _ => Pile H :: mL m room (ops + 1) last q c ds [C]) (fun i => i ≤ ds.length) (fun i => ds.length - i) 0 (Nat.zero_le _) (by (repeat (first | exact FrSub.nil | refine FrSub.cons rfl ?_)); first | done | fail) (by (repeat (first | exact Take.nil | apply Take.cons | exact Sel.here | apply Sel.there)); first | done | fail) (fun i hi => ?_)
  repeat (first
    | (refine g_ops ?_; first | refine s_q ?_ | refine s_v ?_ | refine s_s ?_ | refine s_n (fun _ => ?_) | refine s_x ?_ | refine s_y ?_ | refine s_mq ?_ | refine s_app (fun _ _ => ?_) | refine s_mv ?_ | refine s_ms ?_ | refine s_b0 (fun _ => ?_) | ((fail_if_success refine g_lit rfl rfl rfl ?_); first | apply g_partM rfl rfl rfl | apply g_partMB rfl rfl rfl | fail))
    | refine g_seq ?_ | refine g_region ?_ | refine g_nil ?_ | refine g_then_normal ?_ | refine g_block ?_ | refine g_in_normal ?_ | refine g_retc ?_ | refine g_then_ret ?_
    | refine g_in_ret ?_ | refine g_exit ?_ | refine g_then_exit ?_ | refine g_in_exit ?_ | refine g_in_other rfl ?_ | refine g_skip ?_ | refine g_label ?_
    | refine g_cond_true rfl ?_ | refine g_cond_false rfl ?_ | exact s_m | intro _)
  refine g_cond_dec rfl (fun h => ?_) (fun h => ?_)
  · have hi2 : i < ds.length := by omega
    obtain ⟨b, rfl⟩ := hp (by omega)
    have hcell := own_at (b := b) (len := ds.length) (cap := c) (e := 97) df_len (l := ds) (i := i) (a := ds[i]) (by simp [hi2])
    have hut := usedD_take ds i hi2
    have hul := usedD_le ds (i + 1)
    generalize ds[i] = x at hcell hut
    repeat (first
      | (refine g_ops ?_; first | refine s_q ?_ | refine s_v ?_ | refine s_s ?_ | refine s_n (fun _ => ?_) | refine s_x ?_ | refine s_y ?_ | refine s_mq ?_ | refine s_app (fun _ _ => ?_) | refine s_mv ?_ | refine s_ms ?_ | refine s_b0 (fun _ => ?_) | ((fail_if_success refine g_lit rfl rfl rfl ?_); first | apply g_partM rfl rfl rfl | apply g_partMB rfl rfl rfl | fail))
      | refine g_seq ?_ | refine g_region ?_ | refine g_nil ?_ | refine g_then_normal ?_ | refine g_block ?_ | refine g_in_normal ?_ | refine g_retc ?_
      | refine g_then_ret ?_ | refine g_in_ret ?_ | refine g_exit ?_ | refine g_then_exit ?_ | refine g_in_exit ?_ | refine g_in_other rfl ?_ | refine g_skip ?_
      | refine g_label ?_ | refine g_cond_true rfl ?_ | refine g_cond_false rfl ?_ | exact s_m | intro _)
    refine g_as 8 (v' := int ((usedD (ds.take (i + 1)) : Nat) : Int)) rfl (congrArg (Value.int .i64) (by rw [hut]; push_cast; rfl)) ?_
    exact g_again (i + 1) (by omega) hi2 (by (repeat (first | exact FrSub.nil | refine FrSub.cons rfl ?_)); first | done | fail) (by (repeat (first | exact Take.nil | apply Take.cons | exact Sel.here | apply Sel.there)); first | done | fail)
  · obtain rfl : i = ds.length := by omega
    rw [List.take_length]
    repeat (first
      | (refine g_ops ?_; first | refine s_q ?_ | refine s_v ?_ | refine s_s ?_ | refine s_n (fun _ => ?_) | refine s_x ?_ | refine s_y ?_ | refine s_mq ?_ | refine s_app (fun _ _ => ?_) | refine s_mv ?_ | refine s_ms ?_ | refine s_b0 (fun _ => ?_) | ((fail_if_success refine g_lit rfl rfl rfl ?_); first | apply g_partM rfl rfl rfl | apply g_partMB rfl rfl rfl | fail))
      | refine g_seq ?_ | refine g_region ?_ | refine g_nil ?_ | refine g_then_normal ?_ | refine g_block ?_ | refine g_in_normal ?_ | refine g_retc ?_
      | refine g_then_ret ?_ | refine g_in_ret ?_ | refine g_exit ?_ | refine g_then_exit ?_ | refine g_in_exit ?_ | refine g_in_other rfl ?_ | refine g_skip ?_
      | refine g_label ?_ | refine g_cond_true rfl ?_ | refine g_cond_false rfl ?_ | exact s_m | intro _)
    cases fd with
    | false =>
      have hno := hW.no rfl
      refine g_as 7 (v' := int (-1)) rfl rfl ?_
      refine g_as 39 (v' := .bool true) rfl rfl ?_
      repeat ((fail_if_success refine s_at 45 ?_); first
        | (refine g_ops ?_; first | refine s_q ?_ | refine s_v ?_ | refine s_s ?_ | refine s_n (fun _ => ?_) | refine s_x ?_ | refine s_y ?_ | refine s_mq ?_ | refine s_app (fun _ _ => ?_) | refine s_mv ?_ | refine s_ms ?_ | refine s_b0 (fun _ => ?_) | ((fail_if_success refine g_lit rfl rfl rfl ?_); first | apply g_partM rfl rfl rfl | apply g_partMB rfl rfl rfl | fail))
        | refine g_seq ?_ | refine g_region ?_ | refine g_nil ?_ | refine g_then_normal ?_ | refine g_block ?_ | refine g_in_normal ?_ | refine g_retc ?_
        | refine g_then_ret ?_ | refine g_in_ret ?_ | refine g_exit ?_ | refine g_then_exit ?_ | refine g_in_exit ?_ | refine g_in_other rfl ?_ | refine g_skip ?_
        | refine g_label ?_ | refine g_cond_true rfl ?_ | refine g_cond_false rfl ?_ | exact s_m | intro _)
      first
        | (refine g_ops ?_; first | refine s_q ?_ | refine s_v ?_ | refine s_s ?_ | refine s_n (fun _ => ?_) | refine s_x ?_ | refine s_y ?_ | refine s_mq ?_ | refine s_app (fun _ _ => ?_) | refine s_mv ?_ | refine s_ms ?_ | refine s_b0 (fun _ => ?_) | ((fail_if_success refine g_lit rfl rfl rfl ?_); first | apply g_partM rfl rfl rfl | apply g_partMB rfl rfl rfl | fail))
        | refine g_seq ?_ | refine g_region ?_ | refine g_nil ?_ | refine g_then_normal ?_ | refine g_block ?_ | refine g_in_normal ?_ | refine g_retc ?_
        | refine g_then_ret ?_ | refine g_in_ret ?_ | refine g_exit ?_ | refine g_then_exit ?_ | refine g_in_exit ?_ | refine g_in_other rfl ?_ | refine g_skip ?_
        | refine g_label ?_ | refine g_cond_true rfl ?_ | refine g_cond_false rfl ?_ | exact s_m | intro _
      refine g_as 45 (v' := .bool false) rfl (congrArg Value.bool (decide_eq_false (by omega))) ?_
      repeat (first
        | (refine g_ops ?_; first | refine s_q ?_ | refine s_v ?_ | refine s_s ?_ | refine s_n (fun _ => ?_) | refine s_x ?_ | refine s_y ?_ | refine s_mq ?_ | refine s_app (fun _ _ => ?_) | refine s_mv ?_ | refine s_ms ?_ | refine s_b0 (fun _ => ?_) | ((fail_if_success refine g_lit rfl rfl rfl ?_); first | apply g_partM rfl rfl rfl | apply g_partMB rfl rfl rfl | fail))
        | refine g_seq ?_ | refine g_region ?_ | refine g_nil ?_ | refine g_then_normal ?_ | refine g_block ?_ | refine g_in_normal ?_ | refine g_retc ?_
        | refine g_then_ret ?_ | refine g_in_ret ?_ | refine g_exit ?_ | refine g_then_exit ?_ | refine g_in_exit ?_ | refine g_in_other rfl ?_ | refine g_skip ?_
        | refine g_label ?_ | refine g_cond_true rfl ?_ | refine g_cond_false rfl ?_ | exact s_m | intro _)
      refine g_cond_dec rfl (fun h2 => ?_) (fun h2 => ?_)
      · repeat (first
          | (refine g_ops ?_; first | refine s_q ?_ | refine s_v ?_ | refine s_s ?_ | refine s_n (fun _ => ?_) | refine s_x ?_ | refine s_y ?_ | refine s_mq ?_ | refine s_app (fun _ _ => ?_) | refine s_mv ?_ | refine s_ms ?_ | refine s_b0 (fun _ => ?_) | ((fail_if_success refine g_lit rfl rfl rfl ?_); first | apply g_partM rfl rfl rfl | apply g_partMB rfl rfl rfl | fail))
          | refine g_seq ?_ | refine g_region ?_ | refine g_nil ?_ | refine g_then_normal ?_ | refine g_block ?_ | refine g_in_normal ?_ | refine g_retc ?_
          | refine g_then_ret ?_ | refine g_in_ret ?_ | refine g_exit ?_ | refine g_then_exit ?_ | refine g_in_exit ?_ | refine g_in_other rfl ?_ | refine g_skip ?_
          | refine g_label ?_ | refine g_cond_true rfl ?_ | refine g_cond_false rfl ?_ | exact s_m | intro _)
        exact g_ret (⟨3, q, c, ds, H⟩ : MX) rfl (by (repeat (first | exact RVs.nil | apply RVs.tmp rfl | apply RVs.cellA rfl (by (repeat (first | exact Sel.here | apply Sel.there)); first | done | fail) (by (repeat (first | exact Cut.zero | apply Cut.take | apply Cut.skip)); first | done | fail) | apply RVs.cell1 rfl (by (repeat (first | exact Sel.here | apply Sel.there)); first | done | fail) rfl)); first | done | fail) (by (repeat (first | exact Take.nil | apply Take.cons | exact Sel.here | apply Sel.there)); first | done | fail) rfl ⟨HP.sub.refl _, hD, .inr ⟨by omega, rfl, rfl⟩⟩
      · repeat (first
          | (refine g_ops ?_; first | refine s_q ?_ | refine s_v ?_ | refine s_s ?_ | refine s_n (fun _ => ?_) | refine s_x ?_ | refine s_y ?_ | refine s_mq ?_ | refine s_app (fun _ _ => ?_) | refine s_mv ?_ | refine s_ms ?_ | refine s_b0 (fun _ => ?_) | ((fail_if_success refine g_lit rfl rfl rfl ?_); first | apply g_partM rfl rfl rfl | apply g_partMB rfl rfl rfl | fail))
          | refine g_seq ?_ | refine g_region ?_ | refine g_nil ?_ | refine g_then_normal ?_ | refine g_block ?_ | refine g_in_normal ?_ | refine g_retc ?_
          | refine g_then_ret ?_ | refine g_in_ret ?_ | refine g_exit ?_ | refine g_then_exit ?_ | refine g_in_exit ?_ | refine g_in_other rfl ?_ | refine g_skip ?_
          | refine g_label ?_ | refine g_cond_true rfl ?_ | refine g_cond_false rfl ?_ | exact s_m | intro _)
        refine s_app (src := srcAt hS inferInstance (by (repeat (first | exact Sel.here | apply Sel.there)); first | done | fail) (by decide)) (fun q2 c2 => ?_)
        rw [List.nil_append, Nat.zero_add]
        refine g_own (p := q2) (len := l.length) (cap := c2) (n := 1) (xs := cells8 l) (e := 5) (by (repeat (first | exact Sel.here | apply Sel.there)); first | done | fail) (fun _ hc2 _ => ?_)
        refine g_pile (p := q2) (m := l.length) (c := c2) (n := 1) (xs := cells8 l) (e := 5) (by (repeat (first | exact Sel.here | apply Sel.there)); first | done | fail) (by (repeat (first | exact Sel.here | apply Sel.there)); first | done | fail) (fun H2 hs2 hA2 => ?_)
        have hput := put m room (ops + 1) last q c ds ⟨nm, q2, c2, l, 0⟩ k hno.2 hn
        dsimp only [Df.cells] at hput
        rw [show ((0 : Nat) : Int) = 0 from rfl] at hput
        repeat (first
          | (refine g_ops ?_; first | refine s_q ?_ | refine s_v ?_ | refine s_s ?_ | refine s_n (fun _ => ?_) | refine s_x ?_ | refine s_y ?_ | refine s_mq ?_ | refine s_app (fun _ _ => ?_) | refine s_mv ?_ | refine s_ms ?_ | refine s_b0 (fun _ => ?_) | ((fail_if_success refine g_lit rfl rfl rfl ?_); first | apply g_partM rfl rfl rfl | apply g_partMB rfl rfl rfl | fail) | refine s_c (hput) (fun _ _ => ?_))
          | refine g_seq ?_ | refine g_region ?_ | refine g_nil ?_ | refine g_then_normal ?_ | refine g_block ?_ | refine g_in_normal ?_ | refine g_retc ?_
          | refine g_then_ret ?_ | refine g_in_ret ?_ | refine g_exit ?_ | refine g_then_exit ?_ | refine g_in_exit ?_ | refine g_in_other rfl ?_ | refine g_skip ?_
          | refine g_label ?_ | refine g_cond_true rfl ?_ | refine g_cond_false rfl ?_ | exact s_m | intro _)
        rename_i y _
        obtain ⟨q3, c3⟩ := y
        exact g_ret (⟨0, q3, c3, dins ds k ⟨nm, q2, c2, l, 0⟩, H2⟩ : MX) rfl (by (repeat (first | exact RVs.nil | apply RVs.tmp rfl | apply RVs.cellA rfl (by (repeat (first | exact Sel.here | apply Sel.there)); first | done | fail) (by (repeat (first | exact Cut.zero | apply Cut.take | apply Cut.skip)); first | done | fail) | apply RVs.cell1 rfl (by (repeat (first | exact Sel.here | apply Sel.there)); first | done | fail) rfl)); first | done | fail) (by (repeat (first | exact Take.nil | apply Take.cons | exact Sel.here | apply Sel.there)); first | done | fail) rfl ⟨hs2, (hD.grow hs2).ins k ⟨hA2, hc2⟩, .inl ⟨by omega, rfl, .inr ⟨rfl, _, rfl, rfl⟩⟩⟩
    | true =>
      have hyes := hW.yes rfl
      have hkl := hyes.lt
      refine g_as 7 (v' := int (k : Int)) rfl rfl ?_
      refine g_as 39 (v' := .bool false) rfl (congrArg Value.bool (decide_eq_false (by simp))) ?_
      repeat (first
        | (refine g_ops ?_; first | refine s_q ?_ | refine s_v ?_ | refine s_s ?_ | refine s_n (fun _ => ?_) | refine s_x ?_ | refine s_y ?_ | refine s_mq ?_ | refine s_app (fun _ _ => ?_) | refine s_mv ?_ | refine s_ms ?_ | refine s_b0 (fun _ => ?_) | ((fail_if_success refine g_lit rfl rfl rfl ?_); first | apply g_partM rfl rfl rfl | apply g_partMB rfl rfl rfl | fail))
        | refine g_seq ?_ | refine g_region ?_ | refine g_nil ?_ | refine g_then_normal ?_ | refine g_block ?_ | refine g_in_normal ?_ | refine g_retc ?_
        | refine g_then_ret ?_ | refine g_in_ret ?_ | refine g_exit ?_ | refine g_then_exit ?_ | refine g_in_exit ?_ | refine g_in_other rfl ?_ | refine g_skip ?_
        | refine g_label ?_ | refine g_cond_true rfl ?_ | refine g_cond_false rfl ?_ | exact s_m | intro _)
      refine g_cond_dec rfl (fun h2 => ?_) (fun h2 => ?_)
      · repeat (first
          | (refine g_ops ?_; first | refine s_q ?_ | refine s_v ?_ | refine s_s ?_ | refine s_n (fun _ => ?_) | refine s_x ?_ | refine s_y ?_ | refine s_mq ?_ | refine s_app (fun _ _ => ?_) | refine s_mv ?_ | refine s_ms ?_ | refine s_b0 (fun _ => ?_) | ((fail_if_success refine g_lit rfl rfl rfl ?_); first | apply g_partM rfl rfl rfl | apply g_partMB rfl rfl rfl | fail))
          | refine g_seq ?_ | refine g_region ?_ | refine g_nil ?_ | refine g_then_normal ?_ | refine g_block ?_ | refine g_in_normal ?_ | refine g_retc ?_
          | refine g_then_ret ?_ | refine g_in_ret ?_ | refine g_exit ?_ | refine g_then_exit ?_ | refine g_in_exit ?_ | refine g_in_other rfl ?_ | refine g_skip ?_
          | refine g_label ?_ | refine g_cond_true rfl ?_ | refine g_cond_false rfl ?_ | exact s_m | intro _)
        exact g_ret (⟨3, q, c, ds, H⟩ : MX) rfl (by (repeat (first | exact RVs.nil | apply RVs.tmp rfl | apply RVs.cellA rfl (by (repeat (first | exact Sel.here | apply Sel.there)); first | done | fail) (by (repeat (first | exact Cut.zero | apply Cut.take | apply Cut.skip)); first | done | fail) | apply RVs.cell1 rfl (by (repeat (first | exact Sel.here | apply Sel.there)); first | done | fail) rfl)); first | done | fail) (by (repeat (first | exact Take.nil | apply Take.cons | exact Sel.here | apply Sel.there)); first | done | fail) rfl ⟨HP.sub.refl _, hD, .inr ⟨by omega, rfl, rfl⟩⟩
      · repeat (first
          | (refine g_ops ?_; first | refine s_q ?_ | refine s_v ?_ | refine s_s ?_ | refine s_n (fun _ => ?_) | refine s_x ?_ | refine s_y ?_ | refine s_mq ?_ | refine s_app (fun _ _ => ?_) | refine s_mv ?_ | refine s_ms ?_ | refine s_b0 (fun _ => ?_) | ((fail_if_success refine g_lit rfl rfl rfl ?_); first | apply g_partM rfl rfl rfl | apply g_partMB rfl rfl rfl | fail))
          | refine g_seq ?_ | refine g_region ?_ | refine g_nil ?_ | refine g_then_normal ?_ | refine g_block ?_ | refine g_in_normal ?_ | refine g_retc ?_
          | refine g_then_ret ?_ | refine g_in_ret ?_ | refine g_exit ?_ | refine g_then_exit ?_ | refine g_in_exit ?_ | refine g_in_other rfl ?_ | refine g_skip ?_
          | refine g_label ?_ | refine g_cond_true rfl ?_ | refine g_cond_false rfl ?_ | exact s_m | intro _)
        obtain ⟨b, rfl⟩ := hp (by omega)
        have hcell := own_at (b := b) (len := ds.length) (cap := c) (e := 97) df_len (l := ds) (i := k) (a := ds[k]) (by simp [hkl])
        obtain ⟨hSo, _⟩ := hD (ds[k]'hkl) (List.getElem_mem _)
        have hut := usedD_take ds k hkl
        have hul := usedD_le ds (k + 1)
        have hge : ds[k]? = some ds[k] := by simp [hkl]
        have hfl := flat_len df_len ds
        have hmem : ∀ z : Df, ds.set k z = dupd ds k z := fun z => set_upd ds k z hkl
        generalize hdx : ds[k] = x at hcell hSo hut hge
        obtain ⟨xnm, xp, xc, xbs, xsy⟩ := x
        dsimp only at hSo hut
        refine g_draw (.take 0 (.take 1 (.take 2 (.see 3 [17,18,19] (.take 4 (.take 6 (.take 7 (.take 8 (.see 9 [11,12,13,14,16,17,18,19] (.take 10 (.take 11 (.take 12 (.see 13 [14,16,17,18,19] (.take 15 (.one 5 (.one 14 (.one 16 (.take 17 (.take 18 (.thaw 19 .done)))))))))))))))))))) (by kernel_rfl) (take_all _) (fun k2 hd hk => ?_)
        repeat (first
          | (refine gp_take ?_; first | refine p_q ?_ | refine p_x ?_ | refine p_mq ?_ | ((fail_if_success refine gp_lit rfl rfl rfl rfl ?_); first | apply gp_guard_dec rfl rfl rfl rfl | apply gp_guard rfl rfl rfl rfl | fail))
          | (refine gp_see ?_; first | refine p_f ?_ | refine p_sx ?_ | ((fail_if_success refine gp_lit rfl rfl rfl rfl ?_); first | apply gp_guard_dec rfl rfl rfl rfl | apply gp_guard rfl rfl rfl rfl | fail) | refine p_sq ?_)
          | (refine gp_one ?_; first | refine p_v ?_ | refine p_s ?_ | refine p_n (fun _ => ?_) | refine p_y ?_ | refine p_app (fun _ _ => ?_) | refine p_mv ?_ | refine p_ms ?_ | refine p_b0 (fun _ => ?_) | ((fail_if_success refine gp_lit rfl rfl rfl rfl ?_); first | apply gp_guard_dec rfl rfl rfl rfl | apply gp_guard rfl rfl rfl rfl | fail))
          | refine gp_two ?_ ?_ | refine gp_done hd hk ?_ | intro _ | refine p_ta hd hk (fun _ _ _ hd hk => ?_) | refine p_ts hd hk (fun _ hd hk => ?_))
        dsimp only
        refine p_app (src := srcF hd hk hSo inferInstance (by (repeat (first | exact Sel.here | apply Sel.there)); first | done | fail) (by decide)) (fun q2 c2 => ?_)
        rw [List.nil_append, Nat.zero_add]
        repeat (first
          | (refine gp_take ?_; first | refine p_q ?_ | refine p_x ?_ | refine p_mq ?_ | ((fail_if_success refine gp_lit rfl rfl rfl rfl ?_); first | apply gp_guard_dec rfl rfl rfl rfl | apply gp_guard rfl rfl rfl rfl | fail))
          | (refine gp_see ?_; first | refine p_f ?_ | refine p_sx ?_ | ((fail_if_success refine gp_lit rfl rfl rfl rfl ?_); first | apply gp_guard_dec rfl rfl rfl rfl | apply gp_guard rfl rfl rfl rfl | fail) | refine p_sq ?_)
          | (refine gp_one ?_; first | refine p_v ?_ | refine p_s ?_ | refine p_n (fun _ => ?_) | refine p_y ?_ | refine p_app (fun _ _ => ?_) | refine p_mv ?_ | refine p_ms ?_ | refine p_b0 (fun _ => ?_) | ((fail_if_success refine gp_lit rfl rfl rfl rfl ?_); first | apply gp_guard_dec rfl rfl rfl rfl | apply gp_guard rfl rfl rfl rfl | fail))
          | refine gp_two ?_ ?_ | refine gp_done hd hk ?_ | intro _ | refine p_ta hd hk (fun _ _ _ hd hk => ?_) | refine p_ts hd hk (fun _ hd hk => ?_))
        refine p_app (src := srcF hd hk hS inferInstance (by (repeat (first | exact Sel.here | apply Sel.there)); first | done | fail) (by decide)) (fun q3 c3 => ?_)
        rw [cells8_append, ← List.length_append]
        repeat (first
          | (refine gp_take ?_; first | refine p_q ?_ | refine p_x ?_ | refine p_mq ?_ | ((fail_if_success refine gp_lit rfl rfl rfl rfl ?_); first | apply gp_guard_dec rfl rfl rfl rfl | apply gp_guard rfl rfl rfl rfl | fail))
          | (refine gp_see ?_; first | refine p_f ?_ | refine p_sx ?_ | ((fail_if_success refine gp_lit rfl rfl rfl rfl ?_); first | apply gp_guard_dec rfl rfl rfl rfl | apply gp_guard rfl rfl rfl rfl | fail) | refine p_sq ?_)
          | (refine gp_one ?_; first | refine p_v ?_ | refine p_s ?_ | refine p_n (fun _ => ?_) | refine p_y ?_ | refine p_app (fun _ _ => ?_) | refine p_mv ?_ | refine p_ms ?_ | refine p_b0 (fun _ => ?_) | ((fail_if_success refine gp_lit rfl rfl rfl rfl ?_); first | apply gp_guard_dec rfl rfl rfl rfl | apply gp_guard rfl rfl rfl rfl | fail))
          | refine gp_two ?_ ?_ | refine gp_done hd hk ?_ | intro _ | refine p_ta hd hk (fun _ _ _ hd hk => ?_) | refine p_ts hd hk (fun _ hd hk => ?_))
        refine p_ts hd hk (fun k2 hd hk => ?_) (h := ss_storeOwn inferInstance rfl rfl rfl (by (repeat (first | exact Sel.here | apply Sel.there)); first | done | fail) (by rw [hfl]; omega))
        rw [flat_setC df_len ds k 1 ⟨xnm, xp, xc, xbs, xsy⟩ ⟨xnm, q3, c3, xbs ++ l, xsy⟩ _ hge rfl (by decide), hmem]
        repeat (first
          | (refine gp_take ?_; first | refine p_q ?_ | refine p_x ?_ | refine p_mq ?_ | ((fail_if_success refine gp_lit rfl rfl rfl rfl ?_); first | apply gp_guard_dec rfl rfl rfl rfl | apply gp_guard rfl rfl rfl rfl | fail))
          | (refine gp_see ?_; first | refine p_f ?_ | refine p_sx ?_ | ((fail_if_success refine gp_lit rfl rfl rfl rfl ?_); first | apply gp_guard_dec rfl rfl rfl rfl | apply gp_guard rfl rfl rfl rfl | fail) | refine p_sq ?_)
          | (refine gp_one ?_; first | refine p_v ?_ | refine p_s ?_ | refine p_n (fun _ => ?_) | refine p_y ?_ | refine p_app (fun _ _ => ?_) | refine p_mv ?_ | refine p_ms ?_ | refine p_b0 (fun _ => ?_) | ((fail_if_success refine gp_lit rfl rfl rfl rfl ?_); first | apply gp_guard_dec rfl rfl rfl rfl | apply gp_guard rfl rfl rfl rfl | fail))
          | refine gp_two ?_ ?_ | refine gp_done hd hk ?_ | intro _ | refine p_ta hd hk (fun _ _ _ hd hk => ?_) | refine p_ts hd hk (fun _ hd hk => ?_))
        dsimp only [List.cons_append, List.nil_append]
        refine g_own (p := q3) (len := (xbs ++ l).length) (cap := c3) (n := 1) (xs := cells8 (xbs ++ l)) (e := 5) (by (repeat (first | exact Sel.here | apply Sel.there)); first | done | fail) (fun _ hc3 _ => ?_)
        refine g_pile (p := q3) (m := (xbs ++ l).length) (c := c3) (n := 1) (xs := cells8 (xbs ++ l)) (e := 5) (by (repeat (first | exact Sel.here | apply Sel.there)); first | done | fail) (by (repeat (first | exact Sel.here | apply Sel.there)); first | done | fail) (fun H2 hs2 hA2 => ?_)
        have hlu : (dupd ds k ⟨xnm, q3, c3, xbs ++ l, xsy⟩).length = ds.length := by simp [dupd]; omega
        repeat (first
          | (refine g_ops ?_; first | refine s_q ?_ | refine s_v ?_ | refine s_s ?_ | refine s_n (fun _ => ?_) | refine s_x ?_ | refine s_y ?_ | refine s_mq ?_ | refine s_app (fun _ _ => ?_) | refine s_mv ?_ | refine s_ms ?_ | refine s_b0 (fun _ => ?_) | ((fail_if_success refine g_lit rfl rfl rfl ?_); first | apply g_partM rfl rfl rfl | apply g_partMB rfl rfl rfl | fail))
          | refine g_seq ?_ | refine g_region ?_ | refine g_nil ?_ | refine g_then_normal ?_ | refine g_block ?_ | refine g_in_normal ?_ | refine g_retc ?_
          | refine g_then_ret ?_ | refine g_in_ret ?_ | refine g_exit ?_ | refine g_then_exit ?_ | refine g_in_exit ?_ | refine g_in_other rfl ?_ | refine g_skip ?_
          | refine g_label ?_ | refine g_cond_true rfl ?_ | refine g_cond_false rfl ?_ | exact s_m | intro _)
        exact g_ret (⟨0, some ⟨b, 0, none⟩, c, dupd ds k ⟨xnm, q3, c3, xbs ++ l, xsy⟩, H2⟩ : MX) rfl (by (repeat (first | exact RVs.nil | apply RVs.tmp rfl | apply RVs.cellA rfl (by (repeat (first | exact Sel.here | apply Sel.there)); first | done | fail) (by (repeat (first | exact Cut.zero | apply Cut.take | apply Cut.skip)); first | done | fail) | apply RVs.cell1 rfl (by (repeat (first | exact Sel.here | apply Sel.there)); first | done | fail) rfl)); first | done | fail) (by dsimp only [mL, mrow, mown]; rw [hlu]; exact (by (repeat (first | exact Take.nil | apply Take.cons | exact Sel.here | apply Sel.there)); first | done | fail)) rfl ⟨hs2, (hD.grow hs2).upd k ⟨hA2, hc3⟩, .inl ⟨by omega, rfl, .inl ⟨rfl, _, hkl, rfl, by rw [hdx]⟩⟩⟩
end Go.Proofs.Ytfjkfcfmbipfhaa
