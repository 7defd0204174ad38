/- Contracts and laws that the proof stands on. -/
import Derived.Test.YtcgmliaahdpmcaaGreatDoorTablePlays16
set_option linter.unusedSimpArgs false
set_option linter.unusedVariables false
namespace Go.Sl
variable {P : Program} {Γ : Ctx} {L R : List Chunk} {N : Nat} {fr : Fr} {Q : Exit → Act → World → Prop} {ops : Array Oper} {rest : List Oper}
variable {d : Nat} {ty : TypeId} {pos : String} {aft : Array Edge} {gd : Option (Nat × Bool)} {x y z : Operand} {v u : Value} {t t2 tx : TypeId}
theorem u32_mod (n : Int) : IntKind.u32.wrap n = n % 4294967296 := rfl
theorem qs_xor32 {a b : Nat} (hx : ev fr x = some (.int .u32 a)) (hy : ev fr y = some (.int .u32 b)) (ha : a < 4294967296) (hb : b < 4294967296) : QStep P Γ fr ⟨some d, .binOp .xor t x y t2, ty, pos, aft, gd⟩ (.int .u32 ((a ^^^ b : Nat) : Int)) :=
  qs_of (fun c w hf => by
    have e1 := bv_nat 32 a ha
    have e2 := bv_nat 32 b hb
    have e3 : (BitVec.ofInt IntKind.u32.bits (a : Int) ^^^ BitVec.ofInt IntKind.u32.bits (b : Int)).toNat = a ^^^ b := by
      show (BitVec.ofInt 32 (a : Int) ^^^ BitVec.ofInt 32 (b : Int)).toNat = a ^^^ b
      rw [BitVec.toNat_xor, e1, e2]
    have e4 : a ^^^ b < 4294967296 := Nat.xor_lt_two_pow (n := 32) ha hb
    have e5 : IntKind.u32.wrap ((a ^^^ b : Nat) : Int) = ((a ^^^ b : Nat) : Int) := by rw [u32_mod]; omega
    simp only [execOp, hf.ev hx, hf.ev hy, eqGuard_at_int, binOp_xor, Op.intBits, e3, e5]
    simp)
theorem ss_clearFrom {e : TypeId} {b n cap o m c' : Nat} {xs : List Value} {zv : Value} (D : TDesc P t (.slice e)) (Z : TZero P e zv) (hz : zv.cells = #[zv]) (h1 : zv.oneCell' = true) (hx : ev fr x = some (.slice (some ⟨b, o, none⟩) m c')) (hm : 0 < m) (ho : o + m = n) (s : Sel L (.own (some ⟨b, 0, none⟩) n cap 1 xs e) R) :
    SStep P Γ fr L ⟨none, .call ⟨.builtin .clear, [x].toArray, [t].toArray⟩, ty, pos, aft, gd⟩ (.own (some ⟨b, 0, none⟩) n cap 1 (xs.take o ++ List.replicate m zv) e :: R) := fun a hf w hh => by
  have hpl := own_place hh s
  have hxl : xs.length = n := by have := hpl.1; rwa [Nat.mul_one] at this
  have hall := own_one hh s
  obtain ⟨g1, g2, g3⟩ := hh.setOwn (o := o) (cs := List.replicate m zv) (zs := xs.take o ++ List.replicate m zv) (len' := n) s (by omega) hpl.2.1 (by simp [hxl]; omega) (by simp; omega) (fun v hv => by rw [List.eq_of_mem_replicate hv]; exact h1) (by
    rw [List.all_eq_true] at hall ⊢
    intro z hz'
    rcases List.mem_append.1 hz' with h | h
    · exact hall z (List.mem_of_mem_take h)
    · rw [List.eq_of_mem_replicate h]; exact h1) (fun j v hv => by
      rw [List.length_replicate]
      by_cases hj : j < o
      · rw [List.getElem?_append_left (by simp [hxl]; omega), List.getElem?_take, if_pos hj] at hv
        rw [if_neg (by omega)]; exact hv
      · rw [List.getElem?_append_right (by simp [hxl]; omega)] at hv
        have h2 := (List.getElem?_eq_some_iff.1 hv).1
        simp [hxl] at h2
        have ht : (xs.take o).length = o := by simp [hxl]; omega
        rw [ht] at hv
        rw [if_pos (by omega)]; exact hv)
  have hcl := Lib.run_clear_slice w t e ty zv D.desc (fun w => run_zeroValue' Z.zero w) hz h1 b o m c' hm (fun j hj => g2 j (by simpa using hj)) (fun j hj => g3 j (by simpa using hj))
  have hr : (execOp a.eval ⟨none, .call ⟨.builtin .clear, [x].toArray, [t].toArray⟩, ty, pos, aft, gd⟩).run P w = .ok (.value (.tuple #[])) (w.setCells b o (List.replicate m zv)) := by
    have hb' : ∀ {ats : Array TypeId} {cs : Array Bool} {args : Array Value}, builtin .clear ats ty cs args = (do pure (.value (← Builtin.clear_ ats ty args))) := rfl
    simp only [execOp, resolve, hf.ev hx, List.map_toArray, List.map_cons, List.map_nil, Sem.run_bind, Sem.run_pure, Result.andThen_ok, invoke, hb', hcl]
  unfold opRes
  rw [hr]
  exact g1
end Go.Sl
namespace Go.Proofs.YtcgmliaahdpmcaaGreatDoor
open Go.Sl facts
attribute [local irreducible] Code.wp wpList Exit.then Exit.inBlock bodyPost Back MidQ G GP QStep VStep CStep SStep Does Post Reads
@[irreducible] def hashStep (h : Nat) (b : UInt8) : Nat := ((h ^^^ b.toNat) * 16777619) % 4294967296
theorem hashStep_eq (h : Nat) (b : UInt8) : hashStep h b = ((h ^^^ b.toNat) * 16777619) % 4294967296 := by unfold hashStep; rfl
def hashF (h : Nat) (l : List UInt8) : Nat := l.foldl hashStep h
@[irreducible] def hash0 : Nat := 2166136261
theorem hash0_eq : hash0 = 2166136261 := by unfold hash0; rfl
def hashN (s : ByteArray) : Nat := hashF hash0 s.data.toList
theorem hash_step (s : ByteArray) (i : Nat) (h : i < s.size) (h0 : Nat) : hashF h0 (s.data.toList.take (i + 1)) = hashStep (hashF h0 (s.data.toList.take i)) (at8 s i) := by
  have h' : i < s.data.toList.length := by simpa using h
  unfold hashF at8
  rw [take_snoc _ i 0 h', List.foldl_append, List.foldl_cons, List.foldl_nil]
theorem hash_lt (l : List UInt8) (h : Nat) (hh : h < 4294967296) : hashF h l < 4294967296 := by
  induction l generalizing h with
  | nil => exact hh
  | cons b l ih => exact ih _ (by rw [hashStep_eq]; exact Nat.mod_lt _ (by decide))
theorem hash (s : ByteArray) (hs : s.size ≤ 9223372036854775807) : Does1 Tryz.prog 76 [.string s] [] (.int .u32 (hashN s)) := by
  refine fn_intro Tryz.func76 rfl Tryz.ntmps76 rfl (by simp only [argFr, Nat.zero_add, Nat.reduceAdd]; rfl) (fun Γ => ?_)
  repeat (first
    | (refine g_ops ?_; first | refine s_q ?_ | refine s_v ?_ | refine s_s ?_ | refine s_n (fun _ => ?_) | refine s_x ?_ | refine s_y ?_ | refine s_mq ?_ | refine s_app (fun _ _ => ?_) | refine s_mv ?_ | refine s_ms ?_ | refine s_b0 (fun _ => ?_) | ((fail_if_success refine g_lit rfl rfl rfl ?_); first | apply g_partM rfl rfl rfl | apply g_partMB rfl rfl rfl | fail))
    | refine g_seq ?_ | refine g_region ?_ | refine g_nil ?_ | refine g_then_normal ?_ | refine g_block ?_ | refine g_in_normal ?_ | refine g_retc ?_ | refine g_then_ret ?_
    | refine g_in_ret ?_ | refine g_exit ?_ | refine g_then_exit ?_ | refine g_in_exit ?_ | refine g_in_other rfl ?_ | refine g_skip ?_ | refine g_label ?_
    | refine g_cond_true rfl ?_ | refine g_cond_false rfl ?_ | exact s_m | intro _)
  refine g_as 3 (v' := .int .u32 (hashF hash0 (s.data.toList.take 0))) rfl (congrArg (Value.int .u32) (by rw [List.take_zero, hashF, List.foldl_nil, hash0_eq]; rfl)) ?_
  refine g_loop (X := Nat) (fun i => [(0, .string s), (3, .int .u32 (hashF hash0 (s.data.toList.take i))), (6, int s.size), (7, int i)]) (fun _ => []) (fun i => i ≤ s.size) (fun i => s.size - i) 0 (Nat.zero_le _) (by (repeat (first | exact FrSub.nil | refine FrSub.cons rfl ?_)); first | done | fail) (by (repeat (first | exact Take.nil | apply Take.cons | exact Sel.here | apply Sel.there)); first | done | fail) (fun i hi => ?_)
  repeat (first
    | (refine g_ops ?_; first | refine s_q ?_ | refine s_v ?_ | refine s_s ?_ | refine s_n (fun _ => ?_) | refine s_x ?_ | refine s_y ?_ | refine s_mq ?_ | refine s_app (fun _ _ => ?_) | refine s_mv ?_ | refine s_ms ?_ | refine s_b0 (fun _ => ?_) | ((fail_if_success refine g_lit rfl rfl rfl ?_); first | apply g_partM rfl rfl rfl | apply g_partMB rfl rfl rfl | fail))
    | refine g_seq ?_ | refine g_region ?_ | refine g_nil ?_ | refine g_then_normal ?_ | refine g_block ?_ | refine g_in_normal ?_ | refine g_retc ?_ | refine g_then_ret ?_
    | refine g_in_ret ?_ | refine g_exit ?_ | refine g_then_exit ?_ | refine g_in_exit ?_ | refine g_in_other rfl ?_ | refine g_skip ?_ | refine g_label ?_
    | refine g_cond_true rfl ?_ | refine g_cond_false rfl ?_ | exact s_m | intro _)
  refine g_cond_dec rfl (fun h => ?_) (fun h => ?_)
  · have hi' : i < s.size := by omega
    have hst := hash_step s i hi' hash0
    have hlt := hash_lt (s.data.toList.take i) hash0 (by rw [hash0_eq]; decide)
    generalize hashF hash0 (s.data.toList.take i) = h0 at hst hlt
    have hb := (at8 s i).toNat_lt
    repeat (first
      | (refine g_ops ?_; first | refine s_q ?_ | refine s_v ?_ | refine s_s ?_ | refine s_n (fun _ => ?_) | refine s_x ?_ | refine s_y ?_ | refine s_mq ?_ | refine s_app (fun _ _ => ?_) | refine s_mv ?_ | refine s_ms ?_ | refine s_b0 (fun _ => ?_) | ((fail_if_success refine g_lit rfl rfl rfl ?_); first | apply g_partM rfl rfl rfl | apply g_partMB rfl rfl rfl | fail))
      | refine g_seq ?_ | refine g_region ?_ | refine g_nil ?_ | refine g_then_normal ?_ | refine g_block ?_ | refine g_in_normal ?_ | refine g_retc ?_
      | refine g_then_ret ?_ | refine g_in_ret ?_ | refine g_exit ?_ | refine g_then_exit ?_ | refine g_in_exit ?_ | refine g_in_other rfl ?_ | refine g_skip ?_
      | refine g_label ?_ | refine g_cond_true rfl ?_ | refine g_cond_false rfl ?_ | exact s_m | intro _)
    refine s_q (q := by exact qs_indexStr inferInstance rfl rfl hi') ?_
    refine s_q (q := by exact qs_convInt rfl) ?_
    refine g_as 14 (v' := .int .u32 (((at8 s i).toNat : Nat) : Int)) rfl (congrArg (Value.int .u32) (by rw [u32_mod]; omega)) ?_
    refine s_q (q := by exact qs_xor32 rfl rfl hlt (by omega)) ?_
    refine s_q (q := by exact qs_mul rfl rfl) ?_
    refine g_as 16 (v' := .int .u32 ((((h0 ^^^ (at8 s i).toNat) * 16777619) % 4294967296 : Nat) : Int)) rfl (congrArg (Value.int .u32) (by rw [u32_mod]; generalize h0 ^^^ (at8 s i).toNat = q; omega)) ?_
    rw [← hashStep_eq, ← hst]
    repeat (first
      | (refine g_ops ?_; first | refine s_q ?_ | refine s_v ?_ | refine s_s ?_ | refine s_n (fun _ => ?_) | refine s_x ?_ | refine s_y ?_ | refine s_mq ?_ | refine s_app (fun _ _ => ?_) | refine s_mv ?_ | refine s_ms ?_ | refine s_b0 (fun _ => ?_) | ((fail_if_success refine g_lit rfl rfl rfl ?_); first | apply g_partM rfl rfl rfl | apply g_partMB rfl rfl rfl | fail))
      | refine g_seq ?_ | refine g_region ?_ | refine g_nil ?_ | refine g_then_normal ?_ | refine g_block ?_ | refine g_in_normal ?_ | refine g_retc ?_
      | refine g_then_ret ?_ | refine g_in_ret ?_ | refine g_exit ?_ | refine g_then_exit ?_ | refine g_in_exit ?_ | refine g_in_other rfl ?_ | refine g_skip ?_
      | refine g_label ?_ | refine g_cond_true rfl ?_ | refine g_cond_false rfl ?_ | exact s_m | intro _)
    refine g_as 7 (v' := int ((i + 1 : Nat) : Int)) rfl (congrArg (Value.int .i64) (by push_cast; rfl)) ?_
    exact g_again (i + 1) (by omega) hi' (by (repeat (first | exact FrSub.nil | refine FrSub.cons rfl ?_)); first | done | fail) (by (repeat (first | exact Take.nil | apply Take.cons | exact Sel.here | apply Sel.there)); first | done | fail)
  · repeat (first
      | (refine g_ops ?_; first | refine s_q ?_ | refine s_v ?_ | refine s_s ?_ | refine s_n (fun _ => ?_) | refine s_x ?_ | refine s_y ?_ | refine s_mq ?_ | refine s_app (fun _ _ => ?_) | refine s_mv ?_ | refine s_ms ?_ | refine s_b0 (fun _ => ?_) | ((fail_if_success refine g_lit rfl rfl rfl ?_); first | apply g_partM rfl rfl rfl | apply g_partMB rfl rfl rfl | fail))
      | refine g_seq ?_ | refine g_region ?_ | refine g_nil ?_ | refine g_then_normal ?_ | refine g_block ?_ | refine g_in_normal ?_ | refine g_retc ?_
      | refine g_then_ret ?_ | refine g_in_ret ?_ | refine g_exit ?_ | refine g_then_exit ?_ | refine g_in_exit ?_ | refine g_in_other rfl ?_ | refine g_skip ?_
      | refine g_label ?_ | refine g_cond_true rfl ?_ | refine g_cond_false rfl ?_ | exact s_m | intro _)
    have e : i = s.size := by omega
    exact g_ret () rfl (by (repeat (first | exact RVs.nil | apply RVs.tmp rfl | apply RVs.cellA rfl (by (repeat (first | exact Sel.here | apply Sel.there)); first | done | fail) (by (repeat (first | exact Cut.zero | apply Cut.take | apply Cut.skip)); first | done | fail) | apply RVs.cell1 rfl (by (repeat (first | exact Sel.here | apply Sel.there)); first | done | fail) rfl)); first | done | fail) (by (repeat (first | exact Take.nil | apply Take.cons | exact Sel.here | apply Sel.there)); first | done | fail) (by rw [e, show s.size = s.data.toList.length by simp, List.take_length]; rfl) trivial
attribute [local irreducible] hashN
theorem hashN_lt (s : ByteArray) : hashN s < 4294967296 := by unfold hashN; exact hash_lt _ _ (by rw [hash0_eq]; decide)
structure Rg where
  f : Int
  l : Int
  o : Int
  e : Int
abbrev Rg.cells (r : Rg) : List Value := [.int .i64 r.f, .int .i64 r.l, .int .i64 r.o, .int .i64 r.e]
abbrev Rg.v (r : Rg) : Value := .agg r.cells.toArray
def Rg.has (r : Rg) (s : ByteArray) : Bool := decide (r.f ≤ (hashN s : Int)) && decide ((hashN s : Int) ≤ r.l)
theorem inR (r : Rg) (s : ByteArray) (hs : s.size ≤ 9223372036854775807) : Does1 Tryz.prog 60 [r.v, .string s] [] (.bool (r.has s)) := by
  have hlt := hashN_lt s
  refine fn_intro Tryz.func60 rfl Tryz.ntmps60 rfl (by simp only [argFr, Nat.zero_add, Nat.reduceAdd]; rfl) (fun Γ => ?_)
  repeat (first
    | (refine g_ops ?_; first | refine s_q ?_ | refine s_v ?_ | refine s_s ?_ | refine s_n (fun _ => ?_) | refine s_x ?_ | refine s_y ?_ | refine s_mq ?_ | refine s_app (fun _ _ => ?_) | refine s_mv ?_ | refine s_ms ?_ | refine s_b0 (fun _ => ?_) | ((fail_if_success refine g_lit rfl rfl rfl ?_); first | apply g_partM rfl rfl rfl | apply g_partMB rfl rfl rfl | fail) | refine s_k (hash s hs) ?_)
    | refine g_seq ?_ | refine g_region ?_ | refine g_nil ?_ | refine g_then_normal ?_ | refine g_block ?_ | refine g_in_normal ?_ | refine g_retc ?_ | refine g_then_ret ?_
    | refine g_in_ret ?_ | refine g_exit ?_ | refine g_then_exit ?_ | refine g_in_exit ?_ | refine g_in_other rfl ?_ | refine g_skip ?_ | refine g_label ?_
    | refine g_cond_true rfl ?_ | refine g_cond_false rfl ?_ | exact s_m | intro _)
  refine s_q (q := by exact qs_convInt rfl) ?_
  refine g_as 8 (v' := int (hashN s)) rfl (congrArg (Value.int .i64) (wrap_in ⟨by omega, by omega⟩)) ?_
  repeat (first
    | (refine g_ops ?_; first | refine s_q ?_ | refine s_v ?_ | refine s_s ?_ | refine s_n (fun _ => ?_) | refine s_x ?_ | refine s_y ?_ | refine s_mq ?_ | refine s_app (fun _ _ => ?_) | refine s_mv ?_ | refine s_ms ?_ | refine s_b0 (fun _ => ?_) | ((fail_if_success refine g_lit rfl rfl rfl ?_); first | apply g_partM rfl rfl rfl | apply g_partMB rfl rfl rfl | fail))
    | apply g_regB (id := 2) 4 | refine g_seq ?_ | refine g_region ?_ | refine g_nil ?_ | refine g_then_normal ?_ | refine g_block ?_ | refine g_in_normal ?_
    | refine g_retc ?_ | refine g_then_ret ?_ | refine g_in_ret ?_ | refine g_exit ?_ | refine g_then_exit ?_ | refine g_in_exit ?_ | refine g_in_other rfl ?_
    | refine g_skip ?_ | refine g_label ?_ | refine g_cond_true rfl ?_ | refine g_cond_false rfl ?_ | exact s_m | intro _ | (refine gp_take ?_; first | refine p_q ?_ | refine p_x ?_ | refine p_mq ?_ | ((fail_if_success refine gp_lit rfl rfl rfl rfl ?_); first | apply gp_guard_dec rfl rfl rfl rfl | apply gp_guard rfl rfl rfl rfl | fail))
    | (refine gp_see ?_; first | refine p_f ?_ | refine p_sx ?_ | ((fail_if_success refine gp_lit rfl rfl rfl rfl ?_); first | apply gp_guard_dec rfl rfl rfl rfl | apply gp_guard rfl rfl rfl rfl | fail) | refine p_sq ?_)
    | (refine gp_one ?_; first | refine p_v ?_ | refine p_s ?_ | refine p_n (fun _ => ?_) | refine p_y ?_ | refine p_app (fun _ _ => ?_) | refine p_mv ?_ | refine p_ms ?_ | refine p_b0 (fun _ => ?_) | ((fail_if_success refine gp_lit rfl rfl rfl rfl ?_); first | apply gp_guard_dec rfl rfl rfl rfl | apply gp_guard rfl rfl rfl rfl | fail))
    | refine gp_two ?_ ?_ | refine gp_done hd hk ?_ | intro _ | refine p_ta hd hk (fun _ _ _ hd hk => ?_) | refine p_ts hd hk (fun _ hd hk => ?_))
  exact g_ret () rfl (by (repeat (first | exact RVs.nil | apply RVs.tmp rfl | apply RVs.cellA rfl (by (repeat (first | exact Sel.here | apply Sel.there)); first | done | fail) (by (repeat (first | exact Cut.zero | apply Cut.take | apply Cut.skip)); first | done | fail) | apply RVs.cell1 rfl (by (repeat (first | exact Sel.here | apply Sel.there)); first | done | fail) rfl)); first | done | fail) (by (repeat (first | exact Take.nil | apply Take.cons | exact Sel.here | apply Sel.there)); first | done | fail) (by simp [pack, Rg.has, Bool.cond_eq_ite]) trivial
theorem some1 (r : Rg) (b : Nat) (s : ByteArray) (hs : s.size ≤ 9223372036854775807) : Does1 Tryz.prog 59 [.string s, ptr b] [.row b r.cells 34 (0, 0)] (.bool (!r.has s)) := by
  refine fn_intro Tryz.func59 rfl Tryz.ntmps59 rfl (by simp only [argFr, Nat.zero_add, Nat.reduceAdd]; rfl) (fun Γ => ?_)
  repeat (first
    | (refine g_ops ?_; first | refine s_q ?_ | refine s_v ?_ | refine s_s ?_ | refine s_n (fun _ => ?_) | refine s_x ?_ | refine s_y ?_ | refine s_mq ?_ | refine s_app (fun _ _ => ?_) | refine s_mv ?_ | refine s_ms ?_ | refine s_b0 (fun _ => ?_) | ((fail_if_success refine g_lit rfl rfl rfl ?_); first | apply g_partM rfl rfl rfl | apply g_partMB rfl rfl rfl | fail) | refine s_k (inR r s hs) ?_)
    | refine g_seq ?_ | refine g_region ?_ | refine g_nil ?_ | refine g_then_normal ?_ | refine g_block ?_ | refine g_in_normal ?_ | refine g_retc ?_ | refine g_then_ret ?_
    | refine g_in_ret ?_ | refine g_exit ?_ | refine g_then_exit ?_ | refine g_in_exit ?_ | refine g_in_other rfl ?_ | refine g_skip ?_ | refine g_label ?_
    | refine g_cond_true rfl ?_ | refine g_cond_false rfl ?_ | exact s_m | intro _)
  exact g_ret () rfl (by (repeat (first | exact RVs.nil | apply RVs.tmp rfl | apply RVs.cellA rfl (by (repeat (first | exact Sel.here | apply Sel.there)); first | done | fail) (by (repeat (first | exact Cut.zero | apply Cut.take | apply Cut.skip)); first | done | fail) | apply RVs.cell1 rfl (by (repeat (first | exact Sel.here | apply Sel.there)); first | done | fail) rfl)); first | done | fail) (by (repeat (first | exact Take.nil | apply Take.cons | exact Sel.here | apply Sel.there)); first | done | fail) rfl trivial
end Go.Proofs.YtcgmliaahdpmcaaGreatDoor
namespace Go.Sl
def aheadL {α : Type} (p : α → Bool) : List α → Nat
  | [] => 0
  | a :: l => if p a then aheadL p l + 1 else 0
theorem aheadL_le {α : Type} (p : α → Bool) (l : List α) : aheadL p l ≤ l.length := by
  induction l with
  | nil => exact Nat.le_refl _
  | cons a l ih => simp only [aheadL, List.length_cons]; split <;> omega
theorem ahead_at {α : Type} {p : α → Bool} {l : List α} {i : Nat} (hi : i < l.length) (h : ∀ j (hj : j < l.length), j < i → p l[j] = true) (hn : p l[i] = false) : aheadL p l = i := by
  induction l generalizing i with
  | nil => simp at hi
  | cons a l ih =>
    cases i with
    | zero => simp only [List.getElem_cons_zero] at hn; simp [aheadL, hn]
    | succ i =>
      have h0 := h 0 (by simp) (by omega)
      simp only [List.getElem_cons_zero] at h0
      simp only [aheadL, h0, if_true]
      rw [ih (i := i) (by simpa using hi) (fun j hj hji => by have := h (j + 1) (by simpa using hj) (by omega); rwa [List.getElem_cons_succ] at this) (by simpa using hn)]
theorem ahead_all {α : Type} {p : α → Bool} {l : List α} (h : ∀ j (hj : j < l.length), p l[j] = true) : aheadL p l = l.length := by
  induction l with
  | nil => rfl
  | cons a l ih =>
    have h0 := h 0 (by simp)
    simp only [List.getElem_cons_zero] at h0
    simp only [aheadL, h0, if_true, List.length_cons]
    rw [ih fun j hj => by have := h (j + 1) (by simpa using hj); rwa [List.getElem_cons_succ] at this]
theorem ahead_filter {α : Type} (p : α → Bool) (l : List α) : (l.take (aheadL p l)).filter p = l.take (aheadL p l) ∧ (aheadL p l = l.length → l.filter p = l) ∧ ∀ h : aheadL p l < l.length, p l[aheadL p l] = false := by
  induction l with
  | nil => exact ⟨rfl, fun _ => rfl, fun h => by simp [aheadL] at h⟩
  | cons a l ih =>
    obtain ⟨i1, i2, i3⟩ := ih
    cases hp : p a with
    | false => exact ⟨by simp [aheadL, hp], fun h => by simp [aheadL, hp] at h, fun h => by simp [aheadL, hp]⟩
    | true => exact ⟨by simp [aheadL, hp, i1], fun h => by simp only [aheadL, hp, if_true, List.length_cons, Nat.add_right_cancel_iff] at h; simp [hp, i2 h], fun h => by
        simp only [aheadL, hp, if_true, List.length_cons] at h ⊢
        simpa using i3 (by omega)⟩
theorem off0 (p : Option Addr) (cap : Nat) : (if cap = 0 then p else p.map (·.add (0 * 1))) = p := by
  split
  · rfl
  · cases p with
    | none => rfl
    | some a => simp [Addr.add]
theorem offTake (p : Option Addr) (cap m : Nat) : Value.slice (if cap = 0 then p else p.map (·.add (0 * 1))) (m - 0) (cap - 0) = .slice p m cap := by rw [off0]; rfl
theorem offAt (b o cap : Nat) (h : cap ≠ o) : (if cap = o then (some ⟨b, 0, none⟩ : Option Addr) else (some ⟨b, 0, none⟩ : Option Addr).map (·.add (o * 1))) = some ⟨b, o, none⟩ := by
  rw [if_neg h]
  simp [Addr.add]
  exact fun h => h.symm
end Go.Sl
namespace Go.Proofs.YtcgmliaahdpmcaaGreatDoor
open Go.Sl facts
attribute [local irreducible] Code.wp wpList Exit.then Exit.inBlock bodyPost Back MidQ G GP QStep VStep CStep SStep Does Post Reads
abbrev fS1 : FuncId := 59
abbrev rrow (b : Nat) (r : Rg) : Chunk := .row b r.cells 34 (0, 0)
abbrev nmsC (q : Option Addr) (c : Nat) (ys : List ByteArray) : Chunk := .own q ys.length c 1 (ys.map .string) 9
theorem indexF (r : Rg) (b : Nat) (q : Option Addr) (c : Nat) (ys : List ByteArray) (hs : ∀ y ∈ ys, y.size ≤ 9223372036854775807) (hl : ys.length ≤ 1000000000) :
    Does1 Tryz.prog 75 [.slice q ys.length c, .func (.func fS1) #[] #[ptr b]] [nmsC q c ys, rrow b r] (int (if aheadL r.has ys = ys.length then -1 else (aheadL r.has ys : Int))) := by
  refine fn_intro Tryz.func75 rfl Tryz.ntmps75 rfl (by simp only [argFr, Nat.zero_add, Nat.reduceAdd]; rfl) (fun Γ => ?_)
  refine g_own .here (fun _ _ hq => ?_)
  repeat (first
    | (refine g_ops ?_; first | refine s_q ?_ | refine s_v ?_ | refine s_s ?_ | refine s_n (fun _ => ?_) | refine s_x ?_ | refine s_y ?_ | refine s_mq ?_ | refine s_app (fun _ _ => ?_) | refine s_mv ?_ | refine s_ms ?_ | refine s_b0 (fun _ => ?_) | ((fail_if_success refine g_lit rfl rfl rfl ?_); first | apply g_partM rfl rfl rfl | apply g_partMB rfl rfl rfl | fail))
    | refine g_seq ?_ | refine g_region ?_ | refine g_nil ?_ | refine g_then_normal ?_ | refine g_block ?_ | refine g_in_normal ?_ | refine g_retc ?_ | refine g_then_ret ?_
    | refine g_in_ret ?_ | refine g_exit ?_ | refine g_then_exit ?_ | refine g_in_exit ?_ | refine g_in_other rfl ?_ | refine g_skip ?_ | refine g_label ?_
    | refine g_cond_true rfl ?_ | refine g_cond_false rfl ?_ | exact s_m | intro _)
  refine g_loop (X := Nat) (fun i => [(0, .slice q ys.length c), (1, .func (.func fS1) #[] #[ptr b]), (7, int ys.length), (8, int i)]) (fun _ => [nmsC q c ys, rrow b r]) (fun i => i ≤ ys.length ∧ ∀ j (hj : j < ys.length), j < i → r.has ys[j] = true) (fun i => ys.length - i) 0 ⟨Nat.zero_le _, fun j _ h => by omega⟩ (by (repeat (first | exact FrSub.nil | refine FrSub.cons rfl ?_)); first | done | fail) (by (repeat (first | exact Take.nil | apply Take.cons | exact Sel.here | apply Sel.there)); first | done | fail) (fun i hi => ?_)
  obtain ⟨hi, hb⟩ := hi
  repeat (first
    | (refine g_ops ?_; first | refine s_q ?_ | refine s_v ?_ | refine s_s ?_ | refine s_n (fun _ => ?_) | refine s_x ?_ | refine s_y ?_ | refine s_mq ?_ | refine s_app (fun _ _ => ?_) | refine s_mv ?_ | refine s_ms ?_ | refine s_b0 (fun _ => ?_) | ((fail_if_success refine g_lit rfl rfl rfl ?_); first | apply g_partM rfl rfl rfl | apply g_partMB rfl rfl rfl | fail))
    | refine g_seq ?_ | refine g_region ?_ | refine g_nil ?_ | refine g_then_normal ?_ | refine g_block ?_ | refine g_in_normal ?_ | refine g_retc ?_ | refine g_then_ret ?_
    | refine g_in_ret ?_ | refine g_exit ?_ | refine g_then_exit ?_ | refine g_in_exit ?_ | refine g_in_other rfl ?_ | refine g_skip ?_ | refine g_label ?_
    | refine g_cond_true rfl ?_ | refine g_cond_false rfl ?_ | exact s_m | intro _)
  refine g_cond_dec rfl (fun h => ?_) (fun h => ?_)
  · have hi' : i < ys.length := by omega
    obtain ⟨nb, rfl⟩ := hq (by omega)
    have hr : ∀ k, k = i → Reads (nmsC (some ⟨nb, 0, none⟩) c ys) ⟨nb, 0 + k, none⟩ (.string ys[i]) := fun k e => by
      subst e; rw [Nat.zero_add]; exact reads_own (by simp [hi'])
    repeat (first
      | (refine g_ops ?_; first | refine s_q ?_ | refine s_v ?_ | refine s_s ?_ | refine s_n (fun _ => ?_) | refine s_x ?_ | refine s_y ?_ | refine s_mq ?_ | refine s_app (fun _ _ => ?_) | refine s_mv ?_ | refine s_ms ?_ | refine s_b0 (fun _ => ?_) | ((fail_if_success refine g_lit rfl rfl rfl ?_); first | apply g_partM rfl rfl rfl | apply g_partMB rfl rfl rfl | fail))
      | refine g_seq ?_ | refine g_region ?_ | refine g_nil ?_ | refine g_then_normal ?_ | refine g_block ?_ | refine g_in_normal ?_ | refine g_retc ?_
      | refine g_then_ret ?_ | refine g_in_ret ?_ | refine g_exit ?_ | refine g_then_exit ?_ | refine g_in_exit ?_ | refine g_in_other rfl ?_ | refine g_skip ?_
      | refine g_label ?_ | refine g_cond_true rfl ?_ | refine g_cond_false rfl ?_ | exact s_m | intro _)
    refine g_c (cs_callV (some1 r b ys[i] (hs _ (List.getElem_mem _))) (vs := [.string ys[i]]) (caps := [ptr b]) rfl (by (repeat (first | exact Evs.nil | refine Evs.cons rfl ?_)); first | done | fail) rfl (by (repeat (first | exact Take.nil | apply Take.cons | exact Sel.here | apply Sel.there)); first | done | fail)) rfl rfl (fun _ _ => ?_)
    repeat (first
      | (refine g_ops ?_; first | refine s_q ?_ | refine s_v ?_ | refine s_s ?_ | refine s_n (fun _ => ?_) | refine s_x ?_ | refine s_y ?_ | refine s_mq ?_ | refine s_app (fun _ _ => ?_) | refine s_mv ?_ | refine s_ms ?_ | refine s_b0 (fun _ => ?_) | ((fail_if_success refine g_lit rfl rfl rfl ?_); first | apply g_partM rfl rfl rfl | apply g_partMB rfl rfl rfl | fail))
      | refine g_seq ?_ | refine g_region ?_ | refine g_nil ?_ | refine g_then_normal ?_ | refine g_block ?_ | refine g_in_normal ?_ | refine g_retc ?_
      | refine g_then_ret ?_ | refine g_in_ret ?_ | refine g_exit ?_ | refine g_then_exit ?_ | refine g_in_exit ?_ | refine g_in_other rfl ?_ | refine g_skip ?_
      | refine g_label ?_ | refine g_cond_true rfl ?_ | refine g_cond_false rfl ?_ | exact s_m | intro _)
    refine g_cond rfl (fun h2 => ?_) (fun h2 => ?_)
    · have hn : r.has ys[i] = false := by simpa using h2
      have ha := ahead_at hi' hb hn
      repeat (first
        | (refine g_ops ?_; first | refine s_q ?_ | refine s_v ?_ | refine s_s ?_ | refine s_n (fun _ => ?_) | refine s_x ?_ | refine s_y ?_ | refine s_mq ?_ | refine s_app (fun _ _ => ?_) | refine s_mv ?_ | refine s_ms ?_ | refine s_b0 (fun _ => ?_) | ((fail_if_success refine g_lit rfl rfl rfl ?_); first | apply g_partM rfl rfl rfl | apply g_partMB rfl rfl rfl | fail))
        | refine g_seq ?_ | refine g_region ?_ | refine g_nil ?_ | refine g_then_normal ?_ | refine g_block ?_ | refine g_in_normal ?_ | refine g_retc ?_
        | refine g_then_ret ?_ | refine g_in_ret ?_ | refine g_exit ?_ | refine g_then_exit ?_ | refine g_in_exit ?_ | refine g_in_other rfl ?_ | refine g_skip ?_
        | refine g_label ?_ | refine g_cond_true rfl ?_ | refine g_cond_false rfl ?_ | exact s_m | intro _)
      exact g_ret () rfl (by (repeat (first | exact RVs.nil | apply RVs.tmp rfl | apply RVs.cellA rfl (by (repeat (first | exact Sel.here | apply Sel.there)); first | done | fail) (by (repeat (first | exact Cut.zero | apply Cut.take | apply Cut.skip)); first | done | fail) | apply RVs.cell1 rfl (by (repeat (first | exact Sel.here | apply Sel.there)); first | done | fail) rfl)); first | done | fail) (by (repeat (first | exact Take.nil | apply Take.cons | exact Sel.here | apply Sel.there)); first | done | fail) (by rw [if_neg (by omega), ha]; rfl) trivial
    · have hn : r.has ys[i] = true := by simpa using h2
      repeat (first
        | (refine g_ops ?_; first | refine s_q ?_ | refine s_v ?_ | refine s_s ?_ | refine s_n (fun _ => ?_) | refine s_x ?_ | refine s_y ?_ | refine s_mq ?_ | refine s_app (fun _ _ => ?_) | refine s_mv ?_ | refine s_ms ?_ | refine s_b0 (fun _ => ?_) | ((fail_if_success refine g_lit rfl rfl rfl ?_); first | apply g_partM rfl rfl rfl | apply g_partMB rfl rfl rfl | fail))
        | refine g_seq ?_ | refine g_region ?_ | refine g_nil ?_ | refine g_then_normal ?_ | refine g_block ?_ | refine g_in_normal ?_ | refine g_retc ?_
        | refine g_then_ret ?_ | refine g_in_ret ?_ | refine g_exit ?_ | refine g_then_exit ?_ | refine g_in_exit ?_ | refine g_in_other rfl ?_ | refine g_skip ?_
        | refine g_label ?_ | refine g_cond_true rfl ?_ | refine g_cond_false rfl ?_ | exact s_m | intro _)
      refine g_as 8 (v' := int ((i + 1 : Nat) : Int)) rfl (congrArg (Value.int .i64) (by push_cast; rfl)) ?_
      exact g_again (i + 1) (by omega) ⟨hi', fun j hj hji => by
        by_cases e : j = i
        · subst e; exact hn
        · exact hb j hj (by omega)⟩ (by (repeat (first | exact FrSub.nil | refine FrSub.cons rfl ?_)); first | done | fail) (by (repeat (first | exact Take.nil | apply Take.cons | exact Sel.here | apply Sel.there)); first | done | fail)
  · have ha : aheadL r.has ys = ys.length := ahead_all fun j hj => hb j hj (by omega)
    repeat (first
      | (refine g_ops ?_; first | refine s_q ?_ | refine s_v ?_ | refine s_s ?_ | refine s_n (fun _ => ?_) | refine s_x ?_ | refine s_y ?_ | refine s_mq ?_ | refine s_app (fun _ _ => ?_) | refine s_mv ?_ | refine s_ms ?_ | refine s_b0 (fun _ => ?_) | ((fail_if_success refine g_lit rfl rfl rfl ?_); first | apply g_partM rfl rfl rfl | apply g_partMB rfl rfl rfl | fail))
      | refine g_seq ?_ | refine g_region ?_ | refine g_nil ?_ | refine g_then_normal ?_ | refine g_block ?_ | refine g_in_normal ?_ | refine g_retc ?_
      | refine g_then_ret ?_ | refine g_in_ret ?_ | refine g_exit ?_ | refine g_then_exit ?_ | refine g_in_exit ?_ | refine g_in_other rfl ?_ | refine g_skip ?_
      | refine g_label ?_ | refine g_cond_true rfl ?_ | refine g_cond_false rfl ?_ | exact s_m | intro _)
    exact g_ret () rfl (by (repeat (first | exact RVs.nil | apply RVs.tmp rfl | apply RVs.cellA rfl (by (repeat (first | exact Sel.here | apply Sel.there)); first | done | fail) (by (repeat (first | exact Cut.zero | apply Cut.take | apply Cut.skip)); first | done | fail) | apply RVs.cell1 rfl (by (repeat (first | exact Sel.here | apply Sel.there)); first | done | fail) rfl)); first | done | fail) (by (repeat (first | exact Take.nil | apply Take.cons | exact Sel.here | apply Sel.there)); first | done | fail) (by rw [if_pos ha]; rfl) trivial
structure DfX where
  i : Nat
  k : Nat
  zs : List ByteArray
set_option maxHeartbeats 2000000 in
theorem deleteF (r : Rg) (b : Nat) (q : Option Addr) (c : Nat) (ys : List ByteArray) (hs : ∀ y ∈ ys, y.size ≤ 9223372036854775807) (hl : ys.length ≤ 1000000000) :
    Does Tryz.prog 58 [.slice q ys.length c, .func (.func fS1) #[] #[ptr b]] [nmsC q c ys, rrow b r] (X := Unit) (fun _ => .slice q (ys.filter r.has).length c) (fun _ => [nmsC q c (ys.filter r.has), rrow b r]) (fun _ => True) := by
  refine fn_intro Tryz.func58 rfl Tryz.ntmps58 rfl (by simp only [argFr, Nat.zero_add, Nat.reduceAdd]; rfl) (fun Γ => ?_)
  refine g_own .here (fun _ hlc hq => ?_)
  have hal := aheadL_le r.has ys
  obtain ⟨ha1, ha2, ha3⟩ := ahead_filter r.has ys
  generalize hA : aheadL r.has ys = A at hal ha1 ha2 ha3
  have hidx := indexF r b q c ys hs hl
  rw [hA] at hidx
  repeat (first
    | (refine g_ops ?_; first | refine s_q ?_ | refine s_v ?_ | refine s_s ?_ | refine s_n (fun _ => ?_) | refine s_x ?_ | refine s_y ?_ | refine s_mq ?_ | refine s_app (fun _ _ => ?_) | refine s_mv ?_ | refine s_ms ?_ | refine s_b0 (fun _ => ?_) | ((fail_if_success refine g_lit rfl rfl rfl ?_); first | apply g_partM rfl rfl rfl | apply g_partMB rfl rfl rfl | fail) | refine s_k (hidx) ?_)
    | refine g_seq ?_ | refine g_region ?_ | refine g_nil ?_ | refine g_then_normal ?_ | refine g_block ?_ | refine g_in_normal ?_ | refine g_retc ?_ | refine g_then_ret ?_
    | refine g_in_ret ?_ | refine g_exit ?_ | refine g_then_exit ?_ | refine g_in_exit ?_ | refine g_in_other rfl ?_ | refine g_skip ?_ | refine g_label ?_
    | refine g_cond_true rfl ?_ | refine g_cond_false rfl ?_ | exact s_m | intro _)
  refine g_cond_dec rfl (fun h => ?_) (fun h => ?_)
  · have e : A = ys.length := by
      by_cases e : A = ys.length
      · exact e
      · rw [if_neg e] at h; omega
    rw [ha2 e]
    repeat (first
      | (refine g_ops ?_; first | refine s_q ?_ | refine s_v ?_ | refine s_s ?_ | refine s_n (fun _ => ?_) | refine s_x ?_ | refine s_y ?_ | refine s_mq ?_ | refine s_app (fun _ _ => ?_) | refine s_mv ?_ | refine s_ms ?_ | refine s_b0 (fun _ => ?_) | ((fail_if_success refine g_lit rfl rfl rfl ?_); first | apply g_partM rfl rfl rfl | apply g_partMB rfl rfl rfl | fail))
      | refine g_seq ?_ | refine g_region ?_ | refine g_nil ?_ | refine g_then_normal ?_ | refine g_block ?_ | refine g_in_normal ?_ | refine g_retc ?_
      | refine g_then_ret ?_ | refine g_in_ret ?_ | refine g_exit ?_ | refine g_then_exit ?_ | refine g_in_exit ?_ | refine g_in_other rfl ?_ | refine g_skip ?_
      | refine g_label ?_ | refine g_cond_true rfl ?_ | refine g_cond_false rfl ?_ | exact s_m | intro _)
    exact g_ret () rfl (by (repeat (first | exact RVs.nil | apply RVs.tmp rfl | apply RVs.cellA rfl (by (repeat (first | exact Sel.here | apply Sel.there)); first | done | fail) (by (repeat (first | exact Cut.zero | apply Cut.take | apply Cut.skip)); first | done | fail) | apply RVs.cell1 rfl (by (repeat (first | exact Sel.here | apply Sel.there)); first | done | fail) rfl)); first | done | fail) (by (repeat (first | exact Take.nil | apply Take.cons | exact Sel.here | apply Sel.there)); first | done | fail) rfl trivial
  · have e : A < ys.length := by
      by_cases e : A = ys.length
      · exact absurd (by rw [if_pos e]) h
      · omega
    rw [if_neg (by omega : ¬ A = ys.length)]
    have hn := ha3 e
    obtain ⟨nb, rfl⟩ := hq (by omega)
    have hf1 : (ys.take (A + 1)).filter r.has = ys.take A := by
      rw [List.take_succ_eq_append_getElem e, List.filter_append, ha1]
      simp [hn]
    repeat (first
      | (refine g_ops ?_; first | refine s_q ?_ | refine s_v ?_ | refine s_s ?_ | refine s_n (fun _ => ?_) | refine s_x ?_ | refine s_y ?_ | refine s_mq ?_ | refine s_app (fun _ _ => ?_) | refine s_mv ?_ | refine s_ms ?_ | refine s_b0 (fun _ => ?_) | ((fail_if_success refine g_lit rfl rfl rfl ?_); first | apply g_partM rfl rfl rfl | apply g_partMB rfl rfl rfl | fail))
      | refine g_seq ?_ | refine g_region ?_ | refine g_nil ?_ | refine g_then_normal ?_ | refine g_block ?_ | refine g_in_normal ?_ | refine g_retc ?_
      | refine g_then_ret ?_ | refine g_in_ret ?_ | refine g_exit ?_ | refine g_then_exit ?_ | refine g_in_exit ?_ | refine g_in_other rfl ?_ | refine g_skip ?_
      | refine g_label ?_ | refine g_cond_true rfl ?_ | refine g_cond_false rfl ?_ | exact s_m | intro _)
    refine g_as 6 (v' := int ((A + 1 : Nat) : Int)) rfl (congrArg (Value.int .i64) (by push_cast; rfl)) ?_
    refine g_loop (X := DfX) (fun x => [(0, .slice (some ⟨nb, 0, none⟩) x.zs.length c), (1, .func (.func fS1) #[] #[ptr b]), (5, int x.i), (6, int x.k)]) (fun x => [nmsC (some ⟨nb, 0, none⟩) c x.zs, rrow b r])
      (fun x => x.zs.length = ys.length ∧ x.i < x.k ∧ x.k ≤ ys.length ∧ x.zs.take x.i = (ys.take x.k).filter r.has ∧ x.zs.drop x.k = ys.drop x.k) (fun x => ys.length - x.k) ⟨A, A + 1, ys⟩ ⟨rfl, by simp only; omega, by simp only; omega, by simp only; rw [hf1], rfl⟩ (by (repeat (first | exact FrSub.nil | refine FrSub.cons rfl ?_)); first | done | fail) (by (repeat (first | exact Take.nil | apply Take.cons | exact Sel.here | apply Sel.there)); first | done | fail) (fun x hx => ?_)
    obtain ⟨i, k, zs⟩ := x
    obtain ⟨h1, h2, h3, h4, h5⟩ := hx
    dsimp only at h1 h2 h3 h4 h5 ⊢
    repeat (first
      | (refine g_ops ?_; first | refine s_q ?_ | refine s_v ?_ | refine s_s ?_ | refine s_n (fun _ => ?_) | refine s_x ?_ | refine s_y ?_ | refine s_mq ?_ | refine s_app (fun _ _ => ?_) | refine s_mv ?_ | refine s_ms ?_ | refine s_b0 (fun _ => ?_) | ((fail_if_success refine g_lit rfl rfl rfl ?_); first | apply g_partM rfl rfl rfl | apply g_partMB rfl rfl rfl | fail))
      | refine g_seq ?_ | refine g_region ?_ | refine g_nil ?_ | refine g_then_normal ?_ | refine g_block ?_ | refine g_in_normal ?_ | refine g_retc ?_
      | refine g_then_ret ?_ | refine g_in_ret ?_ | refine g_exit ?_ | refine g_then_exit ?_ | refine g_in_exit ?_ | refine g_in_other rfl ?_ | refine g_skip ?_
      | refine g_label ?_ | refine g_cond_true rfl ?_ | refine g_cond_false rfl ?_ | exact s_m | intro _)
    refine g_cond_dec rfl (fun h6 => ?_) (fun h6 => ?_)
    · have hk : k < ys.length := by omega
      have hz : zs[k]'(by omega) = ys[k] := by
        have e1 : (zs.drop k)[0]? = (ys.drop k)[0]? := by rw [h5]
        simpa [List.getElem?_drop, hk, h1] using e1
      have hr : ∀ m, m = k → Reads (nmsC (some ⟨nb, 0, none⟩) c zs) ⟨nb, 0 + m, none⟩ (.string ys[k]) := fun m e => by
        subst e; rw [Nat.zero_add]; exact reads_own (by simp [h1, hk, hz])
      have hst : (ys.take (k + 1)).filter r.has = (ys.take k).filter r.has ++ [ys[k]].filter r.has := by
        rw [List.take_succ_eq_append_getElem hk, List.filter_append]
      have hd : zs.drop (k + 1) = ys.drop (k + 1) := by
        have := congrArg (List.drop 1) h5
        simpa [List.drop_drop] using this
      have hy := hs ys[k] (List.getElem_mem _)
      generalize ys[k] = y at hz hr hst hy
      repeat (first
        | (refine g_ops ?_; first | refine s_q ?_ | refine s_v ?_ | refine s_s ?_ | refine s_n (fun _ => ?_) | refine s_x ?_ | refine s_y ?_ | refine s_mq ?_ | refine s_app (fun _ _ => ?_) | refine s_mv ?_ | refine s_ms ?_ | refine s_b0 (fun _ => ?_) | ((fail_if_success refine g_lit rfl rfl rfl ?_); first | apply g_partM rfl rfl rfl | apply g_partMB rfl rfl rfl | fail))
        | refine g_seq ?_ | refine g_region ?_ | refine g_nil ?_ | refine g_then_normal ?_ | refine g_block ?_ | refine g_in_normal ?_ | refine g_retc ?_
        | refine g_then_ret ?_ | refine g_in_ret ?_ | refine g_exit ?_ | refine g_then_exit ?_ | refine g_in_exit ?_ | refine g_in_other rfl ?_ | refine g_skip ?_
        | refine g_label ?_ | refine g_cond_true rfl ?_ | refine g_cond_false rfl ?_ | exact s_m | intro _)
      refine g_c (cs_callV (some1 r b y hy) (vs := [.string y]) (caps := [ptr b]) rfl (by (repeat (first | exact Evs.nil | refine Evs.cons rfl ?_)); first | done | fail) rfl (by (repeat (first | exact Take.nil | apply Take.cons | exact Sel.here | apply Sel.there)); first | done | fail)) rfl rfl (fun _ _ => ?_)
      repeat (first
        | (refine g_ops ?_; first | refine s_q ?_ | refine s_v ?_ | refine s_s ?_ | refine s_n (fun _ => ?_) | refine s_x ?_ | refine s_y ?_ | refine s_mq ?_ | refine s_app (fun _ _ => ?_) | refine s_mv ?_ | refine s_ms ?_ | refine s_b0 (fun _ => ?_) | ((fail_if_success refine g_lit rfl rfl rfl ?_); first | apply g_partM rfl rfl rfl | apply g_partMB rfl rfl rfl | fail))
        | refine g_seq ?_ | refine g_region ?_ | refine g_nil ?_ | refine g_then_normal ?_ | refine g_block ?_ | refine g_in_normal ?_ | refine g_retc ?_
        | refine g_then_ret ?_ | refine g_in_ret ?_ | refine g_exit ?_ | refine g_then_exit ?_ | refine g_in_exit ?_ | refine g_in_other rfl ?_ | refine g_skip ?_
        | refine g_label ?_ | refine g_cond_true rfl ?_ | refine g_cond_false rfl ?_ | exact s_m | intro _)
      refine g_cond rfl (fun h7 => ?_) (fun h7 => ?_)
      · have hh : r.has y = true := by simpa using h7
        repeat (first
          | (refine g_ops ?_; first | refine s_q ?_ | refine s_v ?_ | refine s_s ?_ | refine s_n (fun _ => ?_) | refine s_x ?_ | refine s_y ?_ | refine s_mq ?_ | refine s_app (fun _ _ => ?_) | refine s_mv ?_ | refine s_ms ?_ | refine s_b0 (fun _ => ?_) | ((fail_if_success refine g_lit rfl rfl rfl ?_); first | apply g_partM rfl rfl rfl | apply g_partMB rfl rfl rfl | fail))
          | refine g_seq ?_ | refine g_region ?_ | refine g_nil ?_ | refine g_then_normal ?_ | refine g_block ?_ | refine g_in_normal ?_ | refine g_retc ?_
          | refine g_then_ret ?_ | refine g_in_ret ?_ | refine g_exit ?_ | refine g_then_exit ?_ | refine g_in_exit ?_ | refine g_in_other rfl ?_ | refine g_skip ?_
          | refine g_label ?_ | refine g_cond_true rfl ?_ | refine g_cond_false rfl ?_ | exact s_m | intro _)
        refine g_s (ss_storeOwn (v := .string y) inferInstance rfl rfl rfl (by (repeat (first | exact Sel.here | apply Sel.there)); first | done | fail) (by simp; omega)) rfl ?_
        rw [show (zs.map Value.string).set (0 + i) (.string y) = (zs.set i y).map .string by rw [Nat.zero_add, List.map_set], show zs.length = (zs.set i y).length by simp]
        repeat (first
          | (refine g_ops ?_; first | refine s_q ?_ | refine s_v ?_ | refine s_s ?_ | refine s_n (fun _ => ?_) | refine s_x ?_ | refine s_y ?_ | refine s_mq ?_ | refine s_app (fun _ _ => ?_) | refine s_mv ?_ | refine s_ms ?_ | refine s_b0 (fun _ => ?_) | ((fail_if_success refine g_lit rfl rfl rfl ?_); first | apply g_partM rfl rfl rfl | apply g_partMB rfl rfl rfl | fail))
          | refine g_seq ?_ | refine g_region ?_ | refine g_nil ?_ | refine g_then_normal ?_ | refine g_block ?_ | refine g_in_normal ?_ | refine g_retc ?_
          | refine g_then_ret ?_ | refine g_in_ret ?_ | refine g_exit ?_ | refine g_then_exit ?_ | refine g_in_exit ?_ | refine g_in_other rfl ?_ | refine g_skip ?_
          | refine g_label ?_ | refine g_cond_true rfl ?_ | refine g_cond_false rfl ?_ | exact s_m | intro _)
        refine g_as 5 (v' := int ((i + 1 : Nat) : Int)) rfl (congrArg (Value.int .i64) (by push_cast; rfl)) ?_
        repeat (first
          | (refine g_ops ?_; first | refine s_q ?_ | refine s_v ?_ | refine s_s ?_ | refine s_n (fun _ => ?_) | refine s_x ?_ | refine s_y ?_ | refine s_mq ?_ | refine s_app (fun _ _ => ?_) | refine s_mv ?_ | refine s_ms ?_ | refine s_b0 (fun _ => ?_) | ((fail_if_success refine g_lit rfl rfl rfl ?_); first | apply g_partM rfl rfl rfl | apply g_partMB rfl rfl rfl | fail))
          | refine g_seq ?_ | refine g_region ?_ | refine g_nil ?_ | refine g_then_normal ?_ | refine g_block ?_ | refine g_in_normal ?_ | refine g_retc ?_
          | refine g_then_ret ?_ | refine g_in_ret ?_ | refine g_exit ?_ | refine g_then_exit ?_ | refine g_in_exit ?_ | refine g_in_other rfl ?_ | refine g_skip ?_
          | refine g_label ?_ | refine g_cond_true rfl ?_ | refine g_cond_false rfl ?_ | exact s_m | intro _)
        refine g_as 6 (v' := int ((k + 1 : Nat) : Int)) rfl (congrArg (Value.int .i64) (by push_cast; rfl)) ?_
        exact g_again ⟨i + 1, k + 1, zs.set i y⟩ (by simp only; omega) ⟨by simp [h1], by simp only; omega, by simp only; omega, by
          simp only
          rw [hst, ← h4, List.take_succ_eq_append_getElem (by simp; omega), List.take_set_of_le (Nat.le_refl _)]
          simp [hh], by simp only; rw [List.drop_set, if_pos (by omega)]; exact hd⟩ (by (repeat (first | exact FrSub.nil | refine FrSub.cons rfl ?_)); first | done | fail) (by (repeat (first | exact Take.nil | apply Take.cons | exact Sel.here | apply Sel.there)); first | done | fail)
      · have hh : r.has y = false := by simpa using h7
        repeat (first
          | (refine g_ops ?_; first | refine s_q ?_ | refine s_v ?_ | refine s_s ?_ | refine s_n (fun _ => ?_) | refine s_x ?_ | refine s_y ?_ | refine s_mq ?_ | refine s_app (fun _ _ => ?_) | refine s_mv ?_ | refine s_ms ?_ | refine s_b0 (fun _ => ?_) | ((fail_if_success refine g_lit rfl rfl rfl ?_); first | apply g_partM rfl rfl rfl | apply g_partMB rfl rfl rfl | fail))
          | refine g_seq ?_ | refine g_region ?_ | refine g_nil ?_ | refine g_then_normal ?_ | refine g_block ?_ | refine g_in_normal ?_ | refine g_retc ?_
          | refine g_then_ret ?_ | refine g_in_ret ?_ | refine g_exit ?_ | refine g_then_exit ?_ | refine g_in_exit ?_ | refine g_in_other rfl ?_ | refine g_skip ?_
          | refine g_label ?_ | refine g_cond_true rfl ?_ | refine g_cond_false rfl ?_ | exact s_m | intro _)
        refine g_as 6 (v' := int ((k + 1 : Nat) : Int)) rfl (congrArg (Value.int .i64) (by push_cast; rfl)) ?_
        exact g_again ⟨i, k + 1, zs⟩ (by simp only; omega) ⟨h1, by simp only; omega, by simp only; omega, by
          simp only
          rw [hst, h4]
          simp [hh], hd⟩ (by (repeat (first | exact FrSub.nil | refine FrSub.cons rfl ?_)); first | done | fail) (by (repeat (first | exact Take.nil | apply Take.cons | exact Sel.here | apply Sel.there)); first | done | fail)
    · obtain rfl : k = ys.length := by omega
      rw [List.take_length] at h4
      have hil : i = (ys.filter r.has).length := by rw [← h4, List.length_take]; omega
      subst hil
      generalize hF : ys.filter r.has = F at h2 h4 ⊢
      repeat (first
        | (refine g_ops ?_; first | refine s_q ?_ | refine s_v ?_ | refine s_s ?_ | refine s_n (fun _ => ?_) | refine s_x ?_ | refine s_y ?_ | refine s_mq ?_ | refine s_app (fun _ _ => ?_) | refine s_mv ?_ | refine s_ms ?_ | refine s_b0 (fun _ => ?_) | ((fail_if_success refine g_lit rfl rfl rfl ?_); first | apply g_partM rfl rfl rfl | apply g_partMB rfl rfl rfl | fail))
        | refine g_seq ?_ | refine g_region ?_ | refine g_nil ?_ | refine g_then_normal ?_ | refine g_block ?_ | refine g_in_normal ?_ | refine g_retc ?_
        | refine g_then_ret ?_ | refine g_in_ret ?_ | refine g_exit ?_ | refine g_then_exit ?_ | refine g_in_exit ?_ | refine g_in_other rfl ?_ | refine g_skip ?_
        | refine g_label ?_ | refine g_cond_true rfl ?_ | refine g_cond_false rfl ?_ | exact s_m | intro _)
      refine s_q (q := by exact qs_slice (l := F.length) (h := zs.length) inferInstance inferInstance rfl (.some rfl rfl) .none (by omega) (by omega)) ?_
      refine g_as 38 (v' := .slice (some ⟨nb, F.length, none⟩) (zs.length - F.length) (c - F.length)) rfl (by rw [offAt nb F.length c (by omega)]) ?_
      refine g_s (ss_clearFrom (n := zs.length) (o := F.length) (m := zs.length - F.length) (xs := zs.map .string) (zv := .string ByteArray.empty) inferInstance inferInstance rfl rfl rfl (by omega) (by omega) (by (repeat (first | exact Sel.here | apply Sel.there)); first | done | fail)) rfl ?_
      refine g_less F.length .here (by omega) ?_
      rw [List.take_append_of_le_length (by simp; omega), List.take_of_length_le (by simp; omega), ← List.map_take, h4]
      repeat (first
        | (refine g_ops ?_; first | refine s_q ?_ | refine s_v ?_ | refine s_s ?_ | refine s_n (fun _ => ?_) | refine s_x ?_ | refine s_y ?_ | refine s_mq ?_ | refine s_app (fun _ _ => ?_) | refine s_mv ?_ | refine s_ms ?_ | refine s_b0 (fun _ => ?_) | ((fail_if_success refine g_lit rfl rfl rfl ?_); first | apply g_partM rfl rfl rfl | apply g_partMB rfl rfl rfl | fail))
        | refine g_seq ?_ | refine g_region ?_ | refine g_nil ?_ | refine g_then_normal ?_ | refine g_block ?_ | refine g_in_normal ?_ | refine g_retc ?_
        | refine g_then_ret ?_ | refine g_in_ret ?_ | refine g_exit ?_ | refine g_then_exit ?_ | refine g_in_exit ?_ | refine g_in_other rfl ?_ | refine g_skip ?_
        | refine g_label ?_ | refine g_cond_true rfl ?_ | refine g_cond_false rfl ?_ | exact s_m | intro _)
      refine s_q (q := by exact qs_slice (l := 0) (h := F.length) inferInstance inferInstance rfl .none (.some rfl rfl) (Nat.zero_le _) (by omega)) ?_
      refine g_as 41 (v' := .slice (some ⟨nb, 0, none⟩) F.length c) rfl (offTake _ _ F.length) ?_
      repeat (first
        | (refine g_ops ?_; first | refine s_q ?_ | refine s_v ?_ | refine s_s ?_ | refine s_n (fun _ => ?_) | refine s_x ?_ | refine s_y ?_ | refine s_mq ?_ | refine s_app (fun _ _ => ?_) | refine s_mv ?_ | refine s_ms ?_ | refine s_b0 (fun _ => ?_) | ((fail_if_success refine g_lit rfl rfl rfl ?_); first | apply g_partM rfl rfl rfl | apply g_partMB rfl rfl rfl | fail))
        | refine g_seq ?_ | refine g_region ?_ | refine g_nil ?_ | refine g_then_normal ?_ | refine g_block ?_ | refine g_in_normal ?_ | refine g_retc ?_
        | refine g_then_ret ?_ | refine g_in_ret ?_ | refine g_exit ?_ | refine g_then_exit ?_ | refine g_in_exit ?_ | refine g_in_other rfl ?_ | refine g_skip ?_
        | refine g_label ?_ | refine g_cond_true rfl ?_ | refine g_cond_false rfl ?_ | exact s_m | intro _)
      exact g_ret () rfl (by (repeat (first | exact RVs.nil | apply RVs.tmp rfl | apply RVs.cellA rfl (by (repeat (first | exact Sel.here | apply Sel.there)); first | done | fail) (by (repeat (first | exact Cut.zero | apply Cut.take | apply Cut.skip)); first | done | fail) | apply RVs.cell1 rfl (by (repeat (first | exact Sel.here | apply Sel.there)); first | done | fail) rfl)); first | done | fail) (by (repeat (first | exact Take.nil | apply Take.cons | exact Sel.here | apply Sel.there)); first | done | fail) rfl trivial
theorem someT (t : Nat) (mp : Option Nat) (T : List Sm) (r : Rg) (hl : T.length ≤ 1000000000) (hs : ∀ x ∈ T, x.nm.size ≤ 9223372036854775807) :
    Does Tryz.prog 38 [ptr t, r.v] (tabL t mp T) (X := SkX) (fun x => .slice x.p (x.ys.filter r.has).length x.c) (fun x => nmsC x.p x.c (x.ys.filter r.has) :: tabL t mp T) (fun x => x.ys.Perm (T.map Sm.nm) ∧ x.ys.Pairwise fun a b => ltB a b = true) := by
  refine fn_intro Tryz.func38 rfl Tryz.ntmps38 rfl (by simp only [argFr, Nat.zero_add, Nat.reduceAdd]; rfl) (fun Γ => ?_)
  repeat (first
    | (refine g_ops ?_; first | refine s_q ?_ | refine s_v ?_ | refine s_s ?_ | refine s_n (fun _ => ?_) | refine s_x ?_ | refine s_y ?_ | refine s_mq ?_ | refine s_app (fun _ _ => ?_) | refine s_mv ?_ | refine s_ms ?_ | refine s_b0 (fun _ => ?_) | ((fail_if_success refine g_lit rfl rfl rfl ?_); first | apply g_partM rfl rfl rfl | apply g_partMB rfl rfl rfl | fail) | refine s_c (names t mp T hl hs) (fun _ _ => ?_))
    | refine g_seq ?_ | refine g_region ?_ | refine g_nil ?_ | refine g_then_normal ?_ | refine g_block ?_ | refine g_in_normal ?_ | refine g_retc ?_ | refine g_then_ret ?_
    | refine g_in_ret ?_ | refine g_exit ?_ | refine g_then_exit ?_ | refine g_in_exit ?_ | refine g_in_other rfl ?_ | refine g_skip ?_ | refine g_label ?_
    | refine g_cond_true rfl ?_ | refine g_cond_false rfl ?_ | exact s_m | intro _)
  rename_i b x hx
  have hsz : ∀ y ∈ x.ys, y.size ≤ 9223372036854775807 := fun y hy => by
    obtain ⟨z, hz, rfl⟩ := List.mem_map.1 (hx.1.mem_iff.1 hy)
    exact hs z hz
  have hlen : x.ys.length ≤ 1000000000 := by rw [hx.1.length_eq, List.length_map]; exact hl
  refine s_q (q := by exact qs_makeFunc (vs := [ptr b]) (by (repeat (first | exact Evs.nil | refine Evs.cons rfl ?_)); first | done | fail)) ?_
  repeat (first
    | (refine g_ops ?_; first | refine s_q ?_ | refine s_v ?_ | refine s_s ?_ | refine s_n (fun _ => ?_) | refine s_x ?_ | refine s_y ?_ | refine s_mq ?_ | refine s_app (fun _ _ => ?_) | refine s_mv ?_ | refine s_ms ?_ | refine s_b0 (fun _ => ?_) | ((fail_if_success refine g_lit rfl rfl rfl ?_); first | apply g_partM rfl rfl rfl | apply g_partMB rfl rfl rfl | fail) | refine s_c (deleteF r b x.p x.c x.ys hsz hlen) (fun _ _ => ?_))
    | refine g_seq ?_ | refine g_region ?_ | refine g_nil ?_ | refine g_then_normal ?_ | refine g_block ?_ | refine g_in_normal ?_ | refine g_retc ?_ | refine g_then_ret ?_
    | refine g_in_ret ?_ | refine g_exit ?_ | refine g_then_exit ?_ | refine g_in_exit ?_ | refine g_in_other rfl ?_ | refine g_skip ?_ | refine g_label ?_
    | refine g_cond_true rfl ?_ | refine g_cond_false rfl ?_ | exact s_m | intro _)
  exact g_ret x rfl (by (repeat (first | exact RVs.nil | apply RVs.tmp rfl | apply RVs.cellA rfl (by (repeat (first | exact Sel.here | apply Sel.there)); first | done | fail) (by (repeat (first | exact Cut.zero | apply Cut.take | apply Cut.skip)); first | done | fail) | apply RVs.cell1 rfl (by (repeat (first | exact Sel.here | apply Sel.there)); first | done | fail) rfl)); first | done | fail) (by (repeat (first | exact Take.nil | apply Take.cons | exact Sel.here | apply Sel.there)); first | done | fail) rfl hx
end Go.Proofs.YtcgmliaahdpmcaaGreatDoor
