/- The law's walk: ValueOther. -/
import Derived.Test.YtpilcncdgjnbeaaDoorValO
set_option linter.unusedSimpArgs false
set_option linter.unusedVariables false
namespace Go.Sl
section
variable {P : Program} {Γ : Ctx} {L R : List Chunk} {fr : Fr} {ty : TypeId} {pos : String} {aft : Array Edge} {gd : Option (Nat × Bool)} {x y z : Operand} {v u : Value} {t : TypeId}
theorem ss_insert {κ : Type} [DecidableEq κ] [K : MapKey κ] {b : Nat} {M : List (κ × Value)} {kt et : TypeId} {kd : TypeDesc} {k : κ} (D : TDesc P t (.map kt et)) (E : TDesc P kt kd) (hk : K.kind kd) (hx : ev fr x = some (.map (some b))) (hy : ev fr y = some (K.v k)) (hz : ev fr z = some u) (s : Sel L (.map b M) R) :
    SStep P Γ fr L ⟨none, .insert t x y z, ty, pos, aft, gd⟩ (.map b (mput M k u) :: R) := fun a hf w hh =>
  ss_mapUpdate (ty := ty) (pos := pos) (aft := aft) (gd := gd) D E hk hx hy hz s a hf w hh
end
end Go.Sl
namespace Go.Proofs.YtpilcncdgjnbeaaDoor
open Go.Sl facts
/-- What is no value. -/
def noV : V := .mk 0 false 0 ByteArray.empty [] []
def noL : V := .mk 5 false 0 ByteArray.empty [] [.mk 3 false 1 ByteArray.empty [] [], noV]
def noP : V := .mk 6 false 0 ByteArray.empty [⟨#[97]⟩] [noV]
theorem key_a : keyB ⟨#[97]⟩ = true := by decide +kernel
theorem noV_w : (weigh noV 0 0).1 = 12 := by decide +kernel
theorem noL_w : (weigh noL 0 0).1 = 12 := by decide +kernel
theorem noP_w : (weigh noP 0 0).1 = 12 := by
  unfold noP noV
  simp only [weigh_mk, weighL_cons, weighL_nil, List.headD_cons, key_a]
  decide
/-- A type that is none of a value's. -/
def OtherT (x : Value) : Prop := ∃ t v, x = .iface t v ∧ Nat.beq t 4 = false ∧ Nat.beq t 3 = false ∧ Nat.beq t 9 = false ∧ Nat.beq t 35 = false ∧ Nat.beq t 47 = false
attribute [local irreducible] Code.wp wpList Exit.then Exit.inBlock bodyPost Back MidQ G GP QStep VStep CStep SStep Does Post Reads
attribute [local irreducible] weigh weighL
theorem kind_none (t : TypeId) (v : Value) (h1 : Nat.beq t 4 = false) (h2 : Nat.beq t 3 = false) (h3 : Nat.beq t 9 = false) (h4 : Nat.beq t 35 = false) (h5 : Nat.beq t 47 = false) : Does1 Tryd.prog 16 [.iface t v] [] (.string ByteArray.empty) := by
  refine fn_intro Tryd.func16 rfl Tryd.ntmps16 rfl (by simp only [argFr, Nat.zero_add, Nat.reduceAdd]; rfl) (fun Γ => ?_)
  repeat (first
    | (refine g_ops ?_; first | refine s_q ?_ | refine s_v ?_ | refine s_s ?_ | refine s_n (fun _ => ?_) | refine s_x ?_ | refine s_y ?_ | refine s_iq ?_ | refine s_mq ?_ | refine s_app (fun _ _ => ?_) | refine s_mv ?_ | refine s_ms ?_ | refine s_b0 (fun _ => ?_) | ((fail_if_success refine g_lit rfl rfl rfl ?_); first | apply g_partM rfl rfl rfl | apply g_partMB rfl rfl rfl | fail))
    | refine g_seq ?_ | refine g_region ?_ | refine g_nil ?_ | refine g_then_normal ?_ | refine g_block ?_ | refine g_in_normal ?_ | refine g_retc ?_ | refine g_then_ret ?_
    | refine g_in_ret ?_ | refine g_exit ?_ | refine g_then_exit ?_ | refine g_in_exit ?_ | refine g_in_other rfl ?_ | refine g_skip ?_ | refine g_label ?_
    | refine g_cond_true rfl ?_ | refine g_cond_false rfl ?_ | exact s_m | intro _)
  exact s_r ()
theorem OtherT.tat {H : HP} {x : Value} (h : OtherT x) : TAt H noV x := by
  obtain ⟨t, v, rfl, h1, h2, h3, h4, h5⟩ := h
  exact .other (.inl (by decide)) h1 h2 h3 h4 h5
theorem noV_ok : VOk noV := .mk ⟨by decide, by decide⟩ (fun _ h => by cases h)
theorem noV_sz : szV noV ≤ 1000000000 := by
  unfold noV
  simp only [szV_mk, szK_nil, szS_nil]
  decide
theorem text_none {H : HP} (hT : Tb H) {x : Value} (h : OtherT x) : Does1 Tryd.prog 17 [x] [Pile H] (.string ByteArray.empty) := by
  have := text1 hT (h.tat (H := H)) noV_ok noV_sz
  rwa [show textB noV = ByteArray.empty from if_neg (by rw [noV_w]; decide)] at this
theorem OtherT.int {x : Value} (h : OtherT x) : Other 3 x := by
  obtain ⟨t, v, rfl, h1, h2, h3, h4, h5⟩ := h
  exact .inr ⟨_, _, rfl, h2⟩
theorem OtherT.one {x : Value} (h : OtherT x) : x.oneCell' = true := by
  obtain ⟨t, v, rfl, _⟩ := h
  rfl
theorem noL_at {H : HP} {x : Value} {b : Nat} (h : OtherT x) (hS : SlAt (Pile H) 1 (some ⟨b, 0, none⟩) 2 [.iface 3 (int 1), x]) : TAt H noL (.iface 35 (.slice (some ⟨b, 0, none⟩) 2 2)) :=
  .list (l := [.mk 3 false 1 ByteArray.empty [] [], noV]) _ rfl (by simp) hS fun i a w ha hw => by
    match i, ha, hw with
    | 0, ha, hw => cases ha; cases hw; exact .int ⟨by decide, by decide⟩
    | 1, ha, hw => cases ha; cases hw; exact h.tat
    | i + 2, ha, hw => simp at ha
theorem noP_at {H : HP} {x : Value} {b : Nat} (h : OtherT x) (hS : SlAt (Pile H) 2 (some ⟨b, 0, none⟩) 1 [.string ⟨#[97]⟩, x]) : TAt H noP (.iface 47 (.slice (some ⟨b, 0, none⟩) 1 1)) :=
  .pairs (l := [noV]) [⟨⟨#[97]⟩, x⟩] rfl (by simp) rfl (fun q hq => by rw [List.mem_singleton.1 hq]; show (⟨#[97]⟩ : ByteArray).size ≤ _; decide) hS fun i a w ha hw => by
    match i, ha, hw with
    | 0, ha, hw => cases ha; cases hw; exact h.tat
    | i + 1, ha, hw => simp at ha
theorem other1_dies {H : HP} {x : Value} (h : Other 3 x) (b5 b6 b o i : Nat) (hi : i < 11) (e5 e6 : TypeId) (hr0 : Reads (Pile H) ⟨b, o + i, none⟩ x) :
    Dies Tryd.prog 21 [ptr b5, ptr b6] [.row b5 [.slice (some ⟨b, o, none⟩) 11 11] e5, .row b6 [int i] e6, Pile H] [.row b5 [.slice (some ⟨b, o, none⟩) 11 11] e5, .row b6 [int i] e6, Pile H] := by
  have hr : ∀ k', k' = i → Reads (Pile H) ⟨b, o + k', none⟩ x := fun _ e => e ▸ hr0
  refine fn_introD Tryd.func21 rfl Tryd.ntmps21 rfl (by simp only [argFr, Nat.zero_add, Nat.reduceAdd]; rfl) (fun Γ => ?_)
  repeat (first
    | (refine g_ops ?_; first | refine s_q ?_ | refine s_v ?_ | refine s_s ?_ | refine s_n (fun _ => ?_) | refine s_x ?_ | refine s_y ?_ | refine s_iq ?_ | refine s_mq ?_ | refine s_app (fun _ _ => ?_) | refine s_mv ?_ | refine s_ms ?_ | refine s_b0 (fun _ => ?_) | ((fail_if_success refine g_lit rfl rfl rfl ?_); first | apply g_partM rfl rfl rfl | apply g_partMB rfl rfl rfl | fail))
    | refine g_seq ?_ | refine g_region ?_ | refine g_nil ?_ | refine g_then_normal ?_ | refine g_block ?_ | refine g_in_normal ?_ | refine g_retc ?_ | refine g_then_ret ?_
    | refine g_in_ret ?_ | refine g_exit ?_ | refine g_then_exit ?_ | refine g_in_exit ?_ | refine g_in_other rfl ?_ | refine g_skip ?_ | refine g_label ?_
    | refine g_cond_true rfl ?_ | refine g_cond_false rfl ?_ | exact s_m | intro _)
  refine g_callD (mustInt_dies' h) rfl (by (repeat (first | exact Evs.nil | refine Evs.cons rfl ?_)); first | done | fail) .nil (fun t v => ?_)
  exact g_dead (by (repeat (first | exact Take.nil | apply Take.cons | exact Sel.here | apply Sel.there)); first | done | fail)
structure OtX where
  i : Nat
  b : Nat
  H : HP
set_option maxHeartbeats 8000000 in
theorem otherLaw {H : HP} (hT : Tb H) (n : Int) (s : ByteArray) (hn : inI n) (hs : s.size ≤ 9223372036854775807) : Does1 Tryd.prog 5 [int n, .string s] [Pile H] (.bool true) := by
  refine fn_intro Tryd.func5 rfl Tryd.ntmps5 rfl (by simp only [argFr, Nat.zero_add, Nat.reduceAdd]; rfl) (fun Γ => ?_)
  repeat (first
    | (refine g_ops ?_; first | refine s_q ?_ | refine s_v ?_ | refine s_s ?_ | refine s_n (fun _ => ?_) | refine s_x ?_ | refine s_y ?_ | refine s_iq ?_ | refine s_mq ?_ | refine s_app (fun _ _ => ?_) | refine s_mv ?_ | refine s_ms ?_ | refine s_b0 (fun _ => ?_) | ((fail_if_success refine g_lit rfl rfl rfl ?_); first | apply g_partM rfl rfl rfl | apply g_partMB rfl rfl rfl | fail))
    | refine g_seq ?_ | refine g_region ?_ | refine g_nil ?_ | refine g_then_normal ?_ | refine g_block ?_ | refine g_in_normal ?_ | refine g_retc ?_ | refine g_then_ret ?_
    | refine g_in_ret ?_ | refine g_exit ?_ | refine g_then_exit ?_ | refine g_in_exit ?_ | refine g_in_other rfl ?_ | refine g_skip ?_ | refine g_label ?_
    | refine g_cond_true rfl ?_ | refine g_cond_false rfl ?_ | exact s_m | intro _)
  refine g_cond_dec rfl (fun h1 => ?_) (fun h1 => ?_)
  · repeat (first
      | (refine g_ops ?_; first | refine s_q ?_ | refine s_v ?_ | refine s_s ?_ | refine s_n (fun _ => ?_) | refine s_x ?_ | refine s_y ?_ | refine s_iq ?_ | refine s_mq ?_ | refine s_app (fun _ _ => ?_) | refine s_mv ?_ | refine s_ms ?_ | refine s_b0 (fun _ => ?_) | ((fail_if_success refine g_lit rfl rfl rfl ?_); first | apply g_partM rfl rfl rfl | apply g_partMB rfl rfl rfl | fail) | refine s_c (awake hT) (fun _ _ => ?_))
      | refine g_seq ?_ | refine g_region ?_ | refine g_nil ?_ | refine g_then_normal ?_ | refine g_block ?_ | refine g_in_normal ?_ | refine g_retc ?_
      | refine g_then_ret ?_ | refine g_in_ret ?_ | refine g_exit ?_ | refine g_then_exit ?_ | refine g_in_exit ?_ | refine g_in_other rfl ?_ | refine g_skip ?_
      | refine g_label ?_ | refine g_cond_true rfl ?_ | refine g_cond_false rfl ?_ | exact s_m | intro _)
    rename_i H2 hs2
    dsimp only [List.cons_append, List.nil_append, List.append_eq]
    refine g_unpile hs2 (by (repeat (first | exact Sel.here | apply Sel.there)); first | done | fail) ?_
    exact s_r ()
  repeat (first
    | (refine g_ops ?_; first | refine s_q ?_ | refine s_v ?_ | refine s_s ?_ | refine s_n (fun _ => ?_) | refine s_x ?_ | refine s_y ?_ | refine s_iq ?_ | refine s_mq ?_ | refine s_app (fun _ _ => ?_) | refine s_mv ?_ | refine s_ms ?_ | refine s_b0 (fun _ => ?_) | ((fail_if_success refine g_lit rfl rfl rfl ?_); first | apply g_partM rfl rfl rfl | apply g_partMB rfl rfl rfl | fail))
    | refine g_seq ?_ | refine g_region ?_ | refine g_nil ?_ | refine g_then_normal ?_ | refine g_block ?_ | refine g_in_normal ?_ | refine g_retc ?_ | refine g_then_ret ?_
    | refine g_in_ret ?_ | refine g_exit ?_ | refine g_then_exit ?_ | refine g_in_exit ?_ | refine g_in_other rfl ?_ | refine g_skip ?_ | refine g_label ?_
    | refine g_cond_true rfl ?_ | refine g_cond_false rfl ?_ | exact s_m | intro _)
  refine g_c (cs_makeMap (kt := 0) (et := 0) ByteArray) rfl rfl (fun mb _ => ?_)
  repeat (first
    | (refine g_ops ?_; first | refine s_q ?_ | refine s_v ?_ | refine s_s ?_ | refine s_n (fun _ => ?_) | refine s_x ?_ | refine s_y ?_ | refine s_iq ?_ | refine s_mq ?_ | refine s_app (fun _ _ => ?_) | refine s_mv ?_ | refine s_ms ?_ | refine s_b0 (fun _ => ?_) | ((fail_if_success refine g_lit rfl rfl rfl ?_); first | apply g_partM rfl rfl rfl | apply g_partMB rfl rfl rfl | fail))
    | refine g_seq ?_ | refine g_region ?_ | refine g_nil ?_ | refine g_then_normal ?_ | refine g_block ?_ | refine g_in_normal ?_ | refine g_retc ?_ | refine g_then_ret ?_
    | refine g_in_ret ?_ | refine g_exit ?_ | refine g_then_exit ?_ | refine g_in_exit ?_ | refine g_in_other rfl ?_ | refine g_skip ?_ | refine g_label ?_
    | refine g_cond_true rfl ?_ | refine g_cond_false rfl ?_ | exact s_m | intro _)
  refine g_ops ?_
  refine s_s (q := ss_insert (κ := ByteArray) inferInstance inferInstance kindS rfl rfl rfl (by (repeat (first | exact Sel.here | apply Sel.there)); first | done | fail)) ?_
  repeat (first
    | (refine g_ops ?_; first | refine s_q ?_ | refine s_v ?_ | refine s_s ?_ | refine s_n (fun _ => ?_) | refine s_x ?_ | refine s_y ?_ | refine s_iq ?_ | refine s_mq ?_ | refine s_app (fun _ _ => ?_) | refine s_mv ?_ | refine s_ms ?_ | refine s_b0 (fun _ => ?_) | ((fail_if_success refine g_lit rfl rfl rfl ?_); first | apply g_partM rfl rfl rfl | apply g_partMB rfl rfl rfl | fail))
    | refine g_seq ?_ | refine g_region ?_ | refine g_nil ?_ | refine g_then_normal ?_ | refine g_block ?_ | refine g_in_normal ?_ | refine g_retc ?_ | refine g_then_ret ?_
    | refine g_in_ret ?_ | refine g_exit ?_ | refine g_then_exit ?_ | refine g_in_exit ?_ | refine g_in_other rfl ?_ | refine g_skip ?_ | refine g_label ?_
    | refine g_cond_true rfl ?_ | refine g_cond_false rfl ?_ | exact s_m | intro _)
  refine s_q (q := by exact qs_makeI (td := .struct (Tryd.prog.fieldsOf 42)) ⟨TFds.struct⟩ rfl rfl) ?_
  repeat (first
    | (refine g_ops ?_; first | refine s_q ?_ | refine s_v ?_ | refine s_s ?_ | refine s_n (fun _ => ?_) | refine s_x ?_ | refine s_y ?_ | refine s_iq ?_ | refine s_mq ?_ | refine s_app (fun _ _ => ?_) | refine s_mv ?_ | refine s_ms ?_ | refine s_b0 (fun _ => ?_) | ((fail_if_success refine g_lit rfl rfl rfl ?_); first | apply g_partM rfl rfl rfl | apply g_partMB rfl rfl rfl | fail))
    | refine g_seq ?_ | refine g_region ?_ | refine g_nil ?_ | refine g_then_normal ?_ | refine g_block ?_ | refine g_in_normal ?_ | refine g_retc ?_ | refine g_then_ret ?_
    | refine g_in_ret ?_ | refine g_exit ?_ | refine g_then_exit ?_ | refine g_in_exit ?_ | refine g_in_other rfl ?_ | refine g_skip ?_ | refine g_label ?_
    | refine g_cond_true rfl ?_ | refine g_cond_false rfl ?_ | exact s_m | intro _)
  refine s_q (q := by exact qs_makeI (td := .float .f64) ⟨by kernel_rfl⟩ rfl rfl) ?_
  repeat (first
    | (refine g_ops ?_; first | refine s_q ?_ | refine s_v ?_ | refine s_s ?_ | refine s_n (fun _ => ?_) | refine s_x ?_ | refine s_y ?_ | refine s_iq ?_ | refine s_mq ?_ | refine s_app (fun _ _ => ?_) | refine s_mv ?_ | refine s_ms ?_ | refine s_b0 (fun _ => ?_) | ((fail_if_success refine g_lit rfl rfl rfl ?_); first | apply g_partM rfl rfl rfl | apply g_partMB rfl rfl rfl | fail))
    | refine g_seq ?_ | refine g_region ?_ | refine g_nil ?_ | refine g_then_normal ?_ | refine g_block ?_ | refine g_in_normal ?_ | refine g_retc ?_ | refine g_then_ret ?_
    | refine g_in_ret ?_ | refine g_exit ?_ | refine g_then_exit ?_ | refine g_in_exit ?_ | refine g_in_other rfl ?_ | refine g_skip ?_ | refine g_label ?_
    | refine g_cond_true rfl ?_ | refine g_cond_false rfl ?_ | exact s_m | intro _)
  refine g_c (cs_strBytes inferInstance inferInstance inferInstance rfl) rfl rfl (fun sb _ => ?_)
  repeat (first
    | (refine g_ops ?_; first | refine s_q ?_ | refine s_v ?_ | refine s_s ?_ | refine s_n (fun _ => ?_) | refine s_x ?_ | refine s_y ?_ | refine s_iq ?_ | refine s_mq ?_ | refine s_app (fun _ _ => ?_) | refine s_mv ?_ | refine s_ms ?_ | refine s_b0 (fun _ => ?_) | ((fail_if_success refine g_lit rfl rfl rfl ?_); first | apply g_partM rfl rfl rfl | apply g_partMB rfl rfl rfl | fail))
    | refine g_seq ?_ | refine g_region ?_ | refine g_nil ?_ | refine g_then_normal ?_ | refine g_block ?_ | refine g_in_normal ?_ | refine g_retc ?_ | refine g_then_ret ?_
    | refine g_in_ret ?_ | refine g_exit ?_ | refine g_then_exit ?_ | refine g_in_exit ?_ | refine g_in_other rfl ?_ | refine g_skip ?_ | refine g_label ?_
    | refine g_cond_true rfl ?_ | refine g_cond_false rfl ?_ | exact s_m | intro _)
  refine s_q (q := by exact qs_buildArr (out := [.iface 3 (int n)]) inferInstance inferInstance inferInstance (by (repeat (first | exact Parts.nil | apply Parts.cons rfl (by first | exact CellsOf.agg | exact CellsOf.one rfl) rfl | exact App.nil | apply App.cons)); first | done | fail) rfl) ?_
  repeat (first
    | (refine g_ops ?_; first | refine s_q ?_ | refine s_v ?_ | refine s_s ?_ | refine s_n (fun _ => ?_) | refine s_x ?_ | refine s_y ?_ | refine s_iq ?_ | refine s_mq ?_ | refine s_app (fun _ _ => ?_) | refine s_mv ?_ | refine s_ms ?_ | refine s_b0 (fun _ => ?_) | ((fail_if_success refine g_lit rfl rfl rfl ?_); first | apply g_partM rfl rfl rfl | apply g_partMB rfl rfl rfl | fail))
    | refine g_seq ?_ | refine g_region ?_ | refine g_nil ?_ | refine g_then_normal ?_ | refine g_block ?_ | refine g_in_normal ?_ | refine g_retc ?_ | refine g_then_ret ?_
    | refine g_in_ret ?_ | refine g_exit ?_ | refine g_then_exit ?_ | refine g_in_exit ?_ | refine g_in_other rfl ?_ | refine g_skip ?_ | refine g_label ?_
    | refine g_cond_true rfl ?_ | refine g_cond_false rfl ?_ | exact s_m | intro _)
  rename_i b11 b5 b6
  refine g_toOwn (b := b11) (len := 11) (n := 1) (by (repeat (first | exact Sel.here | apply Sel.there)); first | done | fail) rfl rfl ?_
  refine g_pile (by (repeat (first | exact Sel.here | apply Sel.there)); first | done | fail) (by (repeat (first | exact Sel.here | apply Sel.there)); first | done | fail) (fun H1 hs1 hS => ?_)
  obtain ⟨xs, hS, hO⟩ : ∃ xs, SlAt (Pile H1) 1 (some ⟨b11, 0, none⟩) 11 xs ∧ ∀ (i : Nat) v, xs[i]? = some v → OtherT v := ⟨_, hS, fun i v hv => by
    match i, hv with
    | 0, hv => cases hv; exact ⟨_, _, rfl, rfl, rfl, rfl, rfl, rfl⟩
    | 1, hv => cases hv; exact ⟨_, _, rfl, rfl, rfl, rfl, rfl, rfl⟩
    | 2, hv => cases hv; exact ⟨_, _, rfl, rfl, rfl, rfl, rfl, rfl⟩
    | 3, hv => cases hv; exact ⟨_, _, rfl, rfl, rfl, rfl, rfl, rfl⟩
    | 4, hv => cases hv; exact ⟨_, _, rfl, rfl, rfl, rfl, rfl, rfl⟩
    | 5, hv => cases hv; exact ⟨_, _, rfl, rfl, rfl, rfl, rfl, rfl⟩
    | 6, hv => cases hv; exact ⟨_, _, rfl, rfl, rfl, rfl, rfl, rfl⟩
    | 7, hv => cases hv; exact ⟨_, _, rfl, rfl, rfl, rfl, rfl, rfl⟩
    | 8, hv => cases hv; exact ⟨_, _, rfl, rfl, rfl, rfl, rfl, rfl⟩
    | 9, hv => cases hv; exact ⟨_, _, rfl, rfl, rfl, rfl, rfl, rfl⟩
    | 10, hv => cases hv; exact ⟨_, _, rfl, rfl, rfl, rfl, rfl, rfl⟩
    | i + 11, hv => simp at hv⟩
  have hxl : xs.length = 11 := by have := hS.len; omega
  refine g_loop (X := OtX) (fun x => [(4, .bool false), (5, ptr b5), (6, ptr x.b)]) (fun x => [.row b5 [.slice (some ⟨b11, 0, none⟩) 11 11] 35, .row x.b [int x.i] 3, Pile x.H]) (fun x => x.i ≤ 11 ∧ HP.sub H1 x.H) (fun x => 11 - x.i) ⟨0, b6, H1⟩ ⟨Nat.zero_le _, HP.sub.refl _⟩ (by (repeat (first | exact FrSub.nil | refine FrSub.cons rfl ?_)); first | done | fail) (by (repeat (first | exact Take.nil | apply Take.cons | exact Sel.here | apply Sel.there)); first | done | fail) (fun x hx => ?_)
  obtain ⟨i, b6, H2⟩ := x
  obtain ⟨hi, hs2⟩ := hx
  dsimp only at hi hs2 ⊢
  have hT2 := hT.grow (hs1.trans hs2)
  repeat (first
    | (refine g_ops ?_; first | refine s_q ?_ | refine s_v ?_ | refine s_s ?_ | refine s_n (fun _ => ?_) | refine s_x ?_ | refine s_y ?_ | refine s_iq ?_ | refine s_mq ?_ | refine s_app (fun _ _ => ?_) | refine s_mv ?_ | refine s_ms ?_ | refine s_b0 (fun _ => ?_) | ((fail_if_success refine g_lit rfl rfl rfl ?_); first | apply g_partM rfl rfl rfl | apply g_partMB rfl rfl rfl | fail))
    | refine g_seq ?_ | refine g_region ?_ | refine g_nil ?_ | refine g_then_normal ?_ | refine g_block ?_ | refine g_in_normal ?_ | refine g_retc ?_ | refine g_then_ret ?_
    | refine g_in_ret ?_ | refine g_exit ?_ | refine g_then_exit ?_ | refine g_in_exit ?_ | refine g_in_other rfl ?_ | refine g_skip ?_ | refine g_label ?_
    | refine g_cond_true rfl ?_ | refine g_cond_false rfl ?_ | exact s_m | intro _)
  refine g_cond_dec rfl (fun h2 => ?_) (fun h2 => ?_)
  · have hi' : i < 11 := by omega
    have hgv : xs[i]? = some (xs[i]'(by omega)) := List.getElem?_eq_getElem _
    have hot := hO i _ hgv
    obtain ⟨b', o', e', hr0⟩ := slAt_cell (hS.grow hs2) hgv
    obtain ⟨rfl, rfl, _⟩ : b' = b11 ∧ o' = 0 ∧ True := by simp only [Option.some.injEq, Addr.mk.injEq, and_true] at e'; exact ⟨e'.1.symm, e'.2.symm, trivial⟩
    generalize xs[i]'_ = x at hot hr0
    obtain ⟨t, v, rfl, k1, k2, k3, k4, k5⟩ := hot
    have hot : OtherT (.iface t v) := ⟨t, v, rfl, k1, k2, k3, k4, k5⟩
    have hr : ∀ k', k' = i → Reads (Pile H2) ⟨b', 0 + k', none⟩ (.iface t v) := fun _ e => e ▸ hr0
    have hc := check1 hT2.vs (hot.tat (H := H2))
    rw [noV_w] at hc
    have hk := kind_none t v k1 k2 k3 k4 k5
    have htx := text_none hT2 hot
    have hii := int_no hot.int
    repeat (first
      | (refine g_ops ?_; first | refine s_q ?_ | refine s_v ?_ | refine s_s ?_ | refine s_n (fun _ => ?_) | refine s_x ?_ | refine s_y ?_ | refine s_iq ?_ | refine s_mq ?_ | refine s_app (fun _ _ => ?_) | refine s_mv ?_ | refine s_ms ?_ | refine s_b0 (fun _ => ?_) | ((fail_if_success refine g_lit rfl rfl rfl ?_); first | apply g_partM rfl rfl rfl | apply g_partMB rfl rfl rfl | fail) | refine s_p (hk) ?_ | refine s_k (hc) ?_ | refine s_k (htx) ?_)
      | refine g_seq ?_ | refine g_region ?_ | refine g_nil ?_ | refine g_then_normal ?_ | refine g_block ?_ | refine g_in_normal ?_ | refine g_retc ?_
      | refine g_then_ret ?_ | refine g_in_ret ?_ | refine g_exit ?_ | refine g_then_exit ?_ | refine g_in_exit ?_ | refine g_in_other rfl ?_ | refine g_skip ?_
      | refine g_label ?_ | refine g_cond_true rfl ?_ | refine g_cond_false rfl ?_ | exact s_m | intro _)
    rename_i bL
    dsimp only [List.cons_append, List.nil_append, List.append_eq]
    refine g_toOwn (b := bL) (len := 2) (n := 1) (by (repeat (first | exact Sel.here | apply Sel.there)); first | done | fail) rfl rfl ?_
    refine g_pile (by (repeat (first | exact Sel.here | apply Sel.there)); first | done | fail) (by (repeat (first | exact Sel.here | apply Sel.there)); first | done | fail) (fun H3 hs3 hS3 => ?_)
    have hT3 := hT2.grow hs3
    have hcL := check1 hT3.vs (noL_at hot hS3)
    rw [noL_w] at hcL
    replace hr0 := reads_grow hs3 hr0
    replace hr : ∀ k', k' = i → Reads (Pile H3) ⟨b', 0 + k', none⟩ (.iface t v) := fun _ e => e ▸ hr0
    repeat (first
      | (refine g_ops ?_; first | refine s_q ?_ | refine s_v ?_ | refine s_s ?_ | refine s_n (fun _ => ?_) | refine s_x ?_ | refine s_y ?_ | refine s_iq ?_ | refine s_mq ?_ | refine s_app (fun _ _ => ?_) | refine s_mv ?_ | refine s_ms ?_ | refine s_b0 (fun _ => ?_) | ((fail_if_success refine g_lit rfl rfl rfl ?_); first | apply g_partM rfl rfl rfl | apply g_partMB rfl rfl rfl | fail) | refine s_k (hcL) ?_)
      | refine g_seq ?_ | refine g_region ?_ | refine g_nil ?_ | refine g_then_normal ?_ | refine g_block ?_ | refine g_in_normal ?_ | refine g_retc ?_
      | refine g_then_ret ?_ | refine g_in_ret ?_ | refine g_exit ?_ | refine g_then_exit ?_ | refine g_in_exit ?_ | refine g_in_other rfl ?_ | refine g_skip ?_
      | refine g_label ?_ | refine g_cond_true rfl ?_ | refine g_cond_false rfl ?_ | exact s_m | intro _)
    rename_i bP
    dsimp only [List.cons_append, List.nil_append, List.append_eq]
    refine g_toOwn (b := bP) (len := 1) (n := 2) (by (repeat (first | exact Sel.here | apply Sel.there)); first | done | fail) rfl rfl ?_
    refine g_pile (by (repeat (first | exact Sel.here | apply Sel.there)); first | done | fail) (by (repeat (first | exact Sel.here | apply Sel.there)); first | done | fail) (fun H4 hs4 hS4 => ?_)
    have hT4 := hT3.grow hs4
    have hcP := check1 hT4.vs (noP_at hot hS4)
    rw [noP_w] at hcP
    replace hr0 := reads_grow hs4 hr0
    replace hr : ∀ k', k' = i → Reads (Pile H4) ⟨b', 0 + k', none⟩ (.iface t v) := fun _ e => e ▸ hr0
    repeat (first
      | (refine g_ops ?_; first | refine s_q ?_ | refine s_v ?_ | refine s_s ?_ | refine s_n (fun _ => ?_) | refine s_x ?_ | refine s_y ?_ | refine s_iq ?_ | refine s_mq ?_ | refine s_app (fun _ _ => ?_) | refine s_mv ?_ | refine s_ms ?_ | refine s_b0 (fun _ => ?_) | ((fail_if_success refine g_lit rfl rfl rfl ?_); first | apply g_partM rfl rfl rfl | apply g_partMB rfl rfl rfl | fail) | refine s_k (hcP) ?_)
      | refine g_seq ?_ | refine g_region ?_ | refine g_nil ?_ | refine g_then_normal ?_ | refine g_block ?_ | refine g_in_normal ?_ | refine g_retc ?_
      | refine g_then_ret ?_ | refine g_in_ret ?_ | refine g_exit ?_ | refine g_then_exit ?_ | refine g_in_exit ?_ | refine g_in_other rfl ?_ | refine g_skip ?_
      | refine g_label ?_ | refine g_cond_true rfl ?_ | refine g_cond_false rfl ?_ | exact s_m | intro _)
    refine g_as 91 (v' := .bool false) rfl rfl ?_
    dsimp only [List.cons_append, List.nil_append, List.append_eq]
    repeat (first
      | (refine g_ops ?_; first | refine s_q ?_ | refine s_v ?_ | refine s_s ?_ | refine s_n (fun _ => ?_) | refine s_x ?_ | refine s_y ?_ | refine s_iq ?_ | refine s_mq ?_ | refine s_app (fun _ _ => ?_) | refine s_mv ?_ | refine s_ms ?_ | refine s_b0 (fun _ => ?_) | ((fail_if_success refine g_lit rfl rfl rfl ?_); first | apply g_partM rfl rfl rfl | apply g_partMB rfl rfl rfl | fail) | refine s_p (hii) ?_)
      | refine g_seq ?_ | refine g_region ?_ | refine g_nil ?_ | refine g_then_normal ?_ | refine g_block ?_ | refine g_in_normal ?_ | refine g_retc ?_
      | refine g_then_ret ?_ | refine g_in_ret ?_ | refine g_exit ?_ | refine g_then_exit ?_ | refine g_in_exit ?_ | refine g_in_other rfl ?_ | refine g_skip ?_
      | refine g_label ?_ | refine g_cond_true rfl ?_ | refine g_cond_false rfl ?_ | exact s_m | intro _)
    refine s_q (q := by exact qs_makeFunc (vs := [ptr b5, ptr b6]) (by (repeat (first | exact Evs.nil | refine Evs.cons rfl ?_)); first | done | fail)) ?_
    repeat (first
      | (refine g_ops ?_; first | refine s_q ?_ | refine s_v ?_ | refine s_s ?_ | refine s_n (fun _ => ?_) | refine s_x ?_ | refine s_y ?_ | refine s_iq ?_ | refine s_mq ?_ | refine s_app (fun _ _ => ?_) | refine s_mv ?_ | refine s_ms ?_ | refine s_b0 (fun _ => ?_) | ((fail_if_success refine g_lit rfl rfl rfl ?_); first | apply g_partM rfl rfl rfl | apply g_partMB rfl rfl rfl | fail) | refine s_c (panics_ (other1_dies hot.int b5 b6 b' 0 i hi' _ _ hr0)) (fun _ _ => ?_))
      | refine g_seq ?_ | refine g_region ?_ | refine g_nil ?_ | refine g_then_normal ?_ | refine g_block ?_ | refine g_in_normal ?_ | refine g_retc ?_
      | refine g_then_ret ?_ | refine g_in_ret ?_ | refine g_exit ?_ | refine g_then_exit ?_ | refine g_in_exit ?_ | refine g_in_other rfl ?_ | refine g_skip ?_
      | refine g_label ?_ | refine g_cond_true rfl ?_ | refine g_cond_false rfl ?_ | exact s_m | intro _)
    rename_i b7
    dsimp only [List.cons_append, List.nil_append, List.append_eq]
    rw [show Value.int .i64 ((i : Int) + 1) = int ((i + 1 : Nat) : Int) by push_cast; rfl]
    exact g_again ⟨i + 1, b7, H4⟩ (by simp only; omega) ⟨by dsimp only; omega, (hs2.trans hs3).trans hs4⟩ (by (repeat (first | exact FrSub.nil | refine FrSub.cons rfl ?_)); first | done | fail) (by (repeat (first | exact Take.nil | apply Take.cons | exact Sel.here | apply Sel.there)); first | done | fail)
  · repeat (first
      | (refine g_ops ?_; first | refine s_q ?_ | refine s_v ?_ | refine s_s ?_ | refine s_n (fun _ => ?_) | refine s_x ?_ | refine s_y ?_ | refine s_iq ?_ | refine s_mq ?_ | refine s_app (fun _ _ => ?_) | refine s_mv ?_ | refine s_ms ?_ | refine s_b0 (fun _ => ?_) | ((fail_if_success refine g_lit rfl rfl rfl ?_); first | apply g_partM rfl rfl rfl | apply g_partMB rfl rfl rfl | fail) | refine s_c (awake hT2) (fun _ _ => ?_))
      | refine g_seq ?_ | refine g_region ?_ | refine g_nil ?_ | refine g_then_normal ?_ | refine g_block ?_ | refine g_in_normal ?_ | refine g_retc ?_
      | refine g_then_ret ?_ | refine g_in_ret ?_ | refine g_exit ?_ | refine g_then_exit ?_ | refine g_in_exit ?_ | refine g_in_other rfl ?_ | refine g_skip ?_
      | refine g_label ?_ | refine g_cond_true rfl ?_ | refine g_cond_false rfl ?_ | exact s_m | intro _)
    rename_i H3 hs3
    dsimp only [List.cons_append, List.nil_append, List.append_eq]
    refine g_unpile ((hs1.trans hs2).trans hs3) (by (repeat (first | exact Sel.here | apply Sel.there)); first | done | fail) ?_
    exact s_r ()
end Go.Proofs.YtpilcncdgjnbeaaDoor
