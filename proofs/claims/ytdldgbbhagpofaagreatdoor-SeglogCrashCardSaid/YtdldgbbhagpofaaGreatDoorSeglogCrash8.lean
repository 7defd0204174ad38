/- Contracts and laws that the proof stands on. -/
import Derived.Test.YtdldgbbhagpofaaGreatDoorSeglogCrash7
import Derived.Lib.MapLaws
import Derived.Lib.TrimUEq
import Derived.Lib.RuneCountTail
import Derived.Lib.ValidLaws
import Derived.RangeFuncSeq
import Derived.TacticsIn
import Derived.Test.YtdldgbbhagpofaaGreatDoorSeglogCrash3
import Derived.RowKit3
import Derived.Below
import Derived.Carry
import Derived.ChangeArms
import Derived.ProofKit
import Derived.OpenShut
set_option linter.unusedSimpArgs false
set_option linter.unusedVariables false
namespace Go.Sl
variable {P : Program} {Γ : Ctx} {L R : List Chunk} {N : Nat} {fr : Fr} {Q : Exit → Act → World → Prop} {ops : Array Oper} {rest : List Oper}
variable {d : Nat} {ty : TypeId} {pos : String} {aft : Array Edge} {gd : Option (Nat × Bool)} {x y z : Operand} {v u : Value} {t t2 tx : TypeId}
theorem qs_sliceStr {s : ByteArray} {l h : Nat} {lo hi : Option Operand} (D : TDesc P t .string) (hx : ev fr x = some (.string s)) (hl : Bnd fr 0 lo l) (hh : Bnd fr s.size hi h) (h1 : l ≤ h) (h2 : h ≤ s.size) :
    QStep P Γ fr ⟨some d, .slice t x lo hi none, ty, pos, aft, gd⟩ (.string (s.extract l h)) := qs_of (fun a w hf => by
  have key : ∀ (lv hv : Option Value), (lo.map a.eval = lv) → (hi.map a.eval = hv) → (Instr.sliceBounds false s.size s.size lv hv none).run P w = .ok (l, h, s.size) w → (execOp a.eval ⟨some d, .slice t x lo hi none, ty, pos, aft, gd⟩).run P w = .ok (.value (.string (s.extract l h))) w := by
    intro lv hv e1 e2 e3
    simp only [execOp, hf.ev hx, e1, e2, Option.map_none, Instr.sliceAt, Instr.slice, Sem.run_bind, run_underlying D.desc, Result.andThen_ok, Option.isSome_none, Bool.false_eq_true, if_false, e3, Sem.run_pure]
  cases hl with
  | none =>
    cases hh with
    | none => exact key none none rfl rfl (by simp [Instr.sliceBounds])
    | @some x' i' n' g1 g2 =>
      subst g2
      exact key none (some (.int .i64 h)) rfl (by simp [hf.ev g1]) (by simp [Instr.sliceBounds, run_sliceBound, h2])
  | @some x' i' n' g1 g2 =>
    subst g2
    cases hh with
    | none => exact key (some (.int .i64 l)) none (by simp [hf.ev g1]) rfl (by simp [Instr.sliceBounds, run_sliceBound, h1])
    | @some x2 i2 n2 g3 g4 =>
      subst g4
      exact key (some (.int .i64 l)) (some (.int .i64 h)) (by simp [hf.ev g1]) (by simp [hf.ev g3]) (by simp [Instr.sliceBounds, run_sliceBound, h1, h2]))
theorem qs_sliceArr {e : TypeId} {n h b o k : Nat} {kk : IntKind} {hi : Operand} (D : TDesc P t (.array n e)) (S : TSize P e k) (hx : ev fr x = some (.pointer (some ⟨b, o, none⟩))) (hh : ev fr hi = some (.int kk (h : Int))) (h2 : h ≤ n) (hz : n ≠ 0) :
    QStep P Γ fr ⟨some d, .slice t x none (some hi) none, ty, pos, aft, gd⟩ (.slice (some ⟨b, o, none⟩) h n) := qs_of (fun a w hf => by
  have hn : P.arrayLen t = n := by simp [Program.arrayLen, D.desc]
  have he : P.elem t = e := by simp [Program.elem, D.desc]
  have hr := run_sliceAt_array_h (P := P) w t ⟨b, o, none⟩ (by rw [hn, he]; exact D.desc) kk (h : Int) (by omega) (by rw [hn]; omega)
  rw [hn, he, run_sizeOf' S.size] at hr
  simp only [Result.andThen_ok, Int.toNat_natCast] at hr
  simp only [execOp, hf.ev hx, Option.map_none, Option.map_some, hf.ev hh, Sem.run_bind, hr]
  simp [slicedAt, hz, Addr.add])
theorem qs_shrK {i k : IntKind} {a n : Nat} (hx : ev fr x = some (.int i (a : Int))) (hy : ev fr y = some (.int k (n : Int))) (hn : n ≤ i.bits) : QStep P Γ fr ⟨some d, .binOp .shr t x y t2, ty, pos, aft, gd⟩ (.int i ((a / 2 ^ n : Nat) : Int)) :=
  qs_of (fun c w hf => by
    have e0 : ¬ ((n : Int) < 0) := by omega
    have e1 : min (n : Int).toNat i.bits = n := by
      rw [Int.toNat_natCast]; omega
    have e2 : (a : Int).fdiv (2 ^ n) = ((a / 2 ^ n : Nat) : Int) := by
      rw [Int.fdiv_eq_ediv_of_nonneg _ (by exact_mod_cast Nat.zero_le _)]
      norm_cast
    simp only [execOp, hf.ev hx, hf.ev hy, eqGuard_at_int, binOp_shr, Op.shift, e0, if_false, e1, e2]
    simp)
theorem does1_grow {f : FuncId} {args : List Value} {H H' : HP} (s : HP.sub H H') (fn : Does1 P f args [Pile H] v) : Does1 P f args [Pile H'] v := by
  intro Γ w hh
  obtain ⟨h, dh, sh, h1, h2, d12, s1, s2, hc, _⟩ := hh.own
  have hc' : h1 = H' := hc
  subst hc'
  let R : HP := h1.cut (fun b => (H b).isNone)
  have sR : HP.sub R h1 := HP.cut_sub _ _
  have dR : HP.disj H R := fun b => by
    show H b = none ∨ h1.cut (fun b => (H b).isNone) b = none
    unfold HP.cut
    cases hq : H b with
    | none => exact .inl rfl
    | some o => right; simp [hq]
  have dfR : HP.disj Γ.hf R := (HP.disj_sub dh.symm (sR.trans s1)).symm
  have dfH : HP.disj Γ.hf H := (HP.disj_sub dh.symm (s.trans s1)).symm
  have H0 : Holds (Γ.add R) [Pile H] w := by
    refine ⟨hh.os, hh.tape, hh.output, hh.frz, HP.union_sub hh.frame ((sR.trans s1).trans sh), H, ?_, (s.trans s1).trans sh, H, fun _ => none, fun _ => .inr rfl, HP.sub.refl _, (fun _ _ e => by cases e), rfl, trivial⟩
    exact HP.disj_union dfH dR.symm
  refine (fn (Γ.add R) w H0).mono ?_
  rintro e w' ⟨x, hx, rfl, hB⟩
  refine ⟨x, hx, rfl, ?_⟩
  obtain ⟨h', dh', sh', g1, _, _, t1, _, gc, _⟩ := hB.own
  have gc' : g1 = H := gc
  subst gc'
  have hf' : HP.sub (HP.union Γ.hf R) (wheap w') := hB.frame
  refine ⟨hB.os, hB.tape, hB.output, hB.frz, (HP.sub_union_left _ _).trans hf', h1, (HP.disj_sub dh.symm s1).symm, ?_, h1, fun _ => none, fun _ => .inr rfl, HP.sub.refl _, (fun _ _ e => by cases e), rfl, trivial⟩
  intro b o hb
  cases hg : g1 b with
  | some o' =>
    have e1 := s _ _ hg
    rw [hb] at e1
    cases e1
    exact sh' _ _ (t1 _ _ hg)
  | none => exact hf' _ _ (HP.sub_union_right dfR _ _ (by
      show h1.cut (fun b => (g1 b).isNone) b = some o
      unfold HP.cut
      simp [hg, hb]))
end Go.Sl

namespace Go.Sl
variable {P : Program} {Γ : Ctx} {L R : List Chunk} {N : Nat} {fr : Fr} {Q : Exit → Act → World → Prop} {ops : Array Oper} {rest : List Oper}
abbrev FW (r : Option Nat) : Fence := { Fence.wide with round := r }
theorem calls_fw {r : Option Nat} {n : Nat} {f : FuncId} {args : Array Value} {w : World} {S : Ending → World → Prop} (h : Calls P f args w S) : CallsIn (FW r) n P f args w S := (callsIn_wide (n := n)).2 h
theorem rows_fw {r : Option Nat} {n : Nat} {f : String} {args : Array Value} {w : World} {S : Value → World → Prop} (h : Rows P f args w S) : RowsIn (FW r) n P f args w S := fun c cs _ =>
  let ⟨v, w', hr, hs⟩ := h c cs
  ⟨v, w', hr, (stepsIn_wide (P := P)).2 hs⟩
def isDef : Op → Bool
  | .defer _ => true
  | _ => false
def noDef (l : List Oper) : Bool := l.all fun o => !isDef o.op
theorem oper_in {r : Option Nat} {n : Nat} {o : Oper} {a : Act} {w : World} {K K' : Act → World → Prop} {Q' : Exit → Act → World → Prop} (hd : isDef o.op = false) (hK : ∀ a w, K a w → K' a w)
    (hp : ∀ c a w, Q (.panic c) a w → Q' (.panic c) a w) (ho : ∀ a w, Q .outgrown a w → Q' .outgrown a w) (h : o.wp P a w K Q) : o.wpIn (FW r) n P a w K' Q' := by
  refine ⟨fun _ _ => trivial, ?_⟩
  have hs : o.semAt (FW r).round a.eval = execOp a.eval o := Oper.semAt_eq _ _ _ (fun c e => by rw [e] at hd; cases hd)
  rw [hs]
  unfold Oper.wp at h
  have hlo : LetsOut Q → LetsOut Q' := fun ⟨a, w, h⟩ => ⟨a, w, ho _ _ h⟩
  generalize (execOp a.eval o).run P w = res at h ⊢
  cases res with
  | halt x w' => cases x <;> first | exact hp _ _ _ h | exact h.elim
  | ok nx w' =>
    cases nx with
    | value v => exact hK _ _ h
    | skip => exact hK _ _ h
    | defer d => exact hK _ _ h
    | enter f args =>
      refine ⟨fun e => by simp [Fence.wide] at e, calls_fw (Calls.mono h fun e w'' he => ?_)⟩
      cases e with
      | returned v => exact hK _ _ he
      | panicked c => exact hp _ _ _ he
      | outgrown => exact hlo he
    | row row args => exact ⟨fun e => by simp [Fence.wide] at e, rows_fw (Rows.mono h fun v w'' he => hK _ _ he)⟩
    | _ => exact h.elim
theorem list_in {r : Option Nat} {n : Nat} {K : Act → World → Prop} (hQ : ∀ a w, Q .outgrown a w → False) (hr : ∀ a w, K a w → wpListIn (FW r) n P ops Q rest a w) : ∀ (l : List Oper), noDef l = true → ∀ a w, wpList P ops (Exit.then K Q) l a w → wpListIn (FW r) n P ops Q (l ++ rest) a w
  | [], _, a, w, h => hr a w h
  | o :: l, hn, a, w, h => by
    unfold noDef at hn
    simp only [List.all_cons, Bool.and_eq_true, Bool.not_eq_true'] at hn
    unfold wpList at h
    rw [List.cons_append]
    unfold wpListIn
    split at h
    · rename_i hw
      rw [if_pos hw]
      rcases h with h | ⟨_, a', w', h⟩
      · exact oper_in hn.1 (fun a w h => list_in hQ hr l hn.2 a w h) (fun _ _ _ h => h) (fun _ _ h => h) h
      · exact (hQ _ _ h).elim
    · rename_i hw
      rw [if_neg hw]
      exact ⟨fun _ _ => trivial, list_in hQ hr l hn.2 _ _ h⟩
theorem list_all {r : Option Nat} {n : Nat} (hQ : ∀ a w, Q .outgrown a w → False) {l : List Oper} (hn : noDef l = true) {a : Act} {w : World} (h : wpList P ops Q l a w) : wpListIn (FW r) n P ops Q l a w := by
  have h' : wpList P ops (Exit.then (Q .normal) Q) l a w := by
    have e : Exit.then (Q .normal) Q = Q := by funext e; cases e <;> rfl
    rw [e]; exact h
  have := list_in (r := r) (n := n) (rest := []) (K := Q .normal) hQ (fun _ _ h => h) l hn a w h'
  simpa using this
def Begin (P : Program) (l : Nat) (body : Code) (Q : Exit → Act → World → Prop) : Exit → Act → World → Prop :=
  Exit.then (fun a₁ w₁ => ∃ w₂, (Instr.beginRound l).run P w₁ = .ok () w₂ ∧ body.wpIn (FW (some l)) 0 P Q a₁ w₂) (fun _ _ _ => False)
def RPost {X : Type} (P : Program) (l : Nat) (Γ : Ctx) (B : Bool → X → List Chunk) (φ : Bool → X → Prop) : Exit → Act → World → Prop :=
  roundPost P l fun e w' => ∃ b x, φ b x ∧ e = .returned (.bool b) ∧ Holds Γ (B b x) w'
theorem post_no {X : Type} {ret : X → Value} {B : X → List Chunk} {φ : X → Prop} {w : World} (h : Post Γ ret B φ .outgrown w) : False := by
  obtain ⟨_, _, h, _⟩ := h
  cases h
def MPost {X : Type} (P : Program) (fn : Func) (Γ : Ctx) (ret : X → Value) (B : X → List Chunk) (φ : X → Prop) : Exit → Act → World → Prop := bodyPostM Fence.wide 0 P fn (Post Γ ret B φ)
def NoOut (Q : Exit → Act → World → Prop) : Prop := ∀ a w, Q .outgrown a w → False
theorem no_then {K : Act → World → Prop} (h : NoOut Q) : NoOut (Exit.then K Q) := h
theorem no_in {i : Nat} (h : NoOut Q) : NoOut (Exit.inBlock i Q) := h
theorem no_body {X : Type} {fn : Func} {ret : X → Value} {B : X → List Chunk} {φ : X → Prop} : NoOut (bodyPost P fn (Post Γ ret B φ)) := fun _ _ h => post_no h
theorem no_M {X : Type} {fn : Func} {ret : X → Value} {B : X → List Chunk} {φ : X → Prop} : NoOut (MPost P fn Γ ret B φ) := fun _ _ h => post_no h
theorem no_R {X : Type} {l : Nat} {B : Bool → X → List Chunk} {φ : Bool → X → Prop} : NoOut (RPost P l Γ B φ) := fun _ _ h => h
theorem no_begin {l : Nat} {body : Code} : NoOut (Begin P l body Q) := fun _ _ h => h
theorem no_mid {fr : Fr} : NoOut (MidQ Γ N fr L) := fun _ _ h => h
section
variable {r : Option Nat}
theorem r_seq {x y : Code} (g : G Γ N fr L (x.wpIn (FW r) 0 P (Exit.then (y.wpIn (FW r) 0 P Q) Q))) : G Γ N fr L ((Code.seq x y).wpIn (FW r) 0 P Q) := g.mono fun _ _ h => wpIn_seq h
theorem r_skip (g : G Γ N fr L (Q .normal)) : G Γ N fr L (Code.skip.wpIn (FW r) 0 P Q) := g.mono fun _ _ h => wpIn_skip h
theorem r_retc (g : G Γ N fr L (Q .ret)) : G Γ N fr L (Code.ret.wpIn (FW r) 0 P Q) := g.mono fun _ _ h => wpIn_ret h
theorem r_block {id : Nat} {c : Code} (g : G Γ N fr L (c.wpIn (FW r) 0 P (Exit.inBlock id Q))) : G Γ N fr L ((Code.block id c).wpIn (FW r) 0 P Q) := g.mono fun _ _ h => wpIn_block h
theorem r_region {id : Nat} {l : List Oper} (g : G Γ N fr L (wpList P l.toArray Q l)) (hn : noDef l = true := by rfl) (hQ : NoOut Q := by repeat (first | exact no_body | exact no_M | exact no_R | exact no_begin | exact no_mid | apply no_then | apply no_in)) : G Γ N fr L ((Code.region id l.toArray false).wpIn (FW r) 0 P Q) := g.mono fun _ _ h => wpIn_region_lit (list_all hQ hn h)
theorem r_cond {c : Operand} {x y : Code} {t : Bool} (hc : ev fr c = some (.bool t)) (gt : t = true → G Γ N fr L (x.wpIn (FW r) 0 P Q)) (gf : t = false → G Γ N fr L (y.wpIn (FW r) 0 P Q)) : G Γ N fr L ((Code.cond c x y).wpIn (FW r) 0 P Q) :=
  fun a w hN hd hf hh => wpIn_cond_split (hf.ev hc) (fun h => gt h a w hN hd hf hh) (fun h => gf h a w hN hd hf hh)
theorem r_cond_true {c : Operand} {x y : Code} (hc : ev fr c = some (.bool true)) (g : G Γ N fr L (x.wpIn (FW r) 0 P Q)) : G Γ N fr L ((Code.cond c x y).wpIn (FW r) 0 P Q) :=
  r_cond hc (fun _ => g) (fun h => by cases h)
theorem r_cond_false {c : Operand} {x y : Code} (hc : ev fr c = some (.bool false)) (g : G Γ N fr L (y.wpIn (FW r) 0 P Q)) : G Γ N fr L ((Code.cond c x y).wpIn (FW r) 0 P Q) :=
  r_cond hc (fun h => by cases h) (fun _ => g)
end
def lp (l : Nat) (r : Loop) (s : LoopState) (p : Option Code) : Chunk := .pt l (.loop { r with state := s, pending := p })
def YDoes (P : Program) (l : Nat) (args : List Value) (A : List Chunk) {X : Type} (B : Bool → X → List Chunk) (φ : Bool → X → Prop) : Prop :=
  ∀ Γ w, Holds Γ A w → YieldAt (FW none) 0 P l args.toArray w fun e w' => ∃ b x, φ b x ∧ e = .returned (.bool b) ∧ Holds Γ (B b x) w'
def putFr : List Nat → List Value → Fr → Fr
  | p :: ps, v :: vs, fr => putFr ps vs ((p, v) :: fr)
  | _, _, fr => fr
theorem putFr_ok : ∀ (ps : List Nat) (vs : List Value) (fr : Fr) (tmps : Array Value) (ds : List Deferred), tmps.size = N → (∀ p ∈ ps, p < N) → Fr.ok fr ⟨tmps, ds⟩ →
    ((ps.zip vs).foldl (fun t x => t.setIfInBounds x.1 x.2) tmps).size = N ∧ Fr.ok (putFr ps vs fr) ⟨(ps.zip vs).foldl (fun t x => t.setIfInBounds x.1 x.2) tmps, ds⟩
  | [], vs, fr, tmps, ds, hN, _, hf => by cases vs <;> exact ⟨hN, hf⟩
  | p :: ps, [], fr, tmps, ds, hN, _, hf => ⟨hN, hf⟩
  | p :: ps, v :: vs, fr, tmps, ds, hN, hp, hf => by
    have h1 : Fr.ok ((p, v) :: fr) (Act.put ⟨tmps, ds⟩ (some p) v) := hf.put (by show p < tmps.size; rw [hN]; exact hp p (by simp)) v
    exact putFr_ok ps vs ((p, v) :: fr) (tmps.setIfInBounds p v) ds (by simpa using hN) (fun q hq => hp q (by simp [hq])) h1
theorem y_intro {l : Nat} {r : Loop} {ps : List Nat} {vs : List Value} {A : List Chunk} {X : Type} {B : Bool → X → List Chunk} {φ : Bool → X → Prop} {fr' : Fr}
    (hps : r.params = ps.toArray) (hlen : vs.length = ps.length) (hN : r.tmps.size = N) (hin : ∀ p ∈ ps, p < N) (hf : Fr.ok fr ⟨r.tmps, []⟩) (hfr : putFr ps vs fr = fr')
    (g : ∀ Γ : Ctx, G Γ.z N fr' (lp l r .ready none :: A) (r.assign.wpIn (FW (some l)) 0 P (Begin P l r.body (RPost P l Γ.z B φ)))) : YDoes P l vs (lp l r .ready none :: A) B φ := by
  intro Γ w hh
  have hb : w.heap[l]? = some (.loop { r with state := .ready, pending := none }) := hh.block .here
  obtain ⟨h1, h2⟩ := putFr_ok ps vs fr r.tmps [] hN hin hf
  refine ⟨_, _, _, _, run_yield hb (by simp [hps, hlen]), roundIn_of_wpIn (F := FW none) trivial ?_⟩
  have e : ((r.params.zip vs.toArray).foldl (fun tmps (t, a) => tmps.setIfInBounds t a) r.tmps) = (ps.zip vs).foldl (fun t x => t.setIfInBounds x.1 x.2) r.tmps := by
    rw [hps]; simp
  have g' := g Γ ⟨(ps.zip vs).foldl (fun t x => t.setIfInBounds x.1 x.2) r.tmps, []⟩ w h1 rfl (by rw [← hfr]; exact h2) hh.z
  have g'' : r.assign.wpIn (FW (some l)) 0 P (Begin P l r.body (RPost P l Γ.z B φ)) ⟨(r.params.zip vs.toArray).foldl (fun tmps (t, a) => tmps.setIfInBounds t a) r.tmps, []⟩ w := by rw [e]; exact g'
  have hun : ∀ e w', (∃ b x, φ b x ∧ e = Ending.returned (.bool b) ∧ Holds Γ.z (B b x) w') → ∃ b x, φ b x ∧ e = Ending.returned (.bool b) ∧ Holds Γ (B b x) w' := fun e w' ⟨b, x, h1, h2, h3⟩ => ⟨b, x, h1, h2, h3.unz⟩
  refine wpIn_mono g'' fun e a₁ w₁ h => ?_
  cases e with
  | normal =>
    obtain ⟨w₂, hbr, hbody⟩ := h
    refine ⟨w₂, hbr, wpIn_mono hbody fun e a₂ w₃ h => ?_⟩
    cases e with
    | normal => obtain ⟨v, w', h1, h2⟩ := h; exact ⟨v, w', h1, hun _ _ h2⟩
    | ret => obtain ⟨v, w', h1, h2⟩ := h; exact ⟨v, w', h1, hun _ _ h2⟩
    | exit i => obtain ⟨v, w', h1, h2⟩ := h; exact ⟨v, w', h1, hun _ _ h2⟩
    | goto i => obtain ⟨v, w', h1, h2⟩ := h; exact ⟨v, w', h1, hun _ _ h2⟩
    | panic c => exact h
    | outgrown => exact h
  | _ => exact h.elim
theorem Holds.putLp {l : Nat} {r : Loop} {s s' : LoopState} {p p' : Option Code} {w : World} (hh : Holds Γ L w) (s0 : Sel L (lp l r s p) R) : Holds Γ (lp l r s' p' :: R) (w.putObj l (.loop { r with state := s', pending := p' })) := by
  have hb := hh.block s0
  have hlt : l < w.heap.size := (Array.getElem?_eq_some_iff.1 hb).1
  exact hh.update s0 rfl rfl rfl (World.putObj_heap_same hlt) rfl (fun c hc => World.putObj_heap_other hc)
theorem r_begin {l : Nat} {r : Loop} {body : Code} {p : Option Code} (s : Sel L (lp l r .ready p) R) (g : G Γ N fr (lp l r .busy p :: R) (body.wpIn (FW (some l)) 0 P Q)) : G Γ N fr L (Begin P l body Q .normal) := by
  intro a w hN hd hf hh
  have hb : w.heap[l]? = some (.loop { r with state := .ready, pending := p }) := hh.block s
  exact ⟨_, run_beginRound hb rfl, g a _ hN hd hf (hh.putLp s)⟩
section
variable {X : Type} {B : Bool → X → List Chunk} {φ : Bool → X → Prop}
theorem r_next {l : Nat} {r : Loop} {R' : List Chunk} {st : LoopState} {p : Option Code} (x : X) (s : Sel L (lp l r st p) R) (t : Take (lp l r .ready none :: R) (B true x) R') (hx : φ true x) : G Γ N fr L (RPost P l Γ B φ .normal) := by
  intro a w hN hd hf hh
  have hb := hh.block s
  exact ⟨_, _, run_endRound none hb, true, x, hx, rfl, (Holds.putLp (s' := .ready) (p' := none) hh s).takeDrop t⟩
theorem r_leave {l : Nat} {r : Loop} {R' : List Chunk} {st : LoopState} {p : Option Code} (x : X) (s : Sel L (lp l r st p) R) (t : Take (lp l r .done (some .ret) :: R) (B false x) R') (hx : φ false x) : G Γ N fr L (RPost P l Γ B φ .ret) := by
  intro a w hN hd hf hh
  have hb := hh.block s
  exact ⟨_, _, run_endRound (some .ret) hb, false, x, hx, rfl, (Holds.putLp (s' := .done) (p' := some .ret) hh s).takeDrop t⟩
end
theorem g_regY {id : Nat} {l : List Oper} (k : Nat)
    (g : G Γ N fr L (wpList P l.toArray (Exit.then (wpListIn (FW none) 0 P l.toArray Q (l.drop k)) Q) (l.take k))) (hn : noDef (l.take k) = true := by rfl) (hQ : NoOut Q := by repeat (first | exact no_body | exact no_M | exact no_R | exact no_begin | exact no_mid | apply no_then | apply no_in)) : G Γ N fr L ((Code.region id l.toArray false).wp P Q) := by
  refine g.mono fun a w h => (wpIn_wide (n := 0)).1 ?_
  refine wpIn_region_lit (F := FW none) ?_
  have := list_in (r := none) (n := 0) hQ (fun _ _ h => h) (l.take k) hn a w h
  rwa [List.take_append_drop] at this
theorem g_back {l : List Oper} (g : G Γ N fr L (wpList P ops Q l)) (hn : noDef l = true := by rfl) (hQ : NoOut Q := by repeat (first | exact no_body | exact no_M | exact no_R | exact no_begin | exact no_mid | apply no_then | apply no_in)) : G Γ N fr L (wpListIn (FW none) 0 P ops Q l) := g.mono fun _ _ h => list_all hQ hn h
theorem g_yield {d l : Nat} {ty : TypeId} {pos : String} {aft : Array Edge} {gd : Option (Nat × Bool)} {t : Operand} {xs : List Operand} {vs : List Value} {tys : Array TypeId} {A : List Chunk} {X : Type} {B : Bool → X → List Chunk} {φ : Bool → X → Prop}
    (Y : YDoes P l vs A B φ) (ht : ev fr t = some (.func (.yield l) #[] #[])) (hg : Runs ops fr gd) (hN : Nat.blt d N = true) (he : Evs fr xs vs) (tk : Take L A R)
    (k : ∀ b x, φ b x → G Γ N ((d, .bool b) :: fr) (B b x ++ R) (wpListIn (FW none) 0 P ops Q rest)) : G Γ N fr L (wpListIn (FW none) 0 P ops Q (⟨some d, .call ⟨.value t, xs.toArray, tys⟩, ty, pos, aft, gd⟩ :: rest)) := by
  intro a w hs hdf hf hh
  obtain ⟨m, dm, hr, hA⟩ := (hh.take tk).split
  obtain ⟨fn, tmps, assign, body, hy, hround⟩ := Y _ w hA
  unfold wpListIn
  rw [if_pos (runs_wanted hf hg)]
  refine ⟨fun _ _ => trivial, ?_⟩
  have hrun : (execOp a.eval (⟨some d, .call ⟨.value t, xs.toArray, tys⟩, ty, pos, aft, gd⟩ : Oper)).run P w = .ok (.round l fn tmps assign body) w := by
    have hm : (xs.toArray.map a.eval) = vs.toArray := by rw [List.map_toArray, he.map hf]
    simp [execOp, resolve, Deferred.ofValue, invoke, hf.ev ht, he.map hf, hy]
  show Oper.uponIn _ _ _ _ _ _ _ (Sem.run P (Oper.semAt none a.eval _) w)
  rw [Oper.semAt_none, hrun]
  refine ⟨fun e => by simp [Fence.wide] at e, hround.mono ?_⟩
  rintro e w' ⟨b, x, hx, rfl, hB⟩
  exact k b x hx _ _ (by simp [Act.put, hs]) hdf (hf.put (by rw [hs]; exact blt_lt hN) _) (hB.join dm hr)
def mark (D : Nat) : Deferred := { target := .collected D, args := #[] }
@[reducible] def Ctx.put (Γ : Ctx) (D : Nat) : Ctx := { Γ with df := mark D :: Γ.df }
theorem Holds.put {D : Nat} {w : World} (h : Holds Γ L w) : Holds (Γ.put D) L w := ⟨h.os, h.tape, h.output, h.frz, h.frame, h.own⟩
def dfc (D : Nat) : Chunk := .pt D (.deferred (some []))
theorem Take.under {c : Chunk} {A : List Chunk} (t : Take L A R) : Take (c :: L) A (c :: R) := by
  induction t with
  | nil => exact .nil
  | cons s _ ih => exact .cons (.there s) ih
theorem g_range {X : Type} {t : Operand} {ps : Array Tmp} {assign body : Code} {f : FuncId} {caps : List Value} {A : List Chunk} {ret : X → Value} {B : X → List Chunk} {pd : X → Bool} {φ : X → Prop} [C : Callable P f]
    (ht : ev fr t = some (.func (.func f) #[] caps.toArray)) (tk : Take L A R)
    (fn : ∀ (l : Nat) (r : Loop), r.params = ps → r.assign = assign → r.body = body → r.tmps.size = N → Fr.ok fr ⟨r.tmps, []⟩ →
      Does P f (.func (.yield l) #[] #[] :: caps) (lp l r .ready none :: A) ret (fun x => lp l r (if pd x then .done else .ready) (if pd x then some .ret else none) :: B x) φ)
    (k : ∀ D x, φ x → pd x = false → G (Γ.put D) N fr (B x ++ dfc D :: R) (Q .normal))
    (k' : ∀ D x, φ x → pd x = true → G (Γ.put D) N fr (B x ++ dfc D :: R) (Q .ret)) : G Γ N fr L ((Code.rangeFunc t ps assign body).wp P Q) := by
  intro a w hN hd hf hh
  refine (wpIn_wide (n := 0)).1 (wpIn_rangeFunc (F := Fence.wide) fun fn0 _ => ?_)
  let r : Loop := { state := .ready, pending := none, fn := fn0, tmps := a.tmps, params := ps, assign, body, defers := w.heap.size }
  have h1 : Holds Γ (dfc w.heap.size :: L) (w.alloc (.deferred (some []))) := hh.new rfl rfl rfl rfl rfl
  have h2 : Holds Γ (lp (w.heap.size + 1) r .ready none :: dfc w.heap.size :: L) ((w.alloc (.deferred (some []))).alloc (.loop r)) := by
    have := h1.new (o := .loop r) (w' := (w.alloc (.deferred (some []))).alloc (.loop r)) rfl rfl rfl rfl rfl
    rw [World.size_alloc] at this
    exact this
  have htake : Take (lp (w.heap.size + 1) r .ready none :: dfc w.heap.size :: L) (lp (w.heap.size + 1) r .ready none :: A) (dfc w.heap.size :: R) := .cons .here tk.under
  obtain ⟨m, dm, hr, hA⟩ := (h2.take htake).split
  have hres : (resolve a.eval (rangeCall t (w.heap.size + 1)) 0).run P ((w.alloc (.deferred (some []))).alloc (.loop r)) = .ok ⟨.fn (.func f) caps.toArray, #[.func (.yield (w.heap.size + 1)) #[] #[]]⟩ ((w.alloc (.deferred (some []))).alloc (.loop r)) := by
    have he : a.eval t = _ := hf.ev ht
    have hc : ∀ v, a.eval (.const v) = v := fun _ => rfl
    simp [resolve, rangeCall, Deferred.ofValue, he, hc]
  have hinv : (invoke (.fn (.func f) caps.toArray) #[.func (.yield (w.heap.size + 1)) #[] #[]]).run P ((w.alloc (.deferred (some []))).alloc (.loop r)) = .ok (.enter f (.func (.yield (w.heap.size + 1)) #[] #[] :: caps).toArray) ((w.alloc (.deferred (some []))).alloc (.loop r)) := by
    have := C.call (.func (.yield (w.heap.size + 1)) #[] #[] :: caps).toArray ((w.alloc (.deferred (some []))).alloc (.loop r))
    simpa [invoke] using this
  refine ⟨w.heap.size + 1, [mark w.heap.size], _, _, _, f, _, _, run_enterLoop_outer fn0 a.tmps ps assign body, hres, fun _ _ => trivial, hinv, fun e => by simp [Fence.wide] at e, ?_⟩
  refine calls_fw (r := none) (Calls.mono (fn (w.heap.size + 1) r rfl rfl rfl hN (fun t v h => hf t v h) _ _ hA) ?_)
  rintro e w' ⟨x, hx, rfl, hB⟩
  have hj := hB.join dm hr
  have hb := hj.block .here
  have hnb : (if pd x then LoopState.done else LoopState.ready) ≠ .busy := by cases pd x <;> simp
  refine ⟨_, _, run_endLoop hb hnb, ?_⟩
  have hj2 := ((hj.putLp (s' := .exhausted) (p' := if pd x then some .ret else none) .here).takeDrop (take_head _)).put (D := w.heap.size)
  cases hp : pd x with
  | false =>
    rw [hp] at hj2
    exact k w.heap.size x hx hp _ _ hN (by show [mark w.heap.size] ++ a.defers = _; rw [hd]; rfl) (fun t v h => hf t v h) hj2
  | true =>
    rw [hp] at hj2
    refine wpIn_ret ?_
    exact k' w.heap.size x hx hp _ _ hN (by show [mark w.heap.size] ++ a.defers = _; rw [hd]; rfl) (fun t v h => hf t v h) hj2
theorem fn_introM {X : Type} {f : FuncId} {fn : Func} {c : Code} {args : List Value} {A : List Chunk} {ret : X → Value} {B : X → List Chunk} {φ : X → Prop}
    (hf : P.funcs[f]? = some fn) (hb : fn.body = some c) (hN : fn.ntmps = N) (hle : Nat.ble args.length N = true) (hfr : argFr 0 args = fr)
    (g : ∀ Γ : Ctx, G Γ.z N fr A (c.wp P (MPost P fn Γ.z ret B φ))) : Does P f args A ret B φ := by
  intro Γ w hh
  have hle' := Nat.le_of_ble_eq_true hle
  have e : Post Γ.z ret B φ = Post Γ ret B φ := by
    funext e w
    exact propext ⟨post_unz, fun ⟨x, hx, he, h⟩ => ⟨x, hx, he, h.z⟩⟩
  have gg := g Γ
  unfold MPost at gg
  rw [e] at gg
  refine (callsIn_wide (n := 0)).1 (callsIn_of_wp_marks hf hb trivial ((wpIn_wide (n := 0)).2 (gg { tmps := args.toArray ++ Array.replicate (fn.ntmps - args.toArray.size) undef, defers := [] } w (by simp [hN]; omega) rfl ?_ hh.z)))
  intro t v h
  rw [← hfr] at h
  obtain ⟨_, h2⟩ := argFr_ok args 0 t v h
  simp only [Nat.sub_zero] at h2
  have hlt : t < args.length := (List.getElem?_eq_some_iff.1 h2).1
  have h3 : args[t] = v := by rw [List.getElem?_eq_getElem hlt] at h2; simpa using h2
  simp [Array.getD_eq_getD_getElem?, Array.getElem?_append, hlt, h3]
section
variable {X : Type} {fn : Func} {ret : X → Value} {B : X → List Chunk} {φ : X → Prop} {rs : List ResultVar} {vs : List Value}
theorem g_retM0 (x : X) (hr : fn.results = rs.toArray) (h : RVs P fr L rs vs) (tk : Take L (B x) R) (hp : pack vs = ret x) (hx : φ x) (hdf : Γ.df = [] := by rfl) : G Γ N fr L (MPost P fn Γ ret B φ .ret) := by
  intro a w _ hd hf hh
  show LeavesInM Fence.wide 0 P fn a.tmps _ a.defers .returning w
  rw [hd, hdf]
  exact ⟨_, RVs.res hr h hf hh, x, hx, by rw [hp], hh.takeDrop tk⟩
theorem g_retM {R0 : List Chunk} {Δ : Ctx} (D : Nat) (x : X) (s : Sel L (dfc D) R0) (hr : fn.results = rs.toArray) (h : RVs P fr R0 rs vs) (tk : Take R0 (B x) R) (hp : pack vs = ret x) (hx : φ x) (hz : Δ.df = [] := by rfl) : G (Δ.put D) N fr L (MPost P fn Δ ret B φ .ret) := by
  intro a w _ hd hf hh
  show LeavesInM Fence.wide 0 P fn a.tmps _ a.defers .returning w
  have e : (Δ.put D).df = [mark D] := by show mark D :: Δ.df = _; rw [hz]
  rw [hd, e]
  have hb := hh.block s
  have hlt : D < w.heap.size := (Array.getElem?_eq_some_iff.1 hb).1
  have hh2 : Holds Δ R0 (w.putObj D (.deferred none)) := by
    have h1 : Holds Δ L w := ⟨hh.os, hh.tape, hh.output, hh.frz, hh.frame, hh.own⟩
    have h2 : Holds Δ (.pt D (.deferred none) :: R0) (w.putObj D (.deferred none)) := h1.update s rfl rfl rfl (World.putObj_heap_same hlt) rfl (fun c hc => World.putObj_heap_other hc)
    exact h2.takeDrop (take_head _)
  exact ⟨by simp, .inl ⟨D, _, rfl, run_takeDeferred hb, _, RVs.res hr h hf hh2, x, hx, by rw [hp], hh2.takeDrop tk⟩⟩
end
end Go.Sl

namespace Go.Sl
open Go Go.RowKit
abbrev Ctx.of (W : World) : Ctx := ⟨W.heap.size, fun b => fzOf W.heap[b]?, fun _ => none, W.os, W.tape, W.output, []⟩
abbrev Init (W : World) : Chunk := .asn fun h => h = wheap W
theorem holds_init (W : World) : Holds (Ctx.of W) [Init W] W :=
  ⟨rfl, rfl, rfl, ⟨Nat.le_refl _, fun _ _ => rfl⟩, (fun _ _ h => by cases h), wheap W, (fun _ => .inl rfl), HP.sub.refl _, wheap W, fun _ => none, (fun _ => .inr rfl), HP.sub.refl _, (fun _ _ h => by cases h), rfl, trivial⟩
structure Stays (W w : World) : Prop where
  kept : W.keptBut w (fun _ => False)
  froz : ∀ a : Addr, a.block < W.heap.size → w.frozen? a = W.frozen? a
  below : Below W.heap.size W w
theorem stays_of_holds {W w : World} {L R : List Chunk} (hh : Holds (Ctx.of W) L w) (s : Sel L (Init W) R) : Stays W w := by
  have hs := hh.sel s
  obtain ⟨h, _, s1, h1, _, _, t1, _, hc, _⟩ := hs.own
  have hc' : h1 = wheap W := hc
  subst hc'
  have keep : ∀ (i : Nat) (o : Obj), W.heap[i]? = some o → w.heap[i]? = some o := fun i o hi => s1 _ _ (t1 _ _ hi)
  have size : W.heap.size ≤ w.heap.size := by
    by_cases h0 : W.heap.size = 0
    · omega
    · have hi' : W.heap[W.heap.size - 1]? = some W.heap[W.heap.size - 1] := by simp
      have := (Array.getElem?_eq_some_iff.1 (keep _ _ hi')).1
      omega
  refine ⟨⟨hh.os, hh.output, fun i hi => ?_⟩, fun a ha => frozen_at a (hh.frz.2 a.block ha), hh.os, hh.tape, hh.output, size, fun k hk => ?_⟩
  · have hi' : W.heap[i]? = some W.heap[i] := by simp [hi]
    rw [keep i _ hi', hi']
    cases W.heap[i] with
    | cells c t fz => exact ⟨rfl, rfl, rfl, fun _ _ => rfl⟩
    | map es k => exact .inr ⟨rfl, rfl⟩
    | _ => rfl
  · have hi' : W.heap[k]? = some W.heap[k] := by simp [hk]
    rw [keep k _ hi', hi']
theorem calls_init {P : Program} {f : FuncId} {args : List Value} {X : Type} {ret : X → Value} {φ : X → Prop} (W : World) (d : Does P f args [Init W] ret (fun _ => [Init W]) φ) :
    Calls P f args.toArray W fun e w => ∃ x, φ x ∧ e = .returned (ret x) ∧ Stays W w :=
  (d (Ctx.of W) W (holds_init W)).mono fun e w ⟨x, hx, he, hh⟩ => ⟨x, hx, he, stays_of_holds hh .here⟩
theorem calls1_init {P : Program} {f : FuncId} {args : List Value} {v : Value} (W : World) (d : Does1 P f args [Init W] v) :
    Calls P f args.toArray W fun e w => e = .returned v ∧ Stays W w :=
  (calls_init W d).mono fun e w ⟨_, _, he, hg⟩ => ⟨he, hg⟩
theorem Does.frame {P : Program} {f : FuncId} {args : List Value} {X : Type} {A : List Chunk} {ret : X → Value} {B : X → List Chunk} {φ : X → Prop} (d : Does P f args A ret B φ) (R : List Chunk) :
    Does P f args (A ++ R) ret (fun x => B x ++ R) φ := fun Γ w hh => by
  obtain ⟨m, dm, hr, hA⟩ := hh.split
  refine (d _ w hA).mono ?_
  rintro e w' ⟨x, hx, rfl, hB⟩
  exact ⟨x, hx, rfl, hB.join dm hr⟩
theorem calls1_nil {P : Program} {f : FuncId} {args : List Value} {v : Value} (W : World) (d : Does1 P f args [] v) :
    Calls P f args.toArray W fun e w => e = .returned v ∧ Stays W w :=
  calls1_init W (Does.frame d [Init W])
theorem reads_init {W : World} {b o : Nat} {xs : Array Value} {e : TypeId} {fz : Nat × Nat} {v : Value} (hb : W.heap[b]? = some (.cells xs e fz)) (hv : xs[o]? = some v) : Reads (Init W) ⟨b, o, none⟩ v := fun h hs =>
  ⟨xs, e, fz, by rw [show h = wheap W from hs]; exact hb, rfl, hv⟩
theorem reads_init' {W : World} {b o : Nat} {v : Value} (hv : W.cell? ⟨b, o, none⟩ = some v) : Reads (Init W) ⟨b, o, none⟩ v := by
  unfold World.cell? at hv
  split at hv <;> simp_all
  rename_i hb
  exact reads_init hb hv
end Go.Sl

namespace Go.Sl
open Go Go.RowKit Go.ChangeShapes Go.WideShapes Go.ChangeAt
variable {P : Program} {W : World}
def CellsAt (W : World) (b o : Nat) (cs : List Value) : Prop := ∀ (j : Nat) (v : Value), cs[j]? = some v → W.cell? ⟨b, o + j, none⟩ = some v
class Opens (P : Program) (t : TypeId) (α : outParam Type) where
  is : World → α → List Value → Prop
  opens : ∀ {H : Type} {enc : TypeId × Value → H} {W : World} {sp : Nat → Bool} {n : Nat} {cs : List Value} {x : DataW H × List MemPlace}, DataW.trod enc P W 0 sp true n t cs = some x → ∃ a, is W a cs
class OpensFs (P : Program) (fs : List (TypeId × Nat)) (α : outParam Type) where
  is : World → α → List Value → Prop
  opens : ∀ {H : Type} {enc : TypeId × Value → H} {W : World} {sp : Nat → Bool} {n : Nat} {cs : List Value},
    (∀ f ∈ fs, ∃ x : DataW H × List MemPlace, DataW.trod enc P W 0 sp true n f.1 ((cs.drop f.2).take (P.cellsOf f.1)) = some x) → ∃ a, is W a cs
instance : OpensFs P [] Unit := ⟨fun _ _ _ => True, fun _ => ⟨(), trivial⟩⟩
instance {t : TypeId} {o n : Nat} {fs : List (TypeId × Nat)} {α β : Type} [A : Opens P t α] [S : TSize P t n] [B : OpensFs P fs β] : OpensFs P ((t, o) :: fs) (α × β) :=
  ⟨fun W x cs => A.is W x.1 ((cs.drop o).take n) ∧ B.is W x.2 cs, fun h => by
    obtain ⟨x, hx⟩ := h _ (List.mem_cons_self ..)
    have hn : P.cellsOf t = n := by simp [Program.cellsOf, S.size]
    rw [hn] at hx
    obtain ⟨a, ha⟩ := A.opens hx
    obtain ⟨b, hb⟩ := B.opens (fun f hf => h f (List.mem_cons_of_mem _ hf))
    exact ⟨(a, b), ha, hb⟩⟩
instance {t : TypeId} {k : IntKind} [D : TDesc P t (.int k)] : Opens P t Int :=
  ⟨fun _ n cs => cs = [.int k n] ∧ (Lit.int k n).wf = true, fun h => by obtain ⟨n, h1, _, h3⟩ := DataW.trod_int D.desc h; exact ⟨n, h1, h3⟩⟩
instance {t : TypeId} [D : TDesc P t .bool] : Opens P t Bool :=
  ⟨fun _ b cs => cs = [.bool b], fun h => by obtain ⟨n, h1, _⟩ := DataW.trod_bool D.desc h; exact ⟨n, h1⟩⟩
instance {t : TypeId} [D : TDesc P t .string] : Opens P t ByteArray :=
  ⟨fun _ s cs => cs = [.string s] ∧ s.size ≤ maxLen, fun h => by obtain ⟨n, h1, _, h3⟩ := DataW.trod_string D.desc h; exact ⟨n, h1, h3⟩⟩
structure SliceOf (α : Type) where
  place : Option Addr
  cap : Nat
  xs : List α
def SliceOf.val {α : Type} (s : SliceOf α) : Value := .slice s.place s.xs.length s.cap
theorem cell_spot (W : World) (a : Addr) (h : a.spot.isSome = true) : W.cell? a = none := by
  unfold World.cell?
  split <;> simp [h]
theorem cells_at {W : World} {a : Addr} {n : Nat} {cs : List Value} (h : W.cells? 0 a n = some cs) : cs.length = n ∧ ∀ (j : Nat) (v : Value), cs[j]? = some v → W.cell? (a.add j) = some v := by
  unfold World.cells? at h
  rw [if_pos (Nat.zero_le _)] at h
  have hl := mapM_some_length h
  refine ⟨by simpa using hl, fun j v hv => ?_⟩
  have hj : j < n := by
    have := (List.getElem?_eq_some_iff.1 hv).1
    simp at hl; omega
  have := mapM_some_get h j j (by simp [hj])
  rw [this, hv]
class NZ (n : Nat) : Prop where
  pos : 0 < n
instance {n : Nat} : NZ (n + 1) := ⟨Nat.succ_pos n⟩
instance {t e : TypeId} {n : Nat} {α : Type} [D : TDesc P t (.slice e)] [S : TSize P e n] [Z : NZ n] [A : Opens P e α] : Opens P t (SliceOf α) :=
  ⟨fun W s cs => cs = [s.val] ∧ s.xs.length ≤ s.cap ∧ s.cap ≤ maxLen ∧ (s.place = none → s.xs = [] ∧ s.cap = 0) ∧
      (∀ (i : Nat) (x : α), s.xs[i]? = some x → ∃ b o c, s.place = some ⟨b, o, none⟩ ∧ A.is W x c ∧ c.length = n ∧ CellsAt W b (o + i * n) c), fun {H enc W sp k cs x} h => by
    have hn : P.cellsOf e = n := by simp [Program.cellsOf, S.size]
    have hz : 0 < n := Z.pos
    rcases DataW.trod_slice D.desc h with ⟨rfl, _⟩ | ⟨a, len, cap, elems, rest, k, _, rfl, _, hb, hl, hc, he, hx, _⟩
    · exact ⟨⟨none, 0, []⟩, rfl, Nat.zero_le _, Nat.zero_le _, fun _ => ⟨rfl, rfl⟩, fun i x hx => by simp at hx⟩
    · have hel : ∀ i, i < len → ∃ (x : α) (c : List Value), A.is W x c ∧ c.length = n ∧ ∀ (j : Nat) (v : Value), c[j]? = some v → W.cell? ((a.add (i * n)).add j) = some v := fun i hi => by
        have h1 := hx i hi
        have h2 : elems[i]? = some (elems[i]'(by omega)) := by simp [he, hi]
        rw [h2, hn] at h1
        cases hcs : W.cells? 0 (a.add (i * n)) n with
        | none => rw [hcs] at h1; cases h1
        | some c =>
          rw [hcs] at h1
          obtain ⟨x, hx⟩ := A.opens (cs := c) h1
          have := cells_at hcs
          exact ⟨x, c, hx, this.1, this.2⟩
      refine ⟨⟨some a, cap, List.ofFn fun i : Fin len => Classical.choose (hel i i.2)⟩, by simp [SliceOf.val], by simpa using hl, hc, (fun e => by cases e), fun i x hx => ?_⟩
      simp only [List.getElem?_ofFn] at hx
      split at hx
      · rename_i hi
        obtain ⟨c, h1, h2, h3⟩ := Classical.choose_spec (hel i hi)
        cases hx
        obtain ⟨b, o, sp⟩ := a
        have hsp : sp = none := by
          cases sp with
          | none => rfl
          | some k =>
            obtain ⟨_, c0, _, l0, g0⟩ := hel 0 (by omega)
            have h0 : c0[0]? = some (c0[0]'(by omega)) := by simp [l0, hz]
            have h4 := g0 0 _ h0
            simp only [Nat.zero_mul, Addr.add, ↓reduceIte] at h4
            rw [cell_spot W _ rfl] at h4
            cases h4
        subst hsp
        refine ⟨b, o, c, rfl, h1, h2, fun j v hv => ?_⟩
        have := h3 j v hv
        rw [Addr.add_lit, Addr.add_lit] at this
        exact this
      · cases hx⟩
instance {t : TypeId} {n : Nat} {fs : List (TypeId × Nat)} {α : Type} [T : TFds P t fs] [S : TSize P t n] [A : OpensFs P fs α] : Opens P t α :=
  ⟨fun W x cs => cs.length = n ∧ A.is W x cs, fun {H enc W sp k cs x} h => by
    obtain ⟨xs, k', _, _, hl, hxs, hf⟩ := DataW.trod_struct T.struct h
    refine (A.opens (W := W) (enc := enc) (sp := sp) (n := k') (cs := cs) fun f hf' => ?_).imp fun a ha => ⟨by rw [hl]; simp [Program.cellsOf, S.size], ha⟩
    obtain ⟨i, hi⟩ := List.mem_iff_getElem?.1 hf'
    have hm : ((P.fieldsOf t).toList.map fun f => (f.type, f.offset))[i]? = some f := by rw [T.fields]; exact hi
    simp only [List.getElem?_map, Option.map_eq_some_iff] at hm
    obtain ⟨g, hg, rfl⟩ := hm
    have hg' : (P.fieldsOf t)[i]? = some g := by simpa using hg
    have := hf i g hg'
    have hlt : i < xs.length := by
      rw [hxs]
      exact (Array.getElem?_eq_some_iff.1 hg').1
    exact ⟨xs[i], by rw [this]; simp [hlt]⟩⟩
def oneD : TypeDesc → Bool
  | .struct _ => false
  | .array _ _ => false
  | _ => true
theorem arg_one {H : Type} {enc : TypeId × Value → H} {t : TypeId} {α : Type} [A : Opens P t α] {d : TypeDesc} {b : Nat} {sp : Nat → Bool} {v : Value} {x : DataW H} {ps : List MemPlace} (hd : P.underlying t = some d) (ho : oneD d = true)
    (hval : Value.okWide P W .any b t v) (h : DataW.Trod enc P W 0 sp true t v x ps) : ∃ a, A.is W a [v] := by
  obtain ⟨n, hn⟩ := h
  have : v.cells.toList = [v] := by
    cases v with
    | agg cs =>
      unfold Value.okWide at hval
      rw [hd] at hval
      cases d <;> simp_all [oneD, Cell.okWide, Cell.ok]
    | _ => rfl
  rw [this] at hn
  exact A.opens hn
theorem arg_agg {H : Type} {enc : TypeId × Value → H} {t : TypeId} {α : Type} {fs : List (TypeId × Nat)} [T : TFds P t fs] [A : Opens P t α] {b : Nat} {sp : Nat → Bool} {v : Value} {x : DataW H} {ps : List MemPlace}
    (hval : Value.okWide P W .any b t v) (h : DataW.Trod enc P W 0 sp true t v x ps) : ∃ a cs, v = .agg cs.toArray ∧ A.is W a cs := by
  obtain ⟨n, hn⟩ := h
  unfold Value.okWide at hval
  rw [T.struct] at hval
  obtain ⟨cs, rfl, _⟩ := hval
  obtain ⟨a, ha⟩ := A.opens hn
  exact ⟨a, cs.toList, by simp, ha⟩
theorem trodAll_stays {H : Type} {enc : TypeId × Value → H} (hl : laidOutB P = true) {W W' : World} {base : Nat} {sp : Nat → Bool} : ∀ {ts : List TypeId} {vs : List Value} {ds : List (DataW H)} {ps : List MemPlace},
    ts.all (fun t => P.readableRec t && decide (t < P.types.size)) = true → DataW.TrodAll enc P W base (fun _ => true) true ts vs ds ps → (∀ p ∈ ps, W.sameAt W' p) → (∀ p ∈ ps, sp p.block = true) → DataW.TrodAll enc P W' base sp true ts vs ds ps
  | [], [], [], _, _, h, _, _ => h
  | t :: ts, v :: vs, d :: ds, ps, ht, ⟨p, q, h1, h2, e⟩, hs, hp => by
    simp only [List.all_cons, Bool.and_eq_true, decide_eq_true_eq] at ht
    subst e
    exact ⟨p, q, WideElems.Trod_stays hl ht.1.1 ht.1.2 h1 (fun x hx => hs x (by simp [hx])) (fun x hx => hp x (by simp [hx])), trodAll_stays hl ht.2 h2 (fun x hx => hs x (by simp [hx])) (fun x hx => hp x (by simp [hx])), rfl⟩
  | [], _ :: _, _, _, _, h, _, _ => h.elim
  | [], [], _ :: _, _, _, h, _, _ => h.elim
  | _ :: _, [], _, _, _, h, _, _ => h.elim
  | _ :: _, _ :: _, [], _, _, h, _, _ => h.elim
theorem post_old {H : Type} {enc : TypeId × Value → H} {f : Func} {s : ChangeSpec} {apart fresh handsOn again : Bool} {W W' : World} {args : Array Value} {v : Value} {ds gs : List (DataW H)} {before pa pv : List MemPlace}
    (hW : DataW.Whole enc P f.params.toList s.vars apart W args.toList ds gs before)
    (hres : ∀ (b : Nat) (sp : Nat → Bool) (hd : Bool), DataW.TrodAll enc P W' b sp hd f.resultTypes.toList (v.resultList f.resultTypes.size) (s.fn H (ds ++ gs)).results [])
    (hargs : ∀ sp : Nat → Bool, (∀ p ∈ before, sp p.block = true) → DataW.TrodAll enc P W' 0 sp true f.params.toList args.toList (s.fn H (ds ++ gs)).args pa)
    (hvars : ∀ sp : Nat → Bool, (∀ p ∈ before, sp p.block = true) → DataW.TrodVars enc P W' sp s.vars (s.fn H (ds ++ gs)).vars pv)
    (hps : before = pa ++ pv) (hk : W.keptBut W' (· ∈ before)) (hfz : ∀ a : Addr, a.block < W.heap.size → W'.frozen? a = W.frozen? a)
    (hok : ∀ (j : Nat) (t : TypeId) (r : Value), f.resultTypes[j]? = some t → (v.resultList f.resultTypes.size)[j]? = some r → Value.okWide P W' .any 0 t r) :
    s.post enc P f apart fresh handsOn again W args v W' := by
  have hold : ∀ p ∈ before, (fun b => decide (b < W.heap.size)) p.block = true := fun p hp => by simpa using hW.lt p hp
  have hlt := hW.lt
  refine ⟨ds, gs, before, [], pa, pv, hW, hres _ _ _, hargs _ hold, hvars _ hold, World.keptBut_mono (fun p hp => ⟨hp, ?_⟩) hk, fun _ => ?_⟩
  · rw [hps, List.mem_append] at hp
    exact Or.inr hp
  · obtain ⟨_, _, _, _, _, hz, hn⟩ := hW
    refine ⟨hok, _, _, ([] ++ pa) ++ pv, ⟨[] ++ pa, pv, trodAll_append (hargs _ (fun _ _ => rfl)) (hres _ _ _), hvars _ (fun _ _ => rfl), rfl, ?_, ?_⟩, ?_⟩
    · intro b off hp
      have hp' : MemPlace.cell b off ∈ before := by rw [hps]; simpa using hp
      rw [hfz _ (hlt _ hp')]
      exact hz b off hp'
    · intro ha
      have := hn ha
      rw [hps] at this
      simpa using this
    · intro p hp _
      rw [hps]
      simpa using hp
theorem law_post {H : Type} {enc : TypeId × Value → H} {f : Func} {s : ChangeSpec} {apart fresh handsOn again : Bool} {W W' : World} {args : Array Value} {ds gs : List (DataW H)} {before : List MemPlace} {tb : TypeId}
    (hl : laidOutB P = true) (hp : f.params.toList.all (fun t => P.readableRec t && decide (t < P.types.size)) = true) (hv : s.vars = []) (hr : f.resultTypes = #[tb]) (hb : P.underlying tb = some .bool)
    (hW : DataW.Whole enc P f.params.toList s.vars apart W args.toList ds gs before) (hfn : s.fn H (ds ++ gs) = { results := [.lit (.bool true)], args := ds }) (hst : Stays W W') :
    s.post enc P f apart fresh handsOn again W args (.bool true) W' := by
  have hlt := hW.lt
  have hW' := hW
  obtain ⟨p, q, hA, hV, rfl, hfz, hnd⟩ := hW
  rw [hv] at hV
  obtain ⟨rfl, rfl⟩ := trodVars_none hV
  refine post_old (pa := p) (pv := []) hW' (fun b sp hd => ?_) (fun sp hsp => ?_) (fun sp hsp => ?_) rfl (World.keptBut_mono (fun _ f => f.elim) hst.kept) hst.froz (ok_one hr rfl (okWide_bool_mk hb _))
  · rw [hfn, hr]
    exact trodAll_cons_mk (shut_bool hb _) trodAll_mk0
  · rw [hfn]
    exact trodAll_stays hl hp hA (fun x hx => hst.below.same (hlt x (by simp [hx]))) (fun x hx => hsp x (by simp [hx]))
  · rw [hfn, hv]
    rfl
end Go.Sl
