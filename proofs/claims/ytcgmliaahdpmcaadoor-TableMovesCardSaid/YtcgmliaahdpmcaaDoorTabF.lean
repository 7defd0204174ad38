/- Plain: tables whose streams go on without gaps. Rules: a call behind which all is free; a drawn truth with some chunks free. -/
import Derived.Test.YtcgmliaahdpmcaaDoorTabE
set_option linter.unusedSimpArgs false
set_option linter.unusedVariables false
namespace Go.Sl
variable {P : Program} {Γ : Ctx} {L R : List Chunk} {N : Nat} {fr : Fr} {Q : Exit → Act → World → Prop} {ops : Array Oper} {rest : List Oper}
variable {d : Nat} {ty : TypeId} {pos : String} {aft : Array Edge} {gd : Option (Nat × Bool)} {x y z : Operand} {v u : Value} {t t2 tx : TypeId}
theorem gp_thawC {op : Op} {i : Nat} {p : Plan} {C : List Chunk} {m : HP} {X : Type} {V : X → Value} {M : X → List Chunk} {φ : X → Prop} (hd : HP.disj Γ.hf m) (hk : All C m) (h : CStep P Γ fr (L ++ C) ⟨some d, op, ty, pos, aft, gd⟩ V M φ)
    (k : ∀ x m', φ x → HP.disj Γ.hf m' → All [] m' → GP P ops Q (Γ.add m') N ((d, V x) :: fr) (M x) p) (hi : ops[i]? = some ⟨some d, op, ty, pos, aft, gd⟩) (hg : Runs ops fr gd) (hN : Nat.blt d N = true) : GP P ops Q (Γ.add m) N fr L (.thaw i p) :=
  fun a hs hdf hf => ⟨_, hi, .inl ⟨runs_wanted (o := ⟨some d, op, ty, pos, aft, gd⟩) hf hg, X × HP, fun x => V x.1, fun x => Γ.add x.2, fun x => M x.1, fun x => φ x.1 ∧ HP.disj Γ.hf x.2 ∧ All [] x.2, fun hn => absurd (by simp) hn,
    fun w hh => (h a hf w (hh.join hd hk)).mono fun u w' ⟨x, hx, e, hh'⟩ => by
      obtain ⟨m', dm, hm, hr⟩ := (show Holds Γ (M x ++ []) w' by simpa using hh').split
      exact ⟨(x, m'), ⟨hx, dm, hm⟩, e, hr⟩,
    fun x hx => k x.1 x.2 hx.1 hx.2.1 hx.2.2 _ (by simp [Act.put, hs]) hdf (hf.put (by rw [hs]; exact blt_lt hN) _)⟩⟩
theorem p_tcA {i : Nat} {pl : Plan} {f : FuncId} {xs : List Operand} {vs : List Value} {tys : Array TypeId} {A C : List Chunk} {mm : HP} [Cb : Callable P f] {X : Type} {ret : X → Value} {B : X → List Chunk} {φ : X → Prop} (fn : Does P f vs A ret B φ) (hd : HP.disj Γ.hf mm) (hk : All C mm)
    (K : ∀ x m', φ x → HP.disj Γ.hf m' → All [] m' → GP P ops Q (Γ.add m') N ((d, ret x) :: fr) (B x ++ R) pl) (hi : ops[i]? = some ⟨some d, .call ⟨.value (.func f), xs.toArray, tys⟩, ty, pos, aft, gd⟩ := by exact rfl) (hg : Runs ops fr gd := by exact rfl) (hN : Nat.blt d N = true := by exact rfl) (he : Evs fr xs vs := by (repeat (first | exact Evs.nil | refine Evs.cons rfl ?_)); first | done | fail) (tk : Take (L ++ C) A R := by (repeat (first | exact Take.nil | apply Take.cons | exact Sel.here | apply Sel.there)); first | done | fail) :
    GP P ops Q (Γ.add mm) N fr L (.thaw i pl) := gp_thawC hd hk (cs_call fn he tk) K hi hg hN
/-- A contract, in fewer words. -/
theorem does_weak {f : FuncId} {args : List Value} {A : List Chunk} {X Y : Type} {ret : X → Value} {B : X → List Chunk} {φ : X → Prop} {ret' : Y → Value} {B' : Y → List Chunk} {ψ : Y → Prop} (d : Does P f args A ret B φ) (g : X → Y) (h1 : ∀ x, ret x = ret' (g x)) (h2 : ∀ x (h : HP), All (B x) h → All (B' (g x)) h) (h3 : ∀ x, φ x → ψ (g x)) : Does P f args A ret' B' ψ := fun Γ w hh =>
  (d Γ w hh).mono fun e w' ⟨x, hx, he, hB⟩ => ⟨g x, h3 x hx, by rw [he, h1], hB.mono fun h => h2 x h⟩
theorem g_drawBC {id : Nat} {l : List Oper} {u : Bool} [M : Mixed P] {C : List Chunk} (d : Nat) (plan : Plan) (hp : planOk l plan = true) (t : Take L C R)
    (h : ∀ k, HP.disj Γ.hf k → All C k → GP P l.toArray (MidQ Γ N ((d, .bool u) :: fr) L) (Γ.add k) N fr R plan) (k : G Γ N ((d, .bool u) :: fr) L (Q .normal)) :
    G Γ N fr L ((Code.region id l.toArray true).wp P Q) := g_cutC (g_draw plan hp t h) k
theorem qs_geqS {a b : ByteArray} (hx : ev fr x = some (.string a)) (hy : ev fr y = some (.string b)) : QStep P Γ fr ⟨some d, .binOp .geq t x y t2, ty, pos, aft, gd⟩ (.bool (!ltB a b)) :=
  qs_of (fun c w hf => by simp [execOp, hf.ev hx, hf.ev hy, eqGuard_at_string, binOp, Op.stringOp, ltB])
end Go.Sl
namespace Go.Proofs.YtcgmliaahdpmcaaDoor
open Go.Sl
theorem goes_append : ∀ (a b : List Ev) (v : Int), goesB (a ++ b) v = (goesB a v && goesB b (v + a.length))
  | [], b, v => by simp [goesB]
  | e :: a, b, v => by
    simp only [List.cons_append, goesB, goes_append a b, List.length_cons, Bool.and_assoc]
    congr 3
    push_cast; omega
theorem tput_mem {T : List Sm} {x y : Sm} (h : y ∈ tput T x) : y = x ∨ y ∈ T := by
  induction T with
  | nil => simpa [tput] using h
  | cons z T ih =>
    simp only [tput] at h
    split at h
    · rcases List.mem_cons.1 h with h | h
      · exact .inl h
      · exact .inr (List.mem_cons_of_mem _ h)
    · rcases List.mem_cons.1 h with h | h
      · exact .inr (by rw [h]; exact List.mem_cons_self ..)
      · rcases ih h with h | h
        · exact .inl h
        · exact .inr (List.mem_cons_of_mem _ h)
theorem tput_names {T : List Sm} {x : Sm} : (x.nm ∈ T.map Sm.nm ∧ (tput T x).map Sm.nm = T.map Sm.nm) ∨ (x.nm ∉ T.map Sm.nm ∧ (tput T x).map Sm.nm = T.map Sm.nm ++ [x.nm]) := by
  induction T with
  | nil => right; simp [tput]
  | cons z T ih =>
    simp only [tput]
    by_cases e : x.nm = z.nm
    · rw [if_pos e]
      left
      simp [e]
    · rw [if_neg e]
      rcases ih with ⟨h1, h2⟩ | ⟨h1, h2⟩
      · left
        exact ⟨List.mem_cons_of_mem _ h1, by simp only [List.map_cons, h2]⟩
      · right
        refine ⟨fun h => ?_, by simp only [List.map_cons, h2, List.cons_append]⟩
        rcases List.mem_cons.1 h with h | h
        · exact e h
        · exact h1 h
theorem tput_nodup {T : List Sm} {x : Sm} (h : (T.map Sm.nm).Nodup) : ((tput T x).map Sm.nm).Nodup := by
  rcases tput_names (T := T) (x := x) with ⟨_, e⟩ | ⟨hn, e⟩
  · rw [e]; exact h
  · rw [e]
    exact List.nodup_append.2 ⟨h, by simp, fun a ha b hb e => hn (by simp at hb; rw [← hb, ← e]; exact ha)⟩
theorem tput_len {T : List Sm} {x : Sm} : (tput T x).length ≤ T.length + 1 := by
  induction T with
  | nil => simp [tput]
  | cons z T ih =>
    simp only [tput]
    split
    · simp
    · simp only [List.length_cons]; omega
theorem fnd_of_mem {T : List Sm} {x : Sm} (hn : (T.map Sm.nm).Nodup) (h : x ∈ T) : fnd T x.nm = some x := by
  induction T with
  | nil => cases h
  | cons z T ih =>
    simp only [fnd]
    rcases List.mem_cons.1 h with e | h
    · rw [if_pos (by rw [e]), e]
    · have h1 := List.pairwise_cons.1 (show (z.nm :: T.map Sm.nm).Pairwise (· ≠ ·) from hn)
      rw [if_neg (fun e => h1.1 x.nm (List.mem_map.2 ⟨x, h, rfl⟩) e.symm)]
      exact ih h1.2 h
/-- A stream without gaps. -/
structure SGood (x : Sm) (k : Nat) : Prop where
  goes : goesB x.evs 0 = true
  pos : 0 < x.evs.length
  len : x.evs.length ≤ k
  st : ∀ e ∈ x.evs, e.st = x.nm
  nm : x.nm.size ≤ 160
structure TGood (T : List Sm) (n k : Nat) : Prop where
  nd : (T.map Sm.nm).Nodup
  len : T.length ≤ n
  str : ∀ x ∈ T, SGood x k
theorem TGood.nil : TGood [] 0 0 := ⟨.nil, Nat.le_refl _, by simp⟩
theorem SGood.mono {x : Sm} {k k' : Nat} (h : SGood x k) (hk : k ≤ k') : SGood x k' := ⟨h.goes, h.pos, Nat.le_trans h.len hk, h.st, h.nm⟩
theorem TGood.mono {T : List Sm} {n n' k k' : Nat} (h : TGood T n k) (hn : n ≤ n') (hk : k ≤ k') : TGood T n' k' := ⟨h.nd, Nat.le_trans h.len hn, fun x hx => (h.str x hx).mono hk⟩
theorem TGood.old {T : List Sm} {n k : Nat} (h : TGood T n k) (nm : ByteArray) : (oldE T nm).length = verOf T nm ∧ (oldE T nm).length ≤ k ∧ goesB (oldE T nm) 0 = true ∧ ∀ e ∈ oldE T nm, e.st = nm := by
  cases hf : fnd T nm with
  | none => simp [oldE, verOf, hf, goesB]
  | some x =>
    obtain ⟨h1, A, B, e, _⟩ := fnd_split hf
    have hx := h.str x (by rw [e]; simp)
    refine ⟨by simp [oldE, verOf, hf], by simp only [oldE, hf]; exact hx.len, by simp only [oldE, hf]; exact hx.goes, fun e he => ?_⟩
    simp only [oldE, hf] at he
    rw [hx.st e he, h1]
theorem may_all {evs : List Ev} {key : ByteArray} {e0 : Ev} {l : List Ev} (he : evs = e0 :: l) (h : mayB evs key = true) : (∀ e ∈ evs, e.st = e0.st ∧ (e.s.w = e0.s.w ∧ e.s.l = e0.s.l ∧ e.s.n = e0.s.n) ∧ e.ok = true) ∧ keyB key = true := by
  subst he
  simp only [mayB, ne_eq, reduceCtorEq, not_false_eq_true, decide_true, Bool.true_and, Bool.and_eq_true, alikeB, List.all_eq_true, decide_eq_true_eq] at h
  exact ⟨fun e he => ⟨(h.1 e he).1, (h.1 e he).2.1, (h.1 e he).2.2⟩, h.2⟩
theorem TGood.put {T : List Sm} {n k : Nat} (h : TGood T n k) {evs : List Ev} {key : ByteArray} {e0 : Ev} {l : List Ev} (he : evs = e0 :: l) (hm : mayB evs key = true) (hg : goesB evs (verOf T e0.st) = true) {x : Sm} (h1 : x.nm = e0.st) (h2 : x.evs = oldE T e0.st ++ evs) {m : Nat} (hl : evs.length ≤ m) : TGood (tput T x) (n + 1) (k + m) := by
  obtain ⟨o1, o2, o3, o4⟩ := h.old e0.st
  have ha := (may_all he hm).1
  refine ⟨tput_nodup h.nd, Nat.le_trans tput_len (Nat.succ_le_succ h.len), fun y hy => ?_⟩
  rcases tput_mem hy with rfl | hy
  · refine ⟨?_, ?_, ?_, ?_, ?_⟩
    · rw [h2, goes_append, o3, Bool.true_and, o1, Int.zero_add]; exact hg
    · rw [h2, he]; simp; omega
    · rw [h2, List.length_append]; omega
    · intro e hh
      rw [h2] at hh
      rcases List.mem_append.1 hh with hh | hh
      · rw [h1]; exact o4 e hh
      · rw [h1]; exact (ha e hh).1
    · have := (ha e0 (by rw [he]; exact List.mem_cons_self ..)).2.2
      rw [Ev.ok_iff] at this
      rw [h1]
      exact (name_size this.1).2
  · exact (h.str y hy).mono (by omega)
end Go.Proofs.YtcgmliaahdpmcaaDoor
