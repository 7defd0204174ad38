/- Contracts and laws that the proof stands on. -/
import Derived.Test.YtcgmliaahdpmcaaGreatDoorTablePlays6
import Derived.Test.YtcgmliaahdpmcaaGreatDoorTablePlays3
import Derived.RowKit3
import Derived.Below
import Derived.Carry
import Derived.ChangeArms
import Derived.ProofKit
import Derived.OpenShut
set_option linter.unusedSimpArgs false
set_option linter.unusedVariables false
namespace Go.Sl
variable {P : Program} {Γ : Ctx} {L R : List Chunk} {N : Nat} {fr : Fr} {Q : Exit → Act → World → Prop} {ops : Array Oper} {rest : List Oper}
variable {d : Nat} {ty : TypeId} {pos : String} {aft : Array Edge} {gd : Option (Nat × Bool)} {x y z : Operand} {v u : Value} {t t2 tx : TypeId}
theorem cs_appendSelf {e b i n cap c' : Nat} {xs : List Value} (D : TDesc P t (.slice e)) (D2 : TDesc P tx (.slice e)) (S : TSize P e 1) (hx : ev fr x = some (.slice (some ⟨b, 0, none⟩) i cap)) (hy : ev fr y = some (.slice (some ⟨b, i + 1, none⟩) (n - (i + 1)) c'))
    (s : Sel L (.own (some ⟨b, 0, none⟩) n cap 1 xs e) R) (hi : i < n) :
    CStep P Γ fr L ⟨some d, .call ⟨.builtin .append, [x, y].toArray, [t, tx].toArray⟩, ty, pos, aft, gd⟩ (X := Unit) (fun _ => .slice (some ⟨b, 0, none⟩) (n - 1) cap) (fun _ => .own (some ⟨b, 0, none⟩) n cap 1 (xs.take i ++ xs.drop (i + 1) ++ xs.drop (n - 1)) e :: R) (fun _ => True) :=
  cs_of (fun a w hf hh => by
    have hpl := own_place hh s
    have hxl : xs.length = n := by have := hpl.1; rwa [Nat.mul_one] at this
    have hcap := hpl.2.1
    have hall := own_one hh s
    have hone : ∀ v ∈ xs.drop (i + 1), v.oneCell' = true := fun v hv => (List.all_eq_true.1 hall) v (List.mem_of_mem_drop hv)
    have hdl : (xs.drop (i + 1)).length = n - (i + 1) := by simp [hxl]
    cases hie : P.info? e with
    | none => have := S.size; simp [hie] at this
    | some ie =>
      have hsz : ie.size = 1 := by have := S.size; simpa [hie] using this
      obtain ⟨h1, h2, h3⟩ := hh.setOwn (o := i) (cs := xs.drop (i + 1)) (zs := xs.take i ++ xs.drop (i + 1) ++ xs.drop (n - 1)) (len' := n) s (by omega) hcap (by simp [hxl]; omega) (by omega) hone (by
        rw [List.all_eq_true] at hall ⊢
        intro z hz
        rcases List.mem_append.1 hz with hz | hz
        · rcases List.mem_append.1 hz with hz | hz
          · exact hall z (List.mem_of_mem_take hz)
          · exact hall z (List.mem_of_mem_drop hz)
        · exact hall z (List.mem_of_mem_drop hz)) (fun j v hv => by
          have htl : (xs.take i).length = i := by simp; omega
          split
          · rename_i hc
            rw [List.getElem?_append_left (by simp [hxl]; omega), List.getElem?_append_right (by omega), htl] at hv
            exact hv
          · rename_i hc
            by_cases hji : j < i
            · rw [List.append_assoc, List.getElem?_append_left (by omega), List.getElem?_take, if_pos hji] at hv
              exact hv
            · rw [List.getElem?_append_right (by simp [hxl]; omega), List.getElem?_drop] at hv
              rw [← hv]
              congr 1
              have : j < n := by
                have := (List.getElem?_eq_some_iff.1 hv).1
                simp [hxl] at this
                omega
              simp [hxl]
              omega)
      have hsrc := srcReads (P := P) (tx := tx) (Γ := Γ) (L := L) (m := n - (i + 1)) (c := c') (n := 1) (news := xs.drop (i + 1)) D2 s (by omega) (List.all_eq_true.2 hone) (b := b) (o := i + 1) (fun j v hv => by
        rw [List.getElem?_drop] at hv
        exact reads_own hv) w hh
      have hsrc2 : Src P ie.size tx (.slice (some ⟨b, i + 1, none⟩) (n - (i + 1)) c') (n - (i + 1)) (xs.drop (i + 1)) w := by rw [hsz]; exact hsrc
      have hg := run_append_room_src (P := P) w t tx ty e ie D.desc hie b 0 i cap _ (n - (i + 1)) (xs.drop (i + 1)) hsrc2 (by omega) (fun j hj => by rw [Nat.zero_add, hsz, Nat.mul_one]; exact h2 j hj) (fun j hj => by rw [Nat.zero_add, hsz, Nat.mul_one]; exact h3 j hj)
      rw [Nat.zero_add, hsz, Nat.mul_one, show i + (n - (i + 1)) = n - 1 by omega] at hg
      refine ⟨(), _, trivial, ?_, h1⟩
      simp [execOp, resolve, hf.ev hx, hf.ev hy, invoke, builtin_append', hg])
theorem ss_clearAt {e : TypeId} {b n cap o c' : Nat} {xs : List Value} {zv : Value} (D : TDesc P t (.slice e)) (Z : TZero P e zv) (hz : zv.cells = #[zv]) (h1 : zv.oneCell' = true) (hx : ev fr x = some (.slice (some ⟨b, o, none⟩) 1 c')) (ho : o < n) (s : Sel L (.own (some ⟨b, 0, none⟩) n cap 1 xs e) R) :
    SStep P Γ fr L ⟨none, .call ⟨.builtin .clear, [x].toArray, [t].toArray⟩, ty, pos, aft, gd⟩ (.own (some ⟨b, 0, none⟩) n cap 1 (xs.set o zv) e :: R) := fun a hf w hh => by
  have hpl := own_place hh s
  have hxl : xs.length = n := by have := hpl.1; rwa [Nat.mul_one] at this
  have hall := own_one hh s
  obtain ⟨g1, g2, g3⟩ := hh.setOwn (o := o) (cs := [zv]) (zs := xs.set o zv) (len' := n) s (by omega) hpl.2.1 (by simp [hxl]) (by simp; omega) (fun v hv => by rw [List.mem_singleton.1 hv]; exact h1) (by
    rw [List.all_eq_true] at hall ⊢
    intro z hz'
    rcases List.mem_or_eq_of_mem_set hz' with h | h
    · exact hall z h
    · rw [h]; exact h1) (fun j v hv => by
      rw [List.getElem?_set] at hv
      split
      · rename_i hc
        have hj : j = o := by simp at hc; omega
        subst hj
        rw [if_pos rfl, if_pos (by omega)] at hv
        simpa using hv
      · rename_i hc
        rw [if_neg (by intro e; subst e; exact hc ⟨Nat.le_refl _, by simp⟩)] at hv
        exact hv)
  have hcl := Lib.run_clear_slice w t e ty zv D.desc (fun w => run_zeroValue' Z.zero w) hz h1 b o 1 c' (by decide) (fun j hj => g2 j (by simpa using hj)) (fun j hj => g3 j (by simpa using hj))
  have hr : (execOp a.eval ⟨none, .call ⟨.builtin .clear, [x].toArray, [t].toArray⟩, ty, pos, aft, gd⟩).run P w = .ok (.value (.tuple #[])) (w.setCells b o [zv]) := by
    have hb' : ∀ {ats : Array TypeId} {cs : Array Bool} {args : Array Value}, builtin .clear ats ty cs args = (do pure (.value (← Builtin.clear_ ats ty args))) := rfl
    simp only [execOp, resolve, hf.ev hx, List.map_toArray, List.map_cons, List.map_nil, Sem.run_bind, Sem.run_pure, Result.andThen_ok, invoke, hb', hcl]
    rfl
  unfold opRes
  rw [hr]
  exact g1
end Go.Sl

namespace Go.Sl
theorem sel_mid {α : Type} (x : α) (B : List α) : ∀ A : List α, Sel (A ++ x :: B) x (A ++ B)
  | [] => .here
  | _ :: A => .there (sel_mid x B A)
theorem take_mid {α : Type} (B : List α) : ∀ (X A : List α), Take (A ++ (X ++ B)) X (A ++ B)
  | [], A => .nil
  | x :: X, A => .cons (sel_mid x (X ++ B) A) (take_mid B X A)
theorem all_out {A X B : List Chunk} {h : HP} (a : All (A ++ (X ++ B)) h) : All (X ++ (A ++ B)) h := a.take (take_mid B X A)
theorem all_in {A X B : List Chunk} {h : HP} (a : All (X ++ (A ++ B)) h) : All (A ++ (X ++ B)) h := a.take (take_mid B A X)
theorem all_pack {X R : List Chunk} {h : HP} (a : All (X ++ R) h) : All (.asn (All X) :: R) h := by
  obtain ⟨h1, h2, d, s1, s2, ha, hr⟩ := all_append.1 a
  exact ⟨h1, h2, d, s1, s2, ha, hr⟩
theorem all_unpack {X R : List Chunk} {h : HP} (a : All (.asn (All X) :: R) h) : All (X ++ R) h := by
  obtain ⟨h1, h2, d, s1, s2, ha, hr⟩ := a
  exact all_append.2 ⟨h1, h2, d, s1, s2, ha, hr⟩
theorem does_same {P : Program} {f : FuncId} {args : List Value} {v : Value} {A A' : List Chunk} (d : Does1 P f args A v) (h1 : ∀ h, All A' h → All A h) (h2 : ∀ h, All A h → All A' h) : Does1 P f args A' v := fun Γ w hh =>
  (d Γ w (hh.mono h1)).mono fun e w' ⟨x, hx, he, hB⟩ => ⟨x, hx, he, hB.mono h2⟩
theorem g_conv {Γ : Ctx} {N : Nat} {fr : Fr} {L L' A R : List Chunk} {φ : Act → World → Prop} (t : Take L A R) (c : ∀ h, All (A ++ R) h → All L' h) (g : G Γ N fr L' φ) : G Γ N fr L φ := fun a w hN hd hf hh =>
  g a w hN hd hf ((hh.take t).mono c)
abbrev Bg {α : Type} (F : α → List Chunk) (l : List α) : Chunk := .asn (All (l.flatMap F))
section
variable {α : Type} {F : α → List Chunk} {A B : List α} {x : α} {R : List Chunk} {h : HP}
theorem bg_out (a : All (Bg F (A ++ x :: B) :: R) h) : All (F x ++ (Bg F (A ++ B) :: R)) h := by
  have a1 := all_unpack a
  simp only [List.flatMap_append, List.flatMap_cons, List.append_assoc] at a1
  have a2 := all_out (A := A.flatMap F) (X := F x) (B := B.flatMap F ++ R) a1
  have a3 : All (F x ++ ((A ++ B).flatMap F ++ R)) h := by simpa only [List.flatMap_append, List.append_assoc] using a2
  obtain ⟨h1, h2, d, s1, s2, ha, hr⟩ := all_append.1 a3
  exact all_append.2 ⟨h1, h2, d, s1, s2, ha, all_pack hr⟩
theorem bg_in (a : All (F x ++ (Bg F (A ++ B) :: R)) h) : All (Bg F (A ++ x :: B) :: R) h := by
  obtain ⟨h1, h2, d, s1, s2, ha, hr⟩ := all_append.1 a
  have a3 := all_append.2 ⟨h1, h2, d, s1, s2, ha, all_unpack hr⟩
  have a2 : All (F x ++ (A.flatMap F ++ (B.flatMap F ++ R))) h := by simpa only [List.flatMap_append, List.append_assoc] using a3
  have a1 := all_in (A := A.flatMap F) (X := F x) (B := B.flatMap F ++ R) a2
  refine all_pack ?_
  simpa only [List.flatMap_append, List.flatMap_cons, List.append_assoc] using a1
end
section
variable {Γ : Ctx} {N : Nat} {fr : Fr} {L R : List Chunk} {φ : Act → World → Prop} {α : Type} {F : α → List Chunk}
theorem g_bgOut (A B : List α) (x : α) (s : Sel L (Bg F (A ++ x :: B)) R) (g : G Γ N fr (F x ++ (Bg F (A ++ B) :: R)) φ) : G Γ N fr L φ :=
  g_conv (.cons s .nil) (fun _ => bg_out) g
theorem g_bgIn (A B : List α) (x : α) (t : Take L (F x ++ [Bg F (A ++ B)]) R) (g : G Γ N fr (Bg F (A ++ x :: B) :: R) φ) : G Γ N fr L φ :=
  g_conv t (fun _ h => by
    rw [List.append_assoc] at h
    exact bg_in h) g
theorem g_bgNil (g : G Γ N fr (Bg F [] :: L) φ) : G Γ N fr L φ :=
  fun a w hN hd hf hh => g a w hN hd hf (hh.mono fun h al => ⟨fun _ => none, h, fun _ => .inl rfl, (fun _ _ q => by cases q), HP.sub.refl _, trivial, al⟩)
end
theorem split_at {α : Type} (l : List α) (i : Nat) (h : i < l.length) : l = l.take i ++ l[i] :: l.drop (i + 1) := by
  rw [List.getElem_cons_drop, List.take_append_drop]
theorem does_of_below {P : Program} {f : FuncId} {args : List Value} {v : Value} {H : HP} (h : ∀ w, (∀ b o, H b = some o → w.heap[b]? = some o) → Calls P f args.toArray w fun e w' => e = .returned v ∧ Go.RowKit.Below w.heap.size w w') : Does1 P f args [Pile H] v := fun Γ w hh => by
  have hH : ∀ b o, H b = some o → w.heap[b]? = some o := by
    obtain ⟨h, _, s, h1, _, _, s1, _, hc, _⟩ := hh.own
    have hc' : h1 = H := hc
    subst hc'
    exact fun b o hb => s _ _ (s1 _ _ hb)
  refine (h w hH).mono ?_
  rintro e w' ⟨rfl, hB⟩
  exact ⟨(), trivial, rfl, hh.later hB.os hB.tape hB.output hB.size (fun c hc => hB.block c hc)⟩
end Go.Sl

namespace Go.Sl
variable {P : Program} {Γ : Ctx} {L R : List Chunk} {N : Nat} {fr : Fr} {Q : Exit → Act → World → Prop} {ops : Array Oper} {rest : List Oper}
variable {d : Nat} {ty : TypeId} {pos : String} {aft : Array Edge} {gd : Option (Nat × Bool)} {x y z : Operand} {v u : Value} {t t2 tx : TypeId}
theorem qs_callV {f : FuncId} {xs : List Operand} {vs caps args : List Value} {tys : Array TypeId} {dst : Option Tmp} [C : Callable P f]
    (fn : Does1 P f args [] v) (hy : ev fr y = some (.func (.func f) #[] caps.toArray)) (he : Evs fr xs vs) (ha : vs ++ caps = args) : QStep P Γ fr ⟨dst, .call ⟨.value y, xs.toArray, tys⟩, ty, pos, aft, gd⟩ v := fun a hf L w hh =>
  (cs_callV fn hy he ha (Take.nil (L := L)) a hf w hh).mono fun u w' ⟨_, _, e, h⟩ => ⟨e, h⟩
theorem g_ownNone {Γ : Ctx} {N : Nat} {fr : Fr} {L R : List Chunk} {φ : Act → World → Prop} {len cap n : Nat} {xs : List Value} {e : TypeId} (s : Sel L (.own none len cap n xs e) R) (g : len = 0 → cap = 0 → xs = [] → G Γ N fr L φ) : G Γ N fr L φ := fun a w hN hd hf hh => by
  obtain ⟨h, _, s', al⟩ := (hh.sel s).own
  obtain ⟨h1, _, _, s1, _, hc, _⟩ := al
  obtain ⟨⟨hl, _⟩, ⟨h1, h2⟩ | ⟨b', junk, e1, _, e3, e2⟩⟩ := hc
  · exact g h1 h2 (List.eq_nil_of_length_eq_zero (by rw [hl, h1, Nat.zero_mul])) a w hN hd hf hh
  · cases e1
section
variable {e : TypeId} {cap k : Nat} {p : Option Addr} {zv : Value} {bs news : List UInt8} {i : Nat} {pl : Plan}
theorem s_appB (K : ∀ q c, G Γ N ((d, .slice q (bs ++ news).length c) :: fr) (.own q (bs ++ news).length c 1 (cells8 (bs ++ news)) e :: R) (wpList P ops Q rest)) (hg : Runs ops fr gd := by exact rfl) (hN : Nat.blt d N = true := by exact rfl)
    (D : TDesc P t (.slice e) := by exact inferInstance) (S : TSize P e 1 := by exact inferInstance) (Z : TZero P e zv := by exact inferInstance) (B : TBytes P e k := by exact inferInstance) (hx : ev fr x = some (.slice p bs.length cap) := by exact rfl) (hy : ev fr y = some u := by exact rfl)
    (s : Sel L (.own p bs.length cap 1 (cells8 bs) e) R := by (repeat (first | exact Sel.here | apply Sel.there)); first | done | fail) (src : SrcIs P Γ L 1 tx u news.length (cells8 news) := by first | (apply srcRow; exact inferInstance; exact (by (repeat (first | exact Sel.here | apply Sel.there)); first | done | fail); exact (by (repeat (first | exact Cut.zero | apply Cut.take | apply Cut.skip)); first | done | fail); exact rfl) | (apply srcOwn; exact inferInstance; exact (by (repeat (first | exact Sel.here | apply Sel.there)); first | done | fail)) | (apply srcNil; exact inferInstance) | (apply srcString; exact inferInstance) | exact hsrc | fail) (hzn : zv.cells.size = 1 := by exact rfl) (hb : (bs.length + news.length) * k ≤ 140737488355328 := by omega) (hb2 : bs.length + news.length ≤ 140737488355328 := by omega) :
    G Γ N fr L (wpList P ops Q (⟨some d, .call ⟨.builtin .append, [x, y].toArray, [t, tx].toArray⟩, ty, pos, aft, gd⟩ :: rest)) :=
  s_app (fun q c => by rw [cells8_append, ← List.length_append]; exact K q c) hg hN D S Z B hx hy s src hzn hb hb2
theorem p_appB (K : ∀ q c, GP P ops Q Γ N ((d, .slice q (bs ++ news).length c) :: fr) (.own q (bs ++ news).length c 1 (cells8 (bs ++ news)) e :: R) pl) (hi : ops[i]? = some ⟨some d, .call ⟨.builtin .append, [x, y].toArray, [t, tx].toArray⟩, ty, pos, aft, gd⟩ := by exact rfl) (hg : Runs ops fr gd := by exact rfl) (hN : Nat.blt d N = true := by exact rfl)
    (D : TDesc P t (.slice e) := by exact inferInstance) (S : TSize P e 1 := by exact inferInstance) (Z : TZero P e zv := by exact inferInstance) (B : TBytes P e k := by exact inferInstance) (hx : ev fr x = some (.slice p bs.length cap) := by exact rfl) (hy : ev fr y = some u := by exact rfl)
    (s : Sel L (.own p bs.length cap 1 (cells8 bs) e) R := by (repeat (first | exact Sel.here | apply Sel.there)); first | done | fail) (src : SrcIs P Γ L 1 tx u news.length (cells8 news) := by first | (apply srcRow; exact inferInstance; exact (by (repeat (first | exact Sel.here | apply Sel.there)); first | done | fail); exact (by (repeat (first | exact Cut.zero | apply Cut.take | apply Cut.skip)); first | done | fail); exact rfl) | (apply srcOwn; exact inferInstance; exact (by (repeat (first | exact Sel.here | apply Sel.there)); first | done | fail)) | (apply srcNil; exact inferInstance) | (apply srcString; exact inferInstance) | exact hsrc | fail) (hzn : zv.cells.size = 1 := by exact rfl) (hb : (bs.length + news.length) * k ≤ 140737488355328 := by omega) (hb2 : bs.length + news.length ≤ 140737488355328 := by omega) :
    GP P ops Q Γ N fr L (.one i pl) :=
  p_app (fun q c => by rw [cells8_append, ← List.length_append]; exact K q c) hi hg hN D S Z B hx hy s src hzn hb hb2
end
end Go.Sl

namespace Go.Sl
open Go Go.RowKit
abbrev Ctx.of (W : World) : Ctx := ⟨W.heap.size, fun b => fzOf W.heap[b]?, fun _ => none, W.os, W.tape, W.output⟩
abbrev Init (W : World) : Chunk := .asn fun h => h = wheap W
theorem holds_init (W : World) : Holds (Ctx.of W) [Init W] W :=
  ⟨rfl, rfl, rfl, ⟨Nat.le_refl _, fun _ _ => rfl⟩, (fun _ _ h => by cases h), wheap W, (fun _ => .inl rfl), HP.sub.refl _, wheap W, fun _ => none, (fun _ => .inr rfl), HP.sub.refl _, (fun _ _ h => by cases h), rfl, trivial⟩
structure Stays (W w : World) : Prop where
  kept : W.keptBut w (fun _ => False)
  froz : ∀ a : Addr, a.block < W.heap.size → w.frozen? a = W.frozen? a
  below : Below W.heap.size W w
theorem stays_of_holds {W w : World} {L R : List Chunk} (hh : Holds (Ctx.of W) L w) (s : Sel L (Init W) R) : Stays W w := by
  have hs := hh.sel s
  obtain ⟨h, _, s1, h1, _, _, t1, _, hc, _⟩ := hs.own
  have hc' : h1 = wheap W := hc
  subst hc'
  have keep : ∀ (i : Nat) (o : Obj), W.heap[i]? = some o → w.heap[i]? = some o := fun i o hi => s1 _ _ (t1 _ _ hi)
  have size : W.heap.size ≤ w.heap.size := by
    by_cases h0 : W.heap.size = 0
    · omega
    · have hi' : W.heap[W.heap.size - 1]? = some W.heap[W.heap.size - 1] := by simp
      have := (Array.getElem?_eq_some_iff.1 (keep _ _ hi')).1
      omega
  refine ⟨⟨hh.os, hh.output, fun i hi => ?_⟩, fun a ha => frozen_at a (hh.frz.2 a.block ha), hh.os, hh.tape, hh.output, size, fun k hk => ?_⟩
  · have hi' : W.heap[i]? = some W.heap[i] := by simp [hi]
    rw [keep i _ hi', hi']
    cases W.heap[i] with
    | cells c t fz => exact ⟨rfl, rfl, rfl, fun _ _ => rfl⟩
    | map es k => exact .inr ⟨rfl, rfl⟩
    | _ => rfl
  · have hi' : W.heap[k]? = some W.heap[k] := by simp [hk]
    rw [keep k _ hi', hi']
theorem calls_init {P : Program} {f : FuncId} {args : List Value} {X : Type} {ret : X → Value} {φ : X → Prop} (W : World) (d : Does P f args [Init W] ret (fun _ => [Init W]) φ) :
    Calls P f args.toArray W fun e w => ∃ x, φ x ∧ e = .returned (ret x) ∧ Stays W w :=
  (d (Ctx.of W) W (holds_init W)).mono fun e w ⟨x, hx, he, hh⟩ => ⟨x, hx, he, stays_of_holds hh .here⟩
theorem calls1_init {P : Program} {f : FuncId} {args : List Value} {v : Value} (W : World) (d : Does1 P f args [Init W] v) :
    Calls P f args.toArray W fun e w => e = .returned v ∧ Stays W w :=
  (calls_init W d).mono fun e w ⟨_, _, he, hg⟩ => ⟨he, hg⟩
theorem Does.frame {P : Program} {f : FuncId} {args : List Value} {X : Type} {A : List Chunk} {ret : X → Value} {B : X → List Chunk} {φ : X → Prop} (d : Does P f args A ret B φ) (R : List Chunk) :
    Does P f args (A ++ R) ret (fun x => B x ++ R) φ := fun Γ w hh => by
  obtain ⟨m, dm, hr, hA⟩ := hh.split
  refine (d _ w hA).mono ?_
  rintro e w' ⟨x, hx, rfl, hB⟩
  exact ⟨x, hx, rfl, hB.join dm hr⟩
theorem calls1_nil {P : Program} {f : FuncId} {args : List Value} {v : Value} (W : World) (d : Does1 P f args [] v) :
    Calls P f args.toArray W fun e w => e = .returned v ∧ Stays W w :=
  calls1_init W (Does.frame d [Init W])
theorem reads_init {W : World} {b o : Nat} {xs : Array Value} {e : TypeId} {fz : Nat × Nat} {v : Value} (hb : W.heap[b]? = some (.cells xs e fz)) (hv : xs[o]? = some v) : Reads (Init W) ⟨b, o, none⟩ v := fun h hs =>
  ⟨xs, e, fz, by rw [show h = wheap W from hs]; exact hb, rfl, hv⟩
theorem reads_init' {W : World} {b o : Nat} {v : Value} (hv : W.cell? ⟨b, o, none⟩ = some v) : Reads (Init W) ⟨b, o, none⟩ v := by
  unfold World.cell? at hv
  split at hv <;> simp_all
  rename_i hb
  exact reads_init hb hv
end Go.Sl

namespace Go.Sl
open Go Go.RowKit Go.ChangeShapes Go.WideShapes Go.ChangeAt
variable {P : Program} {W : World}
def CellsAt (W : World) (b o : Nat) (cs : List Value) : Prop := ∀ (j : Nat) (v : Value), cs[j]? = some v → W.cell? ⟨b, o + j, none⟩ = some v
class Opens (P : Program) (t : TypeId) (α : outParam Type) where
  is : World → α → List Value → Prop
  opens : ∀ {H : Type} {enc : TypeId × Value → H} {W : World} {sp : Nat → Bool} {n : Nat} {cs : List Value} {x : DataW H × List MemPlace}, DataW.trod enc P W 0 sp true n t cs = some x → ∃ a, is W a cs
class OpensFs (P : Program) (fs : List (TypeId × Nat)) (α : outParam Type) where
  is : World → α → List Value → Prop
  opens : ∀ {H : Type} {enc : TypeId × Value → H} {W : World} {sp : Nat → Bool} {n : Nat} {cs : List Value},
    (∀ f ∈ fs, ∃ x : DataW H × List MemPlace, DataW.trod enc P W 0 sp true n f.1 ((cs.drop f.2).take (P.cellsOf f.1)) = some x) → ∃ a, is W a cs
instance : OpensFs P [] Unit := ⟨fun _ _ _ => True, fun _ => ⟨(), trivial⟩⟩
instance {t : TypeId} {o n : Nat} {fs : List (TypeId × Nat)} {α β : Type} [A : Opens P t α] [S : TSize P t n] [B : OpensFs P fs β] : OpensFs P ((t, o) :: fs) (α × β) :=
  ⟨fun W x cs => A.is W x.1 ((cs.drop o).take n) ∧ B.is W x.2 cs, fun h => by
    obtain ⟨x, hx⟩ := h _ (List.mem_cons_self ..)
    have hn : P.cellsOf t = n := by simp [Program.cellsOf, S.size]
    rw [hn] at hx
    obtain ⟨a, ha⟩ := A.opens hx
    obtain ⟨b, hb⟩ := B.opens (fun f hf => h f (List.mem_cons_of_mem _ hf))
    exact ⟨(a, b), ha, hb⟩⟩
instance {t : TypeId} {k : IntKind} [D : TDesc P t (.int k)] : Opens P t Int :=
  ⟨fun _ n cs => cs = [.int k n] ∧ (Lit.int k n).wf = true, fun h => by obtain ⟨n, h1, _, h3⟩ := DataW.trod_int D.desc h; exact ⟨n, h1, h3⟩⟩
instance {t : TypeId} [D : TDesc P t .bool] : Opens P t Bool :=
  ⟨fun _ b cs => cs = [.bool b], fun h => by obtain ⟨n, h1, _⟩ := DataW.trod_bool D.desc h; exact ⟨n, h1⟩⟩
instance {t : TypeId} [D : TDesc P t .string] : Opens P t ByteArray :=
  ⟨fun _ s cs => cs = [.string s] ∧ s.size ≤ maxLen, fun h => by obtain ⟨n, h1, _, h3⟩ := DataW.trod_string D.desc h; exact ⟨n, h1, h3⟩⟩
structure SliceOf (α : Type) where
  place : Option Addr
  cap : Nat
  xs : List α
def SliceOf.val {α : Type} (s : SliceOf α) : Value := .slice s.place s.xs.length s.cap
theorem cell_spot (W : World) (a : Addr) (h : a.spot.isSome = true) : W.cell? a = none := by
  unfold World.cell?
  split <;> simp [h]
theorem cells_at {W : World} {a : Addr} {n : Nat} {cs : List Value} (h : W.cells? 0 a n = some cs) : cs.length = n ∧ ∀ (j : Nat) (v : Value), cs[j]? = some v → W.cell? (a.add j) = some v := by
  unfold World.cells? at h
  rw [if_pos (Nat.zero_le _)] at h
  have hl := mapM_some_length h
  refine ⟨by simpa using hl, fun j v hv => ?_⟩
  have hj : j < n := by
    have := (List.getElem?_eq_some_iff.1 hv).1
    simp at hl; omega
  have := mapM_some_get h j j (by simp [hj])
  rw [this, hv]
class NZ (n : Nat) : Prop where
  pos : 0 < n
instance {n : Nat} : NZ (n + 1) := ⟨Nat.succ_pos n⟩
instance {t e : TypeId} {n : Nat} {α : Type} [D : TDesc P t (.slice e)] [S : TSize P e n] [Z : NZ n] [A : Opens P e α] : Opens P t (SliceOf α) :=
  ⟨fun W s cs => cs = [s.val] ∧ s.xs.length ≤ s.cap ∧ s.cap ≤ maxLen ∧ (s.place = none → s.xs = [] ∧ s.cap = 0) ∧
      (∀ (i : Nat) (x : α), s.xs[i]? = some x → ∃ b o c, s.place = some ⟨b, o, none⟩ ∧ A.is W x c ∧ c.length = n ∧ CellsAt W b (o + i * n) c), fun {H enc W sp k cs x} h => by
    have hn : P.cellsOf e = n := by simp [Program.cellsOf, S.size]
    have hz : 0 < n := Z.pos
    rcases DataW.trod_slice D.desc h with ⟨rfl, _⟩ | ⟨a, len, cap, elems, rest, k, _, rfl, _, hb, hl, hc, he, hx, _⟩
    · exact ⟨⟨none, 0, []⟩, rfl, Nat.zero_le _, Nat.zero_le _, fun _ => ⟨rfl, rfl⟩, fun i x hx => by simp at hx⟩
    · have hel : ∀ i, i < len → ∃ (x : α) (c : List Value), A.is W x c ∧ c.length = n ∧ ∀ (j : Nat) (v : Value), c[j]? = some v → W.cell? ((a.add (i * n)).add j) = some v := fun i hi => by
        have h1 := hx i hi
        have h2 : elems[i]? = some (elems[i]'(by omega)) := by simp [he, hi]
        rw [h2, hn] at h1
        cases hcs : W.cells? 0 (a.add (i * n)) n with
        | none => rw [hcs] at h1; cases h1
        | some c =>
          rw [hcs] at h1
          obtain ⟨x, hx⟩ := A.opens (cs := c) h1
          have := cells_at hcs
          exact ⟨x, c, hx, this.1, this.2⟩
      refine ⟨⟨some a, cap, List.ofFn fun i : Fin len => Classical.choose (hel i i.2)⟩, by simp [SliceOf.val], by simpa using hl, hc, (fun e => by cases e), fun i x hx => ?_⟩
      simp only [List.getElem?_ofFn] at hx
      split at hx
      · rename_i hi
        obtain ⟨c, h1, h2, h3⟩ := Classical.choose_spec (hel i hi)
        cases hx
        obtain ⟨b, o, sp⟩ := a
        have hsp : sp = none := by
          cases sp with
          | none => rfl
          | some k =>
            obtain ⟨_, c0, _, l0, g0⟩ := hel 0 (by omega)
            have h0 : c0[0]? = some (c0[0]'(by omega)) := by simp [l0, hz]
            have h4 := g0 0 _ h0
            simp only [Nat.zero_mul, Addr.add, ↓reduceIte] at h4
            rw [cell_spot W _ rfl] at h4
            cases h4
        subst hsp
        refine ⟨b, o, c, rfl, h1, h2, fun j v hv => ?_⟩
        have := h3 j v hv
        rw [Addr.add_lit, Addr.add_lit] at this
        exact this
      · cases hx⟩
instance {t : TypeId} {n : Nat} {fs : List (TypeId × Nat)} {α : Type} [T : TFds P t fs] [S : TSize P t n] [A : OpensFs P fs α] : Opens P t α :=
  ⟨fun W x cs => cs.length = n ∧ A.is W x cs, fun {H enc W sp k cs x} h => by
    obtain ⟨xs, k', _, _, hl, hxs, hf⟩ := DataW.trod_struct T.struct h
    refine (A.opens (W := W) (enc := enc) (sp := sp) (n := k') (cs := cs) fun f hf' => ?_).imp fun a ha => ⟨by rw [hl]; simp [Program.cellsOf, S.size], ha⟩
    obtain ⟨i, hi⟩ := List.mem_iff_getElem?.1 hf'
    have hm : ((P.fieldsOf t).toList.map fun f => (f.type, f.offset))[i]? = some f := by rw [T.fields]; exact hi
    simp only [List.getElem?_map, Option.map_eq_some_iff] at hm
    obtain ⟨g, hg, rfl⟩ := hm
    have hg' : (P.fieldsOf t)[i]? = some g := by simpa using hg
    have := hf i g hg'
    have hlt : i < xs.length := by
      rw [hxs]
      exact (Array.getElem?_eq_some_iff.1 hg').1
    exact ⟨xs[i], by rw [this]; simp [hlt]⟩⟩
def oneD : TypeDesc → Bool
  | .struct _ => false
  | .array _ _ => false
  | _ => true
theorem arg_one {H : Type} {enc : TypeId × Value → H} {t : TypeId} {α : Type} [A : Opens P t α] {d : TypeDesc} {b : Nat} {sp : Nat → Bool} {v : Value} {x : DataW H} {ps : List MemPlace} (hd : P.underlying t = some d) (ho : oneD d = true)
    (hval : Value.okWide P W .any b t v) (h : DataW.Trod enc P W 0 sp true t v x ps) : ∃ a, A.is W a [v] := by
  obtain ⟨n, hn⟩ := h
  have : v.cells.toList = [v] := by
    cases v with
    | agg cs =>
      unfold Value.okWide at hval
      rw [hd] at hval
      cases d <;> simp_all [oneD, Cell.okWide, Cell.ok]
    | _ => rfl
  rw [this] at hn
  exact A.opens hn
theorem arg_agg {H : Type} {enc : TypeId × Value → H} {t : TypeId} {α : Type} {fs : List (TypeId × Nat)} [T : TFds P t fs] [A : Opens P t α] {b : Nat} {sp : Nat → Bool} {v : Value} {x : DataW H} {ps : List MemPlace}
    (hval : Value.okWide P W .any b t v) (h : DataW.Trod enc P W 0 sp true t v x ps) : ∃ a cs, v = .agg cs.toArray ∧ A.is W a cs := by
  obtain ⟨n, hn⟩ := h
  unfold Value.okWide at hval
  rw [T.struct] at hval
  obtain ⟨cs, rfl, _⟩ := hval
  obtain ⟨a, ha⟩ := A.opens hn
  exact ⟨a, cs.toList, by simp, ha⟩
theorem trodAll_stays {H : Type} {enc : TypeId × Value → H} (hl : laidOutB P = true) {W W' : World} {base : Nat} {sp : Nat → Bool} : ∀ {ts : List TypeId} {vs : List Value} {ds : List (DataW H)} {ps : List MemPlace},
    ts.all (fun t => P.readableRec t && decide (t < P.types.size)) = true → DataW.TrodAll enc P W base (fun _ => true) true ts vs ds ps → (∀ p ∈ ps, W.sameAt W' p) → (∀ p ∈ ps, sp p.block = true) → DataW.TrodAll enc P W' base sp true ts vs ds ps
  | [], [], [], _, _, h, _, _ => h
  | t :: ts, v :: vs, d :: ds, ps, ht, ⟨p, q, h1, h2, e⟩, hs, hp => by
    simp only [List.all_cons, Bool.and_eq_true, decide_eq_true_eq] at ht
    subst e
    exact ⟨p, q, WideElems.Trod_stays hl ht.1.1 ht.1.2 h1 (fun x hx => hs x (by simp [hx])) (fun x hx => hp x (by simp [hx])), trodAll_stays hl ht.2 h2 (fun x hx => hs x (by simp [hx])) (fun x hx => hp x (by simp [hx])), rfl⟩
  | [], _ :: _, _, _, _, h, _, _ => h.elim
  | [], [], _ :: _, _, _, h, _, _ => h.elim
  | _ :: _, [], _, _, _, h, _, _ => h.elim
  | _ :: _, _ :: _, [], _, _, h, _, _ => h.elim
theorem post_old {H : Type} {enc : TypeId × Value → H} {f : Func} {s : ChangeSpec} {apart fresh handsOn again : Bool} {W W' : World} {args : Array Value} {v : Value} {ds gs : List (DataW H)} {before pa pv : List MemPlace}
    (hW : DataW.Whole enc P f.params.toList s.vars apart W args.toList ds gs before)
    (hres : ∀ (b : Nat) (sp : Nat → Bool) (hd : Bool), DataW.TrodAll enc P W' b sp hd f.resultTypes.toList (v.resultList f.resultTypes.size) (s.fn H (ds ++ gs)).results [])
    (hargs : ∀ sp : Nat → Bool, (∀ p ∈ before, sp p.block = true) → DataW.TrodAll enc P W' 0 sp true f.params.toList args.toList (s.fn H (ds ++ gs)).args pa)
    (hvars : ∀ sp : Nat → Bool, (∀ p ∈ before, sp p.block = true) → DataW.TrodVars enc P W' sp s.vars (s.fn H (ds ++ gs)).vars pv)
    (hps : before = pa ++ pv) (hk : W.keptBut W' (· ∈ before)) (hfz : ∀ a : Addr, a.block < W.heap.size → W'.frozen? a = W.frozen? a)
    (hok : ∀ (j : Nat) (t : TypeId) (r : Value), f.resultTypes[j]? = some t → (v.resultList f.resultTypes.size)[j]? = some r → Value.okWide P W' .any 0 t r) :
    s.post enc P f apart fresh handsOn again W args v W' := by
  have hold : ∀ p ∈ before, (fun b => decide (b < W.heap.size)) p.block = true := fun p hp => by simpa using hW.lt p hp
  have hlt := hW.lt
  refine ⟨ds, gs, before, [], pa, pv, hW, hres _ _ _, hargs _ hold, hvars _ hold, World.keptBut_mono (fun p hp => ⟨hp, ?_⟩) hk, fun _ => ?_⟩
  · rw [hps, List.mem_append] at hp
    exact Or.inr hp
  · obtain ⟨_, _, _, _, _, hz, hn⟩ := hW
    refine ⟨hok, _, _, ([] ++ pa) ++ pv, ⟨[] ++ pa, pv, trodAll_append (hargs _ (fun _ _ => rfl)) (hres _ _ _), hvars _ (fun _ _ => rfl), rfl, ?_, ?_⟩, ?_⟩
    · intro b off hp
      have hp' : MemPlace.cell b off ∈ before := by rw [hps]; simpa using hp
      rw [hfz _ (hlt _ hp')]
      exact hz b off hp'
    · intro ha
      have := hn ha
      rw [hps] at this
      simpa using this
    · intro p hp _
      rw [hps]
      simpa using hp
theorem law_post {H : Type} {enc : TypeId × Value → H} {f : Func} {s : ChangeSpec} {apart fresh handsOn again : Bool} {W W' : World} {args : Array Value} {ds gs : List (DataW H)} {before : List MemPlace} {tb : TypeId}
    (hl : laidOutB P = true) (hp : f.params.toList.all (fun t => P.readableRec t && decide (t < P.types.size)) = true) (hv : s.vars = []) (hr : f.resultTypes = #[tb]) (hb : P.underlying tb = some .bool)
    (hW : DataW.Whole enc P f.params.toList s.vars apart W args.toList ds gs before) (hfn : s.fn H (ds ++ gs) = { results := [.lit (.bool true)], args := ds }) (hst : Stays W W') :
    s.post enc P f apart fresh handsOn again W args (.bool true) W' := by
  have hlt := hW.lt
  have hW' := hW
  obtain ⟨p, q, hA, hV, rfl, hfz, hnd⟩ := hW
  rw [hv] at hV
  obtain ⟨rfl, rfl⟩ := trodVars_none hV
  refine post_old (pa := p) (pv := []) hW' (fun b sp hd => ?_) (fun sp hsp => ?_) (fun sp hsp => ?_) rfl (World.keptBut_mono (fun _ f => f.elim) hst.kept) hst.froz (ok_one hr rfl (okWide_bool_mk hb _))
  · rw [hfn, hr]
    exact trodAll_cons_mk (shut_bool hb _) trodAll_mk0
  · rw [hfn]
    exact trodAll_stays hl hp hA (fun x hx => hst.below.same (hlt x (by simp [hx]))) (fun x hx => hsp x (by simp [hx]))
  · rw [hfn, hv]
    rfl
end Go.Sl
