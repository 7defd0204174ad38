/- Contracts and laws that the proof stands on. -/
import Derived.Test.YtdldgbbhagpofaaGreatDoorSeglogCrash5
import Derived.Lib.OthersKept
import Derived.Laws.IdiomStrings
import Derived.Sort.Grow
import Derived.Lib.ConvBytes
import Derived.Lib.AppendZeros
set_option linter.unusedSimpArgs false
set_option linter.unusedVariables false
namespace Go.Sl
variable {P : Program} {Γ : Ctx} {L R : List Chunk} {N : Nat} {fr : Fr} {Q : Exit → Act → World → Prop} {ops : Array Oper} {rest : List Oper}
variable {d : Nat} {ty : TypeId} {pos : String} {aft : Array Edge} {gd : Option (Nat × Bool)} {x y z : Operand} {v u : Value} {t t2 tx : TypeId}
theorem Fr.ok.as {fr : Fr} {a : Act} (h : fr.ok a) {d : Nat} {v : Value} (hd : look fr d = some v) : Fr.ok ((d, v) :: fr) a := by
  intro t' u e
  simp only [look] at e
  cases hq : Nat.beq d t' with
  | true => rw [hq] at e; simp at e; subst e; rw [← Nat.eq_of_beq_eq_true hq]; exact h d _ hd
  | false => rw [hq] at e; exact h t' u (by simpa using e)
theorem g_as {φ : Act → World → Prop} (d : Nat) {v v' : Value} (h : look fr d = some v) (e : v = v') (g : G Γ N ((d, v') :: fr) L φ) : G Γ N fr L φ := fun a w hN hd hf hh => g a w hN hd (hf.as (by rw [← e]; exact h)) hh
theorem gp_as {p : Plan} (d : Nat) {v v' : Value} (h : look fr d = some v) (e : v = v') (g : GP P ops Q Γ N ((d, v') :: fr) L p) : GP P ops Q Γ N fr L p := fun a hN hd hf => g a hN hd (hf.as (by rw [← e]; exact h))
theorem qs_addS {a b : ByteArray} (hx : ev fr x = some (.string a)) (hy : ev fr y = some (.string b)) (h : a.size + b.size ≤ 9223372036854775807) : QStep P Γ fr ⟨some d, .binOp .add t x y t2, ty, pos, aft, gd⟩ (.string (a ++ b)) :=
  qs_of (fun c w hf => by
    have hm : ¬ ((a.size + b.size : Nat) : Int) > IntKind.i64.max := by
      have : IntKind.i64.max = 9223372036854775807 := by decide
      rw [this]; omega
    simp only [execOp, hf.ev hx, hf.ev hy, eqGuard_at_string, binOp_string_add, Op.stringOp]
    rw [if_neg hm]
    simp)
def at8 (s : ByteArray) (i : Nat) : UInt8 := s.data.toList.getD i 0
theorem qs_indexStr {s : ByteArray} {k : IntKind} {i : Nat} (D : TDesc P t .string) (hx : ev fr x = some (.string s)) (hy : ev fr y = some (.int k (i : Int))) (h : i < s.size) : QStep P Γ fr ⟨some d, .index t x y, ty, pos, aft, gd⟩ (.int .u8 (at8 s i).toNat) :=
  qs_of (fun c c' hf => by
    have h01 : (0 : Int) ≤ i ∧ (i : Int) < s.size := ⟨by omega, by omega⟩
    have e : s[i]'h = at8 s i := by
      have h' : i < s.data.toList.length := by simpa using h
      unfold at8
      rw [List.getD_eq_getElem?_getD, List.getElem?_eq_getElem h']
      rfl
    have hr : (Instr.index t (.string s) (.int k (i : Int))).run P c' = .ok (.int .u8 ((at8 s i).toNat : Int)) c' := by
      rw [run_index_string c' t s k (i : Int) D.desc, dif_pos h01]
      simp only [Int.toNat_natCast, e]
    simp only [execOp, hf.ev hx, hf.ev hy, Sem.run_bind, hr]
    rfl)
theorem cs_range {s : ByteArray} (D : TDesc P t .string) (hx : ev fr x = some (.string s)) : CStep P Γ fr L ⟨some d, .range t x, ty, pos, aft, gd⟩ (X := Nat) (fun b => .pointer (some ⟨b, 0, none⟩)) (fun b => .pt b (.stringIter s 0) :: L) (fun _ => True) :=
  cs_of (fun a w hf hh => ⟨w.heap.size, w.alloc (.stringIter s 0), trivial, by simp [execOp, hf.ev hx, run_range_string w t s D.desc, World.iter], hh.new rfl rfl rfl rfl rfl⟩)
theorem cs_next {s : ByteArray} {b k : Nat} (hx : ev fr x = some (.pointer (some ⟨b, 0, none⟩))) (s1 : Sel L (.pt b (.stringIter s k)) R) (h : k < s.size) :
    CStep P Γ fr L ⟨some d, .next x true, ty, pos, aft, gd⟩ (X := Unit) (fun _ => .tuple [.bool true, .int .i64 k, .int .i32 ((Utf8.decode s k).1 : Nat)].toArray) (fun _ => .pt b (.stringIter s (k + (Utf8.decode s k).2)) :: R) (fun _ => True) :=
  cs_of (fun a w hf hh => by
    have hb := hh.block s1
    refine ⟨(), w.iterAt b s (k + (Utf8.decode s k).2), trivial, by simp [execOp, hf.ev hx, Lib.run_next_any_at w b s k ty hb h], hh.update s1 rfl rfl rfl (Lib.iterAt_heap w b s k _ hb) rfl (fun c hc => Lib.iterAt_other w b c s _ hc)⟩)
theorem vs_nextEnd {s : ByteArray} {b k : Nat} (hx : ev fr x = some (.pointer (some ⟨b, 0, none⟩))) (s1 : Sel L (.pt b (.stringIter s k)) R) (h : ¬ k < s.size) :
    VStep P Γ fr L ⟨some d, .next x true, ty, pos, aft, gd⟩ (.tuple [.bool false].toArray) :=
  vs_of (fun a w hf hh => by simp [execOp, hf.ev hx, Lib.run_next_end_at w b s k ty (hh.block s1) h])
theorem decode_at {s : ByteArray} {k : Nat} (h : k < s.size) (ha : (at8 s k).toNat < 128) : Utf8.decode s k = ((at8 s k).toNat, 1) := by
  have e : s[k]'h = at8 s k := by
    have h' : k < s.data.toList.length := by simpa using h
    unfold at8
    rw [List.getD_eq_getElem?_getD, List.getElem?_eq_getElem h']
    rfl
  rw [decode_ascii s k h (by rw [e]; exact ha), e]
theorem decode_big {s : ByteArray} {k : Nat} (h : k < s.size) (ha : ¬ (at8 s k).toNat < 128) : 128 ≤ (Utf8.decode s k).1 := by
  have e : s.get! (k + 0) = at8 s k := by
    have h' : k < s.data.toList.length := by simpa using h
    unfold at8
    rw [List.getD_eq_getElem?_getD, List.getElem?_eq_getElem h']
    show s.get! k = _
    simp [ByteArray.get!, getElem!_pos, h]
  unfold Utf8.decode
  simp only [e]
  rw [if_neg ha]
  repeat' split
  all_goals first
    | exact (by decide : 128 ≤ (Utf8.runeError, 1).1)
    | (rename_i hx; simp only [ge_iff_le, Bool.and_eq_true, decide_eq_true_eq] at hx; first | exact hx | exact Nat.le_trans (by decide) hx.1)
def cells8 (l : List UInt8) : List Value := l.map fun b => .int .u8 (b.toNat : Int)
theorem cells8_len (l : List UInt8) : (cells8 l).length = l.length := by simp [cells8]
theorem cells8_snoc (l : List UInt8) (b : UInt8) : cells8 l ++ [.int .u8 (b.toNat : Int)] = cells8 (l ++ [b]) := by simp [cells8]
theorem cells8_append (l r : List UInt8) : cells8 l ++ cells8 r = cells8 (l ++ r) := by simp [cells8]
theorem cells8_get (l : List UInt8) (i : Nat) (h : i < l.length) : (cells8 l)[i]? = some (.int .u8 ((l.getD i 0).toNat : Int)) := by
  simp [cells8, h]
theorem vs_bytesStr {p : Option Addr} {len cap : Nat} {l : List UInt8} {e e' : TypeId} (D : TDesc P t (.slice e)) (E : TDesc P e (.int .u8)) (D2 : TDesc P t2 .string) (hx : ev fr x = some (.slice p len cap)) (s : Sel L (.own p len cap 1 (cells8 l) e') R) :
    VStep P Γ fr L ⟨some d, .convert t t2 x, ty, pos, aft, gd⟩ (.string ⟨l.toArray⟩) :=
  vs_of (fun a w hf hh => by
    obtain ⟨hl, _, hp⟩ := own_place hh s
    rw [cells8_len, Nat.mul_one] at hl
    by_cases h0 : len = 0
    · obtain rfl : l = [] := List.eq_nil_of_length_eq_zero (by omega)
      subst h0
      have e0 : ByteArray.empty = (⟨([] : List UInt8).toArray⟩ : ByteArray) := rfl
      have : (Conv.bytesToString (.slice p 0 cap)).run P w = .ok (.string ⟨([] : List UInt8).toArray⟩) w := by
        cases p with
        | none => simp [Conv.bytesToString, e0]
        | some ad => exact run_bytesToString w ad 0 cap [] (run_loadCells_list (P := P) w ad [] (fun j v hj => by simp at hj))
      simp only [execOp, hf.ev hx, Sem.run_bind, run_convert_bytes_string w t t2 e p 0 cap D.desc E.desc D2.desc, this]
      rfl
    · obtain ⟨b, rfl⟩ := hp (by omega)
      subst hl
      have := run_convert_bytes_back (P := P) w t t2 e ⟨b, 0, none⟩ cap l D.desc E.desc D2.desc (fun j hj => by
        rw [Addr.add_lit, Nat.zero_add]
        refine hh.cell s (reads_own ?_)
        rw [cells8_get l j hj]
        simp [hj])
      simp only [execOp, hf.ev hx, Sem.run_bind, this]
      rfl)
theorem qs_neg {i : IntKind} {a : Int} (hx : ev fr x = some (.int i a)) : QStep P Γ fr ⟨some d, .unOp .neg t x, ty, pos, aft, gd⟩ (.int i (i.wrap (0 - a))) :=
  qs_of (fun c w hf => by simp [execOp, hf.ev hx, Op.unary, Op.intArith])
theorem wrap_u64 {z : Int} (h : 0 ≤ z ∧ z ≤ 18446744073709551615) : IntKind.u64.wrap z = z := IntWalk.u64_in _ ⟨by have := h.1; omega, by have := h.2; omega⟩
theorem wrap_u8 {z : Int} (h : 0 ≤ z ∧ z ≤ 255) : IntKind.u8.wrap z = z := IntWalk.u8_in _ ⟨by have := h.1; omega, by have := h.2; omega⟩
theorem wrap_i32 {z : Int} (h : -2147483648 ≤ z ∧ z ≤ 2147483647) : IntKind.i32.wrap z = z := IntWalk.i32_in _ ⟨by have := h.1; omega, by have := h.2; omega⟩
theorem gp_thawS {M : List Chunk} {op : Op} {i : Nat} {p : Plan} {C : List Chunk} {m : HP} (hd : HP.disj Γ.hf m) (hk : All C m) (h : SStep P Γ fr (L ++ C) ⟨none, op, ty, pos, aft, gd⟩ M)
    (k : ∀ m', HP.disj Γ.hf m' → All [] m' → GP P ops Q (Γ.add m') N fr M p) (hi : ops[i]? = some ⟨none, op, ty, pos, aft, gd⟩) (hg : Runs ops fr gd) : GP P ops Q (Γ.add m) N fr L (.thaw i p) :=
  fun a hs hdf hf => ⟨_, hi, .inl ⟨runs_wanted (o := ⟨none, op, ty, pos, aft, gd⟩) hf hg, Value × HP, fun x => x.1, fun x => Γ.add x.2, fun _ => M, fun x => HP.disj Γ.hf x.2 ∧ All [] x.2, fun hn => absurd (by simp) hn,
    fun w hh => (h a hf w (hh.join hd hk)).mono fun u w' hh' => by
      obtain ⟨m', dm, hm, hr⟩ := (show Holds Γ (M ++ []) w' by simpa using hh').split
      exact ⟨(u, m'), ⟨dm, hm⟩, rfl, hr⟩, fun x hx => k x.2 hx.1 hx.2 _ hs hdf hf⟩⟩
theorem p_ts {M : List Chunk} {op : Op} {i : Nat} {p : Plan} {C : List Chunk} {m : HP} (hd : HP.disj Γ.hf m) (hk : All C m) (k : ∀ m', HP.disj Γ.hf m' → All [] m' → GP P ops Q (Γ.add m') N fr M p) (hi : ops[i]? = some ⟨none, op, ty, pos, aft, gd⟩ := by exact rfl) (hg : Runs ops fr gd := by exact rfl)
    (h : SStep P Γ fr (L ++ C) ⟨none, op, ty, pos, aft, gd⟩ M := by first | (apply ss_store'; exact inferInstance; exact rfl; exact rfl; exact rfl; exact (by (repeat (first | exact Sel.here | apply Sel.there)); first | done | fail); exact (by (repeat (first | exact Put.nil | apply Put.here | apply Put.skip)); first | done | fail)) | (apply ss_storeA'; exact inferInstance; exact rfl; exact rfl; exact rfl; exact rfl; exact (by (repeat (first | exact Sel.here | apply Sel.there)); first | done | fail); exact (by (repeat (first | exact Put.nil | apply Put.here | apply Put.skip)); first | done | fail)) | fail) : GP P ops Q (Γ.add m) N fr L (.thaw i p) := gp_thawS hd hk h k hi hg
theorem does_of_calls {f : FuncId} {args : List Value} {v : Value} {H : HP} (h : ∀ w, (∀ b o, H b = some o → w.heap[b]? = some o) → Calls P f args.toArray w fun e w' => e = .returned v ∧ ∃ k os, w' = _root_.Go.Sort.grow (w.drewN k) os) : Does1 P f args [Pile H] v := fun Γ w hh => by
  have hH : ∀ b o, H b = some o → w.heap[b]? = some o := by
    obtain ⟨h, _, s, h1, _, _, s1, _, hc, _⟩ := hh.own
    have hc' : h1 = H := hc
    subst hc'
    exact fun b o hb => s _ _ (s1 _ _ hb)
  refine (h w hH).mono ?_
  rintro e w' ⟨rfl, k, os, rfl⟩
  refine ⟨(), trivial, rfl, ?_⟩
  refine hh.later rfl rfl rfl ?_ (fun c hc => ?_)
  · simp [Go.Sort.grow, World.drewN]
  · simp [Go.Sort.grow, World.drewN, Array.getElem?_append, hc]
end Go.Sl

namespace Go.Sl
def MidX (Γ : Ctx) (N : Nat) {X : Type} (F : X → Fr) (M : X → List Chunk) (φ : X → Prop) : Exit → Act → World → Prop
  | .normal, a, w => ∃ x, φ x ∧ a.tmps.size = N ∧ a.defers = Γ.df ∧ (F x).ok a ∧ Holds Γ (M x) w
  | _, _, _ => False
theorem g_midX {Γ : Ctx} {N : Nat} {fr : Fr} {L R : List Chunk} {X : Type} {F : X → Fr} {M : X → List Chunk} {φ : X → Prop} (x : X) (hx : φ x) (s : FrSub fr (F x)) (t : Take L (M x) R) : G Γ N fr L (MidX Γ N F M φ .normal) :=
  fun _ _ hN hd hf hh => ⟨x, hx, hN, hd, hf.sub s, hh.takeDrop t⟩
theorem g_cutX {P : Program} {Γ : Ctx} {N : Nat} {fr : Fr} {L : List Chunk} {Q : Exit → Act → World → Prop} {c : Code} {X : Type} (F : X → Fr) (M : X → List Chunk) (φ : X → Prop) (h : G Γ N fr L (c.wp P (MidX Γ N F M φ))) (k : ∀ x, φ x → G Γ N (F x) (M x) (Q .normal)) : G Γ N fr L (c.wp P Q) := by
  intro a w hN hd hf hh
  refine wp_mono (h a w hN hd hf hh) ?_
  intro e a' w' hq
  cases e with
  | normal => obtain ⟨x, hx, h1, h2, h3, h4⟩ := hq; exact k x hx a' w' h1 h2 h3 h4
  | exit id => exact hq.elim
  | goto l => exact hq.elim
  | ret => exact hq.elim
  | panic ch => exact hq.elim
  | outgrown => exact hq.elim
theorem g_toOwn {Γ : Ctx} {N : Nat} {fr : Fr} {L R : List Chunk} {φ : Act → World → Prop} {b len n : Nat} {xs : List Value} {e : TypeId} (s : Sel L (.row b xs e) R) (hl : xs.length = len * n) (ho : xs.all (·.oneCell') = true)
    (g : G Γ N fr (.own (some ⟨b, 0, none⟩) len len n xs e :: R) φ) : G Γ N fr L φ := fun a w hN hd hf hh => g a w hN hd hf ((hh.sel s).toOwn hl ho)
theorem g_unpile {Γ : Ctx} {N : Nat} {fr : Fr} {L R : List Chunk} {φ : Act → World → Prop} {H H' : HP} (hs : HP.sub H H') (s : Sel L (Pile H') R) (g : G Γ N fr (Pile H :: R) φ) : G Γ N fr L φ := fun a w hN hd hf hh =>
  g a w hN hd hf ((hh.sel s).mono fun h ⟨h1, h2, dj, s1, s2, hc, hr⟩ => by
    have hc' : h1 = H' := hc
    subst hc'
    exact ⟨H, h2, HP.disj_sub dj hs, hs.trans s1, s2, rfl, hr⟩)
theorem reads_grow {H H' : HP} (s : HP.sub H H') {a : Addr} {v : Value} (r : Reads (Pile H) a v) : Reads (Pile H') a v := fun hp hc => by
  obtain ⟨xs, e, fz, h1, h2, h3⟩ := r H rfl
  have hc' : hp = H' := hc
  subst hc'
  exact ⟨xs, e, fz, s _ _ h1, h2, h3⟩
end Go.Sl

namespace Go.Sl
variable {P : Program} {Γ : Ctx} {L R : List Chunk} {N : Nat} {fr : Fr} {Q : Exit → Act → World → Prop} {ops : Array Oper} {rest : List Oper}
variable {d : Nat} {ty : TypeId} {pos : String} {aft : Array Edge} {gd : Option (Nat × Bool)} {x y z : Operand} {v u : Value} {t t2 tx : TypeId}
theorem bv_nat (w n : Nat) (h : n < 2 ^ w) : (BitVec.ofInt w (n : Int)).toNat = n := by
  rw [BitVec.ofInt_natCast, BitVec.toNat_ofNat, Nat.mod_eq_of_lt h]
theorem wrap8 (n : Nat) (h : n < 256) : IntKind.u8.wrap (n : Int) = n := wrap_u8 ⟨by omega, by omega⟩
theorem wrap64 (n : Nat) (h : n < 18446744073709551616) : IntKind.u64.wrap (n : Int) = n := wrap_u64 ⟨by omega, by omega⟩
section
variable {a b : Nat}
theorem qs_or8 (hx : ev fr x = some (.int .u8 a)) (hy : ev fr y = some (.int .u8 b)) (ha : a < 256) (hb : b < 256) : QStep P Γ fr ⟨some d, .binOp .or t x y t2, ty, pos, aft, gd⟩ (.int .u8 ((a ||| b : Nat) : Int)) :=
  qs_of (fun c w hf => by
    have e1 := bv_nat 8 a ha
    have e2 := bv_nat 8 b hb
    have e3 : (BitVec.ofInt IntKind.u8.bits (a : Int) ||| BitVec.ofInt IntKind.u8.bits (b : Int)).toNat = a ||| b := by
      show (BitVec.ofInt 8 (a : Int) ||| BitVec.ofInt 8 (b : Int)).toNat = a ||| b
      rw [BitVec.toNat_or, e1, e2]
    have e4 : a ||| b < 256 := Nat.or_lt_two_pow (n := 8) ha hb
    simp only [execOp, hf.ev hx, hf.ev hy, eqGuard_at_int, binOp_or, Op.intBits, e3, wrap8 _ e4]
    simp)
theorem qs_and8 (hx : ev fr x = some (.int .u8 a)) (hy : ev fr y = some (.int .u8 b)) (ha : a < 256) (hb : b < 256) : QStep P Γ fr ⟨some d, .binOp .and t x y t2, ty, pos, aft, gd⟩ (.int .u8 ((a &&& b : Nat) : Int)) :=
  qs_of (fun c w hf => by
    have e1 := bv_nat 8 a ha
    have e2 := bv_nat 8 b hb
    have e3 : (BitVec.ofInt IntKind.u8.bits (a : Int) &&& BitVec.ofInt IntKind.u8.bits (b : Int)).toNat = a &&& b := by
      show (BitVec.ofInt 8 (a : Int) &&& BitVec.ofInt 8 (b : Int)).toNat = a &&& b
      rw [BitVec.toNat_and, e1, e2]
    have e4 : a &&& b < 256 := Nat.lt_of_le_of_lt Nat.and_le_left ha
    simp only [execOp, hf.ev hx, hf.ev hy, eqGuard_at_int, binOp_and, Op.intBits, e3, wrap8 _ e4]
    simp)
theorem qs_or64 (hx : ev fr x = some (.int .u64 a)) (hy : ev fr y = some (.int .u64 b)) (ha : a < 18446744073709551616) (hb : b < 18446744073709551616) : QStep P Γ fr ⟨some d, .binOp .or t x y t2, ty, pos, aft, gd⟩ (.int .u64 ((a ||| b : Nat) : Int)) :=
  qs_of (fun c w hf => by
    have e1 := bv_nat 64 a ha
    have e2 := bv_nat 64 b hb
    have e3 : (BitVec.ofInt IntKind.u64.bits (a : Int) ||| BitVec.ofInt IntKind.u64.bits (b : Int)).toNat = a ||| b := by
      show (BitVec.ofInt 64 (a : Int) ||| BitVec.ofInt 64 (b : Int)).toNat = a ||| b
      rw [BitVec.toNat_or, e1, e2]
    have e4 : a ||| b < 18446744073709551616 := Nat.or_lt_two_pow (n := 64) ha hb
    simp only [execOp, hf.ev hx, hf.ev hy, eqGuard_at_int, binOp_or, Op.intBits, e3, wrap64 _ e4]
    simp)
theorem qs_and64 (hx : ev fr x = some (.int .u64 a)) (hy : ev fr y = some (.int .u64 b)) (ha : a < 18446744073709551616) (hb : b < 18446744073709551616) : QStep P Γ fr ⟨some d, .binOp .and t x y t2, ty, pos, aft, gd⟩ (.int .u64 ((a &&& b : Nat) : Int)) :=
  qs_of (fun c w hf => by
    have e1 := bv_nat 64 a ha
    have e2 := bv_nat 64 b hb
    have e3 : (BitVec.ofInt IntKind.u64.bits (a : Int) &&& BitVec.ofInt IntKind.u64.bits (b : Int)).toNat = a &&& b := by
      show (BitVec.ofInt 64 (a : Int) &&& BitVec.ofInt 64 (b : Int)).toNat = a &&& b
      rw [BitVec.toNat_and, e1, e2]
    have e4 : a &&& b < 18446744073709551616 := Nat.lt_of_le_of_lt Nat.and_le_left ha
    simp only [execOp, hf.ev hx, hf.ev hy, eqGuard_at_int, binOp_and, Op.intBits, e3, wrap64 _ e4]
    simp)
theorem qs_shr64 {k : IntKind} {n : Nat} (hx : ev fr x = some (.int .u64 a)) (hy : ev fr y = some (.int k (n : Int))) (hn : n ≤ 64) : QStep P Γ fr ⟨some d, .binOp .shr t x y t2, ty, pos, aft, gd⟩ (.int .u64 ((a / 2 ^ n : Nat) : Int)) :=
  qs_of (fun c w hf => by
    have e0 : ¬ ((n : Int) < 0) := by omega
    have e1 : min (n : Int).toNat IntKind.u64.bits = n := by
      show min (n : Int).toNat 64 = n
      rw [Int.toNat_natCast]; omega
    have e2 : (a : Int).fdiv (2 ^ n) = ((a / 2 ^ n : Nat) : Int) := by
      rw [Int.fdiv_eq_ediv_of_nonneg _ (by exact_mod_cast Nat.zero_le _)]
      norm_cast
    simp only [execOp, hf.ev hx, hf.ev hy, eqGuard_at_int, binOp_shr, Op.shift, e0, if_false, e1, e2]
    simp)
theorem qs_shl64 {k : IntKind} {n : Nat} (hx : ev fr x = some (.int .u64 a)) (hy : ev fr y = some (.int k (n : Int))) (hn : n ≤ 64) : QStep P Γ fr ⟨some d, .binOp .shl t x y t2, ty, pos, aft, gd⟩ (.int .u64 ((a * 2 ^ n % 18446744073709551616 : Nat) : Int)) :=
  qs_of (fun c w hf => by
    have e0 : ¬ ((n : Int) < 0) := by omega
    have e1 : min (n : Int).toNat IntKind.u64.bits = n := by
      show min (n : Int).toNat 64 = n
      rw [Int.toNat_natCast]; omega
    have e2 : IntKind.u64.wrap ((a : Int) * 2 ^ n) = ((a * 2 ^ n % 18446744073709551616 : Nat) : Int) := by
      have e3 : (a : Int) * 2 ^ n = ((a * 2 ^ n : Nat) : Int) := by simp
      rw [e3]
      generalize a * 2 ^ n = m
      show (m : Int) % 18446744073709551616 = _
      omega
    simp only [execOp, hf.ev hx, hf.ev hy, eqGuard_at_int, binOp_shl, Op.shift, e0, if_false, e1, e2]
    simp)
end
theorem qs_indexAgg {e : TypeId} {n : Nat} {xs : List Value} {k : IntKind} {i : Nat} (S : TDesc P t (.array n e)) (O : TOne P e) (hx : ev fr x = some (.agg xs.toArray)) (hy : ev fr y = some (.int k (i : Int))) (hi : i < n) (hv : xs[i]? = some v) :
    QStep P Γ fr ⟨some d, .index t x y, ty, pos, aft, gd⟩ v := qs_of (fun c w hf => by
  have h01 : (0 : Int) ≤ i ∧ (i : Int) < n := ⟨by omega, by omega⟩
  have hp := run_part1 (T := O) hv w
  simp only [execOp, hf.ev hx, hf.ev hy, Instr.index, asIntOf, Sem.run_bind, Sem.run_pure, Result.andThen_ok, run_underlying S.desc, h01, and_self, if_true, run_sizeOf' O.size, Int.toNat_natCast, Nat.mul_one, hp])
theorem qs_buildArr {e : TypeId} {n len : Nat} {zs out : List Value} {ps : List (Nat × Operand)} (S : TDesc P t (.array len e)) (Z : TSize P e n) (Y : TZero P t (.agg zs.toArray)) (b : Parts fr n 0 ps out) (hl : zs.length = out.length) :
    QStep P Γ fr ⟨some d, .build t ps.toArray, ty, pos, aft, gd⟩ (.agg out.toArray) := qs_of (fun a w hf => by
  obtain ⟨_, hfl⟩ := b.fill hf zs (by omega)
  have e1 : zs.take (0 * n) ++ out ++ zs.drop (0 * n + out.length) = out := by
    rw [Nat.zero_mul, List.take_zero, Nat.zero_add, ← hl, List.drop_length]; simp
  rw [e1] at hfl
  have hz := run_zeroValue' (P := P) Y.zero w
  have hs := run_sizeOf' (P := P) (t := e) Z.size w
  have e2 : (ps.toArray.map fun (x : Nat × Operand) => (x.1, a.eval x.2)) = (ps.map fun p => (p.1, a.eval p.2)).toArray := by simp
  simp only [execOp, e2, Instr.build, Sem.run_bind, hz, Result.andThen_ok, run_underlying S.desc, hs, Value.cells, hfl, Sem.run_pure])
theorem qs_min {a b : Int} {ats : Array TypeId} (hx : ev fr x = some (.int .i64 a)) (hy : ev fr y = some (.int .i64 b)) : QStep P Γ fr ⟨some d, .call ⟨.builtin .min, [x, y].toArray, ats⟩, ty, pos, aft, gd⟩ (.int .i64 (if b < a then b else a)) :=
  qs_of (fun c w hf => by simp [execOp, resolve, hf.ev hx, hf.ev hy, invoke, builtin, Builtin.min_, Builtin.min2])
def BtAt (C : Chunk) (p : Option Addr) (l : List UInt8) : Prop := ∀ j, j < l.length → ∃ b o, p = some ⟨b, o, none⟩ ∧ Reads C ⟨b, o + j, none⟩ (.int .u8 ((l.getD j 0).toNat : Int))
theorem BtAt.drop {C : Chunk} {p : Option Addr} {l : List UInt8} (h : BtAt C p l) {cap n : Nat} (hc : l.length ≤ cap) : BtAt C (if cap = n then p else p.map (·.add (n * 1))) (l.drop n) := fun j hj => by
  rw [List.length_drop] at hj
  obtain ⟨b, o, rfl, r⟩ := h (n + j) (by omega)
  refine ⟨b, o + n, ?_, ?_⟩
  · rw [if_neg (by omega)]
    simp [Addr.add_lit]
  · rw [Nat.add_assoc]
    have : (l.drop n).getD j 0 = l.getD (n + j) 0 := by simp [List.getD_eq_getElem?_getD, List.getElem?_drop]
    rw [this]; exact r
theorem btAt_own {q : Option Addr} {len c : Nat} {l : List UInt8} {e : TypeId} (h : 0 < len → ∃ b, q = some ⟨b, 0, none⟩) (hl : l.length = len) : BtAt (.own q len c 1 (cells8 l) e) q l := fun j hj => by
  obtain ⟨b, rfl⟩ := h (by omega)
  refine ⟨b, 0, rfl, ?_⟩
  rw [Nat.zero_add]
  exact reads_own (cells8_get l j hj)
end Go.Sl

namespace Go.Sl
variable {P : Program} {Γ : Ctx} {L R : List Chunk} {N : Nat} {fr : Fr} {Q : Exit → Act → World → Prop} {ops : Array Oper} {rest : List Oper}
variable {d : Nat} {ty : TypeId} {pos : String} {aft : Array Edge} {gd : Option (Nat × Bool)} {x y z : Operand} {v u : Value} {t t2 tx : TypeId}
theorem run_callV {f : FuncId} {xs : List Operand} {vs caps : List Value} {tys : Array TypeId} {a : Act} {w : World} [C : Callable P f] (hy : ev fr y = some (.func (.func f) #[] caps.toArray)) (he : Evs fr xs vs) (hf : fr.ok a) (o : Oper) (ho : o.op = .call ⟨.value y, xs.toArray, tys⟩) :
    (execOp a.eval o).run P w = .ok (.enter f (vs ++ caps).toArray) w := by
  have := C.call (vs ++ caps).toArray w
  have e : (vs.toArray ++ caps.toArray) = (vs ++ caps).toArray := by simp
  simp [execOp, ho, resolve, Deferred.ofValue, invoke, hf.ev hy, he.map hf, e, this]
theorem cs_callV {X : Type} {f : FuncId} {xs : List Operand} {vs caps args : List Value} {tys : Array TypeId} {A : List Chunk} {ret : X → Value} {B : X → List Chunk} {φ : X → Prop} {dst : Option Tmp} [C : Callable P f]
    (fn : Does P f args A ret B φ) (hy : ev fr y = some (.func (.func f) #[] caps.toArray)) (he : Evs fr xs vs) (ha : vs ++ caps = args) (tk : Take L A R) : CStep P Γ fr L ⟨dst, .call ⟨.value y, xs.toArray, tys⟩, ty, pos, aft, gd⟩ ret (fun x => B x ++ R) φ := by
  intro a hf w hh
  subst ha
  unfold opRes
  rw [run_callV hy he hf _ rfl]
  obtain ⟨m, dm, hr, hA⟩ := (hh.take tk).split
  refine (fn _ w hA).mono ?_
  rintro e w' ⟨x, hx, rfl, hB⟩
  exact ⟨_, rfl, x, hx, rfl, hB.join dm hr⟩
theorem qs_makeFunc {f : FuncId} {xs : List Operand} {vs : List Value} (he : Evs fr xs vs) : QStep P Γ fr ⟨some d, .makeFunc (.func f) (List.toArray []) xs.toArray, ty, pos, aft, gd⟩ (.func (.func f) #[] vs.toArray) :=
  qs_of (fun c w hf => by simp [execOp, Instr.makeFunc, he.map hf])
theorem qs_cap {e : TypeId} {p : Option Addr} {n c : Nat} (S : TDesc P t (.slice e)) (hx : ev fr x = some (.slice p n c)) : QStep P Γ fr ⟨some d, .call ⟨.builtin .cap, [x].toArray, [t].toArray⟩, ty, pos, aft, gd⟩ (.int .i64 c) :=
  qs_of (fun a w hf => by simp [execOp, resolve, hf.ev hx, invoke, builtin, Builtin.cap_, run_underlying S.desc, goInt])
theorem own_less {p : Option Addr} {len cap n m : Nat} {xs : List Value} {e : TypeId} {h : HP} (hm : m ≤ len) (ho : ownS p len cap n xs e h) : ownS p m cap n (xs.take (m * n)) e h := by
  obtain ⟨⟨hl, h1⟩, hc⟩ := ho
  have hle : m * n ≤ len * n := Nat.mul_le_mul_right n hm
  refine ⟨⟨by rw [List.length_take, hl]; omega, ?_⟩, ?_⟩
  · rw [List.all_eq_true] at h1 ⊢
    exact fun z hz => h1 z (List.mem_of_mem_take hz)
  · rcases hc with ⟨e1, e2⟩ | ⟨b, junk, e1, e2, e3, e4⟩
    · exact .inl ⟨by omega, e2⟩
    · refine .inr ⟨b, xs.drop (m * n) ++ junk, e1, ?_, by omega, ?_⟩
      · rw [List.length_append, List.length_drop, hl, e2, ← Nat.sub_mul, ← Nat.add_mul]
        congr 1
        omega
      · rw [← List.append_assoc, List.take_append_drop]
        exact e4
theorem g_less {φ : Act → World → Prop} (m : Nat) {p : Option Addr} {len cap n : Nat} {xs : List Value} {e : TypeId} (s : Sel L (.own p len cap n xs e) R) (hm : m ≤ len)
    (g : G Γ N fr (.own p m cap n (xs.take (m * n)) e :: R) φ) : G Γ N fr L φ := fun a w hN hd hf hh =>
  g a w hN hd hf ((hh.sel s).mono fun _ ⟨h1, h2, dj, s1, s2, hc, hr⟩ => ⟨h1, h2, dj, s1, s2, own_less hm hc, hr⟩)
theorem cs_appendN {e n k m : Nat} {z : Value} {kn : IntKind} (D : TDesc P t (.slice e)) (E : TDesc P tx (.int kn)) (S : TSize P e n) (Z : TZero P e z) (B : TBytes P e k) (hx : ev fr x = some (.slice none 0 0)) (hy : ev fr y = some (.int .i64 (m : Int)))
    (hzn : z.cells.size = n) (hn : 0 < n) (hz1 : z.cells.toList.all (·.oneCell') = true) (h0 : 0 < m) (h63 : m ≤ 9223372036854775807) (h48 : m * k ≤ 281474976710656) :
    CStep P Γ fr L ⟨some d, .call ⟨.builtin .append, [x, y].toArray, [t, tx].toArray⟩, ty, pos, aft, gd⟩ (X := Option Addr × Nat) (fun q => .slice q.1 m q.2) (fun q => .own q.1 m q.2 n (Builtin.zeroCells z.cells m).toList e :: L) (fun _ => True) :=
  cs_of (fun a w hf hh => by
    cases hi : P.info? e with
    | none => have := S.size; simp [hi] at this
    | some i =>
      have hsz : i.size = n := by have := S.size; simpa [hi] using this
      have hz : i.zero = some z := by have := Z.zero; simpa [hi] using this
      have hk : i.bytes = k := by have := B.bytes; simpa [hi] using this
      subst hsz hk
      have hop : ∀ {w' : World} {q : Value}, (Builtin.append_ #[t, tx] ty #[.slice none 0 0, .int .i64 m]).run P w = .ok q w' → (execOp a.eval ⟨some d, .call ⟨.builtin .append, [x, y].toArray, [t, tx].toArray⟩, ty, pos, aft, gd⟩).run P w = .ok (.value q) w' := by
        intro w' q hq
        simp [execOp, resolve, hf.ev hx, hf.ev hy, invoke, builtin_append', hq]
      have hg := Lib.run_append_nil_zeros (P := P) w t tx ty e i z .i64 kn D.desc E.desc hi hz m h0 hn (by omega) h48
      have hge : m ≤ grownCap w m 0 e := by have := grownCap_ge w m 0 e; omega
      refine ⟨(some ⟨w.heap.size, 0, none⟩, grownCap w m 0 e), _, trivial, hop hg, ?_⟩
      have hnew := (show Holds Γ L w.drew from Holds.drew hh _).newRow (e := e) (xs := Builtin.zeroCells z.cells m ++ Builtin.zeroCells z.cells (grownCap w m 0 e - m))
      refine hnew.mono fun h ⟨k1, k2, dj', t1, t2, hc', hr'⟩ => ⟨k1, k2, dj', t1, t2, ⟨⟨?_, ?_⟩, .inr ⟨_, (Builtin.zeroCells z.cells (grownCap w m 0 e - m)).toList, rfl, ?_, hge, ?_⟩⟩, hr'⟩
      · rw [zeroCells_len, hzn]
      · rw [List.all_eq_true] at hz1 ⊢
        intro q hq
        simp only [Builtin.zeroCells, Array.mem_toList_iff, Array.mem_map, Array.mem_range] at hq
        obtain ⟨j, hj, rfl⟩ := hq
        have hpos : 0 < z.cells.size := by omega
        have hlt : j % z.cells.size < z.cells.size := Nat.mod_lt _ hpos
        refine hz1 _ ?_
        simp [hlt]
      · rw [zeroCells_len, hzn]
      · have hc'' : k1 w.drew.heap.size = some (.cells (Builtin.zeroCells z.cells m ++ Builtin.zeroCells z.cells (grownCap w m 0 e - m)) e (0, 0)) := hc'
        rw [show w.drew.heap.size = w.heap.size from rfl] at hc''
        rw [hc'']
        congr 2
        apply Array.ext'
        simp)
theorem Holds.newF {o : Obj} {w w' : World} (hh : Holds Γ L w) (hos : w'.os = w.os) (htape : w'.tape = w.tape) (hout : w'.output = w.output) (hsz : w'.heap.size = w.heap.size + 1)
    (hold : ∀ j : Nat, j < w.heap.size → w'.heap[j]? = w.heap[j]?) (hnew : w'.heap[w.heap.size]? = some o) : Holds Γ (.pt w.heap.size o :: L) w' := by
  obtain ⟨h, d, s, a⟩ := (hh.later hos htape hout (by omega) hold).own
  have h0 := hh.later hos htape hout (by omega) hold
  have hlt : ∀ {k : HP}, HP.sub k (wheap w) → k w.heap.size = none := fun {k} hk => by
    cases hx : k w.heap.size with
    | none => rfl
    | some x => have := hk _ _ hx; simp [wheap] at this
  obtain ⟨h, d, s, a⟩ := hh.own
  have hup : ∀ {k : HP}, HP.sub k (wheap w) → HP.sub k (wheap w') := fun {k} hk c x hx => by
    have h1 : w.heap[c]? = some x := hk c x hx
    show w'.heap[c]? = some x
    rw [hold c (Array.getElem?_eq_some_iff.1 h1).1]; exact h1
  refine ⟨h0.os, h0.tape, h0.output, h0.frz, h0.frame, HP.union (HP.one w.heap.size o) h, ?_, HP.union_sub ?_ (hup s), HP.one w.heap.size o, h, ?_, HP.sub_union_left _ _, HP.sub_union_right ?_, ?_, a⟩
  · intro c
    by_cases e : c = w.heap.size
    · left; rw [e]; exact hlt hh.frame
    · rcases d c with p | p
      · exact .inl p
      · right; simp [HP.union, HP.one, e, p]
  · intro c x hx
    by_cases e : c = w.heap.size
    · subst e; simp [HP.one] at hx; subst hx; exact hnew
    · simp [HP.one, e] at hx
  · intro c
    by_cases e : c = w.heap.size
    · right; rw [e]; exact hlt s
    · left; simp [HP.one, e]
  · intro c
    by_cases e : c = w.heap.size
    · right; rw [e]; exact hlt s
    · left; simp [HP.one, e]
  · simp [Chunk.sat, HP.one]
def strRow (s : ByteArray) (cap : Nat) : List Value := cells8 s.data.toList ++ List.replicate (cap - s.size) (.int .u8 0)
theorem cs_strBytes {e : TypeId} {D0 : TypeDesc} {s : ByteArray} (D : TDesc P t D0) (D2 : TDesc P t2 (.slice e)) (E : TDesc P e (.int .u8)) (hx : ev fr x = some (.string s)) :
    CStep P Γ fr L ⟨some d, .convert t t2 x, ty, pos, aft, gd⟩ (X := Nat × Nat) (fun q => .slice (some ⟨q.1, 0, none⟩) s.size q.2) (fun q => .row q.1 (strRow s q.2) e ((strRow s q.2).length, (strRow s q.2).length + 1) :: L) (fun q => s.size ≤ q.2) :=
  cs_of (fun a w hf hh => by
    have hr := Lib.run_convert_string_bytes (P := P) w t t2 e s D.desc D2.desc E.desc
    have hge : s.size ≤ grownCap w s.size 0 e := by have := grownCap_ge w s.size 0 e; omega
    have hrow : (Lib.bytesCells w e s) = (strRow s (grownCap w s.size 0 e)).toArray := by
      apply Array.ext'
      simp [Lib.bytesCells, strRow, cells8]
    refine ⟨(w.heap.size, grownCap w s.size 0 e), Lib.bytesWorld w e s, hge, by simp [execOp, hf.ev hx, hr], ?_⟩
    refine hh.newF rfl rfl rfl (Lib.bytesWorld_size w e s) (fun j hj => Lib.bytesWorld_at_old w e s j hj) ?_
    rw [Lib.bytesWorld_at_new, hrow]
    simp)
theorem cs_buildSliceF {e : TypeId} {n len : Nat} {z : Value} {ps : List (Nat × Operand)} {out : List Value} (S : TDesc P t (.slice e)) (Z : TSize P e n) (Y : TZero P e z) (hl : Nat.beq ps.length len = true) (hp : Nat.blt 0 (len * n) = true) (hsm : Nat.ble (len * n) 16777216 = true) (b : Parts fr n 0 ps out) :
    CStep P Γ fr L ⟨some d, .buildSlice t len ps.toArray, ty, pos, aft, gd⟩ (X := Nat) (fun b => .slice (some ⟨b, 0, none⟩) len len) (fun b => .row b out e :: L) (fun b => Γ.sz ≤ b) :=
  cs_of (fun a w hf hh => by
      have hlen : ps.length = len := Nat.eq_of_beq_eq_true hl
      cases hie : P.info? e with
      | none => have := Z.size; simp [hie] at this
      | some ie =>
        have hs : ie.size = n := by have := Z.size; simpa [hie] using this
        have hz : ie.zero = some z := by have := Y.zero; simpa [hie] using this
        have hsm' : ¬ len * ie.size > 2 ^ 24 := by rw [hs]; have := Nat.le_of_ble_eq_true hsm; omega
        have hp' : ¬ len * ie.size = 0 := by rw [hs]; have := Nat.le_of_ble_eq_true hp; omega
        have hfl := b.fill hf ((List.range (len * n)).map (z.cells[· % z.cells.size]!)) (by
          obtain ⟨h1, _⟩ := b.fill hf (List.replicate out.length undef) (by simp)
          rw [h1, hlen]; simp)
        have hol : out.length = len * n := by rw [hfl.1, hlen]
        have hfill : Instr.fill (fun i => some (i * ie.size, ie.size)) ((Array.range (len * ie.size)).map (z.cells[· % z.cells.size]!)) (ps.map fun p => (p.1, a.eval p.2)) = some out.toArray := by
          rw [hs, show (Array.range (len * n)).map (z.cells[· % z.cells.size]!) = ((List.range (len * n)).map (z.cells[· % z.cells.size]!)).toArray by simp [← List.toArray_range]]
          rw [hfl.2, hol]
          simp
        have hrun := run_buildSlice (P := P) w t e len (ps.map fun p => (p.1, a.eval p.2)).toArray out.toArray ie z S.desc hie hz hsm' hp' (by simpa using hfill)
        refine ⟨w.heap.size, _, hh.frz.1, ?_, hh.newRow (e := e) (xs := out.toArray)⟩
        simp only [execOp]
        rw [show (ps.toArray.map fun (x : Nat × Operand) => (x.1, a.eval x.2)) = (ps.map fun p => (p.1, a.eval p.2)).toArray by simp]
        rw [Sem.run_bind, hrun]
        rfl)
theorem Holds.mark {b : Nat} {xs : List Value} {e : TypeId} {fz : Nat × Nat} {w w' : World} (hh : Holds Γ L w) (hb : Γ.sz ≤ b) (s : Sel L (.row b xs e) R) (hos : w'.os = w.os) (htape : w'.tape = w.tape) (hout : w'.output = w.output) (hsz : w'.heap.size = w.heap.size)
    (hnew : w'.heap[b]? = some (.cells xs.toArray e fz)) (hold : ∀ c, c ≠ b → w'.heap[c]? = w.heap[c]?) : Holds Γ (.row b xs e fz :: R) w' := by
  have hs := hh.sel s
  have hbw := hh.block s
  obtain ⟨h, d, s', a⟩ := hs.own
  obtain ⟨h1, h2, d', s1, s2, hc, hr⟩ := a
  have hbf : Γ.hf b = none := (d b).resolve_right (by rw [s1 _ _ hc]; simp)
  have hb2 : h2 b = none := (d' b).resolve_left (by rw [hc]; simp)
  have hrest : ∀ c o, c ≠ b → w.heap[c]? = some o → w'.heap[c]? = some o := fun c o hc hx => by rw [hold c hc]; exact hx
  refine ⟨hos.trans hh.os, htape.trans hh.tape, hout.trans hh.output, ⟨by rw [hsz]; exact hh.frz.1, fun c hc' => ?_⟩, ?_, HP.union (HP.one b (.cells xs.toArray e fz)) h2, ?_, ?_, HP.one b (.cells xs.toArray e fz), h2, ?_, HP.sub_union_left _ _, HP.sub_union_right ?_, ?_, hr⟩
  · rw [← hh.frz.2 c hc', hold c (by omega)]
  · intro c x hx
    exact hrest c x (fun e => by rw [e, hbf] at hx; cases hx) (hh.frame c x hx)
  · intro c
    by_cases e : c = b
    · left; rw [e]; exact hbf
    · rcases d c with p | p
      · exact .inl p
      · right
        have : h2 c = none := by cases hx : h2 c with
          | none => rfl
          | some y => rw [s2 _ _ hx] at p; cases p
        simp [HP.union, HP.one, e, this]
  · refine HP.union_sub ?_ ?_
    · intro c x hx
      by_cases e : c = b
      · subst e; simp [HP.one] at hx; subst hx; exact hnew
      · simp [HP.one, e] at hx
    · intro c x hx
      exact hrest c x (fun e => by rw [e, hb2] at hx; cases hx) (s' _ _ (s2 _ _ hx))
  · intro c
    by_cases e : c = b
    · right; rw [e]; exact hb2
    · left; simp [HP.one, e]
  · intro c
    by_cases e : c = b
    · right; rw [e]; exact hb2
    · left; simp [HP.one, e]
  · simp [Chunk.sat, HP.one]
theorem cs_mark {b n c : Nat} {xs : List Value} {e e' : TypeId} (D : TDesc P t (.slice e)) (E : TDesc P e (.int .u8)) (hx : ev fr x = some (.slice (some ⟨b, 0, none⟩) n c)) (hb : Γ.sz ≤ b) (s : Sel L (.row b xs e') R) :
    CStep P Γ fr L ⟨some d, .convert t t x, ty, pos, aft, gd⟩ (X := Unit) (fun _ => .slice (some ⟨b, 0, none⟩) n c) (fun _ => .row b xs e' (xs.length, xs.length + 1) :: R) (fun _ => True) :=
  cs_of (fun a w hf hh => by
    have hbw := hh.block s
    have hlt : b < w.heap.size := (Array.getElem?_eq_some_iff.1 hbw).1
    have hsh : w.shape? b = some (e', xs.length) := by simp [World.shape?, hbw]
    refine ⟨(), w.freeze ⟨b, xs.length, none⟩ 1, trivial, ?_, ?_⟩
    · simp [execOp, hf.ev hx, convert, run_underlying D.desc, run_underlying E.desc, markStringish, hsh]
    · refine hh.mark hb s rfl rfl rfl ?_ ?_ (fun c hc => ?_)
      · simp [World.freeze]
      · simp [World.freeze, Array.getElem?_modify, hbw]
      · simp [World.freeze, Array.getElem?_modify, Ne.symm hc])
theorem srcF {Cs : List Chunk} {mm : HP} {C : Chunk} {n m c : Nat} {p : Option Addr} {e : TypeId} {news : List Value} (hd : HP.disj Γ.hf mm) (hk : All Cs mm) (h : SlAt C n p m news) (D : TDesc P tx (.slice e)) (s : Sel (L ++ Cs) C R) (hn : 0 < n) : SrcIs P (Γ.add mm) L n tx (.slice p m c) m news :=
  fun w hh => srcAt h D s hn w (Holds.join hd hk hh)
theorem srcOwnF {Cs : List Chunk} {mm : HP} {p : Option Addr} {m c n : Nat} {news : List Value} {e e' : TypeId} (hd : HP.disj Γ.hf mm) (hk : All Cs mm) (D : TDesc P tx (.slice e)) (s : Sel (L ++ Cs) (.own p m c n news e') R) : SrcIs P (Γ.add mm) L n tx (.slice p m c) m news :=
  fun w hh => srcOwn D s w (Holds.join hd hk hh)
theorem s_bl {e n len d' : Nat} {z : Value} {ps : List (Nat × Operand)} {out : List Value} {ty' : TypeId} {pos' : String} {aft' : Array Edge} {gd' : Option (Nat × Bool)}
    (K : ∀ b, G Γ N ((d', .slice (some ⟨b, 0, none⟩) len len) :: (d, .slice (some ⟨b, 0, none⟩) len len) :: fr) (.row b out e (out.length, out.length + 1) :: L) (wpList P ops Q rest))
    (S : TDesc P t (.slice e) := by exact inferInstance) (Z : TSize P e n := by exact inferInstance) (Y : TZero P e z := by exact inferInstance) (E : TDesc P e (.int .u8) := by exact inferInstance) (hl : Nat.beq ps.length len = true := by exact rfl) (hp : Nat.blt 0 (len * n) = true := by exact rfl) (hsm : Nat.ble (len * n) 16777216 = true := by exact rfl) (b : Parts fr n 0 ps out := by exact (by (repeat (first | exact Parts.nil | apply Parts.cons rfl (by first | exact CellsOf.agg | exact CellsOf.one rfl) rfl | exact App.nil | apply App.cons)); first | done | fail))
    (hg : Runs ops fr gd := by exact rfl) (hN : Nat.blt d N = true := by exact rfl) (hg' : ∀ b, Runs ops ((d, .slice (some ⟨b, 0, none⟩) len len) :: fr) gd' := by intro _; exact rfl) (hN' : Nat.blt d' N = true := by exact rfl) (he : ∀ b : Nat, ev ((d, .slice (some ⟨b, 0, none⟩) len len) :: fr) (.tmp d) = some (.slice (some ⟨b, 0, none⟩) len len) := by intro _; exact rfl) :
    G Γ N fr L (wpList P ops Q (⟨some d, .buildSlice t len ps.toArray, ty, pos, aft, gd⟩ :: ⟨some d', .convert t t (.tmp d), ty', pos', aft', gd'⟩ :: rest)) :=
  g_c (cs_buildSliceF S Z Y hl hp hsm b) hg hN fun bb hb => g_c (cs_mark S E (he bb) hb .here) (hg' bb) hN' fun _ _ => K bb
theorem s_at (d : Nat) {op : Op} (K : G Γ N fr L (wpList P ops Q (⟨some d, op, ty, pos, aft, gd⟩ :: rest))) : G Γ N fr L (wpList P ops Q (⟨some d, op, ty, pos, aft, gd⟩ :: rest)) := K
end Go.Sl
