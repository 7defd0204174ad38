/- Part 16: texts and their runes and bytes; numbers of other kinds; a store behind which what stood still is free. -/
import Derived.Test.YtpilcncdgjnbeaaDoorSlp
import Derived.Lib.OthersKept
import Derived.Laws.IdiomStrings
import Derived.Sort.Grow
set_option linter.unusedSimpArgs false
set_option linter.unusedVariables false
namespace Go.Sl
variable {P : Program} {Γ : Ctx} {L R : List Chunk} {N : Nat} {fr : Fr} {Q : Exit → Act → World → Prop} {ops : Array Oper} {rest : List Oper}
variable {d : Nat} {ty : TypeId} {pos : String} {aft : Array Edge} {gd : Option (Nat × Bool)} {x y z : Operand} {v u : Value} {t t2 tx : TypeId}
/-! ### A slot's value in other words -/
theorem Fr.ok.as {fr : Fr} {a : Act} (h : fr.ok a) {d : Nat} {v : Value} (hd : look fr d = some v) : Fr.ok ((d, v) :: fr) a := by
  intro t' u e
  simp only [look] at e
  cases hq : Nat.beq d t' with
  | true => rw [hq] at e; simp at e; subst e; rw [← Nat.eq_of_beq_eq_true hq]; exact h d _ hd
  | false => rw [hq] at e; exact h t' u (by simpa using e)
theorem g_as {φ : Act → World → Prop} (d : Nat) {v v' : Value} (h : look fr d = some v) (e : v = v') (g : G Γ N ((d, v') :: fr) L φ) : G Γ N fr L φ := fun a w hN hd hf hh => g a w hN hd (hf.as (by rw [← e]; exact h)) hh
theorem gp_as {p : Plan} (d : Nat) {v v' : Value} (h : look fr d = some v) (e : v = v') (g : GP P ops Q Γ N ((d, v') :: fr) L p) : GP P ops Q Γ N fr L p := fun a hN hd hf => g a hN hd (hf.as (by rw [← e]; exact h))
/-! ### Texts -/
theorem qs_addS {a b : ByteArray} (hx : ev fr x = some (.string a)) (hy : ev fr y = some (.string b)) (h : a.size + b.size ≤ 9223372036854775807) : QStep P Γ fr ⟨some d, .binOp .add t x y t2, ty, pos, aft, gd⟩ (.string (a ++ b)) :=
  qs_of (fun c w hf => by
    have hm : ¬ ((a.size + b.size : Nat) : Int) > IntKind.i64.max := by
      have : IntKind.i64.max = 9223372036854775807 := by decide
      rw [this]; omega
    simp only [execOp, hf.ev hx, hf.ev hy, eqGuard_at_string, binOp_string_add, Op.stringOp]
    rw [if_neg hm]
    simp)
def at8 (s : ByteArray) (i : Nat) : UInt8 := s.data.toList.getD i 0
theorem qs_indexStr {s : ByteArray} {k : IntKind} {i : Nat} (D : TDesc P t .string) (hx : ev fr x = some (.string s)) (hy : ev fr y = some (.int k (i : Int))) (h : i < s.size) : QStep P Γ fr ⟨some d, .index t x y, ty, pos, aft, gd⟩ (.int .u8 (at8 s i).toNat) :=
  qs_of (fun c c' hf => by
    have h01 : (0 : Int) ≤ i ∧ (i : Int) < s.size := ⟨by omega, by omega⟩
    have e : s[i]'h = at8 s i := by
      have h' : i < s.data.toList.length := by simpa using h
      unfold at8
      rw [List.getD_eq_getElem?_getD, List.getElem?_eq_getElem h']
      rfl
    have hr : (Instr.index t (.string s) (.int k (i : Int))).run P c' = .ok (.int .u8 ((at8 s i).toNat : Int)) c' := by
      rw [run_index_string c' t s k (i : Int) D.desc, dif_pos h01]
      simp only [Int.toNat_natCast, e]
    simp only [execOp, hf.ev hx, hf.ev hy, Sem.run_bind, hr]
    rfl)
theorem cs_range {s : ByteArray} (D : TDesc P t .string) (hx : ev fr x = some (.string s)) : CStep P Γ fr L ⟨some d, .range t x, ty, pos, aft, gd⟩ (X := Nat) (fun b => .pointer (some ⟨b, 0, none⟩)) (fun b => .pt b (.stringIter s 0) :: L) (fun _ => True) :=
  cs_of (fun a w hf hh => ⟨w.heap.size, w.alloc (.stringIter s 0), trivial, by simp [execOp, hf.ev hx, run_range_string w t s D.desc, World.iter], hh.new rfl rfl rfl rfl rfl⟩)
theorem cs_next {s : ByteArray} {b k : Nat} (hx : ev fr x = some (.pointer (some ⟨b, 0, none⟩))) (s1 : Sel L (.pt b (.stringIter s k)) R) (h : k < s.size) :
    CStep P Γ fr L ⟨some d, .next x true, ty, pos, aft, gd⟩ (X := Unit) (fun _ => .tuple [.bool true, .int .i64 k, .int .i32 ((Utf8.decode s k).1 : Nat)].toArray) (fun _ => .pt b (.stringIter s (k + (Utf8.decode s k).2)) :: R) (fun _ => True) :=
  cs_of (fun a w hf hh => by
    have hb := hh.block s1
    refine ⟨(), w.iterAt b s (k + (Utf8.decode s k).2), trivial, by simp [execOp, hf.ev hx, Lib.run_next_any_at w b s k ty hb h], hh.update s1 rfl rfl rfl (Lib.iterAt_heap w b s k _ hb) rfl (fun c hc => Lib.iterAt_other w b c s _ hc)⟩)
theorem vs_nextEnd {s : ByteArray} {b k : Nat} (hx : ev fr x = some (.pointer (some ⟨b, 0, none⟩))) (s1 : Sel L (.pt b (.stringIter s k)) R) (h : ¬ k < s.size) :
    VStep P Γ fr L ⟨some d, .next x true, ty, pos, aft, gd⟩ (.tuple [.bool false].toArray) :=
  vs_of (fun a w hf hh => by simp [execOp, hf.ev hx, Lib.run_next_end_at w b s k ty (hh.block s1) h])
theorem decode_at {s : ByteArray} {k : Nat} (h : k < s.size) (ha : (at8 s k).toNat < 128) : Utf8.decode s k = ((at8 s k).toNat, 1) := by
  have e : s[k]'h = at8 s k := by
    have h' : k < s.data.toList.length := by simpa using h
    unfold at8
    rw [List.getD_eq_getElem?_getD, List.getElem?_eq_getElem h']
    rfl
  rw [decode_ascii s k h (by rw [e]; exact ha), e]
theorem decode_big {s : ByteArray} {k : Nat} (h : k < s.size) (ha : ¬ (at8 s k).toNat < 128) : 128 ≤ (Utf8.decode s k).1 := by
  have e : s.get! (k + 0) = at8 s k := by
    have h' : k < s.data.toList.length := by simpa using h
    unfold at8
    rw [List.getD_eq_getElem?_getD, List.getElem?_eq_getElem h']
    show s.get! k = _
    simp [ByteArray.get!, getElem!_pos, h]
  unfold Utf8.decode
  simp only [e]
  rw [if_neg ha]
  repeat' split
  all_goals first
    | exact (by decide : 128 ≤ (Utf8.runeError, 1).1)
    | (rename_i hx; simp only [ge_iff_le, Bool.and_eq_true, decide_eq_true_eq] at hx; first | exact hx | exact Nat.le_trans (by decide) hx.1)
def cells8 (l : List UInt8) : List Value := l.map fun b => .int .u8 (b.toNat : Int)
theorem cells8_len (l : List UInt8) : (cells8 l).length = l.length := by simp [cells8]
theorem cells8_snoc (l : List UInt8) (b : UInt8) : cells8 l ++ [.int .u8 (b.toNat : Int)] = cells8 (l ++ [b]) := by simp [cells8]
theorem cells8_append (l r : List UInt8) : cells8 l ++ cells8 r = cells8 (l ++ r) := by simp [cells8]
theorem cells8_get (l : List UInt8) (i : Nat) (h : i < l.length) : (cells8 l)[i]? = some (.int .u8 ((l.getD i 0).toNat : Int)) := by
  simp [cells8, h]
theorem vs_bytesStr {p : Option Addr} {len cap : Nat} {l : List UInt8} {e e' : TypeId} (D : TDesc P t (.slice e)) (E : TDesc P e (.int .u8)) (D2 : TDesc P t2 .string) (hx : ev fr x = some (.slice p len cap)) (s : Sel L (.own p len cap 1 (cells8 l) e') R) :
    VStep P Γ fr L ⟨some d, .convert t t2 x, ty, pos, aft, gd⟩ (.string ⟨l.toArray⟩) :=
  vs_of (fun a w hf hh => by
    obtain ⟨hl, _, hp⟩ := own_place hh s
    rw [cells8_len, Nat.mul_one] at hl
    by_cases h0 : len = 0
    · obtain rfl : l = [] := List.eq_nil_of_length_eq_zero (by omega)
      subst h0
      have e0 : ByteArray.empty = (⟨([] : List UInt8).toArray⟩ : ByteArray) := rfl
      have : (Conv.bytesToString (.slice p 0 cap)).run P w = .ok (.string ⟨([] : List UInt8).toArray⟩) w := by
        cases p with
        | none => simp [Conv.bytesToString, e0]
        | some ad => exact run_bytesToString w ad 0 cap [] (run_loadCells_list (P := P) w ad [] (fun j v hj => by simp at hj))
      simp only [execOp, hf.ev hx, Sem.run_bind, run_convert_bytes_string w t t2 e p 0 cap D.desc E.desc D2.desc, this]
      rfl
    · obtain ⟨b, rfl⟩ := hp (by omega)
      subst hl
      have := run_convert_bytes_back (P := P) w t t2 e ⟨b, 0, none⟩ cap l D.desc E.desc D2.desc (fun j hj => by
        rw [Addr.add_lit, Nat.zero_add]
        refine hh.cell s (reads_own ?_)
        rw [cells8_get l j hj]
        simp [hj])
      simp only [execOp, hf.ev hx, Sem.run_bind, this]
      rfl)
/-! ### Numbers -/
theorem qs_neg {i : IntKind} {a : Int} (hx : ev fr x = some (.int i a)) : QStep P Γ fr ⟨some d, .unOp .neg t x, ty, pos, aft, gd⟩ (.int i (i.wrap (0 - a))) :=
  qs_of (fun c w hf => by simp [execOp, hf.ev hx, Op.unary, Op.intArith])
theorem wrap_u64 {z : Int} (h : 0 ≤ z ∧ z ≤ 18446744073709551615) : IntKind.u64.wrap z = z := IntWalk.u64_in _ ⟨by have := h.1; omega, by have := h.2; omega⟩
theorem wrap_u8 {z : Int} (h : 0 ≤ z ∧ z ≤ 255) : IntKind.u8.wrap z = z := IntWalk.u8_in _ ⟨by have := h.1; omega, by have := h.2; omega⟩
theorem wrap_i32 {z : Int} (h : -2147483648 ≤ z ∧ z ≤ 2147483647) : IntKind.i32.wrap z = z := IntWalk.i32_in _ ⟨by have := h.1; omega, by have := h.2; omega⟩
/-! ### A store behind which what stood still is free -/
theorem gp_thawS {M : List Chunk} {op : Op} {i : Nat} {p : Plan} {C : List Chunk} {m : HP} (hd : HP.disj Γ.hf m) (hk : All C m) (h : SStep P Γ fr (L ++ C) ⟨none, op, ty, pos, aft, gd⟩ M)
    (k : ∀ m', HP.disj Γ.hf m' → All [] m' → GP P ops Q (Γ.add m') N fr M p) (hi : ops[i]? = some ⟨none, op, ty, pos, aft, gd⟩) (hg : Runs ops fr gd) : GP P ops Q (Γ.add m) N fr L (.thaw i p) :=
  fun a hs hdf hf => ⟨_, hi, .inl ⟨runs_wanted (o := ⟨none, op, ty, pos, aft, gd⟩) hf hg, Value × HP, fun x => x.1, fun x => Γ.add x.2, fun _ => M, fun x => HP.disj Γ.hf x.2 ∧ All [] x.2, fun hn => absurd (by simp) hn,
    fun w hh => (h a hf w (hh.join hd hk)).mono fun u w' hh' => by
      obtain ⟨m', dm, hm, hr⟩ := (show Holds Γ (M ++ []) w' by simpa using hh').split
      exact ⟨(u, m'), ⟨dm, hm⟩, rfl, hr⟩, fun x hx => k x.2 hx.1 hx.2 _ hs hdf hf⟩⟩
theorem p_ts {M : List Chunk} {op : Op} {i : Nat} {p : Plan} {C : List Chunk} {m : HP} (hd : HP.disj Γ.hf m) (hk : All C m) (k : ∀ m', HP.disj Γ.hf m' → All [] m' → GP P ops Q (Γ.add m') N fr M p) (hi : ops[i]? = some ⟨none, op, ty, pos, aft, gd⟩ := by exact rfl) (hg : Runs ops fr gd := by exact rfl)
    (h : SStep P Γ fr (L ++ C) ⟨none, op, ty, pos, aft, gd⟩ M := by first | (apply ss_store'; exact inferInstance; exact rfl; exact rfl; exact rfl; exact (by (repeat (first | exact Sel.here | apply Sel.there)); first | done | fail); exact (by (repeat (first | exact Put.nil | apply Put.here | apply Put.skip)); first | done | fail)) | (apply ss_storeA'; exact inferInstance; exact rfl; exact rfl; exact rfl; exact rfl; exact (by (repeat (first | exact Sel.here | apply Sel.there)); first | done | fail); exact (by (repeat (first | exact Put.nil | apply Put.here | apply Put.skip)); first | done | fail)) | fail) : GP P ops Q (Γ.add m) N fr L (.thaw i p) := gp_thawS hd hk h k hi hg
/-! ### A contract of the library's -/
theorem does_of_calls {f : FuncId} {args : List Value} {v : Value} {H : HP} (h : ∀ w, (∀ b o, H b = some o → w.heap[b]? = some o) → Calls P f args.toArray w fun e w' => e = .returned v ∧ ∃ k os, w' = _root_.Go.Sort.grow (w.drewN k) os) : Does1 P f args [Pile H] v := fun Γ w hh => by
  have hH : ∀ b o, H b = some o → w.heap[b]? = some o := by
    obtain ⟨h, _, s, h1, _, _, s1, _, hc, _⟩ := hh.own
    have hc' : h1 = H := hc
    subst hc'
    exact fun b o hb => s _ _ (s1 _ _ hb)
  refine (h w hH).mono ?_
  rintro e w' ⟨rfl, k, os, rfl⟩
  refine ⟨(), trivial, rfl, ?_⟩
  refine hh.later rfl rfl rfl ?_ (fun c hc => ?_)
  · simp [Go.Sort.grow, World.drewN]
  · simp [Go.Sort.grow, World.drewN, Array.getElem?_append, hc]
end Go.Sl
