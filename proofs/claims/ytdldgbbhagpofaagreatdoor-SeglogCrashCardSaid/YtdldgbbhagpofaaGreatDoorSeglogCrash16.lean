/-
  DERIVED: THE SHELF's CONTRACTS AT THIS DUMP, IN PLAIN WORDS (tools/lay-plain.mjs out of 'TryzShelI.lean', which tools/lay-shelf.mjs wrote): THE SAME DECLARATIONS UNDER THE SAME NAMES: 'import', 'namespace', 'open', 'def', 'theorem' AND NOTHING ELSE: no command of the shelf's: FOR A HAND-IN. Each laying: the table of numbers ('.._ren') and one theorem, a field a fact of the dump's own or the kernel's comparison; each contract: ONE APPLICATION.
-/
import Derived.Shelf.Strconv.Itoa3
import Derived.Test.YtdldgbbhagpofaaGreatDoorProg
import Derived.Test.YtdldgbbhagpofaaGreatDoorSeglogCrash15
set_option linter.unusedSimpArgs false
set_option linter.unusedVariables false
namespace Go.Proofs
open Go.Shelf
def Tryz.laysNm171_ren : Go.Shelf.Ren := ⟨fun | 171 => 53 | 243 => 73 | 246 => 86 | 283 => 106 | 284 => 107 | 285 => 108 | 286 => 109 | 129 => 104 | 317 => 120 | 318 => 121 | 319 => 122 | 320 => 123 | 337 => 127 | 338 => 128 | n => n, fun | 3 => 3 | 9 => 9 | 2 => 2 | 4 => 4 | 171 => 151 | 0 => 0 | 53 => 94 | 37 => 28 | 5 => 5 | 173 => 153 | 212 => 170 | 51 => 117 | 20 => 20 | 213 => 171 | 46 => 119 | 232 => 180 | 233 => 181 | n => n, fun | 17 => 2 | 18 => 3 | 19 => 4 | n => n⟩
theorem Tryz.laysNm171 : Go.Proofs.Lays.n171 Tryz.prog Tryz.laysNm171_ren := {
  mixed := by kernel_rfl
  f129 := Tryz.func104.trans (congrArg some (by kernel_rfl))
  f171 := Tryz.func53.trans (congrArg some (by kernel_rfl))
  f243 := Tryz.func73.trans (congrArg some (by kernel_rfl))
  f246 := Tryz.func86.trans (congrArg some (by kernel_rfl))
  f283 := Tryz.func106.trans (congrArg some (by kernel_rfl))
  f284 := Tryz.func107.trans (congrArg some (by kernel_rfl))
  f285 := Tryz.func108.trans (congrArg some (by kernel_rfl))
  f286 := Tryz.func109.trans (congrArg some (by kernel_rfl))
  f317 := Tryz.func120.trans (congrArg some (by kernel_rfl))
  f318 := Tryz.func121.trans (congrArg some (by kernel_rfl))
  f319 := Tryz.func122.trans (congrArg some (by kernel_rfl))
  f320 := Tryz.func123.trans (congrArg some (by kernel_rfl))
  f337 := Tryz.func127.trans (congrArg some (by kernel_rfl))
  f338 := Tryz.func128.trans (congrArg some (by kernel_rfl))
  t0 := Tryz.underlying0
  a0 := Tryz.isAgg0
  z0 := Tryz.sizeOf0
  v0 := Tryz.zeroValue0
  t2 := Tryz.underlying2
  a2 := Tryz.isAgg2
  z2 := Tryz.sizeOf2
  v2 := Tryz.zeroValue2
  t3 := Tryz.underlying3
  a3 := Tryz.isAgg3
  z3 := Tryz.sizeOf3
  v3 := Tryz.zeroValue3
  t4 := Tryz.underlying4
  a4 := Tryz.isAgg4
  z4 := Tryz.sizeOf4
  v4 := Tryz.zeroValue4
  t5 := Tryz.underlying5
  a5 := Tryz.isAgg5
  z5 := Tryz.sizeOf5
  v5 := Tryz.zeroValue5
  t9 := Tryz.underlying9
  a9 := Tryz.isAgg9
  z9 := Tryz.sizeOf9
  v9 := Tryz.zeroValue9
  t20 := Tryz.underlying20
  a20 := Tryz.isAgg20
  z20 := Tryz.sizeOf20
  v20 := Tryz.zeroValue20
  t37 := Tryz.underlying28
  a37 := Tryz.isAgg28
  z37 := Tryz.sizeOf28
  v37 := Tryz.zeroValue28
  t46 := Tryz.underlying119
  a46 := Tryz.isAgg119
  z46 := Tryz.sizeOf119
  v46 := Tryz.zeroValue119
  t51 := Tryz.underlying117
  a51 := Tryz.isAgg117
  z51 := Tryz.sizeOf117
  v51 := Tryz.zeroValue117
  t53 := Tryz.underlying94
  a53 := Tryz.isAgg94
  z53 := Tryz.sizeOf94
  v53 := Tryz.zeroValue94
  t171 := Tryz.underlying151
  a171 := Tryz.isAgg151
  z171 := Tryz.sizeOf151
  v171 := Tryz.zeroValue151
  t173 := Tryz.underlying153
  a173 := Tryz.isAgg153
  z173 := Tryz.sizeOf153
  v173 := Tryz.zeroValue153
  t212 := Tryz.underlying170
  a212 := Tryz.isAgg170
  z212 := Tryz.sizeOf170
  v212 := Tryz.zeroValue170
  t213 := Tryz.underlying171
  a213 := Tryz.isAgg171
  z213 := Tryz.sizeOf171
  t232 := Tryz.underlying180
  a232 := Tryz.isAgg180
  z232 := Tryz.sizeOf180
  v232 := Tryz.zeroValue180
  t233 := Tryz.underlying181
  a233 := Tryz.isAgg181
  z233 := Tryz.sizeOf181
  v233 := Tryz.zeroValue181
  g17 := by kernel_rfl
  g18 := by kernel_rfl
  g19 := by kernel_rfl }
end Go.Proofs

namespace Go.Sl
variable {P : Program} {Γ : Ctx} {L R : List Chunk} {N : Nat} {fr : Fr} {Q : Exit → Act → World → Prop} {ops : Array Oper} {rest : List Oper}
variable {d : Nat} {ty : TypeId} {pos : String} {aft : Array Edge} {gd : Option (Nat × Bool)} {x y z : Operand} {v u : Value} {t t2 tx : TypeId}
theorem u32_mod (n : Int) : IntKind.u32.wrap n = n % 4294967296 := rfl
theorem u64_mod (n : Int) : IntKind.u64.wrap n = n % 18446744073709551616 := rfl
theorem u8_mod (n : Int) : IntKind.u8.wrap n = n % 256 := rfl
theorem qs_xor32 {a b : Nat} (hx : ev fr x = some (.int .u32 a)) (hy : ev fr y = some (.int .u32 b)) (ha : a < 4294967296) (hb : b < 4294967296) : QStep P Γ fr ⟨some d, .binOp .xor t x y t2, ty, pos, aft, gd⟩ (.int .u32 ((a ^^^ b : Nat) : Int)) :=
  qs_of (fun c w hf => by
    have e1 := bv_nat 32 a ha
    have e2 := bv_nat 32 b hb
    have e3 : (BitVec.ofInt IntKind.u32.bits (a : Int) ^^^ BitVec.ofInt IntKind.u32.bits (b : Int)).toNat = a ^^^ b := by
      show (BitVec.ofInt 32 (a : Int) ^^^ BitVec.ofInt 32 (b : Int)).toNat = a ^^^ b
      rw [BitVec.toNat_xor, e1, e2]
    have e4 : a ^^^ b < 4294967296 := Nat.xor_lt_two_pow (n := 32) ha hb
    have e5 : IntKind.u32.wrap ((a ^^^ b : Nat) : Int) = ((a ^^^ b : Nat) : Int) := by rw [u32_mod]; omega
    simp only [execOp, hf.ev hx, hf.ev hy, eqGuard_at_int, binOp_xor, Op.intBits, e3, e5]
    simp)
theorem qs_and32 {a b : Nat} (hx : ev fr x = some (.int .u32 a)) (hy : ev fr y = some (.int .u32 b)) (ha : a < 4294967296) (hb : b < 4294967296) : QStep P Γ fr ⟨some d, .binOp .and t x y t2, ty, pos, aft, gd⟩ (.int .u32 ((a &&& b : Nat) : Int)) :=
  qs_of (fun c w hf => by
    have e1 := bv_nat 32 a ha
    have e2 := bv_nat 32 b hb
    have e3 : (BitVec.ofInt IntKind.u32.bits (a : Int) &&& BitVec.ofInt IntKind.u32.bits (b : Int)).toNat = a &&& b := by
      show (BitVec.ofInt 32 (a : Int) &&& BitVec.ofInt 32 (b : Int)).toNat = a &&& b
      rw [BitVec.toNat_and, e1, e2]
    have e4 : a &&& b < 4294967296 := Nat.lt_of_le_of_lt Nat.and_le_left ha
    have e5 : IntKind.u32.wrap ((a &&& b : Nat) : Int) = ((a &&& b : Nat) : Int) := by rw [u32_mod]; omega
    simp only [execOp, hf.ev hx, hf.ev hy, eqGuard_at_int, binOp_and, Op.intBits, e3, e5]
    simp)
theorem qs_shr32 {a : Nat} {k : IntKind} {n : Nat} (hx : ev fr x = some (.int .u32 a)) (hy : ev fr y = some (.int k (n : Int))) (hn : n ≤ 32) : QStep P Γ fr ⟨some d, .binOp .shr t x y t2, ty, pos, aft, gd⟩ (.int .u32 ((a / 2 ^ n : Nat) : Int)) :=
  qs_of (fun c w hf => by
    have e0 : ¬ ((n : Int) < 0) := by omega
    have e1 : min (n : Int).toNat IntKind.u32.bits = n := by
      show min (n : Int).toNat 32 = n
      rw [Int.toNat_natCast]; omega
    have e2 : (a : Int).fdiv (2 ^ n) = ((a / 2 ^ n : Nat) : Int) := by
      rw [Int.fdiv_eq_ediv_of_nonneg _ (by exact_mod_cast Nat.zero_le _)]
      norm_cast
    simp only [execOp, hf.ev hx, hf.ev hy, eqGuard_at_int, binOp_shr, Op.shift, e0, if_false, e1, e2]
    simp)
theorem qs_not32 {a : Nat} (hx : ev fr x = some (.int .u32 a)) (ha : a < 4294967296) : QStep P Γ fr ⟨some d, .unOp .xor t x, ty, pos, aft, gd⟩ (.int .u32 ((4294967295 ^^^ a : Nat) : Int)) :=
  qs_of (fun c w hf => by
    have hM : (if IntKind.u32.signed = true then (-1 : Int) else IntKind.u32.max) = ((4294967295 : Nat) : Int) := by decide
    have e1 := bv_nat 32 a ha
    have e2 := bv_nat 32 4294967295 (by decide)
    have e3 : (BitVec.ofInt IntKind.u32.bits ((4294967295 : Nat) : Int) ^^^ BitVec.ofInt IntKind.u32.bits (a : Int)).toNat = 4294967295 ^^^ a := by
      show (BitVec.ofInt 32 ((4294967295 : Nat) : Int) ^^^ BitVec.ofInt 32 (a : Int)).toNat = 4294967295 ^^^ a
      rw [BitVec.toNat_xor, e1, e2]
    have e4 : 4294967295 ^^^ a < 4294967296 := Nat.xor_lt_two_pow (n := 32) (by decide) ha
    have e5 : IntKind.u32.wrap ((4294967295 ^^^ a : Nat) : Int) = ((4294967295 ^^^ a : Nat) : Int) := by rw [u32_mod]; omega
    simp only [execOp, hf.ev hx, Op.unary, hM, Op.intBits, e3, e5]
    simp)
end Go.Sl
namespace Go.Proofs.YtdldgbbhagpofaaGreatDoor
open Go.Sl facts
def vb (v : Nat) : List UInt8 := if h : v < 128 then [UInt8.ofNat v] else UInt8.ofNat (v % 128 + 128) :: vb (v / 128)
termination_by v
decreasing_by omega
theorem vb_small {v : Nat} (h : v < 128) : vb v = [UInt8.ofNat v] := by rw [vb, dif_pos h]
theorem vb_big {v : Nat} (h : ¬ v < 128) : vb v = UInt8.ofNat (v % 128 + 128) :: vb (v / 128) := by conv => lhs; rw [vb, dif_neg h]
theorem byte_of (n : Nat) (h : n < 256) : (UInt8.ofNat n).toNat = n := by rw [UInt8.toNat_ofNat']; omega
def crcBit (c : Nat) : Nat := if c % 2 = 1 then (c / 2) ^^^ 3988292384 else c / 2
def crcBits : Nat → Nat → Nat
  | 0, c => c
  | n + 1, c => crcBits n (crcBit c)
def crcByte (c : Nat) (b : UInt8) : Nat := crcBits 8 (c ^^^ b.toNat)
def crcL (l : List UInt8) : Nat := l.foldl crcByte 4294967295
def crcN (l : List UInt8) : Nat := 4294967295 ^^^ crcL l
theorem crcBit_lt {c : Nat} (h : c < 4294967296) : crcBit c < 4294967296 := by
  unfold crcBit
  split
  · exact Nat.xor_lt_two_pow (n := 32) (by omega) (by decide)
  · omega
theorem crcBits_lt : ∀ (n : Nat) {c : Nat}, c < 4294967296 → crcBits n c < 4294967296
  | 0, _, h => h
  | n + 1, _, h => crcBits_lt n (crcBit_lt h)
theorem crcBits_succ : ∀ (n c : Nat), crcBits (n + 1) c = crcBit (crcBits n c)
  | 0, _ => rfl
  | n + 1, c => crcBits_succ n (crcBit c)
theorem crcByte_lt {c : Nat} (b : UInt8) (h : c < 4294967296) : crcByte c b < 4294967296 :=
  crcBits_lt 8 (Nat.xor_lt_two_pow (n := 32) h (by have := b.toNat_lt; omega))
theorem crcF_lt : ∀ (l : List UInt8) {c : Nat}, c < 4294967296 → l.foldl crcByte c < 4294967296
  | [], _, h => h
  | b :: l, _, h => crcF_lt l (crcByte_lt b h)
theorem crcL_lt (l : List UInt8) : crcL l < 4294967296 := crcF_lt l (by decide)
theorem crcN_lt (l : List UInt8) : crcN l < 4294967296 := Nat.xor_lt_two_pow (n := 32) (by decide) (crcL_lt l)
theorem crcL_snoc (l : List UInt8) (b : UInt8) : crcL (l ++ [b]) = crcByte (crcL l) b := by simp [crcL]
def le4k (v k : Nat) : List UInt8 := (List.range k).map fun i => UInt8.ofNat (v / 2 ^ (8 * i))
theorem le4k_succ (v k : Nat) : le4k v (k + 1) = le4k v k ++ [UInt8.ofNat (v / 2 ^ (8 * k))] := by simp [le4k, List.range_succ]
def frameB (l : List UInt8) : List UInt8 := le4k l.length 4 ++ l ++ le4k (crcN (le4k l.length 4 ++ l)) 4
theorem le4k_len (v k : Nat) : (le4k v k).length = k := by simp [le4k]
theorem frameB_len (l : List UInt8) : (frameB l).length = l.length + 8 := by simp [frameB, le4k_len]; omega
theorem take_snoc8 (l : List UInt8) (k : Nat) (h : k < l.length) : l.take (k + 1) = l.take k ++ [l.getD k 0] := by
  rw [List.take_add_one]
  simp [List.getElem?_eq_getElem h, List.getD_eq_getElem?_getD]
theorem vb_len : ∀ (k v : Nat), v < 128 ^ (k + 1) → (vb v).length ≤ k + 1
  | 0, v, h => by rw [vb_small (by simpa using h)]; simp
  | k + 1, v, h => by
    by_cases hv : v < 128
    · rw [vb_small hv]; simp
    · rw [vb_big hv, List.length_cons]
      have := vb_len k (v / 128) (by rw [Nat.pow_succ] at h; omega)
      omega
theorem vb_len10 (v : Nat) (h : v < 18446744073709551616) : (vb v).length ≤ 10 := vb_len 9 v (Nat.lt_of_lt_of_le h (by decide))
def txt (l : List UInt8) : ByteArray := ⟨l.toArray⟩
def nmB (i : Nat) : ByteArray := ⟨#[115, 101, 103]⟩ ++ txt (Lib.decDigits i)
theorem itoaS (i : Nat) (h : i < 100) : Does1 Tryz.prog 53 [int i] [] (.string (txt (Lib.decDigits i))) := fun Γ w hh => by
  refine (Any.strconv_Itoa_small Tryz.laysNm171 i h w).mono ?_
  rintro e w' ⟨rfl, rfl⟩
  exact ⟨(), trivial, rfl, hh⟩
theorem txt_size (l : List UInt8) : (txt l).size = l.length := by simp [txt, ByteArray.size]
theorem dec_fin : ∀ i : Fin 100, (Lib.decDigits i).length ≤ 2 ∧ 0 < (Lib.decDigits i).length := by decide +kernel
theorem dec_len (i : Nat) (h : i < 100) : (Lib.decDigits i).length ≤ 2 := (dec_fin ⟨i, h⟩).1
theorem nm_size (i : Nat) (h : i < 100) : (nmB i).size ≤ 5 ∧ 0 < (nmB i).size := by
  have h1 := dec_len i h
  have e : (nmB i).size = 3 + (Lib.decDigits i).length := by unfold nmB; rw [ByteArray.size_append, txt_size]; rfl
  omega
theorem nm_fin : ∀ i j : Fin 100, Lib.decDigits i = Lib.decDigits j → i = j := by decide +kernel
theorem nm_inj {i j : Nat} (hi : i < 100) (hj : j < 100) (h : nmB i = nmB j) : i = j := by
  have e : (nmB i).data.toList = (nmB j).data.toList := by rw [h]
  have e2 : Lib.decDigits i = Lib.decDigits j := by
    simp only [nmB, txt, ByteArray.data_append, Array.toList_append, List.append_cancel_left_eq] at e
    simpa using e
  exact congrArg Fin.val (nm_fin ⟨i, hi⟩ ⟨j, hj⟩ e2)
structure DecX where
  u : Nat
  bs : List UInt8
  q : Option Addr
  c : Nat
structure PuX where
  i : Nat
  q : Option Addr
  c : Nat
attribute [local irreducible] Code.wp wpList Exit.then Exit.inBlock bodyPost Back MidQ G GP QStep VStep CStep SStep Does Post Reads
theorem fsum (C : Chunk) (p : Option Addr) (l : List UInt8) (cap : Nat) (hC : BtAt C p l) (hl : l.length ≤ 1000000000) : Does1 Tryz.prog 64 [.slice p l.length cap] [C] (.int .u32 (crcN l)) := by
  refine fn_intro Tryz.func64 rfl Tryz.ntmps64 rfl (by simp only [argFr, Nat.zero_add, Nat.reduceAdd]; rfl) (fun Γ => ?_)
  repeat (first
    | (refine g_ops ?_; first | refine sO ?_ | refine s_n (fun _ => ?_) | refine s_appB (fun _ _ => ?_) | refine s_app (fun _ _ => ?_) | refine s_b0 (fun _ => ?_) | ((fail_if_success refine g_lit rfl rfl rfl ?_); first | apply g_partM rfl rfl rfl | apply g_partMB rfl rfl rfl | fail))
    | refine gS ?_ | exact s_m | intro _)
  refine g_as 3 (v' := .int .u32 (crcL (l.take 0))) rfl rfl ?_
  refine g_loop (X := Nat) (fun i => [(3, .int .u32 (crcL (l.take i))), (7, .slice p l.length cap), (8, int l.length), (9, int i)]) (fun _ => [C]) (fun i => i ≤ l.length) (fun i => l.length - i) 0 (Nat.zero_le _) (by (repeat (first | exact FrSub.nil | refine FrSub.cons rfl ?_)); first | done | fail) (by (repeat (first | exact Take.nil | apply Take.cons | exact Sel.here | apply Sel.there)); first | done | fail) (fun i hi => ?_)
  repeat (first
    | (refine g_ops ?_; first | refine sO ?_ | refine s_n (fun _ => ?_) | refine s_appB (fun _ _ => ?_) | refine s_app (fun _ _ => ?_) | refine s_b0 (fun _ => ?_) | ((fail_if_success refine g_lit rfl rfl rfl ?_); first | apply g_partM rfl rfl rfl | apply g_partMB rfl rfl rfl | fail))
    | refine gS ?_ | exact s_m | intro _)
  refine g_cond_dec rfl (fun h => ?_) (fun h => ?_)
  · have hi' : i < l.length := by omega
    obtain ⟨b, o, rfl, hrow⟩ := hC i hi'
    have hsn := take_snoc8 l i hi'
    have hlt := crcL_lt (l.take i)
    have hb := (l.getD i 0).toNat_lt
    generalize hx : l.getD i 0 = x at *
    generalize hc : crcL (l.take i) = c0 at *
    have hr : ∀ k, k = i → Reads C ⟨b, o + k, none⟩ (.int .u8 (x.toNat : Int)) := fun k hk => by rw [hk]; exact hrow
    repeat (first
      | (refine g_ops ?_; first | refine sO ?_ | refine s_n (fun _ => ?_) | refine s_appB (fun _ _ => ?_) | refine s_app (fun _ _ => ?_) | refine s_b0 (fun _ => ?_) | ((fail_if_success refine g_lit rfl rfl rfl ?_); first | apply g_partM rfl rfl rfl | apply g_partMB rfl rfl rfl | fail))
      | refine gS ?_ | exact s_m | intro _)
    refine s_q (q := by exact qs_convInt rfl) ?_
    refine g_as 15 (v' := .int .u32 ((x.toNat : Nat) : Int)) rfl (congrArg (Value.int .u32) (by rw [u32_mod]; omega)) ?_
    refine s_q (q := by exact qs_xor32 rfl rfl hlt (by omega)) ?_
    have hlt1 : c0 ^^^ x.toNat < 4294967296 := Nat.xor_lt_two_pow (n := 32) hlt (by omega)
    have hfin : crcL (l.take (i + 1)) = crcBits 8 (c0 ^^^ x.toNat) := by rw [hsn, crcL_snoc, hc]; rfl
    generalize c0 ^^^ x.toNat = c1 at *
    repeat (first
      | (refine g_ops ?_; first | refine sO ?_ | refine s_n (fun _ => ?_) | refine s_appB (fun _ _ => ?_) | refine s_app (fun _ _ => ?_) | refine s_b0 (fun _ => ?_) | ((fail_if_success refine g_lit rfl rfl rfl ?_); first | apply g_partM rfl rfl rfl | apply g_partMB rfl rfl rfl | fail))
      | refine gS ?_ | exact s_m | intro _)
    refine g_loop (X := Nat) (fun j => [(3, .int .u32 (crcBits j c1)), (17, int j), (7, .slice (some ⟨b, o, none⟩) l.length cap), (8, int l.length), (9, int i)]) (fun _ => [C]) (fun j => j ≤ 8) (fun j => 8 - j) 0 (Nat.zero_le _) (by (repeat (first | exact FrSub.nil | refine FrSub.cons rfl ?_)); first | done | fail) (by (repeat (first | exact Take.nil | apply Take.cons | exact Sel.here | apply Sel.there)); first | done | fail) (fun j hj => ?_)
    repeat (first
      | (refine g_ops ?_; first | refine sO ?_ | refine s_n (fun _ => ?_) | refine s_appB (fun _ _ => ?_) | refine s_app (fun _ _ => ?_) | refine s_b0 (fun _ => ?_) | ((fail_if_success refine g_lit rfl rfl rfl ?_); first | apply g_partM rfl rfl rfl | apply g_partMB rfl rfl rfl | fail))
      | refine gS ?_ | exact s_m | intro _)
    have hlt2 := crcBits_lt j hlt1
    have hstep := crcBits_succ j c1
    generalize hc2 : crcBits j c1 = c2 at *
    refine g_cond_dec rfl (fun h8 => ?_) (fun h8 => ?_)
    · repeat (first
        | (refine g_ops ?_; first | refine sO ?_ | refine s_n (fun _ => ?_) | refine s_appB (fun _ _ => ?_) | refine s_app (fun _ _ => ?_) | refine s_b0 (fun _ => ?_) | ((fail_if_success refine g_lit rfl rfl rfl ?_); first | apply g_partM rfl rfl rfl | apply g_partMB rfl rfl rfl | fail))
        | refine gS ?_ | exact s_m | intro _)
      refine s_q (q := by exact qs_and32 (b := 1) rfl rfl hlt2 (by decide)) ?_
      refine g_as 20 (v' := .int .u32 ((c2 % 2 : Nat) : Int)) rfl (congrArg (Value.int .u32) (by rw [Nat.and_one_is_mod])) ?_
      repeat (first
        | (refine g_ops ?_; first | refine sO ?_ | refine s_n (fun _ => ?_) | refine s_appB (fun _ _ => ?_) | refine s_app (fun _ _ => ?_) | refine s_b0 (fun _ => ?_) | ((fail_if_success refine g_lit rfl rfl rfl ?_); first | apply g_partM rfl rfl rfl | apply g_partMB rfl rfl rfl | fail))
        | refine gS ?_ | exact s_m | intro _)
      refine s_q (q := by exact qs_shr32 (n := 1) rfl rfl (by decide)) ?_
      refine g_as 22 (v' := .int .u32 ((c2 / 2 : Nat) : Int)) rfl rfl ?_
      repeat (first
        | (refine g_ops ?_; first | refine sO ?_ | refine s_n (fun _ => ?_) | refine s_appB (fun _ _ => ?_) | refine s_app (fun _ _ => ?_) | refine s_b0 (fun _ => ?_) | ((fail_if_success refine g_lit rfl rfl rfl ?_); first | apply g_partM rfl rfl rfl | apply g_partMB rfl rfl rfl | fail))
        | refine gS ?_ | exact s_m | intro _)
      have hm2 : c2 / 2 < 4294967296 := by omega
      refine g_cond_dec rfl (fun h1 => ?_) (fun h1 => ?_)
      · have e : crcBit c2 = (c2 / 2) ^^^ 3988292384 := by unfold crcBit; rw [if_pos (by omega)]
        rw [e] at hstep
        repeat (first
          | (refine g_ops ?_; first | refine sO ?_ | refine s_n (fun _ => ?_) | refine s_appB (fun _ _ => ?_) | refine s_app (fun _ _ => ?_) | refine s_b0 (fun _ => ?_) | ((fail_if_success refine g_lit rfl rfl rfl ?_); first | apply g_partM rfl rfl rfl | apply g_partMB rfl rfl rfl | fail))
          | refine gS ?_ | exact s_m | intro _)
        refine s_q (q := by exact qs_xor32 (b := 3988292384) rfl rfl hm2 (by decide)) ?_
        refine g_as 26 (v' := .int .u32 ((crcBits (j + 1) c1 : Nat) : Int)) rfl (congrArg (Value.int .u32) (by rw [hstep])) ?_
        repeat (first
          | (refine g_ops ?_; first | refine sO ?_ | refine s_n (fun _ => ?_) | refine s_appB (fun _ _ => ?_) | refine s_app (fun _ _ => ?_) | refine s_b0 (fun _ => ?_) | ((fail_if_success refine g_lit rfl rfl rfl ?_); first | apply g_partM rfl rfl rfl | apply g_partMB rfl rfl rfl | fail))
          | refine gS ?_ | exact s_m | intro _)
        refine g_as 17 (v' := int ((j + 1 : Nat) : Int)) rfl (congrArg (Value.int .i64) (by push_cast; rfl)) ?_
        exact gA (j + 1) (by omega) (by omega)
      · have e : crcBit c2 = c2 / 2 := by unfold crcBit; rw [if_neg (by omega)]
        rw [e] at hstep
        rw [← hstep]
        repeat (first
          | (refine g_ops ?_; first | refine sO ?_ | refine s_n (fun _ => ?_) | refine s_appB (fun _ _ => ?_) | refine s_app (fun _ _ => ?_) | refine s_b0 (fun _ => ?_) | ((fail_if_success refine g_lit rfl rfl rfl ?_); first | apply g_partM rfl rfl rfl | apply g_partMB rfl rfl rfl | fail))
          | refine gS ?_ | exact s_m | intro _)
        refine g_as 17 (v' := int ((j + 1 : Nat) : Int)) rfl (congrArg (Value.int .i64) (by push_cast; rfl)) ?_
        exact gA (j + 1) (by omega) (by omega)
    · obtain rfl : j = 8 := by omega
      rw [← hc2, ← hfin]
      repeat (first
        | (refine g_ops ?_; first | refine sO ?_ | refine s_n (fun _ => ?_) | refine s_appB (fun _ _ => ?_) | refine s_app (fun _ _ => ?_) | refine s_b0 (fun _ => ?_) | ((fail_if_success refine g_lit rfl rfl rfl ?_); first | apply g_partM rfl rfl rfl | apply g_partMB rfl rfl rfl | fail))
        | refine gS ?_ | exact s_m | intro _)
      refine g_as 9 (v' := int ((i + 1 : Nat) : Int)) rfl (congrArg (Value.int .i64) (by push_cast; rfl)) ?_
      exact gA (i + 1) (by omega) (by omega)
  · repeat (first
      | (refine g_ops ?_; first | refine sO ?_ | refine s_n (fun _ => ?_) | refine s_appB (fun _ _ => ?_) | refine s_app (fun _ _ => ?_) | refine s_b0 (fun _ => ?_) | ((fail_if_success refine g_lit rfl rfl rfl ?_); first | apply g_partM rfl rfl rfl | apply g_partMB rfl rfl rfl | fail))
      | refine gS ?_ | exact s_m | intro _)
    refine s_q (q := by exact qs_not32 rfl (crcL_lt _)) ?_
    repeat (first
      | (refine g_ops ?_; first | refine sO ?_ | refine s_n (fun _ => ?_) | refine s_appB (fun _ _ => ?_) | refine s_app (fun _ _ => ?_) | refine s_b0 (fun _ => ?_) | ((fail_if_success refine g_lit rfl rfl rfl ?_); first | apply g_partM rfl rfl rfl | apply g_partMB rfl rfl rfl | fail))
      | refine gS ?_ | exact s_m | intro _)
    have e : l.take i = l := List.take_of_length_le (by omega)
    exact g_ret () rfl (by (repeat (first | exact RVs.nil | apply RVs.tmp rfl | apply RVs.cellA rfl (by (repeat (first | exact Sel.here | apply Sel.there)); first | done | fail) (by (repeat (first | exact Cut.zero | apply Cut.take | apply Cut.skip)); first | done | fail) | apply RVs.cell1 rfl (by (repeat (first | exact Sel.here | apply Sel.there)); first | done | fail) rfl)); first | done | fail) (by (repeat (first | exact Take.nil | apply Take.cons | exact Sel.here | apply Sel.there)); first | done | fail) (by rw [e]; rfl) trivial
theorem or128_fin : ∀ x : Fin 256, x.val ||| 128 = x.val % 128 + 128 := by decide +kernel
theorem or128 (x : Nat) (h : x < 256) : x ||| 128 = x % 128 + 128 := or128_fin ⟨x, h⟩
theorem and127 (x : Nat) : x &&& 127 = x % 128 := Nat.and_two_pow_sub_one_eq_mod x 7
theorem varint (v : Nat) (hv : v < 18446744073709551616) : Does Tryz.prog 48 [.int .u64 v] [] (X := Option Addr × Nat) (fun x => .slice x.1 (vb v).length x.2) (fun x => [.own x.1 (vb v).length x.2 1 (cells8 (vb v)) 5]) (fun _ => True) := by
  refine fn_intro Tryz.func48 rfl Tryz.ntmps48 rfl (by simp only [argFr, Nat.zero_add, Nat.reduceAdd]; rfl) (fun Γ => ?_)
  repeat (first
    | (refine g_ops ?_; first | refine sO ?_ | refine s_n (fun _ => ?_) | refine s_appB (fun _ _ => ?_) | refine s_app (fun _ _ => ?_) | refine s_b0 (fun _ => ?_) | ((fail_if_success refine g_lit rfl rfl rfl ?_); first | apply g_partM rfl rfl rfl | apply g_partMB rfl rfl rfl | fail))
    | refine gS ?_ | exact s_m | intro _)
  refine g_own_nil none 1 5 ?_
  refine g_loop (X := DecX) (fun x => [(0, .int .u64 x.u), (2, .slice x.q x.bs.length x.c)]) (fun x => [.own x.q x.bs.length x.c 1 (cells8 x.bs) 5]) (fun x => x.u < 18446744073709551616 ∧ vb v = x.bs ++ vb x.u) (fun x => x.u)
    ⟨v, [], none, 0⟩ ⟨hv, rfl⟩ (by (repeat (first | exact FrSub.nil | refine FrSub.cons rfl ?_)); first | done | fail) (by (repeat (first | exact Take.nil | apply Take.cons | exact Sel.here | apply Sel.there)); first | done | fail) (fun x hx => ?_)
  obtain ⟨u, bs, q, c⟩ := x
  obtain ⟨hle, hinv⟩ := hx
  simp only at hle hinv
  have hbl : bs.length ≤ 10 := by have := vb_len10 v hv; rw [hinv, List.length_append] at this; omega
  dsimp only
  repeat (first
    | (refine g_ops ?_; first | refine sO ?_ | refine s_n (fun _ => ?_) | refine s_appB (fun _ _ => ?_) | refine s_app (fun _ _ => ?_) | refine s_b0 (fun _ => ?_) | ((fail_if_success refine g_lit rfl rfl rfl ?_); first | apply g_partM rfl rfl rfl | apply g_partMB rfl rfl rfl | fail))
    | refine gS ?_ | exact s_m | intro _)
  refine g_cond_dec rfl (fun h => ?_) (fun h => ?_)
  · have hu : ¬ u < 128 := by omega
    rw [vb_big hu] at hinv
    repeat (first
      | (refine g_ops ?_; first | refine sO ?_ | refine s_n (fun _ => ?_) | refine s_appB (fun _ _ => ?_) | refine s_app (fun _ _ => ?_) | refine s_b0 (fun _ => ?_) | ((fail_if_success refine g_lit rfl rfl rfl ?_); first | apply g_partM rfl rfl rfl | apply g_partMB rfl rfl rfl | fail))
      | refine gS ?_ | exact s_m | intro _)
    refine s_q (q := by exact qs_convInt rfl) ?_
    refine g_as 7 (v' := .int .u8 ((u % 256 : Nat) : Int)) rfl (congrArg (Value.int .u8) (by rw [u8_mod]; omega)) ?_
    refine s_q (q := by exact qs_or8 (b := 128) rfl rfl (Nat.mod_lt _ (by decide)) (by decide)) ?_
    refine g_as 8 (v' := .int .u8 ((UInt8.ofNat (u % 128 + 128)).toNat : Int)) rfl (congrArg (Value.int .u8) (by rw [or128 _ (Nat.mod_lt _ (by decide)), byte_of _ (by omega)]; omega)) ?_
    generalize hbb : UInt8.ofNat (u % 128 + 128) = bb at hinv ⊢
    repeat (first
      | (refine g_ops ?_; first | refine sO ?_ | refine s_n (fun _ => ?_) | refine s_appB (fun _ _ => ?_) | refine s_app (fun _ _ => ?_) | refine s_b0 (fun _ => ?_) | ((fail_if_success refine g_lit rfl rfl rfl ?_); first | apply g_partM rfl rfl rfl | apply g_partMB rfl rfl rfl | fail))
      | refine gS ?_ | exact s_m | intro _)
    refine s_q (q := by exact qs_shr64 (n := 7) rfl rfl (by decide)) ?_
    refine g_as 12 (v' := .int .u64 ((u / 128 : Nat) : Int)) rfl rfl ?_
    repeat (first
      | (refine g_ops ?_; first | refine sO ?_ | refine s_n (fun _ => ?_) | refine s_appB (fun _ _ => ?_) | refine s_app (fun _ _ => ?_) | refine s_b0 (fun _ => ?_) | ((fail_if_success refine g_lit rfl rfl rfl ?_); first | apply g_partM rfl rfl rfl | apply g_partMB rfl rfl rfl | fail))
      | refine gS ?_ | exact s_m | intro _)
    rename_i q' c'
    rw [cells8_snoc, show bs.length + 1 = (bs ++ [bb]).length by simp]
    exact gA ⟨u / 128, bs ++ [bb], q', c'⟩ (by simp only; omega) ⟨by simp only; omega, by simp [hinv]⟩
  · have hu : u < 128 := by omega
    rw [vb_small hu] at hinv
    repeat (first
      | (refine g_ops ?_; first | refine sO ?_ | refine s_n (fun _ => ?_) | refine s_appB (fun _ _ => ?_) | refine s_app (fun _ _ => ?_) | refine s_b0 (fun _ => ?_) | ((fail_if_success refine g_lit rfl rfl rfl ?_); first | apply g_partM rfl rfl rfl | apply g_partMB rfl rfl rfl | fail))
      | refine gS ?_ | exact s_m | intro _)
    refine s_q (q := by exact qs_convInt rfl) ?_
    refine g_as 15 (v' := .int .u8 ((UInt8.ofNat u).toNat : Int)) rfl (congrArg (Value.int .u8) (by rw [u8_mod, byte_of _ (by omega)]; omega)) ?_
    generalize hbb : UInt8.ofNat u = bb at hinv ⊢
    repeat (first
      | (refine g_ops ?_; first | refine sO ?_ | refine s_n (fun _ => ?_) | refine s_appB (fun _ _ => ?_) | refine s_app (fun _ _ => ?_) | refine s_b0 (fun _ => ?_) | ((fail_if_success refine g_lit rfl rfl rfl ?_); first | apply g_partM rfl rfl rfl | apply g_partMB rfl rfl rfl | fail))
      | refine gS ?_ | exact s_m | intro _)
    rename_i q' c'
    rw [cells8_snoc, show bs.length + 1 = (bs ++ [bb]).length by simp, ← hinv]
    exact gR (q', c') trivial
theorem fput (q : Option Addr) (c : Nat) (bs : List UInt8) (v : Nat) (hv : v < 4294967296) (hl : bs.length ≤ 1000000000) : Does Tryz.prog 63 [.slice q bs.length c, .int .u32 v] [.own q bs.length c 1 (cells8 bs) 5]
    (X := OA) (fun x => .slice x.1 (bs ++ le4k v 4).length x.2) (fun x => [.own x.1 (bs ++ le4k v 4).length x.2 1 (cells8 (bs ++ le4k v 4)) 5]) (fun _ => True) := by
  refine fn_intro Tryz.func63 rfl Tryz.ntmps63 rfl (by simp only [argFr, Nat.zero_add, Nat.reduceAdd]; rfl) (fun Γ => ?_)
  repeat (first
    | (refine g_ops ?_; first | refine sO ?_ | refine s_n (fun _ => ?_) | refine s_appB (fun _ _ => ?_) | refine s_app (fun _ _ => ?_) | refine s_b0 (fun _ => ?_) | ((fail_if_success refine g_lit rfl rfl rfl ?_); first | apply g_partM rfl rfl rfl | apply g_partMB rfl rfl rfl | fail))
    | refine gS ?_ | exact s_m | intro _)
  refine g_loop (X := PuX) (fun x => [(0, .slice x.q (bs ++ le4k v x.i).length x.c), (1, .int .u32 v), (6, int x.i)]) (fun x => [.own x.q (bs ++ le4k v x.i).length x.c 1 (cells8 (bs ++ le4k v x.i)) 5]) (fun x => x.i ≤ 4) (fun x => 4 - x.i) ⟨0, q, c⟩ (Nat.zero_le _) (by simp only [le4k, List.range_zero, List.map_nil, List.append_nil]; exact ((by (repeat (first | exact FrSub.nil | refine FrSub.cons rfl ?_)); first | done | fail))) (by simp only [le4k, List.range_zero, List.map_nil, List.append_nil]; exact take_all _) (fun x hx => ?_)
  obtain ⟨i, q1, c1⟩ := x
  dsimp only at hx ⊢
  repeat (first
    | (refine g_ops ?_; first | refine sO ?_ | refine s_n (fun _ => ?_) | refine s_appB (fun _ _ => ?_) | refine s_app (fun _ _ => ?_) | refine s_b0 (fun _ => ?_) | ((fail_if_success refine g_lit rfl rfl rfl ?_); first | apply g_partM rfl rfl rfl | apply g_partMB rfl rfl rfl | fail))
    | refine gS ?_ | exact s_m | intro _)
  refine g_cond_dec rfl (fun h => ?_) (fun h => ?_)
  · have hi : i < 4 := by omega
    have hle := le4k_succ v i
    have hwl : (le4k v i).length = i := le4k_len v i
    repeat (first
      | (refine g_ops ?_; first | refine sO ?_ | refine s_n (fun _ => ?_) | refine s_appB (fun _ _ => ?_) | refine s_app (fun _ _ => ?_) | refine s_b0 (fun _ => ?_) | ((fail_if_success refine g_lit rfl rfl rfl ?_); first | apply g_partM rfl rfl rfl | apply g_partMB rfl rfl rfl | fail))
      | refine gS ?_ | exact s_m | intro _)
    refine g_as 12 (v' := int ((8 * i : Nat) : Int)) rfl (congrArg (Value.int .i64) (by push_cast; rfl)) ?_
    refine s_q (q := by exact qs_shr32 (n := 8 * i) rfl rfl (by omega)) ?_
    refine s_q (q := by exact qs_convInt rfl) ?_
    refine g_as 14 (v' := .int .u8 ((UInt8.ofNat (v / 2 ^ (8 * i))).toNat : Int)) rfl (congrArg (Value.int .u8) (by rw [u8_mod, UInt8.toNat_ofNat']; omega)) ?_
    generalize hbb : UInt8.ofNat (v / 2 ^ (8 * i)) = bb at hle ⊢
    have hbl : (bs ++ le4k v i).length ≤ 1000000004 := by rw [List.length_append]; omega
    have hsn : bs ++ le4k v (i + 1) = (bs ++ le4k v i) ++ [bb] := by rw [hle, List.append_assoc]
    generalize hb' : bs ++ le4k v i = b1 at *
    repeat (first
      | (refine g_ops ?_; first | refine sO ?_ | refine s_n (fun _ => ?_) | refine s_appB (fun _ _ => ?_) | refine s_app (fun _ _ => ?_) | refine s_b0 (fun _ => ?_) | ((fail_if_success refine g_lit rfl rfl rfl ?_); first | apply g_partM rfl rfl rfl | apply g_partMB rfl rfl rfl | fail))
      | refine gS ?_ | exact s_m | intro _)
    rename_i q' c'
    rw [cells8_snoc, show b1.length + 1 = (b1 ++ [bb]).length by simp, ← hsn]
    refine g_as 6 (v' := int ((i + 1 : Nat) : Int)) rfl (congrArg (Value.int .i64) (by push_cast; rfl)) ?_
    exact gA ⟨i + 1, q', c'⟩ (by simp only; omega) (by simp only; omega)
  · obtain rfl : i = 4 := by omega
    repeat (first
      | (refine g_ops ?_; first | refine sO ?_ | refine s_n (fun _ => ?_) | refine s_appB (fun _ _ => ?_) | refine s_app (fun _ _ => ?_) | refine s_b0 (fun _ => ?_) | ((fail_if_success refine g_lit rfl rfl rfl ?_); first | apply g_partM rfl rfl rfl | apply g_partMB rfl rfl rfl | fail))
      | refine gS ?_ | exact s_m | intro _)
    exact gR (q1, c1) trivial
attribute [local irreducible] le4k crcN
theorem fPut (C : Chunk) (p : Option Addr) (l : List UInt8) (cap : Nat) (hC : BtAt C p l) (hl : l.length ≤ 131072) : Does Tryz.prog 47 [.slice p l.length cap] [C]
    (X := OA) (fun x => .tuple #[.slice x.1 (frameB l).length x.2, .bool true]) (fun x => [.own x.1 (frameB l).length x.2 1 (cells8 (frameB l)) 5, C]) (fun _ => True) := by
  have hN := le4k_len l.length 4
  refine fn_intro Tryz.func47 rfl Tryz.ntmps47 rfl (by simp only [argFr, Nat.zero_add, Nat.reduceAdd]; rfl) (fun Γ => ?_)
  repeat (first
    | (refine g_ops ?_; first | refine sO ?_ | refine s_n (fun _ => ?_) | refine s_appB (fun _ _ => ?_) | refine s_app (fun _ _ => ?_) | refine s_b0 (fun _ => ?_) | ((fail_if_success refine g_lit rfl rfl rfl ?_); first | apply g_partM rfl rfl rfl | apply g_partMB rfl rfl rfl | fail))
    | refine gS ?_ | exact s_m | intro _)
  refine g_cond_dec rfl (fun h => by omega) (fun _ => ?_)
  repeat (first
    | (refine g_ops ?_; first | refine sO ?_ | refine s_n (fun _ => ?_) | refine s_appB (fun _ _ => ?_) | refine s_app (fun _ _ => ?_) | refine s_b0 (fun _ => ?_) | ((fail_if_success refine g_lit rfl rfl rfl ?_); first | apply g_partM rfl rfl rfl | apply g_partMB rfl rfl rfl | fail))
    | refine gS ?_ | exact s_m | intro _)
  refine s_q (q := by exact qs_convInt rfl) ?_
  refine g_as 10 (v' := .int .u32 ((l.length : Nat) : Int)) rfl (congrArg (Value.int .u32) (by rw [u32_mod]; omega)) ?_
  refine g_own_nil none 1 5 ?_
  have hp := fput none 0 [] l.length (by omega) (by simp)
  simp only [List.length_nil, List.nil_append] at hp
  unfold frameB
  generalize le4k l.length 4 = hd4 at *
  have hsrc : ∀ {Γ : Ctx} {K : List Chunk}, SrcIs Tryz.prog Γ (K ++ [C]) 1 28 (.slice p l.length cap) l.length (cells8 l) := fun {Γ K} => srcAt (btAt_slAt hC) inferInstance (sel_mid C [] K) (by decide)
  have hsrc1 := fun {Γ : Ctx} {c : Chunk} => hsrc (Γ := Γ) (K := [c])
  repeat (first
    | (refine g_ops ?_; first | refine sO ?_ | refine s_n (fun _ => ?_) | refine s_appB (fun _ _ => ?_) | refine s_app (fun _ _ => ?_) | refine s_b0 (fun _ => ?_) | ((fail_if_success refine g_lit rfl rfl rfl ?_); first | apply g_partM rfl rfl rfl | apply g_partMB rfl rfl rfl | fail) | refine s_c (hp) (fun _ _ => ?_))
    | refine gS ?_ | exact s_m | intro _)
  rename_i q2 c2
  have hbl : (hd4 ++ l).length ≤ 131076 := by rw [List.length_append]; omega
  generalize hbe : hd4 ++ l = bb at *
  refine g_own (p := q2) (len := bb.length) (cap := c2) (n := 1) (xs := cells8 bb) (e := 5) .here (fun _ _ hq => ?_)
  have hS := fsum (.own q2 bb.length c2 1 (cells8 bb) 5) q2 bb c2 (btAt_own hq rfl) (by omega)
  have hp2 := fput q2 c2 bb (crcN bb) (crcN_lt bb) (by omega)
  repeat (first
    | (refine g_ops ?_; first | refine sO ?_ | refine s_n (fun _ => ?_) | refine s_appB (fun _ _ => ?_) | refine s_app (fun _ _ => ?_) | refine s_b0 (fun _ => ?_) | ((fail_if_success refine g_lit rfl rfl rfl ?_); first | apply g_partM rfl rfl rfl | apply g_partMB rfl rfl rfl | fail) | refine s_k (hS) ?_ | refine s_c (hp2) (fun _ _ => ?_))
    | refine gS ?_ | exact s_m | intro _)
  exact gR (_, _) trivial
theorem sname (i : Nat) (h : i < 100) : Does1 Tryz.prog 36 [int i] [] (.string (nmB i)) := by
  refine fn_intro Tryz.func36 rfl Tryz.ntmps36 rfl (by simp only [argFr, Nat.zero_add, Nat.reduceAdd]; rfl) (fun Γ => ?_)
  repeat (first
    | (refine g_ops ?_; first | refine sO ?_ | refine s_n (fun _ => ?_) | refine s_appB (fun _ _ => ?_) | refine s_app (fun _ _ => ?_) | refine s_b0 (fun _ => ?_) | ((fail_if_success refine g_lit rfl rfl rfl ?_); first | apply g_partM rfl rfl rfl | apply g_partMB rfl rfl rfl | fail) | refine s_p (itoaS i h) ?_)
    | refine gS ?_ | exact s_m | intro _)
  refine s_q (q := by exact qs_addS rfl rfl (by rw [txt_size]; have := dec_len i h; show 3 + _ ≤ _; omega)) ?_
  repeat (first
    | (refine g_ops ?_; first | refine sO ?_ | refine s_n (fun _ => ?_) | refine s_appB (fun _ _ => ?_) | refine s_app (fun _ _ => ?_) | refine s_b0 (fun _ => ?_) | ((fail_if_success refine g_lit rfl rfl rfl ?_); first | apply g_partM rfl rfl rfl | apply g_partMB rfl rfl rfl | fail))
    | refine gS ?_ | exact s_m | intro _)
  exact gR () trivial
end Go.Proofs.YtdldgbbhagpofaaGreatDoor

namespace Go.Proofs.YtdldgbbhagpofaaGreatDoor
open Go.Sl facts
structure BV where
  p : Option Addr
  l : List UInt8
  c : Nat
abbrev BV.v (r : BV) : Value := .slice r.p r.l.length r.c
structure RecsAt (H : HP) (p : Option Addr) (rs : List BV) : Prop where
  sl : SlAt (Pile H) 1 p rs.length (rs.map BV.v)
  at_ : ∀ r ∈ rs, BtAt (Pile H) r.p r.l
theorem BtAt.grow {H H' : HP} {p : Option Addr} {l : List UInt8} (h : BtAt (Pile H) p l) (s : HP.sub H H') : BtAt (Pile H') p l := fun j hj => by
  obtain ⟨b, o, e, r⟩ := h j hj
  exact ⟨b, o, e, reads_grow s r⟩
theorem RecsAt.grow {H H' : HP} {p : Option Addr} {rs : List BV} (h : RecsAt H p rs) (s : HP.sub H H') : RecsAt H' p rs := ⟨h.sl.grow s, fun r hr => BtAt.grow (h.at_ r hr) s⟩
abbrev lrow (lg d : Nat) (rv fv : Value) (size : Int) (sl off : Bool) : Chunk := .row lg [ptr d, rv, fv, int size, .bool sl, .bool off] 67
abbrev bigB (r : BV) : Bool := decide (65536 < r.l.length)
def sumL (rs : List BV) : Nat := (rs.map fun r => r.l.length).sum
theorem sumL_take (rs : List BV) (i : Nat) (h : i < rs.length) : sumL (rs.take (i + 1)) = sumL (rs.take i) + rs[i].l.length := by
  unfold sumL
  rw [List.take_add_one, List.getElem?_eq_getElem h, List.map_append, List.sum_append]
  simp
theorem sumL_take_le (rs : List BV) (i : Nat) : sumL (rs.take i) ≤ sumL rs := by
  unfold sumL
  conv => rhs; rw [← List.take_append_drop i rs]
  simp only [List.map_append, List.sum_append]
  omega
attribute [local irreducible] Code.wp wpList Exit.then Exit.inBlock bodyPost Back MidQ G GP QStep VStep CStep SStep Does Post Reads
theorem len_ (lg d : Nat) (q : Option Addr) (n c : Nat) (fv : Value) (size : Int) (sl off : Bool) : Does1 Tryz.prog 11 [ptr lg] [lrow lg d (.slice q n c) fv size sl off] (int n) := by
  refine fn_intro Tryz.func11 rfl Tryz.ntmps11 rfl (by simp only [argFr, Nat.zero_add, Nat.reduceAdd]; rfl) (fun Γ => ?_)
  repeat (first
    | (refine g_ops ?_; first | refine sO ?_ | refine s_n (fun _ => ?_) | refine s_appB (fun _ _ => ?_) | refine s_app (fun _ _ => ?_) | refine s_b0 (fun _ => ?_) | ((fail_if_success refine g_lit rfl rfl rfl ?_); first | apply g_partM rfl rfl rfl | apply g_partMB rfl rfl rfl | fail))
    | refine gS ?_ | exact s_m | intro _)
  exact gR () trivial
theorem dead_ (lg d : Nat) (rv fv : Value) (size : Int) (sl off : Bool) : Does1 Tryz.prog 17 [ptr lg] [lrow lg d rv fv size sl off] (.bool off) := by
  refine fn_intro Tryz.func17 rfl Tryz.ntmps17 rfl (by simp only [argFr, Nat.zero_add, Nat.reduceAdd]; rfl) (fun Γ => ?_)
  repeat (first
    | (refine g_ops ?_; first | refine sO ?_ | refine s_n (fun _ => ?_) | refine s_appB (fun _ _ => ?_) | refine s_app (fun _ _ => ?_) | refine s_b0 (fun _ => ?_) | ((fail_if_success refine g_lit rfl rfl rfl ?_); first | apply g_partM rfl rfl rfl | apply g_partMB rfl rfl rfl | fail))
    | apply g_regB (id := 1) 2 | refine gS ?_ | exact s_m | intro _ | (refine gp_take ?_; first | refine pT ?_ | ((fail_if_success refine gp_lit rfl rfl rfl rfl ?_); first | apply gp_guard_dec rfl rfl rfl rfl | apply gp_guard rfl rfl rfl rfl | fail))
    | (refine gp_see ?_; first | refine p_f ?_ | refine pS ?_ | ((fail_if_success refine gp_lit rfl rfl rfl rfl ?_); first | apply gp_guard_dec rfl rfl rfl rfl | apply gp_guard rfl rfl rfl rfl | fail))
    | (refine gp_one ?_; first | refine pO ?_ | refine p_n (fun _ => ?_) | refine p_appB (fun _ _ => ?_) | refine p_app (fun _ _ => ?_) | refine p_b0 (fun _ => ?_) | ((fail_if_success refine gp_lit rfl rfl rfl rfl ?_); first | apply gp_guard_dec rfl rfl rfl rfl | apply gp_guard rfl rfl rfl rfl | fail))
    | refine gp_two ?_ ?_ | refine gp_done hd hk ?_ | intro _ | refine p_ta hd hk (fun _ _ _ hd hk => ?_) | refine p_ts hd hk (fun _ hd hk => ?_))
  exact gR () trivial
theorem big1 (r : BV) : Does1 Tryz.prog 25 [r.v] [] (.bool (bigB r)) := by
  refine fn_intro Tryz.func25 rfl Tryz.ntmps25 rfl (by simp only [argFr, Nat.zero_add, Nat.reduceAdd]; rfl) (fun Γ => ?_)
  repeat (first
    | (refine g_ops ?_; first | refine sO ?_ | refine s_n (fun _ => ?_) | refine s_appB (fun _ _ => ?_) | refine s_app (fun _ _ => ?_) | refine s_b0 (fun _ => ?_) | ((fail_if_success refine g_lit rfl rfl rfl ?_); first | apply g_partM rfl rfl rfl | apply g_partMB rfl rfl rfl | fail))
    | refine gS ?_ | exact s_m | intro _)
  exact g_ret () rfl (by (repeat (first | exact RVs.nil | apply RVs.tmp rfl | apply RVs.cellA rfl (by (repeat (first | exact Sel.here | apply Sel.there)); first | done | fail) (by (repeat (first | exact Cut.zero | apply Cut.take | apply Cut.skip)); first | done | fail) | apply RVs.cell1 rfl (by (repeat (first | exact Sel.here | apply Sel.there)); first | done | fail) rfl)); first | done | fail) (by (repeat (first | exact Take.nil | apply Take.cons | exact Sel.here | apply Sel.there)); first | done | fail) (by simp only [pack, bigB]; congr 2; exact propext ⟨fun h => by omega, fun h => by omega⟩) trivial
abbrev fBig : FuncId := 25
theorem indexB {H : HP} (p : Option Addr) (c : Nat) (l : List BV) (hR : RecsAt H p l) (hl : l.length ≤ 1000000000) :
    Does Tryz.prog 45 [.slice p l.length c, .func (.func fBig) #[] #[]] [Pile H] (X := Int) (fun k => int k) (fun _ => [Pile H]) (fun k => decide (0 ≤ k) = l.any bigB) := by
  refine fn_intro Tryz.func45 rfl Tryz.ntmps45 rfl (by simp only [argFr, Nat.zero_add, Nat.reduceAdd]; rfl) (fun Γ => ?_)
  repeat (first
    | (refine g_ops ?_; first | refine sO ?_ | refine s_n (fun _ => ?_) | refine s_appB (fun _ _ => ?_) | refine s_app (fun _ _ => ?_) | refine s_b0 (fun _ => ?_) | ((fail_if_success refine g_lit rfl rfl rfl ?_); first | apply g_partM rfl rfl rfl | apply g_partMB rfl rfl rfl | fail))
    | refine gS ?_ | exact s_m | intro _)
  refine g_loop (X := Nat) (fun i => [(0, .slice p l.length c), (1, .func (.func fBig) #[] #[]), (7, int l.length), (8, int i)]) (fun _ => [Pile H]) (fun i => i ≤ l.length ∧ ∀ j (hj : j < l.length), j < i → bigB l[j] = false) (fun i => l.length - i) 0 ⟨Nat.zero_le _, fun j _ h => by omega⟩ (by (repeat (first | exact FrSub.nil | refine FrSub.cons rfl ?_)); first | done | fail) (by (repeat (first | exact Take.nil | apply Take.cons | exact Sel.here | apply Sel.there)); first | done | fail) (fun i hi => ?_)
  obtain ⟨hi, hb⟩ := hi
  repeat (first
    | (refine g_ops ?_; first | refine sO ?_ | refine s_n (fun _ => ?_) | refine s_appB (fun _ _ => ?_) | refine s_app (fun _ _ => ?_) | refine s_b0 (fun _ => ?_) | ((fail_if_success refine g_lit rfl rfl rfl ?_); first | apply g_partM rfl rfl rfl | apply g_partMB rfl rfl rfl | fail))
    | refine gS ?_ | exact s_m | intro _)
  refine g_cond_dec rfl (fun h2 => ?_) (fun h2 => ?_)
  · have hi' : i < l.length := by omega
    obtain ⟨rb, ro, rfl, hrow⟩ := slAt_cell hR.sl (i := i) (v := (l[i]).v) (by simp [hi'])
    generalize hr0 : l[i] = r at hrow
    have hr : ∀ k, k = i → Reads (Pile H) ⟨rb, ro + k, none⟩ r.v := fun k hk => by rw [hk]; exact hrow
    repeat (first
      | (refine g_ops ?_; first | refine sO ?_ | refine s_n (fun _ => ?_) | refine s_appB (fun _ _ => ?_) | refine s_app (fun _ _ => ?_) | refine s_b0 (fun _ => ?_) | ((fail_if_success refine g_lit rfl rfl rfl ?_); first | apply g_partM rfl rfl rfl | apply g_partMB rfl rfl rfl | fail))
      | refine gS ?_ | exact s_m | intro _)
    refine g_c (cs_callV (big1 r) (vs := [r.v]) (caps := []) rfl (by (repeat (first | exact Evs.nil | refine Evs.cons rfl ?_)); first | done | fail) rfl (by (repeat (first | exact Take.nil | apply Take.cons | exact Sel.here | apply Sel.there)); first | done | fail)) rfl rfl (fun _ _ => ?_)
    repeat (first
      | (refine g_ops ?_; first | refine sO ?_ | refine s_n (fun _ => ?_) | refine s_appB (fun _ _ => ?_) | refine s_app (fun _ _ => ?_) | refine s_b0 (fun _ => ?_) | ((fail_if_success refine g_lit rfl rfl rfl ?_); first | apply g_partM rfl rfl rfl | apply g_partMB rfl rfl rfl | fail))
      | refine gS ?_ | exact s_m | intro _)
    refine g_cond rfl (fun h3 => ?_) (fun h3 => ?_)
    · have ha : l.any bigB = true := List.any_eq_true.2 ⟨l[i], List.getElem_mem hi', by rw [hr0]; exact h3⟩
      repeat (first
        | (refine g_ops ?_; first | refine sO ?_ | refine s_n (fun _ => ?_) | refine s_appB (fun _ _ => ?_) | refine s_app (fun _ _ => ?_) | refine s_b0 (fun _ => ?_) | ((fail_if_success refine g_lit rfl rfl rfl ?_); first | apply g_partM rfl rfl rfl | apply g_partMB rfl rfl rfl | fail))
        | refine gS ?_ | exact s_m | intro _)
      exact gR (i : Int) (by rw [ha]; simp)
    · repeat (first
        | (refine g_ops ?_; first | refine sO ?_ | refine s_n (fun _ => ?_) | refine s_appB (fun _ _ => ?_) | refine s_app (fun _ _ => ?_) | refine s_b0 (fun _ => ?_) | ((fail_if_success refine g_lit rfl rfl rfl ?_); first | apply g_partM rfl rfl rfl | apply g_partMB rfl rfl rfl | fail))
        | refine gS ?_ | exact s_m | intro _)
      refine g_as 8 (v' := int ((i + 1 : Nat) : Int)) rfl (congrArg (Value.int .i64) (by push_cast; rfl)) ?_
      exact g_again (i + 1) (by omega) ⟨hi', fun j hj hji => by
        by_cases e : j = i
        · subst e; rw [hr0]; exact h3
        · exact hb j hj (by omega)⟩ (by (repeat (first | exact FrSub.nil | refine FrSub.cons rfl ?_)); first | done | fail) (by (repeat (first | exact Take.nil | apply Take.cons | exact Sel.here | apply Sel.there)); first | done | fail)
  · have ha : l.any bigB = false := by
      rw [List.any_eq_false]
      intro x hx
      obtain ⟨j, hj, rfl⟩ := List.mem_iff_getElem.1 hx
      rw [hb j hj (by omega)]; simp
    repeat (first
      | (refine g_ops ?_; first | refine sO ?_ | refine s_n (fun _ => ?_) | refine s_appB (fun _ _ => ?_) | refine s_app (fun _ _ => ?_) | refine s_b0 (fun _ => ?_) | ((fail_if_success refine g_lit rfl rfl rfl ?_); first | apply g_partM rfl rfl rfl | apply g_partMB rfl rfl rfl | fail))
      | refine gS ?_ | exact s_m | intro _)
    exact gR (-1 : Int) (by rw [ha]; rfl)
theorem anyB {H : HP} (p : Option Addr) (c : Nat) (l : List BV) (hR : RecsAt H p l) (hl : l.length ≤ 1000000000) :
    Does1 Tryz.prog 24 [.slice p l.length c, .func (.func fBig) #[] #[]] [Pile H] (.bool (l.any bigB)) := by
  have hI := indexB p c l hR hl
  refine fn_intro Tryz.func24 rfl Tryz.ntmps24 rfl (by simp only [argFr, Nat.zero_add, Nat.reduceAdd]; rfl) (fun Γ => ?_)
  repeat (first
    | (refine g_ops ?_; first | refine sO ?_ | refine s_n (fun _ => ?_) | refine s_appB (fun _ _ => ?_) | refine s_app (fun _ _ => ?_) | refine s_b0 (fun _ => ?_) | ((fail_if_success refine g_lit rfl rfl rfl ?_); first | apply g_partM rfl rfl rfl | apply g_partMB rfl rfl rfl | fail))
    | refine gS ?_ | exact s_m | intro _)
  refine g_call hI rfl rfl (by (repeat (first | exact Evs.nil | refine Evs.cons rfl ?_)); first | done | fail) (by (repeat (first | exact Take.nil | apply Take.cons | exact Sel.here | apply Sel.there)); first | done | fail) (fun k hk => ?_)
  repeat (first
    | (refine g_ops ?_; first | refine sO ?_ | refine s_n (fun _ => ?_) | refine s_appB (fun _ _ => ?_) | refine s_app (fun _ _ => ?_) | refine s_b0 (fun _ => ?_) | ((fail_if_success refine g_lit rfl rfl rfl ?_); first | apply g_partM rfl rfl rfl | apply g_partMB rfl rfl rfl | fail))
    | refine gS ?_ | exact s_m | intro _)
  exact g_ret () rfl (by (repeat (first | exact RVs.nil | apply RVs.tmp rfl | apply RVs.cellA rfl (by (repeat (first | exact Sel.here | apply Sel.there)); first | done | fail) (by (repeat (first | exact Cut.zero | apply Cut.take | apply Cut.skip)); first | done | fail) | apply RVs.cell1 rfl (by (repeat (first | exact Sel.here | apply Sel.there)); first | done | fail) rfl)); first | done | fail) (by (repeat (first | exact Take.nil | apply Take.cons | exact Sel.here | apply Sel.there)); first | done | fail) (by simp only [pack]; rw [hk]) trivial
theorem lsum {H : HP} (p : Option Addr) (c : Nat) (l : List BV) (hR : RecsAt H p l) (hl : l.length ≤ 1000000000) (hs : sumL l ≤ 8388608) :
    Does1 Tryz.prog 26 [.slice p l.length c] [Pile H] (int (sumL l)) := by
  refine fn_intro Tryz.func26 rfl Tryz.ntmps26 rfl (by simp only [argFr, Nat.zero_add, Nat.reduceAdd]; rfl) (fun Γ => ?_)
  repeat (first
    | (refine g_ops ?_; first | refine sO ?_ | refine s_n (fun _ => ?_) | refine s_appB (fun _ _ => ?_) | refine s_app (fun _ _ => ?_) | refine s_b0 (fun _ => ?_) | ((fail_if_success refine g_lit rfl rfl rfl ?_); first | apply g_partM rfl rfl rfl | apply g_partMB rfl rfl rfl | fail))
    | refine gS ?_ | exact s_m | intro _)
  refine g_loop (X := Nat) (fun i => [(2, int (sumL (l.take i))), (5, .slice p l.length c), (6, int l.length), (7, int i)]) (fun _ => [Pile H]) (fun i => i ≤ l.length) (fun i => l.length - i) 0 (Nat.zero_le _) (by (repeat (first | exact FrSub.nil | refine FrSub.cons rfl ?_)); first | done | fail) (by (repeat (first | exact Take.nil | apply Take.cons | exact Sel.here | apply Sel.there)); first | done | fail) (fun i hi => ?_)
  repeat (first
    | (refine g_ops ?_; first | refine sO ?_ | refine s_n (fun _ => ?_) | refine s_appB (fun _ _ => ?_) | refine s_app (fun _ _ => ?_) | refine s_b0 (fun _ => ?_) | ((fail_if_success refine g_lit rfl rfl rfl ?_); first | apply g_partM rfl rfl rfl | apply g_partMB rfl rfl rfl | fail))
    | refine gS ?_ | exact s_m | intro _)
  refine g_cond_dec rfl (fun h2 => ?_) (fun h2 => ?_)
  · have hi' : i < l.length := by omega
    obtain ⟨rb, ro, rfl, hrow⟩ := slAt_cell hR.sl (i := i) (v := (l[i]).v) (by simp [hi'])
    have hst := sumL_take l i hi'
    have hle := sumL_take_le l (i + 1)
    generalize hr0 : l[i] = r at hrow hst
    have hr : ∀ k, k = i → Reads (Pile H) ⟨rb, ro + k, none⟩ r.v := fun k hk => by rw [hk]; exact hrow
    repeat (first
      | (refine g_ops ?_; first | refine sO ?_ | refine s_n (fun _ => ?_) | refine s_appB (fun _ _ => ?_) | refine s_app (fun _ _ => ?_) | refine s_b0 (fun _ => ?_) | ((fail_if_success refine g_lit rfl rfl rfl ?_); first | apply g_partM rfl rfl rfl | apply g_partMB rfl rfl rfl | fail))
      | refine gS ?_ | exact s_m | intro _)
    refine g_as 2 (v' := int (sumL (l.take (i + 1)))) rfl (congrArg (Value.int .i64) (by rw [hst]; push_cast; rfl)) ?_
    refine g_as 14 (v' := int (sumL (l.take (i + 1)))) rfl (congrArg (Value.int .i64) (by rw [hst]; push_cast; rfl)) ?_
    repeat (first
      | (refine g_ops ?_; first | refine sO ?_ | refine s_n (fun _ => ?_) | refine s_appB (fun _ _ => ?_) | refine s_app (fun _ _ => ?_) | refine s_b0 (fun _ => ?_) | ((fail_if_success refine g_lit rfl rfl rfl ?_); first | apply g_partM rfl rfl rfl | apply g_partMB rfl rfl rfl | fail))
      | refine gS ?_ | exact s_m | intro _)
    refine g_cond_dec rfl (fun h3 => by omega) (fun h3 => ?_)
    repeat (first
      | (refine g_ops ?_; first | refine sO ?_ | refine s_n (fun _ => ?_) | refine s_appB (fun _ _ => ?_) | refine s_app (fun _ _ => ?_) | refine s_b0 (fun _ => ?_) | ((fail_if_success refine g_lit rfl rfl rfl ?_); first | apply g_partM rfl rfl rfl | apply g_partMB rfl rfl rfl | fail))
      | refine gS ?_ | exact s_m | intro _)
    refine g_as 7 (v' := int ((i + 1 : Nat) : Int)) rfl (congrArg (Value.int .i64) (by push_cast; rfl)) ?_
    exact gA (i + 1) (by omega) (by omega)
  · have e : l.take i = l := List.take_of_length_le (by omega)
    rw [e]
    repeat (first
      | (refine g_ops ?_; first | refine sO ?_ | refine s_n (fun _ => ?_) | refine s_appB (fun _ _ => ?_) | refine s_app (fun _ _ => ?_) | refine s_b0 (fun _ => ?_) | ((fail_if_success refine g_lit rfl rfl rfl ?_); first | apply g_partM rfl rfl rfl | apply g_partMB rfl rfl rfl | fail))
      | refine gS ?_ | exact s_m | intro _)
    exact gR () trivial
end Go.Proofs.YtdldgbbhagpofaaGreatDoor
