/- Contracts and laws that the proof stands on. -/
import Derived.Test.YtaahibcibgljbaaGreatDoorCallTold12
import Derived.Test.YtaahibcibgljbaaGreatDoorCallTold13
import Derived.Lib.ItoaMem
import Derived.Shelf.Strconv.Itoa1
import Derived.Test.YtaahibcibgljbaaGreatDoorCallTold11
import Derived.Test.YtaahibcibgljbaaGreatDoorCallTold9
set_option linter.unusedSimpArgs false
set_option linter.unusedVariables false
namespace Go.Proofs.YtaahibcibgljbaaGreatDoor
open Go.Sl
theorem small (i : Nat) (h : i < 100) : Does1 Tryz.prog 111 [int i] [] (.string ⟨(Lib.decDigits i).toArray⟩) := fun Γ w hh =>
  (Any.internal_strconv_small Tryz.laysNm283 i h w).mono fun e w' ⟨h1, h2⟩ => by subst h1 h2; exact ⟨(), trivial, rfl, hh⟩
theorem nd20 (u : Nat) (h : u < 18446744073709551616) : Lib.nDigits u ≤ 20 := by
  by_cases h1 : 1 ≤ u
  · have := Lib.numDigits_eq u h1 h
    split at this <;> omega
  · obtain rfl : u = 0 := by omega
    rw [Lib.nDigits_small (by omega)]; omega
theorem fmt (b u : Nat) (e : TypeId) (h64 : u < 18446744073709551616) : Does Tryz.prog 113 [.slice (some ⟨b, 0, none⟩) (Lib.nDigits u) 24, .int .u64 u] [.row b (List.replicate 24 (.int .u8 0)) e] (X := Unit) (fun _ => .tuple #[])
    (fun _ => [.row b (cells8 (Lib.decDigits u) ++ List.replicate (24 - Lib.nDigits u) (.int .u8 0)) e]) (fun _ => True) := fun Γ w hh => by
  have hb := hh.block .here
  have hnd := nd20 u h64
  have hlen := Lib.decDigits_length u
  have hH : Go.Sort.Holds (fun (b : UInt8) => Value.int .u8 (b.toNat : Int)) w b 0 (Array.replicate (Lib.nDigits u) 0) := fun j hj => by
    rw [Array.size_replicate] at hj
    refine ⟨?_, by simp [World.frozen?, hb]⟩
    have : (Array.replicate (Lib.nDigits u) (0 : UInt8))[j]! = 0 := by
      rw [getElem!_pos _ j (by simpa using hj)]; simp
    rw [this]
    simp only [World.cell?, hb, Nat.zero_add]
    simp only [Option.isSome_none, Bool.false_eq_true, if_false]
    rw [List.getElem?_toArray, List.getElem?_replicate, if_pos (by omega)]
    rfl
  have hc := Any.internal_strconv_formatBase10 Tryz.laysNm285 b 0 24 u (Array.replicate (Lib.nDigits u) 0) w hH (by rw [Array.size_replicate]; exact Lib.lt_pow_nDigits u) h64 (by rw [Array.size_replicate]; omega)
  rw [Array.size_replicate] at hc
  refine hc.mono ?_
  rintro e' w' ⟨rfl, n, v', dk, rfl, hF⟩
  refine ⟨(), trivial, rfl, ?_⟩
  refine hh.update .here rfl rfl rfl ?_ rfl (fun c hc => ?_)
  · show (Array.modify w.heap b _)[b]? = _
    rw [Array.getElem?_modify, if_pos rfl, hb]
    simp only [Option.map_some, Go.Sort.onCells, Option.some.injEq, Obj.cells.injEq, and_self, and_true]
    apply Array.ext_getElem?
    intro j
    simp only [Go.Sort.putCells, Array.getElem?_mapIdx, List.getElem?_toArray, hF.size, Nat.zero_le, true_and, Nat.zero_add, Nat.sub_zero]
    by_cases hj : j < 24
    · rw [List.getElem?_replicate, if_pos hj]
      simp only [Option.map_some]
      by_cases hj2 : j < Lib.nDigits u
      · have hj3 : j < (Lib.decDigits u).length := by omega
        rw [if_pos hj2, List.getElem?_append_left (by rw [cells8_len]; exact hj3), ← Lib.row_is_numeral hF j hj3]
        simp [cells8, hj3]
      · rw [if_neg hj2, List.getElem?_append_right (by rw [cells8_len]; omega), cells8_len, List.getElem?_replicate, if_pos (by omega)]
    · rw [List.getElem?_replicate, if_neg hj, List.getElem?_eq_none (by rw [List.length_append, cells8_len, List.length_replicate]; omega)]
      rfl
  · show (Array.modify w.heap b _)[c]? = _
    rw [Array.getElem?_modify, if_neg (Ne.symm hc)]
end Go.Proofs.YtaahibcibgljbaaGreatDoor
namespace Go.Proofs.YtaahibcibgljbaaGreatDoor
open Go.Sl facts
attribute [local irreducible] Code.wp wpList Exit.then Exit.inBlock bodyPost Back MidQ G GP QStep VStep CStep SStep Does Post Reads
theorem srcL {P : Program} {Γ : Ctx} {L : List Chunk} {tx : TypeId} {l : List UInt8} (D : TDesc P tx .string) : SrcIs P Γ L 1 tx (.string ⟨l.toArray⟩) l.length (cells8 l) := srcString (s := ⟨l.toArray⟩) D
theorem cells8_one' (l : List UInt8) : (cells8 l).all (·.oneCell') = true := by simp [cells8, Value.oneCell']
theorem zeros24 : ([(.int .u8 0), (.int .u8 0), (.int .u8 0), (.int .u8 0), (.int .u8 0), (.int .u8 0), (.int .u8 0), (.int .u8 0), (.int .u8 0), (.int .u8 0), (.int .u8 0), (.int .u8 0), (.int .u8 0), (.int .u8 0), (.int .u8 0), (.int .u8 0), (.int .u8 0), (.int .u8 0), (.int .u8 0), (.int .u8 0), (.int .u8 0), (.int .u8 0), (.int .u8 0), (.int .u8 0)] : List Value) = List.replicate 24 (.int .u8 0) := rfl
theorem appendUint {H : HP} (hT : Tb H) (q : Option Addr) (c : Nat) (bs : List UInt8) (u : Nat) (h64 : u < 18446744073709551616) (hl : bs.length ≤ 1000000000000) : Does Tryz.prog 99 [bV q c bs, .int .u64 u, int 10] [bO q c bs, Pile H] (X := BX) (fun y => bV y.q y.c (bs ++ Lib.decDigits u)) (fun y => [bO y.q y.c (bs ++ Lib.decDigits u), Pile H]) (fun _ => True) := by
  have hlen := Lib.decDigits_length u
  have hnd := nd20 u h64
  refine fn_intro Tryz.func99 rfl Tryz.ntmps99 rfl (by simp only [argFr, Nat.zero_add, Nat.reduceAdd]; rfl) (fun Γ => ?_)
  repeat (first
    | (refine g_ops ?_; first | refine sO ?_ | refine s_n (fun _ => ?_) | refine s_app (fun _ _ => ?_) | refine s_b0 (fun _ => ?_) | ((fail_if_success refine g_lit rfl rfl rfl ?_); first | apply g_partM rfl rfl rfl | apply g_partMB rfl rfl rfl | fail))
    | refine gS ?_ | exact s_m | intro _)
  refine g_cond_dec rfl (fun h1 => ?_) (fun h1 => ?_)
  · have hs := small u (by omega)
    repeat (first
      | (refine g_ops ?_; first | refine sO ?_ | refine s_n (fun _ => ?_) | refine s_app (fun _ _ => ?_) | refine s_b0 (fun _ => ?_) | ((fail_if_success refine g_lit rfl rfl rfl ?_); first | apply g_partM rfl rfl rfl | apply g_partMB rfl rfl rfl | fail))
      | refine gS ?_ | exact s_m | intro _)
    refine s_q (q := by exact qs_convInt rfl) ?_
    refine g_as 15 (v' := int (u : Nat)) rfl (congrArg (Value.int .i64) (IntWalk.i64_in _ ⟨by omega, by omega⟩)) ?_
    repeat (first
      | (refine g_ops ?_; first | refine sO ?_ | refine s_n (fun _ => ?_) | refine s_app (fun _ _ => ?_) | refine s_b0 (fun _ => ?_) | ((fail_if_success refine g_lit rfl rfl rfl ?_); first | apply g_partM rfl rfl rfl | apply g_partMB rfl rfl rfl | fail) | refine s_p (hs) ?_)
      | refine gS ?_ | exact s_m | intro _)
    refine s_appB (news := Lib.decDigits u) (fun q' c' => ?_) (src := by exact srcL inferInstance)
    repeat (first
      | (refine g_ops ?_; first | refine sO ?_ | refine s_n (fun _ => ?_) | refine s_app (fun _ _ => ?_) | refine s_b0 (fun _ => ?_) | ((fail_if_success refine g_lit rfl rfl rfl ?_); first | apply g_partM rfl rfl rfl | apply g_partMB rfl rfl rfl | fail))
      | refine gS ?_ | exact s_m | intro _)
    exact gR (⟨q', c'⟩ : BX) trivial
  · have hn := hT.nd u (by omega) h64
    repeat (first
      | (refine g_ops ?_; first | refine sO ?_ | refine s_n (fun _ => ?_) | refine s_app (fun _ _ => ?_) | refine s_b0 (fun _ => ?_) | ((fail_if_success refine g_lit rfl rfl rfl ?_); first | apply g_partM rfl rfl rfl | apply g_partMB rfl rfl rfl | fail) | refine s_k (hn) ?_)
      | refine gS ?_ | exact s_m | intro _)
    rename_i b
    refine s_q (q := by exact qs_sliceArr (n := 24) inferInstance inferInstance rfl rfl (by omega) (by decide)) ?_
    have hf := fun e => fmt b u e h64
    simp only [← zeros24] at hf
    repeat (first
      | (refine g_ops ?_; first | refine sO ?_ | refine s_n (fun _ => ?_) | refine s_app (fun _ _ => ?_) | refine s_b0 (fun _ => ?_) | ((fail_if_success refine g_lit rfl rfl rfl ?_); first | apply g_partM rfl rfl rfl | apply g_partMB rfl rfl rfl | fail) | refine s_c (hf _) (fun _ _ => ?_))
      | refine gS ?_ | exact s_m | intro _)
    refine s_q (q := by exact qs_sliceArr (n := 24) inferInstance inferInstance rfl rfl (by omega) (by decide)) ?_
    refine g_as 26 (v' := .slice (some ⟨b, 0, none⟩) (Lib.decDigits u).length 24) rfl (by rw [hlen]) ?_
    refine s_appB (news := Lib.decDigits u) (fun q' c' => ?_) (src := by exact srcReads inferInstance (Sel.here (L := [Pile H, bO q c bs])) (by rw [cells8_len, Nat.mul_one]) (cells8_one' _) (fun j v hv => reads_row (by rw [Nat.zero_add, List.getElem?_append_left (by have := (List.getElem?_eq_some_iff.1 hv).1; exact this)]; exact hv)))
    repeat (first
      | (refine g_ops ?_; first | refine sO ?_ | refine s_n (fun _ => ?_) | refine s_app (fun _ _ => ?_) | refine s_b0 (fun _ => ?_) | ((fail_if_success refine g_lit rfl rfl rfl ?_); first | apply g_partM rfl rfl rfl | apply g_partMB rfl rfl rfl | fail))
      | refine gS ?_ | exact s_m | intro _)
    exact gR (⟨q', c'⟩ : BX) trivial
end Go.Proofs.YtaahibcibgljbaaGreatDoor
namespace Go.Proofs.YtaahibcibgljbaaGreatDoor
open Go.Sl facts
def decI (n : Int) : List UInt8 := if n < 0 then 45 :: Lib.decDigits n.natAbs else Lib.decDigits n.toNat
mutual
def textL : V → List UInt8
  | .mk k y n s ks l => if k = 1 then [110, 105, 108] else if k = 2 then boolL y else if k = 3 then decI n else if k = 4 then quoteL s else if k = 5 then 91 :: (textK false true ks l ++ [93]) else 123 :: ((if k = 6 then textK true true ks l else []) ++ [125])
def textK : Bool → Bool → List ByteArray → List V → List UInt8
  | _, _, _, [] => []
  | p, first, ks, x :: l => (if first then [] else [44]) ++ ((if p then quoteL (ks.headD ByteArray.empty) ++ [58] else []) ++ (textL x ++ textK p false ks.tail l))
end
theorem textL_mk (k : Int) (y : Bool) (n : Int) (s : ByteArray) (ks : List ByteArray) (l : List V) : textL (.mk k y n s ks l) = if k = 1 then [110, 105, 108] else if k = 2 then boolL y else if k = 3 then decI n else if k = 4 then quoteL s else if k = 5 then 91 :: (textK false true ks l ++ [93]) else 123 :: ((if k = 6 then textK true true ks l else []) ++ [125]) := by rw [textL]
theorem textK_nil (p first : Bool) (ks : List ByteArray) : textK p first ks [] = [] := by rw [textK]
theorem textK_cons (p first : Bool) (ks : List ByteArray) (x : V) (l : List V) : textK p first ks (x :: l) = (if first then [] else [44]) ++ ((if p then quoteL (ks.headD ByteArray.empty) ++ [58] else []) ++ (textL x ++ textK p false ks.tail l)) := by rw [textK]
mutual
def szV : V → Nat
  | .mk _ _ _ s ks l => 1 + s.size + szS ks + szK l
def szK : List V → Nat
  | [] => 0
  | x :: l => szV x + szK l
def szS : List ByteArray → Nat
  | [] => 0
  | s :: l => s.size + szS l
end
theorem szV_mk (k : Int) (y : Bool) (n : Int) (s : ByteArray) (ks : List ByteArray) (l : List V) : szV (.mk k y n s ks l) = 1 + s.size + szS ks + szK l := by rw [szV]
theorem szK_cons (x : V) (l : List V) : szK (x :: l) = szV x + szK l := by rw [szK]
theorem szK_nil : szK [] = 0 := by rw [szK]
theorem szS_cons (x : ByteArray) (l : List ByteArray) : szS (x :: l) = x.size + szS l := by rw [szS]
theorem szS_nil : szS [] = 0 := by rw [szS]
theorem szK_mem {x : V} : ∀ {l : List V}, x ∈ l → szV x ≤ szK l
  | y :: l, h => by
    rw [szK_cons]
    rcases List.mem_cons.1 h with rfl | h
    · omega
    · have := szK_mem h; omega
theorem szS_mem {x : ByteArray} : ∀ {l : List ByteArray}, x ∈ l → x.size ≤ szS l
  | y :: l, h => by
    rw [szS_cons]
    rcases List.mem_cons.1 h with rfl | h
    · omega
    · have := szS_mem h; omega
theorem szS_head (ks : List ByteArray) : (ks.headD ByteArray.empty).size + szS ks.tail ≤ szS ks := by
  cases ks with
  | nil => rw [List.tail_nil, szS_nil]; show 0 + 0 ≤ 0; omega
  | cons a l => rw [szS_cons]; exact Nat.le_refl _
theorem decI_len (n : Int) (h : inI n) : (decI n).length ≤ 21 := by
  unfold inI at h
  unfold decI
  split
  · have := nd20 n.natAbs (by omega)
    rw [List.length_cons, Lib.decDigits_length]; omega
  · have := nd20 n.toNat (by omega)
    rw [Lib.decDigits_length]; omega
inductive VOk : V → Prop where
  | mk {k y n s ks l} (hn : inI n) (h : ∀ x ∈ l, VOk x) : VOk (.mk k y n s ks l)
theorem textK_len (p : Bool) : ∀ (l : List V), (∀ x ∈ l, (textL x).length + 4 ≤ 25 * szV x) → ∀ first ks, (textK p first ks l).length ≤ 4 * szS ks + 25 * szK l
  | [], _, first, ks => by rw [textK_nil]; simp
  | x :: l, h, first, ks => by
    have h1 := h x (List.mem_cons_self ..)
    have h2 := textK_len p l (fun y hy => h y (List.mem_cons_of_mem _ hy)) false ks.tail
    have h3 := szS_head ks
    have h4 := quoteL_len (ks.headD ByteArray.empty)
    rw [textK_cons, szK_cons]
    simp only [List.length_append]
    have h5 : (if first = true then ([] : List UInt8) else [44]).length ≤ 1 := by split <;> simp
    have h6 : (if p = true then quoteL (ks.headD ByteArray.empty) ++ [58] else []).length ≤ 4 * (ks.headD ByteArray.empty).size + 3 := by
      split
      · rw [List.length_append, List.length_singleton]; omega
      · simp
    omega
theorem textL_len (v : V) : VOk v → (textL v).length + 4 ≤ 25 * szV v := by
  refine V.ind (Q := fun v => VOk v → (textL v).length + 4 ≤ 25 * szV v) (fun k y n s ks l ih h => ?_) v
  obtain ⟨hn, hl⟩ := h
  have hk := fun p => textK_len p l (fun x hx => ih x hx (hl x hx)) true ks
  rw [textL_mk, szV_mk]
  have h3 := decI_len n hn
  have h4 := quoteL_len s
  have h5 := hk false
  have h6 := hk true
  split
  · simp; omega
  split
  · unfold boolL; split <;> (simp; omega)
  split
  · omega
  split
  · omega
  split
  · simp only [List.length_cons, List.length_append, List.length_nil]; omega
  · simp only [List.length_cons, List.length_append, List.length_nil]
    split
    · omega
    · simp only [List.length_nil]; omega
theorem TAt.ok {H : HP} {v : V} {x : Value} (h : TAt H v x) (hv : VOk v) : VOk v := hv
attribute [local irreducible] Code.wp wpList Exit.then Exit.inBlock bodyPost Back MidQ G GP QStep VStep CStep SStep Does Post Reads
attribute [local irreducible] textL textK szV szK szS quoteL boolL decI
theorem u64m (z : Int) : IntKind.u64.wrap z = z % 18446744073709551616 := rfl
theorem appendIntI {H : HP} (hT : Tb H) (q : Option Addr) (c : Nat) (bs : List UInt8) (n : Int) (hn : inI n) (hl : bs.length ≤ 100000000000) : Does Tryz.prog 78 [bV q c bs, int n, int 10] [bO q c bs, Pile H] (X := BX) (fun y => bV y.q y.c (bs ++ decI n)) (fun y => [bO y.q y.c (bs ++ decI n), Pile H]) (fun _ => True) := by
  unfold inI at hn
  refine fn_intro Tryz.func78 rfl Tryz.ntmps78 rfl (by simp only [argFr, Nat.zero_add, Nat.reduceAdd]; rfl) (fun Γ => ?_)
  repeat (first
    | (refine g_ops ?_; first | refine sO ?_ | refine s_n (fun _ => ?_) | refine s_appB (fun _ _ => ?_) | refine s_app (fun _ _ => ?_) | refine s_b0 (fun _ => ?_) | ((fail_if_success refine g_lit rfl rfl rfl ?_); first | apply g_partM rfl rfl rfl | apply g_partMB rfl rfl rfl | fail))
    | refine gS ?_ | exact s_m | intro _)
  refine s_q (q := by exact qs_convInt rfl) ?_
  by_cases h0 : n < 0
  · have e : decI n = 45 :: Lib.decDigits n.natAbs := by unfold decI; rw [if_pos h0]
    refine g_as 9 (v' := .int .u64 (n + 18446744073709551616)) rfl (congrArg (Value.int .u64) (by rw [u64m]; omega)) ?_
    repeat (first
      | (refine g_ops ?_; first | refine sO ?_ | refine s_n (fun _ => ?_) | refine s_appB (fun _ _ => ?_) | refine s_app (fun _ _ => ?_) | refine s_b0 (fun _ => ?_) | ((fail_if_success refine g_lit rfl rfl rfl ?_); first | apply g_partM rfl rfl rfl | apply g_partMB rfl rfl rfl | fail))
      | refine gS ?_ | exact s_m | intro _)
    refine g_cond_dec rfl (fun _ => ?_) (fun h => absurd h0 h)
    repeat (first
      | (refine g_ops ?_; first | refine sO ?_ | refine s_n (fun _ => ?_) | refine s_appB (fun _ _ => ?_) | refine s_app (fun _ _ => ?_) | refine s_b0 (fun _ => ?_) | ((fail_if_success refine g_lit rfl rfl rfl ?_); first | apply g_partM rfl rfl rfl | apply g_partMB rfl rfl rfl | fail))
      | refine gS ?_ | exact s_m | intro _)
    rename_i q1 c1
    rw [show cells8 bs ++ [Value.int .u8 45] = cells8 (bs ++ [45]) from cells8_append bs [45], show bs.length + 1 = (bs ++ [45]).length by simp]
    refine s_q (q := by exact qs_neg rfl) ?_
    refine g_as 16 (v' := .int .u64 ((n.natAbs : Nat) : Int)) rfl (congrArg (Value.int .u64) (by rw [u64m]; omega)) ?_
    have hu := appendUint hT q1 c1 (bs ++ [45]) n.natAbs (by omega) (by rw [List.length_append, List.length_singleton]; omega)
    rw [show (bs ++ [45]) ++ Lib.decDigits n.natAbs = bs ++ decI n by rw [e, List.append_assoc]; rfl] at hu
    repeat (first
      | (refine g_ops ?_; first | refine sO ?_ | refine s_n (fun _ => ?_) | refine s_appB (fun _ _ => ?_) | refine s_app (fun _ _ => ?_) | refine s_b0 (fun _ => ?_) | ((fail_if_success refine g_lit rfl rfl rfl ?_); first | apply g_partM rfl rfl rfl | apply g_partMB rfl rfl rfl | fail) | refine s_c (hu) (fun _ _ => ?_))
      | refine gS ?_ | exact s_m | intro _)
    rename_i y _
    exact gR y trivial
  · have e : decI n = Lib.decDigits n.toNat := by unfold decI; rw [if_neg h0]
    refine g_as 9 (v' := .int .u64 ((n.toNat : Nat) : Int)) rfl (congrArg (Value.int .u64) (by rw [u64m]; omega)) ?_
    repeat (first
      | (refine g_ops ?_; first | refine sO ?_ | refine s_n (fun _ => ?_) | refine s_appB (fun _ _ => ?_) | refine s_app (fun _ _ => ?_) | refine s_b0 (fun _ => ?_) | ((fail_if_success refine g_lit rfl rfl rfl ?_); first | apply g_partM rfl rfl rfl | apply g_partMB rfl rfl rfl | fail))
      | refine gS ?_ | exact s_m | intro _)
    refine g_cond_dec rfl (fun h => absurd h h0) (fun _ => ?_)
    have hu := appendUint hT q c bs n.toNat (by omega) (by omega)
    rw [← e] at hu
    repeat (first
      | (refine g_ops ?_; first | refine sO ?_ | refine s_n (fun _ => ?_) | refine s_appB (fun _ _ => ?_) | refine s_app (fun _ _ => ?_) | refine s_b0 (fun _ => ?_) | ((fail_if_success refine g_lit rfl rfl rfl ?_); first | apply g_partM rfl rfl rfl | apply g_partMB rfl rfl rfl | fail) | refine s_c (hu) (fun _ _ => ?_))
      | refine gS ?_ | exact s_m | intro _)
    rename_i y _
    exact gR y trivial
theorem appendInt {H : HP} (hT : Tb H) (q : Option Addr) (c : Nat) (bs : List UInt8) (n : Int) (hn : inI n) (hl : bs.length ≤ 100000000000) : Does Tryz.prog 57 [bV q c bs, int n, int 10] [bO q c bs, Pile H] (X := BX) (fun y => bV y.q y.c (bs ++ decI n)) (fun y => [bO y.q y.c (bs ++ decI n), Pile H]) (fun _ => True) := by
  refine fn_intro Tryz.func57 rfl Tryz.ntmps57 rfl (by simp only [argFr, Nat.zero_add, Nat.reduceAdd]; rfl) (fun Γ => ?_)
  repeat (first
    | (refine g_ops ?_; first | refine sO ?_ | refine s_n (fun _ => ?_) | refine s_appB (fun _ _ => ?_) | refine s_app (fun _ _ => ?_) | refine s_b0 (fun _ => ?_) | ((fail_if_success refine g_lit rfl rfl rfl ?_); first | apply g_partM rfl rfl rfl | apply g_partMB rfl rfl rfl | fail) | refine s_c (appendIntI hT q c bs n hn hl) (fun _ _ => ?_))
    | refine gS ?_ | exact s_m | intro _)
  rename_i y _
  exact gR y trivial
end Go.Proofs.YtaahibcibgljbaaGreatDoor
namespace Go.Sl
open Go Go.RowKit Go.ChangeShapes Go.WideShapes Go.ChangeAt
variable {P : Program} {W : World}
structure Vc where
  k : Int
  y : Bool
  n : Int
  s : ByteArray
  kp : Option Addr
  kn : Nat
  kc : Nat
  p : Option Addr
  m : Nat
  c : Nat
def Vc.cells (u : Vc) : List Value := [.int .i64 u.k, .bool u.y, .int .i64 u.n, .string u.s, .slice u.kp u.kn u.kc, .slice u.p u.m u.c]
theorem Vc.len (u : Vc) : u.cells.length = 6 := rfl
inductive VAt (C : Chunk) : V → Vc → Prop where
  | mk {k y n s ks l kp kc p c} (us : List Vc) (hk : inI k) (hn : inI n) (hs : s.size ≤ 9223372036854775807) (hkl : ks.length ≤ 9223372036854775807) (hks : ∀ x ∈ ks, x.size ≤ 9223372036854775807) (hkS : SlAt C 1 kp ks.length (ks.map .string))
      (hl : l.length ≤ 9223372036854775807) (hu : us.length = l.length) (hS : SlAt C 6 p l.length (us.flatMap Vc.cells)) (h : ∀ (i : Nat) x u, l[i]? = some x → us[i]? = some u → VAt C x u) : VAt C (.mk k y n s ks l) ⟨k, y, n, s, kp, ks.length, kc, p, l.length, c⟩
theorem VAt.grow {H H' : HP} (s : HP.sub H H') {v : V} {u : Vc} (h : VAt (Pile H) v u) : VAt (Pile H') v u := by
  induction h with
  | mk us hk hn hs hkl hks hkS hl hu hS _ ih => exact .mk us hk hn hs hkl hks (hkS.grow s) hl hu (hS.grow s) ih
theorem inI_wfV {n : Int} (h : (Lit.int .i64 n).wf = true) : inI n := by
  simp only [Lit.wf, Bool.and_eq_true, decide_eq_true_eq] at h
  have h1 : IntKind.i64.min = -9223372036854775808 := by decide
  have h2 : IntKind.i64.max = 9223372036854775807 := by decide
  exact ⟨by rw [← h1]; exact h.1, by rw [← h2]; exact h.2⟩
end Go.Sl
namespace Go.Proofs.YtaahibcibgljbaaGreatDoor
open Go.Sl facts
attribute [local irreducible] Code.wp wpList Exit.then Exit.inBlock bodyPost Back MidQ G GP QStep VStep CStep SStep Does Post Reads
attribute [local irreducible] textL textK szV szK szS quoteL boolL decI weigh
abbrev PutD (H : HP) (q : Option Addr) (c : Nat) (bs : List UInt8) (v : V) (x : Value) : Prop := Does Tryz.prog 31 [bV q c bs, x] [bO q c bs, Pile H] (X := BX) (fun y => bV y.q y.c (bs ++ textL v)) (fun y => [bO y.q y.c (bs ++ textL v), Pile H]) (fun _ => True)
structure PuX where
  i : Nat
  bs : List UInt8
  q : Option Addr
  c : Nat
set_option maxHeartbeats 8000000 in
theorem put_ {H : HP} (hT : Tb H) (v : V) : ∀ (x : Value), TAt H v x → VOk v → szV v ≤ 1000000000 → ∀ (q : Option Addr) (c : Nat) (bs : List UInt8), bs.length + (textL v).length ≤ 100000000000 → PutD H q c bs v x := by
  refine V.ind (Q := fun v => ∀ (x : Value), TAt H v x → VOk v → szV v ≤ 1000000000 → ∀ (q : Option Addr) (c : Nat) (bs : List UInt8), bs.length + (textL v).length ≤ 100000000000 → PutD H q c bs v x) (fun k y n s ks l ih x hx hok hsz q c bs hlen => ?_) v
  have ht := textL_mk k y n s ks l
  obtain ⟨hn, hkid⟩ := hok
  rw [szV_mk] at hsz
  unfold PutD
  cases hx with
  | nil =>
    rw [if_pos rfl] at ht
    rw [ht] at hlen ⊢
    refine fn_intro Tryz.func31 rfl Tryz.ntmps31 rfl (by simp only [argFr, Nat.zero_add, Nat.reduceAdd]; rfl) (fun Γ => ?_)
    repeat (first
      | (refine g_ops ?_; first | refine sO ?_ | refine s_n (fun _ => ?_) | refine s_appB (fun _ _ => ?_) | refine s_app (fun _ _ => ?_) | refine s_b0 (fun _ => ?_) | ((fail_if_success refine g_lit rfl rfl rfl ?_); first | apply g_partM rfl rfl rfl | apply g_partMB rfl rfl rfl | fail))
      | refine gS ?_ | exact s_m | intro _)
    refine s_appB (news := [110, 105, 108]) (fun q' c' => ?_) (src := by exact srcString inferInstance) (hb := by simp only [List.length_cons, List.length_nil]; omega) (hb2 := by simp only [List.length_cons, List.length_nil]; omega)
    repeat (first
      | (refine g_ops ?_; first | refine sO ?_ | refine s_n (fun _ => ?_) | refine s_appB (fun _ _ => ?_) | refine s_app (fun _ _ => ?_) | refine s_b0 (fun _ => ?_) | ((fail_if_success refine g_lit rfl rfl rfl ?_); first | apply g_partM rfl rfl rfl | apply g_partMB rfl rfl rfl | fail))
      | refine gS ?_ | exact s_m | intro _)
    exact gR (⟨q', c'⟩ : BX) trivial
  | bool =>
    rw [if_neg (by decide), if_pos rfl] at ht
    rw [ht] at hlen ⊢
    refine fn_intro Tryz.func31 rfl Tryz.ntmps31 rfl (by simp only [argFr, Nat.zero_add, Nat.reduceAdd]; rfl) (fun Γ => ?_)
    repeat (first
      | (refine g_ops ?_; first | refine sO ?_ | refine s_n (fun _ => ?_) | refine s_appB (fun _ _ => ?_) | refine s_app (fun _ _ => ?_) | refine s_b0 (fun _ => ?_) | ((fail_if_success refine g_lit rfl rfl rfl ?_); first | apply g_partM rfl rfl rfl | apply g_partMB rfl rfl rfl | fail) | refine s_c (appendBool q c bs y (by omega)) (fun _ _ => ?_))
      | refine gS ?_ | exact s_m | intro _)
    rename_i y _
    exact gR y trivial
  | int h =>
    rw [if_neg (by decide), if_neg (by decide), if_pos rfl] at ht
    rw [ht] at hlen ⊢
    refine fn_intro Tryz.func31 rfl Tryz.ntmps31 rfl (by simp only [argFr, Nat.zero_add, Nat.reduceAdd]; rfl) (fun Γ => ?_)
    repeat (first
      | (refine g_ops ?_; first | refine sO ?_ | refine s_n (fun _ => ?_) | refine s_appB (fun _ _ => ?_) | refine s_app (fun _ _ => ?_) | refine s_b0 (fun _ => ?_) | ((fail_if_success refine g_lit rfl rfl rfl ?_); first | apply g_partM rfl rfl rfl | apply g_partMB rfl rfl rfl | fail) | refine s_c (appendInt hT q c bs n hn (by omega)) (fun _ _ => ?_))
      | refine gS ?_ | exact s_m | intro _)
    rename_i y _
    exact gR y trivial
  | text h =>
    rw [if_neg (by decide), if_neg (by decide), if_neg (by decide), if_pos rfl] at ht
    rw [ht] at hlen ⊢
    have hq := quote hT s (by omega)
    refine fn_intro Tryz.func31 rfl Tryz.ntmps31 rfl (by simp only [argFr, Nat.zero_add, Nat.reduceAdd]; rfl) (fun Γ => ?_)
    repeat (first
      | (refine g_ops ?_; first | refine sO ?_ | refine s_n (fun _ => ?_) | refine s_appB (fun _ _ => ?_) | refine s_app (fun _ _ => ?_) | refine s_b0 (fun _ => ?_) | ((fail_if_success refine g_lit rfl rfl rfl ?_); first | apply g_partM rfl rfl rfl | apply g_partMB rfl rfl rfl | fail) | refine s_k (hq) ?_)
      | refine gS ?_ | exact s_m | intro _)
    refine s_appB (news := quoteL s) (fun q' c' => ?_) (src := by exact srcL inferInstance)
    repeat (first
      | (refine g_ops ?_; first | refine sO ?_ | refine s_n (fun _ => ?_) | refine s_appB (fun _ _ => ?_) | refine s_app (fun _ _ => ?_) | refine s_b0 (fun _ => ?_) | ((fail_if_success refine g_lit rfl rfl rfl ?_); first | apply g_partM rfl rfl rfl | apply g_partMB rfl rfl rfl | fail))
      | refine gS ?_ | exact s_m | intro _)
    exact gR (⟨q', c'⟩ : BX) trivial
  | other hk h1 h2 h3 h4 h5 =>
    rw [if_neg (by omega), if_neg (by omega), if_neg (by omega), if_neg (by omega), if_neg (by omega), if_neg (by omega)] at ht
    rw [ht] at hlen ⊢
    refine fn_intro Tryz.func31 rfl Tryz.ntmps31 rfl (by simp only [argFr, Nat.zero_add, Nat.reduceAdd]; rfl) (fun Γ => ?_)
    repeat (first
      | (refine g_ops ?_; first | refine sO ?_ | refine s_n (fun _ => ?_) | refine s_appB (fun _ _ => ?_) | refine s_app (fun _ _ => ?_) | refine s_b0 (fun _ => ?_) | ((fail_if_success refine g_lit rfl rfl rfl ?_); first | apply g_partM rfl rfl rfl | apply g_partMB rfl rfl rfl | fail))
      | refine gS ?_ | exact s_m | intro _)
    rename_i q1 c1
    refine g_loop (X := Unit) (fun _ => [(0, .slice q1 (bs.length + 1) c1), (72, .slice none 0 0), (73, int 0), (74, int 0)]) (fun _ => [.own q1 (bs.length + 1) c1 1 (cells8 bs ++ [.int .u8 123]) 5, Pile H]) (fun _ => True) (fun _ => 0) () trivial (by (repeat (first | exact FrSub.nil | refine FrSub.cons rfl ?_)); first | done | fail) (by (repeat (first | exact Take.nil | apply Take.cons | exact Sel.here | apply Sel.there)); first | done | fail) (fun _ _ => ?_)
    repeat (first
      | (refine g_ops ?_; first | refine sO ?_ | refine s_n (fun _ => ?_) | refine s_appB (fun _ _ => ?_) | refine s_app (fun _ _ => ?_) | refine s_b0 (fun _ => ?_) | ((fail_if_success refine g_lit rfl rfl rfl ?_); first | apply g_partM rfl rfl rfl | apply g_partMB rfl rfl rfl | fail))
      | refine gS ?_ | exact s_m | intro _)
    rename_i q2 c2
    rw [show cells8 bs ++ [Value.int .u8 123] ++ [Value.int .u8 125] = cells8 (bs ++ [123, 125]) by rw [← cells8_append, List.append_assoc]; rfl, show bs.length + 1 + 1 = (bs ++ [123, 125]).length by simp]
    exact gR (⟨q2, c2⟩ : BX) trivial
  | @list _ _ _ _ _ p cc vs hv hl hS h =>
    rw [if_neg (by decide), if_neg (by decide), if_neg (by decide), if_neg (by decide), if_pos rfl] at ht
    rw [ht] at hlen ⊢
    refine fn_intro Tryz.func31 rfl Tryz.ntmps31 rfl (by simp only [argFr, Nat.zero_add, Nat.reduceAdd]; rfl) (fun Γ => ?_)
    repeat (first
      | (refine g_ops ?_; first | refine sO ?_ | refine s_n (fun _ => ?_) | refine s_appB (fun _ _ => ?_) | refine s_app (fun _ _ => ?_) | refine s_b0 (fun _ => ?_) | ((fail_if_success refine g_lit rfl rfl rfl ?_); first | apply g_partM rfl rfl rfl | apply g_partMB rfl rfl rfl | fail))
      | refine gS ?_ | exact s_m | intro _)
    rename_i q1 c1
    rw [show cells8 bs ++ [Value.int .u8 91] = cells8 (bs ++ [91]) from cells8_append bs [91], show bs.length + 1 = (bs ++ [91]).length by simp]
    refine g_loop (X := PuX) (fun x => [(0, .slice x.q x.bs.length x.c), (45, .slice p l.length cc), (46, int l.length), (47, int x.i)]) (fun x => [bO x.q x.c x.bs, Pile H])
      (fun x => x.i ≤ l.length ∧ bs ++ (91 :: (textK false true ks l ++ [93])) = x.bs ++ (textK false (decide (x.i = 0)) (ks.drop x.i) (l.drop x.i) ++ [93])) (fun x => l.length - x.i) ⟨0, bs ++ [91], q1, c1⟩ ⟨Nat.zero_le _, by simp⟩ (by (repeat (first | exact FrSub.nil | refine FrSub.cons rfl ?_)); first | done | fail) (by (repeat (first | exact Take.nil | apply Take.cons | exact Sel.here | apply Sel.there)); first | done | fail) (fun x hx => ?_)
    obtain ⟨i, bs1, q, c⟩ := x
    obtain ⟨hi, he⟩ := hx
    dsimp only at hi he ⊢
    have hlen1 := congrArg List.length he
    rw [List.length_append, @List.length_append _ bs1] at hlen1
    repeat (first
      | (refine g_ops ?_; first | refine sO ?_ | refine s_n (fun _ => ?_) | refine s_appB (fun _ _ => ?_) | refine s_app (fun _ _ => ?_) | refine s_b0 (fun _ => ?_) | ((fail_if_success refine g_lit rfl rfl rfl ?_); first | apply g_partM rfl rfl rfl | apply g_partMB rfl rfl rfl | fail))
      | refine gS ?_ | exact s_m | intro _)
    refine g_cond_dec rfl (fun h4 => ?_) (fun h4 => ?_)
    · have hi' : i < l.length := by omega
      have hgl : l[i]? = some l[i] := List.getElem?_eq_getElem hi'
      have hgv : vs[i]? = some (vs[i]'(by omega)) := List.getElem?_eq_getElem _
      have hmem : l[i] ∈ l := List.getElem_mem _
      have hat := h i _ _ hgl hgv
      obtain ⟨b2, o, rfl, hr0⟩ := slAt_cell hS hgv
      rw [List.drop_eq_getElem_cons hi', textK_cons, if_neg Bool.false_ne_true, List.nil_append, List.tail_drop] at he hlen1
      have hsx := szK_mem hmem
      generalize l[i] = x at hat hmem he hlen1 hsx
      generalize vs[i]'_ = w at hat hr0
      simp only [List.length_append, List.length_singleton] at hlen1
      have hr : ∀ k', k' = i → Reads (Pile H) ⟨b2, o + k', none⟩ w := fun _ e => e ▸ hr0
      have hc := ih x hmem w hat (hkid x hmem) (by omega)
      repeat (first
        | (refine g_ops ?_; first | refine sO ?_ | refine s_n (fun _ => ?_) | refine s_appB (fun _ _ => ?_) | refine s_app (fun _ _ => ?_) | refine s_b0 (fun _ => ?_) | ((fail_if_success refine g_lit rfl rfl rfl ?_); first | apply g_partM rfl rfl rfl | apply g_partMB rfl rfl rfl | fail))
        | refine gS ?_ | exact s_m | intro _)
      refine g_cutX (X := PuX) (fun y => [(0, .slice y.q y.bs.length y.c), (11, w), (45, .slice (some ⟨b2, o, none⟩) l.length cc), (46, int l.length), (47, int i)]) (fun y => [bO y.q y.c y.bs, Pile H]) (fun y => y.bs = bs1 ++ (if decide (i = 0) = true then [] else [44])) ?_ (fun y hy => ?_)
      · refine g_cond_dec rfl (fun h5 => ?_) (fun h5 => ?_)
        · repeat (first
            | (refine g_ops ?_; first | refine sO ?_ | refine s_n (fun _ => ?_) | refine s_appB (fun _ _ => ?_) | refine s_app (fun _ _ => ?_) | refine s_b0 (fun _ => ?_) | ((fail_if_success refine g_lit rfl rfl rfl ?_); first | apply g_partM rfl rfl rfl | apply g_partMB rfl rfl rfl | fail))
            | refine gS ?_ | exact s_m | intro _)
          rename_i q2 c2
          rw [show cells8 bs1 ++ [Value.int .u8 44] = cells8 (bs1 ++ [44]) from cells8_append bs1 [44], show bs1.length + 1 = (bs1 ++ [44]).length by simp]
          exact gM ⟨0, bs1 ++ [44], q2, c2⟩ (by dsimp only; rw [if_neg (by simp; omega)])
        · repeat (first
            | (refine g_ops ?_; first | refine sO ?_ | refine s_n (fun _ => ?_) | refine s_appB (fun _ _ => ?_) | refine s_app (fun _ _ => ?_) | refine s_b0 (fun _ => ?_) | ((fail_if_success refine g_lit rfl rfl rfl ?_); first | apply g_partM rfl rfl rfl | apply g_partMB rfl rfl rfl | fail))
            | refine gS ?_ | exact s_m | intro _)
          exact gM ⟨0, bs1, q, c⟩ (by dsimp only; rw [if_pos (by simp; omega), List.append_nil])
      obtain ⟨_, bs2, q2, c2⟩ := y
      dsimp only at hy ⊢
      rw [← List.append_assoc, ← List.append_assoc, ← hy] at he
      have hl2 := congrArg List.length hy
      rw [List.length_append] at hl2
      have hcc := hc q2 c2 bs2 (by omega)
      unfold PutD at hcc
      repeat (first
        | (refine g_ops ?_; first | refine sO ?_ | refine s_n (fun _ => ?_) | refine s_appB (fun _ _ => ?_) | refine s_app (fun _ _ => ?_) | refine s_b0 (fun _ => ?_) | ((fail_if_success refine g_lit rfl rfl rfl ?_); first | apply g_partM rfl rfl rfl | apply g_partMB rfl rfl rfl | fail) | refine s_c (hcc) (fun _ _ => ?_))
        | refine gS ?_ | exact s_m | intro _)
      rename_i y _
      obtain ⟨q3, c3⟩ := y
      dsimp only [List.cons_append, List.nil_append]
      refine g_as 47 (v' := int ((i + 1 : Nat) : Int)) rfl (congrArg (Value.int .i64) (by push_cast; rfl)) ?_
      exact gA ⟨i + 1, bs2 ++ textL x, q3, c3⟩ (by simp only; omega) ⟨hi', by dsimp only; rw [he, decide_eq_false (by omega)]; simp only [List.append_assoc]⟩
    · obtain rfl : i = l.length := by omega
      rw [List.drop_length, textK_nil, List.nil_append] at he
      repeat (first
        | (refine g_ops ?_; first | refine sO ?_ | refine s_n (fun _ => ?_) | refine s_appB (fun _ _ => ?_) | refine s_app (fun _ _ => ?_) | refine s_b0 (fun _ => ?_) | ((fail_if_success refine g_lit rfl rfl rfl ?_); first | apply g_partM rfl rfl rfl | apply g_partMB rfl rfl rfl | fail))
        | refine gS ?_ | exact s_m | intro _)
      rename_i q2 c2
      rw [show cells8 bs1 ++ [Value.int .u8 93] = cells8 (bs1 ++ [93]) from cells8_append bs1 [93], show bs1.length + 1 = (bs1 ++ [93]).length by simp, ← he]
      exact gR (⟨q2, c2⟩ : BX) trivial
  | @pairs _ _ _ _ _ p cc ps hv hl hks hz hS h =>
    rw [if_neg (by decide), if_neg (by decide), if_neg (by decide), if_neg (by decide), if_neg (by decide), if_pos rfl] at ht
    rw [ht] at hlen ⊢
    refine fn_intro Tryz.func31 rfl Tryz.ntmps31 rfl (by simp only [argFr, Nat.zero_add, Nat.reduceAdd]; rfl) (fun Γ => ?_)
    repeat (first
      | (refine g_ops ?_; first | refine sO ?_ | refine s_n (fun _ => ?_) | refine s_appB (fun _ _ => ?_) | refine s_app (fun _ _ => ?_) | refine s_b0 (fun _ => ?_) | ((fail_if_success refine g_lit rfl rfl rfl ?_); first | apply g_partM rfl rfl rfl | apply g_partMB rfl rfl rfl | fail))
      | refine gS ?_ | exact s_m | intro _)
    rename_i q1 c1
    rw [show cells8 bs ++ [Value.int .u8 123] = cells8 (bs ++ [123]) from cells8_append bs [123], show bs.length + 1 = (bs ++ [123]).length by simp]
    refine g_loop (X := PuX) (fun x => [(0, .slice x.q x.bs.length x.c), (72, .slice p l.length cc), (73, int l.length), (74, int x.i)]) (fun x => [bO x.q x.c x.bs, Pile H])
      (fun x => x.i ≤ l.length ∧ bs ++ (123 :: (textK true true ks l ++ [125])) = x.bs ++ (textK true (decide (x.i = 0)) (ks.drop x.i) (l.drop x.i) ++ [125])) (fun x => l.length - x.i) ⟨0, bs ++ [123], q1, c1⟩ ⟨Nat.zero_le _, by simp⟩ (by (repeat (first | exact FrSub.nil | refine FrSub.cons rfl ?_)); first | done | fail) (by (repeat (first | exact Take.nil | apply Take.cons | exact Sel.here | apply Sel.there)); first | done | fail) (fun x hx => ?_)
    obtain ⟨i, bs1, q, c⟩ := x
    obtain ⟨hi, he⟩ := hx
    dsimp only at hi he ⊢
    have hlen1 := congrArg List.length he
    rw [List.length_append, @List.length_append _ bs1] at hlen1
    repeat (first
      | (refine g_ops ?_; first | refine sO ?_ | refine s_n (fun _ => ?_) | refine s_appB (fun _ _ => ?_) | refine s_app (fun _ _ => ?_) | refine s_b0 (fun _ => ?_) | ((fail_if_success refine g_lit rfl rfl rfl ?_); first | apply g_partM rfl rfl rfl | apply g_partMB rfl rfl rfl | fail))
      | refine gS ?_ | exact s_m | intro _)
    refine g_cond_dec rfl (fun h4 => ?_) (fun h4 => ?_)
    · have hi' : i < l.length := by omega
      have hgl : l[i]? = some l[i] := List.getElem?_eq_getElem hi'
      have hgv : ps[i]? = some (ps[i]'(by omega)) := List.getElem?_eq_getElem _
      have hmem : l[i] ∈ l := List.getElem_mem _
      have hat := h i _ _ hgl hgv
      obtain ⟨b2, o, rfl, hrow⟩ := slAt_elem hS Pr.len (by decide) hgv
      have hd1 : ks.drop i = (ps[i]'(by omega)).k :: ks.drop (i + 1) := by
        rw [List.drop_eq_getElem_cons (by rw [hks, List.length_map]; omega)]
        simp [hks]
      have hzi : (ps[i]'(by omega)).k.size ≤ szS ks := szS_mem (by rw [hks]; exact List.mem_map_of_mem (List.mem_of_getElem? hgv))
      rw [List.drop_eq_getElem_cons hi', textK_cons, if_pos rfl, hd1, List.headD_cons, List.tail_cons] at he hlen1
      have hsx := szK_mem hmem
      generalize l[i] = x at hat hmem he hlen1 hsx
      generalize hpi : ps[i]'_ = w at hat hrow hzi he hd1 hlen1
      obtain ⟨wk, wv⟩ := w
      replace hrow : ∀ (j : Nat) (v : Value), [Value.string wk, wv][j]? = some v → Reads (Pile H) ⟨b2, o + i * 2 + j, none⟩ v := hrow
      dsimp only at hat hzi he hd1 hlen1
      simp only [List.length_append, List.length_singleton] at hlen1
      have hw1 : wv.oneCell' = true := by cases hat <;> rfl
      have hc := ih x hmem wv hat (hkid x hmem) (by omega)
      have hq := quote hT wk (by omega)
      repeat (first
        | (refine g_ops ?_; first | refine sO ?_ | refine s_n (fun _ => ?_) | refine s_appB (fun _ _ => ?_) | refine s_app (fun _ _ => ?_) | refine s_b0 (fun _ => ?_) | ((fail_if_success refine g_lit rfl rfl rfl ?_); first | apply g_partM rfl rfl rfl | apply g_partMB rfl rfl rfl | fail))
        | refine gS ?_ | exact s_m | intro _)
      refine g_ops ?_
      refine s_s (q := ss_storeA' inferInstance rfl rfl rfl (show ([Value.string wk, wv].all (·.oneCell')) = true by simp only [List.all_cons, List.all_nil, hw1]; rfl) (by (repeat (first | exact Sel.here | apply Sel.there)); first | done | fail) (by (repeat (first | exact Put.nil | apply Put.here | apply Put.skip)); first | done | fail)) ?_
      repeat (first
        | (refine g_ops ?_; first | refine sO ?_ | refine s_n (fun _ => ?_) | refine s_appB (fun _ _ => ?_) | refine s_app (fun _ _ => ?_) | refine s_b0 (fun _ => ?_) | ((fail_if_success refine g_lit rfl rfl rfl ?_); first | apply g_partM rfl rfl rfl | apply g_partMB rfl rfl rfl | fail))
        | refine gS ?_ | exact s_m | intro _)
      rename_i b15
      refine g_cutX (X := PuX) (fun y => [(0, .slice y.q y.bs.length y.c), (15, ptr b15), (72, .slice (some ⟨b2, o, none⟩) l.length cc), (73, int l.length), (74, int i)]) (fun y => [.row b15 [.string wk, wv] 104, bO y.q y.c y.bs, Pile H]) (fun y => y.bs = bs1 ++ (if decide (i = 0) = true then [] else [44])) ?_ (fun y hy => ?_)
      · refine g_cond_dec rfl (fun h5 => ?_) (fun h5 => ?_)
        · repeat (first
            | (refine g_ops ?_; first | refine sO ?_ | refine s_n (fun _ => ?_) | refine s_appB (fun _ _ => ?_) | refine s_app (fun _ _ => ?_) | refine s_b0 (fun _ => ?_) | ((fail_if_success refine g_lit rfl rfl rfl ?_); first | apply g_partM rfl rfl rfl | apply g_partMB rfl rfl rfl | fail))
            | refine gS ?_ | exact s_m | intro _)
          rename_i q2 c2
          rw [show cells8 bs1 ++ [Value.int .u8 44] = cells8 (bs1 ++ [44]) from cells8_append bs1 [44], show bs1.length + 1 = (bs1 ++ [44]).length by simp]
          exact gM ⟨0, bs1 ++ [44], q2, c2⟩ (by dsimp only; rw [if_neg (by simp; omega)])
        · repeat (first
            | (refine g_ops ?_; first | refine sO ?_ | refine s_n (fun _ => ?_) | refine s_appB (fun _ _ => ?_) | refine s_app (fun _ _ => ?_) | refine s_b0 (fun _ => ?_) | ((fail_if_success refine g_lit rfl rfl rfl ?_); first | apply g_partM rfl rfl rfl | apply g_partMB rfl rfl rfl | fail))
            | refine gS ?_ | exact s_m | intro _)
          exact gM ⟨0, bs1, q, c⟩ (by dsimp only; rw [if_pos (by simp; omega), List.append_nil])
      obtain ⟨_, bs2, q2, c2⟩ := y
      dsimp only at hy ⊢
      rw [← List.append_assoc, ← List.append_assoc, ← hy] at he
      have hl2 := congrArg List.length hy
      rw [List.length_append] at hl2
      have hb2 : (bs2 ++ quoteL wk).length = bs2.length + (quoteL wk).length := List.length_append
      have hcc : ∀ q' c', Does Tryz.prog 31 [.slice q' ((bs2 ++ quoteL wk).length + 1) c', wv] [.own q' ((bs2 ++ quoteL wk).length + 1) c' 1 (cells8 (bs2 ++ quoteL wk) ++ [.int .u8 58]) 5, Pile H] (X := BX)
          (fun y => bV y.q y.c ((bs2 ++ quoteL wk ++ [58]) ++ textL x)) (fun y => [bO y.q y.c ((bs2 ++ quoteL wk ++ [58]) ++ textL x), Pile H]) (fun _ => True) := fun q' c' => by
        rw [show cells8 (bs2 ++ quoteL wk) ++ [Value.int .u8 58] = cells8 (bs2 ++ quoteL wk ++ [58]) from cells8_append _ [58], show (bs2 ++ quoteL wk).length + 1 = (bs2 ++ quoteL wk ++ [58]).length by rw [@List.length_append _ (bs2 ++ quoteL wk) [58], List.length_singleton]]
        exact hc q' c' _ (by simp only [List.length_append, List.length_singleton]; omega)
      repeat (first | refine g_then_normal ?_ | refine g_seq ?_)
      refine g_cutX (X := BX) (fun y => [(0, bV y.q y.c ((bs2 ++ quoteL wk ++ [58]) ++ textL x)), (72, .slice (some ⟨b2, o, none⟩) l.length cc), (73, int l.length), (74, int i)]) (fun y => [bO y.q y.c ((bs2 ++ quoteL wk ++ [58]) ++ textL x), Pile H]) (fun _ => True) ?_ (fun y _ => ?_)
      · refine g_draw (.take 0 (.take 1 (.see 2 [] (.take 7 (.see 8 [] (.two 3 (.two 4 (.one 5 (.one 6 (.one 9 (.take 10 .done)))) 5 (.one 4 (.one 6 (.one 9 (.take 10 .done))))) 5 (.one 3 (.one 4 (.one 6 (.one 9 (.take 10 .done))))))))))) (by kernel_rfl) (C := [.row b15 [.string wk, wv] 104]) (by (repeat (first | exact Take.nil | apply Take.cons | exact Sel.here | apply Sel.there)); first | done | fail) (fun m hd hk => ?_)
        repeat (first
          | (refine gp_take ?_; first | refine pT ?_ | ((fail_if_success refine gp_lit rfl rfl rfl rfl ?_); first | apply gp_guard_dec rfl rfl rfl rfl | apply gp_guard rfl rfl rfl rfl | fail))
          | (refine gp_see ?_; first | refine p_f ?_ | refine pS ?_ | ((fail_if_success refine gp_lit rfl rfl rfl rfl ?_); first | apply gp_guard_dec rfl rfl rfl rfl | apply gp_guard rfl rfl rfl rfl | fail) | refine p_h (hq) hd hk ?_)
          | (refine gp_one ?_; first | refine pO ?_ | refine p_n (fun _ => ?_) | refine p_appB (fun _ _ => ?_) | refine p_app (fun _ _ => ?_) | refine p_b0 (fun _ => ?_) | ((fail_if_success refine gp_lit rfl rfl rfl rfl ?_); first | apply gp_guard_dec rfl rfl rfl rfl | apply gp_guard rfl rfl rfl rfl | fail) | refine p_k (hq) ?_)
          | refine gp_two ?_ ?_ | refine gp_done hd hk ?_ | intro _ | refine p_ta hd hk (fun _ _ _ hd hk => ?_) | refine p_ts hd hk (fun _ hd hk => ?_))
        · refine gp_one ?_
          refine p_appB (news := quoteL wk) (fun q3 c3 => ?_) (src := by exact srcL inferInstance)
          repeat (first
            | (refine gp_take ?_; first | refine pT ?_ | ((fail_if_success refine gp_lit rfl rfl rfl rfl ?_); first | apply gp_guard_dec rfl rfl rfl rfl | apply gp_guard rfl rfl rfl rfl | fail))
            | (refine gp_see ?_; first | refine p_f ?_ | refine pS ?_ | ((fail_if_success refine gp_lit rfl rfl rfl rfl ?_); first | apply gp_guard_dec rfl rfl rfl rfl | apply gp_guard rfl rfl rfl rfl | fail))
            | (refine gp_one ?_; first | refine pO ?_ | refine p_n (fun _ => ?_) | refine p_appB (fun _ _ => ?_) | refine p_app (fun _ _ => ?_) | refine p_b0 (fun _ => ?_) | ((fail_if_success refine gp_lit rfl rfl rfl rfl ?_); first | apply gp_guard_dec rfl rfl rfl rfl | apply gp_guard rfl rfl rfl rfl | fail) | refine p_c (hcc _ _) (fun _ _ => ?_))
            | refine gp_two ?_ ?_ | refine gp_done hd hk ?_ | intro _ | refine p_ta hd hk (fun _ _ _ hd hk => ?_) | refine p_ts hd hk (fun _ hd hk => ?_))
          rename_i y _
          exact gM y trivial
        · repeat (first
            | (refine gp_take ?_; first | refine pT ?_ | ((fail_if_success refine gp_lit rfl rfl rfl rfl ?_); first | apply gp_guard_dec rfl rfl rfl rfl | apply gp_guard rfl rfl rfl rfl | fail))
            | (refine gp_see ?_; first | refine p_f ?_ | refine pS ?_ | ((fail_if_success refine gp_lit rfl rfl rfl rfl ?_); first | apply gp_guard_dec rfl rfl rfl rfl | apply gp_guard rfl rfl rfl rfl | fail) | refine p_h (hq) hd hk ?_)
            | (refine gp_one ?_; first | refine pO ?_ | refine p_n (fun _ => ?_) | refine p_appB (fun _ _ => ?_) | refine p_app (fun _ _ => ?_) | refine p_b0 (fun _ => ?_) | ((fail_if_success refine gp_lit rfl rfl rfl rfl ?_); first | apply gp_guard_dec rfl rfl rfl rfl | apply gp_guard rfl rfl rfl rfl | fail) | refine p_k (hq) ?_)
            | refine gp_two ?_ ?_ | refine gp_done hd hk ?_ | intro _ | refine p_ta hd hk (fun _ _ _ hd hk => ?_) | refine p_ts hd hk (fun _ hd hk => ?_))
          refine gp_one ?_
          refine p_appB (news := quoteL wk) (fun q3 c3 => ?_) (src := by exact srcL inferInstance)
          repeat (first
            | (refine gp_take ?_; first | refine pT ?_ | ((fail_if_success refine gp_lit rfl rfl rfl rfl ?_); first | apply gp_guard_dec rfl rfl rfl rfl | apply gp_guard rfl rfl rfl rfl | fail))
            | (refine gp_see ?_; first | refine p_f ?_ | refine pS ?_ | ((fail_if_success refine gp_lit rfl rfl rfl rfl ?_); first | apply gp_guard_dec rfl rfl rfl rfl | apply gp_guard rfl rfl rfl rfl | fail))
            | (refine gp_one ?_; first | refine pO ?_ | refine p_n (fun _ => ?_) | refine p_appB (fun _ _ => ?_) | refine p_app (fun _ _ => ?_) | refine p_b0 (fun _ => ?_) | ((fail_if_success refine gp_lit rfl rfl rfl rfl ?_); first | apply gp_guard_dec rfl rfl rfl rfl | apply gp_guard rfl rfl rfl rfl | fail) | refine p_c (hcc _ _) (fun _ _ => ?_))
            | refine gp_two ?_ ?_ | refine gp_done hd hk ?_ | intro _ | refine p_ta hd hk (fun _ _ _ hd hk => ?_) | refine p_ts hd hk (fun _ hd hk => ?_))
          rename_i y _
          exact gM y trivial
        · repeat (first
            | (refine gp_take ?_; first | refine pT ?_ | ((fail_if_success refine gp_lit rfl rfl rfl rfl ?_); first | apply gp_guard_dec rfl rfl rfl rfl | apply gp_guard rfl rfl rfl rfl | fail))
            | (refine gp_see ?_; first | refine p_f ?_ | refine pS ?_ | ((fail_if_success refine gp_lit rfl rfl rfl rfl ?_); first | apply gp_guard_dec rfl rfl rfl rfl | apply gp_guard rfl rfl rfl rfl | fail) | refine p_h (hq) hd hk ?_)
            | (refine gp_one ?_; first | refine pO ?_ | refine p_n (fun _ => ?_) | refine p_appB (fun _ _ => ?_) | refine p_app (fun _ _ => ?_) | refine p_b0 (fun _ => ?_) | ((fail_if_success refine gp_lit rfl rfl rfl rfl ?_); first | apply gp_guard_dec rfl rfl rfl rfl | apply gp_guard rfl rfl rfl rfl | fail) | refine p_k (hq) ?_)
            | refine gp_two ?_ ?_ | refine gp_done hd hk ?_ | intro _ | refine p_ta hd hk (fun _ _ _ hd hk => ?_) | refine p_ts hd hk (fun _ hd hk => ?_))
          refine gp_one ?_
          refine p_appB (news := quoteL wk) (fun q3 c3 => ?_) (src := by exact srcL inferInstance)
          repeat (first
            | (refine gp_take ?_; first | refine pT ?_ | ((fail_if_success refine gp_lit rfl rfl rfl rfl ?_); first | apply gp_guard_dec rfl rfl rfl rfl | apply gp_guard rfl rfl rfl rfl | fail))
            | (refine gp_see ?_; first | refine p_f ?_ | refine pS ?_ | ((fail_if_success refine gp_lit rfl rfl rfl rfl ?_); first | apply gp_guard_dec rfl rfl rfl rfl | apply gp_guard rfl rfl rfl rfl | fail))
            | (refine gp_one ?_; first | refine pO ?_ | refine p_n (fun _ => ?_) | refine p_appB (fun _ _ => ?_) | refine p_app (fun _ _ => ?_) | refine p_b0 (fun _ => ?_) | ((fail_if_success refine gp_lit rfl rfl rfl rfl ?_); first | apply gp_guard_dec rfl rfl rfl rfl | apply gp_guard rfl rfl rfl rfl | fail) | refine p_c (hcc _ _) (fun _ _ => ?_))
            | refine gp_two ?_ ?_ | refine gp_done hd hk ?_ | intro _ | refine p_ta hd hk (fun _ _ _ hd hk => ?_) | refine p_ts hd hk (fun _ hd hk => ?_))
          rename_i y _
          exact gM y trivial
      obtain ⟨q3, c3⟩ := y
      dsimp only
      repeat (first
        | (refine g_ops ?_; first | refine sO ?_ | refine s_n (fun _ => ?_) | refine s_appB (fun _ _ => ?_) | refine s_app (fun _ _ => ?_) | refine s_b0 (fun _ => ?_) | ((fail_if_success refine g_lit rfl rfl rfl ?_); first | apply g_partM rfl rfl rfl | apply g_partMB rfl rfl rfl | fail))
        | refine gS ?_ | exact s_m | intro _)
      refine g_as 74 (v' := int ((i + 1 : Nat) : Int)) rfl (congrArg (Value.int .i64) (by push_cast; rfl)) ?_
      exact gA ⟨i + 1, (bs2 ++ quoteL wk ++ [58]) ++ textL x, q3, c3⟩ (by simp only; omega) ⟨hi', by dsimp only; rw [he, decide_eq_false (by omega)]; simp only [List.append_assoc]⟩
    · obtain rfl : i = l.length := by omega
      rw [List.drop_length, textK_nil, List.nil_append] at he
      repeat (first
        | (refine g_ops ?_; first | refine sO ?_ | refine s_n (fun _ => ?_) | refine s_appB (fun _ _ => ?_) | refine s_app (fun _ _ => ?_) | refine s_b0 (fun _ => ?_) | ((fail_if_success refine g_lit rfl rfl rfl ?_); first | apply g_partM rfl rfl rfl | apply g_partMB rfl rfl rfl | fail))
        | refine gS ?_ | exact s_m | intro _)
      rename_i q2 c2
      rw [show cells8 bs1 ++ [Value.int .u8 125] = cells8 (bs1 ++ [125]) from cells8_append bs1 [125], show bs1.length + 1 = (bs1 ++ [125]).length by simp, ← he]
      exact gR (⟨q2, c2⟩ : BX) trivial
end Go.Proofs.YtaahibcibgljbaaGreatDoor
namespace Go.Proofs.YtaahibcibgljbaaGreatDoor
open Go.Sl facts
attribute [local irreducible] Code.wp wpList Exit.then Exit.inBlock bodyPost Back MidQ G GP QStep VStep CStep SStep Does Post Reads
attribute [local irreducible] textL textK szV szK szS quoteL boolL decI weigh
theorem check1 {H : HP} (hV : VStr H) {v : V} {x : Value} (hx : TAt H v x) : Does1 Tryz.prog 27 [x] [Pile H] (int (weigh v 0 0).1) := by
  refine fn_intro Tryz.func27 rfl Tryz.ntmps27 rfl (by simp only [argFr, Nat.zero_add, Nat.reduceAdd]; rfl) (fun Γ => ?_)
  repeat (first
    | (refine g_ops ?_; first | refine sO ?_ | refine s_n (fun _ => ?_) | refine s_appB (fun _ _ => ?_) | refine s_app (fun _ _ => ?_) | refine s_b0 (fun _ => ?_) | ((fail_if_success refine g_lit rfl rfl rfl ?_); first | apply g_partM rfl rfl rfl | apply g_partMB rfl rfl rfl | fail))
    | refine gS ?_ | exact s_m | intro _)
  rename_i b
  have hc := check_ hV v x hx b 0 0 ⟨by decide, by decide⟩ ⟨by decide, by decide⟩
  repeat (first
    | (refine g_ops ?_; first | refine sO ?_ | refine s_n (fun _ => ?_) | refine s_appB (fun _ _ => ?_) | refine s_app (fun _ _ => ?_) | refine s_b0 (fun _ => ?_) | ((fail_if_success refine g_lit rfl rfl rfl ?_); first | apply g_partM rfl rfl rfl | apply g_partMB rfl rfl rfl | fail) | refine s_c (hc) (fun _ _ => ?_))
    | refine gS ?_ | exact s_m | intro _)
  rename_i m _
  exact s_r ()
def textB (v : V) : ByteArray := if (weigh v 0 0).1 = 0 then ⟨(textL v).toArray⟩ else ByteArray.empty
theorem text1 {H : HP} (hT : Tb H) {v : V} {x : Value} (hx : TAt H v x) (hok : VOk v) (hsz : szV v ≤ 1000000000) : Does1 Tryz.prog 15 [x] [Pile H] (.string (textB v)) := by
  have hc := check1 hT.vs hx
  have hlen := textL_len v hok
  refine fn_intro Tryz.func15 rfl Tryz.ntmps15 rfl (by simp only [argFr, Nat.zero_add, Nat.reduceAdd]; rfl) (fun Γ => ?_)
  repeat (first
    | (refine g_ops ?_; first | refine sO ?_ | refine s_n (fun _ => ?_) | refine s_appB (fun _ _ => ?_) | refine s_app (fun _ _ => ?_) | refine s_b0 (fun _ => ?_) | ((fail_if_success refine g_lit rfl rfl rfl ?_); first | apply g_partM rfl rfl rfl | apply g_partMB rfl rfl rfl | fail) | refine s_k (hc) ?_)
    | refine gS ?_ | exact s_m | intro _)
  by_cases h0 : (weigh v 0 0).1 = 0
  · refine g_as 5 (v' := .bool false) rfl (congrArg Value.bool (decide_eq_false (by simpa using h0))) ?_
    have e : textB v = ⟨(textL v).toArray⟩ := if_pos h0
    have hp := put_ hT v x hx hok hsz none 0 [] (by simp only [List.length_nil]; omega)
    unfold PutD at hp
    refine g_own_nil none 1 5 ?_
    repeat (first
      | (refine g_ops ?_; first | refine sO ?_ | refine s_n (fun _ => ?_) | refine s_appB (fun _ _ => ?_) | refine s_app (fun _ _ => ?_) | refine s_b0 (fun _ => ?_) | ((fail_if_success refine g_lit rfl rfl rfl ?_); first | apply g_partM rfl rfl rfl | apply g_partMB rfl rfl rfl | fail) | refine s_c (hp) (fun _ _ => ?_))
      | refine gS ?_ | exact s_m | intro _)
    rename_i y _
    obtain ⟨q, c⟩ := y
    dsimp only [List.nil_append, List.cons_append]
    refine g_v (vs_bytesStr inferInstance inferInstance inferInstance rfl (by (repeat (first | exact Sel.here | apply Sel.there)); first | done | fail)) rfl rfl ?_
    repeat (first
      | (refine g_ops ?_; first | refine sO ?_ | refine s_n (fun _ => ?_) | refine s_appB (fun _ _ => ?_) | refine s_app (fun _ _ => ?_) | refine s_b0 (fun _ => ?_) | ((fail_if_success refine g_lit rfl rfl rfl ?_); first | apply g_partM rfl rfl rfl | apply g_partMB rfl rfl rfl | fail))
      | refine gS ?_ | exact s_m | intro _)
    exact s_r () (hp := by rw [e]; rfl)
  · refine g_as 5 (v' := .bool true) rfl (congrArg Value.bool (decide_eq_true (by simpa using h0))) ?_
    have e : textB v = ByteArray.empty := if_neg h0
    repeat (first
      | (refine g_ops ?_; first | refine sO ?_ | refine s_n (fun _ => ?_) | refine s_appB (fun _ _ => ?_) | refine s_app (fun _ _ => ?_) | refine s_b0 (fun _ => ?_) | ((fail_if_success refine g_lit rfl rfl rfl ?_); first | apply g_partM rfl rfl rfl | apply g_partMB rfl rfl rfl | fail))
      | refine gS ?_ | exact s_m | intro _)
    exact s_r () (hp := by rw [e]; rfl)
end Go.Proofs.YtaahibcibgljbaaGreatDoor

namespace Go.Proofs.YtaahibcibgljbaaGreatDoor
open Go.Sl facts
def most : Int := 1099511627776
def sumF : Int → List Int → Int
  | n, [] => n
  | n, x :: l => if n > most ∨ x > most - n then most else sumF (n + x) l
theorem sumF_ge : ∀ (l : List Int) (n : Int), (∀ x ∈ l, 0 ≤ x) → n ≤ most → n ≤ sumF n l ∧ sumF n l ≤ most
  | [], n, _, h => ⟨Int.le_refl _, h⟩
  | x :: l, n, hl, h => by
    simp only [sumF]
    split
    · exact ⟨h, Int.le_refl _⟩
    · have hx := hl x (List.mem_cons_self ..)
      have := sumF_ge l (n + x) (fun y hy => hl y (List.mem_cons_of_mem _ hy)) (by omega)
      exact ⟨by omega, this.2⟩
theorem sumF_each : ∀ (l : List Int) (n : Int), (∀ x ∈ l, 0 ≤ x) → 0 ≤ n → n ≤ most → ∀ x ∈ l, sumF n l < most → x ≤ sumF n l
  | [], _, _, _, _, x, hx, _ => by cases hx
  | y :: l, n, hl, h0, h, x, hx, hs => by
    simp only [sumF] at hs ⊢
    split at hs
    · exact absurd hs (Int.lt_irrefl _)
    · rename_i hc
      rw [if_neg hc]
      have hy := hl y (List.mem_cons_self ..)
      have hge := sumF_ge l (n + y) (fun z hz => hl z (List.mem_cons_of_mem _ hz)) (by omega)
      rcases List.mem_cons.1 hx with rfl | hx
      · omega
      · exact sumF_each l (n + y) (fun z hz => hl z (List.mem_cons_of_mem _ hz)) (by omega) (by omega) x hx hs
theorem sumF_drop (l : List Int) (i : Nat) (n : Int) (h : i < l.length) : sumF n (l.drop i) = if n > most ∨ l[i] > most - n then most else sumF (n + l[i]) (l.drop (i + 1)) := by
  rw [List.drop_eq_getElem_cons h, sumF]
attribute [local irreducible] Code.wp wpList Exit.then Exit.inBlock bodyPost Back MidQ G GP QStep VStep CStep SStep Does Post Reads
attribute [local irreducible] sumF
end Go.Proofs.YtaahibcibgljbaaGreatDoor
