/- Contracts and laws that the proof stands on. -/
import Derived.Test.YtpilcncdgjnbeaaDoorValuePairs15
import Derived.Lib.AtoiAll
import Derived.Lib.AtoiAllCases
import Derived.Lib.SmallJoins
import Derived.Shelf.Strconv.Itoa3
import Derived.Shelf.Strings.Split
import Derived.Shelf.Strings.SplitShaped
import Derived.Test.YtpilcncdgjnbeaaDoorProg
set_option linter.unusedSimpArgs false
set_option linter.unusedVariables false
namespace Go.Proofs.YtpilcncdgjnbeaaDoor
open Go.Sl
structure RS where
  at_ : Nat
  n : Nat
  bad : Bool
def adv (σ : RS) (k : Nat) : RS := ⟨σ.at_ + k, σ.n, σ.bad⟩
def isT (L : List UInt8) (c : UInt8) (σ : RS) : Bool := !σ.bad && decide (σ.at_ < L.length ∧ L.getD σ.at_ 0 = c)
def wordT (L w : List UInt8) (σ : RS) : Bool := !σ.bad && decide ((L.drop σ.at_).take w.length = w)
def scB : List UInt8 → Nat → Bool → Option Nat
  | [], _, _ => none
  | c :: l, k, esc => if 0 < k ∧ c.toNat = 34 ∧ esc = false then some k else scB l (k + 1) (decide (0 < k ∧ c.toNat = 92 ∧ esc = false))
def textT (L : List UInt8) (σ : RS) : ByteArray × RS := match scB (L.drop σ.at_) 0 false with
  | some i => ((unqS ((L.drop σ.at_).take (i + 1))).1, ⟨σ.at_ + (i + 1), σ.n, σ.bad || !(unqS ((L.drop σ.at_).take (i + 1))).2⟩)
  | none => (ByteArray.empty, ⟨σ.at_, σ.n, true⟩)
def numC (c : UInt8) : Bool := decide (c.toNat = 45 ∨ 48 ≤ c.toNat ∧ c.toNat ≤ 57)
def numLen : List UInt8 → Nat → Nat
  | [], _ => 0
  | _ :: _, 0 => 0
  | c :: l, f + 1 => if numC c = true then numLen l f + 1 else 0
def atoiV (l : List UInt8) : Int × Bool := match Lib.atoiAll l with
  | .ok v => (v, true)
  | .range => (Lib.atoiSat l, false)
  | _ => (0, false)
def numT (L : List UInt8) (σ : RS) : Int × RS :=
  ((atoiV ((L.drop σ.at_).take (numLen (L.drop σ.at_) 20))).1, ⟨σ.at_ + numLen (L.drop σ.at_) 20, σ.n, σ.bad || !(atoiV ((L.drop σ.at_).take (numLen (L.drop σ.at_) 20))).2⟩)
def nilV : V := .mk 1 false 0 ByteArray.empty [] []
def boolV (b : Bool) : V := .mk 2 b 0 ByteArray.empty [] []
def intV (n : Int) : V := .mk 3 false n ByteArray.empty [] []
def textV (s : ByteArray) : V := .mk 4 false 0 s [] []
def listV (l : List V) : V := .mk 5 false 0 ByteArray.empty [] l
def pairsV (ks : List ByteArray) (l : List V) : V := .mk 6 false 0 ByteArray.empty ks l
abbrev wNil : List UInt8 := [110, 105, 108]
abbrev wTrue : List UInt8 := [116, 114, 117, 101]
abbrev wFalse : List UInt8 := [102, 97, 108, 115, 101]
def beg (σ : RS) (dp : Nat) : RS := ⟨σ.at_, σ.n + 1, σ.bad || (decide (1000 < σ.n + 1) || decide (20 < dp))⟩
def col (L : List UInt8) (σ : RS) : RS := if isT L 58 σ = true then adv σ 1 else ⟨σ.at_, σ.n, true⟩
mutual
def valS (L : List UInt8) : Nat → Nat → RS → V × RS
  | 0, _, σ => (nilV, ⟨σ.at_, σ.n + 1, true⟩)
  | F + 1, dp, σ =>
    if (beg σ dp).bad = true then (nilV, beg σ dp) else if wordT L wNil (beg σ dp) = true then (nilV, adv (beg σ dp) 3) else if wordT L wTrue (beg σ dp) = true then (boolV true, adv (beg σ dp) 4)
    else if wordT L wFalse (beg σ dp) = true then (boolV false, adv (beg σ dp) 5)
    else if isT L 91 (beg σ dp) = true then (listV (lsS L F dp true [] (adv (beg σ dp) 1)).1, (lsS L F dp true [] (adv (beg σ dp) 1)).2)
    else if isT L 123 (beg σ dp) = true then (pairsV (prS L F dp true [] [] (adv (beg σ dp) 1)).1 (prS L F dp true [] [] (adv (beg σ dp) 1)).2.1, (prS L F dp true [] [] (adv (beg σ dp) 1)).2.2)
    else if (L.drop (beg σ dp).at_).take 1 = [34] then (textV (textT L (beg σ dp)).1, (textT L (beg σ dp)).2)
    else (intV (numT L (beg σ dp)).1, (numT L (beg σ dp)).2)
def lsS (L : List UInt8) : Nat → Nat → Bool → List V → RS → List V × RS
  | 0, _, _, acc, σ => (acc, ⟨σ.at_, σ.n, true⟩)
  | F + 1, dp, first, acc, σ =>
    if σ.bad = true then (acc, σ) else if isT L 93 σ = true then (acc, adv σ 1)
    else if first = false ∧ isT L 44 σ = false then (acc, ⟨σ.at_, σ.n, true⟩)
    else lsS L F dp false (acc ++ [(valS L F (dp + 1) (adv σ (if first = true then 0 else 1))).1]) (valS L F (dp + 1) (adv σ (if first = true then 0 else 1))).2
def prS (L : List UInt8) : Nat → Nat → Bool → List ByteArray → List V → RS → List ByteArray × List V × RS
  | 0, _, _, ks, acc, σ => (ks, acc, ⟨σ.at_, σ.n, true⟩)
  | F + 1, dp, first, ks, acc, σ =>
    if σ.bad = true then (ks, acc, σ) else if isT L 125 σ = true then (ks, acc, adv σ 1)
    else if first = false ∧ isT L 44 σ = false then (ks, acc, ⟨σ.at_, σ.n, true⟩)
    else prS L F dp false (ks ++ [(textT L (adv σ (if first = true then 0 else 1))).1]) (acc ++ [(valS L F (dp + 1) (col L (textT L (adv σ (if first = true then 0 else 1))).2)).1]) (valS L F (dp + 1) (col L (textT L (adv σ (if first = true then 0 else 1))).2)).2
end
structure Fine (L : List UInt8) (σ σ' : RS) : Prop where
  at_ : σ'.at_ ≤ L.length
  n : σ.n ≤ σ'.n
  m : σ'.n ≤ 1001
  ok : σ'.bad = false → σ'.n ≤ 1000
end Go.Proofs.YtpilcncdgjnbeaaDoor
namespace Go.Sl
open Go.RowKit
theorem does_of_belowX {P : Program} {f : FuncId} {args : List Value} {X : Type} {ret : X → Value} {φ : X → Prop} {H : HP} (h : ∀ w, (∀ b o, H b = some o → w.heap[b]? = some o) → Calls P f args.toArray w fun e w' => ∃ x, φ x ∧ e = .returned (ret x) ∧ Go.RowKit.Below w.heap.size w w') : Does P f args [Pile H] ret (fun _ => [Pile H]) φ := fun Γ w hh => by
  have hH : ∀ b o, H b = some o → w.heap[b]? = some o := by
    obtain ⟨h, _, s, h1, _, _, s1, _, hc, _⟩ := hh.own
    have hc' : h1 = H := hc
    subst hc'
    exact fun b o hb => s _ _ (s1 _ _ hb)
  refine (h w hH).mono ?_
  rintro e w' ⟨x, hx, rfl, hB⟩
  exact ⟨x, hx, rfl, hh.later hB.os hB.tape hB.output hB.size (fun c hc => hB.block c hc)⟩
end Go.Sl
namespace Go.Proofs.YtpilcncdgjnbeaaDoor
open Go.Sl facts Go.RowKit
def VarH (H : HP) (g : Nat) : Prop := ∃ xs e fz ev, H g = some (.cells xs e fz) ∧ xs[0]? = some ev ∧ (ev = .nilIface ∨ ∃ te pe, ev = .iface te pe)
def ErrH (H : HP) : Prop := VarH H 3 ∧ VarH H 4
theorem VarH.cell {H : HP} {g : Nat} (h : VarH H g) {w : World} (hw : ∀ b o, H b = some o → w.heap[b]? = some o) : ∃ ev, w.cell? ⟨g, 0, none⟩ = some ev ∧ (ev = .nilIface ∨ ∃ te pe, ev = .iface te pe) := by
  obtain ⟨xs, e, fz, ev, h1, h2, h3⟩ := h
  refine ⟨ev, ?_, h3⟩
  simp [World.cell?, hw _ _ h1, h2]
def AtH (H : HP) : Prop := ∀ l : List UInt8, l.length ≤ 1000000000 → Does Tryd.prog 72 [.string (txt l)] [Pile H] (X := Value) (fun ev => .tuple #[.int .i64 (atoiV l).1, ev]) (fun _ => [Pile H]) (fun ev => ((atoiV l).2 = true → ev = .nilIface) ∧ ((atoiV l).2 = false → ∃ t v, ev = .iface t v))
theorem txt_list (l : List UInt8) : (txt l).data.toList = l := by simp [txt]
theorem at_of {H : HP} (h : ErrH H) : AtH H := fun l hl => does_of_belowX fun w hw => by
  obtain ⟨e1, v1, k1⟩ := h.1.cell hw
  obtain ⟨e2, v2, k2⟩ := h.2.cell hw
  have hz : (txt l).size = l.length := txt_size l
  cases ha : Lib.atoiAll l with
  | ok v =>
    refine (Any.strconv_Atoi_ok Tryd.laysCNm172 (txt l) (by rw [hz]; omega) v (by rw [txt_list]; exact ha) w).mono ?_
    rintro e w' ⟨rfl, hW⟩
    have hv : atoiV l = (v, true) := by unfold atoiV; rw [ha]
    refine ⟨.nilIface, ⟨fun _ => rfl, fun h => (by rw [hv] at h; cases h)⟩, by rw [hv], ?_⟩
    rcases hW with rfl | ⟨t, rfl⟩
    · exact Below.refl _ _
    · exact Lib.bytesWorld_below _ _ _
  | range =>
    refine (Any.strconv_Atoi_range Tryd.laysCNm172 (txt l) (by rw [hz]; omega) (by rw [txt_list]; exact ha) e2 w v2 k2).mono ?_
    rintro e w' ⟨N, rfl, _, _, hB⟩
    have hv : atoiV l = (Lib.atoiSat l, false) := by unfold atoiV; rw [ha]
    exact ⟨_, ⟨fun h => (by rw [hv] at h; cases h), fun _ => ⟨_, _, rfl⟩⟩, by rw [hv, txt_list], hB⟩
  | _ =>
    refine (Any.strconv_Atoi_syntax Tryd.laysCNm172 (txt l) (by rw [hz]; omega) (by rw [txt_list]; exact ha) e1 w v1 k1).mono ?_
    rintro e w' ⟨N, rfl, _, _, hB⟩
    have hv : atoiV l = (0, false) := by unfold atoiV; rw [ha]
    exact ⟨_, ⟨fun h => (by rw [hv] at h; cases h), fun _ => ⟨_, _, rfl⟩⟩, by rw [hv], hB⟩
theorem VarH.grow {H H' : HP} {g : Nat} (h : VarH H g) (s : HP.sub H H') : VarH H' g := by
  obtain ⟨xs, e, fz, ev, h1, h2, h3⟩ := h
  exact ⟨xs, e, fz, ev, s _ _ h1, h2, h3⟩
theorem ErrH.grow {H H' : HP} (h : ErrH H) (s : HP.sub H H') : ErrH H' := ⟨h.1.grow s, h.2.grow s⟩
end Go.Proofs.YtpilcncdgjnbeaaDoor
namespace Go.Proofs.YtpilcncdgjnbeaaDoor
open Go.Sl facts
attribute [local irreducible] Code.wp wpList Exit.then Exit.inBlock bodyPost Back MidQ G GP QStep VStep CStep SStep Does Post Reads
structure NmX where
  j : Nat
end Go.Proofs.YtpilcncdgjnbeaaDoor
namespace Go.Proofs.YtpilcncdgjnbeaaDoor
open Go.Sl facts
attribute [local irreducible] Code.wp wpList Exit.then Exit.inBlock bodyPost Back MidQ G GP QStep VStep CStep SStep Does Post Reads
structure TtX where
  k : Nat
  f : Nat
  esc : Bool
end Go.Proofs.YtpilcncdgjnbeaaDoor

namespace Go.Proofs.YtpilcncdgjnbeaaDoor
open Go Go.ChangeShapes Go.WideShapes Go.ChangeAt Go.RowKit Go.Sl facts
def lstE : List (String × DataW Unit) := [("math/bits.deBruijn32tab", Rows.laid_math_bits_deBruijn32tab), ("math/bits.deBruijn64tab", Rows.laid_math_bits_deBruijn64tab), ("internal/strconv.uint64pow10", Rows.laid_internal_strconv_uint64pow10), ("unicode/utf8.acceptRanges", Rows.laid_unicode_utf8_acceptRanges), ("strconv.ErrRange", Rows.laid_strconv_ErrRange), ("strconv.ErrSyntax", Rows.laid_strconv_ErrSyntax), ("unicode/utf8.first", Rows.laid_unicode_utf8_first)]
theorem doorE_met (os : Os) (args : Array Value) : laidMetH Tryd.prog lstE ((doorW os).forCall (fun _ _ => 0) ⟨#[], args, []⟩).memory :=
  laidMetH_of_parts3 (fuel := 8) (laidMet_of_run' 8 (by kernel_rfl) (by kernel_rfl)) (by kernel_rfl) (by kernel_rfl)
theorem starE : "*" ++ "errors.errorString" = "*errors.errorString" := by decide
theorem rowE (u : TypeId) (h : Tryd.prog.typeName? 3 u = some "*errors.errorString") : u = 164 :=
  typeName_ptr_named (nm := "errors.errorString") (by rw [starE]; kernel_rfl) (by kernel_rfl) (by decide) u (by rw [starE]; exact h)
theorem var_of {W : World} {n : String} {g : Nat} {v : Value} (hg : Tryd.prog.globalNamed n = some g) (hv : W.var? Tryd.prog n = some #[v]) (h : ∃ t u, v = .iface t u) : VarH (wheap W) g := by
  unfold World.var? at hv
  rw [hg] at hv
  simp only [Option.bind_some] at hv
  split at hv
  · rename_i cs e fz hb
    simp only [Option.some.injEq] at hv
    subst hv
    exact ⟨#[v], e, fz, v, hb, rfl, .inr h⟩
  · cases hv
theorem err_of {W : World} (h : laidMetH Tryd.prog lstE W) : Tb (wheap W) ∧ ErrH (wheap W) := by
  rw [MakeChecks.laidMetH_plain _ _ _ (by kernel_rfl)] at h
  have h4 := laidMet.tail (laidMet.tail (laidMet.tail (laidMet.tail h)))
  refine ⟨tb_of (ut_of h (.tail _ (.tail _ (.tail _ (.tail _ (.tail _ (.tail _ (.head _))))))) (.tail _ (.tail _ (.tail _ (.head _))))) (tabH_of (laidMet.tail (laidMet.tail h))), ?_, ?_⟩
  · obtain ⟨a, s, hv, _⟩ := laid_sentinel (laidMet.tail h4) (show Tryd.prog.globalNamed "strconv.ErrSyntax" = some 3 by kernel_rfl) (show (Tryd.prog.globals[3]?).map (·.type) = some 104 by kernel_rfl) Tryd.underlying104 rowE Tryd.underlying164 Tryd.underlying166 rfl rfl Tryd.underlying9 (by kernel_rfl) (by kernel_rfl)
    exact var_of (by kernel_rfl) hv ⟨_, _, rfl⟩
  · obtain ⟨a, s, hv, _⟩ := laid_sentinel h4 (show Tryd.prog.globalNamed "strconv.ErrRange" = some 4 by kernel_rfl) (show (Tryd.prog.globals[4]?).map (·.type) = some 104 by kernel_rfl) Tryd.underlying104 rowE Tryd.underlying164 Tryd.underlying166 rfl rfl Tryd.underlying9 (by kernel_rfl) (by kernel_rfl)
    exact var_of (by kernel_rfl) hv ⟨_, _, rfl⟩
end Go.Proofs.YtpilcncdgjnbeaaDoor

/-
  DERIVED: THE SHELF's CONTRACTS AT THIS DUMP, IN PLAIN WORDS (tools/lay-plain.mjs out of 'TrydShelP.lean', which tools/lay-shelf.mjs wrote): THE SAME DECLARATIONS UNDER THE SAME NAMES: 'import', 'namespace', 'open', 'def', 'theorem' AND NOTHING ELSE: no command of the shelf's: FOR A HAND-IN. Each laying: the table of numbers ('.._ren') and one theorem, a field a fact of the dump's own or the kernel's comparison; each contract: ONE APPLICATION.
-/
namespace Go.Proofs
open Go.Shelf
def Tryd.laysNm171_ren : Go.Shelf.Ren := ⟨fun | 171 => 73 | 243 => 91 | 246 => 106 | 283 => 108 | 284 => 109 | 285 => 110 | 286 => 111 | 129 => 122 | 317 => 121 | 318 => 123 | 319 => 124 | 320 => 125 | 337 => 130 | 338 => 131 | n => n, fun | 3 => 3 | 9 => 9 | 2 => 2 | 4 => 4 | 171 => 142 | 0 => 0 | 53 => 115 | 37 => 45 | 5 => 5 | 173 => 145 | 212 => 156 | 51 => 124 | 20 => 20 | 213 => 157 | 46 => 37 | 232 => 168 | 233 => 169 | n => n, fun | 17 => 5 | 18 => 6 | 19 => 7 | n => n⟩
theorem Tryd.laysNm171 : Go.Proofs.Lays.n171 Tryd.prog Tryd.laysNm171_ren := {
  mixed := by kernel_rfl
  f129 := Tryd.func122.trans (congrArg some (by kernel_rfl))
  f171 := Tryd.func73.trans (congrArg some (by kernel_rfl))
  f243 := Tryd.func91.trans (congrArg some (by kernel_rfl))
  f246 := Tryd.func106.trans (congrArg some (by kernel_rfl))
  f283 := Tryd.func108.trans (congrArg some (by kernel_rfl))
  f284 := Tryd.func109.trans (congrArg some (by kernel_rfl))
  f285 := Tryd.func110.trans (congrArg some (by kernel_rfl))
  f286 := Tryd.func111.trans (congrArg some (by kernel_rfl))
  f317 := Tryd.func121.trans (congrArg some (by kernel_rfl))
  f318 := Tryd.func123.trans (congrArg some (by kernel_rfl))
  f319 := Tryd.func124.trans (congrArg some (by kernel_rfl))
  f320 := Tryd.func125.trans (congrArg some (by kernel_rfl))
  f337 := Tryd.func130.trans (congrArg some (by kernel_rfl))
  f338 := Tryd.func131.trans (congrArg some (by kernel_rfl))
  t0 := Tryd.underlying0
  a0 := Tryd.isAgg0
  z0 := Tryd.sizeOf0
  v0 := Tryd.zeroValue0
  t2 := Tryd.underlying2
  a2 := Tryd.isAgg2
  z2 := Tryd.sizeOf2
  v2 := Tryd.zeroValue2
  t3 := Tryd.underlying3
  a3 := Tryd.isAgg3
  z3 := Tryd.sizeOf3
  v3 := Tryd.zeroValue3
  t4 := Tryd.underlying4
  a4 := Tryd.isAgg4
  z4 := Tryd.sizeOf4
  v4 := Tryd.zeroValue4
  t5 := Tryd.underlying5
  a5 := Tryd.isAgg5
  z5 := Tryd.sizeOf5
  v5 := Tryd.zeroValue5
  t9 := Tryd.underlying9
  a9 := Tryd.isAgg9
  z9 := Tryd.sizeOf9
  v9 := Tryd.zeroValue9
  t20 := Tryd.underlying20
  a20 := Tryd.isAgg20
  z20 := Tryd.sizeOf20
  v20 := Tryd.zeroValue20
  t37 := Tryd.underlying45
  a37 := Tryd.isAgg45
  z37 := Tryd.sizeOf45
  v37 := Tryd.zeroValue45
  t46 := Tryd.underlying37
  a46 := Tryd.isAgg37
  z46 := Tryd.sizeOf37
  v46 := Tryd.zeroValue37
  t51 := Tryd.underlying124
  a51 := Tryd.isAgg124
  z51 := Tryd.sizeOf124
  v51 := Tryd.zeroValue124
  t53 := Tryd.underlying115
  a53 := Tryd.isAgg115
  z53 := Tryd.sizeOf115
  v53 := Tryd.zeroValue115
  t171 := Tryd.underlying142
  a171 := Tryd.isAgg142
  z171 := Tryd.sizeOf142
  v171 := Tryd.zeroValue142
  t173 := Tryd.underlying145
  a173 := Tryd.isAgg145
  z173 := Tryd.sizeOf145
  v173 := Tryd.zeroValue145
  t212 := Tryd.underlying156
  a212 := Tryd.isAgg156
  z212 := Tryd.sizeOf156
  v212 := Tryd.zeroValue156
  t213 := Tryd.underlying157
  a213 := Tryd.isAgg157
  z213 := Tryd.sizeOf157
  t232 := Tryd.underlying168
  a232 := Tryd.isAgg168
  z232 := Tryd.sizeOf168
  v232 := Tryd.zeroValue168
  t233 := Tryd.underlying169
  a233 := Tryd.isAgg169
  z233 := Tryd.sizeOf169
  v233 := Tryd.zeroValue169
  g17 := by kernel_rfl
  g18 := by kernel_rfl
  g19 := by kernel_rfl }
def Tryd.laysNm146_ren : Go.Shelf.Ren := ⟨fun | 146 => 46 | 221 => 69 | 268 => 86 | 138 => 87 | 143 => 88 | 195 => 98 | 197 => 94 | 218 => 99 | 219 => 100 | 260 => 112 | 217 => 114 | 225 => 115 | 224 => 116 | 267 => 117 | 266 => 126 | 314 => 127 | n => n, fun | 9 => 9 | 31 => 22 | 3 => 3 | 4 => 4 | 0 => 0 | 105 => 122 | 21 => 21 | 5 => 5 | 46 => 37 | 119 => 138 | 139 => 141 | 138 => 140 | 146 => 160 | 51 => 124 | n => n, fun | 1 => 2 | 3 => 0 | 4 => 1 | n => n⟩
theorem Tryd.laysNm146 : Go.Proofs.Lays.n146 Tryd.prog Tryd.laysNm146_ren := {
  mixed := by kernel_rfl
  f138 := Tryd.func87.trans (congrArg some (by kernel_rfl))
  f143 := Tryd.func88.trans (congrArg some (by kernel_rfl))
  f146 := Tryd.func46.trans (congrArg some (by kernel_rfl))
  f195 := Tryd.func98.trans (congrArg some (by kernel_rfl))
  f197 := Tryd.func94.trans (congrArg some (by kernel_rfl))
  f217 := Tryd.func114.trans (congrArg some (by kernel_rfl))
  f218 := Tryd.func99.trans (congrArg some (by kernel_rfl))
  f219 := Tryd.func100.trans (congrArg some (by kernel_rfl))
  f221 := Tryd.func69.trans (congrArg some (by kernel_rfl))
  f224 := Tryd.func116.trans (congrArg some (by kernel_rfl))
  f225 := Tryd.func115.trans (congrArg some (by kernel_rfl))
  f260 := Tryd.func112.trans (congrArg some (by kernel_rfl))
  f266 := Tryd.func126.trans (congrArg some (by kernel_rfl))
  f267 := Tryd.func117.trans (congrArg some (by kernel_rfl))
  f268 := Tryd.func86.trans (congrArg some (by kernel_rfl))
  f314 := Tryd.func127.trans (congrArg some (by kernel_rfl))
  t0 := Tryd.underlying0
  a0 := Tryd.isAgg0
  z0 := Tryd.sizeOf0
  v0 := Tryd.zeroValue0
  t3 := Tryd.underlying3
  a3 := Tryd.isAgg3
  z3 := Tryd.sizeOf3
  v3 := Tryd.zeroValue3
  t4 := Tryd.underlying4
  a4 := Tryd.isAgg4
  z4 := Tryd.sizeOf4
  v4 := Tryd.zeroValue4
  t5 := Tryd.underlying5
  a5 := Tryd.isAgg5
  z5 := Tryd.sizeOf5
  v5 := Tryd.zeroValue5
  t9 := Tryd.underlying9
  a9 := Tryd.isAgg9
  z9 := Tryd.sizeOf9
  v9 := Tryd.zeroValue9
  t21 := Tryd.underlying21
  a21 := Tryd.isAgg21
  z21 := Tryd.sizeOf21
  v21 := Tryd.zeroValue21
  t31 := Tryd.underlying22
  a31 := Tryd.isAgg22
  z31 := Tryd.sizeOf22
  v31 := Tryd.zeroValue22
  t46 := Tryd.underlying37
  a46 := Tryd.isAgg37
  z46 := Tryd.sizeOf37
  v46 := Tryd.zeroValue37
  t51 := Tryd.underlying124
  a51 := Tryd.isAgg124
  z51 := Tryd.sizeOf124
  v51 := Tryd.zeroValue124
  t105 := Tryd.underlying122
  a105 := Tryd.isAgg122
  z105 := Tryd.sizeOf122
  v105 := Tryd.zeroValue122
  t119 := Tryd.underlying138
  a119 := Tryd.isAgg138
  z119 := Tryd.sizeOf138
  t138 := Tryd.underlying140
  a138 := Tryd.isAgg140
  z138 := Tryd.sizeOf140
  v138 := Tryd.zeroValue140
  t139 := Tryd.underlying141
  a139 := Tryd.isAgg141
  z139 := Tryd.sizeOf141
  v139 := Tryd.zeroValue141
  t146 := Tryd.underlying160
  a146 := Tryd.isAgg160
  z146 := Tryd.sizeOf160
  v146 := Tryd.zeroValue160
  g1 := by kernel_rfl
  g3 := by kernel_rfl
  g4 := by kernel_rfl }
def Tryd.laysMNm146_ren : Go.Shelf.Ren := ⟨fun | 146 => 46 | 221 => 69 | 268 => 86 | 138 => 87 | 143 => 88 | 195 => 98 | 197 => 94 | 218 => 99 | 219 => 100 | 260 => 112 | 217 => 114 | 225 => 115 | 224 => 116 | 267 => 117 | 266 => 126 | 314 => 127 | n => n, fun | 9 => 9 | 31 => 22 | 3 => 3 | 4 => 4 | 0 => 0 | 105 => 122 | 21 => 21 | 5 => 5 | 46 => 37 | 119 => 138 | 139 => 141 | 138 => 140 | 146 => 160 | 51 => 124 | n => n, fun | 1 => 2 | 3 => 0 | 4 => 1 | n => n⟩
theorem Tryd.laysMNm146 : Go.Proofs.LaysM.n146 Tryd.prog Tryd.laysMNm146_ren := {
  mixed := by kernel_rfl
  f138 := Tryd.func87.trans (congrArg some (by kernel_rfl))
  f143 := Tryd.func88.trans (congrArg some (by kernel_rfl))
  f146 := Tryd.func46.trans (congrArg some (by kernel_rfl))
  f195 := Tryd.func98.trans (congrArg some (by kernel_rfl))
  f197 := Tryd.func94.trans (congrArg some (by kernel_rfl))
  f217 := Tryd.func114.trans (congrArg some (by kernel_rfl))
  f218 := Tryd.func99.trans (congrArg some (by kernel_rfl))
  f219 := Tryd.func100.trans (congrArg some (by kernel_rfl))
  f221 := Tryd.func69.trans (congrArg some (by kernel_rfl))
  f224 := Tryd.func116.trans (congrArg some (by kernel_rfl))
  f225 := Tryd.func115.trans (congrArg some (by kernel_rfl))
  f260 := Tryd.func112.trans (congrArg some (by kernel_rfl))
  f266 := Tryd.func126.trans (congrArg some (by kernel_rfl))
  f267 := Tryd.func117.trans (congrArg some (by kernel_rfl))
  f268 := Tryd.func86.trans (congrArg some (by kernel_rfl))
  f314 := Tryd.func127.trans (congrArg some (by kernel_rfl))
  t0 := Tryd.underlying0
  a0 := Tryd.isAgg0
  z0 := Tryd.sizeOf0
  v0 := Tryd.zeroValue0
  t3 := Tryd.underlying3
  a3 := Tryd.isAgg3
  z3 := Tryd.sizeOf3
  v3 := Tryd.zeroValue3
  t4 := Tryd.underlying4
  a4 := Tryd.isAgg4
  z4 := Tryd.sizeOf4
  v4 := Tryd.zeroValue4
  t5 := Tryd.underlying5
  a5 := Tryd.isAgg5
  z5 := Tryd.sizeOf5
  v5 := Tryd.zeroValue5
  t9 := Tryd.underlying9
  a9 := Tryd.isAgg9
  z9 := Tryd.sizeOf9
  v9 := Tryd.zeroValue9
  t21 := Tryd.underlying21
  a21 := Tryd.isAgg21
  z21 := Tryd.sizeOf21
  v21 := Tryd.zeroValue21
  t31 := Tryd.underlying22
  a31 := Tryd.isAgg22
  z31 := Tryd.sizeOf22
  v31 := Tryd.zeroValue22
  t46 := Tryd.underlying37
  a46 := Tryd.isAgg37
  z46 := Tryd.sizeOf37
  v46 := Tryd.zeroValue37
  t51 := Tryd.underlying124
  a51 := Tryd.isAgg124
  z51 := Tryd.sizeOf124
  v51 := Tryd.zeroValue124
  t105 := Tryd.underlying122
  a105 := Tryd.isAgg122
  z105 := Tryd.sizeOf122
  v105 := Tryd.zeroValue122
  t119 := Tryd.underlying138
  a119 := Tryd.isAgg138
  z119 := Tryd.sizeOf138
  t138 := Tryd.underlying140
  a138 := Tryd.isAgg140
  z138 := Tryd.sizeOf140
  v138 := Tryd.zeroValue140
  t139 := Tryd.underlying141
  a139 := Tryd.isAgg141
  z139 := Tryd.sizeOf141
  v139 := Tryd.zeroValue141
  t146 := Tryd.underlying160
  a146 := Tryd.isAgg160
  z146 := Tryd.sizeOf160
  v146 := Tryd.zeroValue160
  g1 := by kernel_rfl
  g3 := by kernel_rfl
  g4 := by kernel_rfl
  i0 := by kernel_rfl
  i3 := by kernel_rfl
  i4 := by kernel_rfl
  i5 := by kernel_rfl
  i9 := by kernel_rfl
  i21 := by kernel_rfl
  i31 := by kernel_rfl
  i46 := by kernel_rfl
  i51 := by kernel_rfl
  i105 := by kernel_rfl
  i138 := by kernel_rfl
  i139 := by kernel_rfl
  i146 := by kernel_rfl
  m1 := by kernel_rfl
  s1_3 := fun w h => Go.Proofs.cell_of_shapedOpen_int (zero := #[.int .i64 0]) (t := 3) h (of_decide_eq_true (by kernel_rfl)) (by kernel_rfl) rfl (by kernel_rfl) (by kernel_rfl) Tryd.underlying3
  m3 := by kernel_rfl
  m4 := by kernel_rfl }
end Go.Proofs

namespace Go.Proofs.YtpilcncdgjnbeaaDoor
open Go.Sl facts
attribute [local irreducible] Code.wp wpList Exit.then Exit.inBlock bodyPost Back MidQ G GP QStep VStep CStep SStep Does Post Reads
structure LsX where
  f : Nat
  first : Bool
  acc : List V
  σ : RS
  q : Option Addr
  c : Nat
  vs : List Value
  H : HP
structure PrX where
  f : Nat
  first : Bool
  acc : List V
  σ : RS
  q : Option Addr
  c : Nat
  ps : List Pr
  H : HP
end Go.Proofs.YtpilcncdgjnbeaaDoor

namespace Go.Proofs.YtpilcncdgjnbeaaDoor
open Go.Sl
theorem nDigits_le : ∀ (k u : Nat), 1 ≤ k → u < 10 ^ k → Lib.nDigits u ≤ k
  | 0, _, h, _ => by omega
  | k + 1, u, _, h => by
    by_cases hu : u < 10
    · rw [Lib.nDigits_small hu]; omega
    · rw [Lib.nDigits_big hu]
      by_cases hk : k = 0
      · subst hk; simp at h; omega
      · have := nDigits_le k (u / 10) (by omega) (by rw [Nat.pow_succ] at h; omega)
        omega
theorem dec_num : ∀ u : Nat, ∀ c ∈ Lib.decDigits u, 48 ≤ c.toNat ∧ c.toNat ≤ 57 := by
  intro u
  induction u using Nat.strongRecOn with
  | _ u ih =>
    intro c hc
    by_cases h : u < 10
    · rw [Lib.decDigits_one h, List.mem_singleton] at hc
      rw [hc, dig_toNat u h]; omega
    · rw [decDigits_snoc h] at hc
      rcases List.mem_append.1 hc with hc | hc
      · exact ih (u / 10) (by omega) c hc
      · rw [List.mem_singleton] at hc
        rw [hc, dig_toNat _ (by omega)]; omega
theorem decI_len20 (n : Int) (h : inI n) : (decI n).length ≤ 20 ∧ 1 ≤ (decI n).length := by
  unfold inI at h
  have hd := fun u (hu : u < 10 ^ 19) => nDigits_le 19 u (by decide) hu
  have hp := Lib.nDigits_pos
  unfold decI
  split
  · rw [List.length_cons, Lib.decDigits_length]
    have := hd n.natAbs (by omega)
    omega
  · rw [Lib.decDigits_length]
    have := hd n.toNat (by omega)
    have := hp n.toNat
    omega
theorem pu_append : ∀ (l r : List UInt8) (acc a : Nat), Lib.parseUint10 acc l = .ok a → Lib.parseUint10 acc (l ++ r) = Lib.parseUint10 a r
  | [], r, acc, a, h => by
    simp only [Lib.parseUint10] at h
    injection h with h
    rw [h]; rfl
  | c :: l, r, acc, a, h => by
    simp only [List.cons_append, Lib.parseUint10] at h ⊢
    split at h
    · rename_i h1
      rw [if_pos h1]
      split at h
      · cases h
      · rename_i h2
        rw [if_neg h2]
        split at h
        · cases h
        · rename_i h3
          rw [if_neg h3]
          exact pu_append l r _ a h
    · cases h
theorem pu_dec : ∀ u : Nat, u < 18446744073709551616 → Lib.parseUint10 0 (Lib.decDigits u) = .ok u := by
  intro u
  induction u using Nat.strongRecOn with
  | _ u ih =>
    intro hu
    by_cases h : u < 10
    · rw [Lib.decDigits_one h]
      simp only [Lib.parseUint10, dig_toNat u h]
      rw [if_pos (by omega), if_neg (by omega), if_neg (by omega)]
      congr 1; omega
    · rw [decDigits_snoc h, pu_append _ _ _ _ (ih (u / 10) (by omega) (by omega))]
      simp only [Lib.parseUint10, dig_toNat (u % 10) (by omega)]
      rw [if_pos (by omega), if_neg (by omega), if_neg (by omega)]
      congr 1; omega
theorem dec_ne (u : Nat) : Lib.decDigits u ≠ [] := fun h => by
  have := congrArg List.length h
  rw [Lib.decDigits_length] at this
  have := Lib.nDigits_pos u
  simp at *
  omega
theorem atoi_dec (n : Int) (h : inI n) : atoiV (decI n) = (n, true) := by
  unfold inI at h
  have key : Lib.atoiAll (decI n) = .ok n := by
    unfold decI
    by_cases h0 : n < 0
    · rw [if_pos h0]
      unfold Lib.atoiAll
      have hm : Lib.parseMag (Lib.decDigits n.natAbs) = .ok n.natAbs := by
        unfold Lib.parseMag
        rw [if_neg (dec_ne _), pu_dec _ (by omega)]
      simp only [show (45 : UInt8).toNat = 45 from rfl, or_true, if_true, hm, not_true, false_and, if_false, true_and]
      rw [if_neg (by omega)]
      congr 1; omega
    · rw [if_neg h0]
      have hm : Lib.parseMag (Lib.decDigits n.toNat) = .ok n.toNat := by
        unfold Lib.parseMag
        rw [if_neg (dec_ne _), pu_dec _ (by omega)]
      have hn := dec_num n.toNat
      cases hd : Lib.decDigits n.toNat with
      | nil => exact absurd hd (dec_ne _)
      | cons c r =>
        have hc := hn c (by rw [hd]; exact List.mem_cons_self ..)
        rw [hd] at hm
        unfold Lib.atoiAll
        have e1 : ¬ c.toNat = 43 := by omega
        have e2 : ¬ c.toNat = 45 := by omega
        simp only [e1, e2, or_self, if_false, hm, not_false_eq_true, true_and, false_and]
        rw [if_neg (show ¬ 9223372036854775808 ≤ n.toNat by omega)]
        exact congrArg Lib.NumEnd.ok (by omega)
  unfold atoiV
  rw [key]
end Go.Proofs.YtpilcncdgjnbeaaDoor
namespace Go.Proofs.YtpilcncdgjnbeaaDoor
open Go.Sl facts
def rdP (L : List UInt8) : V × RS := valS L 2004 0 ⟨0, 0, false⟩
theorem weighL_all {p : Bool} : ∀ (l : List V) (pr : Option ByteArray) (ks : List ByteArray) (lv n : Int), (weighL p pr ks l lv n).1 = 0 → ∀ x ∈ l, ∃ lv n, (weigh x lv n).1 = 0
  | [], _, _, _, _, _, x, hx => by cases hx
  | a :: l, pr, ks, lv, n, e, x, hx => by
    rw [weighL_cons] at e
    split at e
    · cases e
    · split at e
      · rename_i h2
        rcases List.mem_cons.1 hx with rfl | hx
        · exact ⟨_, _, h2⟩
        · exact weighL_all l _ _ _ _ e x hx
      · rename_i h2
        exact absurd e h2
attribute [local irreducible] Code.wp wpList Exit.then Exit.inBlock bodyPost Back MidQ G GP QStep VStep CStep SStep Does Post Reads
attribute [local irreducible] valS lsS prS rdP textB
end Go.Proofs.YtpilcncdgjnbeaaDoor

namespace Go.Sl
variable {P : Program} {Γ : Ctx} {L R : List Chunk} {N : Nat} {fr : Fr} {Q : Exit → Act → World → Prop} {ops : Array Oper} {rest : List Oper}
variable {d : Nat} {ty : TypeId} {pos : String} {aft : Array Edge} {gd : Option (Nat × Bool)} {x y z : Operand} {v u : Value} {t t2 tx : TypeId}
theorem madeR (zs : List Value) (hn : 0 < zs.length) (m : Nat) : (madeCells zs.toArray (m * zs.length)).toList = (List.replicate m ()).flatMap (fun _ => zs) := by
  simp only [madeCells]
  induction m with
  | zero => simp
  | succ m ih =>
    rw [List.replicate_succ', List.flatMap_append, List.flatMap_singleton, ← ih]
    apply List.ext_getElem
    · simp [Nat.succ_mul]
    · intro i h1 h2
      simp only [Array.length_toList, Array.size_map, Array.size_range] at h1
      rw [Nat.succ_mul] at h1
      rw [List.getElem_append]
      split
      · simp
      · rename_i h
        simp only [Array.length_toList, Array.size_map, Array.size_range] at h
        have hm : i % zs.length = i - m * zs.length := by
          have hr : i - m * zs.length < zs.length := by omega
          have e : i = (i - m * zs.length) + zs.length * m := by rw [Nat.mul_comm zs.length m]; omega
          rw [e, Nat.add_mul_mod_self_left, Nat.mod_eq_of_lt hr, ← e]
        have hr : i - m * zs.length < zs.length := by omega
        simp [hm, hr]
theorem cs_makeR {e m n k : Nat} {zs : List Value} {zv : Value} (D : TDesc P t (.slice e)) (S : TSize P e n) (Z : TZero P e zv) (B : TBytes P e k) (hz1 : zv.cells = zs.toArray) (hz2 : zs.length = n) (hn : 0 < n) (hz3 : zs.all (·.oneCell') = true) (hx : ev fr x = some (.int .i64 (m : Int))) (hy : ev fr y = some (.int .i64 (m : Int))) (h63 : m ≤ 1000000000) (hb : k ≤ 1000) :
    CStep P Γ fr L ⟨some d, .makeSlice t x y, ty, pos, aft, gd⟩ (X := Nat) (fun b => .slice (some ⟨b, 0, none⟩) m m) (fun b => .own (some ⟨b, 0, none⟩) m m n ((List.replicate m ()).flatMap fun _ => zs) e :: L) (fun _ => True) :=
  cs_of (fun a w hf hh => by
    subst hz2
    cases hi : P.info? e with
    | none => have := S.size; simp [hi] at this
    | some i =>
      have hsz : i.size = zs.length := by have := S.size; simpa [hi] using this
      have hz : i.zero = some zv := by have := Z.zero; simpa [hi] using this
      have hk : i.bytes = k := by have := B.bytes; simpa [hi] using this
      have hmul : k * m ≤ 1000 * 1000000000 := Nat.mul_le_mul hb h63
      have hr := run_make w t e i _ D.desc hi hz .i64 .i64 (m : Int) (m : Int) (by omega) (Int.le_refl _) (by rw [hk]; rw [← Int.natCast_mul]; omega) (by omega)
      rw [hsz, Int.toNat_natCast] at hr
      refine ⟨w.heap.size, w.alloc (.cells (madeCells zv.cells (m * zs.length)) e), trivial, by simp only [execOp, hf.ev hx, hf.ev hy]; rw [Sem.run_bind, hr]; rfl, ?_⟩
      refine Holds.toOwn ?_ (by rw [← madeR zs hn]; simp [size_madeCells]) (by
        rw [List.all_eq_true]
        intro c hc
        obtain ⟨_, _, hc⟩ := List.mem_flatMap.1 hc
        exact List.all_eq_true.1 hz3 c hc)
      have hnew := hh.newRow (e := e) (xs := madeCells zv.cells (m * zs.length))
      have e1 : madeCells zv.cells (m * zs.length) = ((List.replicate m ()).flatMap fun _ => zs).toArray := by
        apply Array.ext'
        rw [hz1]
        exact madeR zs hn m
      rw [e1] at hnew ⊢
      exact hnew)
theorem ss_storeOwnA {b k len cap n m : Nat} {xs vs : List Value} {e : TypeId} (T : TSize P t m) (hx : ev fr x = some (.pointer (some ⟨b, k, none⟩))) (hy : ev fr y = some v) (hv : v.cells.toList = vs) (hm : vs.length = m) (h1 : vs.all (·.oneCell') = true) (s : Sel L (.own (some ⟨b, 0, none⟩) len cap n xs e) R) (hk : k + vs.length ≤ xs.length) (hk0 : 0 < xs.length) :
    SStep P Γ fr L ⟨none, .store t x y, ty, pos, aft, gd⟩ (.own (some ⟨b, 0, none⟩) len cap n (xs.take k ++ vs ++ xs.drop (k + vs.length)) e :: R) := fun a hf w hh => by
  obtain ⟨junk, ⟨hl, ho⟩, e3, e4, hrow⟩ := hh.ownRow s hk0
  have hst := ss_storeE (P := P) (Γ := Γ) (fr := fr) (t := t) (ty := ty) (pos := pos) (aft := aft) (gd := gd) (n := m) (vs := vs) (ys := (xs ++ junk).take k ++ vs ++ (xs ++ junk).drop (k + vs.length)) hx hy (.here (L := R)) hv hm h1 (Nat.zero_le _) ⟨by simp only [List.length_append]; omega, rfl⟩ a hf w hrow
  refine hst.mono fun u w' h => h.mono fun _ ⟨k1, k2, dj', t1, t2, hc', hr'⟩ => ⟨k1, k2, dj', t1, t2, ⟨⟨by rw [← hl]; simp; omega, ?_⟩, .inr ⟨b, junk, rfl, e3, e4, ?_⟩⟩, hr'⟩
  · rw [List.all_eq_true] at ho h1 ⊢
    intro z hz
    rcases List.mem_append.1 hz with hz | hz
    · rcases List.mem_append.1 hz with hz | hz
      · exact ho z (List.mem_of_mem_take hz)
      · exact h1 z hz
    · exact ho z (List.mem_of_mem_drop hz)
  · have hc'' : k1 b = some (.cells ((xs ++ junk).take k ++ vs ++ (xs ++ junk).drop (k + vs.length)).toArray e (0, 0)) := hc'
    rw [hc'', List.take_append_of_le_length (by omega), List.drop_append_of_le_length (by omega)]
    simp
end Go.Sl
namespace Go.Proofs.YtpilcncdgjnbeaaDoor
open Go.Sl facts
attribute [local irreducible] Code.wp wpList Exit.then Exit.inBlock bodyPost Back MidQ G GP QStep VStep CStep SStep Does Post Reads
abbrev zPr : List Value := [.string ByteArray.empty, .nilIface]
theorem flat_len' {qs : List Pr} {l : List V} {i : Nat} (h : qs.length = i) : (qs.flatMap Pr.cells ++ (List.replicate (l.length - i) ()).flatMap fun _ => zPr).length = i * 2 + (l.length - i) * 2 := by
  rw [List.length_append, flat_len Pr.len, flat_len (f := fun _ : Unit => zPr) (n := 2) (fun _ => rfl), List.length_replicate, h]
theorem put_next {qs : List Pr} {m i : Nat} (hl : qs.length = i) (k : ByteArray) (w : Value) :
    (qs.flatMap Pr.cells ++ (List.replicate (m + 1) ()).flatMap fun _ => zPr).take (0 + i * 2) ++ [.string k, w] ++ (qs.flatMap Pr.cells ++ (List.replicate (m + 1) ()).flatMap fun _ => zPr).drop (0 + i * 2 + [Value.string k, w].length) = (qs ++ [(⟨k, w⟩ : Pr)]).flatMap Pr.cells ++ (List.replicate m ()).flatMap fun _ => zPr := by
  have e : 0 + i * 2 = (qs.flatMap Pr.cells).length := by rw [flat_len Pr.len, hl]; omega
  have e2 : (List.replicate (m + 1) ()).flatMap (fun _ => zPr) = zPr ++ (List.replicate m ()).flatMap fun _ => zPr := by rw [List.replicate_succ, List.flatMap_cons]
  rw [e, List.take_left' rfl, e2, ← List.drop_drop, List.drop_left, List.flatMap_append]
  simp [Pr.cells]
theorem tatq_at {H H' : HP} {l : List V} {qs : List Pr} {i : Nat} {x : V} {k : ByteArray} {w : Value} (hs : HP.sub H H') (hl : qs.length = i) (h : ∀ (j : Nat) a q, l[j]? = some a → qs[j]? = some q → TAt H a q.v) (hx : l[i]? = some x) (hw : TAt H' x w) : ∀ (j : Nat) a q', l[j]? = some a → (qs ++ [(⟨k, w⟩ : Pr)])[j]? = some q' → TAt H' a q'.v := fun j a u' h1 h2 => by
  rcases Nat.lt_or_ge j qs.length with hlt | hge
  · rw [List.getElem?_append_left hlt] at h2
    exact (h j a u' h1 h2).grow hs
  · rw [List.getElem?_append_right hge] at h2
    have hj : j = i := by
      have := (List.getElem?_eq_some_iff.1 h2).1
      simp only [List.length_singleton] at this
      omega
    subst hj
    rw [hl, Nat.sub_self] at h2
    rw [hx] at h1
    cases h1
    cases h2
    exact hw
structure OpX where
  i : Nat
  qs : List Pr
  H : HP
structure OwX where
  i : Nat
  ws : List Value
  H : HP
theorem flat_nil1 (m : Nat) (v : Value) : ((List.replicate m ()).flatMap fun _ => [v]) = List.replicate m v := by
  induction m with
  | zero => rfl
  | succ m ih => rw [List.replicate_succ, List.flatMap_cons, ih, List.replicate_succ]; rfl
theorem set_next (ws : List Value) (m : Nat) (z w : Value) : (ws ++ List.replicate (m + 1) z).set ws.length w = ws ++ [w] ++ List.replicate m z := by
  rw [List.set_append_right _ _ (Nat.le_refl _), Nat.sub_self, List.replicate_succ]; simp
theorem tats_at {H H' : HP} {l : List V} {ws : List Value} {i : Nat} {x : V} {w : Value} (hs : HP.sub H H') (hl : ws.length = i) (h : ∀ (j : Nat) a u, l[j]? = some a → ws[j]? = some u → TAt H a u) (hx : l[i]? = some x) (hw : TAt H' x w) : ∀ (j : Nat) a u', l[j]? = some a → (ws ++ [w])[j]? = some u' → TAt H' a u' := fun j a u' h1 h2 => by
  rcases Nat.lt_or_ge j ws.length with hlt | hge
  · rw [List.getElem?_append_left hlt] at h2
    exact (h j a u' h1 h2).grow hs
  · rw [List.getElem?_append_right hge] at h2
    have hj : j = i := by
      have := (List.getElem?_eq_some_iff.1 h2).1
      simp only [List.length_singleton] at this
      omega
    subst hj
    rw [hl, Nat.sub_self] at h2
    rw [hx] at h1
    cases h1
    cases h2
    exact hw
abbrev OwnD (H : HP) (v : V) (x : Value) : Prop := Does Tryd.prog 45 [x] [Pile H] (X := HP × Value) (fun y => y.2) (fun y => [Pile y.1]) (fun y => HP.sub H y.1 ∧ TAt y.1 v y.2)
set_option maxHeartbeats 4000000 in
theorem own_ (v : V) : ∀ (H : HP) (x : Value), TAt H v x → szV v ≤ 100000000 → OwnD H v x := by
  refine V.ind (Q := fun v => ∀ (H : HP) (x : Value), TAt H v x → szV v ≤ 100000000 → OwnD H v x) (fun k y n s ks l ih H x hx hsz => ?_) v
  unfold OwnD
  rw [szV_mk] at hsz
  have hsl := szK_len l
  have hx0 := hx
  cases hx with
  | nil =>
    refine fn_intro Tryd.func45 rfl Tryd.ntmps45 rfl (by simp only [argFr, Nat.zero_add, Nat.reduceAdd]; rfl) (fun Γ => ?_)
    repeat (first
      | (refine g_ops ?_; first | refine sO ?_ | refine s_n (fun _ => ?_) | refine s_app (fun _ _ => ?_) | refine s_b0 (fun _ => ?_) | ((fail_if_success refine g_lit rfl rfl rfl ?_); first | apply g_partM rfl rfl rfl | apply g_partMB rfl rfl rfl | fail))
      | refine gS ?_ | exact s_m | intro _)
    exact gR (H, .nilIface) ⟨HP.sub.refl _, hx0⟩
  | bool =>
    refine fn_intro Tryd.func45 rfl Tryd.ntmps45 rfl (by simp only [argFr, Nat.zero_add, Nat.reduceAdd]; rfl) (fun Γ => ?_)
    repeat (first
      | (refine g_ops ?_; first | refine sO ?_ | refine s_n (fun _ => ?_) | refine s_app (fun _ _ => ?_) | refine s_b0 (fun _ => ?_) | ((fail_if_success refine g_lit rfl rfl rfl ?_); first | apply g_partM rfl rfl rfl | apply g_partMB rfl rfl rfl | fail))
      | refine gS ?_ | exact s_m | intro _)
    exact gR (H, .iface 4 (.bool y)) ⟨HP.sub.refl _, hx0⟩
  | int hn =>
    refine fn_intro Tryd.func45 rfl Tryd.ntmps45 rfl (by simp only [argFr, Nat.zero_add, Nat.reduceAdd]; rfl) (fun Γ => ?_)
    repeat (first
      | (refine g_ops ?_; first | refine sO ?_ | refine s_n (fun _ => ?_) | refine s_app (fun _ _ => ?_) | refine s_b0 (fun _ => ?_) | ((fail_if_success refine g_lit rfl rfl rfl ?_); first | apply g_partM rfl rfl rfl | apply g_partMB rfl rfl rfl | fail))
      | refine gS ?_ | exact s_m | intro _)
    exact gR (H, .iface 3 (int n)) ⟨HP.sub.refl _, hx0⟩
  | text hs =>
    refine fn_intro Tryd.func45 rfl Tryd.ntmps45 rfl (by simp only [argFr, Nat.zero_add, Nat.reduceAdd]; rfl) (fun Γ => ?_)
    repeat (first
      | (refine g_ops ?_; first | refine sO ?_ | refine s_n (fun _ => ?_) | refine s_app (fun _ _ => ?_) | refine s_b0 (fun _ => ?_) | ((fail_if_success refine g_lit rfl rfl rfl ?_); first | apply g_partM rfl rfl rfl | apply g_partMB rfl rfl rfl | fail))
      | refine gS ?_ | exact s_m | intro _)
    exact gR (H, .iface 9 (.string s)) ⟨HP.sub.refl _, hx0⟩
  | list vs hv hl hS h =>
    rename_i p c
    refine fn_intro Tryd.func45 rfl Tryd.ntmps45 rfl (by simp only [argFr, Nat.zero_add, Nat.reduceAdd]; rfl) (fun Γ => ?_)
    repeat (first
      | (refine g_ops ?_; first | refine sO ?_ | refine s_n (fun _ => ?_) | refine s_app (fun _ _ => ?_) | refine s_b0 (fun _ => ?_) | ((fail_if_success refine g_lit rfl rfl rfl ?_); first | apply g_partM rfl rfl rfl | apply g_partMB rfl rfl rfl | fail))
      | refine gS ?_ | exact s_m | intro _)
    refine g_ops ?_
    refine s_n (q := cs_makeR (zs := [.nilIface]) (n := 1) inferInstance inferInstance inferInstance inferInstance rfl rfl (by decide) rfl rfl rfl (by omega) (by decide)) (fun b => ?_)
    repeat (first
      | (refine g_ops ?_; first | refine sO ?_ | refine s_n (fun _ => ?_) | refine s_app (fun _ _ => ?_) | refine s_b0 (fun _ => ?_) | ((fail_if_success refine g_lit rfl rfl rfl ?_); first | apply g_partM rfl rfl rfl | apply g_partMB rfl rfl rfl | fail))
      | refine gS ?_ | exact s_m | intro _)
    rw [flat_nil1]
    refine g_loop (X := OwX) (fun x => [(18, .slice p l.length c), (19, int l.length), (20, int x.i), (4, .slice (some ⟨b, 0, none⟩) l.length l.length)]) (fun x => [.own (some ⟨b, 0, none⟩) l.length l.length 1 (x.ws ++ List.replicate (l.length - x.i) .nilIface) 20, Pile x.H])
      (fun x => x.i ≤ l.length ∧ x.ws.length = x.i ∧ HP.sub H x.H ∧ ∀ (j : Nat) a w, l[j]? = some a → x.ws[j]? = some w → TAt x.H a w) (fun x => l.length - x.i) ⟨0, [], H⟩ ⟨Nat.zero_le _, rfl, HP.sub.refl _, fun j a w _ hw => (nil_get hw).elim⟩ (by (repeat (first | exact FrSub.nil | refine FrSub.cons rfl ?_)); first | done | fail) (by (repeat (first | exact Take.nil | apply Take.cons | exact Sel.here | apply Sel.there)); first | done | fail) (fun x hx => ?_)
    obtain ⟨i, ws, H1⟩ := x
    obtain ⟨hi, hwl, hs1, hts⟩ := hx
    dsimp only at hi hwl hs1 hts ⊢
    repeat (first
      | (refine g_ops ?_; first | refine sO ?_ | refine s_n (fun _ => ?_) | refine s_app (fun _ _ => ?_) | refine s_b0 (fun _ => ?_) | ((fail_if_success refine g_lit rfl rfl rfl ?_); first | apply g_partM rfl rfl rfl | apply g_partMB rfl rfl rfl | fail))
      | refine gS ?_ | exact s_m | intro _)
    refine g_cond_dec rfl (fun h2 => ?_) (fun h2 => ?_)
    · have hi' : i < l.length := by omega
      have hgl : l[i]? = some l[i] := List.getElem?_eq_getElem hi'
      have hgv : vs[i]? = some (vs[i]'(by omega)) := List.getElem?_eq_getElem _
      have hmem : l[i] ∈ l := List.getElem_mem _
      have hat := (h i _ _ hgl hgv).grow hs1
      obtain ⟨b3, o, rfl, hr0⟩ := slAt_cell (hS.grow hs1) hgv
      have hsx := szK_mem hmem
      generalize l[i] = x at hat hmem hsx hgl
      generalize vs[i]'_ = w at hat hr0
      have hr : ∀ k', k' = i → Reads (Pile H1) ⟨b3, o + k', none⟩ w := fun _ e => e ▸ hr0
      have hc := ih x hmem H1 w hat (by omega)
      unfold OwnD at hc
      have hw1 := hat.one
      repeat (first
        | (refine g_ops ?_; first | refine sO ?_ | refine s_n (fun _ => ?_) | refine s_app (fun _ _ => ?_) | refine s_b0 (fun _ => ?_) | ((fail_if_success refine g_lit rfl rfl rfl ?_); first | apply g_partM rfl rfl rfl | apply g_partMB rfl rfl rfl | fail) | refine s_c (hc) (fun _ _ => ?_))
        | refine gS ?_ | exact s_m | intro _)
      rename_i z hz
      obtain ⟨H2, w2⟩ := z
      obtain ⟨hs2, hat2⟩ := hz
      dsimp only [List.cons_append, List.nil_append] at hs2 hat2 ⊢
      have hw2 := hat2.one
      refine g_ops ?_
      refine g_s (ss_storeOwn (v := w2) inferInstance rfl rfl hw2 (by (repeat (first | exact Sel.here | apply Sel.there)); first | done | fail) (by simp; omega)) rfl ?_
      rw [show 0 + i = ws.length by omega, show l.length - i = (l.length - (i + 1)) + 1 by omega, set_next]
      repeat (first
        | (refine g_ops ?_; first | refine sO ?_ | refine s_n (fun _ => ?_) | refine s_app (fun _ _ => ?_) | refine s_b0 (fun _ => ?_) | ((fail_if_success refine g_lit rfl rfl rfl ?_); first | apply g_partM rfl rfl rfl | apply g_partMB rfl rfl rfl | fail))
        | refine gS ?_ | exact s_m | intro _)
      refine g_as 20 (v' := int ((i + 1 : Nat) : Int)) rfl (congrArg (Value.int .i64) (by push_cast; rfl)) ?_
      refine gA ⟨i + 1, ws ++ [w2], H2⟩ (by simp only; omega) ⟨hi', by simp [hwl], hs1.trans hs2, tats_at hs2 hwl hts hgl hat2⟩
    · obtain rfl : i = l.length := by omega
      rw [Nat.sub_self, List.replicate_zero, List.append_nil]
      repeat (first
        | (refine g_ops ?_; first | refine sO ?_ | refine s_n (fun _ => ?_) | refine s_app (fun _ _ => ?_) | refine s_b0 (fun _ => ?_) | ((fail_if_success refine g_lit rfl rfl rfl ?_); first | apply g_partM rfl rfl rfl | apply g_partMB rfl rfl rfl | fail))
        | refine gS ?_ | exact s_m | intro _)
      refine g_pile (n := 1) (by (repeat (first | exact Sel.here | apply Sel.there)); first | done | fail) (by (repeat (first | exact Sel.here | apply Sel.there)); first | done | fail) (fun H2 hs2 hS2 => ?_)
      exact gR (H2, .iface 35 (.slice (some ⟨b, 0, none⟩) l.length l.length)) ⟨hs1.trans hs2, .list ws hwl hl hS2 fun j a w h1 h2 => (hts j a w h1 h2).grow hs2⟩
  | pairs ps hv hl hk hz hS h =>
    rename_i p c
    refine fn_intro Tryd.func45 rfl Tryd.ntmps45 rfl (by simp only [argFr, Nat.zero_add, Nat.reduceAdd]; rfl) (fun Γ => ?_)
    repeat (first
      | (refine g_ops ?_; first | refine sO ?_ | refine s_n (fun _ => ?_) | refine s_app (fun _ _ => ?_) | refine s_b0 (fun _ => ?_) | ((fail_if_success refine g_lit rfl rfl rfl ?_); first | apply g_partM rfl rfl rfl | apply g_partMB rfl rfl rfl | fail))
      | refine gS ?_ | exact s_m | intro _)
    refine g_ops ?_
    refine s_n (q := cs_makeR (zs := zPr) (n := 2) inferInstance inferInstance inferInstance inferInstance rfl rfl (by decide) rfl rfl rfl (by omega) (by decide)) (fun b => ?_)
    repeat (first
      | (refine g_ops ?_; first | refine sO ?_ | refine s_n (fun _ => ?_) | refine s_app (fun _ _ => ?_) | refine s_b0 (fun _ => ?_) | ((fail_if_success refine g_lit rfl rfl rfl ?_); first | apply g_partM rfl rfl rfl | apply g_partMB rfl rfl rfl | fail))
      | refine gS ?_ | exact s_m | intro _)
    refine g_loop (X := OpX) (fun x => [(39, .slice p l.length c), (40, int l.length), (41, int x.i), (8, .slice (some ⟨b, 0, none⟩) l.length l.length)]) (fun x => [.own (some ⟨b, 0, none⟩) l.length l.length 2 (x.qs.flatMap Pr.cells ++ (List.replicate (l.length - x.i) ()).flatMap fun _ => zPr) 42, Pile x.H])
      (fun x => x.i ≤ l.length ∧ x.qs.length = x.i ∧ x.qs.map Pr.k = ks.take x.i ∧ HP.sub H x.H ∧ ∀ (j : Nat) a q, l[j]? = some a → x.qs[j]? = some q → TAt x.H a q.v) (fun x => l.length - x.i) ⟨0, [], H⟩ ⟨Nat.zero_le _, rfl, rfl, HP.sub.refl _, fun j a w _ hw => by simp at hw⟩ (by (repeat (first | exact FrSub.nil | refine FrSub.cons rfl ?_)); first | done | fail) (by (repeat (first | exact Take.nil | apply Take.cons | exact Sel.here | apply Sel.there)); first | done | fail) (fun x hx => ?_)
    obtain ⟨i, qs, H1⟩ := x
    obtain ⟨hi, hwl, hqk, hs1, hts⟩ := hx
    dsimp only at hi hwl hqk hs1 hts ⊢
    repeat (first
      | (refine g_ops ?_; first | refine sO ?_ | refine s_n (fun _ => ?_) | refine s_app (fun _ _ => ?_) | refine s_b0 (fun _ => ?_) | ((fail_if_success refine g_lit rfl rfl rfl ?_); first | apply g_partM rfl rfl rfl | apply g_partMB rfl rfl rfl | fail))
      | refine gS ?_ | exact s_m | intro _)
    refine g_cond_dec rfl (fun h2 => ?_) (fun h2 => ?_)
    · have hi' : i < l.length := by omega
      have hgl : l[i]? = some l[i] := List.getElem?_eq_getElem hi'
      have hgv : ps[i]? = some (ps[i]'(by omega)) := List.getElem?_eq_getElem _
      have hmem : l[i] ∈ l := List.getElem_mem _
      have hat := (h i _ _ hgl hgv).grow hs1
      obtain ⟨b3, o, rfl, hrow⟩ := slAt_elem (hS.grow hs1) Pr.len (by decide) hgv
      have hsx := szK_mem hmem
      generalize l[i] = x at hat hmem hsx hgl
      generalize ps[i]'_ = w at hat hrow hgv
      have htake : ks.take (i + 1) = ks.take i ++ [w.k] := by rw [List.take_add_one, hk, List.getElem?_map, hgv]; rfl
      obtain ⟨wk, wv⟩ := w
      replace hrow : ∀ (j : Nat) (v : Value), [Value.string wk, wv][j]? = some v → Reads (Pile H1) ⟨b3, o + i * 2 + j, none⟩ v := hrow
      dsimp only at hat htake
      have hc := ih x hmem H1 wv hat (by omega)
      unfold OwnD at hc
      have hw1 := hat.one
      repeat (first
        | (refine g_ops ?_; first | refine sO ?_ | refine s_n (fun _ => ?_) | refine s_app (fun _ _ => ?_) | refine s_b0 (fun _ => ?_) | ((fail_if_success refine g_lit rfl rfl rfl ?_); first | apply g_partM rfl rfl rfl | apply g_partMB rfl rfl rfl | fail))
        | refine gS ?_ | exact s_m | intro _)
      rename_i pb
      refine g_ops ?_
      refine s_s (q := ss_storeA' inferInstance rfl rfl rfl (show ([Value.string wk, wv].all (·.oneCell')) = true by simp only [List.all_cons, List.all_nil, hw1]; rfl) (by (repeat (first | exact Sel.here | apply Sel.there)); first | done | fail) (by (repeat (first | exact Put.nil | apply Put.here | apply Put.skip)); first | done | fail)) ?_
      repeat (first | refine gS ?_ | refine g_cond_true rfl ?_)
      refine g_draw (.take 0 (.take 1 (.take 2 (.see 3 [] (.take 4 (.see 5 [] (.one 6 (.take 7 (.take 8 (.one 9 .done)))))))))) (by kernel_rfl) (C := [.row pb [.string wk, wv] 42]) (by (repeat (first | exact Take.nil | apply Take.cons | exact Sel.here | apply Sel.there)); first | done | fail) (fun m hd hk => ?_)
      repeat (first
        | (refine gp_take ?_; first | refine pT ?_ | ((fail_if_success refine gp_lit rfl rfl rfl rfl ?_); first | apply gp_guard_dec rfl rfl rfl rfl | apply gp_guard rfl rfl rfl rfl | fail))
        | (refine gp_see ?_; first | refine p_f ?_ | refine pS ?_ | ((fail_if_success refine gp_lit rfl rfl rfl rfl ?_); first | apply gp_guard_dec rfl rfl rfl rfl | apply gp_guard rfl rfl rfl rfl | fail))
        | (refine gp_one ?_; first | refine pO ?_ | refine p_n (fun _ => ?_) | refine p_app (fun _ _ => ?_) | refine p_b0 (fun _ => ?_) | ((fail_if_success refine gp_lit rfl rfl rfl rfl ?_); first | apply gp_guard_dec rfl rfl rfl rfl | apply gp_guard rfl rfl rfl rfl | fail) | refine p_c (hc) (fun _ _ => ?_))
        | refine gp_two ?_ ?_ | refine gp_done hd hk ?_ | intro _ | refine p_ta hd hk (fun _ _ _ hd hk => ?_) | refine p_ts hd hk (fun _ hd hk => ?_))
      rename_i z hz
      obtain ⟨H2, w2⟩ := z
      obtain ⟨hs2, hat2⟩ := hz
      dsimp only [List.cons_append, List.nil_append, List.append_eq] at hs2 hat2 ⊢
      rcases hat2.shape with rfl | ⟨t, v', rfl⟩
      · repeat (first
          | (refine gp_take ?_; first | refine pT ?_ | ((fail_if_success refine gp_lit rfl rfl rfl rfl ?_); first | apply gp_guard_dec rfl rfl rfl rfl | apply gp_guard rfl rfl rfl rfl | fail))
          | (refine gp_see ?_; first | refine p_f ?_ | refine pS ?_ | ((fail_if_success refine gp_lit rfl rfl rfl rfl ?_); first | apply gp_guard_dec rfl rfl rfl rfl | apply gp_guard rfl rfl rfl rfl | fail))
          | (refine gp_one ?_; first | refine pO ?_ | refine p_n (fun _ => ?_) | refine p_app (fun _ _ => ?_) | refine p_b0 (fun _ => ?_) | ((fail_if_success refine gp_lit rfl rfl rfl rfl ?_); first | apply gp_guard_dec rfl rfl rfl rfl | apply gp_guard rfl rfl rfl rfl | fail))
          | refine gp_two ?_ ?_ | refine gp_done hd hk ?_ | intro _ | refine p_ta hd hk (fun _ _ _ hd hk => ?_) | refine p_ts hd hk (fun _ hd hk => ?_))
        refine gp_one ?_
        refine p_s (q := ss_storeOwnA (vs := [.string wk, .nilIface]) inferInstance rfl rfl rfl rfl rfl (by (repeat (first | exact Sel.here | apply Sel.there)); first | done | fail) (by rw [flat_len' hwl]; simp only [List.length_cons, List.length_nil]; omega) (by rw [flat_len' hwl]; omega)) ?_
        refine gp_done hd hk ?_
        rw [show l.length - i = (l.length - (i + 1)) + 1 by omega, put_next hwl]
        dsimp only [List.cons_append, List.nil_append, List.append_eq]
        repeat (first
          | (refine g_ops ?_; first | refine sO ?_ | refine s_n (fun _ => ?_) | refine s_app (fun _ _ => ?_) | refine s_b0 (fun _ => ?_) | ((fail_if_success refine g_lit rfl rfl rfl ?_); first | apply g_partM rfl rfl rfl | apply g_partMB rfl rfl rfl | fail))
          | refine gS ?_ | exact s_m | intro _)
        refine g_as 41 (v' := int ((i + 1 : Nat) : Int)) rfl (congrArg (Value.int .i64) (by push_cast; rfl)) ?_
        refine gA ⟨i + 1, qs ++ [⟨wk, .nilIface⟩], H2⟩ (by simp only; omega) ⟨hi', by simp [hwl], by dsimp only; rw [List.map_append, hqk, htake]; rfl, hs1.trans hs2, tatq_at hs2 hwl hts hgl hat2⟩
      · repeat (first
          | (refine gp_take ?_; first | refine pT ?_ | ((fail_if_success refine gp_lit rfl rfl rfl rfl ?_); first | apply gp_guard_dec rfl rfl rfl rfl | apply gp_guard rfl rfl rfl rfl | fail))
          | (refine gp_see ?_; first | refine p_f ?_ | refine pS ?_ | ((fail_if_success refine gp_lit rfl rfl rfl rfl ?_); first | apply gp_guard_dec rfl rfl rfl rfl | apply gp_guard rfl rfl rfl rfl | fail))
          | (refine gp_one ?_; first | refine pO ?_ | refine p_n (fun _ => ?_) | refine p_app (fun _ _ => ?_) | refine p_b0 (fun _ => ?_) | ((fail_if_success refine gp_lit rfl rfl rfl rfl ?_); first | apply gp_guard_dec rfl rfl rfl rfl | apply gp_guard rfl rfl rfl rfl | fail))
          | refine gp_two ?_ ?_ | refine gp_done hd hk ?_ | intro _ | refine p_ta hd hk (fun _ _ _ hd hk => ?_) | refine p_ts hd hk (fun _ hd hk => ?_))
        refine gp_one ?_
        refine p_s (q := ss_storeOwnA (vs := [.string wk, .iface t v']) inferInstance rfl rfl rfl rfl rfl (by (repeat (first | exact Sel.here | apply Sel.there)); first | done | fail) (by rw [flat_len' hwl]; simp only [List.length_cons, List.length_nil]; omega) (by rw [flat_len' hwl]; omega)) ?_
        refine gp_done hd hk ?_
        rw [show l.length - i = (l.length - (i + 1)) + 1 by omega, put_next hwl]
        dsimp only [List.cons_append, List.nil_append, List.append_eq]
        repeat (first
          | (refine g_ops ?_; first | refine sO ?_ | refine s_n (fun _ => ?_) | refine s_app (fun _ _ => ?_) | refine s_b0 (fun _ => ?_) | ((fail_if_success refine g_lit rfl rfl rfl ?_); first | apply g_partM rfl rfl rfl | apply g_partMB rfl rfl rfl | fail))
          | refine gS ?_ | exact s_m | intro _)
        refine g_as 41 (v' := int ((i + 1 : Nat) : Int)) rfl (congrArg (Value.int .i64) (by push_cast; rfl)) ?_
        refine gA ⟨i + 1, qs ++ [⟨wk, .iface t v'⟩], H2⟩ (by simp only; omega) ⟨hi', by simp [hwl], by dsimp only; rw [List.map_append, hqk, htake]; rfl, hs1.trans hs2, tatq_at hs2 hwl hts hgl hat2⟩
    · obtain rfl : i = l.length := by omega
      rw [Nat.sub_self, List.replicate_zero, List.flatMap_nil, List.append_nil]
      have hkk : ks.take l.length = ks := List.take_of_length_le (by rw [hk, List.length_map]; omega)
      rw [hkk] at hqk
      repeat (first
        | (refine g_ops ?_; first | refine sO ?_ | refine s_n (fun _ => ?_) | refine s_app (fun _ _ => ?_) | refine s_b0 (fun _ => ?_) | ((fail_if_success refine g_lit rfl rfl rfl ?_); first | apply g_partM rfl rfl rfl | apply g_partMB rfl rfl rfl | fail))
        | refine gS ?_ | exact s_m | intro _)
      refine g_pile (n := 2) (by (repeat (first | exact Sel.here | apply Sel.there)); first | done | fail) (by (repeat (first | exact Sel.here | apply Sel.there)); first | done | fail) (fun H2 hs2 hS2 => ?_)
      exact gR (H2, .iface 47 (.slice (some ⟨b, 0, none⟩) l.length l.length)) ⟨hs1.trans hs2, .pairs qs hwl hl hqk.symm (fun q hq => by
        have hm : q.k ∈ ps.map Pr.k := by rw [← hk, ← hqk]; exact List.mem_map_of_mem hq
        obtain ⟨q', hq', e⟩ := List.mem_map.1 hm
        rw [← e]; exact hz q' hq') hS2 fun j a w h1 h2 => (hts j a w h1 h2).grow hs2⟩
  | other hk h1 h2 h3 h4 h5 =>
    rename_i t u
    refine fn_intro Tryd.func45 rfl Tryd.ntmps45 rfl (by simp only [argFr, Nat.zero_add, Nat.reduceAdd]; rfl) (fun Γ => ?_)
    repeat (first
      | (refine g_ops ?_; first | refine sO ?_ | refine s_n (fun _ => ?_) | refine s_app (fun _ _ => ?_) | refine s_b0 (fun _ => ?_) | ((fail_if_success refine g_lit rfl rfl rfl ?_); first | apply g_partM rfl rfl rfl | apply g_partMB rfl rfl rfl | fail))
      | refine gS ?_ | exact s_m | intro _)
    exact gR (H, .iface t u) ⟨HP.sub.refl _, hx0⟩
end Go.Proofs.YtpilcncdgjnbeaaDoor
