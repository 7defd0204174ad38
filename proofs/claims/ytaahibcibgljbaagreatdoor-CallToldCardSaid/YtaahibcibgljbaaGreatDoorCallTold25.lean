/- Contracts and laws that the proof stands on. -/
import Derived.Test.YtaahibcibgljbaaGreatDoorCallTold24
import Derived.Shelf.Strconv.Itoa3
import Derived.Shelf.Strings.SplitShaped
import Derived.Test.YtaahibcibgljbaaGreatDoorProg
import Derived.Shelf.Strings.Split
import Derived.Lib.SplitLaws
import Derived.Test.YtaahibcibgljbaaGreatDoorCallTold15
set_option linter.unusedSimpArgs false
set_option linter.unusedVariables false
namespace Go.Proofs.YtaahibcibgljbaaGreatDoor
open Go.Sl facts
def upK (k : ByteArray) : List Pr → Nat
  | [] => 0
  | a :: l => if a.k = k then 0 else upK k l + 1
theorem upK_at {k : ByteArray} {l : List Pr} {i : Nat} (hi : i < l.length) (h : ∀ j (hj : j < l.length), j < i → l[j].k ≠ k) (hn : l[i].k = k) : upK k l = i := by
  induction l generalizing i with
  | nil => simp at hi
  | cons a l ih =>
    cases i with
    | zero => simp only [List.getElem_cons_zero] at hn; simp [upK, hn]
    | succ i =>
      have h0 := h 0 (by simp) (by omega)
      simp only [List.getElem_cons_zero] at h0
      simp only [upK, h0]
      rw [ih (i := i) (by simpa using hi) (fun j hj hji => by have := h (j + 1) (by simpa using hj) (by omega); rwa [List.getElem_cons_succ] at this) (by simpa using hn)]
      rfl
theorem upK_all {k : ByteArray} {l : List Pr} (h : ∀ j (hj : j < l.length), l[j].k ≠ k) : upK k l = l.length := by
  induction l with
  | nil => rfl
  | cons a l ih =>
    have h0 := h 0 (by simp)
    simp only [List.getElem_cons_zero] at h0
    simp only [upK, h0, List.length_cons]
    rw [ih fun j hj => by have := h (j + 1) (by simpa using hj); rwa [List.getElem_cons_succ] at this]
    rfl
attribute [local irreducible] Code.wp wpList Exit.then Exit.inBlock bodyPost Back MidQ G GP QStep VStep CStep SStep Does Post Reads
abbrev fStep : FuncId := 53
theorem stepKey (k name : ByteArray) (v : Value) (b : Nat) (hv : v = .nilIface ∨ ∃ t u, v = .iface t u) : Does1 Tryz.prog 53 [.agg #[.string k, v], ptr b] [.row b [.string name] 9] (.bool (decide (k = name))) := by
  rcases hv with rfl | ⟨t, u, rfl⟩
  · refine fn_intro Tryz.func53 rfl Tryz.ntmps53 rfl (by simp only [argFr, Nat.zero_add, Nat.reduceAdd]; rfl) (fun Γ => ?_)
    repeat (first
      | (refine g_ops ?_; first | refine sO ?_ | refine s_n (fun _ => ?_) | refine s_app (fun _ _ => ?_) | refine s_b0 (fun _ => ?_) | ((fail_if_success refine g_lit rfl rfl rfl ?_); first | apply g_partM rfl rfl rfl | apply g_partMB rfl rfl rfl | fail))
      | refine gS ?_ | exact s_m | intro _)
    exact gR () trivial
  · refine fn_intro Tryz.func53 rfl Tryz.ntmps53 rfl (by simp only [argFr, Nat.zero_add, Nat.reduceAdd]; rfl) (fun Γ => ?_)
    repeat (first
      | (refine g_ops ?_; first | refine sO ?_ | refine s_n (fun _ => ?_) | refine s_app (fun _ _ => ?_) | refine s_b0 (fun _ => ?_) | ((fail_if_success refine g_lit rfl rfl rfl ?_); first | apply g_partM rfl rfl rfl | apply g_partMB rfl rfl rfl | fail))
      | refine gS ?_ | exact s_m | intro _)
    exact gR () trivial
set_option maxHeartbeats 4000000 in
theorem indexK {H : HP} (name : ByteArray) (b : Nat) (p : Option Addr) (c : Nat) (l : List Pr) (hS : SlAt (Pile H) 2 p l.length (l.flatMap Pr.cells)) (hv : ∀ q ∈ l, q.v = .nilIface ∨ ∃ t u, q.v = .iface t u) (hl : l.length ≤ 1000000000) :
    Does1 Tryz.prog 52 [.slice p l.length c, .func (.func fStep) #[] #[ptr b]] [Pile H, .row b [.string name] 9] (int (if upK name l = l.length then -1 else (upK name l : Int))) := by
  refine fn_intro Tryz.func52 rfl Tryz.ntmps52 rfl (by simp only [argFr, Nat.zero_add, Nat.reduceAdd]; rfl) (fun Γ => ?_)
  repeat (first
    | (refine g_ops ?_; first | refine sO ?_ | refine s_n (fun _ => ?_) | refine s_app (fun _ _ => ?_) | refine s_b0 (fun _ => ?_) | ((fail_if_success refine g_lit rfl rfl rfl ?_); first | apply g_partM rfl rfl rfl | apply g_partMB rfl rfl rfl | fail))
    | refine gS ?_ | exact s_m | intro _)
  refine g_loop (X := Nat) (fun i => [(0, .slice p l.length c), (1, .func (.func fStep) #[] #[ptr b]), (7, int l.length), (8, int i)]) (fun _ => [Pile H, .row b [.string name] 9]) (fun i => i ≤ l.length ∧ ∀ j (hj : j < l.length), j < i → l[j].k ≠ name) (fun i => l.length - i) 0 ⟨Nat.zero_le _, fun j _ h => by omega⟩ (by (repeat (first | exact FrSub.nil | refine FrSub.cons rfl ?_)); first | done | fail) (by (repeat (first | exact Take.nil | apply Take.cons | exact Sel.here | apply Sel.there)); first | done | fail) (fun i hi => ?_)
  obtain ⟨hi, hb⟩ := hi
  repeat (first
    | (refine g_ops ?_; first | refine sO ?_ | refine s_n (fun _ => ?_) | refine s_app (fun _ _ => ?_) | refine s_b0 (fun _ => ?_) | ((fail_if_success refine g_lit rfl rfl rfl ?_); first | apply g_partM rfl rfl rfl | apply g_partMB rfl rfl rfl | fail))
    | refine gS ?_ | exact s_m | intro _)
  refine g_cond_dec rfl (fun h2 => ?_) (fun h2 => ?_)
  · have hi' : i < l.length := by omega
    obtain ⟨rb, ro, rfl, hrow⟩ := slAt_elem hS Pr.len (by decide) (i := i) (a := l[i]) (by simp [hi'])
    have hvi := hv l[i] (List.getElem_mem _)
    generalize hr : l[i] = r at hrow hvi
    obtain ⟨rk, rv⟩ := r
    replace hrow : ∀ (j : Nat) (v : Value), [Value.string rk, rv][j]? = some v → Reads (Pile H) ⟨rb, ro + i * 2 + j, none⟩ v := hrow
    repeat (first
      | (refine g_ops ?_; first | refine sO ?_ | refine s_n (fun _ => ?_) | refine s_app (fun _ _ => ?_) | refine s_b0 (fun _ => ?_) | ((fail_if_success refine g_lit rfl rfl rfl ?_); first | apply g_partM rfl rfl rfl | apply g_partMB rfl rfl rfl | fail))
      | refine gS ?_ | exact s_m | intro _)
    refine g_c (cs_callV (stepKey rk name rv b hvi) (vs := [.agg #[.string rk, rv]]) (caps := [ptr b]) rfl (by (repeat (first | exact Evs.nil | refine Evs.cons rfl ?_)); first | done | fail) rfl (by (repeat (first | exact Take.nil | apply Take.cons | exact Sel.here | apply Sel.there)); first | done | fail)) rfl rfl (fun _ _ => ?_)
    repeat (first
      | (refine g_ops ?_; first | refine sO ?_ | refine s_n (fun _ => ?_) | refine s_app (fun _ _ => ?_) | refine s_b0 (fun _ => ?_) | ((fail_if_success refine g_lit rfl rfl rfl ?_); first | apply g_partM rfl rfl rfl | apply g_partMB rfl rfl rfl | fail))
      | refine gS ?_ | exact s_m | intro _)
    refine g_cond_dec rfl (fun h3 => ?_) (fun h3 => ?_)
    · have ha := upK_at hi' hb (by rw [hr]; exact h3)
      repeat (first
        | (refine g_ops ?_; first | refine sO ?_ | refine s_n (fun _ => ?_) | refine s_app (fun _ _ => ?_) | refine s_b0 (fun _ => ?_) | ((fail_if_success refine g_lit rfl rfl rfl ?_); first | apply g_partM rfl rfl rfl | apply g_partMB rfl rfl rfl | fail))
        | refine gS ?_ | exact s_m | intro _)
      exact g_ret () rfl (by (repeat (first | exact RVs.nil | apply RVs.tmp rfl | apply RVs.cellA rfl (by (repeat (first | exact Sel.here | apply Sel.there)); first | done | fail) (by (repeat (first | exact Cut.zero | apply Cut.take | apply Cut.skip)); first | done | fail) | apply RVs.cell1 rfl (by (repeat (first | exact Sel.here | apply Sel.there)); first | done | fail) rfl)); first | done | fail) (by (repeat (first | exact Take.nil | apply Take.cons | exact Sel.here | apply Sel.there)); first | done | fail) (by rw [if_neg (by omega), ha]; rfl) trivial
    · repeat (first
        | (refine g_ops ?_; first | refine sO ?_ | refine s_n (fun _ => ?_) | refine s_app (fun _ _ => ?_) | refine s_b0 (fun _ => ?_) | ((fail_if_success refine g_lit rfl rfl rfl ?_); first | apply g_partM rfl rfl rfl | apply g_partMB rfl rfl rfl | fail))
        | refine gS ?_ | exact s_m | intro _)
      refine g_as 8 (v' := int ((i + 1 : Nat) : Int)) rfl (congrArg (Value.int .i64) (by push_cast; rfl)) ?_
      exact g_again (i + 1) (by omega) ⟨hi', fun j hj hji => by
        by_cases e : j = i
        · subst e; rw [hr]; exact h3
        · exact hb j hj (by omega)⟩ (by (repeat (first | exact FrSub.nil | refine FrSub.cons rfl ?_)); first | done | fail) (by (repeat (first | exact Take.nil | apply Take.cons | exact Sel.here | apply Sel.there)); first | done | fail)
  · have ha : upK name l = l.length := upK_all fun j hj => hb j hj (by omega)
    repeat (first
      | (refine g_ops ?_; first | refine sO ?_ | refine s_n (fun _ => ?_) | refine s_app (fun _ _ => ?_) | refine s_b0 (fun _ => ?_) | ((fail_if_success refine g_lit rfl rfl rfl ?_); first | apply g_partM rfl rfl rfl | apply g_partMB rfl rfl rfl | fail))
      | refine gS ?_ | exact s_m | intro _)
    exact g_ret () rfl (by (repeat (first | exact RVs.nil | apply RVs.tmp rfl | apply RVs.cellA rfl (by (repeat (first | exact Sel.here | apply Sel.there)); first | done | fail) (by (repeat (first | exact Cut.zero | apply Cut.take | apply Cut.skip)); first | done | fail) | apply RVs.cell1 rfl (by (repeat (first | exact Sel.here | apply Sel.there)); first | done | fail) rfl)); first | done | fail) (by (repeat (first | exact Take.nil | apply Take.cons | exact Sel.here | apply Sel.there)); first | done | fail) (by rw [if_pos ha]; rfl) trivial
end Go.Proofs.YtaahibcibgljbaaGreatDoor

/-
  DERIVED: THE SHELF's CONTRACTS AT THIS DUMP, IN PLAIN WORDS (tools/lay-plain.mjs out of 'TryzShelP.lean', which tools/lay-shelf.mjs wrote): THE SAME DECLARATIONS UNDER THE SAME NAMES: 'import', 'namespace', 'open', 'def', 'theorem' AND NOTHING ELSE: no command of the shelf's: FOR A HAND-IN. Each laying: the table of numbers ('.._ren') and one theorem, a field a fact of the dump's own or the kernel's comparison; each contract: ONE APPLICATION.
-/
namespace Go.Proofs
open Go.Shelf
def Tryz.laysNm171_ren : Go.Shelf.Ren := ⟨fun | 171 => 55 | 243 => 76 | 246 => 98 | 283 => 111 | 284 => 112 | 285 => 113 | 286 => 114 | 129 => 121 | 317 => 120 | 318 => 122 | 319 => 123 | 320 => 124 | 337 => 125 | 338 => 126 | n => n, fun | 3 => 3 | 9 => 9 | 2 => 2 | 4 => 4 | 171 => 169 | 0 => 0 | 53 => 123 | 37 => 86 | 5 => 5 | 173 => 172 | 212 => 187 | 51 => 160 | 20 => 20 | 213 => 188 | 46 => 138 | 232 => 192 | 233 => 193 | n => n, fun | 17 => 5 | 18 => 6 | 19 => 7 | n => n⟩
theorem Tryz.laysNm171 : Go.Proofs.Lays.n171 Tryz.prog Tryz.laysNm171_ren := {
  mixed := by kernel_rfl
  f129 := Tryz.func121.trans (congrArg some (by kernel_rfl))
  f171 := Tryz.func55.trans (congrArg some (by kernel_rfl))
  f243 := Tryz.func76.trans (congrArg some (by kernel_rfl))
  f246 := Tryz.func98.trans (congrArg some (by kernel_rfl))
  f283 := Tryz.func111.trans (congrArg some (by kernel_rfl))
  f284 := Tryz.func112.trans (congrArg some (by kernel_rfl))
  f285 := Tryz.func113.trans (congrArg some (by kernel_rfl))
  f286 := Tryz.func114.trans (congrArg some (by kernel_rfl))
  f317 := Tryz.func120.trans (congrArg some (by kernel_rfl))
  f318 := Tryz.func122.trans (congrArg some (by kernel_rfl))
  f319 := Tryz.func123.trans (congrArg some (by kernel_rfl))
  f320 := Tryz.func124.trans (congrArg some (by kernel_rfl))
  f337 := Tryz.func125.trans (congrArg some (by kernel_rfl))
  f338 := Tryz.func126.trans (congrArg some (by kernel_rfl))
  t0 := Tryz.underlying0
  a0 := Tryz.isAgg0
  z0 := Tryz.sizeOf0
  v0 := Tryz.zeroValue0
  t2 := Tryz.underlying2
  a2 := Tryz.isAgg2
  z2 := Tryz.sizeOf2
  v2 := Tryz.zeroValue2
  t3 := Tryz.underlying3
  a3 := Tryz.isAgg3
  z3 := Tryz.sizeOf3
  v3 := Tryz.zeroValue3
  t4 := Tryz.underlying4
  a4 := Tryz.isAgg4
  z4 := Tryz.sizeOf4
  v4 := Tryz.zeroValue4
  t5 := Tryz.underlying5
  a5 := Tryz.isAgg5
  z5 := Tryz.sizeOf5
  v5 := Tryz.zeroValue5
  t9 := Tryz.underlying9
  a9 := Tryz.isAgg9
  z9 := Tryz.sizeOf9
  v9 := Tryz.zeroValue9
  t20 := Tryz.underlying20
  a20 := Tryz.isAgg20
  z20 := Tryz.sizeOf20
  v20 := Tryz.zeroValue20
  t37 := Tryz.underlying86
  a37 := Tryz.isAgg86
  z37 := Tryz.sizeOf86
  v37 := Tryz.zeroValue86
  t46 := Tryz.underlying138
  a46 := Tryz.isAgg138
  z46 := Tryz.sizeOf138
  v46 := Tryz.zeroValue138
  t51 := Tryz.underlying160
  a51 := Tryz.isAgg160
  z51 := Tryz.sizeOf160
  v51 := Tryz.zeroValue160
  t53 := Tryz.underlying123
  a53 := Tryz.isAgg123
  z53 := Tryz.sizeOf123
  v53 := Tryz.zeroValue123
  t171 := Tryz.underlying169
  a171 := Tryz.isAgg169
  z171 := Tryz.sizeOf169
  v171 := Tryz.zeroValue169
  t173 := Tryz.underlying172
  a173 := Tryz.isAgg172
  z173 := Tryz.sizeOf172
  v173 := Tryz.zeroValue172
  t212 := Tryz.underlying187
  a212 := Tryz.isAgg187
  z212 := Tryz.sizeOf187
  v212 := Tryz.zeroValue187
  t213 := Tryz.underlying188
  a213 := Tryz.isAgg188
  z213 := Tryz.sizeOf188
  t232 := Tryz.underlying192
  a232 := Tryz.isAgg192
  z232 := Tryz.sizeOf192
  v232 := Tryz.zeroValue192
  t233 := Tryz.underlying193
  a233 := Tryz.isAgg193
  z233 := Tryz.sizeOf193
  v233 := Tryz.zeroValue193
  g17 := by kernel_rfl
  g18 := by kernel_rfl
  g19 := by kernel_rfl }
def Tryz.laysNm146_ren : Go.Shelf.Ren := ⟨fun | 146 => 29 | 221 => 51 | 268 => 71 | 138 => 72 | 143 => 73 | 195 => 89 | 197 => 90 | 218 => 91 | 219 => 92 | 260 => 103 | 217 => 104 | 225 => 105 | 224 => 106 | 267 => 107 | 266 => 116 | 314 => 117 | n => n, fun | 9 => 9 | 31 => 37 | 3 => 3 | 4 => 4 | 0 => 0 | 105 => 149 | 21 => 21 | 5 => 5 | 46 => 138 | 119 => 175 | 139 => 178 | 138 => 177 | 146 => 179 | 51 => 160 | n => n, fun | 1 => 0 | 3 => 3 | 4 => 4 | n => n⟩
theorem Tryz.laysNm146 : Go.Proofs.Lays.n146 Tryz.prog Tryz.laysNm146_ren := {
  mixed := by kernel_rfl
  f138 := Tryz.func72.trans (congrArg some (by kernel_rfl))
  f143 := Tryz.func73.trans (congrArg some (by kernel_rfl))
  f146 := Tryz.func29.trans (congrArg some (by kernel_rfl))
  f195 := Tryz.func89.trans (congrArg some (by kernel_rfl))
  f197 := Tryz.func90.trans (congrArg some (by kernel_rfl))
  f217 := Tryz.func104.trans (congrArg some (by kernel_rfl))
  f218 := Tryz.func91.trans (congrArg some (by kernel_rfl))
  f219 := Tryz.func92.trans (congrArg some (by kernel_rfl))
  f221 := Tryz.func51.trans (congrArg some (by kernel_rfl))
  f224 := Tryz.func106.trans (congrArg some (by kernel_rfl))
  f225 := Tryz.func105.trans (congrArg some (by kernel_rfl))
  f260 := Tryz.func103.trans (congrArg some (by kernel_rfl))
  f266 := Tryz.func116.trans (congrArg some (by kernel_rfl))
  f267 := Tryz.func107.trans (congrArg some (by kernel_rfl))
  f268 := Tryz.func71.trans (congrArg some (by kernel_rfl))
  f314 := Tryz.func117.trans (congrArg some (by kernel_rfl))
  t0 := Tryz.underlying0
  a0 := Tryz.isAgg0
  z0 := Tryz.sizeOf0
  v0 := Tryz.zeroValue0
  t3 := Tryz.underlying3
  a3 := Tryz.isAgg3
  z3 := Tryz.sizeOf3
  v3 := Tryz.zeroValue3
  t4 := Tryz.underlying4
  a4 := Tryz.isAgg4
  z4 := Tryz.sizeOf4
  v4 := Tryz.zeroValue4
  t5 := Tryz.underlying5
  a5 := Tryz.isAgg5
  z5 := Tryz.sizeOf5
  v5 := Tryz.zeroValue5
  t9 := Tryz.underlying9
  a9 := Tryz.isAgg9
  z9 := Tryz.sizeOf9
  v9 := Tryz.zeroValue9
  t21 := Tryz.underlying21
  a21 := Tryz.isAgg21
  z21 := Tryz.sizeOf21
  v21 := Tryz.zeroValue21
  t31 := Tryz.underlying37
  a31 := Tryz.isAgg37
  z31 := Tryz.sizeOf37
  v31 := Tryz.zeroValue37
  t46 := Tryz.underlying138
  a46 := Tryz.isAgg138
  z46 := Tryz.sizeOf138
  v46 := Tryz.zeroValue138
  t51 := Tryz.underlying160
  a51 := Tryz.isAgg160
  z51 := Tryz.sizeOf160
  v51 := Tryz.zeroValue160
  t105 := Tryz.underlying149
  a105 := Tryz.isAgg149
  z105 := Tryz.sizeOf149
  v105 := Tryz.zeroValue149
  t119 := Tryz.underlying175
  a119 := Tryz.isAgg175
  z119 := Tryz.sizeOf175
  t138 := Tryz.underlying177
  a138 := Tryz.isAgg177
  z138 := Tryz.sizeOf177
  v138 := Tryz.zeroValue177
  t139 := Tryz.underlying178
  a139 := Tryz.isAgg178
  z139 := Tryz.sizeOf178
  v139 := Tryz.zeroValue178
  t146 := Tryz.underlying179
  a146 := Tryz.isAgg179
  z146 := Tryz.sizeOf179
  v146 := Tryz.zeroValue179
  g1 := by kernel_rfl
  g3 := by kernel_rfl
  g4 := by kernel_rfl }
def Tryz.laysMNm146_ren : Go.Shelf.Ren := ⟨fun | 146 => 29 | 221 => 51 | 268 => 71 | 138 => 72 | 143 => 73 | 195 => 89 | 197 => 90 | 218 => 91 | 219 => 92 | 260 => 103 | 217 => 104 | 225 => 105 | 224 => 106 | 267 => 107 | 266 => 116 | 314 => 117 | n => n, fun | 9 => 9 | 31 => 37 | 3 => 3 | 4 => 4 | 0 => 0 | 105 => 149 | 21 => 21 | 5 => 5 | 46 => 138 | 119 => 175 | 139 => 178 | 138 => 177 | 146 => 179 | 51 => 160 | n => n, fun | 1 => 0 | 3 => 3 | 4 => 4 | n => n⟩
theorem Tryz.laysMNm146 : Go.Proofs.LaysM.n146 Tryz.prog Tryz.laysMNm146_ren := {
  mixed := by kernel_rfl
  f138 := Tryz.func72.trans (congrArg some (by kernel_rfl))
  f143 := Tryz.func73.trans (congrArg some (by kernel_rfl))
  f146 := Tryz.func29.trans (congrArg some (by kernel_rfl))
  f195 := Tryz.func89.trans (congrArg some (by kernel_rfl))
  f197 := Tryz.func90.trans (congrArg some (by kernel_rfl))
  f217 := Tryz.func104.trans (congrArg some (by kernel_rfl))
  f218 := Tryz.func91.trans (congrArg some (by kernel_rfl))
  f219 := Tryz.func92.trans (congrArg some (by kernel_rfl))
  f221 := Tryz.func51.trans (congrArg some (by kernel_rfl))
  f224 := Tryz.func106.trans (congrArg some (by kernel_rfl))
  f225 := Tryz.func105.trans (congrArg some (by kernel_rfl))
  f260 := Tryz.func103.trans (congrArg some (by kernel_rfl))
  f266 := Tryz.func116.trans (congrArg some (by kernel_rfl))
  f267 := Tryz.func107.trans (congrArg some (by kernel_rfl))
  f268 := Tryz.func71.trans (congrArg some (by kernel_rfl))
  f314 := Tryz.func117.trans (congrArg some (by kernel_rfl))
  t0 := Tryz.underlying0
  a0 := Tryz.isAgg0
  z0 := Tryz.sizeOf0
  v0 := Tryz.zeroValue0
  t3 := Tryz.underlying3
  a3 := Tryz.isAgg3
  z3 := Tryz.sizeOf3
  v3 := Tryz.zeroValue3
  t4 := Tryz.underlying4
  a4 := Tryz.isAgg4
  z4 := Tryz.sizeOf4
  v4 := Tryz.zeroValue4
  t5 := Tryz.underlying5
  a5 := Tryz.isAgg5
  z5 := Tryz.sizeOf5
  v5 := Tryz.zeroValue5
  t9 := Tryz.underlying9
  a9 := Tryz.isAgg9
  z9 := Tryz.sizeOf9
  v9 := Tryz.zeroValue9
  t21 := Tryz.underlying21
  a21 := Tryz.isAgg21
  z21 := Tryz.sizeOf21
  v21 := Tryz.zeroValue21
  t31 := Tryz.underlying37
  a31 := Tryz.isAgg37
  z31 := Tryz.sizeOf37
  v31 := Tryz.zeroValue37
  t46 := Tryz.underlying138
  a46 := Tryz.isAgg138
  z46 := Tryz.sizeOf138
  v46 := Tryz.zeroValue138
  t51 := Tryz.underlying160
  a51 := Tryz.isAgg160
  z51 := Tryz.sizeOf160
  v51 := Tryz.zeroValue160
  t105 := Tryz.underlying149
  a105 := Tryz.isAgg149
  z105 := Tryz.sizeOf149
  v105 := Tryz.zeroValue149
  t119 := Tryz.underlying175
  a119 := Tryz.isAgg175
  z119 := Tryz.sizeOf175
  t138 := Tryz.underlying177
  a138 := Tryz.isAgg177
  z138 := Tryz.sizeOf177
  v138 := Tryz.zeroValue177
  t139 := Tryz.underlying178
  a139 := Tryz.isAgg178
  z139 := Tryz.sizeOf178
  v139 := Tryz.zeroValue178
  t146 := Tryz.underlying179
  a146 := Tryz.isAgg179
  z146 := Tryz.sizeOf179
  v146 := Tryz.zeroValue179
  g1 := by kernel_rfl
  g3 := by kernel_rfl
  g4 := by kernel_rfl
  i0 := by kernel_rfl
  i3 := by kernel_rfl
  i4 := by kernel_rfl
  i5 := by kernel_rfl
  i9 := by kernel_rfl
  i21 := by kernel_rfl
  i31 := by kernel_rfl
  i46 := by kernel_rfl
  i51 := by kernel_rfl
  i105 := by kernel_rfl
  i138 := by kernel_rfl
  i139 := by kernel_rfl
  i146 := by kernel_rfl
  m1 := by kernel_rfl
  s1_3 := fun w h => Go.Proofs.cell_of_shapedOpen_int (zero := #[.int .i64 0]) (t := 3) h (of_decide_eq_true (by kernel_rfl)) (by kernel_rfl) rfl (by kernel_rfl) (by kernel_rfl) Tryz.underlying3
  m3 := by kernel_rfl
  m4 := by kernel_rfl }
end Go.Proofs

namespace Go.Proofs.YtaahibcibgljbaaGreatDoor
open Go.Sl facts
theorem itoaS {H : HP} (i : Nat) (h : i < 100) : Does1 Tryz.prog 55 [int i] [Pile H] (.string (txt (decI i))) := does_of_belowX fun w hw => by
  refine (Any.strconv_Itoa_small Tryz.laysNm171 i h w).mono ?_
  rintro e w' ⟨rfl, rfl⟩
  have e : decI (i : Int) = Lib.decDigits i := by unfold decI; rw [if_neg (by omega)]; rfl
  exact ⟨(), trivial, by rw [e], Go.RowKit.Below.refl _ _⟩
attribute [local irreducible] Code.wp wpList Exit.then Exit.inBlock bodyPost Back MidQ G GP QStep VStep CStep SStep Does Post Reads
set_option maxHeartbeats 4000000 in
theorem stepP {H : HP} {y : Bool} {n : Int} {s : ByteArray} {l : List V} {p : Option Addr} {c : Nat} (ps : List Pr) (hv : ps.length = l.length) (hl : l.length ≤ 1000000000) (hS : SlAt (Pile H) 2 p l.length (ps.flatMap Pr.cells)) (h : ∀ (i : Nat) x q, l[i]? = some x → ps[i]? = some q → TAt H x q.v) (i : Nat) (hi : i < ps.length) (hu : upK ps[i].k ps = i) :
    Does Tryz.prog 30 [.iface 89 (.slice p l.length c), .string ps[i].k] [Pile H] (X := Unit) (fun _ => .tuple #[ps[i].v, .bool true]) (fun _ => [Pile H]) (fun _ => True) := by
  have hsh : ∀ q ∈ ps, q.v = .nilIface ∨ ∃ t u, q.v = .iface t u := fun q hq => by
    obtain ⟨j, hj, rfl⟩ := List.mem_iff_getElem.1 hq
    exact (h j l[j] ps[j] (List.getElem?_eq_getElem _) (List.getElem?_eq_getElem _)).shape
  have hx := fun b => indexK (H := H) ps[i].k b p c ps (by rw [hv]; exact hS) hsh (by omega)
  obtain ⟨rb, ro, rfl, hr0⟩ := slAt_elem hS Pr.len (by decide) (i := i) (a := ps[i]) (List.getElem?_eq_getElem hi)
  have hvi := hsh ps[i] (List.getElem_mem _)
  rw [hv] at hx
  generalize ps[i] = w at *
  obtain ⟨wk, wv⟩ := w
  dsimp only at hx hu hvi ⊢
  rw [hu, if_neg (by omega)] at hx
  have hr : ∀ a, a = ro + i * 2 + 1 → Reads (Pile H) ⟨rb, a, none⟩ wv := fun a e => by have := hr0 1 wv rfl; rw [e]; exact this
  refine fn_intro Tryz.func30 rfl Tryz.ntmps30 rfl (by simp only [argFr, Nat.zero_add, Nat.reduceAdd]; rfl) (fun Γ => ?_)
  repeat (first
    | (refine g_ops ?_; first | refine sO ?_ | refine s_n (fun _ => ?_) | refine s_app (fun _ _ => ?_) | refine s_b0 (fun _ => ?_) | ((fail_if_success refine g_lit rfl rfl rfl ?_); first | apply g_partM rfl rfl rfl | apply g_partMB rfl rfl rfl | fail))
    | refine gS ?_ | exact s_m | intro _)
  rename_i nb
  refine s_q (q := by exact qs_makeFunc (vs := [ptr nb]) (by (repeat (first | exact Evs.nil | refine Evs.cons rfl ?_)); first | done | fail)) ?_
  have hxb := hx nb
  repeat (first
    | (refine g_ops ?_; first | refine sO ?_ | refine s_n (fun _ => ?_) | refine s_app (fun _ _ => ?_) | refine s_b0 (fun _ => ?_) | ((fail_if_success refine g_lit rfl rfl rfl ?_); first | apply g_partM rfl rfl rfl | apply g_partMB rfl rfl rfl | fail) | refine s_k (hxb) ?_)
    | refine gS ?_ | exact s_m | intro _)
  refine g_as 23 (v' := .bool false) rfl (congrArg Value.bool (decide_eq_false (by omega))) ?_
  rcases hvi with rfl | ⟨t, u, rfl⟩
  · repeat (first
      | (refine g_ops ?_; first | refine sO ?_ | refine s_n (fun _ => ?_) | refine s_app (fun _ _ => ?_) | refine s_b0 (fun _ => ?_) | ((fail_if_success refine g_lit rfl rfl rfl ?_); first | apply g_partM rfl rfl rfl | apply g_partMB rfl rfl rfl | fail))
      | refine gS ?_ | exact s_m | intro _)
    exact gR () trivial
  · repeat (first
      | (refine g_ops ?_; first | refine sO ?_ | refine s_n (fun _ => ?_) | refine s_app (fun _ _ => ?_) | refine s_b0 (fun _ => ?_) | ((fail_if_success refine g_lit rfl rfl rfl ?_); first | apply g_partM rfl rfl rfl | apply g_partMB rfl rfl rfl | fail))
      | refine gS ?_ | exact s_m | intro _)
    exact gR () trivial
set_option maxHeartbeats 4000000 in
theorem stepL {H : HP} (hE : ErrH H) {l : List Value} {p : Option Addr} {c : Nat} (hl : l.length ≤ 1000000000) (hS : SlAt (Pile H) 1 p l.length l) (hsh : ∀ w ∈ l, w = .nilIface ∨ ∃ t u, w = .iface t u) (i : Nat) (hi : i < 100) :
    Does Tryz.prog 30 [.iface 105 (.slice p l.length c), .string (txt (decI i))] [Pile H] (X := Unit) (fun _ => .tuple #[l.getD i .nilIface, .bool (decide (i < l.length))]) (fun _ => [Pile H]) (fun _ => True) := by
  have hin : inI (i : Int) := ⟨by omega, by omega⟩
  have ha := at_of hE (decI i) (by have := (decI_len20 i hin).1; omega)
  rw [atoi_dec i hin] at ha
  have hi2 := itoaS (H := H) i hi
  refine fn_intro Tryz.func30 rfl Tryz.ntmps30 rfl (by simp only [argFr, Nat.zero_add, Nat.reduceAdd]; rfl) (fun Γ => ?_)
  repeat (first
    | (refine g_ops ?_; first | refine sO ?_ | refine s_n (fun _ => ?_) | refine s_app (fun _ _ => ?_) | refine s_b0 (fun _ => ?_) | ((fail_if_success refine g_lit rfl rfl rfl ?_); first | apply g_partM rfl rfl rfl | apply g_partMB rfl rfl rfl | fail) | refine s_c (ha) (fun _ _ => ?_))
    | refine gS ?_ | exact s_m | intro _)
  rename_i ev hev
  obtain rfl := hev.1 rfl
  dsimp only [List.cons_append, List.nil_append, List.append_eq]
  by_cases hlt : i < l.length
  · rw [decide_eq_true hlt]
    obtain ⟨pb, po, rfl, hr0⟩ := slAt_cell hS (i := i) (v := l[i]) (List.getElem?_eq_getElem hlt)
    have hvi := hsh l[i] (List.getElem_mem _)
    rw [show l.getD i .nilIface = l[i] by simp [List.getD, hlt]]
    generalize l[i] = w at hr0 hvi ⊢
    have hr : ∀ k', k' = i → Reads (Pile H) ⟨pb, po + k', none⟩ w := fun _ e => e ▸ hr0
    repeat (first
      | (refine g_ops ?_; first | refine sO ?_ | refine s_n (fun _ => ?_) | refine s_app (fun _ _ => ?_) | refine s_b0 (fun _ => ?_) | ((fail_if_success refine g_lit rfl rfl rfl ?_); first | apply g_partM rfl rfl rfl | apply g_partMB rfl rfl rfl | fail))
      | (apply g_drawB (id := 9) 60 (.take 0 (.take 1 (.take 2 (.take 3 (.take 4 (.take 5 (.take 6 (.take 7 (.take 8 (.take 9 (.take 10 (.take 11 (.take 12 (.take 13 (.take 14 (.take 15 (.take 16 (.take 17 (.see 19 [] (.one 18 (.take 20 (.take 21 .done)))))))))))))))))))))) (by kernel_rfl); intro k hd hk)
      | refine gS ?_ | exact s_m | intro _ | (refine gp_take ?_; first | refine pT ?_ | ((fail_if_success refine gp_lit rfl rfl rfl rfl ?_); first | apply gp_guard_dec rfl rfl rfl rfl | apply gp_guard rfl rfl rfl rfl | fail))
      | (refine gp_see ?_; first | refine p_f ?_ | refine pS ?_ | ((fail_if_success refine gp_lit rfl rfl rfl rfl ?_); first | apply gp_guard_dec rfl rfl rfl rfl | apply gp_guard rfl rfl rfl rfl | fail))
      | (refine gp_one ?_; first | refine pO ?_ | refine p_n (fun _ => ?_) | refine p_app (fun _ _ => ?_) | refine p_b0 (fun _ => ?_) | ((fail_if_success refine gp_lit rfl rfl rfl rfl ?_); first | apply gp_guard_dec rfl rfl rfl rfl | apply gp_guard rfl rfl rfl rfl | fail) | refine p_cP (hi2) hd hk (fun _ _ => ?_))
      | refine gp_two ?_ ?_ | refine gp_done hd hk ?_ | intro _ | refine p_ta hd hk (fun _ _ _ hd hk => ?_) | refine p_ts hd hk (fun _ hd hk => ?_))
    refine g_as 60 (v' := .bool false) rfl (congrArg Value.bool (by rw [decide_eq_false (by omega)]; simp)) ?_
    rcases hvi with rfl | ⟨t, u, rfl⟩
    · repeat (first
        | (refine g_ops ?_; first | refine sO ?_ | refine s_n (fun _ => ?_) | refine s_app (fun _ _ => ?_) | refine s_b0 (fun _ => ?_) | ((fail_if_success refine g_lit rfl rfl rfl ?_); first | apply g_partM rfl rfl rfl | apply g_partMB rfl rfl rfl | fail))
        | refine gS ?_ | exact s_m | intro _)
      exact gR () trivial
    · repeat (first
        | (refine g_ops ?_; first | refine sO ?_ | refine s_n (fun _ => ?_) | refine s_app (fun _ _ => ?_) | refine s_b0 (fun _ => ?_) | ((fail_if_success refine g_lit rfl rfl rfl ?_); first | apply g_partM rfl rfl rfl | apply g_partMB rfl rfl rfl | fail))
        | refine gS ?_ | exact s_m | intro _)
      exact gR () trivial
  · rw [decide_eq_false hlt, show l.getD i .nilIface = .nilIface by simp [List.getD, hlt]]
    repeat (first
      | (refine g_ops ?_; first | refine sO ?_ | refine s_n (fun _ => ?_) | refine s_app (fun _ _ => ?_) | refine s_b0 (fun _ => ?_) | ((fail_if_success refine g_lit rfl rfl rfl ?_); first | apply g_partM rfl rfl rfl | apply g_partMB rfl rfl rfl | fail))
      | (apply g_drawB (id := 9) 60 (.take 0 (.take 1 (.take 2 (.take 3 (.take 4 (.take 5 (.take 6 (.take 7 (.take 8 (.take 9 (.take 10 (.take 11 (.take 12 (.take 13 (.take 14 (.take 15 (.take 16 (.take 17 (.see 19 [] (.one 18 (.take 20 (.take 21 .done)))))))))))))))))))))) (by kernel_rfl); intro k hd hk)
      | refine gS ?_ | exact s_m | intro _ | (refine gp_take ?_; first | refine pT ?_ | ((fail_if_success refine gp_lit rfl rfl rfl rfl ?_); first | apply gp_guard_dec rfl rfl rfl rfl | apply gp_guard rfl rfl rfl rfl | fail))
      | (refine gp_see ?_; first | refine p_f ?_ | refine pS ?_ | ((fail_if_success refine gp_lit rfl rfl rfl rfl ?_); first | apply gp_guard_dec rfl rfl rfl rfl | apply gp_guard rfl rfl rfl rfl | fail))
      | (refine gp_one ?_; first | refine pO ?_ | refine p_n (fun _ => ?_) | refine p_app (fun _ _ => ?_) | refine p_b0 (fun _ => ?_) | ((fail_if_success refine gp_lit rfl rfl rfl rfl ?_); first | apply gp_guard_dec rfl rfl rfl rfl | apply gp_guard rfl rfl rfl rfl | fail) | refine p_cP (hi2) hd hk (fun _ _ => ?_))
      | refine gp_two ?_ ?_ | refine gp_done hd hk ?_ | intro _ | refine p_ta hd hk (fun _ _ _ hd hk => ?_) | refine p_ts hd hk (fun _ hd hk => ?_))
    refine g_as 60 (v' := .bool true) rfl (congrArg Value.bool (by rw [decide_eq_true (by omega)]; rfl)) ?_
    repeat (first
      | (refine g_ops ?_; first | refine sO ?_ | refine s_n (fun _ => ?_) | refine s_app (fun _ _ => ?_) | refine s_b0 (fun _ => ?_) | ((fail_if_success refine g_lit rfl rfl rfl ?_); first | apply g_partM rfl rfl rfl | apply g_partMB rfl rfl rfl | fail))
      | refine gS ?_ | exact s_m | intro _)
    exact gR () trivial
end Go.Proofs.YtaahibcibgljbaaGreatDoor

namespace Go.Sl
theorem does_of_new {P : Program} {f : FuncId} {args : List Value} {ret : Nat → Value} {xs : List Value} {e0 : TypeId} {H : HP} (h : ∀ w, (∀ b o, H b = some o → w.heap[b]? = some o) → Calls P f args.toArray w fun e w' => e = .returned (ret w.heap.size) ∧ w' = w.alloc (.cells xs.toArray e0)) : Does P f args [Pile H] ret (fun b => [.row b xs e0, Pile H]) (fun _ => True) := fun Γ w hh => by
  have hH : ∀ b o, H b = some o → w.heap[b]? = some o := by
    obtain ⟨h, _, s, h1, _, _, s1, _, hc, _⟩ := hh.own
    have hc' : h1 = H := hc
    subst hc'
    exact fun b o hb => s _ _ (s1 _ _ hb)
  refine (h w hH).mono ?_
  rintro e w' ⟨rfl, rfl⟩
  exact ⟨w.heap.size, trivial, rfl, hh.newRow⟩
end Go.Sl
namespace Go.Proofs.YtaahibcibgljbaaGreatDoor
open Go.Sl facts
def VarI (H : HP) (g : Nat) : Prop := ∃ m cs e fz, H g = some (.cells cs e fz) ∧ cs[0]? = some (.int .i64 m)
theorem VarI.grow {H H' : HP} {g : Nat} (s : HP.sub H H') (h : VarI H g) : VarI H' g :=
  let ⟨m, cs, e, fz, h1, h2⟩ := h
  ⟨m, cs, e, fz, s _ _ h1, h2⟩
theorem splitS {H : HP} (hI : VarI H 0) (s sep : ByteArray) (hs : s.size < 4294967281) (h1 : 1 ≤ sep.size) :
    Does Tryz.prog 29 [.string s, .string sep] [Pile H] (X := Nat) (fun b => .slice (some ⟨b, 0, none⟩) (Lib.countB s sep + 1) (Lib.countB s sep + 1)) (fun b => [.row b ((Lib.splitB sep 0 (Lib.countB s sep) s).map Value.string) 9, Pile H]) (fun _ => True) := by
  obtain ⟨m, cs, e, fz, hg, hm⟩ := hI
  exact does_of_new fun w hw => Any.strings_Split Tryz.laysNm146 (by kernel_rfl) s sep m w hs (by
    show w.cell? ⟨0, 0, none⟩ = _
    simp [World.cell?, hw _ _ hg, hm]) h1
end Go.Proofs.YtaahibcibgljbaaGreatDoor

namespace Go.Proofs.YtaahibcibgljbaaGreatDoor
open Go.Sl
abbrev slash : ByteArray := ⟨#[47]⟩
def pieces (L : List UInt8) : List ByteArray := Lib.splitB slash 0 (Lib.countB (txt L) slash) (txt L)
theorem index_no : ∀ a : List UInt8, (∀ c ∈ a, c ≠ 47) → Lib.index a [47] = -1
  | [], _ => by simp [Lib.index]
  | b :: l, h => by
    have hb : (47 : UInt8) ≠ b := fun e => h b (List.mem_cons_self ..) e.symm
    rw [Lib.index, show ([47] : List UInt8).isPrefixOf (b :: l) = false by simp [List.isPrefixOf, hb], index_no l fun c hc => h c (List.mem_cons_of_mem _ hc)]; rfl
theorem index_at : ∀ (a r : List UInt8), (∀ c ∈ a, c ≠ 47) → Lib.index (a ++ 47 :: r) [47] = a.length
  | [], r, _ => by rw [List.nil_append, Lib.index]; simp [List.isPrefixOf]
  | b :: l, r, h => by
    have hb : (47 : UInt8) ≠ b := fun e => h b (List.mem_cons_self ..) e.symm
    rw [List.cons_append, Lib.index, show ([47] : List UInt8).isPrefixOf (b :: (l ++ 47 :: r)) = false by simp [List.isPrefixOf, hb], index_at l r fun c hc => h c (List.mem_cons_of_mem _ hc)]
    simp
theorem indexB_no (a : List UInt8) (h : ∀ c ∈ a, c ≠ 47) : Lib.indexB (txt a) slash = -1 := by
  have := index_no a h
  unfold Lib.indexB
  simpa [txt] using this
theorem indexB_at (a r : List UInt8) (h : ∀ c ∈ a, c ≠ 47) : Lib.indexB (txt (a ++ 47 :: r)) slash = a.length := by
  have := index_at a r h
  unfold Lib.indexB
  simpa [txt] using this
theorem pieces_no (a : List UInt8) (h : ∀ c ∈ a, c ≠ 47) : pieces a = [txt a] := Lib.splitB_miss _ _ _ _ (indexB_no a h)
theorem pieces_at (a r : List UInt8) (h : ∀ c ∈ a, c ≠ 47) : pieces (a ++ 47 :: r) = txt a :: pieces r := by
  have hz := txt_size (a ++ 47 :: r)
  have hi := indexB_at a r h
  have e1 : (txt (a ++ 47 :: r)).extract 0 (a.length + 0) = txt a := by rw [ext_txt]; simp
  have e2 : (txt (a ++ 47 :: r)).extract (a.length + slash.size) (txt (a ++ 47 :: r)).size = txt r := by
    have hs : slash.size = 1 := rfl
    rw [ext_txt, hz, hs, ← List.drop_drop, List.drop_left, List.drop_one, List.tail_cons, List.take_of_length_le (by simp only [List.length_append, List.length_cons]; omega)]
  unfold pieces
  rw [Lib.countB_hit _ _ a.length (by decide) hi, e2, Nat.add_comm 1, Lib.splitB_hit _ _ _ _ a.length hi, e1, e2]
end Go.Proofs.YtaahibcibgljbaaGreatDoor

namespace Go.Proofs.YtaahibcibgljbaaGreatDoor
open Go.Sl facts
attribute [local irreducible] Code.wp wpList Exit.then Exit.inBlock bodyPost Back MidQ G GP QStep VStep CStep SStep Does Post Reads
abbrev StD (H : HP) (x : Value) (k : ByteArray) (y : Value) (ok : Bool) : Prop := Does Tryz.prog 30 [x, .string k] [Pile H] (X := Unit) (fun _ => .tuple #[y, .bool ok]) (fun _ => [Pile H]) (fun _ => True)
set_option maxHeartbeats 4000000 in
theorem get_ {H : HP} (hT : Tb H) (hI : VarI H 0) (L : List UInt8) (hL : L.length ≤ 1000000) (hL0 : 0 < L.length) {v0 v1 : V} (xs : List Value) (ok : Bool) (h0 : TAt H v0 (xs.getD 0 .nilIface)) (hw : (weigh v0 0 0).1 = 0)
    (hlen : xs.length = (pieces L).length + 1) (hst : ∀ j, j < (pieces L).length → StD H (xs.getD j .nilIface) ((pieces L).getD j ByteArray.empty) (xs.getD (j + 1) .nilIface) (if j + 1 = (pieces L).length then ok else true)) (hsh : ∀ j, xs.getD j .nilIface = .nilIface ∨ ∃ t u, xs.getD j .nilIface = .iface t u)
    (h1 : ok = true → TAt H v1 (xs.getD (pieces L).length .nilIface) ∧ szV v1 ≤ 100000000) :
    Does Tryz.prog 13 [xs.getD 0 .nilIface, .string (txt L)] [Pile H] (X := HP × Value) (fun y => .tuple #[y.2, int (if ok = true then 0 else 1)]) (fun y => [Pile y.1]) (fun y => HP.sub H y.1 ∧ (ok = true → TAt y.1 v1 y.2)) := by
  have hz : (txt L).size = L.length := txt_size L
  have hck := check1 hT.vs h0
  rw [hw] at hck
  have hsp := splitS hI (txt L) slash (by rw [hz]; omega) (by decide)
  have hlp : Lib.countB (txt L) slash + 1 = (pieces L).length := (Lib.splitB_all slash (by decide) 0 _ (txt L) rfl).symm
  rw [hlp] at hsp
  have hpp : Lib.splitB slash 0 (Lib.countB (txt L) slash) (txt L) = pieces L := rfl
  rw [hpp] at hsp
  have hps : 0 < (pieces L).length := by omega
  have hpb : (pieces L).length ≤ 1000001 := by
    have := Lib.countB_le slash (by decide) _ (txt L) (Nat.le_refl _)
    omega
  generalize pieces L = ps at hlen hst h1 hsp hps hpb
  have hx0 := hsh 0
  have hne : ¬ txt L = ByteArray.empty := fun e => by rw [e] at hz; simp at hz; omega
  refine fn_intro Tryz.func13 rfl Tryz.ntmps13 rfl (by simp only [argFr, Nat.zero_add, Nat.reduceAdd]; rfl) (fun Γ => ?_)
  repeat (first
    | (refine g_ops ?_; first | refine sO ?_ | refine s_n (fun _ => ?_) | refine s_app (fun _ _ => ?_) | refine s_b0 (fun _ => ?_) | ((fail_if_success refine g_lit rfl rfl rfl ?_); first | apply g_partM rfl rfl rfl | apply g_partMB rfl rfl rfl | fail) | refine s_k (hck) ?_)
    | refine gS ?_ | exact s_m | intro _)
  refine g_as 14 (v' := .bool false) rfl (congrArg Value.bool (decide_eq_false hne)) ?_
  repeat (first
    | (refine g_ops ?_; first | refine sO ?_ | refine s_n (fun _ => ?_) | refine s_app (fun _ _ => ?_) | refine s_b0 (fun _ => ?_) | ((fail_if_success refine g_lit rfl rfl rfl ?_); first | apply g_partM rfl rfl rfl | apply g_partMB rfl rfl rfl | fail) | refine s_c (hsp) (fun _ _ => ?_))
    | refine gS ?_ | exact s_m | intro _)
  rename_i b _
  dsimp only [List.cons_append, List.nil_append, List.append_eq]
  refine g_loop (X := Nat) (fun i => [(0, xs.getD i .nilIface), (18, .slice (some ⟨b, 0, none⟩) ps.length ps.length), (19, int ps.length), (20, int i)]) (fun _ => [.row b (ps.map .string) 9, Pile H]) (fun i => i ≤ ps.length ∧ (i = ps.length → ok = true)) (fun i => ps.length - i) 0 ⟨Nat.zero_le _, fun e => by omega⟩ (by (repeat (first | exact FrSub.nil | refine FrSub.cons rfl ?_)); first | done | fail) (by (repeat (first | exact Take.nil | apply Take.cons | exact Sel.here | apply Sel.there)); first | done | fail) (fun i hi => ?_)
  obtain ⟨hi, hok⟩ := hi
  repeat (first
    | (refine g_ops ?_; first | refine sO ?_ | refine s_n (fun _ => ?_) | refine s_app (fun _ _ => ?_) | refine s_b0 (fun _ => ?_) | ((fail_if_success refine g_lit rfl rfl rfl ?_); first | apply g_partM rfl rfl rfl | apply g_partMB rfl rfl rfl | fail))
    | refine gS ?_ | exact s_m | intro _)
  refine g_cond_dec rfl (fun h2 => ?_) (fun h2 => ?_)
  · have hi' : i < ps.length := by omega
    have hs := hst i hi'
    have hr : ∀ k, k = i → Reads (.row b (ps.map .string) 9) ⟨b, 0 + k, none⟩ (.string (ps.getD i ByteArray.empty)) := fun k e => by
      subst e; rw [Nat.zero_add]; exact reads_row (by simp [List.getD, hi'])
    unfold StD at hs
    repeat (first
      | (refine g_ops ?_; first | refine sO ?_ | refine s_n (fun _ => ?_) | refine s_app (fun _ _ => ?_) | refine s_b0 (fun _ => ?_) | ((fail_if_success refine g_lit rfl rfl rfl ?_); first | apply g_partM rfl rfl rfl | apply g_partMB rfl rfl rfl | fail) | refine s_c (hs) (fun _ _ => ?_))
      | refine gS ?_ | exact s_m | intro _)
    by_cases hl : i + 1 = ps.length ∧ ok = false
    · refine g_as 31 (v' := .bool true) rfl (congrArg Value.bool (by rw [if_pos hl.1, hl.2]; rfl)) ?_
      rw [hl.2]
      repeat (first
        | (refine g_ops ?_; first | refine sO ?_ | refine s_n (fun _ => ?_) | refine s_app (fun _ _ => ?_) | refine s_b0 (fun _ => ?_) | ((fail_if_success refine g_lit rfl rfl rfl ?_); first | apply g_partM rfl rfl rfl | apply g_partMB rfl rfl rfl | fail))
        | refine gS ?_ | exact s_m | intro _)
      exact gR (H, .nilIface) ⟨HP.sub.refl _, fun h => by cases h⟩
    · have hok2 : i + 1 = ps.length → ok = true := fun e => by
        cases hb : ok with
        | true => rfl
        | false => exact absurd ⟨e, hb⟩ hl
      refine g_as 31 (v' := .bool false) rfl (congrArg Value.bool (by
        by_cases e : i + 1 = ps.length
        · rw [if_pos e, hok2 e]; rfl
        · rw [if_neg e]; rfl)) ?_
      repeat (first
        | (refine g_ops ?_; first | refine sO ?_ | refine s_n (fun _ => ?_) | refine s_app (fun _ _ => ?_) | refine s_b0 (fun _ => ?_) | ((fail_if_success refine g_lit rfl rfl rfl ?_); first | apply g_partM rfl rfl rfl | apply g_partMB rfl rfl rfl | fail))
        | refine gS ?_ | exact s_m | intro _)
      refine g_as 20 (v' := int ((i + 1 : Nat) : Int)) rfl (congrArg (Value.int .i64) (by push_cast; rfl)) ?_
      exact gA (i + 1) (by omega) ⟨hi', hok2⟩
  · obtain rfl : i = ps.length := by omega
    obtain ⟨ht1, hz1⟩ := h1 (hok rfl)
    have hown := own_ v1 H _ ht1 hz1
    unfold OwnD at hown
    rw [hok rfl]
    repeat (first
      | (refine g_ops ?_; first | refine sO ?_ | refine s_n (fun _ => ?_) | refine s_app (fun _ _ => ?_) | refine s_b0 (fun _ => ?_) | ((fail_if_success refine g_lit rfl rfl rfl ?_); first | apply g_partM rfl rfl rfl | apply g_partMB rfl rfl rfl | fail) | refine s_c (hown) (fun _ _ => ?_))
      | refine gS ?_ | exact s_m | intro _)
    rename_i y hy
    exact gR y ⟨hy.1, fun _ => hy.2⟩
end Go.Proofs.YtaahibcibgljbaaGreatDoor

namespace Go.Proofs.YtaahibcibgljbaaGreatDoor
open Go.Sl facts
theorem upK_no {k : ByteArray} : ∀ {l : List Pr}, (∀ q ∈ l, q.k ≠ k) → upK k l = l.length
  | [], _ => rfl
  | a :: l, h => by
    unfold upK
    rw [if_neg (h a (List.mem_cons_self ..)), upK_no fun q hq => h q (List.mem_cons_of_mem _ hq)]
    rfl
theorem kv_tat {H : HP} {F : List KV} {x : Value} (h : TAt H (kvV F) x) : ∃ (p : Option Addr) (c : Nat) (ps : List Pr), x = .iface 89 (.slice p (F.map (·.2)).length c) ∧ ps.length = (F.map (·.2)).length ∧ F.map (·.1) = ps.map Pr.k ∧ SlAt (Pile H) 2 p (F.map (·.2)).length (ps.flatMap Pr.cells) ∧ ∀ (i : Nat) v q, (F.map (·.2))[i]? = some v → ps[i]? = some q → TAt H v q.v := by
  unfold kvV pairsV at h
  cases h with
  | other hk => omega
  | pairs ps hv hl hk hz hS h => exact ⟨_, _, ps, rfl, hv, hk, hS, h⟩
attribute [local irreducible] Code.wp wpList Exit.then Exit.inBlock bodyPost Back MidQ G GP QStep VStep CStep SStep Does Post Reads
set_option maxHeartbeats 4000000 in
theorem stepPN {H : HP} {n : Nat} {p : Option Addr} {c : Nat} (k : ByteArray) (ps : List Pr) (hv : ps.length = n) (hl : n ≤ 1000000000) (hS : SlAt (Pile H) 2 p n (ps.flatMap Pr.cells)) (hsh : ∀ q ∈ ps, q.v = .nilIface ∨ ∃ t u, q.v = .iface t u) (hu : upK k ps = ps.length) :
    Does Tryz.prog 30 [.iface 89 (.slice p n c), .string k] [Pile H] (X := Unit) (fun _ => .tuple #[.nilIface, .bool false]) (fun _ => [Pile H]) (fun _ => True) := by
  subst hv
  have hx := fun b => indexK (H := H) k b p c ps hS hsh hl
  rw [hu, if_pos rfl] at hx
  refine fn_intro Tryz.func30 rfl Tryz.ntmps30 rfl (by simp only [argFr, Nat.zero_add, Nat.reduceAdd]; rfl) (fun Γ => ?_)
  repeat (first
    | (refine g_ops ?_; first | refine sO ?_ | refine s_n (fun _ => ?_) | refine s_app (fun _ _ => ?_) | refine s_b0 (fun _ => ?_) | ((fail_if_success refine g_lit rfl rfl rfl ?_); first | apply g_partM rfl rfl rfl | apply g_partMB rfl rfl rfl | fail))
    | refine gS ?_ | exact s_m | intro _)
  rename_i nb
  refine s_q (q := by exact qs_makeFunc (vs := [ptr nb]) (by (repeat (first | exact Evs.nil | refine Evs.cons rfl ?_)); first | done | fail)) ?_
  have hxb := hx nb
  repeat (first
    | (refine g_ops ?_; first | refine sO ?_ | refine s_n (fun _ => ?_) | refine s_app (fun _ _ => ?_) | refine s_b0 (fun _ => ?_) | ((fail_if_success refine g_lit rfl rfl rfl ?_); first | apply g_partM rfl rfl rfl | apply g_partMB rfl rfl rfl | fail) | refine s_k (hxb) ?_)
    | refine gS ?_ | exact s_m | intro _)
  exact gR () trivial
theorem shape_all {H : HP} {l : List V} {ps : List Pr} (hv : ps.length = l.length) (h : ∀ (i : Nat) v q, l[i]? = some v → ps[i]? = some q → TAt H v q.v) : ∀ q ∈ ps, q.v = .nilIface ∨ ∃ t u, q.v = .iface t u := fun q hq => by
  obtain ⟨j, hj, rfl⟩ := List.mem_iff_getElem.1 hq
  exact (h j (l[j]'(by omega)) ps[j] (List.getElem?_eq_getElem _) (List.getElem?_eq_getElem _)).shape
theorem shape2 {x y : Value} (hx : x = .nilIface ∨ ∃ t u, x = .iface t u) (hy : y = .nilIface ∨ ∃ t u, y = .iface t u) : ∀ j, ([x, y] : List Value).getD j .nilIface = .nilIface ∨ ∃ t u, ([x, y] : List Value).getD j .nilIface = .iface t u := fun j => by
  match j with
  | 0 => exact hx
  | 1 => exact hy
  | j + 2 => exact .inl rfl
theorem getK {H : HP} (hT : Tb H) (hI : VarI H 0) {F : List KV} {x : Value} (hx : TAt H (kvV F) x) (hw : (weigh (kvV F) 0 0).1 = 0) (hl : F.length ≤ 100) (i : Nat) (f : KV) (hi : F[i]? = some f) (hd : ∀ j g, j < i → F[j]? = some g → g.1 ≠ f.1) (L : List UInt8) (hL : f.1 = txt L) (hz : 0 < L.length ∧ L.length ≤ 100) (hno : ∀ c ∈ L, c ≠ 47) (hsz : szV f.2 ≤ 100000000) :
    Does Tryz.prog 13 [x, .string (txt L)] [Pile H] (X := HP × Value) (fun y => .tuple #[y.2, int 0]) (fun y => [Pile y.1]) (fun y => HP.sub H y.1 ∧ TAt y.1 f.2 y.2) := by
  obtain ⟨p, c, ps, rfl, hv, hk, hS, h⟩ := kv_tat hx
  have hlen : (F.map (·.2)).length = F.length := List.length_map ..
  have hiF : i < F.length := (List.getElem?_eq_some_iff.1 hi).1
  have hip : i < ps.length := by omega
  have hkj : ∀ j (hj : j < ps.length), some ps[j].k = (F[j]?).map (·.1) := fun j hj => by
    rw [← List.getElem?_map, hk, List.getElem?_map, List.getElem?_eq_getElem hj]; rfl
  have hki : ps[i].k = txt L := by
    have := hkj i hip
    rw [hi, Option.map_some, Option.some.injEq] at this
    rw [this, hL]
  have hu : upK ps[i].k ps = i := upK_at hip (fun j hj hji e => by
    have h1 := hkj j hj
    have hjF : j < F.length := by omega
    rw [List.getElem?_eq_getElem hjF, Option.map_some, Option.some.injEq, e, hki, ← hL] at h1
    exact hd j _ hji (List.getElem?_eq_getElem hjF) h1.symm) rfl
  have hst := stepP (y := false) (n := 0) (s := ByteArray.empty) (c := c) ps hv (by omega) hS h i hip hu
  rw [hki] at hst
  have hq : TAt H f.2 ps[i].v := h i f.2 ps[i] (by rw [List.getElem?_map, hi]; rfl) (List.getElem?_eq_getElem hip)
  have hp := pieces_no L hno
  have g := get_ (v0 := kvV F) (v1 := f.2) hT hI L (by omega) hz.1 [.iface 89 (.slice p (F.map (fun f : KV => f.2)).length c), ps[i].v] true hx hw (by rw [hp]; rfl) (fun j hj => by
    rw [hp] at hj ⊢
    obtain rfl : j = 0 := by simpa using hj
    exact hst) (shape2 (.inr ⟨_, _, rfl⟩) hq.shape) (fun _ => ⟨by rw [hp]; exact hq, hsz⟩)
  simpa using g
theorem getN {H : HP} (hT : Tb H) (hI : VarI H 0) {F : List KV} {x : Value} (hx : TAt H (kvV F) x) (hw : (weigh (kvV F) 0 0).1 = 0) (hl : F.length ≤ 100) (L : List UInt8) (hd : ∀ f ∈ F, f.1 ≠ txt L) (hz : 0 < L.length ∧ L.length ≤ 100) (hno : ∀ c ∈ L, c ≠ 47) :
    Does Tryz.prog 13 [x, .string (txt L)] [Pile H] (X := HP × Value) (fun y => .tuple #[y.2, int 1]) (fun y => [Pile y.1]) (fun y => HP.sub H y.1) := by
  obtain ⟨p, c, ps, rfl, hv, hk, hS, h⟩ := kv_tat hx
  have hlen : (F.map (·.2)).length = F.length := List.length_map ..
  have hu : upK (txt L) ps = ps.length := upK_no fun q hq e => by
    have h1 : q.k ∈ F.map (·.1) := by rw [hk]; exact List.mem_map_of_mem hq
    obtain ⟨f, hf, h2⟩ := List.mem_map.1 h1
    exact hd f hf (h2.trans e)
  have hst := stepPN (c := c) (txt L) ps hv (by omega) hS (shape_all hv h) hu
  have hp := pieces_no L hno
  have g := get_ (v0 := kvV F) (v1 := nilV) hT hI L (by omega) hz.1 [.iface 89 (.slice p (F.map (fun f : KV => f.2)).length c), .nilIface] false hx hw (by rw [hp]; rfl) (fun j hj => by
    rw [hp] at hj ⊢
    obtain rfl : j = 0 := by simpa using hj
    exact hst) (shape2 (.inr ⟨_, _, rfl⟩) (.inl rfl)) (fun h => by cases h)
  simpa using g
theorem decI_no (j : Nat) : ∀ c ∈ decI j, c ≠ 47 := fun c hc e => by
  have h := decI_num j c hc
  subst e
  exact absurd h (by decide)
theorem getL {H : HP} (hT : Tb H) (hE : ErrH H) (hI : VarI H 0) {F : List KV} {x : Value} (hx : TAt H (kvV F) x) (hw : (weigh (kvV F) 0 0).1 = 0) (hl : F.length ≤ 100) (i : Nat) (k : ByteArray) (vs : List V) (hi : F[i]? = some (k, listV vs)) (hd : ∀ j g, j < i → F[j]? = some g → g.1 ≠ k) (L : List UInt8) (hL : k = txt L) (hz : 0 < L.length ∧ L.length ≤ 100) (hno : ∀ c ∈ L, c ≠ 47) (m : Nat) (v : V) (hm : vs[m]? = some v) (hvl : vs.length ≤ 100) (hsz : szV v ≤ 100000000) :
    Does Tryz.prog 13 [x, .string (txt (L ++ 47 :: decI m))] [Pile H] (X := HP × Value) (fun y => .tuple #[y.2, int 0]) (fun y => [Pile y.1]) (fun y => HP.sub H y.1 ∧ TAt y.1 v y.2) := by
  obtain ⟨p, c, ps, rfl, hv, hk, hS, h⟩ := kv_tat hx
  have hlen : (F.map (·.2)).length = F.length := List.length_map ..
  have hiF : i < F.length := (List.getElem?_eq_some_iff.1 hi).1
  have hip : i < ps.length := by omega
  have hmv : m < vs.length := (List.getElem?_eq_some_iff.1 hm).1
  have hkj : ∀ j (hj : j < ps.length), some ps[j].k = (F[j]?).map (·.1) := fun j hj => by
    rw [← List.getElem?_map, hk, List.getElem?_map, List.getElem?_eq_getElem hj]; rfl
  have hki : ps[i].k = txt L := by
    have := hkj i hip
    rw [hi, Option.map_some, Option.some.injEq] at this
    rw [this, hL]
  have hu : upK ps[i].k ps = i := upK_at hip (fun j hj hji e => by
    have h1 := hkj j hj
    have hjF : j < F.length := by omega
    rw [List.getElem?_eq_getElem hjF, Option.map_some, Option.some.injEq, e, hki, ← hL] at h1
    exact hd j _ hji (List.getElem?_eq_getElem hjF) h1.symm) rfl
  have hst := stepP (y := false) (n := 0) (s := ByteArray.empty) (c := c) ps hv (by omega) hS h i hip hu
  rw [hki] at hst
  have hq : TAt H (listV vs) ps[i].v := h i (listV vs) ps[i] (by rw [List.getElem?_map, hi]; rfl) (List.getElem?_eq_getElem hip)
  generalize ps[i].v = w at hst hq
  unfold listV at hq
  have hqs := hq.shape
  obtain ⟨p2, c2, ws, rfl, hwv, hws, hwt⟩ : ∃ (p2 : Option Addr) (c2 : Nat) (ws : List Value), w = .iface 105 (.slice p2 ws.length c2) ∧ ws.length = vs.length ∧ SlAt (Pile H) 1 p2 ws.length ws ∧ ∀ (i : Nat) a b, vs[i]? = some a → ws[i]? = some b → TAt H a b := by
    cases hq with
    | other hk => omega
    | list ws hv hl hS h => exact ⟨_, _, ws, by rw [hv], hv, by rw [hv]; exact hS, h⟩
  have hmw : m < ws.length := by omega
  have hwm : TAt H v (ws.getD m .nilIface) := by
    rw [show ws.getD m .nilIface = ws[m] by simp [List.getD, hmw]]
    exact hwt m v ws[m] hm (List.getElem?_eq_getElem hmw)
  have hsl := stepL hE (c := c2) (by omega) hws (fun b hb => by
    obtain ⟨j, hj, rfl⟩ := List.mem_iff_getElem.1 hb
    exact (hwt j (vs[j]'(by omega)) ws[j] (List.getElem?_eq_getElem _) (List.getElem?_eq_getElem _)).shape) m (by omega)
  rw [decide_eq_true hmw] at hsl
  have hp : pieces (L ++ 47 :: decI m) = [txt L, txt (decI m)] := by rw [pieces_at _ _ hno, pieces_no _ (decI_no m)]
  have hdl := (decI_len20 (m : Int) ⟨by omega, by omega⟩).1
  have g := get_ (v0 := kvV F) (v1 := v) hT hI (L ++ 47 :: decI m) (by simp only [List.length_append, List.length_cons]; omega) (by simp only [List.length_append, List.length_cons]; omega) [.iface 89 (.slice p (F.map (fun f : KV => f.2)).length c), .iface 105 (.slice p2 ws.length c2), ws.getD m .nilIface] true hx hw (by rw [hp]; rfl) (fun j hj => by
    rw [hp] at hj ⊢
    match j, hj with
    | 0, _ => exact hst
    | 1, _ => exact hsl
    | j + 2, hj => exact absurd hj (by simp)) (fun j => by
    match j with
    | 0 => exact .inr ⟨_, _, rfl⟩
    | 1 => exact .inr ⟨_, _, rfl⟩
    | 2 => exact hwm.shape
    | j + 3 => exact .inl rfl) (fun _ => ⟨by rw [hp]; exact hwm, hsz⟩)
  simpa using g
end Go.Proofs.YtaahibcibgljbaaGreatDoor

namespace Go.Proofs.YtaahibcibgljbaaGreatDoor
open Go.Sl facts
attribute [local irreducible] Code.wp wpList Exit.then Exit.inBlock bodyPost Back MidQ G GP QStep VStep CStep SStep Does Post Reads
theorem inz : inI 0 := ⟨by decide, by decide⟩
set_option maxHeartbeats 4000000 in
theorem dText (w l n : Int) (hw : inI w) (hl : inI l) (hn : inI n) : Does1 Tryz.prog 16 [.agg [int w, int l, int n].toArray] [] (.string (stext w l n)) := by
  have s1 := (decI_len20 w hw).1
  have s2 := (decI_len20 l hl).1
  have s3 := (decI_len20 n hn).1
  have c1 : (⟨#[46]⟩ : ByteArray).size = 1 := rfl
  have c2 : (⟨#[64]⟩ : ByteArray).size = 1 := rfl
  have d1 : Does1 Tryz.prog 32 [int w] [] (.string (txt (decI w))) := decimal w hw
  have d2 : Does1 Tryz.prog 32 [int l] [] (.string (txt (decI l))) := decimal l hl
  have d3 : Does1 Tryz.prog 32 [int n] [] (.string (txt (decI n))) := decimal n hn
  refine fn_intro Tryz.func16 rfl Tryz.ntmps16 rfl (by simp only [argFr, Nat.zero_add, Nat.reduceAdd]; rfl) (fun Γ => ?_)
  repeat (first
    | (refine g_ops ?_; first | refine sO ?_ | refine s_n (fun _ => ?_) | refine s_app (fun _ _ => ?_) | refine s_b0 (fun _ => ?_) | ((fail_if_success refine g_lit rfl rfl rfl ?_); first | apply g_partM rfl rfl rfl | apply g_partMB rfl rfl rfl | fail))
    | refine gS ?_ | exact s_m | intro _)
  refine g_draw (.take 0 (.see 1 [] (.see 2 [] (.take 3 (.take 4 (.see 5 [] (.see 6 [] (.take 7 (.take 8 (.take 9 (.see 10 [] (.see 11 [] (.take 12 (.take 13 .done)))))))))))))) (by kernel_rfl) (take_all _) (fun k hd hk => ?_)
  repeat (first
    | (refine gp_take ?_; first | refine pT ?_ | ((fail_if_success refine gp_lit rfl rfl rfl rfl ?_); first | apply gp_guard_dec rfl rfl rfl rfl | apply gp_guard rfl rfl rfl rfl | fail))
    | (refine gp_see ?_; first | refine p_f ?_ | refine pS ?_ | ((fail_if_success refine gp_lit rfl rfl rfl rfl ?_); first | apply gp_guard_dec rfl rfl rfl rfl | apply gp_guard rfl rfl rfl rfl | fail) | refine p_h (does1_more d1) hd hk ?_)
    | (refine gp_one ?_; first | refine pO ?_ | refine p_n (fun _ => ?_) | refine p_app (fun _ _ => ?_) | refine p_b0 (fun _ => ?_) | ((fail_if_success refine gp_lit rfl rfl rfl rfl ?_); first | apply gp_guard_dec rfl rfl rfl rfl | apply gp_guard rfl rfl rfl rfl | fail) | refine p_k (does1_more d1) ?_)
    | refine gp_two ?_ ?_ | refine gp_done hd hk ?_ | intro _ | refine p_ta hd hk (fun _ _ _ hd hk => ?_) | refine p_ts hd hk (fun _ hd hk => ?_))
  refine gp_q (fun _ => qs_addS rfl rfl (by rw [txt_size, c1]; omega)) rfl rfl rfl ?_
  repeat (first
    | (refine gp_take ?_; first | refine pT ?_ | ((fail_if_success refine gp_lit rfl rfl rfl rfl ?_); first | apply gp_guard_dec rfl rfl rfl rfl | apply gp_guard rfl rfl rfl rfl | fail))
    | (refine gp_see ?_; first | refine p_f ?_ | refine pS ?_ | ((fail_if_success refine gp_lit rfl rfl rfl rfl ?_); first | apply gp_guard_dec rfl rfl rfl rfl | apply gp_guard rfl rfl rfl rfl | fail) | refine p_h (does1_more d2) hd hk ?_)
    | (refine gp_one ?_; first | refine pO ?_ | refine p_n (fun _ => ?_) | refine p_app (fun _ _ => ?_) | refine p_b0 (fun _ => ?_) | ((fail_if_success refine gp_lit rfl rfl rfl rfl ?_); first | apply gp_guard_dec rfl rfl rfl rfl | apply gp_guard rfl rfl rfl rfl | fail) | refine p_k (does1_more d2) ?_)
    | refine gp_two ?_ ?_ | refine gp_done hd hk ?_ | intro _ | refine p_ta hd hk (fun _ _ _ hd hk => ?_) | refine p_ts hd hk (fun _ hd hk => ?_))
  refine gp_q (fun _ => qs_addS rfl rfl (by simp only [ByteArray.size_append, txt_size, c1]; omega)) rfl rfl rfl ?_
  refine gp_q (fun _ => qs_addS rfl rfl (by simp only [ByteArray.size_append, txt_size, c1, c2]; omega)) rfl rfl rfl ?_
  repeat (first
    | (refine gp_take ?_; first | refine pT ?_ | ((fail_if_success refine gp_lit rfl rfl rfl rfl ?_); first | apply gp_guard_dec rfl rfl rfl rfl | apply gp_guard rfl rfl rfl rfl | fail))
    | (refine gp_see ?_; first | refine p_f ?_ | refine pS ?_ | ((fail_if_success refine gp_lit rfl rfl rfl rfl ?_); first | apply gp_guard_dec rfl rfl rfl rfl | apply gp_guard rfl rfl rfl rfl | fail) | refine p_h (does1_more d3) hd hk ?_)
    | (refine gp_one ?_; first | refine pO ?_ | refine p_n (fun _ => ?_) | refine p_app (fun _ _ => ?_) | refine p_b0 (fun _ => ?_) | ((fail_if_success refine gp_lit rfl rfl rfl rfl ?_); first | apply gp_guard_dec rfl rfl rfl rfl | apply gp_guard rfl rfl rfl rfl | fail) | refine p_k (does1_more d3) ?_)
    | refine gp_two ?_ ?_ | refine gp_done hd hk ?_ | intro _ | refine p_ta hd hk (fun _ _ _ hd hk => ?_) | refine p_ts hd hk (fun _ hd hk => ?_))
  refine gp_q (fun _ => qs_addS rfl rfl (by simp only [ByteArray.size_append, txt_size, c1, c2]; omega)) rfl rfl rfl ?_
  repeat (first
    | (refine gp_take ?_; first | refine pT ?_ | ((fail_if_success refine gp_lit rfl rfl rfl rfl ?_); first | apply gp_guard_dec rfl rfl rfl rfl | apply gp_guard rfl rfl rfl rfl | fail))
    | (refine gp_see ?_; first | refine p_f ?_ | refine pS ?_ | ((fail_if_success refine gp_lit rfl rfl rfl rfl ?_); first | apply gp_guard_dec rfl rfl rfl rfl | apply gp_guard rfl rfl rfl rfl | fail))
    | (refine gp_one ?_; first | refine pO ?_ | refine p_n (fun _ => ?_) | refine p_app (fun _ _ => ?_) | refine p_b0 (fun _ => ?_) | ((fail_if_success refine gp_lit rfl rfl rfl rfl ?_); first | apply gp_guard_dec rfl rfl rfl rfl | apply gp_guard rfl rfl rfl rfl | fail))
    | refine gp_two ?_ ?_ | refine gp_done hd hk ?_ | intro _ | refine p_ta hd hk (fun _ _ _ hd hk => ?_) | refine p_ts hd hk (fun _ hd hk => ?_))
  repeat (first
    | (refine g_ops ?_; first | refine sO ?_ | refine s_n (fun _ => ?_) | refine s_app (fun _ _ => ?_) | refine s_b0 (fun _ => ?_) | ((fail_if_success refine g_lit rfl rfl rfl ?_); first | apply g_partM rfl rfl rfl | apply g_partMB rfl rfl rfl | fail))
    | refine gS ?_ | exact s_m | intro _)
  exact g_ret () rfl (by (repeat (first | exact RVs.nil | apply RVs.tmp rfl | apply RVs.cellA rfl (by (repeat (first | exact Sel.here | apply Sel.there)); first | done | fail) (by (repeat (first | exact Cut.zero | apply Cut.take | apply Cut.skip)); first | done | fail) | apply RVs.cell1 rfl (by (repeat (first | exact Sel.here | apply Sel.there)); first | done | fail) rfl)); first | done | fail) (by (repeat (first | exact Take.nil | apply Take.cons | exact Sel.here | apply Sel.there)); first | done | fail) (by simp only [pack]; exact congrArg Value.string (stext_eq w l n)) trivial
def DvAt (H : HP) (l : List V) (us : List Vc) : Prop := us.length = l.length ∧ ∀ (i : Nat) a u, l[i]? = some a → us[i]? = some u → VAt (Pile H) a u
theorem DvAt.nil {H : HP} : DvAt H [] [] := ⟨rfl, fun i a w h => by simp at h⟩
theorem DvAt.grow {H H' : HP} {l : List V} {us : List Vc} (h : DvAt H l us) (s : HP.sub H H') : DvAt H' l us := ⟨h.1, fun i a u h1 h2 => (h.2 i a u h1 h2).grow s⟩
theorem DvAt.snoc {H : HP} {l : List V} {us : List Vc} {v : V} {u : Vc} (h : DvAt H l us) (hv : VAt (Pile H) v u) : DvAt H (l ++ [v]) (us ++ [u]) := by
  refine ⟨by simp [h.1], fun i a w h1 h2 => ?_⟩
  rcases Nat.lt_or_ge i l.length with hj | hj
  · rw [List.getElem?_append_left hj] at h1
    rw [List.getElem?_append_left (by rw [h.1]; exact hj)] at h2
    exact h.2 i a w h1 h2
  · rw [List.getElem?_append_right hj] at h1
    rw [List.getElem?_append_right (by rw [h.1]; exact hj), h.1] at h2
    have h0 : i - l.length = 0 := by
      have := (List.getElem?_eq_some_iff.1 h1).1
      simp only [List.length_singleton] at this
      omega
    rw [h0] at h1 h2
    cases h1; cases h2
    exact hv
theorem DvAt.list {H H' : HP} {l : List V} {us : List Vc} {q : Option Addr} {k c : Nat} (h : DvAt H l us) (s : HP.sub H H') (hk : k = l.length) (hS : SlAt (Pile H') 6 q k (us.flatMap Vc.cells)) (hl : l.length ≤ 9223372036854775807) : VAt (Pile H') (listV l) ⟨5, false, 0, ByteArray.empty, none, 0, 0, q, k, c⟩ := by
  subst hk
  exact .mk us ⟨by decide, by decide⟩ inz (by decide) (Nat.zero_le _) (fun _ h => by cases h) ⟨rfl, rfl, fun _ => rfl, fun j v hv => by simp at hv⟩ hl h.1 hS fun i a w h1 h2 => (h.2 i a w h1 h2).grow s
structure DoX where
  ks : List ByteArray
  kq : Option Addr
  kc : Nat
  us : List Vc
  q : Option Addr
  c : Nat
  H : HP
structure DeX where
  i : Nat
  us : List Vc
  q : Option Addr
  c : Nat
  H : HP
end Go.Proofs.YtaahibcibgljbaaGreatDoor
