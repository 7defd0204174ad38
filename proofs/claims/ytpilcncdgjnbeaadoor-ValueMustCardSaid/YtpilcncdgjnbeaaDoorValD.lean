/- Values as trees; how one stands in memory as Go's own types; its weight. -/
import Derived.Test.YtpilcncdgjnbeaaDoorValC
set_option linter.unusedSimpArgs false
set_option linter.unusedVariables false
namespace Go.Sl
/-- A value, as plain data: its kind, what it is by its kind, its keys, what is within. -/
inductive V where
  | mk (kind : Int) (yes : Bool) (n : Int) (s : ByteArray) (keys : List ByteArray) (kids : List V)
namespace V
def kind : V → Int | mk k _ _ _ _ _ => k
def yes : V → Bool | mk _ y _ _ _ _ => y
def n : V → Int | mk _ _ n _ _ _ => n
def s : V → ByteArray | mk _ _ _ s _ _ => s
def keys : V → List ByteArray | mk _ _ _ _ ks _ => ks
def kids : V → List V | mk _ _ _ _ _ l => l
theorem lt_of_mem {k : Int} {y : Bool} {n : Int} {s : ByteArray} {ks : List ByteArray} {l : List V} {x : V} (h : x ∈ l) : SizeOf.sizeOf x < SizeOf.sizeOf (mk k y n s ks l) := by
  have := List.sizeOf_lt_of_mem h
  simp only [mk.sizeOf_spec]
  omega
theorem ind {Q : V → Prop} (h : ∀ k y n s ks l, (∀ x ∈ l, Q x) → Q (mk k y n s ks l)) : ∀ v, Q v
  | mk k y n s ks l => h k y n s ks l fun x hx => ind h x
termination_by v => SizeOf.sizeOf v
decreasing_by exact lt_of_mem hx
end V
/-- A text's bytes make UTF-8. -/
def validB (s : ByteArray) : Bool := Lib.validD s.data.toList
def ctlB (r : Nat) : Bool := decide (r < 32 ∨ r = 127)
/-- May a text be a key? -/
def keyB (s : ByteArray) : Bool := everyB (fun r => !ctlB r) 40 s && validB s
mutual
/-- The first error within; how many values there were. -/
def weigh : V → Int → Int → Int × Int
  | .mk k _ _ s ks l, lv, n =>
    if k < 1 ∨ 6 < k then (12, n + 1) else if k = 4 ∧ validB s = false then (1, n + 1) else if 1000 < n + 1 then (2, n + 1)
    else if k < 5 then (0, n + 1) else if 20 ≤ lv then (2, n + 1) else weighL (decide (k = 6)) none ks l (lv + 1) (n + 1)
def weighL : Bool → Option ByteArray → List ByteArray → List V → Int → Int → Int × Int
  | _, _, _, [], _, n => (0, n)
  | p, pr, ks, x :: l, lv, n =>
    if p = true ∧ (keyB (ks.headD ByteArray.empty) = false ∨ (∃ q ∈ pr, bltB q (ks.headD ByteArray.empty) = false)) then (1, n)
    else if (weigh x lv n).1 = 0 then weighL p ks.head? ks.tail l lv (weigh x lv n).2 else weigh x lv n
end
theorem weigh_mk (k : Int) (y : Bool) (m : Int) (s : ByteArray) (ks : List ByteArray) (l : List V) (lv n : Int) : weigh (.mk k y m s ks l) lv n =
    if k < 1 ∨ 6 < k then (12, n + 1) else if k = 4 ∧ validB s = false then (1, n + 1) else if 1000 < n + 1 then (2, n + 1)
    else if k < 5 then (0, n + 1) else if 20 ≤ lv then (2, n + 1) else weighL (decide (k = 6)) none ks l (lv + 1) (n + 1) := by rw [weigh]
theorem weighL_nil (p : Bool) (pr : Option ByteArray) (ks : List ByteArray) (lv n : Int) : weighL p pr ks [] lv n = (0, n) := by rw [weighL]
theorem weighL_cons (p : Bool) (pr : Option ByteArray) (ks : List ByteArray) (x : V) (l : List V) (lv n : Int) : weighL p pr ks (x :: l) lv n =
    if p = true ∧ (keyB (ks.headD ByteArray.empty) = false ∨ (∃ q ∈ pr, bltB q (ks.headD ByteArray.empty) = false)) then (1, n)
    else if (weigh x lv n).1 = 0 then weighL p ks.head? ks.tail l lv (weigh x lv n).2 else weigh x lv n := by rw [weighL]
theorem weighL_most : ∀ (l : List V), (∀ x ∈ l, ∀ lv n, 0 ≤ n → (weigh x lv n).1 = 0 → n < (weigh x lv n).2 ∧ (weigh x lv n).2 ≤ 1000) → ∀ p pr ks lv n, 0 ≤ n → n ≤ 1000 → (weighL p pr ks l lv n).1 = 0 → n ≤ (weighL p pr ks l lv n).2 ∧ (weighL p pr ks l lv n).2 ≤ 1000
  | [], _, p, pr, ks, lv, n, _, hn, _ => by rw [weighL_nil]; exact ⟨Int.le_refl _, hn⟩
  | x :: l, hl, p, pr, ks, lv, n, h0, hn, h => by
    rw [weighL_cons] at h ⊢
    split at h
    · cases h
    · rename_i h1
      rw [if_neg h1]
      split at h
      · rename_i h2
        rw [if_pos h2]
        have h3 := hl x (List.mem_cons_self ..) lv n h0 h2
        have h4 := weighL_most l (fun y hy => hl y (List.mem_cons_of_mem _ hy)) p _ _ lv _ (by omega) h3.2 h
        exact ⟨by omega, h4.2⟩
      · rename_i h2
        exact absurd h h2
theorem weigh_most (v : V) : ∀ lv n, 0 ≤ n → (weigh v lv n).1 = 0 → n < (weigh v lv n).2 ∧ (weigh v lv n).2 ≤ 1000 := by
  refine V.ind (Q := fun v => ∀ lv n, 0 ≤ n → (weigh v lv n).1 = 0 → n < (weigh v lv n).2 ∧ (weigh v lv n).2 ≤ 1000) (fun k y m s ks l ih lv n h0 h => ?_) v
  rw [weigh_mk] at h ⊢
  split at h
  · cases h
  rename_i h1
  rw [if_neg h1]
  split at h
  · cases h
  rename_i h2
  rw [if_neg h2]
  split at h
  · cases h
  rename_i h3
  rw [if_neg h3]
  split at h
  · rename_i h4
    rw [if_pos h4]
    show n < n + 1 ∧ n + 1 ≤ 1000
    omega
  rename_i h4
  rw [if_neg h4]
  split at h
  · cases h
  rename_i h5
  rw [if_neg h5]
  have h6 := weighL_most l ih _ _ _ _ _ (by omega) (by omega) h
  exact ⟨by omega, h6.2⟩
/-- A pair in memory. -/
structure Pr where
  k : ByteArray
  v : Value
def Pr.cells (p : Pr) : List Value := [.string p.k, p.v]
theorem Pr.len (p : Pr) : p.cells.length = 2 := rfl
end Go.Sl
namespace Go.Proofs.YtpilcncdgjnbeaaDoor
open Go.Sl facts
/-- How a value stands in memory as Go's own. -/
inductive TAt (H : HP) : V → Value → Prop where
  | nil {y n s ks l} : TAt H (.mk 1 y n s ks l) .nilIface
  | bool {y n s ks l} : TAt H (.mk 2 y n s ks l) (.iface 4 (.bool y))
  | int {y n s ks l} (h : -9223372036854775808 ≤ n ∧ n ≤ 9223372036854775807) : TAt H (.mk 3 y n s ks l) (.iface 3 (.int .i64 n))
  | text {y n s ks l} (h : s.size ≤ 9223372036854775807) : TAt H (.mk 4 y n s ks l) (.iface 9 (.string s))
  | list {y n s ks l} {p c} (vs : List Value) (hv : vs.length = l.length) (hl : l.length ≤ 9223372036854775807) (hS : SlAt (Pile H) 1 p l.length vs) (h : ∀ (i : Nat) x v, l[i]? = some x → vs[i]? = some v → TAt H x v) : TAt H (.mk 5 y n s ks l) (.iface 35 (.slice p l.length c))
  | pairs {y n s ks l} {p c} (ps : List Pr) (hv : ps.length = l.length) (hl : l.length ≤ 9223372036854775807) (hk : ks = ps.map Pr.k) (hz : ∀ q ∈ ps, q.k.size ≤ 9223372036854775807) (hS : SlAt (Pile H) 2 p l.length (ps.flatMap Pr.cells)) (h : ∀ (i : Nat) x q, l[i]? = some x → ps[i]? = some q → TAt H x q.v) : TAt H (.mk 6 y n s ks l) (.iface 47 (.slice p l.length c))
  | other {k y n s ks l} {t v} (hk : k < 1 ∨ 6 < k) (h1 : Nat.beq t 4 = false) (h2 : Nat.beq t 3 = false) (h3 : Nat.beq t 9 = false) (h4 : Nat.beq t 35 = false) (h5 : Nat.beq t 47 = false) : TAt H (.mk k y n s ks l) (.iface t v)
theorem TAt.grow {H H' : HP} (s : HP.sub H H') {v : V} {x : Value} (h : TAt H v x) : TAt H' v x := by
  induction h with
  | nil => exact .nil
  | bool => exact .bool
  | int h => exact .int h
  | text h => exact .text h
  | list vs hv hl hS _ ih => exact .list vs hv hl (hS.grow s) ih
  | pairs ps hv hl hk hz hS _ ih => exact .pairs ps hv hl hk hz (hS.grow s) ih
  | other hk h1 h2 h3 h4 h5 => exact .other hk h1 h2 h3 h4 h5
theorem keyB_eq (s : ByteArray) : keyB s = (everyB (fun r => !controlB r) 40 s && Lib.validD s.data.toList) := rfl
end Go.Proofs.YtpilcncdgjnbeaaDoor
