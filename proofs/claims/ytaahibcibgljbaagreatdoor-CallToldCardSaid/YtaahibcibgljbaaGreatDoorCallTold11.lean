/- Contracts and laws that the proof stands on. -/
import Derived.Test.YtaahibcibgljbaaGreatDoorCallTold7
import Derived.Test.YtaahibcibgljbaaGreatDoorCallTold9
import Derived.Test.YtaahibcibgljbaaGreatDoorCallTold10
set_option linter.unusedSimpArgs false
set_option linter.unusedVariables false
namespace Go.Sl
theorem g_capO {Γ : Ctx} {N : Nat} {fr : Fr} {L R : List Chunk} {φ : Act → World → Prop} {p : Option Addr} {len cap n : Nat} {xs : List Value} {e : TypeId} (s : Sel L (.own p len cap n xs e) R) (g : len ≤ cap → G Γ N fr L φ) : G Γ N fr L φ := fun a w hN hd hf hh =>
  g (own_place hh s).2.1 a w hN hd hf hh
end Go.Sl
namespace Go.Proofs.YtaahibcibgljbaaGreatDoor
open Go.Sl facts
inductive Head where
  | nil
  | bool (b : Bool)
  | int (n : Int)
  | text (s : ByteArray)
  | list (p : Option Addr) (m c : Nat)
  | pairs (p : Option Addr) (m c : Nat)
def Head.v : Head → Value
  | .nil => .nilIface
  | .bool b => .iface 4 (.bool b)
  | .int n => .iface 3 (.int .i64 n)
  | .text s => .iface 9 (.string s)
  | .list p m c => .iface 105 (.slice p m c)
  | .pairs p m c => .iface 89 (.slice p m c)
attribute [local irreducible] Code.wp wpList Exit.then Exit.inBlock bodyPost Back MidQ G GP QStep VStep CStep SStep Does Post Reads
end Go.Proofs.YtaahibcibgljbaaGreatDoor
namespace Go.Proofs.YtaahibcibgljbaaGreatDoor
open Go.Sl facts
def Head.over : Head → Bool
  | .list _ _ _ => false
  | .pairs _ _ _ => false
  | _ => true
def Head.isText : Head → Bool
  | .text _ => true
  | _ => false
attribute [local irreducible] Code.wp wpList Exit.then Exit.inBlock bodyPost Back MidQ G GP QStep VStep CStep SStep Does Post Reads
theorem plain_ (h : Head) (ht : h.isText = false) : Does1 Tryz.prog 69 [h.v] [] (.tuple #[int 0, .bool h.over]) := by
  cases h <;> dsimp only [Head.v, Head.over]
  · refine fn_intro Tryz.func69 rfl Tryz.ntmps69 rfl (by simp only [argFr, Nat.zero_add, Nat.reduceAdd]; rfl) (fun Γ => ?_)
    repeat (first
      | (refine g_ops ?_; first | refine sO ?_ | refine s_n (fun _ => ?_) | refine s_app (fun _ _ => ?_) | refine s_b0 (fun _ => ?_) | ((fail_if_success refine g_lit rfl rfl rfl ?_); first | apply g_partM rfl rfl rfl | apply g_partMB rfl rfl rfl | fail))
      | refine gS ?_ | exact s_m | intro _)
    exact s_r ()
  · refine fn_intro Tryz.func69 rfl Tryz.ntmps69 rfl (by simp only [argFr, Nat.zero_add, Nat.reduceAdd]; rfl) (fun Γ => ?_)
    repeat (first
      | (refine g_ops ?_; first | refine sO ?_ | refine s_n (fun _ => ?_) | refine s_app (fun _ _ => ?_) | refine s_b0 (fun _ => ?_) | ((fail_if_success refine g_lit rfl rfl rfl ?_); first | apply g_partM rfl rfl rfl | apply g_partMB rfl rfl rfl | fail))
      | refine gS ?_ | exact s_m | intro _)
    exact s_r ()
  · refine fn_intro Tryz.func69 rfl Tryz.ntmps69 rfl (by simp only [argFr, Nat.zero_add, Nat.reduceAdd]; rfl) (fun Γ => ?_)
    repeat (first
      | (refine g_ops ?_; first | refine sO ?_ | refine s_n (fun _ => ?_) | refine s_app (fun _ _ => ?_) | refine s_b0 (fun _ => ?_) | ((fail_if_success refine g_lit rfl rfl rfl ?_); first | apply g_partM rfl rfl rfl | apply g_partMB rfl rfl rfl | fail))
      | refine gS ?_ | exact s_m | intro _)
    exact s_r ()
  · cases ht
  · refine fn_intro Tryz.func69 rfl Tryz.ntmps69 rfl (by simp only [argFr, Nat.zero_add, Nat.reduceAdd]; rfl) (fun Γ => ?_)
    repeat (first
      | (refine g_ops ?_; first | refine sO ?_ | refine s_n (fun _ => ?_) | refine s_app (fun _ _ => ?_) | refine s_b0 (fun _ => ?_) | ((fail_if_success refine g_lit rfl rfl rfl ?_); first | apply g_partM rfl rfl rfl | apply g_partMB rfl rfl rfl | fail))
      | refine gS ?_ | exact s_m | intro _)
    exact s_r ()
  · refine fn_intro Tryz.func69 rfl Tryz.ntmps69 rfl (by simp only [argFr, Nat.zero_add, Nat.reduceAdd]; rfl) (fun Γ => ?_)
    repeat (first
      | (refine g_ops ?_; first | refine sO ?_ | refine s_n (fun _ => ?_) | refine s_app (fun _ _ => ?_) | refine s_b0 (fun _ => ?_) | ((fail_if_success refine g_lit rfl rfl rfl ?_); first | apply g_partM rfl rfl rfl | apply g_partMB rfl rfl rfl | fail))
      | refine gS ?_ | exact s_m | intro _)
    exact s_r ()
theorem plain_text {H : HP} (hV : VStr H) (s : ByteArray) (hs : s.size ≤ 9223372036854775807) : Does1 Tryz.prog 69 [.iface 9 (.string s)] [Pile H] (.tuple #[int (if Lib.validD s.data.toList then 0 else 1), .bool true]) := by
  have hv := valid hV s hs
  cases hd : Lib.validD s.data.toList <;> rw [hd] at hv
  · refine fn_intro Tryz.func69 rfl Tryz.ntmps69 rfl (by simp only [argFr, Nat.zero_add, Nat.reduceAdd]; rfl) (fun Γ => ?_)
    repeat (first
      | (refine g_ops ?_; first | refine sO ?_ | refine s_n (fun _ => ?_) | refine s_app (fun _ _ => ?_) | refine s_b0 (fun _ => ?_) | ((fail_if_success refine g_lit rfl rfl rfl ?_); first | apply g_partM rfl rfl rfl | apply g_partMB rfl rfl rfl | fail) | refine s_k (hv) ?_)
      | refine gS ?_ | exact s_m | intro _)
    exact s_r ()
  · refine fn_intro Tryz.func69 rfl Tryz.ntmps69 rfl (by simp only [argFr, Nat.zero_add, Nat.reduceAdd]; rfl) (fun Γ => ?_)
    repeat (first
      | (refine g_ops ?_; first | refine sO ?_ | refine s_n (fun _ => ?_) | refine s_app (fun _ _ => ?_) | refine s_b0 (fun _ => ?_) | ((fail_if_success refine g_lit rfl rfl rfl ?_); first | apply g_partM rfl rfl rfl | apply g_partMB rfl rfl rfl | fail) | refine s_k (hv) ?_)
      | refine gS ?_ | exact s_m | intro _)
    exact s_r ()
theorem plain_none (t : TypeId) (v : Value) (h1 : Nat.beq t 4 = false) (h2 : Nat.beq t 3 = false) (h3 : Nat.beq t 9 = false) (h4 : Nat.beq t 105 = false) (h5 : Nat.beq t 89 = false) :
    Does1 Tryz.prog 69 [.iface t v] [] (.tuple #[int 12, .bool true]) := by
  refine fn_intro Tryz.func69 rfl Tryz.ntmps69 rfl (by simp only [argFr, Nat.zero_add, Nat.reduceAdd]; rfl) (fun Γ => ?_)
  repeat (first
    | (refine g_ops ?_; first | refine sO ?_ | refine s_n (fun _ => ?_) | refine s_app (fun _ _ => ?_) | refine s_b0 (fun _ => ?_) | ((fail_if_success refine g_lit rfl rfl rfl ?_); first | apply g_partM rfl rfl rfl | apply g_partMB rfl rfl rfl | fail))
    | refine gS ?_ | exact s_m | intro _)
  exact s_r ()
end Go.Proofs.YtaahibcibgljbaaGreatDoor
namespace Go.Sl
inductive V where
  | mk (kind : Int) (yes : Bool) (n : Int) (s : ByteArray) (keys : List ByteArray) (kids : List V)
namespace V
def kind : V → Int | mk k _ _ _ _ _ => k
def yes : V → Bool | mk _ y _ _ _ _ => y
def n : V → Int | mk _ _ n _ _ _ => n
def s : V → ByteArray | mk _ _ _ s _ _ => s
def keys : V → List ByteArray | mk _ _ _ _ ks _ => ks
def kids : V → List V | mk _ _ _ _ _ l => l
theorem lt_of_mem {k : Int} {y : Bool} {n : Int} {s : ByteArray} {ks : List ByteArray} {l : List V} {x : V} (h : x ∈ l) : SizeOf.sizeOf x < SizeOf.sizeOf (mk k y n s ks l) := by
  have := List.sizeOf_lt_of_mem h
  simp only [mk.sizeOf_spec]
  omega
theorem ind {Q : V → Prop} (h : ∀ k y n s ks l, (∀ x ∈ l, Q x) → Q (mk k y n s ks l)) : ∀ v, Q v
  | mk k y n s ks l => h k y n s ks l fun x hx => ind h x
termination_by v => SizeOf.sizeOf v
decreasing_by exact lt_of_mem hx
end V
def validB (s : ByteArray) : Bool := Lib.validD s.data.toList
def ctlB (r : Nat) : Bool := decide (r < 32 ∨ r = 127)
def keyB (s : ByteArray) : Bool := everyB (fun r => !ctlB r) 40 s && validB s
mutual
def weigh : V → Int → Int → Int × Int
  | .mk k _ _ s ks l, lv, n =>
    if k < 1 ∨ 6 < k then (12, n + 1) else if k = 4 ∧ validB s = false then (1, n + 1) else if 1000 < n + 1 then (2, n + 1)
    else if k < 5 then (0, n + 1) else if 20 ≤ lv then (2, n + 1) else weighL (decide (k = 6)) none ks l (lv + 1) (n + 1)
def weighL : Bool → Option ByteArray → List ByteArray → List V → Int → Int → Int × Int
  | _, _, _, [], _, n => (0, n)
  | p, pr, ks, x :: l, lv, n =>
    if p = true ∧ (keyB (ks.headD ByteArray.empty) = false ∨ (∃ q ∈ pr, bltB q (ks.headD ByteArray.empty) = false)) then (1, n)
    else if (weigh x lv n).1 = 0 then weighL p ks.head? ks.tail l lv (weigh x lv n).2 else weigh x lv n
end
theorem weigh_mk (k : Int) (y : Bool) (m : Int) (s : ByteArray) (ks : List ByteArray) (l : List V) (lv n : Int) : weigh (.mk k y m s ks l) lv n =
    if k < 1 ∨ 6 < k then (12, n + 1) else if k = 4 ∧ validB s = false then (1, n + 1) else if 1000 < n + 1 then (2, n + 1)
    else if k < 5 then (0, n + 1) else if 20 ≤ lv then (2, n + 1) else weighL (decide (k = 6)) none ks l (lv + 1) (n + 1) := by rw [weigh]
theorem weighL_nil (p : Bool) (pr : Option ByteArray) (ks : List ByteArray) (lv n : Int) : weighL p pr ks [] lv n = (0, n) := by rw [weighL]
theorem weighL_cons (p : Bool) (pr : Option ByteArray) (ks : List ByteArray) (x : V) (l : List V) (lv n : Int) : weighL p pr ks (x :: l) lv n =
    if p = true ∧ (keyB (ks.headD ByteArray.empty) = false ∨ (∃ q ∈ pr, bltB q (ks.headD ByteArray.empty) = false)) then (1, n)
    else if (weigh x lv n).1 = 0 then weighL p ks.head? ks.tail l lv (weigh x lv n).2 else weigh x lv n := by rw [weighL]
theorem weighL_most : ∀ (l : List V), (∀ x ∈ l, ∀ lv n, 0 ≤ n → (weigh x lv n).1 = 0 → n < (weigh x lv n).2 ∧ (weigh x lv n).2 ≤ 1000) → ∀ p pr ks lv n, 0 ≤ n → n ≤ 1000 → (weighL p pr ks l lv n).1 = 0 → n ≤ (weighL p pr ks l lv n).2 ∧ (weighL p pr ks l lv n).2 ≤ 1000
  | [], _, p, pr, ks, lv, n, _, hn, _ => by rw [weighL_nil]; exact ⟨Int.le_refl _, hn⟩
  | x :: l, hl, p, pr, ks, lv, n, h0, hn, h => by
    rw [weighL_cons] at h ⊢
    split at h
    · cases h
    · rename_i h1
      rw [if_neg h1]
      split at h
      · rename_i h2
        rw [if_pos h2]
        have h3 := hl x (List.mem_cons_self ..) lv n h0 h2
        have h4 := weighL_most l (fun y hy => hl y (List.mem_cons_of_mem _ hy)) p _ _ lv _ (by omega) h3.2 h
        exact ⟨by omega, h4.2⟩
      · rename_i h2
        exact absurd h h2
theorem weigh_most (v : V) : ∀ lv n, 0 ≤ n → (weigh v lv n).1 = 0 → n < (weigh v lv n).2 ∧ (weigh v lv n).2 ≤ 1000 := by
  refine V.ind (Q := fun v => ∀ lv n, 0 ≤ n → (weigh v lv n).1 = 0 → n < (weigh v lv n).2 ∧ (weigh v lv n).2 ≤ 1000) (fun k y m s ks l ih lv n h0 h => ?_) v
  rw [weigh_mk] at h ⊢
  split at h
  · cases h
  rename_i h1
  rw [if_neg h1]
  split at h
  · cases h
  rename_i h2
  rw [if_neg h2]
  split at h
  · cases h
  rename_i h3
  rw [if_neg h3]
  split at h
  · rename_i h4
    rw [if_pos h4]
    show n < n + 1 ∧ n + 1 ≤ 1000
    omega
  rename_i h4
  rw [if_neg h4]
  split at h
  · cases h
  rename_i h5
  rw [if_neg h5]
  have h6 := weighL_most l ih _ _ _ _ _ (by omega) (by omega) h
  exact ⟨by omega, h6.2⟩
structure Pr where
  k : ByteArray
  v : Value
def Pr.cells (p : Pr) : List Value := [.string p.k, p.v]
theorem Pr.len (p : Pr) : p.cells.length = 2 := rfl
end Go.Sl
namespace Go.Proofs.YtaahibcibgljbaaGreatDoor
open Go.Sl facts
inductive TAt (H : HP) : V → Value → Prop where
  | nil {y n s ks l} : TAt H (.mk 1 y n s ks l) .nilIface
  | bool {y n s ks l} : TAt H (.mk 2 y n s ks l) (.iface 4 (.bool y))
  | int {y n s ks l} (h : -9223372036854775808 ≤ n ∧ n ≤ 9223372036854775807) : TAt H (.mk 3 y n s ks l) (.iface 3 (.int .i64 n))
  | text {y n s ks l} (h : s.size ≤ 9223372036854775807) : TAt H (.mk 4 y n s ks l) (.iface 9 (.string s))
  | list {y n s ks l} {p c} (vs : List Value) (hv : vs.length = l.length) (hl : l.length ≤ 9223372036854775807 ∧ l.length ≤ c) (hS : SlAt (Pile H) 1 p l.length vs) (h : ∀ (i : Nat) x v, l[i]? = some x → vs[i]? = some v → TAt H x v) : TAt H (.mk 5 y n s ks l) (.iface 105 (.slice p l.length c))
  | pairs {y n s ks l} {p c} (ps : List Pr) (hv : ps.length = l.length) (hl : l.length ≤ 9223372036854775807 ∧ l.length ≤ c) (hk : ks = ps.map Pr.k) (hz : ∀ q ∈ ps, q.k.size ≤ 9223372036854775807) (hS : SlAt (Pile H) 2 p l.length (ps.flatMap Pr.cells)) (h : ∀ (i : Nat) x q, l[i]? = some x → ps[i]? = some q → TAt H x q.v) : TAt H (.mk 6 y n s ks l) (.iface 89 (.slice p l.length c))
  | other {k y n s ks l} {t v} (hk : k < 1 ∨ 6 < k) (h1 : Nat.beq t 4 = false) (h2 : Nat.beq t 3 = false) (h3 : Nat.beq t 9 = false) (h4 : Nat.beq t 105 = false) (h5 : Nat.beq t 89 = false) : TAt H (.mk k y n s ks l) (.iface t v)
theorem TAt.grow {H H' : HP} (s : HP.sub H H') {v : V} {x : Value} (h : TAt H v x) : TAt H' v x := by
  induction h with
  | nil => exact .nil
  | bool => exact .bool
  | int h => exact .int h
  | text h => exact .text h
  | list vs hv hl hS _ ih => exact .list vs hv hl (hS.grow s) ih
  | pairs ps hv hl hk hz hS _ ih => exact .pairs ps hv hl hk hz (hS.grow s) ih
  | other hk h1 h2 h3 h4 h5 => exact .other hk h1 h2 h3 h4 h5
theorem keyB_eq (s : ByteArray) : keyB s = (everyB (fun r => !controlB r) 40 s && Lib.validD s.data.toList) := rfl
end Go.Proofs.YtaahibcibgljbaaGreatDoor
namespace Go.Proofs.YtaahibcibgljbaaGreatDoor
open Go.Sl facts
attribute [local irreducible] Code.wp wpList Exit.then Exit.inBlock bodyPost Back MidQ G GP QStep VStep CStep SStep Does Post Reads
attribute [local irreducible] weigh weighL keyB
structure CkX where
  i : Nat
  m : Int
theorem key' {H : HP} (hV : VStr H) (s : ByteArray) (hs : s.size ≤ 9223372036854775807) : Does1 Tryz.prog 70 [.string s] [Pile H] (.bool (keyB s)) := by rw [keyB_eq]; exact key hV s hs
theorem check_flat {H : HP} (x : Value) (e : Int) (hp : Does1 Tryz.prog 69 [x] [Pile H] (.tuple #[int e, .bool true])) (hx : x = .nilIface ∨ ∃ t v, x = .iface t v ∧ Nat.beq t 105 = false ∧ Nat.beq t 89 = false) (b : Nat) (n lv : Int) (hn : 0 ≤ n ∧ n ≤ 1000) :
    Does Tryz.prog 50 [ptr b, x, int lv] [.row b [int n] 110, Pile H] (X := Int) (fun _ => int (if e ≠ 0 then e else if 1000 < n + 1 then 2 else 0)) (fun m => [.row b [int m] 110, Pile H]) (fun m => e = 0 → m = n + 1) := by
  refine fn_intro Tryz.func50 rfl Tryz.ntmps50 rfl (by simp only [argFr, Nat.zero_add, Nat.reduceAdd]; rfl) (fun Γ => ?_)
  repeat (first
    | (refine g_ops ?_; first | refine sO ?_ | refine s_n (fun _ => ?_) | refine s_app (fun _ _ => ?_) | refine s_b0 (fun _ => ?_) | ((fail_if_success refine g_lit rfl rfl rfl ?_); first | apply g_partM rfl rfl rfl | apply g_partMB rfl rfl rfl | fail) | refine s_k (hp) ?_)
    | refine gS ?_ | exact s_m | intro _)
  refine g_cond_dec rfl (fun h1 => ?_) (fun h1 => ?_)
  · repeat (first
      | (refine g_ops ?_; first | refine sO ?_ | refine s_n (fun _ => ?_) | refine s_app (fun _ _ => ?_) | refine s_b0 (fun _ => ?_) | ((fail_if_success refine g_lit rfl rfl rfl ?_); first | apply g_partM rfl rfl rfl | apply g_partMB rfl rfl rfl | fail))
      | refine gS ?_ | exact s_m | intro _)
    exact g_ret n rfl (by (repeat (first | exact RVs.nil | apply RVs.tmp rfl | apply RVs.cellA rfl (by (repeat (first | exact Sel.here | apply Sel.there)); first | done | fail) (by (repeat (first | exact Cut.zero | apply Cut.take | apply Cut.skip)); first | done | fail) | apply RVs.cell1 rfl (by (repeat (first | exact Sel.here | apply Sel.there)); first | done | fail) rfl)); first | done | fail) (by (repeat (first | exact Take.nil | apply Take.cons | exact Sel.here | apply Sel.there)); first | done | fail) (by simp only [pack]; rw [if_pos h1]) (fun h => absurd h h1)
  have h1' : e = 0 := by omega
  subst h1'
  repeat (first
    | (refine g_ops ?_; first | refine sO ?_ | refine s_n (fun _ => ?_) | refine s_app (fun _ _ => ?_) | refine s_b0 (fun _ => ?_) | ((fail_if_success refine g_lit rfl rfl rfl ?_); first | apply g_partM rfl rfl rfl | apply g_partMB rfl rfl rfl | fail))
    | refine gS ?_ | exact s_m | intro _)
  refine g_guard_dec rfl rfl rfl (fun h2 => ?_) (fun h2 => ?_)
  · repeat (first
      | (refine g_ops ?_; first | refine sO ?_ | refine s_n (fun _ => ?_) | refine s_app (fun _ _ => ?_) | refine s_b0 (fun _ => ?_) | ((fail_if_success refine g_lit rfl rfl rfl ?_); first | apply g_partM rfl rfl rfl | apply g_partMB rfl rfl rfl | fail))
      | refine gS ?_ | exact s_m | intro _)
    exact g_ret (n + 1) rfl (by (repeat (first | exact RVs.nil | apply RVs.tmp rfl | apply RVs.cellA rfl (by (repeat (first | exact Sel.here | apply Sel.there)); first | done | fail) (by (repeat (first | exact Cut.zero | apply Cut.take | apply Cut.skip)); first | done | fail) | apply RVs.cell1 rfl (by (repeat (first | exact Sel.here | apply Sel.there)); first | done | fail) rfl)); first | done | fail) (by (repeat (first | exact Take.nil | apply Take.cons | exact Sel.here | apply Sel.there)); first | done | fail) (by simp only [pack]; rw [if_neg (by decide), if_pos h2]) (fun _ => rfl)
  repeat (first
    | (refine g_ops ?_; first | refine sO ?_ | refine s_n (fun _ => ?_) | refine s_app (fun _ _ => ?_) | refine s_b0 (fun _ => ?_) | ((fail_if_success refine g_lit rfl rfl rfl ?_); first | apply g_partM rfl rfl rfl | apply g_partMB rfl rfl rfl | fail))
    | refine gS ?_ | exact s_m | intro _)
  rcases hx with rfl | ⟨t, v, rfl, h4, h5⟩
  · repeat (first
      | (refine g_ops ?_; first | refine sO ?_ | refine s_n (fun _ => ?_) | refine s_app (fun _ _ => ?_) | refine s_b0 (fun _ => ?_) | ((fail_if_success refine g_lit rfl rfl rfl ?_); first | apply g_partM rfl rfl rfl | apply g_partMB rfl rfl rfl | fail))
      | refine gS ?_ | exact s_m | intro _)
    refine g_loop (X := Unit) (fun _ => [(0, ptr b), (14, .slice none 0 0), (73, .slice none 0 0), (74, int 0), (75, int 0)]) (fun _ => [.row b [int (n + 1)] 110, Pile H]) (fun _ => True) (fun _ => 0) () trivial (by (repeat (first | exact FrSub.nil | refine FrSub.cons rfl ?_)); first | done | fail) (by (repeat (first | exact Take.nil | apply Take.cons | exact Sel.here | apply Sel.there)); first | done | fail) (fun _ _ => ?_)
    repeat (first
      | (refine g_ops ?_; first | refine sO ?_ | refine s_n (fun _ => ?_) | refine s_app (fun _ _ => ?_) | refine s_b0 (fun _ => ?_) | ((fail_if_success refine g_lit rfl rfl rfl ?_); first | apply g_partM rfl rfl rfl | apply g_partMB rfl rfl rfl | fail))
      | refine gS ?_ | exact s_m | intro _)
    exact g_ret (n + 1) rfl (by (repeat (first | exact RVs.nil | apply RVs.tmp rfl | apply RVs.cellA rfl (by (repeat (first | exact Sel.here | apply Sel.there)); first | done | fail) (by (repeat (first | exact Cut.zero | apply Cut.take | apply Cut.skip)); first | done | fail) | apply RVs.cell1 rfl (by (repeat (first | exact Sel.here | apply Sel.there)); first | done | fail) rfl)); first | done | fail) (by (repeat (first | exact Take.nil | apply Take.cons | exact Sel.here | apply Sel.there)); first | done | fail) (by simp only [pack]; rw [if_neg (by decide), if_neg h2]) (fun _ => rfl)
  · repeat (first
      | (refine g_ops ?_; first | refine sO ?_ | refine s_n (fun _ => ?_) | refine s_app (fun _ _ => ?_) | refine s_b0 (fun _ => ?_) | ((fail_if_success refine g_lit rfl rfl rfl ?_); first | apply g_partM rfl rfl rfl | apply g_partMB rfl rfl rfl | fail))
      | refine gS ?_ | exact s_m | intro _)
    refine g_loop (X := Unit) (fun _ => [(0, ptr b), (14, .slice none 0 0), (73, .slice none 0 0), (74, int 0), (75, int 0)]) (fun _ => [.row b [int (n + 1)] 110, Pile H]) (fun _ => True) (fun _ => 0) () trivial (by (repeat (first | exact FrSub.nil | refine FrSub.cons rfl ?_)); first | done | fail) (by (repeat (first | exact Take.nil | apply Take.cons | exact Sel.here | apply Sel.there)); first | done | fail) (fun _ _ => ?_)
    repeat (first
      | (refine g_ops ?_; first | refine sO ?_ | refine s_n (fun _ => ?_) | refine s_app (fun _ _ => ?_) | refine s_b0 (fun _ => ?_) | ((fail_if_success refine g_lit rfl rfl rfl ?_); first | apply g_partM rfl rfl rfl | apply g_partMB rfl rfl rfl | fail))
      | refine gS ?_ | exact s_m | intro _)
    exact g_ret (n + 1) rfl (by (repeat (first | exact RVs.nil | apply RVs.tmp rfl | apply RVs.cellA rfl (by (repeat (first | exact Sel.here | apply Sel.there)); first | done | fail) (by (repeat (first | exact Cut.zero | apply Cut.take | apply Cut.skip)); first | done | fail) | apply RVs.cell1 rfl (by (repeat (first | exact Sel.here | apply Sel.there)); first | done | fail) rfl)); first | done | fail) (by (repeat (first | exact Take.nil | apply Take.cons | exact Sel.here | apply Sel.there)); first | done | fail) (by simp only [pack]; rw [if_neg (by decide), if_neg h2]) (fun _ => rfl)
end Go.Proofs.YtaahibcibgljbaaGreatDoor
namespace Go.Proofs.YtaahibcibgljbaaGreatDoor
open Go.Sl facts
theorem does1_more {f : FuncId} {args : List Value} {v : Value} {A : List Chunk} (d : Does1 Tryz.prog f args [] v) : Does1 Tryz.prog f args A v := fun Γ w hh => by
  obtain ⟨k, dk, hr, hA⟩ := (show Holds Γ ([] ++ A) w from hh).split
  exact (d _ w hA).mono fun e w' ⟨x, hx, he, hB⟩ => ⟨x, hx, he, hB.join (A := []) dk hr⟩
attribute [local irreducible] Code.wp wpList Exit.then Exit.inBlock bodyPost Back MidQ G GP QStep VStep CStep SStep Does Post Reads
attribute [local irreducible] weigh weighL keyB
theorem weighL_f (pr : Option ByteArray) (ks : List ByteArray) (pr' : Option ByteArray) (ks' : List ByteArray) (l : List V) : ∀ (lv n : Int), weighL false pr ks l lv n = weighL false pr' ks' l lv n := by
  induction l generalizing pr ks pr' ks' with
  | nil => intro lv n; rw [weighL_nil, weighL_nil]
  | cons x l ih =>
    intro lv n
    simp only [weighL_cons, Bool.false_eq_true, false_and, if_false]
    rw [ih ks.head? ks.tail ks'.head? ks'.tail]
theorem check_flat' {H : HP} {v : V} {x : Value} {e : Int} (hp : Does1 Tryz.prog 69 [x] [Pile H] (.tuple #[int e, .bool true])) (hx : x = .nilIface ∨ ∃ t v, x = .iface t v ∧ Nat.beq t 105 = false ∧ Nat.beq t 89 = false) (b : Nat) (n lv : Int) (hn : 0 ≤ n ∧ n ≤ 1000)
    (h1 : (weigh v lv n).1 = if e ≠ 0 then e else if 1000 < n + 1 then 2 else 0) (h2 : e = 0 → (weigh v lv n).2 = n + 1) :
    Does Tryz.prog 50 [ptr b, x, int lv] [.row b [int n] 110, Pile H] (X := Int) (fun _ => int (weigh v lv n).1) (fun m => [.row b [int m] 110, Pile H]) (fun m => (weigh v lv n).1 = 0 → m = (weigh v lv n).2) := by
  rw [h1]
  refine does_post (fun m h h0 => ?_) (check_flat x e hp hx b n lv hn)
  have he : e = 0 := by
    by_cases he : e = 0
    · exact he
    · rw [if_pos he] at h0; exact h0
  rw [h2 he]; exact h he
set_option maxHeartbeats 8000000 in
theorem check_ {H : HP} (hV : VStr H) (v : V) : ∀ (x : Value), TAt H v x → ∀ (b : Nat) (n lv : Int), 0 ≤ n ∧ n ≤ 1000 → 0 ≤ lv ∧ lv ≤ 20 →
    Does Tryz.prog 50 [ptr b, x, int lv] [.row b [int n] 110, Pile H] (X := Int) (fun _ => int (weigh v lv n).1) (fun m => [.row b [int m] 110, Pile H]) (fun m => (weigh v lv n).1 = 0 → m = (weigh v lv n).2) := by
  refine V.ind (Q := fun v => ∀ (x : Value), TAt H v x → ∀ (b : Nat) (n lv : Int), 0 ≤ n ∧ n ≤ 1000 → 0 ≤ lv ∧ lv ≤ 20 →
    Does Tryz.prog 50 [ptr b, x, int lv] [.row b [int n] 110, Pile H] (X := Int) (fun _ => int (weigh v lv n).1) (fun m => [.row b [int m] 110, Pile H]) (fun m => (weigh v lv n).1 = 0 → m = (weigh v lv n).2)) (fun k y m s ks l ih x hx b n lv hn hlv => ?_) v
  have hw := weigh_mk k y m s ks l lv n
  cases hx with
  | nil =>
    rw [if_neg (by decide), if_neg (by simp)] at hw
    exact check_flat' (e := 0) (does1_more (plain_ .nil rfl)) (.inl rfl) b n lv hn (by rw [hw]; split <;> simp_all) (fun _ => by rw [hw]; split <;> simp)
  | bool =>
    rw [if_neg (by decide), if_neg (by simp)] at hw
    exact check_flat' (e := 0) (does1_more (plain_ (.bool y) rfl)) (.inr ⟨_, _, rfl, rfl, rfl⟩) b n lv hn (by rw [hw]; split <;> simp_all) (fun _ => by rw [hw]; split <;> simp)
  | int h =>
    rw [if_neg (by decide), if_neg (by simp)] at hw
    exact check_flat' (e := 0) (does1_more (plain_ (.int m) rfl)) (.inr ⟨_, _, rfl, rfl, rfl⟩) b n lv hn (by rw [hw]; split <;> simp_all) (fun _ => by rw [hw]; split <;> simp)
  | text h =>
    rw [if_neg (by decide)] at hw
    have hp : Does1 Tryz.prog 69 [.iface 9 (.string s)] [Pile H] (.tuple #[int (if validB s then 0 else 1), .bool true]) := plain_text hV s h
    cases hb : validB s <;> simp only [hb] at hp hw
    · exact check_flat' (e := 1) hp (.inr ⟨_, _, rfl, rfl, rfl⟩) b n lv hn (by rw [hw]; simp) (fun h => by cases h)
    · rw [if_neg (by simp)] at hw
      exact check_flat' (e := 0) hp (.inr ⟨_, _, rfl, rfl, rfl⟩) b n lv hn (by rw [hw]; split <;> simp_all) (fun _ => by rw [hw]; split <;> simp)
  | other hk h1 h2 h3 h4 h5 =>
    rw [if_pos hk] at hw
    exact check_flat' (e := 12) (does1_more (plain_none _ _ h1 h2 h3 h4 h5)) (.inr ⟨_, _, rfl, h4, h5⟩) b n lv hn (by rw [hw]; simp) (fun h => by cases h)
  | @list _ _ _ _ _ p c vs hv hl hS h =>
    rw [if_neg (by decide), if_neg (by simp)] at hw
    have hp : Does1 Tryz.prog 69 [.iface 105 (.slice p l.length c)] [] (.tuple #[int 0, .bool false]) := plain_ (.list p l.length c) rfl
    refine fn_intro Tryz.func50 rfl Tryz.ntmps50 rfl (by simp only [argFr, Nat.zero_add, Nat.reduceAdd]; rfl) (fun Γ => ?_)
    repeat (first
      | (refine g_ops ?_; first | refine sO ?_ | refine s_n (fun _ => ?_) | refine s_app (fun _ _ => ?_) | refine s_b0 (fun _ => ?_) | ((fail_if_success refine g_lit rfl rfl rfl ?_); first | apply g_partM rfl rfl rfl | apply g_partMB rfl rfl rfl | fail) | refine s_p (hp) ?_)
      | refine gS ?_ | exact s_m | intro _)
    refine g_guard_dec rfl rfl rfl (fun h2 => ?_) (fun h2 => ?_)
    · rw [if_pos h2] at hw
      rw [hw]
      repeat (first
        | (refine g_ops ?_; first | refine sO ?_ | refine s_n (fun _ => ?_) | refine s_app (fun _ _ => ?_) | refine s_b0 (fun _ => ?_) | ((fail_if_success refine g_lit rfl rfl rfl ?_); first | apply g_partM rfl rfl rfl | apply g_partMB rfl rfl rfl | fail))
        | refine gS ?_ | exact s_m | intro _)
      exact gR (n + 1) (fun h => by cases h)
    rw [if_neg h2, if_neg (by decide)] at hw
    repeat (first
      | (refine g_ops ?_; first | refine sO ?_ | refine s_n (fun _ => ?_) | refine s_app (fun _ _ => ?_) | refine s_b0 (fun _ => ?_) | ((fail_if_success refine g_lit rfl rfl rfl ?_); first | apply g_partM rfl rfl rfl | apply g_partMB rfl rfl rfl | fail))
      | refine gS ?_ | exact s_m | intro _)
    refine g_cond_dec rfl (fun h3 => ?_) (fun h3 => ?_)
    · rw [if_pos h3] at hw
      rw [hw]
      repeat (first
        | (refine g_ops ?_; first | refine sO ?_ | refine s_n (fun _ => ?_) | refine s_app (fun _ _ => ?_) | refine s_b0 (fun _ => ?_) | ((fail_if_success refine g_lit rfl rfl rfl ?_); first | apply g_partM rfl rfl rfl | apply g_partMB rfl rfl rfl | fail))
        | refine gS ?_ | exact s_m | intro _)
      exact gR (n + 1) (fun h => by cases h)
    rw [if_neg h3, show decide ((5 : Int) = 6) = false from by decide] at hw
    rw [hw]
    have h0 : 0 ≤ n + 1 ∧ n + 1 ≤ 1000 := ⟨by omega, by omega⟩
    have hv1 : 0 ≤ lv + 1 ∧ lv + 1 ≤ 20 := ⟨by omega, by omega⟩
    clear hw h2 h3
    repeat (first
      | (refine g_ops ?_; first | refine sO ?_ | refine s_n (fun _ => ?_) | refine s_app (fun _ _ => ?_) | refine s_b0 (fun _ => ?_) | ((fail_if_success refine g_lit rfl rfl rfl ?_); first | apply g_partM rfl rfl rfl | apply g_partMB rfl rfl rfl | fail))
      | refine gS ?_ | exact s_m | intro _)
    refine g_loop (X := CkX) (fun q => [(0, ptr b), (1, .iface 105 (.slice p l.length c)), (2, int lv), (53, .slice p l.length c), (54, int l.length), (55, int q.i)]) (fun q => [.row b [int q.m] 110, Pile H])
      (fun q => q.i ≤ l.length ∧ (0 ≤ q.m ∧ q.m ≤ 1000) ∧ weighL false none ks l (lv + 1) (n + 1) = weighL false none ks (l.drop q.i) (lv + 1) q.m) (fun q => l.length - q.i) ⟨0, n + 1⟩ ⟨Nat.zero_le _, h0, rfl⟩ (by (repeat (first | exact FrSub.nil | refine FrSub.cons rfl ?_)); first | done | fail) (by (repeat (first | exact Take.nil | apply Take.cons | exact Sel.here | apply Sel.there)); first | done | fail) (fun q hq => ?_)
    obtain ⟨i, q⟩ := q
    obtain ⟨hi, hq, he⟩ := hq
    dsimp only at hi hq he ⊢
    repeat (first
      | (refine g_ops ?_; first | refine sO ?_ | refine s_n (fun _ => ?_) | refine s_app (fun _ _ => ?_) | refine s_b0 (fun _ => ?_) | ((fail_if_success refine g_lit rfl rfl rfl ?_); first | apply g_partM rfl rfl rfl | apply g_partMB rfl rfl rfl | fail))
      | refine gS ?_ | exact s_m | intro _)
    refine g_cond_dec rfl (fun h4 => ?_) (fun h4 => ?_)
    · have hi' : i < l.length := by omega
      have hgl : l[i]? = some l[i] := List.getElem?_eq_getElem hi'
      have hgv : vs[i]? = some (vs[i]'(by omega)) := List.getElem?_eq_getElem _
      have hmem : l[i] ∈ l := List.getElem_mem _
      have hat := h i _ _ hgl hgv
      obtain ⟨b2, o, rfl, hr0⟩ := slAt_cell hS hgv
      rw [List.drop_eq_getElem_cons hi', weighL_cons, if_neg (fun h => by cases h.1)] at he
      generalize l[i] = x at hat hmem he
      generalize vs[i]'_ = w at hat hr0
      have hr : ∀ k', k' = i → Reads (Pile H) ⟨b2, o + k', none⟩ w := fun _ e => e ▸ hr0
      have hc := ih x hmem w hat b q (lv + 1) hq hv1
      repeat (first
        | (refine g_ops ?_; first | refine sO ?_ | refine s_n (fun _ => ?_) | refine s_app (fun _ _ => ?_) | refine s_b0 (fun _ => ?_) | ((fail_if_success refine g_lit rfl rfl rfl ?_); first | apply g_partM rfl rfl rfl | apply g_partMB rfl rfl rfl | fail) | refine s_c (hc) (fun _ _ => ?_))
        | refine gS ?_ | exact s_m | intro _)
      rename_i q2 hq2
      refine g_cond_dec rfl (fun h5 => ?_) (fun h5 => ?_)
      · rw [if_neg h5] at he
        rw [he]
        repeat (first
          | (refine g_ops ?_; first | refine sO ?_ | refine s_n (fun _ => ?_) | refine s_app (fun _ _ => ?_) | refine s_b0 (fun _ => ?_) | ((fail_if_success refine g_lit rfl rfl rfl ?_); first | apply g_partM rfl rfl rfl | apply g_partMB rfl rfl rfl | fail))
          | refine gS ?_ | exact s_m | intro _)
        exact gR q2 (fun h => absurd h h5)
      · have h5' : (weigh x (lv + 1) q).1 = 0 := by omega
        rw [if_pos h5', ← hq2 h5'] at he
        have hm := weigh_most x (lv + 1) q hq.1 h5'
        rw [← hq2 h5'] at hm
        repeat (first
          | (refine g_ops ?_; first | refine sO ?_ | refine s_n (fun _ => ?_) | refine s_app (fun _ _ => ?_) | refine s_b0 (fun _ => ?_) | ((fail_if_success refine g_lit rfl rfl rfl ?_); first | apply g_partM rfl rfl rfl | apply g_partMB rfl rfl rfl | fail))
          | refine gS ?_ | exact s_m | intro _)
        refine g_as 55 (v' := int ((i + 1 : Nat) : Int)) rfl (congrArg (Value.int .i64) (by push_cast; rfl)) ?_
        exact gA ⟨i + 1, q2⟩ (by simp only; omega) ⟨hi', ⟨by dsimp only; omega, hm.2⟩, he.trans (weighL_f _ _ _ _ _ _ _)⟩
    · obtain rfl : i = l.length := by omega
      rw [List.drop_length, weighL_nil] at he
      rw [he]
      repeat (first
        | (refine g_ops ?_; first | refine sO ?_ | refine s_n (fun _ => ?_) | refine s_app (fun _ _ => ?_) | refine s_b0 (fun _ => ?_) | ((fail_if_success refine g_lit rfl rfl rfl ?_); first | apply g_partM rfl rfl rfl | apply g_partMB rfl rfl rfl | fail))
        | refine gS ?_ | exact s_m | intro _)
      refine g_loop (X := Unit) (fun _ => [(0, ptr b), (14, .slice none 0 0), (73, .slice none 0 0), (74, int 0), (75, int 0)]) (fun _ => [.row b [int q] 110, Pile H]) (fun _ => True) (fun _ => 0) () trivial (by (repeat (first | exact FrSub.nil | refine FrSub.cons rfl ?_)); first | done | fail) (by (repeat (first | exact Take.nil | apply Take.cons | exact Sel.here | apply Sel.there)); first | done | fail) (fun _ _ => ?_)
      repeat (first
        | (refine g_ops ?_; first | refine sO ?_ | refine s_n (fun _ => ?_) | refine s_app (fun _ _ => ?_) | refine s_b0 (fun _ => ?_) | ((fail_if_success refine g_lit rfl rfl rfl ?_); first | apply g_partM rfl rfl rfl | apply g_partMB rfl rfl rfl | fail))
        | refine gS ?_ | exact s_m | intro _)
      exact gR q (fun _ => rfl)
  | @pairs _ _ _ _ _ p c ps hv hl hks hz hS h =>
    rw [if_neg (by decide), if_neg (by simp)] at hw
    have hp : Does1 Tryz.prog 69 [.iface 89 (.slice p l.length c)] [] (.tuple #[int 0, .bool false]) := plain_ (.pairs p l.length c) rfl
    refine fn_intro Tryz.func50 rfl Tryz.ntmps50 rfl (by simp only [argFr, Nat.zero_add, Nat.reduceAdd]; rfl) (fun Γ => ?_)
    repeat (first
      | (refine g_ops ?_; first | refine sO ?_ | refine s_n (fun _ => ?_) | refine s_app (fun _ _ => ?_) | refine s_b0 (fun _ => ?_) | ((fail_if_success refine g_lit rfl rfl rfl ?_); first | apply g_partM rfl rfl rfl | apply g_partMB rfl rfl rfl | fail) | refine s_p (hp) ?_)
      | refine gS ?_ | exact s_m | intro _)
    refine g_guard_dec rfl rfl rfl (fun h2 => ?_) (fun h2 => ?_)
    · rw [if_pos h2] at hw
      rw [hw]
      repeat (first
        | (refine g_ops ?_; first | refine sO ?_ | refine s_n (fun _ => ?_) | refine s_app (fun _ _ => ?_) | refine s_b0 (fun _ => ?_) | ((fail_if_success refine g_lit rfl rfl rfl ?_); first | apply g_partM rfl rfl rfl | apply g_partMB rfl rfl rfl | fail))
        | refine gS ?_ | exact s_m | intro _)
      exact gR (n + 1) (fun h => by cases h)
    rw [if_neg h2, if_neg (by decide)] at hw
    repeat (first
      | (refine g_ops ?_; first | refine sO ?_ | refine s_n (fun _ => ?_) | refine s_app (fun _ _ => ?_) | refine s_b0 (fun _ => ?_) | ((fail_if_success refine g_lit rfl rfl rfl ?_); first | apply g_partM rfl rfl rfl | apply g_partMB rfl rfl rfl | fail))
      | refine gS ?_ | exact s_m | intro _)
    refine g_cond_dec rfl (fun h3 => ?_) (fun h3 => ?_)
    · rw [if_pos h3] at hw
      rw [hw]
      repeat (first
        | (refine g_ops ?_; first | refine sO ?_ | refine s_n (fun _ => ?_) | refine s_app (fun _ _ => ?_) | refine s_b0 (fun _ => ?_) | ((fail_if_success refine g_lit rfl rfl rfl ?_); first | apply g_partM rfl rfl rfl | apply g_partMB rfl rfl rfl | fail))
        | refine gS ?_ | exact s_m | intro _)
      exact gR (n + 1) (fun h => by cases h)
    rw [if_neg h3, show decide ((6 : Int) = 6) = true from by decide] at hw
    rw [hw]
    have h0 : 0 ≤ n + 1 ∧ n + 1 ≤ 1000 := ⟨by omega, by omega⟩
    have hv1 : 0 ≤ lv + 1 ∧ lv + 1 ≤ 20 := ⟨by omega, by omega⟩
    clear hw h2 h3
    repeat (first
      | (refine g_ops ?_; first | refine sO ?_ | refine s_n (fun _ => ?_) | refine s_app (fun _ _ => ?_) | refine s_b0 (fun _ => ?_) | ((fail_if_success refine g_lit rfl rfl rfl ?_); first | apply g_partM rfl rfl rfl | apply g_partMB rfl rfl rfl | fail))
      | refine gS ?_ | exact s_m | intro _)
    refine g_loop (X := CkX) (fun q => [(0, ptr b), (2, int lv), (14, .slice p l.length c), (73, .slice p l.length c), (74, int l.length), (75, int q.i)]) (fun q => [.row b [int q.m] 110, Pile H])
      (fun q => q.i ≤ l.length ∧ (0 ≤ q.m ∧ q.m ≤ 1000) ∧ weighL true none ks l (lv + 1) (n + 1) = weighL true (if q.i = 0 then none else (ks.drop (q.i - 1)).head?) (ks.drop q.i) (l.drop q.i) (lv + 1) q.m) (fun q => l.length - q.i) ⟨0, n + 1⟩ ⟨Nat.zero_le _, h0, rfl⟩ (by (repeat (first | exact FrSub.nil | refine FrSub.cons rfl ?_)); first | done | fail) (by (repeat (first | exact Take.nil | apply Take.cons | exact Sel.here | apply Sel.there)); first | done | fail) (fun q hq => ?_)
    obtain ⟨i, q⟩ := q
    obtain ⟨hi, hq, he⟩ := hq
    dsimp only at hi hq he ⊢
    repeat (first
      | (refine g_ops ?_; first | refine sO ?_ | refine s_n (fun _ => ?_) | refine s_app (fun _ _ => ?_) | refine s_b0 (fun _ => ?_) | ((fail_if_success refine g_lit rfl rfl rfl ?_); first | apply g_partM rfl rfl rfl | apply g_partMB rfl rfl rfl | fail))
      | refine gS ?_ | exact s_m | intro _)
    refine g_cond_dec rfl (fun h4 => ?_) (fun h4 => ?_)
    · have hi' : i < l.length := by omega
      have hgl : l[i]? = some l[i] := List.getElem?_eq_getElem hi'
      have hgv : ps[i]? = some (ps[i]'(by omega)) := List.getElem?_eq_getElem _
      have hmem : l[i] ∈ l := List.getElem_mem _
      have hat := h i _ _ hgl hgv
      obtain ⟨b2, o, rfl, hrow⟩ := slAt_elem hS Pr.len (by decide) hgv
      have hzi := hz _ (List.mem_of_getElem? hgv)
      have hd1 : ks.drop i = (ps[i]'(by omega)).k :: ks.drop (i + 1) := by
        rw [List.drop_eq_getElem_cons (by rw [hks, List.length_map]; omega)]
        simp [hks]
      rw [List.drop_eq_getElem_cons hi', weighL_cons, hd1] at he
      simp only [List.headD_cons, List.head?_cons, List.tail_cons, true_and] at he
      generalize l[i] = x at hat hmem he
      generalize hpi : ps[i]'_ = w at hat hrow hzi he hd1
      obtain ⟨wk, wv⟩ := w
      replace hrow : ∀ (j : Nat) (v : Value), [Value.string wk, wv][j]? = some v → Reads (Pile H) ⟨b2, o + i * 2 + j, none⟩ v := hrow
      dsimp only at hat hzi he hd1
      have hkey := key' hV wk hzi
      have hw1 : wv.oneCell' = true := by cases hat <;> rfl
      repeat (first
        | (refine g_ops ?_; first | refine sO ?_ | refine s_n (fun _ => ?_) | refine s_app (fun _ _ => ?_) | refine s_b0 (fun _ => ?_) | ((fail_if_success refine g_lit rfl rfl rfl ?_); first | apply g_partM rfl rfl rfl | apply g_partMB rfl rfl rfl | fail))
        | refine gS ?_ | exact s_m | intro _)
      refine g_ops ?_
      refine s_s (q := ss_storeA' inferInstance rfl rfl rfl (show ([Value.string wk, wv].all (·.oneCell')) = true by simp only [List.all_cons, List.all_nil, hw1]; rfl) (by (repeat (first | exact Sel.here | apply Sel.there)); first | done | fail) (by (repeat (first | exact Put.nil | apply Put.here | apply Put.skip)); first | done | fail)) ?_
      have hgp : ps[i - 1]? = some (ps[i - 1]'(by omega)) := List.getElem?_eq_getElem _
      have hpk : (if i = 0 then none else (ks.drop (i - 1)).head?) = if i = 0 then none else some (ps[i - 1]'(by omega)).k := by
        split
        · rfl
        · rw [List.drop_eq_getElem_cons (by rw [hks, List.length_map]; omega)]
          simp [hks]
      rw [hpk] at he
      obtain ⟨b3, o3, e3, hrp⟩ := slAt_elem hS Pr.len (by decide) hgp
      simp only [Option.some.injEq, Addr.mk.injEq, and_true] at e3
      obtain ⟨rfl, rfl⟩ := e3
      generalize (ps[i - 1]'_) = pv at he hrp
      have hr : ∀ k', k' = o + (i - 1) * 2 + 0 → Reads (Pile H) ⟨b2, k', none⟩ (.string pv.k) := fun _ e => e ▸ hrp 0 _ rfl
      generalize pv.k = pk at he hr
      clear hrp hgp hpk
      repeat (first
        | (refine g_ops ?_; first | refine sO ?_ | refine s_n (fun _ => ?_) | refine s_app (fun _ _ => ?_) | refine s_b0 (fun _ => ?_) | ((fail_if_success refine g_lit rfl rfl rfl ?_); first | apply g_partM rfl rfl rfl | apply g_partMB rfl rfl rfl | fail))
        | apply g_regB (id := 5) 46 | (apply g_drawB (id := 20) 98 (.take 0 (.see 1 [] (.one 2 (.take 3 (.take 4 (.take 5 (.take 6 (.take 7 (.take 8 (.see 9 [] (.take 10 (.take 11 (.take 12 (.take 13 (.take 14 (.see 15 [] (.take 16 (.take 17 (.take 18 .done))))))))))))))))))) (by kernel_rfl); intro k hd hk)
        | refine gS ?_ | exact s_m | intro _ | (refine gp_take ?_; first | refine pT ?_ | ((fail_if_success refine gp_lit rfl rfl rfl rfl ?_); first | apply gp_guard_dec rfl rfl rfl rfl | apply gp_guard rfl rfl rfl rfl | fail))
        | (refine gp_see ?_; first | refine p_f ?_ | refine pS ?_ | ((fail_if_success refine gp_lit rfl rfl rfl rfl ?_); first | apply gp_guard_dec rfl rfl rfl rfl | apply gp_guard rfl rfl rfl rfl | fail))
        | (refine gp_one ?_; first | refine pO ?_ | refine p_n (fun _ => ?_) | refine p_app (fun _ _ => ?_) | refine p_b0 (fun _ => ?_) | ((fail_if_success refine gp_lit rfl rfl rfl rfl ?_); first | apply gp_guard_dec rfl rfl rfl rfl | apply gp_guard rfl rfl rfl rfl | fail) | refine p_cP (hkey) hd hk (fun _ _ => ?_))
        | refine gp_two ?_ ?_ | refine gp_done hd hk ?_ | intro _ | refine p_ta hd hk (fun _ _ _ hd hk => ?_) | refine p_ts hd hk (fun _ hd hk => ?_))
      rename_i b4
      have hB : (bif !keyB wk then true else bif decide (0 < (i : Int)) then !bltB pk wk else false) = true ↔ (keyB wk = false ∨ ∃ q ∈ (if i = 0 then none else some pk), bltB q wk = false) := by
        cases hk1 : keyB wk
        · simp
        · by_cases hi0 : i = 0
          · subst hi0; simp
          · rw [decide_eq_true (by omega : 0 < (i : Int)), if_neg hi0]; simp
      refine g_cond rfl (fun h5 => ?_) (fun h5 => ?_)
      · rw [if_pos (hB.1 h5)] at he
        rw [he]
        repeat (first
          | (refine g_ops ?_; first | refine sO ?_ | refine s_n (fun _ => ?_) | refine s_app (fun _ _ => ?_) | refine s_b0 (fun _ => ?_) | ((fail_if_success refine g_lit rfl rfl rfl ?_); first | apply g_partM rfl rfl rfl | apply g_partMB rfl rfl rfl | fail))
          | refine gS ?_ | exact s_m | intro _)
        exact gR q (fun h => by cases h)
      rw [if_neg (fun hc => by rw [hB.2 hc] at h5; cases h5)] at he
      clear hB h5
      have hc := ih x hmem wv hat b q (lv + 1) hq hv1
      repeat (first
        | (refine g_ops ?_; first | refine sO ?_ | refine s_n (fun _ => ?_) | refine s_app (fun _ _ => ?_) | refine s_b0 (fun _ => ?_) | ((fail_if_success refine g_lit rfl rfl rfl ?_); first | apply g_partM rfl rfl rfl | apply g_partMB rfl rfl rfl | fail) | refine s_c (hc) (fun _ _ => ?_))
        | refine gS ?_ | exact s_m | intro _)
      rename_i q2 hq2
      refine g_cond_dec rfl (fun h5 => ?_) (fun h5 => ?_)
      · rw [if_neg h5] at he
        rw [he]
        repeat (first
          | (refine g_ops ?_; first | refine sO ?_ | refine s_n (fun _ => ?_) | refine s_app (fun _ _ => ?_) | refine s_b0 (fun _ => ?_) | ((fail_if_success refine g_lit rfl rfl rfl ?_); first | apply g_partM rfl rfl rfl | apply g_partMB rfl rfl rfl | fail))
          | refine gS ?_ | exact s_m | intro _)
        exact gR q2 (fun h => absurd h h5)
      · have h5' : (weigh x (lv + 1) q).1 = 0 := by omega
        rw [if_pos h5', ← hq2 h5'] at he
        have hm := weigh_most x (lv + 1) q hq.1 h5'
        rw [← hq2 h5'] at hm
        repeat (first
          | (refine g_ops ?_; first | refine sO ?_ | refine s_n (fun _ => ?_) | refine s_app (fun _ _ => ?_) | refine s_b0 (fun _ => ?_) | ((fail_if_success refine g_lit rfl rfl rfl ?_); first | apply g_partM rfl rfl rfl | apply g_partMB rfl rfl rfl | fail))
          | refine gS ?_ | exact s_m | intro _)
        refine g_as 75 (v' := int ((i + 1 : Nat) : Int)) rfl (congrArg (Value.int .i64) (by push_cast; rfl)) ?_
        refine gA ⟨i + 1, q2⟩ (by simp only; omega) ⟨hi', ⟨by dsimp only; omega, hm.2⟩, ?_⟩
        dsimp only
        rw [if_neg (by omega), Nat.add_sub_cancel, hd1, List.head?_cons]
        exact he
    · obtain rfl : i = l.length := by omega
      rw [List.drop_length, weighL_nil] at he
      rw [he]
      repeat (first
        | (refine g_ops ?_; first | refine sO ?_ | refine s_n (fun _ => ?_) | refine s_app (fun _ _ => ?_) | refine s_b0 (fun _ => ?_) | ((fail_if_success refine g_lit rfl rfl rfl ?_); first | apply g_partM rfl rfl rfl | apply g_partMB rfl rfl rfl | fail))
        | refine gS ?_ | exact s_m | intro _)
      exact gR q (fun _ => rfl)
end Go.Proofs.YtaahibcibgljbaaGreatDoor
