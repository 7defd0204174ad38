/- Part 10: further rules. -/
import Derived.Test.YtpilcncdgjnbeaaDoorSlh
set_option linter.unusedSimpArgs false
set_option linter.unusedVariables false
namespace Go.Sl
variable {P : Program} {Γ : Ctx} {L R : List Chunk} {N : Nat} {fr : Fr} {Q : Exit → Act → World → Prop} {ops : Array Oper} {rest : List Oper}
theorem take_head2 {c c' : Chunk} : ∀ (L : List Chunk), Take (c :: c' :: L) L [c, c']
  | [] => .nil
  | _ :: L => .cons (.there (.there .here)) (take_head2 L)
/-- A region that draws its order and writes two blocks. -/
theorem g_drawS2 {id : Nat} {l : List Oper} {b1 o1 b2 o2 : Nat} {ob1 ob2 : Obj} {R1 : List Chunk} [M : Mixed P] (p1 p2 : Nat) (plan : Plan) (h : ∀ k, HP.disj Γ.hf k → All R k → GP P l.toArray Q (Γ.add k) N fr [.pt b1 ob1, .pt b2 ob2] plan) (hp : planOk l plan = true := by kernel_rfl)
    (hl1 : look fr p1 = some (.pointer (some ⟨b1, o1, none⟩)) := by exact rfl) (hl2 : look fr p2 = some (.pointer (some ⟨b2, o2, none⟩)) := by exact rfl) (s1 : Sel L (.pt b1 ob1) R1 := by (repeat (first | exact Sel.here | apply Sel.there)); first | done | fail) (s2 : Sel R1 (.pt b2 ob2) R := by (repeat (first | exact Sel.here | apply Sel.there)); first | done | fail) :
    G Γ N fr L ((Code.region id l.toArray true).wp P Q) := g_take (.cons s1 (.cons s2 .nil)) (g_draw plan hp (take_head2 R) h)
end Go.Sl
