/- Lemmas on the model and on plain lists: a part of the proof. No conditions. -/
import Derived.Test.YtlfpejnpjpmejaaGreatDoorGSh
set_option linter.unusedVariables false
namespace Go.G
open Go.RowKit

def ishr (k : IntKind) (a b : Int) : Int := a.fdiv (2 ^ min b.toNat k.bits)
section
variable {P : Program} {ρ : Operand → Value} {w : World} {d : Option Tmp} {ty : TypeId} {pos : String} {af : Array Edge} {g : Option (Nat × Bool)}
  {x y : Operand} {t t' : TypeId} {a b : Int} {k k' : IntKind}
theorem zci (h : ρ x = .int k a) (h' : ρ y = .int k' b) (h0 : 0 ≤ b) : Yv P ρ ⟨d, .binOp .shr t x y t', ty, pos, af, g⟩ w (.int k (ishr k a b)) w := by
  unfold Yv execOp; simp [h, h', yr, binOp, Op.shift, ishr, show ¬ b < 0 by omega]
end

section
variable {α β : Type} {r : RT α} {M M' : Nat → Prop} {w w' : World} {v : Value} {x : α} {fp : List Nat} {e : TypeId} {xs : List α} {i : Int} {g : Nat}
end
end Go.G
