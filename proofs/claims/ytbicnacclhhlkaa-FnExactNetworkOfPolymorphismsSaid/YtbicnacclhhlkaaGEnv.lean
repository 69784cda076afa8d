/- Lemmas on the model and on plain lists: a part of the proof. No conditions. -/
import Derived.Test.YtbicnacclhhlkaaGFoc
set_option linter.unusedVariables false
namespace Go.G
open Go.RowKit

section
variable {P : Program} {ops : Array Oper} {Q : Exit → Act → World → Prop} {n : Nat} {σ : Nat → Value} {w : World}
end

section
variable {P : Program} {ρ : Operand → Value} {w : World} {d : Option Tmp} {ty : TypeId} {pos : String} {af : Array Edge} {g : Option (Nat × Bool)} {x y : Operand} {t t' : TypeId} {a b : Int} {k : IntKind}
end
end Go.G
