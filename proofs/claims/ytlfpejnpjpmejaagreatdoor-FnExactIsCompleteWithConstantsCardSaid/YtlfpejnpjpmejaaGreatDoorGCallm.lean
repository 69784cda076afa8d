/- Lemmas on the model and on plain lists: a part of the proof. No conditions. -/
import Derived.Test.YtlfpejnpjpmejaaGreatDoorGPtr
set_option linter.unusedVariables false
namespace Go.G
open Go.RowKit
section
variable {P : Program} {w : World} {Q : Exit → Act → World → Prop} {ops : Array Oper} {n : Nat} {σ : Nat → Value}
end
end Go.G
