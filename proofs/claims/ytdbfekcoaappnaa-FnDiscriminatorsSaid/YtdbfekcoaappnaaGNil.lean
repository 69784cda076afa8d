/- Lemmas on the model and on plain lists: a part of the proof. No conditions. -/
import Derived.Test.YtdbfekcoaappnaaGSlc
import Derived.WalkSpells
set_option linter.unusedVariables false
namespace Go.G
open Go.RowKit

section
variable {P : Program} {α : Type} {r : RT α} {M : Nat → Prop} {w : World} {a : Option Addr} {n c : Nat} {xs : List α} {fp : List Nat} {t e : TypeId}
variable {ρ : Operand → Value} {d : Option Tmp} {ty : TypeId} {pos : String} {af : Array Edge} {g : Option (Nat × Bool)} {x y : Operand} {t' : TypeId} {n' c' : Nat} {b : Bool}
end
end Go.G
