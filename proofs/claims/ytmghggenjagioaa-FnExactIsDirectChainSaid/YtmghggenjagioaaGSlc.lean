/- Lemmas on the model and on plain lists: a part of the proof. No conditions. -/
import Derived.Test.YtmghggenjagioaaGStr
set_option linter.unusedVariables false
namespace Go.G
open Go.RowKit

section
variable {P : Program} {α : Type} {r : RT α} {M : Nat → Prop} {w : World} {a : Option Addr} {n c : Nat} {xs ys : List α} {fp : List Nat} {t e : TypeId} {lo hi : Int}
end
end Go.G
