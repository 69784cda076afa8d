/- Lemmas on the model and on plain lists: a part of the proof. No conditions. -/
import Derived.Test.YtlfpejnpjpmejaaGreatDoorGNil
set_option linter.unusedVariables false
namespace Go.G
open Go.RowKit

section
variable {P : Program} {α : Type} {r r' : RT α} {M M' : Nat → Prop} {w w' : World} {v u : Value} {xs ys : List α} {x : α} {fp f R : List Nat} {p : Addr} {t e : TypeId} {g : Nat} {i lo hi j : Int}
end
end Go.G
namespace Go.G
open Go.RowKit
section
variable {α : Type} {N M : Nat → Prop} {w : World} {X A B R : List Nat} {xs ys : List α} {lo hi : Int}
end
end Go.G
