/- Lemmas on the model and on plain lists: a part of the proof. No conditions. -/
import Derived.Test.YtdbfekcoaappnaaGSort
import Derived.Laws.BytesString
set_option linter.unusedVariables false
namespace Go.G
open Go.RowKit

section
variable {P : Program} {β : Type} {enc : β → Value} {M M' : Nat → Prop} {w w' : World} {v : Value} {m : List (ByteArray × β)} {fp : List Nat} {t k e : TypeId} {key : ByteArray}
end
/-- A byte of a text. -/
def idxs (s : ByteArray) (i : Int) : Option Int := if h : 0 ≤ i ∧ i < s.size then some ((s[i.toNat]'(by omega)).toNat : Int) else none
theorem y_lenS {P : Program} {ρ : Operand → Value} {w : World} {d : Option Tmp} {ty t : TypeId} {pos : String} {af : Array Edge} {g : Option (Nat × Bool)} {x : Operand} {s : ByteArray} (ht : P.underlying t = some .string) (h : ρ x = .string s) :
    Yv P ρ ⟨d, .call { callee := .builtin .len, args := #[x], argTypes := #[t] }, ty, pos, af, g⟩ w (.int .i64 (s.size : Int)) w := by
  unfold Yv execOp
  simp [resolve, invoke, builtin, h, Builtin.len_, run_underlying ht, goInt]
theorem y_idxS {P : Program} {ρ : Operand → Value} {w : World} {d : Option Tmp} {ty t : TypeId} {pos : String} {af : Array Edge} {g : Option (Nat × Bool)} {x y : Operand} {s : ByteArray} {k : IntKind} {i v : Int} (ht : P.underlying t = some .string) (hi : idxs s i = some v) (h : ρ x = .string s) (h' : ρ y = .int k i) :
    Yv P ρ ⟨d, .index t x y, ty, pos, af, g⟩ w (.int .u8 v) w := by
  unfold idxs at hi
  split at hi
  · rename_i hb
    cases hi
    unfold Yv execOp
    simp [h, h', run_index_string w t s k i ht, hb]
  · cases hi
end Go.G
