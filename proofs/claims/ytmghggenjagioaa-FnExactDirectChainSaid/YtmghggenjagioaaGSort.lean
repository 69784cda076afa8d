/- Lemmas on the model and on plain lists: a part of the proof. No conditions. -/
import Derived.Test.YtmghggenjagioaaGEnv
import Derived.Lib.ReflectliteSwap
set_option linter.unusedVariables false
namespace Go.G
open Go.RowKit Go.Lib

section
variable {α : Type} {r : RT α} {M : Nat → Prop} {w : World}
theorem relL.set : ∀ {css : List (List Value)} {xs : List α} {fps : List (List Nat)} {i : Nat} {c : List Value} {x : α} {f : List Nat}, relL r M w css xs fps → r.rel M w c x f → relL r M w (css.set i c) (xs.set i x) (fps.set i f)
  | [], [], [], _, _, _, _, _, _ => trivial
  | [], [], _ :: _, _, _, _, _, h, _ => h.elim
  | [], _ :: _, _, _, _, _, _, h, _ => h.elim
  | _ :: _, [], _, _, _, _, _, h, _ => h.elim
  | _ :: _, _ :: _, [], _, _, _, _, h, _ => h.elim
  | _ :: _, _ :: _, _ :: _, 0, _, _, _, h, hr => ⟨hr, h.2⟩
  | _ :: _, _ :: _, _ :: _, _ + 1, _, _, _, h, hr => ⟨h.1, relL.set h.2 hr⟩
end
theorem y_func {P : Program} {ρ : Operand → Value} {w : World} {d : Option Tmp} {ty : TypeId} {pos : String} {af : Array Edge} {g : Option (Nat × Bool)} {fn : Fn} {xs ys : Array Operand} {as bs : List Value} (h : xs.toList.map ρ = as) (h' : ys.toList.map ρ = bs) : Yv P ρ ⟨d, .makeFunc fn xs ys, ty, pos, af, g⟩ w (.func fn as.toArray bs.toArray) w := by
  have e : xs.map ρ = as.toArray := by rw [← h]; apply Array.ext'; simp
  have e' : ys.map ρ = bs.toArray := by rw [← h']; apply Array.ext'; simp
  unfold Yv; simp [execOp, Instr.makeFunc, e, e']
end Go.G
