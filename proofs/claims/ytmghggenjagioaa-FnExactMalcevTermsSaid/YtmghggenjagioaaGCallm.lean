/- Lemmas on the model and on plain lists: a part of the proof. No conditions. -/
import Derived.Test.YtmghggenjagioaaGPtr
set_option linter.unusedVariables false
namespace Go.G
open Go.RowKit
section
variable {P : Program} {w : World} {Q : Exit → Act → World → Prop} {ops : Array Oper} {n : Nat} {σ : Nat → Value}
theorem run_callm {ρ : Operand → Value} {X : Operand} {f : FuncId} {v0 : Value} {xs : Array Operand} {ats : Array TypeId} {dst : Option Tmp} {ty : TypeId} {pos : String} {af : Array Edge} {g : Option (Nat × Bool)} {args : List Value} (h : ρ X = .func (.func f) #[v0] #[]) (hb : Bodied P f) (ha : v0 :: xs.toList.map ρ = args) :
    (execOp ρ ⟨dst, .call { callee := .value X, args := xs, argTypes := ats }, ty, pos, af, g⟩).run P w = .ok (.enter f args.toArray) w := by
  have e : #[v0] ++ xs.map ρ = args.toArray := by rw [← ha]; apply Array.ext'; simp
  have hb' := hb args.toArray w
  simp [execOp, resolve, Deferred.ofValue, h, invoke, e, hb']
theorem pl_callm {X : Operand} {f : FuncId} {v0 : Value} {d : Nat} {xs : Array Operand} {ats : Array TypeId} {ty : TypeId} {pos : String} {af : Array Edge} {rest : List Oper} {args : List Value} {R : Value → World → Prop} (h : ev n σ X = .func (.func f) #[v0] #[]) (hb : Bodied P f)
    (ha : v0 :: xs.toList.map (ev n σ) = args) (hc : Gives P f args w R) (k : ∀ v w', R v w' → WL P ops Q rest (fr n (upd σ d v)) w') :
    WL P ops Q (⟨some d, .call { callee := .value X, args := xs, argTypes := ats }, ty, pos, af, none⟩ :: rest) (fr n σ) w := by
  refine ⟨wpList_plain rfl fun K hK => ?_⟩
  unfold Oper.wp
  rw [fr_eval, run_callm h hb ha]
  simp only [Oper.upon]
  refine Calls.mono hc fun e w' ⟨v, he, hR⟩ => ?_
  subst he
  show K _ _
  rw [fr_put]
  exact hK _ _ (k v w' hR).out
end
end Go.G
