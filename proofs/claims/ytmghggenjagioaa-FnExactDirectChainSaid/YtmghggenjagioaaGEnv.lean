/- Lemmas on the model and on plain lists: a part of the proof. No conditions. -/
import Derived.Test.YtmghggenjagioaaGFoc
set_option linter.unusedVariables false
namespace Go.G
open Go.RowKit

section
variable {P : Program} {ops : Array Oper} {Q : Exit → Act → World → Prop} {n : Nat} {σ : Nat → Value} {w : World}
theorem run_callb {ρ : Operand → Value} {X : Operand} {f : FuncId} {lb : Array Value} {xs : Array Operand} {ats : Array TypeId} {dst : Option Tmp} {ty : TypeId} {pos : String} {af : Array Edge} {g : Option (Nat × Bool)} {args : List Value} (h : ρ X = .func (.func f) #[] lb) (hb : Bodied P f) (ha : xs.toList.map ρ ++ lb.toList = args) :
    (execOp ρ ⟨dst, .call { callee := .value X, args := xs, argTypes := ats }, ty, pos, af, g⟩).run P w = .ok (.enter f args.toArray) w := by
  have e : xs.map ρ ++ lb = args.toArray := by rw [← ha]; apply Array.ext'; simp
  have hb' := hb args.toArray w
  simp [execOp, resolve, Deferred.ofValue, h, invoke, e, hb']
end

def KPostN (K : Act → World → Prop) : Exit → Act → World → Prop
  | .ret, a, w => K a w
  | .normal, a, w => K a w
  | _, _, _ => False
theorem ret0x {P : Program} {n : Nat} {σ : Nat → Value} {w : World} {fn : Func} {R : Value → World → Prop} (hr : fn.results = #[]) (h : R (.tuple #[]) w) :
    bodyPost P fn (fun e w' => ∃ v, e = .returned v ∧ R v w') .ret (fr n σ) w := ⟨rfl, .tuple #[], by simp [results, hr], _, rfl, h⟩
theorem ret0n {P : Program} {n : Nat} {σ : Nat → Value} {w : World} {fn : Func} {R : Value → World → Prop} (hr : fn.results = #[]) (h : R (.tuple #[]) w) :
    bodyPost P fn (fun e w' => ∃ v, e = .returned v ∧ R v w') .normal (fr n σ) w := ⟨rfl, .tuple #[], by simp [results, hr], _, rfl, h⟩

theorem y_conv_int {P : Program} {ρ : Operand → Value} {w : World} {d : Option Tmp} {ty : TypeId} {pos : String} {af : Array Edge} {g : Option (Nat × Bool)} {x : Operand} {s t : TypeId} {a : Int} {k k' : IntKind} {ds : TypeDesc} (hs : P.underlying s = some ds) (ht : P.underlying t = some (.int k')) (h : ρ x = .int k a) :
    Yv P ρ ⟨d, .convert s t x, ty, pos, af, g⟩ w (.int k' (k'.wrap a)) w := by
  unfold Yv
  simp only [execOp, convert, h, Sem.run_bind, run_underlying hs, run_underlying ht, Result.andThen_ok]
  cases ds <;> simp [Conv.intToInt]

section
variable {P : Program} {ρ : Operand → Value} {w : World} {d : Option Tmp} {ty : TypeId} {pos : String} {af : Array Edge} {g : Option (Nat × Bool)} {x y : Operand} {t t' : TypeId} {a b : Int} {k : IntKind}
end
end Go.G
