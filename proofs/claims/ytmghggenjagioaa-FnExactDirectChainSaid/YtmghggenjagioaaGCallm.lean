/- Lemmas on the model and on plain lists: a part of the proof. No conditions. -/
import Derived.Test.YtmghggenjagioaaGPtr
set_option linter.unusedVariables false
namespace Go.G
open Go.RowKit
section
variable {P : Program} {w : World} {Q : Exit → Act → World → Prop} {ops : Array Oper} {n : Nat} {σ : Nat → Value}
theorem xk_callb {S : World → Prop} {T : List Nat} {fuel d i : Nat} {tl : Bool} {listed : Array Bool} {ty : TypeId} {pos : String} {af : Array Edge} {Z : Operand} {f : FuncId} {lb : Array Value} {xs : Array Operand} {ats : Array TypeId} {args : List Value} {R : Value → World → Prop} {b : Bool} (hi : ops[i]? = some ⟨some d, .call { callee := .value Z, args := xs, argTypes := ats }, ty, pos, af, none⟩) (h : ev n σ Z = .func (.func f) #[] lb) (hbd : Bodied P f)
    (ha : xs.toList.map (ev n σ) ++ lb.toList = args) (hc : Gives P f args w R) (hb : (tl || T.contains i) = b) (hS : b = false → ∀ v w', R v w' → S w')
    (k : ∀ v w', R v w' → X P ops Q S T fuel b (listed.setIfInBounds i true) (fr n (upd σ d v)) w') : XK P ops Q S T fuel tl listed i (fr n σ) w := by
  intro _ hcl
  unfold wpOp
  simp only [hi, Region.wanted, if_true]
  refine .inl ?_
  unfold Oper.wp
  rw [fr_eval, run_callb h hbd ha]
  simp only [Oper.upon]
  refine Calls.mono hc fun e w' ⟨v, he, hR⟩ => ?_
  subst he
  rw [hb]
  show _ ∧ _
  rw [fr_put]
  exact ⟨fun hbf => hS hbf v w' hR, k v w' hR hcl⟩
theorem xk_callby {S : World → Prop} {T : List Nat} {fuel d i : Nat} {tl : Bool} {listed : Array Bool} {ty : TypeId} {pos : String} {af : Array Edge} {Z : Operand} {f : FuncId} {lb : Array Value} {xs : Array Operand} {ats : Array TypeId} {args : List Value} {R : Value → World → Prop} {b : Bool} {j tg : Nat} {want : Bool} (hi : ops[i]? = some ⟨some d, .call { callee := .value Z, args := xs, argTypes := ats }, ty, pos, af, some (j, want)⟩) (hj : (ops[j]?).bind (·.dst) = some tg) (hg : ev n σ (.tmp tg) = .bool want) (h : ev n σ Z = .func (.func f) #[] lb) (hbd : Bodied P f)
    (ha : xs.toList.map (ev n σ) ++ lb.toList = args) (hc : Gives P f args w R) (hb : (tl || T.contains i) = b) (hS : b = false → ∀ v w', R v w' → S w')
    (k : ∀ v w', R v w' → X P ops Q S T fuel b (listed.setIfInBounds i true) (fr n (upd σ d v)) w') : XK P ops Q S T fuel tl listed i (fr n σ) w := by
  intro _ hcl
  unfold wpOp
  simp only [hi]
  rw [if_pos (by simp [Region.wanted, yielded_fr' hj hg])]
  refine .inl ?_
  unfold Oper.wp
  rw [fr_eval, run_callb h hbd ha]
  simp only [Oper.upon]
  refine Calls.mono hc fun e w' ⟨v, he, hR⟩ => ?_
  subst he
  rw [hb]
  show _ ∧ _
  rw [fr_put]
  exact ⟨fun hbf => hS hbf v w' hR, k v w' hR hcl⟩
end
end Go.G
