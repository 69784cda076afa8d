/- Lemmas on the model and on plain lists: a part of the proof. No conditions. -/
import Derived.Test.YtkbacbikbndakaaGLend
set_option linter.unusedVariables false
namespace Go.G
open Go.RowKit
theorem cb {a b : Bool} (h : a = b) : Value.bool a = Value.bool b := congrArg Value.bool h
abbrev pq (b o : Nat) : Value := .pointer (some ⟨b, o, none⟩)
abbrev ri : RT Int := RT.int .i64
section
variable {P : Program} {ops : Array Oper} {Q : Exit → Act → World → Prop} {n : Nat} {σ : Nat → Value} {w : World} {d : Nat} {ty : TypeId} {pos : String} {af : Array Edge} {rest : List Oper} {x : Operand}
theorem mi {k : IntKind} {i : Int} (h : ev n σ x = .int k i) (K : WL P ops Q rest (fr n (upd σ d (.int k i))) w) : WL P ops Q (⟨some d, .move x, ty, pos, af, none⟩ :: rest) (fr n σ) w := pl_val _ (y_move h) K
theorem mb {b : Bool} (h : ev n σ x = .bool b) (K : WL P ops Q rest (fr n (upd σ d (.bool b))) w) : WL P ops Q (⟨some d, .move x, ty, pos, af, none⟩ :: rest) (fr n σ) w := pl_val _ (y_move h) K
theorem ms {a : Option Addr} {l c : Nat} (h : ev n σ x = .slice a l c) (K : WL P ops Q rest (fr n (upd σ d (.slice a l c))) w) : WL P ops Q (⟨some d, .move x, ty, pos, af, none⟩ :: rest) (fr n σ) w := pl_val _ (y_move h) K
theorem mp {b o : Nat} (h : ev n σ x = pq b o) (K : WL P ops Q rest (fr n (upd σ d (pq b o))) w) : WL P ops Q (⟨some d, .move x, ty, pos, af, none⟩ :: rest) (fr n σ) w := pl_val _ (y_move h) K
theorem ai {k : IntKind} {i : Int} (h : ev n σ x = .int k i) (K : WL P ops Q rest (fr n (upd σ d (.int k i))) w) : WL P ops Q (⟨some d, .assign x, ty, pos, af, none⟩ :: rest) (fr n σ) w := pl_val _ (y_assign h) K
theorem ab {b : Bool} (h : ev n σ x = .bool b) (K : WL P ops Q rest (fr n (upd σ d (.bool b))) w) : WL P ops Q (⟨some d, .assign x, ty, pos, af, none⟩ :: rest) (fr n σ) w := pl_val _ (y_assign h) K
theorem ax {a : Option Addr} {l c : Nat} (h : ev n σ x = .slice a l c) (K : WL P ops Q rest (fr n (upd σ d (.slice a l c))) w) : WL P ops Q (⟨some d, .assign x, ty, pos, af, none⟩ :: rest) (fr n σ) w := pl_val _ (y_assign h) K
theorem ap {b o : Nat} (h : ev n σ x = pq b o) (K : WL P ops Q rest (fr n (upd σ d (pq b o))) w) : WL P ops Q (⟨some d, .assign x, ty, pos, af, none⟩ :: rest) (fr n σ) w := pl_val _ (y_assign h) K
end
end Go.G
