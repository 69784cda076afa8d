/- Lemmas on the model and on plain lists: a part of the proof. No conditions. -/
import Derived.Test.YtlfpejnpjpmejaaGreatDoorGZip
set_option linter.unusedVariables false
namespace Go.G
open Go.RowKit
def RT.av : RT Unit where
  sz := 1
  agg := false
  rel := fun _ _ cs _ fp => (∃ v : Value, cs = [v] ∧ v.oneCell' = true) ∧ fp = []
  len := by rintro M w cs x fp ⟨⟨v, rfl, _⟩, _⟩; rfl
  one := by rintro M w cs x fp ⟨⟨v, rfl, h⟩, _⟩ c hc; simp at hc; subst hc; exact h
  fpl := by rintro M w cs x fp ⟨_, rfl⟩ g hg; cases hg
  mono := by rintro M M' w w' cs x fp G h _ _ _ _; exact h
section
variable {M : Nat → Prop} {w : World} {cs : List Value} {fp : List Nat} {v : Value}
theorem av_rel {u : Unit} (h : RT.av.rel M w cs u fp) : ∃ v : Value, cs = [v] ∧ fp = [] ∧ v.oneCell' = true := by
  obtain ⟨⟨v, h1, h2⟩, h3⟩ := h;exact ⟨v, h1, h3, h2⟩
theorem av_of {u : Unit} (h : v.oneCell' = true) : RT.av.rel M w [v] u [] := ⟨⟨v, rfl, h⟩, rfl⟩
theorem Frz.av : Frz RT.av RT.av := ⟨rfl, rfl, fun h _ _ => ⟨h.1, rfl⟩⟩
theorem Free.av : RT.av.Free := fun h => h
end
section
variable {P : Program} {ρ : Operand → Value} {w : World} {d : Option Tmp} {ty t t' : TypeId} {pos : String} {af : Array Edge} {g : Option (Nat × Bool)} {x y : Operand} {p q : ByteArray}
theorem zcF {op : BinOp} {t : TypeId} {x y : Operand} {a b : ByteArray} : (eqGuard op t x y (.string a) (.string b)).run P w = .ok () w := by
  unfold eqGuard;split <;> simp
theorem y_seql (h : ρ x = .string p) (h' : ρ y = .string q) : Yv P ρ ⟨d, .binOp .eql t x y t', ty, pos, af, g⟩ w (.bool (p.toList == q.toList)) w := by
  unfold Yv execOp;simp only [h, h', Sem.run_bind, zcF, Result.andThen_ok, binOp_string_eql];rfl
end
end Go.G
