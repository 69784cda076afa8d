/- Lemmas on the model and on plain lists: a part of the proof. No conditions. -/
import Derived.Test.YtlfpejnpjpmejaaGreatDoorGSlc
import Derived.WalkSpells
set_option linter.unusedVariables false
namespace Go.G
open Go.RowKit

def nne {α : Type} (xs : List α) : Option Unit := if xs.isEmpty then none else some ()
section
variable {P : Program} {α : Type} {r : RT α} {M : Nat → Prop} {w : World} {a : Option Addr} {n c : Nat} {xs : List α} {fp : List Nat} {t e : TypeId}
theorem os_nn {u : Unit} (h : (RT.os e r).val M w (.slice a n c) xs fp) (hu : nne xs = some u) : a.isNone = xs.isEmpty := by
  obtain ⟨css, fps, hown, hl, _, _⟩ := Yx h;cases xs with
  | nil => cases hu
  | cons x xs =>
    rcases hown.2 with ⟨hv, h0⟩ | ⟨g, cap, cur, hv, _⟩
    · simp at h0
    · have : a = some ⟨g, 0, none⟩ := by
        have h1 := hv;simp only [Value.slice.injEq] at h1;exact h1.1
      rw [this]; rfl
variable {ρ : Operand → Value} {d : Option Tmp} {ty : TypeId} {pos : String} {af : Array Edge} {g : Option (Nat × Bool)} {x y : Operand} {t' : TypeId} {n' c' : Nat} {b : Bool}
theorem zad {op : BinOp} {x y : Operand} {u v : Value} {a a' : Option Addr} {n c n' c' : Nat} (hu : u = .slice a n c) (hv : v = .slice a' n' c') : (eqGuard op t x y u v).run P w = .ok () w := by
  subst hu; subst hv;unfold eqGuard;split <;> simp
theorem y_nnil (ht : P.underlying t = some (.slice e)) (h : ρ x = .slice a n c) (h' : ρ y = .slice none n' c') (hz : a.isNone = b) : Yv P ρ ⟨d, .binOp .neq t x y t', ty, pos, af, g⟩ w (.bool (!b)) w := by
  subst hz;unfold Yv execOp;simp only [h, h', Sem.run_bind, zad rfl rfl, Result.andThen_ok, run_neq_slice_nil_any w t e a n c n' c' ht]; rfl
end
end Go.G
