/- Lemmas on the model and on plain lists: a part of the proof. No conditions. -/
import Derived.Test.YtdbfekcoaappnaaGShort
import Derived.Test.YtdbfekcoaappnaaGLoop
import Derived.Test.YtdbfekcoaappnaaGLoop
set_option linter.unusedVariables false
namespace Go.G
open Go.RowKit

/-- A pointer to a variable that is only read. -/
def RT.rp {α : Type} (T : TypeId) (r : RT α) : RT α where
  sz := 1
  agg := false
  rel := fun M w cs x fp => ∃ g cells, cs = [.pointer (some ⟨g, 0, none⟩)] ∧ fp = [] ∧ ¬ M g ∧ BoxV w g T cells ∧ r.rel M w cells x []
  len := by rintro M w cs x fp ⟨_, _, rfl, _⟩; rfl
  one := by rintro M w cs x fp ⟨_, _, rfl, _⟩ c hc; simp at hc; subst hc; rfl
  fpl := by rintro M w cs x fp ⟨_, _, _, rfl, _⟩ g hg; cases hg
  mono := by
    rintro M M' w w' cs x fp G ⟨g, cells, rfl, rfl, hg, hb, hr⟩ hc hG hf hM
    refine ⟨g, cells, rfl, rfl, fun h => ?_, hb.chg hc fun h => ?_, r.mono hr hc hG (fun _ _ h => nomatch h) hM⟩
    · rcases hM g h with h | h
      · exact hg h
      · have := hb.lt; omega
    · rcases hG g h with h | h
      · exact hg h
      · have := hb.lt; omega
/-- A variable that is only read. -/
def RBox (M : Nat → Prop) (w : World) (g : Nat) (T : TypeId) (cs : List Value) : Prop := BoxV w g T cs ∧ ¬ M g

section
variable {α : Type} {r r' : RT α} {M M' : Nat → Prop} {w w' : World} {v : Value} {x : α} {fp : List Nat} {g : Nat} {T : TypeId} {cs : List Value} {G R X : List Nat}

theorem RBox.ext (h : RBox M w g T cs) (hc : Chg [] w w') : RBox M w' g T cs := ⟨h.1.chg hc (fun h => nomatch h), h.2⟩
theorem RBox.mut (h : RBox M w g T cs) (hc : Chg G w w') (hG : ∀ q ∈ G, M q) : RBox M w' g T cs := ⟨h.1.chg hc (fun hq => h.2 (hG g hq)), h.2⟩
theorem RBox.sub (h : RBox M w g T cs) (hM : ∀ q, M' q → M q ∨ w.heap.size ≤ q) : RBox M' w g T cs := ⟨h.1, fun hq => (hM g hq).elim h.2 (fun hl => by have := h.1.lt; omega)⟩

end

section
variable {β : Type} {enc : β → Value} {M : Nat → Prop} {w : World} {cs : List Value} {m : List (ByteArray × β)} {fp : List Nat}
end

section
variable {α : Type} {r r' : RT α} {M M' N : Nat → Prop} {w w' w0 : World} {v : Value} {x : α} {xs : List α} {fp F R L X : List Nat} {e : TypeId}
def KeepsF (w0 : World) (F : List Nat) (M M' : Nat → Prop) : Prop := (∀ g, M g → M' g ∨ w0.heap.size ≤ g ∨ g ∈ F) ∧ (∀ g, M' g → M g)
theorem KeepsF.refl : KeepsF w0 F M M := ⟨fun _ h => .inl h, fun _ h => h⟩
theorem KeepsF.trans {A B C : Nat → Prop} (h : KeepsF w0 F A B) (h' : KeepsF w0 F B C) : KeepsF w0 F A C := ⟨fun g hg => (h.1 g hg).elim (h'.1 g) .inr, fun g hg => h.2 g (h'.2 g hg)⟩
theorem KeepsF.less (ho : Own (Nw w0 F) M w (fp ++ R)) : KeepsF w0 F M (Less M fp) := ⟨fun g hg => by
  by_cases h : g ∈ fp
  · exact .inr (ho.inN g h).symm
  · exact .inl ⟨hg, h⟩, fun _ h => h.1⟩
/-- The blocks that may be written after a call: the old ones that were not lent, what the results own, what is new. -/
def PastL (M : Nat → Prop) (F : List Nat) (w w' : World) (L : List Nat) : Nat → Prop := fun g => M g ∧ ((g < w.heap.size ∧ g ∉ F) ∨ w'.heap.size ≤ g ∨ g ∈ L)
theorem PastL.sub : ∀ g, PastL M F w w' L g → M g := fun _ h => h.1
end
end Go.G

namespace Go.G
open Go.RowKit
section
variable {P : Program} {ρ : Operand → Value} {w w' : World} {d : Option Tmp} {ty : TypeId} {pos : String} {af : Array Edge} {g : Option (Nat × Bool)} {x y : Operand} {t : TypeId} {u v : Value}
theorem y_nilc {p : Addr} (hx : ρ x = .pointer (some p)) : Yv P ρ ⟨d, .nilCheck x, ty, pos, af, g⟩ w (.pointer (some p)) w := by
  unfold Yv execOp
  simp [hx]
end
end Go.G

namespace Go.G
open Go.RowKit
section
variable {M N : Nat → Prop} {w w' w0 : World} {g : Nat} {T : TypeId} {cs : List Value} {F R L : List Nat}
end
end Go.G

namespace Go.G
open Go.RowKit
section
variable {P : Program} {α : Type} {r : RT α} {M : Nat → Prop} {w : World} {a : Option Addr} {n c : Nat} {xs ys zs : List α} {o : Option (List α)} {fp : List Nat} {t e : TypeId} {v : Value}
end
end Go.G
