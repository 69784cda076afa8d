/- Lemmas on the model and on plain lists: a part of the proof. No conditions. -/
import Derived.Test.YtlfpejnpjpmejaaGreatDoorGCallm
set_option linter.unusedVariables false
namespace Go.G
open Go.RowKit

def RT.Nf {α : Type} (r : RT α) : Prop := ∀ {M w cs x fp}, r.rel M w cs x fp → fp = []
theorem Nf.int {k : IntKind} : (RT.int k).Nf := fun h => h.2
theorem Nf.bool : RT.bool.Nf := fun h => h.2
theorem Nf.rs {α : Type} {r : RT α} : (RT.rs r).Nf := fun ⟨_, _, _, _, h, _⟩ => h
section
variable {P : Program} {α β : Type} {r r' : RT α} {M M' : Nat → Prop} {w w' : World} {v : Value} {a : Option Addr} {n c k : Nat} {xs ys zs : List α} {fp fp' f : List Nat} {t e : TypeId} {g : Nat} {p : Addr} {x : α}
end
section
variable {α β : Type} {r r' : RT α} {M M' : Nat → Prop} {w w' : World} {v : Value} {a : Option Addr} {n c k : Nat} {xs ys zs : List α} {fp fp' f : List Nat} {t e e' : TypeId} {g : Nat} {p : Addr} {x : α} {cs : List Value}
end
end Go.G
