/- Lemmas on the model and on plain lists: a part of the proof. No conditions. -/
import Derived.Test.YtlfpejnpjpmejaaGreatDoorGHole
set_option linter.unusedVariables false
namespace Go.G
open Go.RowKit
section
variable {α : Type} {r : RT α} {N M : Nat → Prop} {w w' w0 : World} {v : Value} {x : α} {fp F G X R : List Nat} {g : Nat} {T : TypeId} {cs : List Value}
theorem BoxV.cn (h : BoxV w g T cs) (hc : Chg [] w w') : BoxV w' g T cs := h.chg hc (fun h => nomatch h)
theorem BoxV.ap (h : BoxV w g T cs) (hc : Chg G w w') (ho : Own N M w (X ++ R)) (hG : ∀ q ∈ G, q ∈ X) (hr : g ∈ R) : BoxV w' g T cs := h.chg hc (fun hg => ho.apart _ (hG _ hg) hr)
theorem RT.val.mt (h : r.val M w v x []) (hc : Chg G w w') (ho : Own N M w (X ++ R)) (hG : ∀ q ∈ G, q ∈ X) : r.val M w' v x [] := h.mut hc (fun q hq => ho.inM q (hG q hq)) (fun _ _ h => nomatch h)
theorem RT.val.ma (h : r.val M w v x fp) (hc : Chg G w w') (ho : Own N M w (X ++ R)) (hG : ∀ q ∈ G, q ∈ X) (hr : ∀ q, q ∈ fp → q ∈ R) : r.val M w' v x fp := h.mut hc (fun q hq => ho.inM q (hG q hq)) (fun q hq e => ho.apart q (hG q hq) (hr q e))
theorem Chg.st (h : Chg F w0 w) (hc : Chg G w w') (ho : Own (Nw w0 F) M w (X ++ R)) (hG : ∀ q ∈ G, q ∈ X) : Chg F w0 w' := h.step hc (fun q hq => ho.inN q (hG q hq))
theorem zf : ∀ q ∈ X, q ∈ X := fun _ h => h
end
end Go.G
namespace Go.G
open Go.RowKit
section
variable {P : Program} {Q : Exit → Act → World → Prop} {w : World}
theorem c_sr {id : Nat} {l : List Oper} {a : Act} {y : Code} (h : WL P l.toArray (Exit.then (y.wp P Q) Q) l a w) : (Code.seq (Code.region id l.toArray false) y).wp P Q a w := ze (zh h)
end
end Go.G
namespace Go.G
open Go.RowKit
section
variable {α : Type} {r : RT α} {M : Nat → Prop} {w : World} {v : Value} {xs : List α} {x y : α} {fp : List Nat} {e : TypeId} {i : Int}
end
end Go.G
namespace Go.G
open Go.RowKit
section
variable {N M : Nat → Prop} {w w' : World} {g off : Nat} {cs : List Value} {G X R : List Nat}
theorem RowAt.ap (h : RowAt w g off cs) (hc : Chg G w w') (ho : Own N M w (X ++ R)) (hG : ∀ q ∈ G, q ∈ X) (hr : g ∈ R) : RowAt w' g off cs := h.chg hc (fun hg => ho.apart _ (hG _ hg) hr)
end
end Go.G
