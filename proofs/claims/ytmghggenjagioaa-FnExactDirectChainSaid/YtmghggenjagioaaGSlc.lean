/- Lemmas on the model and on plain lists: a part of the proof. No conditions. -/
import Derived.Test.YtmghggenjagioaaGStr
set_option linter.unusedVariables false
namespace Go.G
open Go.RowKit

theorem relL.part {α : Type} {r : RT α} {M : Nat → Prop} {w : World} : ∀ {css : List (List Value)} {xs : List α} (k : Nat), relL r M w css xs (List.replicate xs.length []) → relL r M w (css.drop k) (xs.drop k) (List.replicate (xs.drop k).length []) ∧ (css.take k).flatten.length = (min k xs.length) * r.sz
  | [], [], k, _ => by simp; trivial
  | [], _ :: _, _, h => by simp [List.replicate_succ] at h; exact h.elim
  | _ :: _, [], _, h => by simp at h; exact h.elim
  | c :: css, x :: xs, 0, h => ⟨by simpa using h, by simp⟩
  | c :: css, x :: xs, k + 1, h => by
    have h' : r.rel M w c x [] ∧ relL r M w css xs (List.replicate xs.length []) := by simpa [List.replicate_succ, relL] using h
    obtain ⟨a, b⟩ := relL.part k h'.2
    refine ⟨by simpa using a, ?_⟩
    have := r.len h'.1
    simp only [List.take_succ_cons, List.flatten_cons, List.length_append, b, this, List.length_cons]
    rw [Nat.add_min_add_right, Nat.add_mul, Nat.one_mul]; omega
section
variable {P : Program} {α : Type} {r : RT α} {M : Nat → Prop} {w : World} {a : Option Addr} {n c : Nat} {xs ys : List α} {fp : List Nat} {t e : TypeId} {lo hi : Int}
end
end Go.G
