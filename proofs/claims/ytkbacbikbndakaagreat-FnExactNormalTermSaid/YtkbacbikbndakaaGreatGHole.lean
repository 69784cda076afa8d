/- Lemmas on the model and on plain lists: a part of the proof. No conditions. -/
import Derived.Test.YtkbacbikbndakaaGreatGNil
set_option linter.unusedVariables false
namespace Go.G
open Go.RowKit

def RT.hole {α : Type} (r : RT α) : RT (Option α) where
  sz := r.sz
  agg := r.agg
  rel := fun M w cs x fp => match x with | some x => r.rel M w cs x fp | none => cs.length = r.sz ∧ (∀ c ∈ cs, c.oneCell' = true) ∧ fp = []
  len := by
    intro M w cs x fp h
    cases x with
    | none => exact h.1
    | some x => exact r.len h
  one := by
    intro M w cs x fp h
    cases x with
    | none => exact h.2.1
    | some x => exact r.one h
  fpl := by
    intro M w cs x fp h
    cases x with
    | none => obtain ⟨_, _, rfl⟩ := h; intro g hg; cases hg
    | some x => exact r.fpl h
  mono := by
    intro M M' w w' cs x fp G h a b c d
    cases x with
    | none => exact h
    | some x => exact r.mono h a b c d
section
variable {P : Program} {α : Type} {r r' : RT α} {M M' : Nat → Prop} {w w' : World} {v u : Value} {xs ys : List α} {x : α} {fp f R : List Nat} {p : Addr} {t e : TypeId} {g : Nat} {i lo hi j : Int}
theorem relL.hole : ∀ {css : List (List Value)} {xs : List α} {fps : List (List Nat)}, relL r M w css xs fps → relL (RT.hole r) M w css (xs.map some) fps
  | [], [], [], _ => trivial
  | [], [], _ :: _, h => h.elim
  | [], _ :: _, _, h => h.elim
  | _ :: _, [], _, h => h.elim
  | _ :: _, _ :: _, [], h => h.elim
  | _ :: _, _ :: _, _ :: _, h => ⟨h.1, relL.hole h.2⟩
theorem zbZ (h : (RT.os e r).val M w v xs fp) : (RT.os e (RT.hole r)).val M w v (xs.map some) fp := by
  obtain ⟨css, fps, hown, hl, rfl, hnd⟩ := ZC h
  exact ⟨_, rfl, v, css, fps, rfl, by rw [List.length_map]; exact hown, hl.hole, rfl, hnd⟩
/-- An element is taken out. -/
theorem oh_take {zs : List (Option α)} {c : List Value} (hgb : v.ownBlock = some g) (h : (RT.os e (RT.hole r)).val M w v zs fp) (hx : idx zs i = some (some x)) (hrow : RowAt w g (0 + i.toNat * r.sz) c) (hlen : c.length = r.sz) :
    ∃ f fp', r.rel M w c x f ∧ f.Nodup ∧ fp.Perm (f ++ fp') ∧ (RT.os e (RT.hole r)).val M w v (zs.set i.toNat none) fp' := by
  obtain ⟨k, rfl, hk⟩ := xf hx
  obtain ⟨css, fps, hown, hl, rfl, hnd⟩ := ZC h
  obtain ⟨c1, c', c2, f1, f, f2, rfl, rfl, h1, h2, h3, h4⟩ := hl.at hk
  have hrow' : RowAt w g 0 (c1 ++ c' :: c2).flatten := fun q u hq => by
    have := hown.cells (g := g) hgb q u hq
    rwa [Addr.add_lit] at this
  have hcc : c' = c := by
    have a := hrow'
    rw [List.flatten_append, List.flatten_cons] at a
    have b := a.app_right.app_left
    rw [h3] at b
    exact b.uniq hrow ((RT.len _ h4).trans hlen.symm)
  subst hcc
  rw [List.nodup_append] at hnd
  obtain ⟨hn1, hn2, hn3⟩ := hnd
  have hperm : (f1 ++ f :: f2).flatten.Perm (f ++ (f1 ++ [] :: f2).flatten) := by
    simp only [List.flatten_append, List.flatten_cons, List.nil_append]
    rw [← List.append_assoc, ← List.append_assoc]
    exact List.perm_append_comm.append_right _
  have hn2' := hperm.nodup_iff.1 hn2
  rw [List.nodup_append] at hn2'
  refine ⟨f, v.ownBlock.toList ++ (f1 ++ [] :: f2).flatten, h4, hn2'.1, ?_, _, rfl, v, c1 ++ c' :: c2, f1 ++ [] :: f2, rfl, by rw [List.length_set]; exact hown, ?_, rfl, ?_⟩
  · exact (hperm.append_left _).trans (by rw [← List.append_assoc, ← List.append_assoc]; exact List.perm_append_comm.append_right _)
  · rw [Int.toNat_natCast]
    have key : ∀ (c1 : List (List Value)) (zs : List (Option α)) (f1 : List (List Nat)) (k : Nat), relL (RT.hole r) M w (c1 ++ c' :: c2) zs (f1 ++ f :: f2) → c1.length = k → f1.length = k → relL (RT.hole r) M w (c1 ++ c' :: c2) (zs.set k none) (f1 ++ [] :: f2) := by
      intro c1
      induction c1 with
      | nil =>
        intro zs f1 k hl e1 e2
        subst e1
        have : f1 = [] := List.eq_nil_of_length_eq_zero (by simpa using e2)
        subst this
        cases zs with
        | nil => exact hl.elim
        | cons y ys => exact ⟨⟨(RT.hole r).len hl.1, (RT.hole r).one hl.1, rfl⟩, hl.2⟩
      | cons d c1 ih =>
        intro zs f1 k hl e1 e2
        cases f1 with
        | nil => subst e1; simp at e2
        | cons a f1 =>
          cases zs with
          | nil => exact hl.elim
          | cons y ys =>
            subst e1
            exact ⟨hl.1, ih ys f1 c1.length hl.2 rfl (by simpa using e2)⟩
    exact key c1 zs f1 k hl h1 h2
  · rw [List.nodup_append]
    exact ⟨hn1, hn2'.2.1, fun a ha b hb => hn3 a ha b (hperm.mem_iff.2 (List.mem_append.2 (.inr hb)))⟩

end
end Go.G
namespace Go.G
open Go.RowKit
section
variable {α : Type} {N M : Nat → Prop} {w : World} {X A B R : List Nat} {xs ys : List α} {lo hi : Int}
theorem Own.split (h : Own N M w (X ++ R)) (hp : X.Perm (A ++ B)) : Own N M w (A ++ (B ++ R)) := h.perm (by rw [← List.append_assoc]; exact hp.append_right R)
end
end Go.G
