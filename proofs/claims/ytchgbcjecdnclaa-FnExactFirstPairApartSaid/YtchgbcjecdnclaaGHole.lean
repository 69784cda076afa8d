/- Lemmas on the model and on plain lists: a part of the proof. No conditions. -/
import Derived.Test.YtchgbcjecdnclaaGNil
set_option linter.unusedVariables false
namespace Go.G
open Go.RowKit

def RT.hole {α : Type} (r : RT α) : RT (Option α) where
  sz := r.sz
  agg := r.agg
  rel := fun M w cs x fp => match x with | some x => r.rel M w cs x fp | none => cs.length = r.sz ∧ (∀ c ∈ cs, c.oneCell' = true) ∧ fp = []
  len := by
    intro M w cs x fp h
    cases x with
    | none => exact h.1
    | some x => exact r.len h
  one := by
    intro M w cs x fp h
    cases x with
    | none => exact h.2.1
    | some x => exact r.one h
  fpl := by
    intro M w cs x fp h
    cases x with
    | none => obtain ⟨_, _, rfl⟩ := h; intro g hg; cases hg
    | some x => exact r.fpl h
  mono := by
    intro M M' w w' cs x fp G h a b c d
    cases x with
    | none => exact h
    | some x => exact r.mono h a b c d
section
variable {P : Program} {α : Type} {r r' : RT α} {M M' : Nat → Prop} {w w' : World} {v u : Value} {xs ys : List α} {x : α} {fp f R : List Nat} {p : Addr} {t e : TypeId} {g : Nat} {i lo hi j : Int}
theorem relL.hole : ∀ {css : List (List Value)} {xs : List α} {fps : List (List Nat)}, relL r M w css xs fps → relL (RT.hole r) M w css (xs.map some) fps
  | [], [], [], _ => trivial
  | [], [], _ :: _, h => h.elim
  | [], _ :: _, _, h => h.elim
  | _ :: _, [], _, h => h.elim
  | _ :: _, _ :: _, [], h => h.elim
  | _ :: _, _ :: _, _ :: _, h => ⟨h.1, relL.hole h.2⟩
theorem os_hole (h : (RT.os e r).val M w v xs fp) : (RT.os e (RT.hole r)).val M w v (xs.map some) fp := by
  obtain ⟨css, fps, hown, hl, rfl, hnd⟩ := os_form h
  exact ⟨_, rfl, v, css, fps, rfl, by rw [List.length_map]; exact hown, hl.hole, rfl, hnd⟩
/-- An element is taken out. -/
theorem oh_take {zs : List (Option α)} {c : List Value} (hgb : v.ownBlock = some g) (h : (RT.os e (RT.hole r)).val M w v zs fp) (hx : idx zs i = some (some x)) (hrow : RowAt w g (0 + i.toNat * r.sz) c) (hlen : c.length = r.sz) :
    ∃ f fp', r.rel M w c x f ∧ f.Nodup ∧ fp.Perm (f ++ fp') ∧ (RT.os e (RT.hole r)).val M w v (zs.set i.toNat none) fp' := by
  obtain ⟨k, rfl, hk⟩ := idx_some hx
  obtain ⟨css, fps, hown, hl, rfl, hnd⟩ := os_form h
  obtain ⟨c1, c', c2, f1, f, f2, rfl, rfl, h1, h2, h3, h4⟩ := hl.at hk
  have hrow' : RowAt w g 0 (c1 ++ c' :: c2).flatten := fun q u hq => by
    have := hown.cells (g := g) hgb q u hq
    rwa [Addr.add_lit] at this
  have hcc : c' = c := by
    have a := hrow'
    rw [List.flatten_append, List.flatten_cons] at a
    have b := a.app_right.app_left
    rw [h3] at b
    exact b.uniq hrow ((RT.len _ h4).trans hlen.symm)
  subst hcc
  rw [List.nodup_append] at hnd
  obtain ⟨hn1, hn2, hn3⟩ := hnd
  have hperm : (f1 ++ f :: f2).flatten.Perm (f ++ (f1 ++ [] :: f2).flatten) := by
    simp only [List.flatten_append, List.flatten_cons, List.nil_append]
    rw [← List.append_assoc, ← List.append_assoc]
    exact List.perm_append_comm.append_right _
  have hn2' := hperm.nodup_iff.1 hn2
  rw [List.nodup_append] at hn2'
  refine ⟨f, v.ownBlock.toList ++ (f1 ++ [] :: f2).flatten, h4, hn2'.1, ?_, _, rfl, v, c1 ++ c' :: c2, f1 ++ [] :: f2, rfl, by rw [List.length_set]; exact hown, ?_, rfl, ?_⟩
  · exact (hperm.append_left _).trans (by rw [← List.append_assoc, ← List.append_assoc]; exact List.perm_append_comm.append_right _)
  · rw [Int.toNat_natCast]
    have key : ∀ (c1 : List (List Value)) (zs : List (Option α)) (f1 : List (List Nat)) (k : Nat), relL (RT.hole r) M w (c1 ++ c' :: c2) zs (f1 ++ f :: f2) → c1.length = k → f1.length = k → relL (RT.hole r) M w (c1 ++ c' :: c2) (zs.set k none) (f1 ++ [] :: f2) := by
      intro c1
      induction c1 with
      | nil =>
        intro zs f1 k hl e1 e2
        subst e1
        have : f1 = [] := List.eq_nil_of_length_eq_zero (by simpa using e2)
        subst this
        cases zs with
        | nil => exact hl.elim
        | cons y ys => exact ⟨⟨(RT.hole r).len hl.1, (RT.hole r).one hl.1, rfl⟩, hl.2⟩
      | cons d c1 ih =>
        intro zs f1 k hl e1 e2
        cases f1 with
        | nil => subst e1; simp at e2
        | cons a f1 =>
          cases zs with
          | nil => exact hl.elim
          | cons y ys =>
            subst e1
            exact ⟨hl.1, ih ys f1 c1.length hl.2 rfl (by simpa using e2)⟩
    exact key c1 zs f1 k hl h1 h2
  · rw [List.nodup_append]
    exact ⟨hn1, hn2'.2.1, fun a ha b hb => hn3 a ha b (hperm.mem_iff.2 (List.mem_append.2 (.inr hb)))⟩

theorem slc_idx (hy : slc xs lo hi = some ys) (h : idx ys j = some x) : idx xs (lo + j) = some x := by
  unfold slc at hy
  split at hy
  case isFalse => cases hy
  rename_i hb
  obtain rfl := Option.some.inj hy
  obtain ⟨k, rfl, hk⟩ := idx_some h
  rw [List.getElem?_take] at hk
  split at hk
  case isFalse => cases hk
  rw [List.getElem?_drop] at hk
  unfold idx
  rw [if_pos (by omega), show (lo + (k : Int)).toNat = lo.toNat + k by omega]
  exact hk
theorem os_part {a : Option Addr} {n c : Nat} (ht : P.underlying t = some (.slice e)) (hs : SzT P e r.sz) (h : (RT.os e r).val M w (.slice a n c) xs fp) (hy : slc xs lo hi = some ys) :
    ∃ a' n' c', n' = ys.length ∧ (∀ j x, idx ys j = some x → ∃ q, (Value.slice a n c).ownBlock = some q ∧ IdxTo P t (.slice a' n' c') j ⟨q, 0 + (lo + j).toNat * r.sz, none⟩) ∧ (∀ w, (Instr.sliceAt t (.slice a n c) (some (.int .i64 lo)) (some (.int .i64 hi)) none).run P w = .ok (.slice a' n' c') w) ∧
      (lo = 0 → ∀ w, (Instr.sliceAt t (.slice a n c) none (some (.int .i64 hi)) none).run P w = .ok (.slice a' n' c') w) ∧ (hi = (xs.length : Int) → ∀ w, (Instr.sliceAt t (.slice a n c) (some (.int .i64 lo)) none none).run P w = .ok (.slice a' n' c') w) := by
  unfold slc at hy
  split at hy
  case isFalse => cases hy
  rename_i hb
  obtain ⟨h0, h1, h2⟩ := hb
  obtain ⟨l, rfl⟩ : ∃ l : Nat, lo = (l : Int) := ⟨lo.toNat, by omega⟩
  obtain ⟨u, rfl⟩ : ∃ u : Nat, hi = (u : Int) := ⟨hi.toNat, by omega⟩
  have hul : u ≤ xs.length := by omega
  obtain rfl := Option.some.inj hy
  obtain ⟨css, fps, hown, hl, _, _⟩ := os_form h
  have hn : n = xs.length := os_n h
  subst hn
  have hnc : xs.length ≤ c := by
    rcases hown.2 with ⟨hv, hz⟩ | ⟨g, cap, cur, hv, _, _, hnc, _⟩
    · rw [hz]; exact Nat.zero_le _
    · have : c = cap := by simp only [Value.slice.injEq] at hv; exact hv.2.2
      rw [this]; exact hnc
  obtain ⟨i, hi, hisz⟩ := hs
  have run1 : ∀ w, (Instr.sliceAt t (.slice a xs.length c) (some (.int .i64 (l : Int))) (some (.int .i64 (u : Int))) none).run P w = .ok (.slice (if c = l then a else a.map (·.add (l * r.sz))) (u - l) (c - l)) w := fun w => by
    simp only [Instr.sliceAt, Sem.run_bind, run_underlying ht, Result.andThen_ok, Instr.slice, Instr.sliceBounds, Instr.sliceBound, asIntOf, Sem.run_pure]
    simp [sizeOf, typeInfo, hi, hisz, show u ≤ c by omega, show l ≤ u by omega, Result.andThen]
  have run2 : (l : Int) = 0 → ∀ w, (Instr.sliceAt t (.slice a xs.length c) none (some (.int .i64 (u : Int))) none).run P w = .ok (.slice (if c = l then a else a.map (·.add (l * r.sz))) (u - l) (c - l)) w := fun e w => by
    obtain rfl : l = 0 := by omega
    simp only [Instr.sliceAt, Sem.run_bind, run_underlying ht, Result.andThen_ok, Instr.slice, Instr.sliceBounds, Instr.sliceBound, asIntOf, Sem.run_pure]
    simp [sizeOf, typeInfo, hi, hisz, show u ≤ c by omega, Result.andThen]
  have run3 : (u : Int) = (xs.length : Int) → ∀ w, (Instr.sliceAt t (.slice a xs.length c) (some (.int .i64 (l : Int))) none none).run P w = .ok (.slice (if c = l then a else a.map (·.add (l * r.sz))) (u - l) (c - l)) w := fun e w => by
    obtain rfl : u = xs.length := by omega
    simp only [Instr.sliceAt, Sem.run_bind, run_underlying ht, Result.andThen_ok, Instr.slice, Instr.sliceBounds, Instr.sliceBound, asIntOf, Sem.run_pure]
    simp [sizeOf, typeInfo, hi, hisz, show l ≤ xs.length by omega, Result.andThen]
  have hlen : ((xs.drop l).take (u - l)).length = u - l := by simp; omega
  refine ⟨_, _, _, ?_, fun j x hj => ?_, run1, run2, run3⟩
  · rw [show ((u : Int) - (l : Int)).toNat = u - l by omega, Int.toNat_natCast, hlen]
  · obtain ⟨k, rfl, hk⟩ := idx_some hj
    have hkl : k < u - l := by
      have := (List.getElem?_eq_some_iff.1 hk).1
      rw [show ((u : Int) - (l : Int)).toNat = u - l by omega, Int.toNat_natCast, hlen] at this
      exact this
    have hcl : ¬ c = l := fun e => by omega
    rcases hown.2 with ⟨hv, hz⟩ | ⟨g, cap, cur, hv, _⟩
    · omega
    · have ha : a = some ⟨g, 0, none⟩ := by simp only [Value.slice.injEq] at hv; exact hv.1
      subst ha
      refine ⟨g, rfl, fun w ρ d ty pos af gg X Y hX hY => ?_⟩
      have hX' : ρ X = .slice (some ⟨g, 0 + l * r.sz, none⟩) (u - l) (c - l) := by rw [hX, if_neg hcl]; simp [Addr.add_lit]
      have := y_indexAddr (d := d) (ty := ty) (pos := pos) (af := af) (g := gg) (w := w) ht hi hX' hY hkl
      rw [show 0 + ((l : Int) + (k : Int)).toNat * r.sz = 0 + l * r.sz + k * i.size by rw [hisz, show ((l : Int) + (k : Int)).toNat = l + k by omega, Nat.add_mul]; omega]
      exact this
end
end Go.G
namespace Go.G
open Go.RowKit
section
variable {α : Type} {N M : Nat → Prop} {w : World} {X A B R : List Nat} {xs ys : List α} {lo hi : Int}
theorem Own.split (h : Own N M w (X ++ R)) (hp : X.Perm (A ++ B)) : Own N M w (A ++ (B ++ R)) := h.perm (by rw [← List.append_assoc]; exact hp.append_right R)
theorem slc_max (hy : slc xs lo hi = some ys) (h : (xs.length : Int) ≤ 9223372036854775807) : (ys.length : Int) ≤ 9223372036854775807 := by
  unfold slc at hy
  split at hy
  case isFalse => cases hy
  obtain rfl := Option.some.inj hy
  rw [List.length_take, List.length_drop]
  omega
end
end Go.G
