/- Lemmas on the model and on plain lists: a part of the proof. No conditions. -/
import Derived.Test.YtlfpejnpjpmejaaGreatDoorGStr
set_option linter.unusedVariables false
namespace Go.G
open Go.RowKit

def slc {α : Type} (l : List α) (lo hi : Int) : Option (List α) := if 0 ≤ lo ∧ lo ≤ hi ∧ hi ≤ (l.length : Int) then some ((l.drop lo.toNat).take (hi - lo).toNat) else none
theorem relL.part {α : Type} {r : RT α} {M : Nat → Prop} {w : World} : ∀ {css : List (List Value)} {xs : List α} (k : Nat), relL r M w css xs (List.replicate xs.length []) → relL r M w (css.drop k) (xs.drop k) (List.replicate (xs.drop k).length []) ∧ (css.take k).flatten.length = (min k xs.length) * r.sz
  | [], [], k, _ => by simp; trivial
  | [], _ :: _, _, h => by simp [List.replicate_succ] at h; exact h.elim
  | _ :: _, [], _, h => by simp at h; exact h.elim
  | c :: css, x :: xs, 0, h => ⟨by simpa using h, by simp⟩
  | c :: css, x :: xs, k + 1, h => by
    have h' : r.rel M w c x [] ∧ relL r M w css xs (List.replicate xs.length []) := by simpa [List.replicate_succ, relL] using h
    obtain ⟨a, b⟩ := relL.part k h'.2;refine ⟨by simpa using a, ?_⟩;have := r.len h'.1;simp only [List.take_succ_cons, List.flatten_cons, List.length_append, b, this, List.length_cons];rw [Nat.add_min_add_right, Nat.add_mul, Nat.one_mul]; omega
theorem relL.takeN {α : Type} {r : RT α} {M : Nat → Prop} {w : World} : ∀ {css : List (List Value)} {xs : List α} (k : Nat), relL r M w css xs (List.replicate xs.length []) → relL r M w (css.take k) (xs.take k) (List.replicate (xs.take k).length [])
  | [], [], k, _ => by simp; trivial
  | [], _ :: _, _, h => by simp [List.replicate_succ] at h; exact h.elim
  | _ :: _, [], _, h => by simp at h; exact h.elim
  | c :: css, x :: xs, 0, h => by simp; trivial
  | c :: css, x :: xs, k + 1, h => by
    have h' : r.rel M w c x [] ∧ relL r M w css xs (List.replicate xs.length []) := by simpa [List.replicate_succ, relL] using h
    have := relL.takeN k h'.2;rw [List.length_take] at this;simpa [List.replicate_succ, relL] using ⟨h'.1, this⟩
section
variable {P : Program} {α : Type} {r : RT α} {M : Nat → Prop} {w : World} {a : Option Addr} {n c : Nat} {xs ys : List α} {fp : List Nat} {t e : TypeId} {lo hi : Int}
theorem Ub (ht : P.underlying t = some (.slice e)) (hs : SzT P e r.sz) (h : (RT.rs r).val M w (.slice a n c) xs fp) (hy : slc xs lo hi = some ys) :
    ∃ a' n' c', (RT.rs r).val M w (.slice a' n' c') ys [] ∧ (∀ w, (Instr.sliceAt t (.slice a n c) (some (.int .i64 lo)) (some (.int .i64 hi)) none).run P w = .ok (.slice a' n' c') w) ∧
      (lo = 0 → ∀ w, (Instr.sliceAt t (.slice a n c) none (some (.int .i64 hi)) none).run P w = .ok (.slice a' n' c') w) ∧ (hi = (xs.length : Int) → ∀ w, (Instr.sliceAt t (.slice a n c) (some (.int .i64 lo)) none none).run P w = .ok (.slice a' n' c') w) := by
  unfold slc at hy;split at hy
  case isFalse => cases hy
  rename_i hb;obtain ⟨h0, h1, h2⟩ := hb;obtain ⟨l, rfl⟩ : ∃ l : Nat, lo = (l : Int) := ⟨lo.toNat, by omega⟩;obtain ⟨u, rfl⟩ : ∃ u : Nat, hi = (u : Int) := ⟨hi.toNat, by omega⟩;have hul : u ≤ xs.length := by omega
  obtain rfl := Option.some.inj hy;obtain ⟨a0, cap, css, hv, rfl, ⟨hc1, hc2⟩, hl, hr⟩ := Wg h;have hv' : a = a0 ∧ n = xs.length ∧ c = cap := by simpa using hv
  obtain ⟨rfl, rfl, rfl⟩ := hv';obtain ⟨i, hi, hisz⟩ := hs;have run1 : ∀ w, (Instr.sliceAt t (.slice a xs.length c) (some (.int .i64 (l : Int))) (some (.int .i64 (u : Int))) none).run P w = .ok (.slice (if c = l then a else a.map (·.add (l * r.sz))) (u - l) (c - l)) w := fun w => by
    simp only [Instr.sliceAt, Sem.run_bind, run_underlying ht, Result.andThen_ok, Instr.slice, Instr.sliceBounds, Instr.sliceBound, asIntOf, Sem.run_pure];simp [sizeOf, typeInfo, hi, hisz, show u ≤ c by omega, show l ≤ u by omega, Result.andThen]
  have run2 : (l : Int) = 0 → ∀ w, (Instr.sliceAt t (.slice a xs.length c) none (some (.int .i64 (u : Int))) none).run P w = .ok (.slice (if c = l then a else a.map (·.add (l * r.sz))) (u - l) (c - l)) w := fun e w => by
    obtain rfl : l = 0 := by omega
    simp only [Instr.sliceAt, Sem.run_bind, run_underlying ht, Result.andThen_ok, Instr.slice, Instr.sliceBounds, Instr.sliceBound, asIntOf, Sem.run_pure];simp [sizeOf, typeInfo, hi, hisz, show u ≤ c by omega, Result.andThen]
  have run3 : (u : Int) = (xs.length : Int) → ∀ w, (Instr.sliceAt t (.slice a xs.length c) (some (.int .i64 (l : Int))) none none).run P w = .ok (.slice (if c = l then a else a.map (·.add (l * r.sz))) (u - l) (c - l)) w := fun e w => by
    obtain rfl : u = xs.length := by omega
    simp only [Instr.sliceAt, Sem.run_bind, run_underlying ht, Result.andThen_ok, Instr.slice, Instr.sliceBounds, Instr.sliceBound, asIntOf, Sem.run_pure];simp [sizeOf, typeInfo, hi, hisz, show l ≤ xs.length by omega, Result.andThen]
  refine ⟨_, _, _, ?_, run1, run2, run3⟩;have hlen : ((xs.drop l).take (u - l)).length = u - l := by simp; omega
  obtain ⟨hd, hfl⟩ := hl.part l;have htk := hd.takeN (u - l);rw [show ((u : Int) - (l : Int)).toNat = u - l by omega, Int.toNat_natCast];refine ⟨_, rfl, _, c - l, _, by rw [hlen], rfl, by rw [hlen]; omega, htk, fun hpos => ?_⟩;rw [hlen] at hpos;obtain ⟨g, off, rfl, hg, hlt, hrow⟩ := hr (by omega);have hcl : ¬ c = l := fun e => by
    have h9 : l < u := Nat.lt_of_sub_pos hpos;rw [e] at hc1;exact absurd h9 (Nat.not_lt.2 (Nat.le_trans hul hc1))
  refine ⟨g, off + l * r.sz, by rw [if_neg hcl]; simp [Addr.add_lit], hg, hlt, ?_⟩;have e1 : css.flatten = (css.take l).flatten ++ ((css.drop l).take (u - l)).flatten ++ ((css.drop l).drop (u - l)).flatten := by
    rw [List.append_assoc, ← List.flatten_append, List.take_append_drop, ← List.flatten_append, List.take_append_drop]
  rw [e1] at hrow;have h3 := hrow.app_left.app_right;rw [hfl, show min l xs.length = l by omega] at h3;exact h3
theorem uV {ρ : Operand → Value} {d : Option Tmp} {ty : TypeId} {pos : String} {af : Array Edge} {g : Option (Nat × Bool)} {x : Operand} {lo hi : Option Operand} {v u : Value} {l h : Option Value} (hx : ρ x = v) (hl : lo.map ρ = l) (hh : hi.map ρ = h) (hr : (Instr.sliceAt t v l h none).run P w = .ok u w) :
    Yv P ρ ⟨d, .slice t x lo hi none, ty, pos, af, g⟩ w u w := by
  unfold Yv; simp [execOp, hx, hl, hh, hr]
end
end Go.G
