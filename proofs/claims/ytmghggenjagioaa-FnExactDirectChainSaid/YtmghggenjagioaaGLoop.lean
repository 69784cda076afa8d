/- Lemmas on the model and on plain lists: a part of the proof. No conditions. -/
import Derived.Test.YtmghggenjagioaaGPure
set_option linter.unusedVariables false
namespace Go.G

section
variable {S R α β : Type}

theorem forI_find {step : Int → S → Option (Ctl S R)} (p : Nat → Option R) (s : S) : ∀ (n j0 : Nat), (∀ j, j0 ≤ j → j < j0 + n → step (j : Int) s = some (match p j with | none => .nx s | some r => .rt r)) →
    forI step n (j0 : Int) s = some (match (List.range' j0 n).findSome? p with | none => .br s | some r => .rt r)
  | 0, j0, _ => rfl
  | n + 1, j0, h => by
    unfold forI
    rw [h j0 (Nat.le_refl _) (by omega)]
    have := forI_find p s n (j0 + 1) (fun j h1 h2 => h j (by omega) (by omega))
    rw [List.range'_succ, List.findSome?_cons]
    cases hp : p j0 with
    | none => simp only; rw [show (j0 : Int) + 1 = ((j0 + 1 : Nat) : Int) by omega]; exact this
    | some r => rfl
/-- A counting loop that looks for something. -/
theorem forC0_find {step : Int → S → Option (Ctl S R)} (p : Nat → Option R) {n : Nat} {hi : Int} {s : S} (hn : hi = (n : Int)) (h1 : n ≤ 9223372036854775807)
    (h : ∀ j : Nat, j < n → step (j : Int) s = some (match p j with | none => .nx s | some r => .rt r)) : forC step 0 hi s = some (match (List.range n).findSome? p with | none => .br s | some r => .rt r) := by
  subst hn
  have := forI_find (step := step) p s n 0 (fun j _ hj => h j (by omega))
  unfold forC
  simp only [show decide (-9223372036854775808 ≤ (0 : Int)) = true by decide, show decide ((n : Int) ≤ 9223372036854775807) = true by simp; omega, Bool.and_true, cond_true, Int.sub_zero, Int.toNat_natCast]
  rw [List.range_eq_range']
  simpa using this

theorem iter_nx {step : S → Option (Ctl S R)} {k : Nat} {s s' : S} (h : step s = some (.nx s')) : iter step (k + 1) s = iter step k s' := by
  conv => lhs; unfold iter
  rw [h]
theorem iter_out {step : S → Option (Ctl S R)} {k : Nat} {s : S} {o : Option (Ctl S R)} (h : step s = o) (ho : ∀ s', o ≠ some (.nx s')) : iter step (k + 1) s = o := by
  conv => lhs; unfold iter
  rw [h]
  cases o with
  | none => rfl
  | some c => cases c with
    | nx s' => exact absurd rfl (ho s')
    | br s' => rfl
    | rt r => rfl
theorem forI_hoare {step : Int → S → Option (Ctl S R)} (I : Nat → S → Prop) (B : S → Prop) (Q : R → Prop) : ∀ (n j0 : Nat) (s : S), I j0 s →
    (∀ j s, j0 ≤ j → j < j0 + n → I j s → (∃ s', step (j : Int) s = some (.nx s') ∧ I (j + 1) s') ∨ (∃ s', step (j : Int) s = some (.br s') ∧ B s') ∨ (∃ r, step (j : Int) s = some (.rt r) ∧ Q r)) →
    (∃ s', forI step n (j0 : Int) s = some (.br s') ∧ (I (j0 + n) s' ∨ B s')) ∨ (∃ r, forI step n (j0 : Int) s = some (.rt r) ∧ Q r)
  | 0, j0, s, hI, _ => .inl ⟨s, rfl, .inl hI⟩
  | n + 1, j0, s, hI, h => by
    unfold forI
    rcases h j0 s (Nat.le_refl _) (by omega) hI with ⟨s', h1, h2⟩ | ⟨s', h1, h2⟩ | ⟨r, h1, h2⟩
    · rw [h1]
      have := forI_hoare I B Q n (j0 + 1) s' h2 (fun j s a b c => h j s (by omega) (by omega) c)
      rw [show j0 + (n + 1) = j0 + 1 + n by omega]
      simpa using this
    · rw [h1]; exact .inl ⟨s', rfl, .inr h2⟩
    · rw [h1]; exact .inr ⟨r, rfl, h2⟩
theorem forC0_hoare {step : Int → S → Option (Ctl S R)} (I : Nat → S → Prop) (B : S → Prop) (Q : R → Prop) {n : Nat} {hi : Int} {s : S} (hn : hi = (n : Int)) (h1 : n ≤ 9223372036854775807) (hs : I 0 s)
    (h : ∀ j s, j < n → I j s → (∃ s', step (j : Int) s = some (.nx s') ∧ I (j + 1) s') ∨ (∃ s', step (j : Int) s = some (.br s') ∧ B s') ∨ (∃ r, step (j : Int) s = some (.rt r) ∧ Q r)) :
    (∃ s', forC step 0 hi s = some (.br s') ∧ (I n s' ∨ B s')) ∨ (∃ r, forC step 0 hi s = some (.rt r) ∧ Q r) := by
  subst hn
  have := forI_hoare (step := step) I B Q n 0 s hs (fun j s _ b c => h j s (by omega) c)
  unfold forC
  simp only [show decide (-9223372036854775808 ≤ (0 : Int)) = true by decide, show decide ((n : Int) ≤ 9223372036854775807) = true by simp; omega, Bool.and_true, cond_true, Int.sub_zero, Int.toNat_natCast]
  simpa using this
end
end Go.G
