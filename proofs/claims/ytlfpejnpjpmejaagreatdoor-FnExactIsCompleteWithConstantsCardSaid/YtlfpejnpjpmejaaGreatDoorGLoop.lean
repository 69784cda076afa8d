/- Lemmas on the model and on plain lists: a part of the proof. No conditions. -/
import Derived.Test.YtlfpejnpjpmejaaGreatDoorGPure
set_option linter.unusedVariables false
namespace Go.G

def gi {α : Type} [Inhabited α] (l : List α) (i : Int) : α := l.getD i.toNat default
section
variable {S R α β : Type}

theorem zaD {step : Int → S → Option (Ctl S R)} (p : Nat → Option R) (s : S) : ∀ (n j0 : Nat), (∀ j, j0 ≤ j → j < j0 + n → step (j : Int) s = some (match p j with | none => .nx s | some r => .rt r)) →
    forI step n (j0 : Int) s = some (match (List.range' j0 n).findSome? p with | none => .br s | some r => .rt r)
  | 0, j0, _ => rfl
  | n + 1, j0, h => by
    unfold forI;rw [h j0 (Nat.le_refl _) (by omega)];have := zaD p s n (j0 + 1) (fun j h1 h2 => h j (by omega) (by omega));rw [List.range'_succ, List.findSome?_cons];cases hp : p j0 with
    | none => simp only; rw [show (j0 : Int) + 1 = ((j0 + 1 : Nat) : Int) by omega]; exact this
    | some r => rfl
theorem wg {step : Int → S → Option (Ctl S R)} (p : Nat → Option R) {n : Nat} {hi : Int} {s : S} (hn : hi = (n : Int)) (h1 : n ≤ 9223372036854775807)
    (h : ∀ j : Nat, j < n → step (j : Int) s = some (match p j with | none => .nx s | some r => .rt r)) : forC step 0 hi s = some (match (List.range n).findSome? p with | none => .br s | some r => .rt r) := by
  subst hn;have := zaD (step := step) p s n 0 (fun j _ hj => h j (by omega));unfold forC;simp only [show decide (-9223372036854775808 ≤ (0 : Int)) = true by decide, show decide ((n : Int) ≤ 9223372036854775807) = true by simp; omega, Bool.and_true, cond_true, Int.sub_zero, Int.toNat_natCast];rw [List.range_eq_range'];simpa using this

theorem zaA {step : Int → α → S → Option (Ctl S R)} (p : α → Option R) (s : S) : ∀ (i : Int) (l : List α), (∀ i, ∀ x ∈ l, step i x s = some (match p x with | none => .nx s | some r => .rt r)) → forR step i l s = some (match l.findSome? p with | none => .br s | some r => .rt r)
  | i, [], _ => rfl
  | i, x :: xs, h => by
    unfold forR;rw [h i x (by simp), List.findSome?_cons];have := zaA p s (i + 1) xs (fun i y hy => h i y (by simp [hy]));cases hp : p x with
    | none => simp only; exact this
    | some r => rfl

theorem yy {step : S → Option (Ctl S R)} (I : S → Prop) (m : S → Nat) (Q : Ctl S R → Prop) : ∀ (fu : Nat) (s : S), I s → m s < fu →
    (∀ s, I s → (∃ s', step s = some (.nx s') ∧ I s' ∧ m s' < m s) ∨ (∃ c, step s = some c ∧ (∀ s', c ≠ .nx s') ∧ Q c)) → ∃ c, iter step fu s = some c ∧ Q c ∧ ∀ s', c ≠ .nx s'
  | 0, s, _, hm, _ => by omega
  | fu + 1, s, hI, hm, h => by
    unfold iter;rcases h s hI with ⟨s', hs', hI', hm'⟩ | ⟨c, hc, hn, hq⟩
    · rw [hs']; exact yy I m Q fu s' hI' (by omega) h
    · rw [hc];cases c with
      | nx s' => exact absurd rfl (hn s')
      | br s' => exact ⟨_, rfl, hq, by intro s; simp⟩
      | rt r => exact ⟨_, rfl, hq, by intro s; simp⟩

theorem zbJ {step : S → Option (Ctl S R)} {k : Nat} {s s' : S} (h : step s = some (.nx s')) : iter step (k + 1) s = iter step k s' := by
  conv => lhs; unfold iter
  rw [h]
theorem Xo {step : S → Option (Ctl S R)} {k : Nat} {s : S} {o : Option (Ctl S R)} (h : step s = o) (ho : ∀ s', o ≠ some (.nx s')) : iter step (k + 1) s = o := by
  conv => lhs; unfold iter
  rw [h];cases o with
  | none => rfl
  | some c => cases c with
    | nx s' => exact absurd rfl (ho s')
    | br s' => rfl
    | rt r => rfl
theorem Va {step : Int → S → Option (Ctl S R)} (I : Nat → S → Prop) (B : S → Prop) (Q : R → Prop) : ∀ (n j0 : Nat) (s : S), I j0 s →
    (∀ j s, j0 ≤ j → j < j0 + n → I j s → (∃ s', step (j : Int) s = some (.nx s') ∧ I (j + 1) s') ∨ (∃ s', step (j : Int) s = some (.br s') ∧ B s') ∨ (∃ r, step (j : Int) s = some (.rt r) ∧ Q r)) →
    (∃ s', forI step n (j0 : Int) s = some (.br s') ∧ (I (j0 + n) s' ∨ B s')) ∨ (∃ r, forI step n (j0 : Int) s = some (.rt r) ∧ Q r)
  | 0, j0, s, hI, _ => .inl ⟨s, rfl, .inl hI⟩
  | n + 1, j0, s, hI, h => by
    unfold forI;rcases h j0 s (Nat.le_refl _) (by omega) hI with ⟨s', h1, h2⟩ | ⟨s', h1, h2⟩ | ⟨r, h1, h2⟩
    · rw [h1];have := Va I B Q n (j0 + 1) s' h2 (fun j s a b c => h j s (by omega) (by omega) c);rw [show j0 + (n + 1) = j0 + 1 + n by omega];simpa using this
    · rw [h1]; exact .inl ⟨s', rfl, .inr h2⟩
    · rw [h1]; exact .inr ⟨r, rfl, h2⟩
theorem xX {step : Int → S → Option (Ctl S R)} (I : Nat → S → Prop) (B : S → Prop) (Q : R → Prop) {n : Nat} {hi : Int} {s : S} (hn : hi = (n : Int)) (h1 : n ≤ 9223372036854775807) (hs : I 0 s)
    (h : ∀ j s, j < n → I j s → (∃ s', step (j : Int) s = some (.nx s') ∧ I (j + 1) s') ∨ (∃ s', step (j : Int) s = some (.br s') ∧ B s') ∨ (∃ r, step (j : Int) s = some (.rt r) ∧ Q r)) :
    (∃ s', forC step 0 hi s = some (.br s') ∧ (I n s' ∨ B s')) ∨ (∃ r, forC step 0 hi s = some (.rt r) ∧ Q r) := by
  subst hn;have := Va (step := step) I B Q n 0 s hs (fun j s _ b c => h j s (by omega) c);unfold forC;simp only [show decide (-9223372036854775808 ≤ (0 : Int)) = true by decide, show decide ((n : Int) ≤ 9223372036854775807) = true by simp; omega, Bool.and_true, cond_true, Int.sub_zero, Int.toNat_natCast];simpa using this
theorem UK {step : Int → α → S → Option (Ctl S R)} (I : List α → S → Prop) (B : S → Prop) (Q : R → Prop) : ∀ (l pre : List α) (i : Int) (s : S), I pre s →
    (∀ i pre' x post s, l = pre' ++ x :: post → I (pre ++ pre') s → (∃ s', step i x s = some (.nx s') ∧ I (pre ++ (pre' ++ [x])) s') ∨ (∃ s', step i x s = some (.br s') ∧ B s') ∨ (∃ r, step i x s = some (.rt r) ∧ Q r)) →
    (∃ s', forR step i l s = some (.br s') ∧ (I (pre ++ l) s' ∨ B s')) ∨ (∃ r, forR step i l s = some (.rt r) ∧ Q r)
  | [], pre, i, s, hI, _ => .inl ⟨s, rfl, .inl (by simpa using hI)⟩
  | x :: l, pre, i, s, hI, h => by
    unfold forR;rcases h i [] x l s rfl (by simpa using hI) with ⟨s', h1, h2⟩ | ⟨s', h1, h2⟩ | ⟨r, h1, h2⟩
    · rw [h1];have := UK I B Q l (pre ++ [x]) (i + 1) s' (by simpa using h2) (fun i p y post s e hh => by
        have := h i (x :: p) y post s (by rw [e]; rfl) (by simpa using hh);simpa using this)
      simpa using this
    · rw [h1]; exact .inl ⟨s', rfl, .inr h2⟩
    · rw [h1]; exact .inr ⟨r, rfl, h2⟩
end
end Go.G
