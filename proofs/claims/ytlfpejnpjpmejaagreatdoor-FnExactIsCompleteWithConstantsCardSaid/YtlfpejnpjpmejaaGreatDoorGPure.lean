/- Lemmas on the model and on plain lists: a part of the proof. No conditions. -/
import Derived.Test.YtlfpejnpjpmejaaGreatDoorGCtl
set_option linter.unusedVariables false
namespace Go.G

theorem forI_fn {S R : Type} {step : Int → S → Option (Ctl S R)} (F : Nat → S) (lo : Int) : ∀ (n j0 : Nat), (∀ j, j0 ≤ j → j < j0 + n → step (lo + j) (F j) = some (.nx (F (j + 1)))) → forI step n (lo + j0) (F j0) = some (.br (F (j0 + n)))
  | 0, j0, _ => rfl
  | n + 1, j0, h => by
    unfold forI;rw [h j0 (Nat.le_refl _) (by omega)];have := forI_fn F lo n (j0 + 1) (fun j h1 h2 => h j (by omega) (by omega));simp only;rw [show lo + (j0 : Int) + 1 = lo + ((j0 + 1 : Nat) : Int) by omega, this, show j0 + 1 + n = j0 + (n + 1) by omega]

theorem forC_fn {S R : Type} {step : Int → S → Option (Ctl S R)} (F : Nat → S) {lo hi : Int} {s : S} (h0 : -9223372036854775808 ≤ lo) (h1 : hi ≤ 9223372036854775807) (hs : s = F 0)
    (h : ∀ j : Nat, (j : Int) < hi - lo → step (lo + j) (F j) = some (.nx (F (j + 1)))) : forC step lo hi s = some (.br (F (hi - lo).toNat)) := by
  unfold forC;simp only [h0, h1, decide_true, Bool.and_true, cond_true];subst hs;have := forI_fn F lo (hi - lo).toNat 0 (fun j _ h2 => h j (by omega));simpa using this

theorem Xd {S R : Type} {step : Int → S → Option (Ctl S R)} (F : Nat → S) {n : Nat} {hi : Int} {s : S} (hn : hi = (n : Int)) (h1 : n ≤ 9223372036854775807) (hs : s = F 0)
    (h : ∀ j : Nat, j < n → step (j : Int) (F j) = some (.nx (F (j + 1)))) : forC step 0 hi s = some (.br (F n)) := by
  subst hn;have := forC_fn (step := step) F (lo := 0) (hi := (n : Int)) (s := s) (by omega) (by omega) hs (fun j hj => by rw [Int.zero_add]; exact h j (by omega));simpa using this

theorem zbO {S R : Type} {step : Int → S → Option (Ctl S R)} (p : Nat → Bool) (r : R) (s : S) (lo : Int) : ∀ (n j0 : Nat), (∀ j, j0 ≤ j → j < j0 + n → step (lo + j) s = some (bif p j then .nx s else .rt r)) →
    forI step n (lo + j0) s = some (bif (List.range' j0 n).all p then .br s else .rt r)
  | 0, j0, _ => rfl
  | n + 1, j0, h => by
    unfold forI;rw [h j0 (Nat.le_refl _) (by omega)];have := zbO p r s lo n (j0 + 1) (fun j h1 h2 => h j (by omega) (by omega));rw [List.range'_succ, List.all_cons];cases hp : p j0 with
    | true =>
      simp only [cond_true, Bool.true_and];rw [show lo + (j0 : Int) + 1 = lo + ((j0 + 1 : Nat) : Int) by omega, this]
    | false => rfl
theorem Yq {S R : Type} {step : Int → S → Option (Ctl S R)} (p : Nat → Bool) (r : R) {n : Nat} {hi : Int} {s : S} (hn : hi = (n : Int)) (h1 : n ≤ 9223372036854775807)
    (h : ∀ j : Nat, j < n → step (j : Int) s = some (bif p j then .nx s else .rt r)) : forC step 0 hi s = some (bif (List.range n).all p then .br s else .rt r) := by
  unfold forC;subst hn;have := zbO (step := step) p r s 0 n 0 (fun j _ hj => by rw [Int.zero_add]; exact h j (by omega));simp [List.range_eq_range'] at this ⊢;have h2 : (n : Int) ≤ 9223372036854775807 := by omega
  simp [h2, this]

theorem Vg {α S R : Type} {step : Int → α → S → Option (Ctl S R)} (p : α → Bool) (r : R) (s : S) : ∀ (i : Int) (l : List α), (∀ i, ∀ x ∈ l, step i x s = some (bif p x then .nx s else .rt r)) → forR step i l s = some (bif l.all p then .br s else .rt r)
  | i, [], _ => rfl
  | i, x :: xs, h => by
    unfold forR;rw [h i x (by simp)];have := Vg p r s (i + 1) xs (fun i y hy => h i y (by simp [hy]));rw [List.all_cons];cases hp : p x with
    | true => simp only [cond_true, Bool.true_and]; exact this
    | false => rfl
theorem zbN {S R : Type} {step : S → Option (Ctl S R)} (F : Nat → S) {o : Option (Ctl S R)} (ho : ∀ s, o ≠ some (.nx s)) : ∀ (n j0 fu : Nat), n < fu → (∀ j, j0 ≤ j → j < j0 + n → step (F j) = some (.nx (F (j + 1)))) → step (F (j0 + n)) = o → iter step fu (F j0) = o
  | 0, j0, fu, hfu, _, he => by
    obtain ⟨fu, rfl⟩ : ∃ k, fu = k + 1 := ⟨fu - 1, by omega⟩;unfold iter;rw [Nat.add_zero] at he;rw [he];cases o with
    | none => rfl
    | some c => cases c with
      | nx s => exact absurd rfl (ho s)
      | br s => rfl
      | rt r => rfl
  | n + 1, j0, fu, hfu, h, he => by
    obtain ⟨fu, rfl⟩ : ∃ k, fu = k + 1 := ⟨fu - 1, by omega⟩;unfold iter;rw [h j0 (Nat.le_refl _) (by omega)];exact zbN F ho n (j0 + 1) fu (by omega) (fun j h1 h2 => h j (by omega) (by omega)) (by rw [show j0 + 1 + n = j0 + (n + 1) by omega]; exact he)
theorem Ud {S R : Type} {step : S → Option (Ctl S R)} (F : Nat → S) {s t : S} (n : Nat) (hn : n < 4611686018427387904) (hs : s = F 0) (h : ∀ j, j < n → step (F j) = some (.nx (F (j + 1)))) (he : step (F n) = some (.br t)) : iter step FU s = some (.br t) := by
  subst hs;exact zbN F (by intro s; simp) n 0 FU hn (fun j _ hj => h j (by omega)) (by simpa using he)
@[simp] theorem zY {S R β : Type} (s : S) (kr : R → Option β) (kb : S → Option β) : after (.br s) kr kb = kb s := rfl
@[simp] theorem after_rt' {S R β : Type} (s : R) (kr : R → Option β) (kb : S → Option β) : after (.rt s) kr kb = kr s := rfl

@[simp] theorem yv {α : Type} (xs : List α) (k : Nat) : idx xs (k : Int) = xs[k]? := by
  unfold idx; simp
theorem nz_ok {b : Int} (h : b ≠ 0) : nz b = some () := if_neg h
theorem yC {α : Type} {xs ys : List α} (h : xs.length + ys.length ≤ 4294967296) : app xs ys = some (xs ++ ys) := if_pos h
theorem we {α : Type} {n : Int} {k : Nat} {z : α} (hn : n = (k : Int)) (h : k ≤ 4294967296) : mks n z = some (List.replicate k z) := by
  subst hn; unfold mks; rw [if_pos ⟨by omega, by omega⟩]; simp

theorem XZ {α R : Type} {step : Int → List α → Option (Ctl (List α) R)} (v : Nat → α) {n : Nat} {hi : Int} (hn : hi = (n : Int)) (h1 : n ≤ 4294967296)
    (h : ∀ (j : Nat) (s : List α), j < n → s.length = j → step (j : Int) s = (app s [v j]).bind fun y => some (.nx y)) : forC step 0 hi [] = some (.br ((List.range n).map v)) := by
  refine Xd (fun j => (List.range j).map v) hn (by omega) rfl (fun j hj => ?_);rw [h j _ hj (by simp), yC (by simp; omega), List.range_succ, List.map_append]; rfl

theorem ue {α R : Type} {step : Int → List α → Option (Ctl (List α) R)} (v : Nat → α) {z : α} {n : Nat} {hi : Int} {s : List α} (hn : hi = (n : Int)) (h1 : n ≤ 4294967296) (hs : s = List.replicate n z)
    (h : ∀ (j : Nat) (s : List α), j < n → s.length = n → step (j : Int) s = some (.nx (s.set j (v j)))) : forC step 0 hi s = some (.br ((List.range n).map v)) := by
  have e : (fun j => (List.range j).map v ++ List.replicate (n - j) z) n = (List.range n).map v := by simp
  rw [← e];refine Xd (fun j => (List.range j).map v ++ List.replicate (n - j) z) hn (by omega) (by simp [hs]) (fun j hj => ?_);rw [h j _ hj (by simp; omega)];have e2 : List.replicate (n - j) z = z :: List.replicate (n - (j + 1)) z := by rw [show n - j = (n - (j + 1)) + 1 by omega, List.replicate_succ]
  rw [e2, List.set_append];simp [List.range_succ]

theorem wB {α : Type} (l : List α) (d : α) : (List.range l.length).map (fun j => l[j]?.getD d) = l := by
  apply List.ext_getElem
  · simp
  · intro i h1 h2;simp only [List.length_map, List.length_range] at h1;simp [List.getElem?_eq_getElem h1]

theorem zdr {a b : Int} (h : 0 ≤ a) : Int.tdiv a b = a / b := Int.tdiv_eq_ediv_of_nonneg h
theorem tmod_nn {a b : Int} (h : 0 ≤ a) : Int.tmod a b = a % b := Int.tmod_eq_emod_of_nonneg h
theorem tdiv_nat (a b : Nat) : Int.tdiv (a : Int) (b : Int) = ((a / b : Nat) : Int) := by rw [zdr (by omega)]; rfl
theorem tmod_nat (a b : Nat) : Int.tmod (a : Int) (b : Int) = ((a % b : Nat) : Int) := by rw [tmod_nn (by omega)]; rfl
theorem vl {a : Nat} (h : a ≤ 9223372036854775807) : w64 (a : Int) = (a : Int) := Zl (by omega) (by omega)
theorem wD (a b : Nat) : ((a : Int) == (b : Int)) = (a == b) := by rw [Bool.eq_iff_iff]; simp only [beq_iff_eq]; omega
theorem ediv_le {a b : Int} (h : 0 ≤ a) (hb : 0 ≤ b) : a / b ≤ a := Int.ediv_le_self b h
end Go.G
