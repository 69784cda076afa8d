/- Plain lemmas on what the functions compute, up to: the law gives true. No conditions. -/
import Derived.Test.YtmghggenjagioaaL0
set_option linter.unusedVariables false
namespace Go.Proofs
open Go.G
set_option maxRecDepth 100000

section
set_option linter.unusedVariables false

def goodScan (fol : Int → Int → Int → Option Bool) (M i f : Int) : Int × List (List Bool) → Option (Ctl (Int × List (List Bool)) (List Int)) := fun s3486 =>
  ((bif (decide (s3486.1 < M)) then (idx s3486.2 i).bind fun x3498 =>
  (idx x3498 f).bind fun x3502 =>
  some (!x3502) else some false)).bind fun s3494 =>
  (bif s3494 then (idx s3486.2 i).bind fun x3506 =>
  (idx s3486.2 (w64 (i + 1))).bind fun x3508 =>
  (idx x3508 s3486.1).bind fun x3512 =>
  (bif x3512 then (fol i f s3486.1).bind fun r3518 =>
  (idx x3506 f).bind fun x3519 =>
  some (.nx (w64 (s3486.1 + 1), List.set s3486.2 (Int.toNat i) (List.set x3506 (Int.toNat f) r3518))) else (idx x3506 f).bind fun x3531 =>
  some (.nx (w64 (s3486.1 + 1), List.set s3486.2 (Int.toNat i) (List.set x3506 (Int.toNat f) false)))) else some (.br (s3486.1, s3486.2)))
def goodRow (en : Int → Option Bool) (fol : Int → Int → Int → Option Bool) (M size i : Int) : Int → List (List Bool) → Option (Ctl (List (List Bool)) (List Int)) := fun k3354 s3352 =>
  (bif (i == (w64 (size - 1))) then (idx s3352 i).bind fun x3362 =>
  (en k3354).bind fun r3367 =>
  (idx x3362 k3354).bind fun x3368 =>
  some (.nx (List.set s3352 (Int.toNat i) (List.set x3362 (Int.toNat k3354) r3367))) else (iter (S := Int × (List (List Bool))) (R := (List Int)) (goodScan fol M i k3354) FU (0, s3352)).bind fun o3490 => after o3490 (fun r_ => some (.rt r_)) (fun s3486 =>
  some (.nx s3486.2)))
def goodAll (en : Int → Option Bool) (fol : Int → Int → Int → Option Bool) (M size : Int) : Int × List (List Bool) → Option (Ctl (Int × List (List Bool)) (List Int)) := fun s2978 =>
  (bif (decide (0 ≤ s2978.1)) then (mks M (false : Bool)).bind fun y2988 =>
  (idx s2978.2 s2978.1).bind fun x2990 =>
  (forC (S := (List (List Bool))) (R := (List Int)) (goodRow en fol M size s2978.1) 0 M (List.set s2978.2 (Int.toNat s2978.1) y2988)).bind fun o3356 => after o3356 (fun r_ => some (.rt r_)) (fun s3352 =>
  some (.nx (w64 (s2978.1 - 1), s3352))) else some (.br (s2978.1, s2978.2)))
def pickF (be : Int → Option Bool) (fol : Int → Int → Int → Option Bool) (good : List (List Bool)) (k3628 : Int) : Int → List Int → Option (Ctl (List Int) (List Int)) := fun k3675 s3673 =>
  ((idx good k3628).bind fun x3687 =>
  (idx x3687 k3675).bind fun x3691 =>
  (bif x3691 then (bif (k3628 == 0) then (be k3675).bind fun r3696 =>
  (bif r3696 then some true else (bif (decide (0 < k3628)) then (idx s3673 (w64 (k3628 - 1))).bind fun x3699 =>
  (fol (w64 (k3628 - 1)) x3699 k3675).bind fun r3702 =>
  some r3702 else some false)) else (bif (decide (0 < k3628)) then (idx s3673 (w64 (k3628 - 1))).bind fun x3706 =>
  (fol (w64 (k3628 - 1)) x3706 k3675).bind fun r3709 =>
  some r3709 else some false)) else some false)).bind fun s3683 =>
  (bif s3683 then (app s3673 ([k3675])).bind fun y3716 =>
  some (.br y3716) else some (.nx s3673))
def pickAll (be : Int → Option Bool) (fol : Int → Int → Int → Option Bool) (M : Int) (good : List (List Bool)) : Int → List Int → Option (Ctl (List Int) (List Int)) := fun k3628 s3626 =>
  (forC (S := (List Int)) (R := (List Int)) (pickF be fol good k3628) 0 M s3626).bind fun o3677 => after o3677 (fun r_ => some (.rt r_)) (fun s3673 =>
  (bif ((s3673.length : Int) == k3628) then some (.br s3673) else some (.nx s3673)))
def sizeStep (be en : Int → Option Bool) (fol : Int → Int → Int → Option Bool) (M most : Int) : Int → Option (Ctl Int (List Int)) := fun s1861 =>
  (bif (decide (s1861 ≤ most)) then (mks s1861 ([] : List Bool)).bind fun y1869 =>
  (iter (S := Int × (List (List Bool))) (R := (List Int)) (goodAll en fol M s1861) FU (w64 (s1861 - 1), y1869)).bind fun o2982 => after o2982 (fun r_ => some (.rt r_)) (fun s2978 =>
  (forC (S := (List Int)) (R := (List Int)) (pickAll be fol M s2978.2) 0 s1861 ([])).bind fun o3630 => after o3630 (fun r_ => some (.rt r_)) (fun s3626 =>
  (bif ((s3626.length : Int) == s1861) then (nne s3626).bind fun u3720 =>
  some (.rt s3626) else some (.nx (w64 (s1861 + 1)))))) else some (.br s1861))
def shortG (be en : Int → Option Bool) (fol : Int → Int → Int → Option Bool) (M least most : Int) : Option (List Int) :=
  (iter (S := Int) (R := (List Int)) (sizeStep be en fol M most) FU least).bind fun o1865 => after o1865 (fun r_ => some r_) (fun s1861 =>
  some ([]))

section
variable {m : Nat} {st : Nat → Nat → Bool} {tof beg : Nat → Bool} {be en : Int → Option Bool} {fol : Int → Int → Int → Option Bool}
/-- What the closures compute. -/
structure Links (m : Nat) (st : Nat → Nat → Bool) (tof beg : Nat → Bool) (be en : Int → Option Bool) (fol : Int → Int → Int → Option Bool) : Prop where
  b : ∀ f : Nat, f < m → be (f : Int) = some (beg f)
  e : ∀ f : Nat, f < m → en (f : Int) = some (tof f)
  s : ∀ (i : Int) (f g : Nat), f < m → g < m → fol i (f : Int) (g : Int) = some (st f g)
theorem gscan_out {i f j : Nat} {φ : Nat → Bool} {s : List (List Bool)} (hi : s[i]? = some (rowF m φ)) (hf : f < m) (h : m ≤ j ∨ φ f = true) : goodScan fol (m : Int) (i : Int) (f : Int) ((j : Int), s) = some (.br ((j : Int), s)) := by
  unfold goodScan
  simp only []
  by_cases hj : m ≤ j
  · rw [show decide ((j : Int) < (m : Int)) = false from decide_eq_false (by omega)]; rfl
  · rw [show decide ((j : Int) < (m : Int)) = true from decide_eq_true (by omega), cond_true, idx_nat, hi, Option.bind_some, rowF_idx hf, Option.bind_some, Option.bind_some, h.resolve_left hj]; rfl
theorem gscan_in (hL : Links m st tof beg be en fol) {i f j : Nat} {φ ψ : Nat → Bool} {s : List (List Bool)} (hi : s[i]? = some (rowF m φ)) (ho : s[i + 1]? = some (rowF m ψ)) (hf : f < m) (hj : j < m) (hm : m ≤ 1000000) (hi1 : i ≤ 1000000) (hn : φ f = false) :
    goodScan fol (m : Int) (i : Int) (f : Int) ((j : Int), s) = some (.nx (((j + 1 : Nat) : Int), if (ψ j && st f j) then s.set i (rowF m (upd1 φ f true)) else s)) := by
  unfold goodScan
  simp only []
  have e1 : idx s (i : Int) = some (rowF m φ) := by rw [idx_nat, hi]
  have e2 : idx s ((i + 1 : Nat) : Int) = some (rowF m ψ) := by rw [idx_nat, ho]
  rw [w64_add1 (by omega), show decide ((j : Int) < (m : Int)) = true from decide_eq_true (by omega), cond_true, e1, Option.bind_some, rowF_idx hf, Option.bind_some, Option.bind_some, hn, Bool.not_false, cond_true, Option.bind_some, e2, Option.bind_some, rowF_idx hj, Option.bind_some, w64_add1 (by omega)]
  have hsame : s.set i (rowF m (upd1 φ f false)) = s := by rw [← hn, upd_same]; exact set_same hi
  simp only [Int.toNat_natCast, rowF_set, rowF_idx hf, Option.bind_some, hL.s _ f j hf hj]
  cases ψ j with
  | false =>
    simp only [cond_false, Bool.false_and]
    have : (fun k => if k = f then false else φ k) = upd1 φ f false := rfl
    rw [this, hsame]; rfl
  | true =>
    simp only [cond_true, Bool.true_and]
    cases st f j with
    | false =>
      have : (fun k => if k = f then false else φ k) = upd1 φ f false := rfl
      rw [this, hsame]; rfl
    | true => rfl
theorem gscan_eq (hL : Links m st tof beg be en fol) {i f : Nat} {φ ψ : Nat → Bool} {s : List (List Bool)} (hi : s[i]? = some (rowF m φ)) (ho : s[i + 1]? = some (rowF m ψ)) (hf : f < m) (hm : m ≤ 1000000) (hi1 : i ≤ 1000000) (hn : φ f = false) :
    ∃ g', iter (goodScan fol (m : Int) (i : Int) (f : Int)) FU (0, s) = some (.br (g', s.set i (rowF m (upd1 φ f ((List.range m).any fun g => ψ g && st f g))))) := by
  cases ha : ((List.range m).any fun g => ψ g && st f g) with
  | false =>
    have hsame : s.set i (rowF m (upd1 φ f false)) = s := by rw [← hn, upd_same]; exact set_same hi
    rw [hsame]
    rw [List.any_eq_false] at ha
    refine ⟨(m : Int), iter_br (fun j => ((j : Int), s)) m (by omega) rfl (fun j hj => ?_) (gscan_out hi hf (.inl (Nat.le_refl _)))⟩
    rw [gscan_in hL hi ho hf hj hm hi1 hn, if_neg (ha j (List.mem_range.2 hj))]
  | true =>
    obtain ⟨g1, g2, g3⟩ := lst_spec ha
    generalize lst m (fun g => ψ g && st f g) = g0 at g1 g2 g3
    refine ⟨((g0 + 1 : Nat) : Int), iter_br (fun j => ((j : Int), if j ≤ g0 then s else s.set i (rowF m (upd1 φ f true)))) (g0 + 1) (by omega) (by simp) (fun j hj => ?_) ?_⟩
    · rw [if_pos (by omega), gscan_in hL hi ho hf (by omega) hm hi1 hn]
      by_cases e : j = g0
      · subst e; rw [if_pos g2, if_neg (by omega)]
      · rw [if_neg (by rw [g3 j (by omega)]; simp), if_pos (by omega)]
    · rw [if_neg (by omega)]
      exact gscan_out (φ := upd1 φ f true) (getE_set hi) hf (.inr (by simp [upd1]))
/-- The rows behind so many rounds. -/
def gTab (m : Nat) (st : Nat → Nat → Bool) (tof : Nat → Bool) (size t : Nat) : List (List Bool) := rowF size (fun k => if size - t ≤ k then rowF m (Wk m st tof (size - 1 - k)) else [])
theorem goodRow_eq (hL : Links m st tof beg be en fol) {size t : Nat} (hm : m ≤ 1000000) (hs : size ≤ 1000) (ht : t < size) :
    forC (S := (List (List Bool))) (R := (List Int)) (goodRow en fol (m : Int) (size : Int) ((size - 1 - t : Nat) : Int)) 0 (m : Int) ((gTab m st tof size t).set (size - 1 - t) (rowF m fun _ => false)) = some (.br (gTab m st tof size (t + 1))) := by
  let G : Nat → Nat → Bool := fun f j => if j < f then Wk m st tof t j else false
  have hlen : (gTab m st tof size t).length = size := by simp [gTab]
  have hF : ∀ f, ((gTab m st tof size t).set (size - 1 - t) (rowF m (G f)))[size - 1 - t]? = some (rowF m (G f)) := fun f => List.getElem?_set_self (by rw [hlen]; omega)
  have e0 : (rowF m fun _ => false) = rowF m (G 0) := rowF_ext fun j _ => by simp [G]
  have e1 : (gTab m st tof size t).set (size - 1 - t) (rowF m (G m)) = gTab m st tof size (t + 1) := by
    unfold gTab
    rw [rowF_set]
    refine rowF_ext fun k hk => ?_
    by_cases e : k = size - 1 - t
    · rw [if_pos e, if_pos (by omega)]
      refine rowF_ext fun j hj => ?_
      simp only [G, if_pos hj]
      rw [show size - 1 - k = t by omega]
    · rw [if_neg e]
      by_cases e' : size - t ≤ k
      · rw [if_pos e', if_pos (by omega)]
      · rw [if_neg e', if_neg (by omega)]
  rw [e0, ← e1]
  refine forC0_fn (fun f => (gTab m st tof size t).set (size - 1 - t) (rowF m (G f))) rfl (by omega) rfl (fun f hf => ?_)
  have eB : ∀ v, v = Wk m st tof t f → rowF m (upd1 (G f) f v) = rowF m (G (f + 1)) := fun v hv => rowF_ext fun j hj => by
    simp only [upd1, G]
    by_cases e : j = f
    · subst e; simp [hv]
    · by_cases e' : j < f
      · simp [e, e', show j < f + 1 by omega]
      · simp [e, e', show ¬ j < f + 1 by omega]
  unfold goodRow
  have hw : w64 ((size : Int) - 1) = ((size - 1 : Nat) : Int) := by rw [show (size : Int) - 1 = ((size - 1 : Nat) : Int) by omega, w64_nat (by omega)]
  rw [hw, beq_nat]
  by_cases h0 : t = 0
  · subst h0
    rw [show (size - 1 - 0 == size - 1) = true by simp, cond_true, idx_nat, hF, Option.bind_some, hL.e f hf, Option.bind_some, rowF_idx hf, Option.bind_some, Int.toNat_natCast, Int.toNat_natCast, rowF_set, List.set_set]
    have := eB (tof f) rfl
    unfold upd1 at this
    rw [this]
  · rw [show (size - 1 - t == size - 1) = false by rw [beq_eq_false_iff_ne]; omega, cond_false]
    have ho : ((gTab m st tof size t).set (size - 1 - t) (rowF m (G f)))[size - 1 - t + 1]? = some (rowF m (Wk m st tof (t - 1))) := by
      rw [getE_ne (by omega)]
      unfold gTab
      rw [rowF_get (by omega), if_pos (by omega), show size - 1 - (size - 1 - t + 1) = t - 1 by omega]
    obtain ⟨g', hg⟩ := gscan_eq hL (hF f) ho hf hm (by omega) (by simp [G])
    rw [hg, Option.bind_some, after_br']
    simp only []
    rw [List.set_set, eB]
    obtain ⟨u, rfl⟩ : ∃ u, t = u + 1 := ⟨t - 1, by omega⟩
    show _ = (List.range m).any fun g => st f g && Wk m st tof u g
    rw [Nat.add_sub_cancel]
    congr 1
    funext g
    exact Bool.and_comm _ _
theorem goodAll_eq (hL : Links m st tof beg be en fol) {size : Nat} (hm : m ≤ 1000000) (h1 : 1 ≤ size) (hs : size ≤ 1000) :
    iter (S := Int × (List (List Bool))) (R := (List Int)) (goodAll en fol (m : Int) (size : Int)) FU (w64 ((size : Int) - 1), List.replicate size []) = some (.br (-1, gTab m st tof size size)) := by
  have hw : w64 ((size : Int) - 1) = ((size : Int) - 1) := w64_id (by omega) (by omega)
  rw [hw]
  refine iter_br (fun t => ((size : Int) - 1 - (t : Int), gTab m st tof size t)) size (by omega) ?_ (fun t ht => ?_) ?_
  · rw [Int.natCast_zero, Int.sub_zero, rowF_rep]
    congr 1
    unfold gTab
    exact rowF_ext fun k hk => by rw [if_neg (by omega)]
  · unfold goodAll
    simp only []
    have e : (size : Int) - 1 - (t : Int) = ((size - 1 - t : Nat) : Int) := by omega
    rw [e, show decide ((0 : Int) ≤ ((size - 1 - t : Nat) : Int)) = true from decide_eq_true (by omega), cond_true, mks_ok rfl (by omega), Option.bind_some, idx_nat]
    have hg : (gTab m st tof size t)[size - 1 - t]? = some [] := by
      unfold gTab
      rw [rowF_get (by omega), if_neg (by omega)]
    rw [hg, Option.bind_some, Int.toNat_natCast, rowF_rep, goodRow_eq hL hm hs ht, Option.bind_some, after_br', show ((size - 1 - t : Nat) : Int) - 1 = (size : Int) - 1 - ((t + 1 : Nat) : Int) by omega, w64_id (by omega) (by omega)]
  · unfold goodAll
    simp only []
    rw [show decide ((0 : Int) ≤ (size : Int) - 1 - (size : Int)) = false from decide_eq_false (by omega), cond_false, show (size : Int) - 1 - (size : Int) = -1 by omega]
def selP (m : Nat) (st : Nat → Nat → Bool) (tof beg : Nat → Bool) (size k : Nat) (P : List Nat) (f : Nat) : Bool := Wk m st tof (size - 1 - k) f && (if k = 0 then beg f else st (ga P (k - 1)) f)
theorem pickF_eq (hL : Links m st tof beg be en fol) {size k f : Nat} {P : List Nat} (hs : size ≤ 1000) (hk : k < size) (hP : P.length = k) (hPm : ∀ x ∈ P, x < m) (hf : f < m) :
    pickF be fol (gTab m st tof size size) (k : Int) (f : Int) (NL P) = some (if selP m st tof beg size k P f = true then .br (NL (P ++ [f])) else .nx (NL P)) := by
  unfold pickF selP
  have hg : idx (gTab m st tof size size) (k : Int) = some (rowF m (Wk m st tof (size - 1 - k))) := by
    unfold gTab
    rw [rowF_idx hk, if_pos (by omega)]
  rw [hg, Option.bind_some, rowF_idx hf, Option.bind_some]
  have hap : app (NL P) [(f : Int)] = some (NL (P ++ [f])) := by
    rw [app_ok (by rw [NL_len]; simp; omega), NL_app]; rfl
  cases Wk m st tof (size - 1 - k) f with
  | false => rfl
  | true =>
    simp only [cond_true, Bool.true_and]
    by_cases h0 : k = 0
    · subst h0
      rw [if_pos rfl, show (((0 : Nat) : Int) == 0) = true from rfl, cond_true, hL.b f hf, Option.bind_some, show decide ((0 : Int) < ((0 : Nat) : Int)) = false from rfl, cond_false]
      cases beg f with
      | false => rfl
      | true => simp only [cond_true, Option.bind_some, hap, if_true]
    · rw [if_neg h0, show ((k : Int) == 0) = false by rw [beq_eq_false_iff_ne]; omega, cond_false, show decide ((0 : Int) < (k : Int)) = true from decide_eq_true (by omega), cond_true, show (k : Int) - 1 = ((k - 1 : Nat) : Int) by omega, w64_nat (by omega), idx_NL (by omega), Option.bind_some, hL.s _ _ f (hPm _ (ga_mem (by omega))) hf, Option.bind_some, Option.bind_some]
      cases st (ga P (k - 1)) f with
      | false => rfl
      | true => simp only [cond_true, hap, Option.bind_some, if_true]
theorem forI_first {S R : Type} {step : Int → S → Option (Ctl S R)} (p : Nat → Bool) (s t : Nat → S) (s0 : S) : ∀ (n j0 : Nat), (∀ j, j0 ≤ j → j < j0 + n → step (j : Int) s0 = some (if p j = true then .br (t j) else .nx s0)) →
    forI step n (j0 : Int) s0 = some (.br (match (List.range' j0 n).find? p with | some j => t j | none => s0))
  | 0, j0, _ => rfl
  | n + 1, j0, h => by
    unfold forI
    rw [h j0 (Nat.le_refl _) (by omega), List.range'_succ, List.find?_cons]
    cases hp : p j0 with
    | true => rfl
    | false =>
      rw [if_neg (by simp)]
      have := forI_first p s t s0 n (j0 + 1) (fun j h1 h2 => h j (by omega) (by omega))
      simp only []
      rw [show (j0 : Int) + 1 = ((j0 + 1 : Nat) : Int) by omega, this]
theorem forC0_first {S R : Type} {step : Int → S → Option (Ctl S R)} (p : Nat → Bool) (t : Nat → S) {n : Nat} {s0 : S} (h1 : n ≤ 9223372036854775807) (h : ∀ j : Nat, j < n → step (j : Int) s0 = some (if p j = true then .br (t j) else .nx s0)) :
    forC step 0 (n : Int) s0 = some (.br (match (List.range n).find? p with | some j => t j | none => s0)) := by
  unfold forC
  have := forI_first (step := step) p t t s0 n 0 (fun j _ hj => h j (by omega))
  simp only [show decide (-9223372036854775808 ≤ (0 : Int)) = true by decide, show decide ((n : Int) ≤ 9223372036854775807) = true by simp; omega, Bool.and_true, cond_true]
  rw [show ((n : Int) - 0).toNat = n by omega, List.range_eq_range']
  simpa using this
theorem find_lst {m : Nat} {p : Nat → Bool} (h : (List.range m).any p = true) : (List.range m).find? p = some (lst m p) := by
  unfold lst
  cases hf : (List.range m).find? p with
  | none =>
    rw [List.find?_eq_none] at hf
    rw [List.any_eq_true] at h
    obtain ⟨x, hx, hp⟩ := h
    exact absurd hp (hf x hx)
  | some e => rfl
theorem find_no {m : Nat} {p : Nat → Bool} (h : (List.range m).any p = false) : (List.range m).find? p = none := by
  rw [List.find?_eq_none]
  rw [List.any_eq_false] at h
  exact h
/-- One size: no chain. -/
theorem size_no (hL : Links m st tof beg be en fol) {size most : Nat} (hm : m ≤ 1000000) (h1 : 1 ≤ size) (hs : size ≤ most) (hmo : most ≤ 1000) (hn : ∀ f, f < m → beg f = true → Wk m st tof (size - 1) f = false) :
    sizeStep be en fol (m : Int) (most : Int) (size : Int) = some (.nx ((size + 1 : Nat) : Int)) := by
  unfold sizeStep
  rw [show decide ((size : Int) ≤ (most : Int)) = true from decide_eq_true (by omega), cond_true, mks_ok rfl (by omega), Option.bind_some, goodAll_eq hL hm h1 (by omega), Option.bind_some, after_br']
  simp only []
  have hpick : pickAll be fol (m : Int) (gTab m st tof size size) ((0 : Nat) : Int) [] = some (.br []) := by
    unfold pickAll
    have := forC0_first (R := List Int) (step := pickF be fol (gTab m st tof size size) ((0 : Nat) : Int)) (selP m st tof beg size 0 []) (fun f => NL ([] ++ [f])) (n := m) (s0 := NL []) (by omega) (fun f hf => pickF_eq hL (by omega) (by omega) rfl (by simp) hf)
    have hno : (List.range m).any (selP m st tof beg size 0 []) = false := by
      rw [List.any_eq_false]
      intro f hf
      rw [List.mem_range] at hf
      unfold selP
      rw [if_pos rfl]
      cases hb : beg f with
      | false => simp
      | true => simp [hn f hf hb]
    rw [find_no hno] at this
    have e : NL ([] : List Nat) = [] := rfl
    rw [e] at this
    rw [this]; rfl
  have hfor : forC (S := (List Int)) (R := (List Int)) (pickAll be fol (m : Int) (gTab m st tof size size)) 0 (size : Int) [] = some (.br []) := by
    unfold forC
    simp only [show decide (-9223372036854775808 ≤ (0 : Int)) = true by decide, show decide ((size : Int) ≤ 9223372036854775807) = true by simp; omega, Bool.and_true, cond_true]
    rw [show ((size : Int) - 0).toNat = (size - 1) + 1 by omega]
    unfold forI
    have hpick : pickAll be fol (m : Int) (gTab m st tof size size) 0 [] = some (.br []) := hpick
    rw [hpick]
  rw [hfor, Option.bind_some, after_br', show ((([] : List Int).length : Int) == (size : Int)) = false by rw [beq_eq_false_iff_ne]; simp; omega, cond_false, w64_add1 (by omega)]
/-- One size: a chain. -/
theorem size_yes (hL : Links m st tof beg be en fol) {b most : Nat} (hm : m ≤ 1000000) (hs : b + 1 ≤ most) (hmo : most ≤ 1000) (hy : ∃ f, f < m ∧ (Wk m st tof b f && beg f) = true) :
    sizeStep be en fol (m : Int) (most : Int) ((b + 1 : Nat) : Int) = some (.rt (NL (rowF (b + 1) (cs m st tof b (lst m fun f => Wk m st tof b f && beg f))))) := by
  have hany : ((List.range m).any fun f => Wk m st tof b f && beg f) = true := by
    obtain ⟨f, hf, h⟩ := hy
    exact List.any_eq_true.2 ⟨f, List.mem_range.2 hf, h⟩
  obtain ⟨c1, c2, _⟩ := lst_spec hany
  rw [Bool.and_eq_true] at c2
  unfold sizeStep
  rw [show decide (((b + 1 : Nat) : Int) ≤ (most : Int)) = true from decide_eq_true (by omega), cond_true, mks_ok rfl (by omega), Option.bind_some, goodAll_eq hL hm (by omega) (by omega), Option.bind_some, after_br']
  simp only []
  rw [forC0_fn (R := List Int) (F := fun j => NL (rowF j (cs m st tof b (lst m fun f => Wk m st tof b f && beg f)))) (s := []) (n := b + 1) rfl (by omega) rfl (fun j hj => by
    unfold pickAll
    have hPm : ∀ x ∈ rowF j (cs m st tof b (lst m fun f => Wk m st tof b f && beg f)), x < m := fun x hx => by
      obtain ⟨i, hi, rfl⟩ := List.mem_map.1 hx
      rw [List.mem_range] at hi
      exact (cs_ok c1 c2.1 i (by omega)).1
    rw [forC0_first (R := List Int) (step := pickF be fol (gTab m st tof (b + 1) (b + 1)) (j : Int)) (selP m st tof beg (b + 1) j (rowF j (cs m st tof b (lst m fun f => Wk m st tof b f && beg f)))) (fun f => NL (rowF j (cs m st tof b (lst m fun f => Wk m st tof b f && beg f)) ++ [f])) (n := m) (by omega) (fun f hf => pickF_eq hL (by omega) (by omega) (by simp) hPm hf)]
    have hfind : (List.range m).find? (selP m st tof beg (b + 1) j (rowF j (cs m st tof b (lst m fun f => Wk m st tof b f && beg f)))) = some (cs m st tof b (lst m fun f => Wk m st tof b f && beg f) j) := by
      cases j with
      | zero =>
        have e : selP m st tof beg (b + 1) 0 (rowF 0 (cs m st tof b (lst m fun f => Wk m st tof b f && beg f))) = fun f => Wk m st tof b f && beg f := by
          funext f; unfold selP; rw [if_pos rfl]; rfl
        rw [e]
        exact find_lst hany
      | succ j =>
        have hga : ga (rowF (j + 1) (cs m st tof b (lst m fun f => Wk m st tof b f && beg f))) (j + 1 - 1) = cs m st tof b (lst m fun f => Wk m st tof b f && beg f) j := by
          unfold ga
          rw [List.getD_eq_getElem?_getD, rowF_get (by omega)]; rfl
        have e : selP m st tof beg (b + 1) (j + 1) (rowF (j + 1) (cs m st tof b (lst m fun f => Wk m st tof b f && beg f))) = fun g => st (cs m st tof b (lst m fun f => Wk m st tof b f && beg f) j) g && Wk m st tof (b - (j + 1)) g := by
          funext f
          unfold selP
          rw [if_neg (by omega), hga, Bool.and_comm, show b + 1 - 1 - (j + 1) = b - (j + 1) by omega]
        rw [e]
        exact find_lst (cs_any c1 c2.1 (by omega))
    rw [hfind, Option.bind_some, after_br']
    simp only []
    rw [← rowF_snoc]
    simp only [NL_len, rowF_len]
    rw [beq_nat, show (j + 1 == j) = false by simp, cond_false]), Option.bind_some, after_br']
  simp only [NL_len, rowF_len, beq_self_eq_true, cond_true]
  have hne : nne (NL (rowF (b + 1) (cs m st tof b (lst m fun f => Wk m st tof b f && beg f)))) = some () := by
    unfold nne
    rw [if_neg]
    intro h
    have := congrArg List.length (List.isEmpty_iff.1 h)
    rw [NL_len, rowF_len] at this
    simp at this
  rw [hne, Option.bind_some]
theorem shortG_no (hL : Links m st tof beg be en fol) {least most : Nat} (hm : m ≤ 1000000) (h1 : 1 ≤ least) (hlm : least ≤ most + 1) (hmo : most ≤ 1000) (hn : ∀ s, least ≤ s → s ≤ most → ∀ f, f < m → beg f = true → Wk m st tof (s - 1) f = false) :
    shortG be en fol (m : Int) (least : Int) (most : Int) = some [] := by
  unfold shortG
  rw [iter_br (R := List Int) (F := fun j => ((least + j : Nat) : Int)) (t := ((most + 1 : Nat) : Int)) (most + 1 - least) (by omega) (by simp) (fun j hj => by
    rw [size_no hL hm (by omega) (by omega) hmo (hn (least + j) (by omega) (by omega)), Nat.add_assoc]) (by
    rw [show least + (most + 1 - least) = most + 1 by omega]
    unfold sizeStep
    rw [show decide (((most + 1 : Nat) : Int) ≤ (most : Int)) = false from decide_eq_false (by omega), cond_false])]
  rfl
theorem shortG_yes (hL : Links m st tof beg be en fol) {least most b : Nat} (hm : m ≤ 1000000) (h1 : 1 ≤ least) (hb : least ≤ b + 1) (hs : b + 1 ≤ most) (hmo : most ≤ 1000) (hn : ∀ s, least ≤ s → s < b + 1 → ∀ f, f < m → beg f = true → Wk m st tof (s - 1) f = false) (hy : ∃ f, f < m ∧ (Wk m st tof b f && beg f) = true) :
    shortG be en fol (m : Int) (least : Int) (most : Int) = some (NL (rowF (b + 1) (cs m st tof b (lst m fun f => Wk m st tof b f && beg f)))) := by
  unfold shortG
  rw [iter_rt (R := List Int) (F := fun j => ((least + j : Nat) : Int)) (r := NL (rowF (b + 1) (cs m st tof b (lst m fun f => Wk m st tof b f && beg f)))) (b + 1 - least) (by omega) (by simp) (fun j hj => by
    rw [size_no hL hm (by omega) (by omega) hmo (hn (least + j) (by omega) (by omega)), Nat.add_assoc]) (by
    rw [show least + (b + 1 - least) = b + 1 by omega]
    exact size_yes hL hm hs hmo hy)]
  rfl
end

end

theorem shortD (l : Int × Unit × Unit × Unit) (most : Int) (b0 : CHN) : s_impl_chainer__shortest__chainer__direct_1_chainer__direct_2_chainer__direct_3 l most b0 = shortG (fun f => s_impl_chainer__direct_1__g f b0) (fun f => s_impl_chainer__direct_2__g f b0) (fun i f g => s_impl_chainer__direct_3__g i f g b0) (b0.2.1.length : Int) l.1 most := rfl

theorem Allowed_eq {N : Nat} {L : List (List Nat)} (h1 : 1 ≤ N) (h8 : N ≤ 8) (hT : Tbl N (N ^ 3) L) (h60 : L.length ≤ 60) (fx : Bool) : s_spec_l17Allowed (N : Int) (NLL L) fx = some (rowF L.length fun f => !fx || fxd N (gl L f)) := by
  unfold s_spec_l17Allowed
  rw [forC0_app (fun f => !fx || fxd N (gl L f)) (n := L.length) (by rw [NLL_len]) (by omega) (fun j s hj _ => by
    cases fx with
    | false => rfl
    | true =>
      simp only [Bool.not_true, cond_false, Bool.false_or]
      rw [idx_NLL hj, Option.bind_some, fixed_eq h1 h8 (hT _ (gl_mem hj)).1, Option.bind_some])]
  rfl

def mayR (N : Nat) (L : List (List Nat)) (al : Nat → Bool) (one other : Nat) (f g : Nat) : Bool := al f && (al g && (vp N (pat one) (gl L f) == vp N (pat other) (gl L g)))

theorem May_eq {N : Nat} {L : List (List Nat)} {al : Nat → Bool} {one other : Nat} (h8 : N ≤ 8) (hT : Tbl N (N ^ 3) L) (h60 : L.length ≤ 60) (ho : one ≤ 2) (ho' : other ≤ 2) : s_spec_l17May (N : Int) (NLL L) (one : Int) (other : Int) (rowF L.length al) = some (mayT L.length (mayR N L al one other)) := by
  unfold s_spec_l17May
  have h64 := sq_le h8
  rw [forC0_fn (R := List (List Bool)) (F := fun j => (rowF j fun f => NL (vp N (pat one) (gl L f)), rowF j fun f => NL (vp N (pat other) (gl L f)))) (s := ([], [])) (n := L.length) (by rw [NLL_len]) (by omega) rfl (fun j hj => by
    have hl := (hT _ (gl_mem hj)).1
    rw [idx_NLL hj, Option.bind_some, l17Part_eq h8 hl ho, Option.bind_some, app_ok (by simp; omega), Option.bind_some, Option.bind_some, l17Part_eq h8 hl ho', Option.bind_some, app_ok (by simp; omega), Option.bind_some, rowF_snoc, rowF_snoc]), Option.bind_some, after_br']
  simp only [NLL_len]
  rw [forC0_app (fun f => rowF L.length (mayR N L al one other f)) (n := L.length) rfl (by omega) (fun f s hf _ => by
    rw [forC0_app (fun g => mayR N L al one other f g) (n := L.length) rfl (by omega) (fun g s hg _ => by
      rw [rowF_idx hf, Option.bind_some, rowF_idx hg, Option.bind_some, rowF_idx hf, Option.bind_some, rowF_idx hg, Option.bind_some, l1Same_NL (by simp [vp]; omega), Option.bind_some]
      unfold mayR
      cases al f <;> cases al g <;> rfl), Option.bind_some, after_br']
    rfl)]
  rfl

theorem rowF_mem {α : Type} {n : Nat} {φ : Nat → α} {x : α} (h : x ∈ rowF n φ) : ∃ i, i < n ∧ φ i = x := by
  obtain ⟨i, hi, rfl⟩ := List.mem_map.1 h
  exact ⟨i, List.mem_range.1 hi, rfl⟩

theorem ops_BO {N : Nat} {L : List (List Nat)} {P : List Nat} (hT : Tbl N (N ^ 3) L) (h27 : N ^ 3 ≤ 27) (hP : ∀ g ∈ P, g < L.length) : ∀ f ∈ opsA L P, BO f := fun f hf => by
  obtain ⟨g, hg, rfl⟩ := List.mem_map.1 hf
  show (NL (gl L g)).length ≤ 1048576
  rw [NL_len, (hT _ (gl_mem (hP g hg))).1]; omega

/-- The end of a search, on the program's side. -/
theorem find_end {N : Nat} {L : List (List Nat)} {P : List Nat} (hT : Tbl N (N ^ 3) L) (h27 : N ^ 3 ≤ 27) (hP : ∀ g ∈ P, g < L.length) (hl : P.length ≤ 60) (h1 : 1 ≤ P.length) :
    (bif (List.isEmpty (NL P)) then some (([] : List (Int × List Int)), false) else (s_impl_chainer__ops (NL P) (chn N L)).bind fun r26 => some (r26, true)) = some (opsA L P, true) := by
  have : List.isEmpty (NL P) = false := by
    cases P with
    | nil => simp at h1
    | cons x P => rfl
  rw [this, cond_false, chOps_eq hT h27 hP hl, Option.bind_some]

theorem filt_first {m : Nat} {p : Nat → Bool} {pre post : List Nat} {c0 : Nat} (h : (List.range m).filter p = pre ++ c0 :: post) {j : Nat} (hj : j < c0) (hm : j < m) (hp : p j = true) : j ∈ pre := by
  have hs : List.Pairwise (· < ·) (pre ++ c0 :: post) := by rw [← h]; exact List.Pairwise.filter _ List.pairwise_lt_range
  have hmem : j ∈ pre ++ c0 :: post := by rw [← h]; exact List.mem_filter.2 ⟨List.mem_range.2 hm, hp⟩
  rcases List.mem_append.1 hmem with hh | hh
  · exact hh
  · rcases List.mem_cons.1 hh with rfl | hh
    · omega
    · have := (List.pairwise_cons.1 (List.pairwise_append.1 hs).2.1).1 j hh
      omega

theorem DirectChain_same (a : Int × List (Int × List Int)) (hb : BA a) : ∃ z, s_spec_DirectChain (a.1, a.2) = some z ∧ s_impl_DirectChain (a.1, a.2) = some z ∧ z.1.length ≤ 60 ∧ ∀ f ∈ z.1, BO f := by
  unfold s_spec_DirectChain s_impl_DirectChain s_impl_findChain__impl_chainer__direct
  rcases chain_cases a hb with ⟨N, L, eN, h1, h3, h60, hT, p0, p2, g1, g2⟩ | ⟨t, g1, g2⟩
  case inr =>
    have g1 : s_spec_l17Clone ((a.1, a.2).1, (a.1, a.2).2) = _ := g1
    have g2 : s_impl_newChainer ((a.1, a.2).1, (a.1, a.2).2) = _ := g2
    rw [g1, g2]
    exact ⟨_, rfl, rfl, by simp, by simp⟩
  have h8 : N ≤ 8 := by omega
  have h64 := sq_le h8
  have h27 : N ^ 3 ≤ 27 := Nat.le_trans (Nat.pow_le_pow_left h3 3) (by decide)
  have g1 : s_spec_l17Clone ((a.1, a.2).1, (a.1, a.2).2) = _ := g1
  have g2 : s_impl_newChainer ((a.1, a.2).1, (a.1, a.2).2) = _ := g2
  rw [g1, g2]
  simp only [Option.bind_some, Bool.not_true, cond_false, eN, chn_eta]
  have hM : s_spec_l17May (N : Int) (NLL L) 2 1 (rowF L.length fun f => !true || fxd N (gl L f)) = _ := May_eq (one := 2) (other := 1) h8 hT h60 (by omega) (by omega)
  let beg : Nat → Bool := fun f => fxd N (gl L f) && (vp N [0, 0, 1] (gl L f) == prj N 2 0)
  let tof : Nat → Bool := fun f => fxd N (gl L f) && (vp N [0, 1, 1] (gl L f) == prj N 2 1)
  let st : Nat → Nat → Bool := mayR N L (fun f => !true || fxd N (gl L f)) 2 1
  have hLk : Links L.length st tof beg (fun f => s_impl_chainer__direct_1__g f (chn N L)) (fun f => s_impl_chainer__direct_2__g f (chn N L)) (fun i f g => s_impl_chainer__direct_3__g i f g (chn N L)) := ⟨fun f hf => dir1_eq h1 h8 hf, fun f hf => dir2_eq h1 h8 hf, fun i f g hf hg => dir3_eq h8 hf hg i⟩
  have hcl : ((chn N L).2.1.length : Int) = (L.length : Int) := by show ((NLL L).length : Int) = _; rw [NLL_len]
  unfold s_impl_chainer__direct s_spec_l17Direct
  simp only [Option.bind_some, shortD, hcl, Allowed_eq h1 h8 hT h60, hM, NLL_len, mks_ok rfl (by omega : L.length ≤ 4294967296)]
  have hfl : ∀ j, ((List.range j).filter beg).length ≤ j := fun j => by have := List.length_filter_le beg (List.range j); simpa using this
  have q1 : ∀ k, k < L.length → s_spec_l17Part (N : Int) (NL (gl L k)) 1 = some (NL (vp N [0, 0, 1] (gl L k))) := fun k hk => l17Part_eq (w := 1) h8 (hT _ (gl_mem hk)).1 (by omega)
  have q2 : ∀ k, k < L.length → s_spec_l17Part (N : Int) (NL (gl L k)) 2 = some (NL (vp N [0, 1, 1] (gl L k))) := fun k hk => l17Part_eq (w := 2) h8 (hT _ (gl_mem hk)).1 (by omega)
  rw [forC0_fn (R := (List Int) × Bool) (F := fun j => (NL ((List.range j).filter beg), rowF L.length (fun f => if f < j then tof f else false))) (s := ([], List.replicate L.length false)) (n := L.length) rfl (by omega) (by
    rw [rowF_rep]
    refine Prod.ext rfl (rowF_ext fun f _ => by simp)) (fun j hj => by
    have hj' := hfl j
    simp only [rowF_idx hj, Option.bind_some, idx_NLL hj, q1 j hj, q2 j hj, xs_eq h1 h8, ys_eq h1 h8]
    rw [l1Same_NL (by simp [vp]; omega), l1Same_NL (by simp [vp]; omega)]
    have hA : ((bif (!true || fxd N (gl L j)) then (some (vp N [0, 0, 1] (gl L j) == prj N 2 0)).bind fun r => (some r : Option Bool) else some false) : Option Bool) = some (beg j) := by
      show _ = some (fxd N (gl L j) && _)
      cases fxd N (gl L j) <;> rfl
    rw [hA, Option.bind_some, filter_succ]
    have hT2 : rowF L.length (upd1 (fun f => if f < j then tof f else false) j (tof j)) = rowF L.length (fun f => if f < j + 1 then tof f else false) := rowF_ext fun f _ => by
      simp only [upd1]
      by_cases e : f = j
      · subst e; simp
      · by_cases e' : f < j
        · simp [e, e', show f < j + 1 by omega]
        · simp [e, e', show ¬ f < j + 1 by omega]
    have hB : ∀ y : List Int, ((bif (!true || fxd N (gl L j)) then (some (vp N [0, 1, 1] (gl L j) == prj N 2 1)).bind fun r220 =>
  some (Ctl.nx (R := (List Int) × Bool) (y, List.set (rowF L.length (fun f => if f < j then tof f else false)) (Int.toNat (j : Int)) r220)) else
  some (.nx (y, List.set (rowF L.length (fun f => if f < j then tof f else false)) (Int.toNat (j : Int)) false))) : Option (Ctl ((List Int) × (List Bool)) ((List Int) × Bool))) = some (.nx (y, rowF L.length (fun f => if f < j + 1 then tof f else false))) := fun y => by
      rw [← hT2, Int.toNat_natCast]
      simp only [rowF_set]
      show _ = some (Ctl.nx (y, rowF L.length (upd1 _ j (fxd N (gl L j) && (vp N [0, 1, 1] (gl L j) == prj N 2 1)))))
      cases fxd N (gl L j) <;> rfl
    cases beg j with
    | false =>
      rw [cond_false, Option.bind_some, hB]; simp
    | true =>
      rw [cond_true, if_pos rfl, app_ok (by rw [NL_len]; simp only [List.length_cons, List.length_nil]; omega), Option.bind_some, Option.bind_some, hB, NL_app]; rfl), Option.bind_some, after_br']
  have hto : rowF L.length (fun f => if f < L.length then tof f else false) = rowF L.length tof := rowF_ext fun f hf => by rw [if_pos hf]
  simp only [hto]
  have hFm : ∀ c ∈ (List.range L.length).filter beg, c < L.length := fun c hc => List.mem_range.1 (List.mem_filter.1 hc).1
  obtain ⟨z, r1, r2⟩ := l17Chain_eq (m := L.length) (st := st) (tof := tof) (D := 11) (Fm := (List.range L.length).filter beg) (by omega) (by omega) (by have := hfl L.length; omega) hFm
  have r1 : s_spec_l17Chain (NL ((List.range L.length).filter beg)) (rowF L.length tof) [mayT L.length (mayR N L (fun f => !true || fxd N (gl L f)) 2 1), mayT L.length (mayR N L (fun f => !true || fxd N (gl L f)) 2 1)] 11 = some z := r1
  rw [r1]
  simp only [Option.bind_some]
  cases r2 with
  | none hn =>
    have hs : shortG (fun f => s_impl_chainer__direct_1__g f (chn N L)) (fun f => s_impl_chainer__direct_2__g f (chn N L)) (fun i f g => s_impl_chainer__direct_3__g i f g (chn N L)) (L.length : Int) 1 12 = _ := shortG_no (least := 1) (most := 12) hLk (by omega) (by omega) (by omega) (by omega) (fun s h1 h2 f hf hb => hn f (List.mem_filter.2 ⟨List.mem_range.2 hf, hb⟩) (s - 1) (by omega))
    have hgv : s_spec_l17Give (NLL L) [] = some (opsA L []) := give_eq (P := []) hT h27 (by simp) (by simp)
    rw [hs]
    exact ⟨([], false), by rw [hgv]; rfl, rfl, by simp, by simp⟩
  | some b c0 pre post hFe hbD hw hmin hpre =>
    have hc0 : c0 ∈ (List.range L.length).filter beg := by rw [hFe]; simp
    have hc0m := hFm c0 hc0
    have hc0b : beg c0 = true := (List.mem_filter.1 hc0).2
    have hs : shortG (fun f => s_impl_chainer__direct_1__g f (chn N L)) (fun f => s_impl_chainer__direct_2__g f (chn N L)) (fun i f g => s_impl_chainer__direct_3__g i f g (chn N L)) (L.length : Int) 1 12 = _ := shortG_yes (least := 1) (most := 12) (b := b) hLk (by omega) (by omega) (by omega) (by omega) (by omega) (fun s h1 h2 f hf hb => hmin f (List.mem_filter.2 ⟨List.mem_range.2 hf, hb⟩) (s - 1) (by omega)) ⟨c0, hc0m, by rw [hw, hc0b]; rfl⟩
    have hl0 : (lst L.length fun f => Wk L.length st tof b f && beg f) = c0 := lst_uniq hc0m (by rw [hw, hc0b]; rfl) (fun j hj => by
      cases hbj : beg j with
      | false => rw [Bool.and_false]
      | true => rw [hpre j (filt_first hFe hj (by omega) hbj)]; rfl)
    rw [hl0] at hs
    have hPm : ∀ g ∈ rowF (b + 1) (cs L.length st tof b c0), g < L.length := fun g hg => by
      obtain ⟨i, hi, rfl⟩ := rowF_mem hg
      exact (cs_ok hc0m hw i (by omega)).1
    refine ⟨(opsA L _, true), ?_, ?_, ?_, ops_BO hT h27 hPm⟩
    · rw [give_eq hT h27 hPm (by simp; omega), Option.bind_some]
    · rw [hs, Option.bind_some, find_end hT h27 hPm (by simp; omega) (by simp), Option.bind_some]
    · simp [opsA]; omega

theorem s_laws_FnExactDirectChain_ok (a : Int × List (Int × List Int)) (ha : OkP OkI (OkL (OkP OkI (OkL OkI))) a) : s_laws_FnExactDirectChain a = some true := by
  unfold s_laws_FnExactDirectChain
  refine alg_head ha fun hb => ?_
  have e1 : s_laws_toAlgebra (a.1, a.2) = some a := toAlgebra_ok a hb
  have e2 : s_laws_eqAlgebra (a.1, a.2) (a.1, a.2) = some true := eqAlgebra_refl a hb
  obtain ⟨⟨g, b⟩, z1, z2, hg1, hg2⟩ := DirectChain_same a hb
  have hg1 : g.length ≤ 60 := hg1
  have hg2 : ∀ f ∈ g, BO f := hg2
  obtain ⟨k1, t1, m1, m2, m3⟩ := markAlgebra_ok a hb 1 (by omega) (by omega)
  have m1 : s_laws_markAlgebra (a.1, a.2) 1 = some (k1, t1) := m1
  obtain ⟨k2, t2, m4, m5, m6⟩ := opS_marks g (by omega) hg2 1 (by omega) (by omega)
  have e3 : s_laws_eqOpS g g = some true := eqOpS_same g (by omega) hg2
  simp only [e1, e2, e3, Option.bind_some, z1, z2, m1, m4, m5, neg_dec' m2, neg_dec' m6, beq_self_eq_true, bne_self_eq_false, Bool.not_true, cond_false]

end Go.Proofs
