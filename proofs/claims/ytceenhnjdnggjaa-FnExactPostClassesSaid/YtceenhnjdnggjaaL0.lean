/- Plain lemmas on what the functions compute, up to: the law gives true. No conditions. -/
import Derived.Test.YtceenhnjdnggjaaF2
import Derived.Test.YtceenhnjdnggjaaGPure
import Derived.Test.YtceenhnjdnggjaaGOpen
import Derived.Test.YtceenhnjdnggjaaGLoop
set_option linter.unusedVariables false
namespace Go.Proofs
open Go.G
set_option maxRecDepth 100000

theorem eqIntS_eq (a b : List Int) (ha : a.length ≤ 4294967296) : s_laws_eqIntS a b = some (a == b) := by
  unfold s_laws_eqIntS
  by_cases hl : a.length = b.length
  · rw [hl]
    simp only [bne_self_eq_false, cond_false]
    rw [forC0_chk (n := b.length) (fun j => a[j]? == b[j]?) false rfl (by omega)]
    · have : (a == b) = (List.range b.length).all (fun j => a[j]? == b[j]?) := by
        rw [Bool.eq_iff_iff]
        simp only [beq_iff_eq, List.all_eq_true, List.mem_range]
        constructor
        · rintro rfl j _; rfl
        · intro h; apply List.ext_getElem?; intro j
          by_cases hj : j < b.length
          · exact h j hj
          · rw [List.getElem?_eq_none (by omega), List.getElem?_eq_none (by omega)]
      rw [← this]
      cases a == b <;> rfl
    · intro j hj
      have hj' : j < a.length := by omega
      simp only [idx_nat, List.getElem?_eq_getElem hj, List.getElem?_eq_getElem hj', Option.bind_some]
      by_cases h : a[j] = b[j]
      · simp [h]
      · simp [bne, beq_eq_false_iff_ne.2 h]
  · have h1 : (a == b) = false := by
      rw [Bool.eq_false_iff]; intro h; exact hl (by rw [beq_iff_eq.1 h])
    have h2 : ((a.length : Int) != (b.length : Int)) = true := by simp; omega
    rw [h1, h2]; rfl

theorem toIntS_eq (a : List Int) (ha : a.length ≤ 4294967296) : s_laws_toIntS a = some a := by
  unfold s_laws_toIntS
  rw [mks_ok rfl ha, Option.bind_some, forC0_set (fun j => a[j]?.getD 0) (z := 0) (n := a.length) rfl ha rfl]
  · rw [Option.bind_some, after_br', map_range_getElem]
  · intro j s hj hs
    simp [List.getElem?_eq_getElem hj, List.getElem?_eq_getElem (show j < s.length by omega)]

/-- The marks k, k + 1, .. -/
def marks (n : Nat) (k : Int) : List Int := (List.range n).map fun j : Nat => k + (j : Int)

theorem markIntS_eq (a : List Int) (k : Int) (ha : a.length ≤ 4294967296) (h0 : 0 ≤ k) (h1 : k ≤ 4611686018427387904) : s_laws_markIntS a k = some (k + (a.length : Int), marks a.length k) := by
  unfold s_laws_markIntS
  rw [iter_br (fun t => (k + (t : Int), (t : Int), marks t k ++ a.drop t)) (t := (k + (a.length : Int), (a.length : Int), marks a.length k)) a.length (by omega)]
  · rfl
  · simp [marks]
  · intro j hj
    have hm : (marks j k).length = j := by simp [marks]
    have hl : (marks j k ++ a.drop j).length = a.length := by simp [hm]; omega
    have e2 : a.drop j = a[j] :: a.drop (j + 1) := by rw [List.drop_eq_getElem_cons hj]
    have hd : decide ((j : Int) < (a.length : Int)) = true := by simp; omega
    simp only [hl, hd, cond_true, idx_nat]
    rw [w64_id (by omega) (by omega), w64_id (by omega) (by omega), e2, List.getElem?_append_right (by omega), hm, Nat.sub_self, List.getElem?_cons_zero, Option.bind_some, Int.toNat_natCast, List.set_append_right _ _ (by omega), hm, Nat.sub_self, List.set_cons_zero]
    have e3 : marks (j + 1) k = marks j k ++ [k + (j : Int)] := by simp [marks, List.range_succ]
    rw [e3]; simp [Int.add_assoc]
  · have hl : (marks a.length k ++ a.drop a.length).length = a.length := by simp [marks]
    simp only [hl]
    simp


theorem pow_loop {n k : Int} {N K : Nat} (hn : n = (N : Int)) (hk : k = (K : Int)) (hN : 1 ≤ N) (hK : N ^ K ≤ 9223372036854775807) (hK2 : K ≤ 4294967296) : (
  (iter (S := Int × Int) (R := Int) (fun s2 =>
  (bif (decide (0 < s2.1)) then some (.nx (w64 (s2.1 - 1), w64 (s2.2 * n))) else some (.br (s2.1, s2.2)))) FU (k, 1)).bind fun o6 => after o6 (fun r_ => some r_) (fun s2 =>
  some s2.2)) = some ((N ^ K : Nat) : Int) := by
  subst hn hk
  rw [iter_br (fun t => ((K : Int) - t, ((N ^ t : Nat) : Int))) (t := (0, ((N ^ K : Nat) : Int))) K (by omega)]
  · rfl
  · simp
  · intro j hj
    have hd : decide ((0 : Int) < (K : Int) - j) = true := by simp; omega
    have hp : N ^ (j + 1) ≤ N ^ K := Nat.pow_le_pow_right hN (by omega)
    simp only [hd, cond_true]
    rw [w64_id (by omega) (by omega), show ((N ^ j : Nat) : Int) * (N : Int) = ((N ^ (j + 1) : Nat) : Int) by rw [Nat.pow_succ]; simp, w64_nat (by omega)]
    simp; omega
  · simp

theorem power_eq {n k : Int} {N K : Nat} (hn : n = (N : Int)) (hk : k = (K : Int)) (hN : 1 ≤ N) (hK : N ^ K ≤ 9223372036854775807) (hK2 : K ≤ 4294967296) : s_impl_power n k = some ((N ^ K : Nat) : Int) := pow_loop hn hk hN hK hK2

theorem l2Pow_eq {n k : Int} {N K : Nat} (hn : n = (N : Int)) (hk : k = (K : Int)) (hN : 1 ≤ N) (hK : N ^ K ≤ 9223372036854775807) (hK2 : K ≤ 4294967296) : s_spec_l2Pow n k = some ((N ^ K : Nat) : Int) := pow_loop hn hk hN hK hK2


theorem inSize_eq (l : List Int) (n : Int) : s_impl_inSize l n = some (l.all fun x => decide (0 ≤ x) && decide (x < n)) := by
  unfold s_impl_inSize
  rw [forR_chk (fun x => decide (0 ≤ x) && decide (x < n)) false]
  · cases l.all fun x => decide (0 ≤ x) && decide (x < n) <;> rfl
  · intro i x _
    by_cases h : x < 0
    · simp [h]; simp [show ¬ 0 ≤ x by omega]
    · by_cases h' : n ≤ x
      · simp [h, h']; simp [show ¬ x < n by omega]
      · simp [h, h', show 0 ≤ x by omega, show x < n by omega]


theorem l1In_eq (x a b : Int) : s_spec_l1In x a b = some (decide (a ≤ x) && decide (x ≤ b)) := by
  unfold s_spec_l1In
  by_cases h : a ≤ x <;> simp [h]


theorem all_range {α : Type} (l : List α) (p : α → Bool) (d : α) : (List.range l.length).all (fun j => p (l[j]?.getD d)) = l.all p := by
  rw [Bool.eq_iff_iff]
  simp only [List.all_eq_true, List.mem_range]
  constructor
  · intro h x hx
    obtain ⟨i, hi, rfl⟩ := List.mem_iff_getElem.1 hx
    have := h i hi
    simpa [List.getElem?_eq_getElem hi] using this
  · intro h j hj
    rw [List.getElem?_eq_getElem hj]
    exact h _ (List.getElem_mem hj)


/-- An operation over a set of N. -/
def opOk (N : Nat) (f : Int × List Int) : Bool := decide (0 ≤ f.1) && (decide (f.1 ≤ 3) && (decide (f.2.length = N ^ f.1.toNat) && f.2.all fun x => decide (0 ≤ x) && decide (x < (N : Int))))

theorem pow_small {N K : Nat} (hN8 : N ≤ 8) (hK : K ≤ 3) : N ^ K ≤ 512 := by
  have h1 : N ^ K ≤ 8 ^ K := Nat.pow_le_pow_left hN8 K
  have h2 : 8 ^ K ≤ 8 ^ 3 := Nat.pow_le_pow_right (by omega) hK
  omega

theorem isOp_eq {n : Int} {N : Nat} (hn : n = (N : Int)) (hN : 1 ≤ N) (hN8 : N ≤ 8) (f : Int × List Int) : s_impl_isOp f n = some (opOk N f) := by
  obtain ⟨a, t⟩ := f
  unfold s_impl_isOp opOk
  by_cases h0 : 0 ≤ a
  · by_cases h3 : a ≤ 3
    · obtain ⟨K, rfl⟩ : ∃ K : Nat, a = (K : Int) := ⟨a.toNat, by omega⟩
      have hp : N ^ K ≤ 512 := pow_small hN8 (by omega)
      have hi : s_impl_inSize t n = some (t.all fun x => decide (0 ≤ x) && decide (x < (N : Int))) := by rw [inSize_eq, hn]
      simp only [h0, h3, decide_true, cond_true, Bool.true_and, Int.toNat_natCast]
      rw [power_eq hn rfl hN (by omega) (by omega), Option.bind_some, hi, Option.bind_some]
      by_cases hl : t.length = N ^ K
      · simp [hl]
      · have : ((t.length : Int) == ((N ^ K : Nat) : Int)) = false := by rw [beq_nat]; simp [hl]
        rw [this]; simp [hl]
    · simp [h0, h3]
  · simp [h0]

theorem l2Op_eq {n : Int} {N : Nat} (hn : n = (N : Int)) (hN : 1 ≤ N) (hN8 : N ≤ 8) (f : Int × List Int) (hl : f.2.length ≤ 4294967296) : s_spec_l2Op n f = some (opOk N f) := by
  obtain ⟨a, t⟩ := f
  unfold s_spec_l2Op opOk
  simp only [l1In_eq, Option.bind_some]
  by_cases h0 : 0 ≤ a
  · by_cases h3 : a ≤ 3
    · obtain ⟨K, rfl⟩ : ∃ K : Nat, a = (K : Int) := ⟨a.toNat, by omega⟩
      have hp : N ^ K ≤ 512 := pow_small hN8 (by omega)
      simp only [h0, h3, decide_true, Bool.true_and, Bool.not_true, cond_false, Int.toNat_natCast]
      rw [l2Pow_eq hn rfl hN (by omega) (by omega), Option.bind_some, Option.bind_some]
      by_cases hl' : t.length = N ^ K
      · have e1 : ((t.length : Int) != ((N ^ K : Nat) : Int)) = false := by rw [hl']; simp
        rw [e1, cond_false, w64_id (by omega) (by omega), forC0_chk (n := t.length) (fun j => decide (0 ≤ t[j]?.getD 0) && decide (t[j]?.getD 0 < (N : Int))) false rfl (by simp at hl; omega)]
        · rw [all_range t (fun x => decide (0 ≤ x) && decide (x < (N : Int))) 0]
          cases t.all fun x => decide (0 ≤ x) && decide (x < (N : Int)) <;> simp [hl']
        · intro j hj
          simp only [idx_nat, List.getElem?_eq_getElem hj, Option.bind_some, Option.getD_some]
          have : decide (t[j] ≤ n - 1) = decide (t[j] < (N : Int)) := by rw [decide_eq_decide]; omega
          rw [this]
          cases decide (0 ≤ t[j]) && decide (t[j] < (N : Int)) <;> rfl
      · have e1 : ((t.length : Int) != ((N ^ K : Nat) : Int)) = true := by rw [bne, beq_nat]; simp [hl']
        rw [e1]; simp [hl']
    · simp [h0, h3]
  · simp [h0]


theorem szIntS_eq (a : List Int) (left : Int) (ha : a.length ≤ 9223372036854775807) (h0 : 0 ≤ left) (h1 : left ≤ 4611686018427387904) : s_laws_szIntS a left = some (if left < a.length then -1 else left - a.length) := by
  unfold s_laws_szIntS
  rw [w64_id (by omega) (by omega)]
  by_cases h : left < a.length
  · rw [if_pos h]; simp [show left - (a.length : Int) < 0 by omega]
  · rw [if_neg h]; simp [show ¬ left - (a.length : Int) < 0 by omega]


def NL (T : List Nat) : List Int := T.map fun x : Nat => (x : Int)

@[simp] theorem NL_len (T : List Nat) : (NL T).length = T.length := by simp [NL]

@[simp] theorem NL_nil : NL [] = [] := rfl

@[simp] theorem NL_cons (x : Nat) (T : List Nat) : NL (x :: T) = (x : Int) :: NL T := rfl

def ga (T : List Nat) (k : Nat) : Nat := T.getD k 0

theorem ga_get {T : List Nat} {k : Nat} (h : k < T.length) : ga T k = T[k] := by simp [ga, List.getElem?_eq_getElem h]

theorem idx_NL {T : List Nat} {k : Nat} (h : k < T.length) : idx (NL T) (k : Int) = some ((ga T k : Nat) : Int) := by
  rw [idx_nat, ga_get h]; simp [NL, List.getElem?_eq_getElem h]

theorem NL_of {t : List Int} (h : ∀ x ∈ t, 0 ≤ x) : ∃ T : List Nat, t = NL T := by
  refine ⟨t.map Int.toNat, ?_⟩
  unfold NL
  rw [List.map_map]
  conv => lhs; rw [← List.map_id t]
  refine List.map_congr_left fun x hx => ?_
  have := h x hx
  simp; omega

theorem w64_add1 {a : Nat} (h : a + 1 ≤ 9223372036854775807) : w64 ((a : Int) + 1) = ((a + 1 : Nat) : Int) := by
  rw [w64_id (by omega) (by omega)]; omega

theorem w64_sub {a b : Nat} (h : b ≤ a) (h' : a ≤ 9223372036854775807) : w64 ((a : Int) - (b : Int)) = ((a - b : Nat) : Int) := by
  rw [w64_id (by omega) (by omega)]; omega

theorem dec_le (a b : Nat) : decide ((a : Int) ≤ (b : Int)) = decide (a ≤ b) := by rw [decide_eq_decide]; omega

/-- An operation on N, of the arity K. -/
structure OpN (N : Nat) (f : Int × List Int) (K : Nat) (T : List Nat) : Prop where
  eq : f = ((K : Int), NL T)
  k3 : K ≤ 3
  len : T.length = N ^ K
  lt : ∀ x ∈ T, x < N

theorem opOk_elim {N : Nat} {f : Int × List Int} (h : opOk N f = true) : ∃ K T, OpN N f K T := by
  obtain ⟨a, t⟩ := f
  simp only [opOk, Bool.and_eq_true, decide_eq_true_eq, List.all_eq_true] at h
  obtain ⟨h0, h3, hl, hx⟩ := h
  obtain ⟨T, rfl⟩ := NL_of (fun x hx' => (hx x hx').1)
  obtain ⟨K, rfl⟩ : ∃ K : Nat, a = (K : Int) := ⟨a.toNat, by omega⟩
  refine ⟨K, T, rfl, by omega, by simpa using hl, fun x hx' => ?_⟩
  have := (hx (x : Int) (List.mem_map.2 ⟨x, hx', rfl⟩)).2
  omega

theorem OpN.ok {N : Nat} {f : Int × List Int} {K : Nat} {T : List Nat} (h : OpN N f K T) : opOk N f = true := by
  obtain ⟨rfl, h3, hl, hx⟩ := h
  simp only [opOk, Bool.and_eq_true, decide_eq_true_eq, List.all_eq_true]
  refine ⟨by omega, by omega, by simpa using hl, fun x hx' => ?_⟩
  obtain ⟨y, hy, rfl⟩ := List.mem_map.1 hx'
  have := hx y hy
  simp; omega

theorem pow_le_512 {N K : Nat} (h8 : N ≤ 8) (hK : K ≤ 3) : N ^ K ≤ 512 := pow_small h8 hK

theorem NL_toNat (T : List Nat) : (NL T).map Int.toNat = T := by
  unfold NL; rw [List.map_map]; exact (List.map_congr_left (fun x _ => by simp)).trans (List.map_id T)

theorem bne_nat (a b : Nat) : ((a : Int) != (b : Int)) = !(a == b) := by rw [bne, beq_nat]


def NLL (L : List (List Nat)) : List (List Int) := L.map NL

@[simp] theorem NLL_len (L : List (List Nat)) : (NLL L).length = L.length := by simp [NLL]

@[simp] theorem NLL_nil : NLL [] = [] := rfl

@[simp] theorem NLL_cons (x : List Nat) (L : List (List Nat)) : NLL (x :: L) = NL x :: NLL L := rfl


theorem eqS_refl {α : Type} (eq : α → α → Option Bool) (a : List α) (ha : a.length ≤ 9223372036854775807) (h : ∀ x ∈ a, eq x x = some true) :
    (bif ((a.length : Int) != (a.length : Int)) then some false else (forC (S := Unit) (R := Bool) (fun k s => (idx a k).bind fun x => (idx a k).bind fun y => (eq x y).bind fun r => (bif (!r) then some (.rt false) else some (.nx ()))) 0 (a.length : Int) ()).bind fun o => after o (fun r_ => some r_) (fun s => some true)) = some true := by
  rw [bne_self_eq_false, cond_false, forC0_chk (n := a.length) (fun _ => true) false rfl ha]
  · rw [show ((List.range a.length).all fun _ => true) = true by simp]; rfl
  · intro j hj
    simp only [idx_nat, List.getElem?_eq_getElem hj, Option.bind_some, h _ (List.getElem_mem hj)]
    rfl

theorem toS_loop {α : Type} (f : α → Option α) (z : α) (a : List α) (ha : a.length ≤ 4294967296) (h : ∀ x ∈ a, f x = some x) :
    ((mks (a.length : Int) z).bind fun y3 => (forC (S := List α) (R := List α) (fun k s => (idx a k).bind fun x => (f x).bind fun r => (idx s k).bind fun _ => some (.nx (List.set s (Int.toNat k) r))) 0 (a.length : Int) y3).bind fun o => after o (fun r_ => some r_) (fun s => some s)) = some a := by
  rw [mks_ok rfl ha, Option.bind_some, forC0_set (fun j => a[j]?.getD z) (z := z) (n := a.length) rfl ha rfl]
  · rw [Option.bind_some, after_br', map_range_getElem]
  · intro j s hj hs
    simp only [idx_nat, List.getElem?_eq_getElem hj, List.getElem?_eq_getElem (show j < s.length by omega), Option.bind_some, h _ (List.getElem_mem hj), Option.getD_some, Int.toNat_natCast]

/-- Sizes: what is counted is bounded. -/
def SzOk {α : Type} (sz : α → Int → Option Int) (Bd : α → Prop) (a : α) : Prop := ∀ l : Int, 0 ≤ l → l ≤ 1048576 → ∃ v, sz a l = some v ∧ (v < 0 ∨ (Bd a ∧ 0 ≤ v ∧ v ≤ l))

theorem szS_loop {α : Type} (sz : α → Int → Option Int) (Bd : α → Prop) (a : List α) (ha : a.length ≤ 9223372036854775807) (h : ∀ x ∈ a, SzOk sz Bd x) (l : Int) (h0 : 0 ≤ l) (h1 : l ≤ 1048576) :
    ∃ v, (bif (decide ((w64 (l - (a.length : Int))) < 0)) then some (-1) else (forC (S := Int) (R := Int) (fun k s => (idx a k).bind fun x => (sz x s).bind fun r => (bif (decide (r < 0)) then some (.rt (-1)) else some (.nx r))) 0 (a.length : Int) (w64 (l - (a.length : Int)))).bind fun o => after o (fun r_ => some r_) (fun s => some s)) = some v ∧
      (v < 0 ∨ ((a.length ≤ 1048576 ∧ ∀ x ∈ a, Bd x) ∧ 0 ≤ v ∧ v ≤ l)) := by
  rw [w64_id (by omega) (by omega)]
  by_cases hl : l - (a.length : Int) < 0
  · rw [show decide (l - (a.length : Int) < 0) = true by simpa using hl]
    exact ⟨-1, rfl, .inl (by omega)⟩
  · rw [show decide (l - (a.length : Int) < 0) = false by simpa using hl, cond_false]
    rcases forC0_hoare (step := fun k s => (idx a k).bind fun x => (sz x s).bind fun r => (bif (decide (r < 0)) then some (Ctl.rt (S := Int) (-1 : Int)) else some (.nx r))) (fun j s => 0 ≤ s ∧ s ≤ l ∧ ∀ i, i < j → ∀ x, a[i]? = some x → Bd x) (fun _ => False) (fun r => r = -1) (n := a.length) rfl (by omega) (s := l - (a.length : Int)) ⟨by omega, by omega, fun i hi => by omega⟩ (by
      rintro j s hj ⟨hs0, hs1, hb⟩
      obtain ⟨v, hv, hv'⟩ := h a[j] (List.getElem_mem hj) s hs0 (by omega)
      simp only [idx_nat, List.getElem?_eq_getElem hj, Option.bind_some, hv]
      rcases hv' with hv' | ⟨hB, hv0, hv1⟩
      · right; right
        rw [show decide (v < 0) = true by simpa using hv']
        exact ⟨_, rfl, rfl⟩
      · left
        rw [show decide (v < 0) = false by simp; omega]
        refine ⟨_, rfl, hv0, by omega, fun i hi x hx => ?_⟩
        by_cases e : i = j
        · subst e
          rw [List.getElem?_eq_getElem hj] at hx
          cases hx; exact hB
        · exact hb i (by omega) x hx) with ⟨s', e, ⟨a1, a2, a3⟩ | hF⟩ | ⟨r, e, rfl⟩
    · rw [e]
      refine ⟨s', rfl, .inr ⟨⟨by omega, fun x hx => ?_⟩, a1, a2⟩⟩
      obtain ⟨i, hi, rfl⟩ := List.mem_iff_getElem.1 hx
      exact a3 i hi _ (List.getElem?_eq_getElem hi)
    · exact hF.elim
    · rw [e]
      exact ⟨-1, rfl, .inl (by omega)⟩

/-- Marks are found again. -/
def MkOk {α β : Type} (mk : α → Int → Option (Int × β)) (hd : β → Int → Option Int) (C : Nat) (a : α) : Prop :=
  ∀ k : Int, 0 ≤ k → k + C ≤ 4611686018427387904 → ∃ k' a', mk a k = some (k', a') ∧ hd a' k = some k' ∧ k ≤ k' ∧ k' ≤ k + C

theorem markS_loop {α : Type} (mk : α → Int → Option (Int × α)) (hd : α → Int → Option Int) (C : Nat) (a : List α) (ha : a.length ≤ 1048576) (h : ∀ x ∈ a, MkOk mk hd C x) {step : Int × Int × List α → Option (Ctl (Int × Int × List α) (Int × List α))}
    {hstep : Int → Int → List α → Option (Ctl Int Int)}
    (h1 : ∀ (k : Int) (i : Nat) (l : List α) (hi : i < l.length), l.length = a.length → (∃ z, mk l[i] k = some z) → 0 ≤ k → k + C ≤ 4611686018427387904 → step (k, (i : Int), l) = (mk l[i] k).bind fun r => some (.nx (r.1, ((i + 1 : Nat) : Int), l.set i r.2)))
    (h2 : ∀ (k : Int) (i : Nat) (l : List α), i = l.length → step (k, (i : Int), l) = some (.br (k, (i : Int), l)))
    (h3 : ∀ (k : Int) (i : Nat) (l : List α) (hi : i < l.length) (k' : Int), hd l[i] k = some k' → 0 ≤ k → k ≤ k' → k' ≤ k + C → k + C ≤ 4611686018427387904 → hstep (i : Int) k l = some (.nx k')) :
    ∀ k : Int, 0 ≤ k → k + ((a.length * C : Nat) : Int) ≤ 4611686018427387904 → ∃ k' a', ((iter (S := Int × Int × List α) (R := Int × List α) step FU (k, 0, a)).bind fun o => after o (fun r_ => some r_) (fun s => some (s.1, s.2.2))) = some (k', a') ∧
      ((forC (S := Int) (R := Int) (fun i s => hstep i s a') 0 (a'.length : Int) k).bind fun o => after o (fun r_ => some r_) (fun s => some s)) = some k' ∧ k ≤ k' ∧ k' ≤ k + ((a.length * C : Nat) : Int) := by
  intro k hk0 hk1
  -- the marked part, and where each begins
  have main : ∀ m, m ≤ a.length → ∃ (ks : Nat → Int) (l : List α), ks 0 = k ∧ l.length = a.length ∧ (∀ j, j < m → ks j ≤ ks (j + 1) ∧ ks (j + 1) ≤ ks j + C ∧ ∃ x, l[j]? = some x ∧ hd x (ks j) = some (ks (j + 1))) ∧ (∀ j, m ≤ j → l[j]? = a[j]?) ∧
      ∀ fu, iter (S := Int × Int × List α) (R := Int × List α) step (fu + m) (k, 0, a) = iter step fu (ks m, (m : Int), l) := by
    intro m
    induction m with
    | zero => intro _; exact ⟨fun _ => k, a, rfl, rfl, fun j hj => by omega, fun j _ => rfl, fun fu => rfl⟩
    | succ m ih =>
      intro hm
      obtain ⟨ks, l, e0, el, e1, e2, e3⟩ := ih (by omega)
      have hks : ∀ j, j ≤ m → k ≤ ks j ∧ ks j ≤ k + ((j * C : Nat) : Int) := by
        intro j
        induction j with
        | zero => intro _; rw [e0]; omega
        | succ j ihj =>
          intro hj
          have := ihj (by omega)
          have h4 := e1 j (by omega)
          rw [Nat.add_mul, Nat.one_mul]; omega
      have hmC : (m + 1) * C ≤ a.length * C := Nat.mul_le_mul_right C hm
      have hkm := hks m (Nat.le_refl _)
      rw [Nat.add_mul, Nat.one_mul] at hmC
      have hml : m < l.length := by omega
      have hxm : l[m] = a[m]'(by omega) := by
        have := e2 m (Nat.le_refl _)
        rw [List.getElem?_eq_getElem hml, List.getElem?_eq_getElem (by omega)] at this
        exact Option.some.inj this
      obtain ⟨k', x', g1, g2, g3, g4⟩ := h (a[m]'(by omega)) (List.getElem_mem _) (ks m) (by omega) (by omega)
      refine ⟨fun j => if j ≤ m then ks j else k', l.set m x', by simp [e0], by simpa using el, fun j hj => ?_, fun j hj => ?_, fun fu => ?_⟩
      · by_cases e : j = m
        · subst e
          simp only [Nat.le_refl, if_true, show ¬ j + 1 ≤ j by omega, if_false]
          exact ⟨g3, g4, x', by rw [List.getElem?_set_self hml], g2⟩
        · have := e1 j (by omega)
          simp only [show j ≤ m by omega, show j + 1 ≤ m by omega, if_true]
          refine ⟨this.1, this.2.1, ?_⟩
          rw [List.getElem?_set_ne (by omega)]
          exact this.2.2
      · rw [List.getElem?_set_ne (by omega)]; exact e2 j (by omega)
      · have := e3 (fu + 1)
        rw [show fu + (m + 1) = fu + 1 + m by omega, this]
        rw [iter_nx (s' := (k', ((m + 1 : Nat) : Int), l.set m x'))]
        · simp only [show ¬ m + 1 ≤ m by omega, if_false]
        · rw [h1 _ m l hml el ⟨_, by rw [hxm]; exact g1⟩ (by omega) (by omega), hxm, g1]
          simp only [Option.bind_some]
  obtain ⟨ks, l, e0, el, e1, e2, e3⟩ := main a.length (Nat.le_refl _)
  have hks : ∀ j, j ≤ a.length → k ≤ ks j ∧ ks j ≤ k + ((j * C : Nat) : Int) := by
    intro j
    induction j with
    | zero => intro _; rw [e0]; omega
    | succ j ihj =>
      intro hj
      have := ihj (by omega)
      have h4 := e1 j (by omega)
      rw [Nat.add_mul, Nat.one_mul]; omega
  refine ⟨ks a.length, l, ?_, ?_, (hks _ (Nat.le_refl _)).1, (hks _ (Nat.le_refl _)).2⟩
  · have := e3 (FU - a.length)
    rw [show FU - a.length + a.length = FU by unfold FU; omega] at this
    rw [this]
    obtain ⟨n, hn⟩ : ∃ n, FU - a.length = n + 1 := ⟨FU - a.length - 1, by unfold FU; omega⟩
    rw [hn]
    rw [iter_out (h2 _ _ _ (by omega)) (by intro s; simp)]
    rfl
  · rw [forC0_fn ks (n := a.length) (by rw [el]) (by omega) e0.symm]
    · rfl
    · intro j hj
      obtain ⟨g3, g4, x, hx, g2⟩ := e1 j hj
      have hjl : j < l.length := by omega
      rw [List.getElem?_eq_getElem hjl] at hx
      have hkj := hks j (by omega)
      have hC : (j + 1) * C ≤ a.length * C := Nat.mul_le_mul_right C hj
      rw [Nat.add_mul, Nat.one_mul] at hC
      exact h3 _ j l hjl _ (by rw [Option.some.inj hx]; exact g2) (by omega) g3 g4 (by omega)


def B1 (l : List Int) : Prop := l.length ≤ 1048576

theorem szIntS_ok (a : List Int) (ha : a.length ≤ maxLen) : SzOk s_laws_szIntS B1 a := by
  intro l h0 h1
  unfold maxLen at ha
  rw [szIntS_eq a l (by omega) h0 (by omega)]
  by_cases h : l < a.length
  · rw [if_pos h]; exact ⟨-1, rfl, .inl (by omega)⟩
  · rw [if_neg h]; exact ⟨_, rfl, .inr ⟨by unfold B1; omega, by omega, by omega⟩⟩

theorem eqIntS_refl (a : List Int) (ha : B1 a) : s_laws_eqIntS a a = some true := by
  unfold B1 at ha; rw [eqIntS_eq a a (by omega)]; simp

theorem toIntS_ok (a : List Int) (ha : B1 a) : s_laws_toIntS a = some a := by
  unfold B1 at ha; exact toIntS_eq a (by omega)


theorem neg_dec' {k : Int} (h : 0 ≤ k) : decide (k < 0) = false := by simp; omega

def BO (f : Int × List Int) : Prop := B1 f.2

def BA (a : Int × List (Int × List Int)) : Prop := a.2.length ≤ 1048576 ∧ ∀ f ∈ a.2, BO f

theorem szOp_ok (a : Int × List Int) (ha : a.2.length ≤ maxLen) : SzOk s_laws_szOp BO a := by
  intro l h0 h1
  obtain ⟨v, hv, h2⟩ := szIntS_ok a.2 ha l h0 h1
  unfold s_laws_szOp
  rw [hv, Option.bind_some]
  by_cases hn : v < 0
  · rw [show decide (v < 0) = true by simpa using hn]; exact ⟨-1, rfl, .inl (by omega)⟩
  · rw [show decide (v < 0) = false by simpa using hn]; exact ⟨v, rfl, h2⟩

theorem eqOp_refl (a : Int × List Int) (ha : BO a) : s_laws_eqOp a a = some true := by
  unfold s_laws_eqOp
  rw [bne_self_eq_false, cond_false, eqIntS_refl a.2 ha]; rfl

theorem toOp_ok (a : Int × List Int) (ha : BO a) : s_laws_toOp a = some a := by
  unfold s_laws_toOp; rw [toIntS_ok a.2 ha]; rfl

theorem szAlgebra_ok (a : Int × List (Int × List Int)) (ha : a.2.length ≤ maxLen) (h : ∀ f ∈ a.2, f.2.length ≤ maxLen) : SzOk s_laws_szAlgebra BA a := by
  intro l h0 h1
  obtain ⟨v, hv, h2⟩ := szS_loop s_laws_szOp BO a.2 (by unfold maxLen at ha; omega) (fun x hx => szOp_ok x (h x hx)) l h0 h1
  have hv : s_laws_szOpS a.2 l = some v := hv
  unfold s_laws_szAlgebra
  rw [hv, Option.bind_some]
  by_cases hn : v < 0
  · rw [show decide (v < 0) = true by simpa using hn]; exact ⟨-1, rfl, .inl (by omega)⟩
  · rw [show decide (v < 0) = false by simpa using hn]; exact ⟨v, rfl, h2⟩

theorem eqAlgebra_refl (a : Int × List (Int × List Int)) (ha : BA a) : s_laws_eqAlgebra a a = some true := by
  have e : s_laws_eqOpS a.2 a.2 = some true := eqS_refl s_laws_eqOp a.2 (by have := ha.1; omega) (fun x hx => eqOp_refl x (ha.2 x hx))
  unfold s_laws_eqAlgebra
  rw [bne_self_eq_false, cond_false, e]; rfl

theorem toAlgebra_ok (a : Int × List (Int × List Int)) (ha : BA a) : s_laws_toAlgebra a = some a := by
  have e : s_laws_toOpS a.2 = some a.2 := toS_loop s_laws_toOp (0, []) a.2 (by have := ha.1; omega) (fun x hx => toOp_ok x (ha.2 x hx))
  unfold s_laws_toAlgebra; rw [e]; rfl

/-- The marks of an operation that lies in a row. -/
def mkOp1 (x : Int × List Int) (k : Int) : Option (Int × (Int × List Int)) := (s_laws_markIntS x.2 (k + 1)).bind fun r => some (r.1, (k, r.2))

def hdOp1 (x : Int × List Int) (k : Int) : Option Int := if x.1 = k then some (k + 1 + (x.2.length : Int)) else none

theorem mkOp1_ok (x : Int × List Int) (hx : BO x) : MkOk mkOp1 hdOp1 1048577 x := by
  intro k h0 h1
  have hx' : x.2.length ≤ 1048576 := hx
  refine ⟨k + 1 + (x.2.length : Int), (k, marks x.2.length (k + 1)), by unfold mkOp1; rw [markIntS_eq x.2 (k + 1) (by omega) (by omega) (by omega)]; rfl, by unfold hdOp1; rw [if_pos rfl]; simp [marks], by omega, by omega⟩

theorem markAlgebra_ok (a : Int × List (Int × List Int)) (ha : BA a) (k : Int) (h0 : 0 ≤ k) (h1 : k + 1099512676352 ≤ 4611686018427387904) :
    ∃ k' t, s_laws_markAlgebra a k = some (k', t) ∧ 0 ≤ k' ∧ k' ≤ k + 1099512676352 := by
  have hl := ha.1
  have hC : a.2.length * 1048577 ≤ 1048576 * 1048577 := Nat.mul_le_mul_right _ hl
  have h := markS_loop mkOp1 hdOp1 1048577 a.2 hl (fun x hx => mkOp1_ok x (ha.2 x hx)) (step := fun s57 =>
  (bif (decide (s57.2.1 < (s57.2.2.length : Int))) then (idx s57.2.2 s57.2.1).bind fun x66 =>
  (idx (List.set s57.2.2 (Int.toNat s57.2.1) (s57.1, x66.2)) s57.2.1).bind fun x70 =>
  (s_laws_markIntS x70.2 (w64 (s57.1 + 1))).bind fun r76 =>
  some (.nx (r76.1, w64 (s57.2.1 + 1), List.set (List.set s57.2.2 (Int.toNat s57.2.1) (s57.1, x66.2)) (Int.toNat s57.2.1) (x70.1, r76.2))) else some (.br (s57.1, s57.2.1, s57.2.2))))
    (hstep := fun i k l => (idx l i).bind fun x => (hdOp1 x k).bind fun r => some (.nx r)) (fun k i l hi hl' hm h0 hk => by
      obtain ⟨z, hz⟩ := hm
      have hd : decide ((i : Int) < (l.length : Int)) = true := by simp; omega
      have hs : (l.set i (k, l[i].2))[i]? = some (k, l[i].2) := by rw [List.getElem?_set_self hi]
      simp only [hd, cond_true, idx_nat, List.getElem?_eq_getElem hi, Option.bind_some, Int.toNat_natCast, hs, w64_add1 (show i + 1 ≤ 9223372036854775807 by omega), w64_id (show -9223372036854775808 ≤ k + 1 by omega) (show k + 1 ≤ 9223372036854775807 by omega), List.set_set, mkOp1]
      rw [Option.bind_assoc]
      rfl) (fun k i l hi => by subst hi; simp) (fun k i l hi k' hh h0 h1 h2 hk => by
      simp only [idx_nat, List.getElem?_eq_getElem hi, Option.bind_some, hh]) k h0 (by omega)
  obtain ⟨k', t, g1, _, g3, g4⟩ := h
  have g1' : s_laws_markOpS a.2 k = some (k', t) := g1
  exact ⟨k', t, by unfold s_laws_markAlgebra; rw [g1']; rfl, by omega, by omega⟩



/-- A test, and what it says. -/
def Says (o : Option Bool) (P : Prop) : Prop := ∃ b, o = some b ∧ (b = true ↔ P)

theorem Says.cases {o : Option Bool} {P : Prop} (h : Says o P) : (o = some true ∧ P) ∨ (o = some false ∧ ¬ P) := by
  obtain ⟨b, rfl, hb⟩ := h
  cases b with
  | true => exact .inl ⟨rfl, hb.1 rfl⟩
  | false => exact .inr ⟨rfl, fun hp => by cases hb.2 hp⟩

theorem Says.yes {o : Option Bool} {P : Prop} (h : o = some true) (hp : P) : Says o P := ⟨true, h, by simp [hp]⟩

theorem Says.no {o : Option Bool} {P : Prop} (h : o = some false) (hp : ¬ P) : Says o P := ⟨false, h, by simp [hp]⟩

theorem Says.iff {o : Option Bool} {P Q : Prop} (h : Says o P) (hq : P ↔ Q) : Says o Q := by
  obtain ⟨b, rfl, hb⟩ := h; exact ⟨b, rfl, hb.trans hq⟩

theorem Says.eq {o o' : Option Bool} {P : Prop} (h : Says o P) (h' : Says o' P) : o = o' := by
  rcases h.cases with ⟨rfl, hp⟩ | ⟨rfl, hp⟩ <;> rcases h'.cases with ⟨rfl, hp'⟩ | ⟨rfl, hp'⟩ <;> first | rfl | exact absurd hp hp' | exact absurd hp' hp


/-- A test of all elements of a row. -/
theorem range_says {α : Type} (l : List α) (P : α → Prop) (f : α → Option Bool) (h : ∀ x ∈ l, Says (f x) (P x)) : ∀ i : Int, Says ((forR (S := Unit) (R := Bool) (fun _ x s => (f x).bind fun r => (bif (!r) then some (.rt false) else some (.nx ()))) i l ()).bind fun o => after o (fun r_ => some r_) (fun _ => some true)) (∀ x ∈ l, P x) := by
  induction l with
  | nil => intro i; exact .yes rfl (by simp)
  | cons x l ih =>
    intro i
    have := ih (fun y hy => h y (by simp [hy])) (i + 1)
    unfold forR
    rcases (h x (by simp)).cases with ⟨e, hp⟩ | ⟨e, hp⟩
    · rw [e]
      refine Says.iff this ?_
      simp [hp]
    · rw [e]
      exact .no rfl (fun H => hp (H x (by simp)))

theorem count_says {α : Type} (l : List α) (P : α → Prop) (f : α → Option Bool) (hl : l.length ≤ 9223372036854775807) (h : ∀ x ∈ l, Says (f x) (P x)) : Says ((forC (S := Unit) (R := Bool) (fun k s => (idx l k).bind fun x => (f x).bind fun r => (bif (!r) then some (.rt false) else some (.nx ()))) 0 (l.length : Int) ()).bind fun o => after o (fun r_ => some r_) (fun _ => some true)) (∀ x ∈ l, P x) := by
  rcases forC0_hoare (R := Bool) (step := fun k (s : Unit) => (idx l k).bind fun x => (f x).bind fun r => (bif (!r) then some (.rt false) else some (.nx ()))) (fun j _ => ∀ i, i < j → ∀ x, l[i]? = some x → P x) (fun _ => False) (fun b => b = false ∧ ¬ ∀ x ∈ l, P x) (n := l.length) rfl hl (s := ()) (fun i hi => by omega) (by
    rintro j ⟨⟩ hj hI
    rw [idx_nat, List.getElem?_eq_getElem hj, Option.bind_some]
    rcases (h _ (List.getElem_mem hj)).cases with ⟨e, hp⟩ | ⟨e, hp⟩
    · left
      refine ⟨(), by rw [e]; rfl, fun i hi x hx => ?_⟩
      by_cases e' : i = j
      · subst e'
        rw [List.getElem?_eq_getElem hj] at hx
        cases hx; exact hp
      · exact hI i (by omega) x hx
    · right; right
      exact ⟨false, by rw [e]; rfl, rfl, fun H => hp (H _ (List.getElem_mem hj))⟩) with ⟨s', e, h' | h'⟩ | ⟨b, e, rfl, h'⟩
  · refine .yes (by rw [e]; rfl) (fun x hx => ?_)
    obtain ⟨i, hi, rfl⟩ := List.mem_iff_getElem.1 hx
    exact h' i hi _ (List.getElem?_eq_getElem hi)
  · exact h'.elim
  · exact .no (by rw [e]; rfl) h'


def bitsL : Nat → List (List Nat)
  | 0 => [[]]
  | n + 1 => (bitsL n).flatMap fun t => [0 :: t, 1 :: t]

theorem bitsL_mem : ∀ (T : List Nat), (∀ x ∈ T, x < 2) → T ∈ bitsL T.length
  | [], _ => by simp [bitsL]
  | x :: T, h => by
    have ih := bitsL_mem T (fun y hy => h y (by simp [hy]))
    have hx := h x (by simp)
    simp only [List.length_cons, bitsL, List.mem_flatMap]
    refine ⟨T, ih, ?_⟩
    rcases (show x = 0 ∨ x = 1 by omega) with rfl | rfl <;> simp

def monoB (T : List Nat) : Bool := (s_impl_isMonotone (0, NL T)).getD false

def sumB (T : List Nat) : Bool := (s_impl_isSum (0, NL T)).getD false

def sdB (T : List Nat) : Bool := (List.range T.length).all fun i => !(ga T i == ga T (T.length - 1 - i))

def chkT (T : List Nat) : Bool := (s_impl_isMonotone (0, NL T) == some (monoB T)) && (s_spec_l18Monotone (0, NL T) == some (monoB T)) && (s_impl_isSum (0, NL T) == some (sumB T)) && (s_spec_l18Affine (0, NL T) == some (sumB T))

theorem chk1 : (bitsL 1).all chkT = true := by decide +kernel

theorem chk2 : (bitsL 2).all chkT = true := by decide +kernel

theorem chk4 : (bitsL 4).all chkT = true := by decide +kernel

theorem chk8 : (bitsL 8).all chkT = true := by decide +kernel

theorem chkT_ok {T : List Nat} {K : Nat} (hK : K ≤ 3) (hT : T.length = 2 ^ K) (hx : ∀ x ∈ T, x < 2) : chkT T = true := by
  have hm := bitsL_mem T hx
  rw [hT] at hm
  rcases (show K = 0 ∨ K = 1 ∨ K = 2 ∨ K = 3 by omega) with rfl | rfl | rfl | rfl
  · exact List.all_eq_true.1 chk1 T hm
  · exact List.all_eq_true.1 chk2 T hm
  · exact List.all_eq_true.1 chk4 T hm
  · exact List.all_eq_true.1 chk8 T hm


theorem postFns {T : List Nat} {K : Nat} (k : Int) (hK : K ≤ 3) (hT : T.length = 2 ^ K) (hx : ∀ x ∈ T, x < 2) :
    s_impl_isMonotone (k, NL T) = some (monoB T) ∧ s_spec_l18Monotone (k, NL T) = some (monoB T) ∧ s_impl_isSum (k, NL T) = some (sumB T) ∧ s_spec_l18Affine (k, NL T) = some (sumB T) := by
  have h := chkT_ok hK hT hx
  simp only [chkT, Bool.and_eq_true, beq_iff_eq] at h
  exact ⟨h.1.1.1, h.1.1.2, h.1.2, h.2⟩

theorem isSelfDual_eq {T : List Nat} (k : Int) (h0 : 0 < T.length) (hl : T.length ≤ 4294967296) : s_impl_isSelfDual (k, NL T) = some (sdB T) := by
  unfold s_impl_isSelfDual
  simp only
  rw [forC0_chk (n := T.length) (fun i => !(ga T i == ga T (T.length - 1 - i))) false (by simp) (by omega)]
  · show _ = some (sdB T)
    unfold sdB
    cases (List.range T.length).all _ <;> rfl
  · intro i hi
    rw [idx_NL hi, Option.bind_some, NL_len, show w64 (w64 ((T.length : Int) - 1) - (i : Int)) = ((T.length - 1 - i : Nat) : Int) by rw [show ((T.length : Int) - 1) = ((T.length : Nat) : Int) - ((1 : Nat) : Int) from rfl, w64_sub (by omega) (by omega), w64_sub (by omega) (by omega)], idx_NL (by omega), Option.bind_some, beq_nat]
    have : (ga T (T.length - 1 - i) == ga T i) = (ga T i == ga T (T.length - 1 - i)) := by rw [Bool.eq_iff_iff, beq_iff_eq, beq_iff_eq]; exact eq_comm
    rw [this]
    cases ga T i == ga T (T.length - 1 - i) <;> rfl

/-- The five classes, of one operation more. -/
def post1 (b : Bool × Bool × Bool × Bool × Bool) (T : List Nat) : Bool × Bool × Bool × Bool × Bool :=
  (b.1 && (ga T 0 == 0), b.2.1 && (ga T (T.length - 1) == 1), b.2.2.1 && monoB T, b.2.2.2.1 && sdB T, b.2.2.2.2 && sumB T)

def five (b : Bool × Bool × Bool × Bool × Bool) : List Bool := [b.1, b.2.1, b.2.2.1, b.2.2.2.1, b.2.2.2.2]

theorem w64_last {T : List Nat} (h0 : 0 < T.length) (hl : T.length ≤ 4294967296) : w64 ((T.length : Int) - 1) = ((T.length - 1 : Nat) : Int) := by
  rw [show ((T.length : Int) - 1) = ((T.length : Nat) : Int) - ((1 : Nat) : Int) from rfl, w64_sub (by omega) (by omega)]

theorem beq_nat0 (a : Nat) : ((a : Int) == 0) = (a == 0) := beq_nat a 0

theorem beq_nat1 (a : Nat) : ((a : Int) == 1) = (a == 1) := beq_nat a 1

theorem five_idx (a b c d e : Bool) : idx [a, b, c, d, e] 0 = some a ∧ idx [a, b, c, d, e] 1 = some b ∧ idx [a, b, c, d, e] 2 = some c ∧ idx [a, b, c, d, e] 3 = some d ∧ idx [a, b, c, d, e] 4 = some e := ⟨rfl, rfl, rfl, rfl, rfl⟩

theorem five_set (a b c d e x : Bool) : List.set [a, b, c, d, e] (Int.toNat 0) x = [x, b, c, d, e] ∧ List.set [a, b, c, d, e] (Int.toNat 1) x = [a, x, c, d, e] ∧ List.set [a, b, c, d, e] (Int.toNat 2) x = [a, b, x, d, e] ∧ List.set [a, b, c, d, e] (Int.toNat 3) x = [a, b, c, x, e] ∧ List.set [a, b, c, d, e] (Int.toNat 4) x = [a, b, c, d, x] := ⟨rfl, rfl, rfl, rfl, rfl⟩

theorem impl_post_step {f : Int × List Int} {K : Nat} {T : List Nat} (hf : OpN 2 f K T) (b : Bool × Bool × Bool × Bool × Bool) :
    (((idx (five b) 0).bind fun x390 =>
  (bif x390 then (idx f.2 0).bind fun x393 =>
  (idx (five b) 0).bind fun x395 =>
  some (List.set (five b) (Int.toNat 0) (x393 == 0)) else (idx (five b) 0).bind fun x398 =>
  some (List.set (five b) (Int.toNat 0) false))).bind fun s386 =>
  ((idx s386 1).bind fun x428 =>
  (bif x428 then (idx f.2 (w64 ((f.2.length : Int) - 1))).bind fun x431 =>
  (idx s386 1).bind fun x433 =>
  some (List.set s386 (Int.toNat 1) (x431 == 1)) else (idx s386 1).bind fun x436 =>
  some (List.set s386 (Int.toNat 1) false))).bind fun s424 =>
  ((idx s424 2).bind fun x466 =>
  (bif x466 then (s_impl_isMonotone (f.1, f.2)).bind fun r470 =>
  (idx s424 2).bind fun x471 =>
  some (List.set s424 (Int.toNat 2) r470) else (idx s424 2).bind fun x474 =>
  some (List.set s424 (Int.toNat 2) false))).bind fun s462 =>
  ((idx s462 3).bind fun x504 =>
  (bif x504 then (s_impl_isSelfDual (f.1, f.2)).bind fun r508 =>
  (idx s462 3).bind fun x509 =>
  some (List.set s462 (Int.toNat 3) r508) else (idx s462 3).bind fun x512 =>
  some (List.set s462 (Int.toNat 3) false))).bind fun s500 =>
  (idx s500 4).bind fun x516 =>
  (bif x516 then (s_impl_isSum (f.1, f.2)).bind fun r520 =>
  (idx s500 4).bind fun x521 =>
  some (Ctl.nx (R := List Bool × Bool) (List.set s500 (Int.toNat 4) r520)) else (idx s500 4).bind fun x524 =>
  some (.nx (List.set s500 (Int.toNat 4) false)))) = some (.nx (five (post1 b T))) := by
  obtain ⟨rfl, hk, hT, hx⟩ := hf
  have hp : 0 < T.length := by rw [hT]; exact Nat.pow_pos (by omega)
  have h8 := pow_le_512 (N := 2) (by omega) hk
  obtain ⟨e1, _, e2, _⟩ := postFns (K : Int) hk hT hx
  have e3 := isSelfDual_eq (K : Int) hp (by omega)
  have i0 := idx_NL (T := T) (k := 0) hp
  have i1 := idx_NL (T := T) (k := T.length - 1) (by omega)
  rw [show (((0 : Nat) : Int)) = 0 from rfl] at i0
  obtain ⟨b0, b1, b2, b3, b4⟩ := b
  simp only [five, post1, NL_len, w64_last hp (show T.length ≤ 4294967296 by omega), i0, i1, e1, e2, e3, beq_nat0, beq_nat1]
  cases b0 <;> cases b1 <;> cases b2 <;> cases b3 <;> cases b4 <;> simp only [five_idx, five_set, Option.bind_some, cond_true, cond_false, beq_nat0, beq_nat1, Bool.true_and, Bool.false_and]

theorem spec_sd_loop {T : List Nat} {s : List Bool} {b : Bool} (h0 : 0 < T.length) (hl : T.length ≤ 4294967296) (h5 : s.length = 5) (hb : s[3]? = some b) :
    ∃ k, iter (S := Int × (List Bool)) (R := (List Bool) × Bool) (fun s544 =>
  (bif (decide (s544.1 ≤ (w64 (((NL T).length : Int) - 1)))) then (idx s544.2 3).bind fun x554 =>
  (bif x554 then (idx (NL T) s544.1).bind fun x557 =>
  (idx (NL T) (w64 ((w64 (((NL T).length : Int) - 1)) - s544.1))).bind fun x559 =>
  (idx s544.2 3).bind fun x561 =>
  some (.nx (w64 (s544.1 + 1), List.set s544.2 (Int.toNat 3) (x557 != x559))) else (idx s544.2 3).bind fun x564 =>
  some (.nx (w64 (s544.1 + 1), List.set s544.2 (Int.toNat 3) false))) else some (.br (s544.1, s544.2)))) FU (0, s) = some (.br (k, s.set 3 (b && sdB T))) := by
  refine ⟨(T.length : Int), ?_⟩
  rw [iter_br (fun j => ((j : Int), s.set 3 (b && (List.range j).all fun i => !(ga T i == ga T (T.length - 1 - i))))) (t := ((T.length : Int), s.set 3 (b && sdB T))) T.length (by omega)]
  · simp only [List.range_zero, List.all_nil, Bool.and_true]
    congr 1
    have hlt : 3 < s.length := by omega
    rw [List.getElem?_eq_getElem hlt] at hb
    rw [← Option.some.inj hb, List.set_getElem_self]
  · intro j hj
    have hget : ∀ c, (s.set 3 c)[3]? = some c := fun c => by rw [List.getElem?_set_self (by omega)]
    have e3 : ∀ l : List Bool, idx l 3 = l[3]? := fun l => idx_nat l 3
    rw [NL_len, w64_last h0 hl, dec_le, show decide (j ≤ T.length - 1) = true by simp; omega, cond_true]
    simp only [e3, hget, Option.bind_some]
    rw [List.range_succ, List.all_append]
    cases hc : b && (List.range j).all fun i => !(ga T i == ga T (T.length - 1 - i)) with
    | true =>
      rw [cond_true, idx_NL hj, Option.bind_some, w64_sub (by omega) (by omega), idx_NL (by omega), Option.bind_some, w64_add1 (by omega), show Int.toNat 3 = 3 from rfl, List.set_set, bne_nat]
      simp only [Bool.and_eq_true] at hc
      rw [hc.1, hc.2]
      simp
    | false =>
      rw [cond_false, w64_add1 (by omega), show Int.toNat 3 = 3 from rfl, List.set_set, ← Bool.and_assoc, hc]
      simp
  · simp only
    rw [NL_len, w64_last h0 hl, dec_le, show decide (T.length ≤ T.length - 1) = false by simp; omega]; rfl


theorem spec_post_step {f : Int × List Int} {K : Nat} {T : List Nat} (hf : OpN 2 f K T) (b : Bool × Bool × Bool × Bool × Bool) :
  (((idx (five b) 0).bind fun x425 =>
  (bif x425 then (idx f.2 0).bind fun x428 =>
  (idx (five b) 0).bind fun x430 =>
  some (List.set (five b) (Int.toNat 0) (x428 == 0)) else (idx (five b) 0).bind fun x433 =>
  some (List.set (five b) (Int.toNat 0) false))).bind fun s421 =>
  ((idx s421 1).bind fun x463 =>
  (bif x463 then (idx f.2 (w64 ((f.2.length : Int) - 1))).bind fun x466 =>
  (idx s421 1).bind fun x468 =>
  some (List.set s421 (Int.toNat 1) (x466 == 1)) else (idx s421 1).bind fun x471 =>
  some (List.set s421 (Int.toNat 1) false))).bind fun s459 =>
  ((idx s459 2).bind fun x501 =>
  (bif x501 then (s_spec_l18Monotone (f.1, f.2)).bind fun r505 =>
  (idx s459 2).bind fun x506 =>
  some (List.set s459 (Int.toNat 2) r505) else (idx s459 2).bind fun x509 =>
  some (List.set s459 (Int.toNat 2) false))).bind fun s497 =>
  (iter (S := Int × (List Bool)) (R := (List Bool) × Bool) (fun s544 =>
  (bif (decide (s544.1 ≤ (w64 ((f.2.length : Int) - 1)))) then (idx s544.2 3).bind fun x554 =>
  (bif x554 then (idx f.2 s544.1).bind fun x557 =>
  (idx f.2 (w64 ((w64 ((f.2.length : Int) - 1)) - s544.1))).bind fun x559 =>
  (idx s544.2 3).bind fun x561 =>
  some (.nx (w64 (s544.1 + 1), List.set s544.2 (Int.toNat 3) (x557 != x559))) else (idx s544.2 3).bind fun x564 =>
  some (.nx (w64 (s544.1 + 1), List.set s544.2 (Int.toNat 3) false))) else some (.br (s544.1, s544.2)))) FU (0, s497)).bind fun o548 => after o548 (fun r_ => some (Ctl.rt (S := List Bool) r_)) (fun s544 =>
  (idx s544.2 4).bind fun x567 =>
  (bif x567 then (s_spec_l18Affine (f.1, f.2)).bind fun r571 =>
  (idx s544.2 4).bind fun x572 =>
  some (.nx (List.set s544.2 (Int.toNat 4) r571)) else (idx s544.2 4).bind fun x575 =>
  some (.nx (List.set s544.2 (Int.toNat 4) false))))) = some (.nx (five (post1 b T))) := by
  obtain ⟨rfl, hk, hT, hx⟩ := hf
  have hp : 0 < T.length := by rw [hT]; exact Nat.pow_pos (by omega)
  have h8 := pow_le_512 (N := 2) (by omega) hk
  obtain ⟨_, e1, _, e2⟩ := postFns (K : Int) hk hT hx
  have i0 := idx_NL (T := T) (k := 0) hp
  have i1 := idx_NL (T := T) (k := T.length - 1) (by omega)
  rw [show (((0 : Nat) : Int)) = 0 from rfl] at i0
  obtain ⟨b0, b1, b2, b3, b4⟩ := b
  have e : ∀ c0 c1 c2 : Bool, ∃ k, _ := fun c0 c1 c2 => spec_sd_loop (T := T) (s := [c0, c1, c2, b3, b4]) (b := b3) hp (by omega) rfl rfl
  obtain ⟨k, ek⟩ := e (b0 && (ga T 0 == 0)) (b1 && (ga T (T.length - 1) == 1)) (b2 && monoB T)
  have hset : List.set [b0 && (ga T 0 == 0), b1 && (ga T (T.length - 1) == 1), b2 && monoB T, b3, b4] 3 (b3 && sdB T) = [b0 && (ga T 0 == 0), b1 && (ga T (T.length - 1) == 1), b2 && monoB T, b3 && sdB T, b4] := rfl
  rw [hset] at ek
  have step1 : ((idx [b0, b1, b2, b3, b4] 0).bind fun x425 =>
  (bif x425 then (idx (NL T) 0).bind fun x428 =>
  (idx [b0, b1, b2, b3, b4] 0).bind fun x430 =>
  some (List.set [b0, b1, b2, b3, b4] (Int.toNat 0) (x428 == 0)) else (idx [b0, b1, b2, b3, b4] 0).bind fun x433 =>
  some (List.set [b0, b1, b2, b3, b4] (Int.toNat 0) false))) = some [b0 && (ga T 0 == 0), b1, b2, b3, b4] := by
    rw [i0]; cases b0 <;> simp only [five_idx, five_set, Option.bind_some, cond_true, cond_false, beq_nat0, Bool.true_and, Bool.false_and]
  have step2 : ∀ c0, ((idx [c0, b1, b2, b3, b4] 1).bind fun x463 =>
  (bif x463 then (idx (NL T) (w64 (((NL T).length : Int) - 1))).bind fun x466 =>
  (idx [c0, b1, b2, b3, b4] 1).bind fun x468 =>
  some (List.set [c0, b1, b2, b3, b4] (Int.toNat 1) (x466 == 1)) else (idx [c0, b1, b2, b3, b4] 1).bind fun x471 =>
  some (List.set [c0, b1, b2, b3, b4] (Int.toNat 1) false))) = some [c0, b1 && (ga T (T.length - 1) == 1), b2, b3, b4] := by
    intro c0
    rw [NL_len, w64_last hp (by omega), i1]; cases b1 <;> simp only [five_idx, five_set, Option.bind_some, cond_true, cond_false, beq_nat1, Bool.true_and, Bool.false_and]
  have step3 : ∀ c0 c1, ((idx [c0, c1, b2, b3, b4] 2).bind fun x501 =>
  (bif x501 then (s_spec_l18Monotone ((K : Int), NL T)).bind fun r505 =>
  (idx [c0, c1, b2, b3, b4] 2).bind fun x506 =>
  some (List.set [c0, c1, b2, b3, b4] (Int.toNat 2) r505) else (idx [c0, c1, b2, b3, b4] 2).bind fun x509 =>
  some (List.set [c0, c1, b2, b3, b4] (Int.toNat 2) false))) = some [c0, c1, b2 && monoB T, b3, b4] := by
    intro c0 c1
    rw [e1]; cases b2 <;> simp only [five_idx, five_set, Option.bind_some, cond_true, cond_false, Bool.true_and, Bool.false_and]
  simp only [five]
  rw [step1, Option.bind_some, step2, Option.bind_some, step3, Option.bind_some, ek, Option.bind_some, after_br']
  simp only [five_idx, Option.bind_some, e2, post1]
  cases b4 <;> simp only [five_set, cond_true, cond_false, Bool.true_and, Bool.false_and]


/-- An algebra with N elements. -/
structure AlgN (a : Int × List (Int × List Int)) (N : Nat) : Prop where
  eN : a.1 = (N : Int)
  n1 : 1 ≤ N
  n8 : N ≤ 8
  l4 : a.2.length ≤ 4
  ops : ∀ f ∈ a.2, ∃ K T, OpN N f K T

def IsAlg (a : Int × List (Int × List Int)) : Prop := ∃ N, AlgN a N

theorem isAlg_iff {a : Int × List (Int × List Int)} (h : 1 ≤ a.1 ∧ a.1 ≤ 8 ∧ a.2.length ≤ 4) : IsAlg a ↔ ∀ f ∈ a.2, opOk a.1.toNat f = true := by
  constructor
  · rintro ⟨N, hN⟩ f hf
    obtain ⟨K, T, ho⟩ := hN.ops f hf
    have := hN.eN
    rw [show a.1.toNat = N by omega]; exact ho.ok
  · intro H
    exact ⟨a.1.toNat, by omega, by omega, by omega, h.2.2, fun f hf => opOk_elim (H f hf)⟩

theorem IsAlgebra_says (a : Int × List (Int × List Int)) : Says (s_impl_IsAlgebra a) (IsAlg a) := by
  unfold s_impl_IsAlgebra
  by_cases h : 1 ≤ a.1 ∧ a.1 ≤ 8 ∧ a.2.length ≤ 4
  · rw [show (((decide (a.1 < 1)) || (decide (8 < a.1))) || (decide (4 < (a.2.length : Int)))) = false by simp; omega, cond_false]
    refine Says.iff (range_says a.2 (fun f => opOk a.1.toNat f = true) (fun x21 => s_impl_isOp (x21.1, x21.2) a.1) (fun f hf => ?_) 0) (isAlg_iff h).symm
    have : s_impl_isOp (f.1, f.2) a.1 = some (opOk a.1.toNat f) := isOp_eq (N := a.1.toNat) (by omega) (by omega) (by omega) f
    exact ⟨_, this, Iff.rfl⟩
  · refine .no ?_ (fun H => ?_)
    · rw [show (((decide (a.1 < 1)) || (decide (8 < a.1))) || (decide (4 < (a.2.length : Int)))) = true by simp; omega]; rfl
    · obtain ⟨N, hN⟩ := H
      have := hN.eN
      have := hN.n1
      have := hN.n8
      have := hN.l4
      omega

theorem l2Good_says (a : Int × List (Int × List Int)) (hb : BA a) : Says (s_spec_l2Good a) (IsAlg a) := by
  unfold s_spec_l2Good
  rw [l1In_eq, Option.bind_some]
  by_cases h : 1 ≤ a.1 ∧ a.1 ≤ 8 ∧ a.2.length ≤ 4
  · rw [show (decide (1 ≤ a.1) && decide (a.1 ≤ 8)) = true by simp; omega, Bool.not_true, cond_false, Option.bind_some, show decide (4 < (a.2.length : Int)) = false by simp; omega, cond_false]
    refine Says.iff (count_says a.2 (fun f => opOk a.1.toNat f = true) (fun x25 => s_spec_l2Op a.1 (x25.1, x25.2)) (by omega) (fun f hf => ?_)) (isAlg_iff h).symm
    have hf' : f.2.length ≤ 1048576 := hb.2 f hf
    have : s_spec_l2Op a.1 (f.1, f.2) = some (opOk a.1.toNat f) := l2Op_eq (N := a.1.toNat) (by omega) (by omega) (by omega) f (by omega)
    exact ⟨_, this, Iff.rfl⟩
  · refine .no ?_ (fun H => ?_)
    · by_cases h1 : 1 ≤ a.1 ∧ a.1 ≤ 8
      · rw [show (decide (1 ≤ a.1) && decide (a.1 ≤ 8)) = true by simp; omega, Bool.not_true, cond_false, Option.bind_some, show decide (4 < (a.2.length : Int)) = true by simp; omega]; rfl
      · rw [show (decide (1 ≤ a.1) && decide (a.1 ≤ 8)) = false by rw [Bool.eq_false_iff]; simp; omega]; rfl
    · obtain ⟨N, hN⟩ := H
      have := hN.eN
      have := hN.n1
      have := hN.n8
      have := hN.l4
      omega

theorem alg_cases (a : Int × List (Int × List Int)) (hb : BA a) : (∃ N, AlgN a N ∧ s_spec_l2Good (a.1, a.2) = some true ∧ s_impl_IsAlgebra (a.1, a.2) = some true) ∨
    (¬ IsAlg a ∧ s_spec_l2Good (a.1, a.2) = some false ∧ s_impl_IsAlgebra (a.1, a.2) = some false) := by
  rcases (l2Good_says a hb).cases with ⟨e, h⟩ | ⟨e, h⟩
  · rcases (IsAlgebra_says a).cases with ⟨e', _⟩ | ⟨_, h'⟩
    · obtain ⟨N, hn⟩ := h; exact .inl ⟨N, hn, e, e'⟩
    · exact absurd h h'
  · rcases (IsAlgebra_says a).cases with ⟨_, h'⟩ | ⟨e', _⟩
    · exact absurd h' h
    · exact .inr ⟨h, e, e'⟩

def postAll (l : List (Int × List Int)) : Bool × Bool × Bool × Bool × Bool := l.foldl (fun b f => post1 b (f.2.map Int.toNat)) (true, true, true, true, true)

theorem PostClasses_same (a : Int × List (Int × List Int)) (hb : BA a) : ∃ z, s_spec_PostClasses (a.1, a.2) = some z ∧ s_impl_PostClasses (a.1, a.2) = some z ∧ z.1.length ≤ 5 := by
  unfold s_spec_PostClasses s_impl_PostClasses
  rcases alg_cases a hb with ⟨N, hN, e1, e2⟩ | ⟨h, e1, e2⟩
  · by_cases h2 : a.1 = 2
    · have hN2 : N = 2 := by have := hN.eN; omega
      subst hN2
      have hl := hN.l4
      have hop : ∀ f ∈ a.2, ∃ K, OpN 2 f K (f.2.map Int.toNat) := fun f hf => by
        obtain ⟨K, T, ho⟩ := hN.ops f hf
        refine ⟨K, ?_⟩
        have : f.2.map Int.toNat = T := by rw [ho.eq]; exact NL_toNat T
        rw [this]; exact ho
      simp only [e1, e2, Option.bind_some, Bool.not_true, cond_false, show (a.1 != 2) = false by simp [h2]]
      refine ⟨(five (postAll a.2), true), ?_, ?_, by simp [five]⟩
      · have e0 : ([true, true, true, true, true] : List Bool) = five (true, true, true, true, true) := rfl
        rw [e0, forC0_fn (fun j => five (postAll (a.2.take j))) (n := a.2.length) rfl (by omega) (by rfl)]
        · rw [Option.bind_some, after_br', List.take_length]
        · intro j hj
          obtain ⟨K, ho⟩ := hop _ (List.getElem_mem hj)
          have := spec_post_step ho (postAll (a.2.take j))
          rw [idx_nat, List.getElem?_eq_getElem hj, Option.bind_some]
          have e : postAll (a.2.take (j + 1)) = post1 (postAll (a.2.take j)) ((a.2[j]).2.map Int.toNat) := by
            unfold postAll
            rw [List.take_succ_eq_append_getElem hj, List.foldl_append]; rfl
          rw [e]; exact this
      · have e0 : ([true, true, true, true, true] : List Bool) = five (true, true, true, true, true) := rfl
        have key : ∀ (l : List (Int × List Int)) (b : Bool × Bool × Bool × Bool × Bool) (i : Int), (∀ f ∈ l, ∃ K, OpN 2 f K (f.2.map Int.toNat)) → forR (S := (List Bool)) (R := (List Bool) × Bool) (fun _ x354 s351 =>
  ((idx s351 0).bind fun x390 =>
  (bif x390 then (idx x354.2 0).bind fun x393 =>
  (idx s351 0).bind fun x395 =>
  some (List.set s351 (Int.toNat 0) (x393 == 0)) else (idx s351 0).bind fun x398 =>
  some (List.set s351 (Int.toNat 0) false))).bind fun s386 =>
  ((idx s386 1).bind fun x428 =>
  (bif x428 then (idx x354.2 (w64 ((x354.2.length : Int) - 1))).bind fun x431 =>
  (idx s386 1).bind fun x433 =>
  some (List.set s386 (Int.toNat 1) (x431 == 1)) else (idx s386 1).bind fun x436 =>
  some (List.set s386 (Int.toNat 1) false))).bind fun s424 =>
  ((idx s424 2).bind fun x466 =>
  (bif x466 then (s_impl_isMonotone (x354.1, x354.2)).bind fun r470 =>
  (idx s424 2).bind fun x471 =>
  some (List.set s424 (Int.toNat 2) r470) else (idx s424 2).bind fun x474 =>
  some (List.set s424 (Int.toNat 2) false))).bind fun s462 =>
  ((idx s462 3).bind fun x504 =>
  (bif x504 then (s_impl_isSelfDual (x354.1, x354.2)).bind fun r508 =>
  (idx s462 3).bind fun x509 =>
  some (List.set s462 (Int.toNat 3) r508) else (idx s462 3).bind fun x512 =>
  some (List.set s462 (Int.toNat 3) false))).bind fun s500 =>
  (idx s500 4).bind fun x516 =>
  (bif x516 then (s_impl_isSum (x354.1, x354.2)).bind fun r520 =>
  (idx s500 4).bind fun x521 =>
  some (.nx (List.set s500 (Int.toNat 4) r520)) else (idx s500 4).bind fun x524 =>
  some (.nx (List.set s500 (Int.toNat 4) false)))) i l (five b) = some (.br (five (l.foldl (fun b f => post1 b (f.2.map Int.toNat)) b))) := by
          intro l
          induction l with
          | nil => intro b i _; rfl
          | cons f l ih =>
            intro b i h
            obtain ⟨K, ho⟩ := h f (by simp)
            have := impl_post_step ho b
            unfold forR
            rw [this]
            exact ih _ (i + 1) fun g hg => h g (by simp [hg])
        rw [e0, key a.2 _ 0 hop]; rfl
    · refine ⟨([], false), ?_, ?_, by simp⟩ <;> simp only [e1, e2, Option.bind_some, Bool.not_true, cond_false, cond_true, show (a.1 != 2) = true by simp [h2]]
  · refine ⟨([], false), ?_, ?_, by simp⟩ <;> simp only [e1, e2, Option.bind_some, Bool.not_false, cond_true]

theorem markBoolS_ok (a : List Bool) (ha : a.length ≤ 1048576) : ∃ k' a', s_laws_markBoolS a 1 = some (k', a') ∧ s_laws_heldBoolS a' 1 = some k' ∧ 0 ≤ k' := by
  let mk : Nat → Bool := fun j => Int.tmod (1 + (j : Int)) 3 == 0
  refine ⟨1 + (a.length : Int), (List.range a.length).map mk, ?_, ?_, by omega⟩
  · unfold s_laws_markBoolS
    rw [iter_br (fun t => (1 + (t : Int), (t : Int), (List.range t).map mk ++ a.drop t)) (t := (1 + (a.length : Int), (a.length : Int), (List.range a.length).map mk)) a.length (by omega)]
    · rfl
    · simp
    · intro j hj
      have hm : ((List.range j).map mk).length = j := by simp
      have hl : ((List.range j).map mk ++ a.drop j).length = a.length := by simp; omega
      have e2 : a.drop j = a[j] :: a.drop (j + 1) := by rw [List.drop_eq_getElem_cons hj]
      have hd : decide ((j : Int) < (a.length : Int)) = true := by simp; omega
      simp only [hl, hd, cond_true, idx_nat]
      rw [w64_id (by omega) (by omega), w64_id (by omega) (by omega), e2, List.getElem?_append_right (by omega), hm, Nat.sub_self, List.getElem?_cons_zero, Option.bind_some, Int.toNat_natCast, List.set_append_right _ _ (by omega), hm, Nat.sub_self, List.set_cons_zero]
      rw [List.range_succ, List.map_append]
      simp [Int.add_assoc, mk]
    · have hl : ((List.range a.length).map mk ++ a.drop a.length).length = a.length := by simp
      simp only [hl]
      simp
  · unfold s_laws_heldBoolS
    rw [forC0_fn (fun j => 1 + (j : Int)) (n := a.length) (by simp) (by omega) (by simp)]
    · rfl
    · intro j hj
      have : ((List.range a.length).map mk)[j]? = some (mk j) := by simp [hj]
      simp only [idx_nat, this, Option.bind_some]
      rw [show (!(mk j == (Int.tmod (1 + (j : Int)) 3 == 0))) = false by simp [mk], cond_false, w64_id (by omega) (by omega)]; simp [Int.add_assoc]

theorem eqBoolS_refl (a : List Bool) (ha : a.length ≤ 1048576) : s_laws_eqBoolS a a = some true := by
  unfold s_laws_eqBoolS
  exact eqS_refl (fun x y => some (x == y)) a (by omega) (fun x _ => by simp)

theorem OkAlg.sz {a : Int × List (Int × List Int)} (h : OkP OkI (OkL (OkP OkI (OkL OkI))) a) : SzOk s_laws_szAlgebra BA a := szAlgebra_ok a h.2.1 (fun f hf => (h.2.2 f hf).2.1)

theorem s_laws_FnExactPostClasses_ok (a : Int × List (Int × List Int)) (ha : OkP OkI (OkL (OkP OkI (OkL OkI))) a) : s_laws_FnExactPostClasses a = some true := by
  unfold s_laws_FnExactPostClasses
  obtain ⟨u, hu, hb⟩ := OkAlg.sz ha 1048576 (by omega) (by omega)
  have hu : s_laws_szAlgebra (a.1, a.2) 1048576 = some u := hu
  rw [hu, Option.bind_some]
  by_cases hneg : u < 0
  · rw [show decide (u < 0) = true by simpa using hneg]; rfl
  rcases hb with hb | ⟨hb, _, _⟩
  · exact absurd hb hneg
  have e1 : s_laws_toAlgebra (a.1, a.2) = some a := toAlgebra_ok a hb
  have e2 : s_laws_eqAlgebra (a.1, a.2) (a.1, a.2) = some true := eqAlgebra_refl a hb
  obtain ⟨⟨g, b⟩, z1, z2, hg⟩ := PostClasses_same a hb
  obtain ⟨k1, t1, m1, m2, m3⟩ := markAlgebra_ok a hb 1 (by omega) (by omega)
  have m1 : s_laws_markAlgebra (a.1, a.2) 1 = some (k1, t1) := m1
  have hg' : g.length ≤ 1048576 := by simp only at hg; omega
  obtain ⟨k2, t2, m4, m5, m6⟩ := markBoolS_ok g hg'
  simp only [show decide (u < 0) = false by simpa using hneg, cond_false, e1, e2, eqBoolS_refl g hg', Option.bind_some, z1, z2, m1, m4, m5, neg_dec' m2, neg_dec' m6, beq_self_eq_true, bne_self_eq_false, Bool.not_true]

/-- P is finer than Q. -/
def Fin (N : Nat) (P Q : List Nat) : Prop := ∀ x y, x < N → y < N → ga P x = ga P y → ga Q x = ga Q y

theorem Fin.trans {N : Nat} {P Q R : List Nat} (h : Fin N P Q) (h' : Fin N Q R) : Fin N P R := fun x y hx hy e => h' x y hx hy (h x y hx hy e)

end Go.Proofs
