/- Plain lemmas on what the functions compute, up to: the law gives true. No conditions. -/
import Derived.Test.YtlflgcnolmojfaaF1
import Derived.Test.YtlflgcnolmojfaaGPure
import Derived.Test.YtlflgcnolmojfaaGOpen
import Derived.Test.YtlflgcnolmojfaaGLoop
set_option linter.unusedVariables false
namespace Go.Proofs
open Go.G
set_option maxRecDepth 100000


/-- The last t digits of i, base n. -/
def digs (n : Int) : Nat → Int → List Int
  | 0, _ => []
  | t + 1, i => (i / n ^ t % n) :: digs n t i

theorem digs_loop {i k n : Int} {K : Nat} (hk : k = (K : Int)) (hK : K ≤ 4294967296) (hn : 1 ≤ n) (hi : 0 ≤ i) (hi' : i ≤ 9223372036854775807) : (
  (mks k (0 : Int)).bind fun y2 =>
  (iter (S := Int × Int × (List Int)) (R := (List Int)) (fun s17 =>
  (bif (decide (0 ≤ s17.2.1)) then (nz n).bind fun u26 =>
  (idx s17.2.2 s17.2.1).bind fun x27 =>
  (nz n).bind fun u30 =>
  some (.nx (w64 (Int.tdiv s17.1 n), w64 (s17.2.1 - 1), List.set s17.2.2 (Int.toNat s17.2.1) (Int.tmod s17.1 n))) else some (.br (s17.1, s17.2.1, s17.2.2)))) FU (i, w64 (k - 1), y2)).bind fun o21 => after o21 (fun r_ => some r_) (fun s17 =>
  some s17.2.2)) = some (digs n K i) := by
  subst hk
  rw [mks_ok rfl hK, Option.bind_some]
  have hp : ∀ t : Nat, 0 ≤ i / n ^ t ∧ i / n ^ t ≤ i := fun t => ⟨Int.ediv_nonneg hi (by exact Int.pow_nonneg (by omega)), ediv_le hi (by exact Int.pow_nonneg (by omega))⟩
  rw [iter_br (fun t => (i / n ^ t, (K : Int) - 1 - t, List.replicate (K - t) 0 ++ digs n t i)) (t := (i / n ^ K, -1, digs n K i)) K (by omega)]
  · rfl
  · rw [w64_id (by omega) (by omega)]; simp [digs]
  · intro j hj
    have e2 : List.replicate (K - j) (0 : Int) ++ digs n j i = List.replicate (K - (j + 1)) 0 ++ (0 :: digs n j i) := by
      rw [show K - j = (K - (j + 1)) + 1 by omega, List.replicate_succ', List.append_assoc]; rfl
    have hp1 := hp j
    have e3 : (K : Int) - 1 - j = ((K - (j + 1) : Nat) : Int) := by omega
    simp only [decide_true, show (0 : Int) ≤ (K : Int) - 1 - j by omega, cond_true, nz_ok (show n ≠ 0 by omega), Option.bind_some, tdiv_nn hp1.1, tmod_nn hp1.1]
    rw [w64_id (x := i / n ^ j / n) (by have := Int.ediv_nonneg hp1.1 (show 0 ≤ n by omega); omega) (by have := ediv_le hp1.1 (show 0 ≤ n by omega); omega), w64_id (by omega) (by omega), e2, e3, idx_nat, Int.toNat_natCast]
    simp only [List.getElem?_append, List.length_replicate, Nat.lt_irrefl, if_false, Nat.sub_self, List.getElem?_cons_zero, Option.bind_some, List.set_append, List.set_cons_zero, Option.some.injEq, Ctl.nx.injEq, Prod.mk.injEq]
    refine ⟨?_, by omega, by rw [digs]⟩
    rw [Int.pow_succ, Int.ediv_ediv_of_nonneg (Int.pow_nonneg (by omega))]
  · have : decide ((0 : Int) ≤ (K : Int) - 1 - K) = false := by simp; omega
    simp only [this, cond_false, Nat.sub_self, List.replicate_zero, List.nil_append]
    rw [show (K : Int) - 1 - K = -1 by omega]

theorem l2Args_eq {i k n : Int} {K : Nat} (hk : k = (K : Int)) (hK : K ≤ 4294967296) (hn : 1 ≤ n) (hi : 0 ≤ i) (hi' : i ≤ 9223372036854775807) : s_spec_l2Args n k i = some (digs n K i) :=
  digs_loop hk hK hn hi hi'

theorem isSize_eq (n : Int) : s_impl_isSize n = some (decide (1 ≤ n ∧ n ≤ 8)) := by
  unfold s_impl_isSize
  by_cases h : 1 ≤ n <;> by_cases h' : n ≤ 8 <;> simp [h, h']


theorem eqIntS_eq (a b : List Int) (ha : a.length ≤ 4294967296) : s_laws_eqIntS a b = some (a == b) := by
  unfold s_laws_eqIntS
  by_cases hl : a.length = b.length
  · rw [hl]
    simp only [bne_self_eq_false, cond_false]
    rw [forC0_chk (n := b.length) (fun j => a[j]? == b[j]?) false rfl (by omega)]
    · have : (a == b) = (List.range b.length).all (fun j => a[j]? == b[j]?) := by
        rw [Bool.eq_iff_iff]
        simp only [beq_iff_eq, List.all_eq_true, List.mem_range]
        constructor
        · rintro rfl j _; rfl
        · intro h; apply List.ext_getElem?; intro j
          by_cases hj : j < b.length
          · exact h j hj
          · rw [List.getElem?_eq_none (by omega), List.getElem?_eq_none (by omega)]
      rw [← this]
      cases a == b <;> rfl
    · intro j hj
      have hj' : j < a.length := by omega
      simp only [idx_nat, List.getElem?_eq_getElem hj, List.getElem?_eq_getElem hj', Option.bind_some]
      by_cases h : a[j] = b[j]
      · simp [h]
      · simp [bne, beq_eq_false_iff_ne.2 h]
  · have h1 : (a == b) = false := by
      rw [Bool.eq_false_iff]; intro h; exact hl (by rw [beq_iff_eq.1 h])
    have h2 : ((a.length : Int) != (b.length : Int)) = true := by simp; omega
    rw [h1, h2]; rfl

theorem eqOp_eq (a b : Int × List Int) (ha : a.2.length ≤ 4294967296) : s_laws_eqOp a b = some (a == b) := by
  obtain ⟨a1, a2⟩ := a
  obtain ⟨b1, b2⟩ := b
  unfold s_laws_eqOp
  simp only [eqIntS_eq a2 b2 ha, Option.bind_some]
  have : ((a1, a2) == (b1, b2)) = ((a1 == b1) && (a2 == b2)) := rfl
  rw [this]
  by_cases h : a1 = b1
  · cases h2 : a2 == b2 <;> simp [h]
  · simp [bne, beq_eq_false_iff_ne.2 h]


theorem toIntS_eq (a : List Int) (ha : a.length ≤ 4294967296) : s_laws_toIntS a = some a := by
  unfold s_laws_toIntS
  rw [mks_ok rfl ha, Option.bind_some, forC0_set (fun j => a[j]?.getD 0) (z := 0) (n := a.length) rfl ha rfl]
  · rw [Option.bind_some, after_br', map_range_getElem]
  · intro j s hj hs
    simp [List.getElem?_eq_getElem hj, List.getElem?_eq_getElem (show j < s.length by omega)]

theorem toOp_eq (a : Int × List Int) (ha : a.2.length ≤ 4294967296) : s_laws_toOp a = some a := by
  unfold s_laws_toOp; rw [toIntS_eq a.2 ha]; rfl


/-- The marks k, k + 1, .. -/
def marks (n : Nat) (k : Int) : List Int := (List.range n).map fun j : Nat => k + (j : Int)

theorem markIntS_eq (a : List Int) (k : Int) (ha : a.length ≤ 4294967296) (h0 : 0 ≤ k) (h1 : k ≤ 4611686018427387904) : s_laws_markIntS a k = some (k + (a.length : Int), marks a.length k) := by
  unfold s_laws_markIntS
  rw [iter_br (fun t => (k + (t : Int), (t : Int), marks t k ++ a.drop t)) (t := (k + (a.length : Int), (a.length : Int), marks a.length k)) a.length (by omega)]
  · rfl
  · simp [marks]
  · intro j hj
    have hm : (marks j k).length = j := by simp [marks]
    have hl : (marks j k ++ a.drop j).length = a.length := by simp [hm]; omega
    have e2 : a.drop j = a[j] :: a.drop (j + 1) := by rw [List.drop_eq_getElem_cons hj]
    have hd : decide ((j : Int) < (a.length : Int)) = true := by simp; omega
    simp only [hl, hd, cond_true, idx_nat]
    rw [w64_id (by omega) (by omega), w64_id (by omega) (by omega), e2, List.getElem?_append_right (by omega), hm, Nat.sub_self, List.getElem?_cons_zero, Option.bind_some, Int.toNat_natCast, List.set_append_right _ _ (by omega), hm, Nat.sub_self, List.set_cons_zero]
    have e3 : marks (j + 1) k = marks j k ++ [k + (j : Int)] := by simp [marks, List.range_succ]
    rw [e3]; simp [Int.add_assoc]
  · have hl : (marks a.length k ++ a.drop a.length).length = a.length := by simp [marks]
    simp only [hl]
    simp

theorem heldIntS_eq (n : Nat) (k : Int) (ha : n ≤ 4294967296) (h0 : 0 ≤ k) (h1 : k ≤ 4611686018427387904) : s_laws_heldIntS (marks n k) k = some (k + (n : Int)) := by
  unfold s_laws_heldIntS
  rw [forC0_fn (fun j => k + (j : Int)) (n := n) (by simp [marks]) (by omega) (by simp)]
  · rfl
  · intro j hj
    have : (marks n k)[j]? = some (k + (j : Int)) := by simp [marks, hj]
    simp only [idx_nat, this, Option.bind_some, bne_self_eq_false, cond_false]
    rw [w64_id (by omega) (by omega)]; simp [Int.add_assoc]

theorem markOp_eq (a : Int × List Int) (k : Int) (ha : a.2.length ≤ 4294967296) (h0 : 0 ≤ k) (h1 : k ≤ 4611686018427387904) : s_laws_markOp a k = some (k + (a.2.length : Int), marks a.2.length k) := by
  unfold s_laws_markOp; rw [markIntS_eq _ _ ha h0 h1]; rfl

theorem heldOp_eq (x : Int) (n : Nat) (k : Int) (ha : n ≤ 4294967296) (h0 : 0 ≤ k) (h1 : k ≤ 4611686018427387904) : s_laws_heldOp (x, marks n k) k = some (k + (n : Int)) := by
  unfold s_laws_heldOp; simp only [heldIntS_eq n k ha h0 h1, Option.bind_some]
  have : decide (k + (n : Int) < 0) = false := by simp; omega
  rw [this]; rfl


theorem pow_loop {n k : Int} {N K : Nat} (hn : n = (N : Int)) (hk : k = (K : Int)) (hN : 1 ≤ N) (hK : N ^ K ≤ 9223372036854775807) (hK2 : K ≤ 4294967296) : (
  (iter (S := Int × Int) (R := Int) (fun s2 =>
  (bif (decide (0 < s2.1)) then some (.nx (w64 (s2.1 - 1), w64 (s2.2 * n))) else some (.br (s2.1, s2.2)))) FU (k, 1)).bind fun o6 => after o6 (fun r_ => some r_) (fun s2 =>
  some s2.2)) = some ((N ^ K : Nat) : Int) := by
  subst hn hk
  rw [iter_br (fun t => ((K : Int) - t, ((N ^ t : Nat) : Int))) (t := (0, ((N ^ K : Nat) : Int))) K (by omega)]
  · rfl
  · simp
  · intro j hj
    have hd : decide ((0 : Int) < (K : Int) - j) = true := by simp; omega
    have hp : N ^ (j + 1) ≤ N ^ K := Nat.pow_le_pow_right hN (by omega)
    simp only [hd, cond_true]
    rw [w64_id (by omega) (by omega), show ((N ^ j : Nat) : Int) * (N : Int) = ((N ^ (j + 1) : Nat) : Int) by rw [Nat.pow_succ]; simp, w64_nat (by omega)]
    simp; omega
  · simp

theorem power_eq {n k : Int} {N K : Nat} (hn : n = (N : Int)) (hk : k = (K : Int)) (hN : 1 ≤ N) (hK : N ^ K ≤ 9223372036854775807) (hK2 : K ≤ 4294967296) : s_impl_power n k = some ((N ^ K : Nat) : Int) := pow_loop hn hk hN hK hK2

theorem l2Pow_eq {n k : Int} {N K : Nat} (hn : n = (N : Int)) (hk : k = (K : Int)) (hN : 1 ≤ N) (hK : N ^ K ≤ 9223372036854775807) (hK2 : K ≤ 4294967296) : s_spec_l2Pow n k = some ((N ^ K : Nat) : Int) := pow_loop hn hk hN hK hK2


theorem inSize_eq (l : List Int) (n : Int) : s_impl_inSize l n = some (l.all fun x => decide (0 ≤ x) && decide (x < n)) := by
  unfold s_impl_inSize
  rw [forR_chk (fun x => decide (0 ≤ x) && decide (x < n)) false]
  · cases l.all fun x => decide (0 ≤ x) && decide (x < n) <;> rfl
  · intro i x _
    by_cases h : x < 0
    · simp [h]; simp [show ¬ 0 ≤ x by omega]
    · by_cases h' : n ≤ x
      · simp [h, h']; simp [show ¬ x < n by omega]
      · simp [h, h', show 0 ≤ x by omega, show x < n by omega]


theorem l1In_eq (x a b : Int) : s_spec_l1In x a b = some (decide (a ≤ x) && decide (x ≤ b)) := by
  unfold s_spec_l1In
  by_cases h : a ≤ x <;> simp [h]


theorem all_range {α : Type} (l : List α) (p : α → Bool) (d : α) : (List.range l.length).all (fun j => p (l[j]?.getD d)) = l.all p := by
  rw [Bool.eq_iff_iff]
  simp only [List.all_eq_true, List.mem_range]
  constructor
  · intro h x hx
    obtain ⟨i, hi, rfl⟩ := List.mem_iff_getElem.1 hx
    have := h i hi
    simpa [List.getElem?_eq_getElem hi] using this
  · intro h j hj
    rw [List.getElem?_eq_getElem hj]
    exact h _ (List.getElem_mem hj)


/-- An operation over a set of N. -/
def opOk (N : Nat) (f : Int × List Int) : Bool := decide (0 ≤ f.1) && (decide (f.1 ≤ 3) && (decide (f.2.length = N ^ f.1.toNat) && f.2.all fun x => decide (0 ≤ x) && decide (x < (N : Int))))

theorem pow_small {N K : Nat} (hN8 : N ≤ 8) (hK : K ≤ 3) : N ^ K ≤ 512 := by
  have h1 : N ^ K ≤ 8 ^ K := Nat.pow_le_pow_left hN8 K
  have h2 : 8 ^ K ≤ 8 ^ 3 := Nat.pow_le_pow_right (by omega) hK
  omega

theorem isOp_eq {n : Int} {N : Nat} (hn : n = (N : Int)) (hN : 1 ≤ N) (hN8 : N ≤ 8) (f : Int × List Int) : s_impl_isOp f n = some (opOk N f) := by
  obtain ⟨a, t⟩ := f
  unfold s_impl_isOp opOk
  by_cases h0 : 0 ≤ a
  · by_cases h3 : a ≤ 3
    · obtain ⟨K, rfl⟩ : ∃ K : Nat, a = (K : Int) := ⟨a.toNat, by omega⟩
      have hp : N ^ K ≤ 512 := pow_small hN8 (by omega)
      have hi : s_impl_inSize t n = some (t.all fun x => decide (0 ≤ x) && decide (x < (N : Int))) := by rw [inSize_eq, hn]
      simp only [h0, h3, decide_true, cond_true, Bool.true_and, Int.toNat_natCast]
      rw [power_eq hn rfl hN (by omega) (by omega), Option.bind_some, hi, Option.bind_some]
      by_cases hl : t.length = N ^ K
      · simp [hl]
      · have : ((t.length : Int) == ((N ^ K : Nat) : Int)) = false := by rw [beq_nat]; simp [hl]
        rw [this]; simp [hl]
    · simp [h0, h3]
  · simp [h0]

theorem l2Op_eq {n : Int} {N : Nat} (hn : n = (N : Int)) (hN : 1 ≤ N) (hN8 : N ≤ 8) (f : Int × List Int) (hl : f.2.length ≤ 4294967296) : s_spec_l2Op n f = some (opOk N f) := by
  obtain ⟨a, t⟩ := f
  unfold s_spec_l2Op opOk
  simp only [l1In_eq, Option.bind_some]
  by_cases h0 : 0 ≤ a
  · by_cases h3 : a ≤ 3
    · obtain ⟨K, rfl⟩ : ∃ K : Nat, a = (K : Int) := ⟨a.toNat, by omega⟩
      have hp : N ^ K ≤ 512 := pow_small hN8 (by omega)
      simp only [h0, h3, decide_true, Bool.true_and, Bool.not_true, cond_false, Int.toNat_natCast]
      rw [l2Pow_eq hn rfl hN (by omega) (by omega), Option.bind_some, Option.bind_some]
      by_cases hl' : t.length = N ^ K
      · have e1 : ((t.length : Int) != ((N ^ K : Nat) : Int)) = false := by rw [hl']; simp
        rw [e1, cond_false, w64_id (by omega) (by omega), forC0_chk (n := t.length) (fun j => decide (0 ≤ t[j]?.getD 0) && decide (t[j]?.getD 0 < (N : Int))) false rfl (by simp at hl; omega)]
        · rw [all_range t (fun x => decide (0 ≤ x) && decide (x < (N : Int))) 0]
          cases t.all fun x => decide (0 ≤ x) && decide (x < (N : Int)) <;> simp [hl']
        · intro j hj
          simp only [idx_nat, List.getElem?_eq_getElem hj, Option.bind_some, Option.getD_some]
          have : decide (t[j] ≤ n - 1) = decide (t[j] < (N : Int)) := by rw [decide_eq_decide]; omega
          rw [this]
          cases decide (0 ≤ t[j]) && decide (t[j] < (N : Int)) <;> rfl
      · have e1 : ((t.length : Int) != ((N ^ K : Nat) : Int)) = true := by rw [bne, beq_nat]; simp [hl']
        rw [e1]; simp [hl']
    · simp [h0, h3]
  · simp [h0]


theorem szIntS_eq (a : List Int) (left : Int) (ha : a.length ≤ 9223372036854775807) (h0 : 0 ≤ left) (h1 : left ≤ 4611686018427387904) : s_laws_szIntS a left = some (if left < a.length then -1 else left - a.length) := by
  unfold s_laws_szIntS
  rw [w64_id (by omega) (by omega)]
  by_cases h : left < a.length
  · rw [if_pos h]; simp [show left - (a.length : Int) < 0 by omega]
  · rw [if_neg h]; simp [show ¬ left - (a.length : Int) < 0 by omega]

theorem szOp_eq (a : Int × List Int) (left : Int) (ha : a.2.length ≤ 9223372036854775807) (h0 : 0 ≤ left) (h1 : left ≤ 4611686018427387904) : s_laws_szOp a left = some (if left < a.2.length then -1 else left - a.2.length) := by
  unfold s_laws_szOp
  rw [szIntS_eq a.2 left ha h0 h1, Option.bind_some]
  by_cases h : left < a.2.length
  · rw [if_pos h]; rfl
  · rw [if_neg h]; simp [show ¬ left - (a.2.length : Int) < 0 by omega]


def NL (T : List Nat) : List Int := T.map fun x : Nat => (x : Int)

@[simp] theorem NL_len (T : List Nat) : (NL T).length = T.length := by simp [NL]

@[simp] theorem NL_nil : NL [] = [] := rfl

@[simp] theorem NL_cons (x : Nat) (T : List Nat) : NL (x :: T) = (x : Int) :: NL T := rfl

def ga (T : List Nat) (k : Nat) : Nat := T.getD k 0

theorem ga_get {T : List Nat} {k : Nat} (h : k < T.length) : ga T k = T[k] := by simp [ga, List.getElem?_eq_getElem h]

theorem ga_mem {T : List Nat} {k : Nat} (h : k < T.length) : ga T k ∈ T := by rw [ga_get h]; exact List.getElem_mem h

theorem idx_NL {T : List Nat} {k : Nat} (h : k < T.length) : idx (NL T) (k : Int) = some ((ga T k : Nat) : Int) := by
  rw [idx_nat, ga_get h]; simp [NL, List.getElem?_eq_getElem h]

theorem NL_of {t : List Int} (h : ∀ x ∈ t, 0 ≤ x) : ∃ T : List Nat, t = NL T := by
  refine ⟨t.map Int.toNat, ?_⟩
  unfold NL
  rw [List.map_map]
  conv => lhs; rw [← List.map_id t]
  refine List.map_congr_left fun x hx => ?_
  have := h x hx
  simp; omega

theorem ga_map {n k : Nat} (f : Nat → Nat) (h : k < n) : ga ((List.range n).map f) k = f k := by
  rw [ga_get (by simpa using h)]; simp

theorem w64_add {a b : Nat} (h : a + b ≤ 9223372036854775807) : w64 ((a : Int) + (b : Int)) = ((a + b : Nat) : Int) := by
  rw [w64_id (by omega) (by omega)]; omega

theorem w64_add1 {a : Nat} (h : a + 1 ≤ 9223372036854775807) : w64 ((a : Int) + 1) = ((a + 1 : Nat) : Int) := by
  rw [w64_id (by omega) (by omega)]; omega

theorem w64_mul {a b : Nat} (h : a * b ≤ 9223372036854775807) : w64 ((a : Int) * (b : Int)) = ((a * b : Nat) : Int) := by
  rw [← Int.natCast_mul, w64_nat h]

theorem w64_div {a b : Nat} (h : a ≤ 9223372036854775807) : w64 (Int.tdiv (a : Int) (b : Int)) = ((a / b : Nat) : Int) := by
  rw [tdiv_nat, w64_nat (Nat.le_trans (Nat.div_le_self _ _) h)]

theorem nz_nat {b : Nat} (h : 0 < b) : nz (b : Int) = some () := nz_ok (by omega)

theorem dec_lt (a b : Nat) : decide ((a : Int) < (b : Int)) = decide (a < b) := by rw [decide_eq_decide]; omega

theorem lin2 {x y N M : Nat} (hx : x < N) (hy : y < M) : x * M + y < N * M := by
  calc x * M + y < x * M + M := by omega
    _ = (x + 1) * M := by rw [Nat.add_mul, Nat.one_mul]
    _ ≤ N * M := Nat.mul_le_mul_right M hx

def dig (N : Nat) : Nat → Nat → List Nat
  | 0, _ => []
  | t + 1, i => (i / N ^ t % N) :: dig N t i

@[simp] theorem dig_len (N : Nat) : ∀ (t i : Nat), (dig N t i).length = t
  | 0, _ => rfl
  | t + 1, i => by simp [dig, dig_len N t i]

theorem digs_NL (N : Nat) : ∀ (t i : Nat), digs (N : Int) t (i : Int) = NL (dig N t i)
  | 0, _ => rfl
  | t + 1, i => by
    simp only [digs, dig, NL_cons, digs_NL N t i]
    congr 1

theorem dig_lt {N : Nat} (h : 0 < N) : ∀ (t i : Nat), ∀ x ∈ dig N t i, x < N
  | 0, _, _, h => by cases h
  | t + 1, i, x, hx => by
    rcases List.mem_cons.1 hx with rfl | hx
    · exact Nat.mod_lt _ h
    · exact dig_lt h t i x hx

theorem l2ArgsN {i K N : Nat} (hK : K ≤ 4294967296) (hN : 1 ≤ N) (hi : i ≤ 9223372036854775807) : s_spec_l2Args (N : Int) (K : Int) (i : Int) = some (NL (dig N K i)) := by
  rw [l2Args_eq (K := K) rfl hK (by omega) (by omega) (by omega), digs_NL]


/-- An operation on N, of the arity K. -/
structure OpN (N : Nat) (f : Int × List Int) (K : Nat) (T : List Nat) : Prop where
  eq : f = ((K : Int), NL T)
  k3 : K ≤ 3
  len : T.length = N ^ K
  lt : ∀ x ∈ T, x < N

theorem opOk_elim {N : Nat} {f : Int × List Int} (h : opOk N f = true) : ∃ K T, OpN N f K T := by
  obtain ⟨a, t⟩ := f
  simp only [opOk, Bool.and_eq_true, decide_eq_true_eq, List.all_eq_true] at h
  obtain ⟨h0, h3, hl, hx⟩ := h
  obtain ⟨T, rfl⟩ := NL_of (fun x hx' => (hx x hx').1)
  obtain ⟨K, rfl⟩ : ∃ K : Nat, a = (K : Int) := ⟨a.toNat, by omega⟩
  refine ⟨K, T, rfl, by omega, by simpa using hl, fun x hx' => ?_⟩
  have := (hx (x : Int) (List.mem_map.2 ⟨x, hx', rfl⟩)).2
  omega

theorem cube_le {N : Nat} (h : N ≤ 8) : N * N * N ≤ 512 := by
  have h1 : N * N ≤ 8 * 8 := Nat.mul_le_mul h h
  have : N * N * N ≤ 8 * 8 * 8 := Nat.mul_le_mul h1 h
  omega

theorem pow3 (N : Nat) : N ^ 3 = N * N * N := by rw [Nat.pow_succ, Nat.pow_succ, Nat.pow_succ, Nat.pow_zero, Nat.one_mul]

theorem pow2 (N : Nat) : N ^ 2 = N * N := by rw [Nat.pow_succ, Nat.pow_succ, Nat.pow_zero, Nat.one_mul]


def ix (N : Nat) (s : Nat) (A : List Nat) : Nat := A.foldl (fun s x => s * N + x) s

theorem ix_lt {N : Nat} : ∀ (A : List Nat) (s : Nat), (∀ x ∈ A, x < N) → ix N s A < (s + 1) * N ^ A.length
  | [], s, _ => by simp [ix]
  | x :: A, s, h => by
    have h1 := ix_lt A (s * N + x) (fun y hy => h y (by simp [hy]))
    have hx := h x (by simp)
    have : (s * N + x + 1) * N ^ A.length ≤ (s + 1) * N * N ^ A.length := by
      apply Nat.mul_le_mul_right; rw [Nat.add_mul, Nat.one_mul]; omega
    show ix N (s * N + x) A < _
    rw [List.length_cons, Nat.pow_succ, Nat.mul_comm (N ^ A.length), ← Nat.mul_assoc]
    omega

theorem ix0_lt {N K : Nat} {A : List Nat} (h : ∀ x ∈ A, x < N) (hl : A.length = K) : ix N 0 A < N ^ K := by
  have := ix_lt A 0 h; rw [hl] at this; simpa using this

theorem pow_le_512 {N K : Nat} (h8 : N ≤ 8) (hK : K ≤ 3) : N ^ K ≤ 512 := pow_small h8 hK

theorem l12Projection_eq {N K place : Nat} (h1 : 1 ≤ N) (h8 : N ≤ 8) (hK : K ≤ 3) (hp : place < K) : s_spec_l12Projection (N : Int) (K : Int) (place : Int) = some (NL ((List.range (N ^ K)).map fun i => ga (dig N K i) place)) := by
  have hb := pow_le_512 h8 hK
  unfold s_spec_l12Projection
  rw [iter_br (fun j => (NL ((List.range j).map fun i => ga (dig N K i) place), (j : Int))) (t := (NL ((List.range (N ^ K)).map fun i => ga (dig N K i) place), ((N ^ K : Nat) : Int))) (N ^ K) (by omega) (by rfl)]
  · rfl
  · intro j hj
    rw [l2Pow_eq rfl rfl h1 (by omega) (by omega), Option.bind_some]
    simp only [dec_lt, hj, decide_true, cond_true]
    rw [l2ArgsN (by omega) h1 (by omega), Option.bind_some, idx_NL (by simpa using hp), Option.bind_some, app_ok (by simp; omega), Option.bind_some, w64_add1 (by omega)]
    simp [List.range_succ, NL]
  · rw [l2Pow_eq rfl rfl h1 (by omega) (by omega), Option.bind_some]
    simp only [dec_lt, Nat.lt_irrefl, decide_false, cond_false]


theorem NL_toNat (T : List Nat) : (NL T).map Int.toNat = T := by
  unfold NL; rw [List.map_map]; exact (List.map_congr_left (fun x _ => by simp)).trans (List.map_id T)


def NLL (L : List (List Nat)) : List (List Int) := L.map NL

@[simp] theorem NLL_len (L : List (List Nat)) : (NLL L).length = L.length := by simp [NLL]

@[simp] theorem NLL_nil : NLL [] = [] := rfl

@[simp] theorem NLL_cons (x : List Nat) (L : List (List Nat)) : NLL (x :: L) = NL x :: NLL L := rfl

def gl (L : List (List Nat)) (k : Nat) : List Nat := L.getD k []

theorem gl_get {L : List (List Nat)} {k : Nat} (h : k < L.length) : gl L k = L[k] := by simp [gl, List.getElem?_eq_getElem h]

theorem gl_mem {L : List (List Nat)} {k : Nat} (h : k < L.length) : gl L k ∈ L := by rw [gl_get h]; exact List.getElem_mem h

theorem idx_NLL {L : List (List Nat)} {k : Nat} (h : k < L.length) : idx (NLL L) (k : Int) = some (NL (gl L k)) := by
  rw [idx_nat, gl_get h]; simp [NLL, List.getElem?_eq_getElem h]

theorem sq_le {N : Nat} (h : N ≤ 8) : N * N ≤ 64 := by have := Nat.mul_le_mul h h; omega


def cmp (N : Nat) (T : List Nat) (tabs : List (List Nat)) (i : Nat) : Nat := ga T (ix N 0 (tabs.map fun t => ga t i))

theorem ix_append (N s : Nat) (A B : List Nat) : ix N s (A ++ B) = ix N (ix N s A) B := by simp [ix]

theorem l12Compose_eq {N K size : Nat} {T : List Nat} {tabs : List (List Nat)} {k : Int} (hN : 1 ≤ N) (h8 : N ≤ 8) (hK : K ≤ 3) (hT : T.length = N ^ K) (ht : tabs.length = K) (hl : ∀ t ∈ tabs, t.length = size) (hx : ∀ t ∈ tabs, ∀ x ∈ t, x < N)
    (hs : size ≤ 4294967296) : s_spec_l12Compose (N : Int) (k, NL T) (NLL tabs) (size : Int) = some (NL ((List.range size).map (cmp N T tabs))) := by
  have h512 := pow_le_512 h8 hK
  unfold s_spec_l12Compose
  rw [forC0_app (fun i => ((cmp N T tabs i : Nat) : Int)) rfl hs]
  · simp [NL]
  · intro i s hi _
    have hlt : ∀ x ∈ tabs.map (fun t => ga t i), x < N := by
      intro x hx'
      obtain ⟨t, ht', rfl⟩ := List.mem_map.1 hx'
      exact hx t ht' _ (ga_mem (by rw [hl t ht']; exact hi))
    rw [forC0_fn (fun j => ((ix N 0 ((tabs.take j).map fun t => ga t i) : Nat) : Int)) (n := K) (by simp [ht]) (by omega) (by rfl)]
    · rw [Option.bind_some, after_br', List.take_of_length_le (by omega)]
      simp only
      rw [idx_NL (by rw [hT]; exact ix0_lt hlt (by simpa using ht)), Option.bind_some]
      rfl
    · intro j hj
      have hg : gl tabs j ∈ tabs := gl_mem (by omega)
      have e : tabs.take (j + 1) = tabs.take j ++ [gl tabs j] := by
        rw [List.take_succ_eq_append_getElem (by omega), gl_get (by omega)]
      have h1 : ∀ x ∈ (tabs.take j).map (fun t => ga t i), x < N := fun x hx' => hlt x (by
        obtain ⟨t, ht', rfl⟩ := List.mem_map.1 hx'
        exact List.mem_map.2 ⟨t, List.mem_of_mem_take ht', rfl⟩)
      have h2 := ix0_lt (K := j) h1 (by simp; omega)
      have h3 : N ^ j ≤ N ^ 2 := Nat.pow_le_pow_right (by omega) (by omega)
      have h4 := sq_le h8
      rw [pow2] at h3
      have hv : ga (gl tabs j) i < N := hx _ hg _ (ga_mem (by rw [hl _ hg]; exact hi))
      have h5 := lin2 h2 hv
      have h6 : N ^ j * N ≤ 64 * 8 := Nat.mul_le_mul (by omega) h8
      rw [idx_NLL (by omega), Option.bind_some, idx_NL (by rw [hl _ hg]; exact hi), Option.bind_some, w64_mul (by omega), w64_add (by omega), e, List.map_append, ix_append]
      rfl


def pfOk (n : Int) (m j : Int × List Int) : Bool := decide (1 ≤ n ∧ n ≤ 8) && ((m.1 == 3) && ((j.1 == 3) && (opOk n.toNat m && opOk n.toNat j)))

def pfT (N : Nat) (M J : List Nat) : List Nat := (List.range (N * N * N)).map fun i => ga J ((i / (N * N) * N + ga M i) * N + i % N)

def pfR (n : Int) (m j : Int × List Int) : (Int × List Int) × Bool := bif pfOk n m j then ((3, NL (pfT n.toNat (m.2.map Int.toNat) (j.2.map Int.toNat))), true) else ((0, []), false)

theorem pfOk_elim {n : Int} {m j : Int × List Int} (h : pfOk n m j = true) : ∃ N M J, n = ((N : Nat) : Int) ∧ 1 ≤ N ∧ N ≤ 8 ∧ OpN N m 3 M ∧ OpN N j 3 J := by
  simp only [pfOk, Bool.and_eq_true, decide_eq_true_eq, beq_iff_eq] at h
  obtain ⟨hn, hm, hj, hom, hoj⟩ := h
  obtain ⟨K, M, h1⟩ := opOk_elim hom
  obtain ⟨K', J, h2⟩ := opOk_elim hoj
  have e1 : K = 3 := by have := h1.eq; rw [this] at hm; simp at hm; omega
  have e2 : K' = 3 := by have := h2.eq; rw [this] at hj; simp at hj; omega
  subst e1 e2
  exact ⟨n.toNat, M, J, by omega, by omega, by omega, h1, h2⟩

theorem spec_guard (n : Int) (m j : Int × List Int) (hm : m.2.length ≤ 4294967296) (hj : j.2.length ≤ 4294967296) : ((s_spec_l12Size n).bind fun r10 =>
  (bif (!r10) then some true else (bif (m.1 != 3) then some true else (bif (j.1 != 3) then some true else (s_spec_l2Op n (m.1, m.2)).bind fun r15 =>
  (bif (!r15) then some true else (s_spec_l2Op n (j.1, j.2)).bind fun r18 =>
  some (!r18)))))) = some (!pfOk n m j) := by
  have e : s_spec_l12Size n = some (decide (1 ≤ n ∧ n ≤ 8)) := by
    unfold s_spec_l12Size s_spec_l1In
    by_cases h : 1 ≤ n <;> by_cases h' : n ≤ 8 <;> simp [h, h']
  unfold pfOk
  rw [e, Option.bind_some]
  by_cases h : 1 ≤ n ∧ n ≤ 8
  · rw [show decide (1 ≤ n ∧ n ≤ 8) = true by simp [h], l2Op_eq (N := n.toNat) (by omega) (by omega) (by omega) _ hm, l2Op_eq (N := n.toNat) (by omega) (by omega) (by omega) _ hj]
    simp only [Bool.not_true, cond_false, Option.bind_some, Bool.true_and, bne]
    cases m.1 == 3 <;> cases j.1 == 3 <;> cases opOk n.toNat m <;> cases opOk n.toNat j <;> rfl
  · rw [show decide (1 ≤ n ∧ n ≤ 8) = false by simp; omega]; rfl

theorem impl_guard (n : Int) (m j : Int × List Int) : ((s_impl_isSize n).bind fun r10 =>
  (bif (!r10) then some true else (bif (m.1 != 3) then some true else (bif (j.1 != 3) then some true else (s_impl_isOp (m.1, m.2) n).bind fun r15 =>
  (bif (!r15) then some true else (s_impl_isOp (j.1, j.2) n).bind fun r18 =>
  some (!r18)))))) = some (!pfOk n m j) := by
  unfold pfOk
  rw [isSize_eq, Option.bind_some]
  by_cases h : 1 ≤ n ∧ n ≤ 8
  · rw [show decide (1 ≤ n ∧ n ≤ 8) = true by simp [h], isOp_eq (N := n.toNat) (by omega) (by omega) (by omega), isOp_eq (N := n.toNat) (by omega) (by omega) (by omega)]
    simp only [Bool.not_true, cond_false, Option.bind_some, Bool.true_and, bne]
    cases m.1 == 3 <;> cases j.1 == 3 <;> cases opOk n.toNat m <;> cases opOk n.toNat j <;> rfl
  · rw [show decide (1 ≤ n ∧ n ≤ 8) = false by simp; omega]; rfl

theorem dig3 {N i : Nat} (h : i < N * N * N) : dig N 3 i = [i / (N * N), i / N % N, i % N] := by
  simp only [dig, Nat.pow_one, Nat.pow_zero, Nat.div_one, pow2]
  rw [Nat.mod_eq_of_lt]
  exact Nat.div_lt_of_lt_mul h

theorem spec_PixleyFrom {n : Int} {m j : Int × List Int} (hm : m.2.length ≤ 4294967296) (hj : j.2.length ≤ 4294967296) : s_spec_PixleyFrom n m j = some (pfR n m j) := by
  unfold s_spec_PixleyFrom pfR
  rw [spec_guard n m j hm hj, Option.bind_some]
  cases h : pfOk n m j with
  | false => rfl
  | true =>
    obtain ⟨N, M, J, rfl, h1, h8, ⟨rfl, _, hM, hMx⟩, ⟨rfl, _, hJ, hJx⟩⟩ := pfOk_elim h
    have h3 := cube_le h8
    have h2 := sq_le h8
    simp only [Bool.not_true, cond_false, cond_true, NL_toNat, Int.toNat_natCast]
    have p0 := l12Projection_eq (K := 3) (place := 0) h1 h8 (by omega) (by omega)
    have p2 := l12Projection_eq (K := 3) (place := 2) h1 h8 (by omega) (by omega)
    simp only [show (((3 : Nat) : Int)) = 3 from rfl, show (((0 : Nat) : Int)) = 0 from rfl, show (((2 : Nat) : Int)) = 2 from rfl] at p0 p2
    rw [p0, Option.bind_some, p2, Option.bind_some, w64_mul (by omega), w64_mul (by omega)]
    have := l12Compose_eq (k := ((3 : Nat) : Int)) (K := 3) (size := N * N * N) (T := J) (tabs := [(List.range (N ^ 3)).map fun i => ga (dig N 3 i) 0, M, (List.range (N ^ 3)).map fun i => ga (dig N 3 i) 2]) h1 h8 (by omega) hJ rfl
      (by intro t ht; simp only [List.mem_cons, List.not_mem_nil, or_false] at ht; rcases ht with rfl | rfl | rfl <;> simp [hM, pow3])
      (by
        intro t ht x hx
        simp only [List.mem_cons, List.not_mem_nil, or_false] at ht
        rcases ht with rfl | rfl | rfl
        · obtain ⟨i, _, rfl⟩ := List.mem_map.1 hx; exact dig_lt h1 3 i _ (ga_mem (by simp))
        · exact hMx x hx
        · obtain ⟨i, _, rfl⟩ := List.mem_map.1 hx; exact dig_lt h1 3 i _ (ga_mem (by simp))) (by omega)
    simp only [NLL_cons, NLL_nil] at this
    rw [this, Option.bind_some]
    congr 4
    unfold pfT
    refine List.map_congr_left fun i hi => ?_
    simp only [List.mem_range] at hi
    unfold cmp
    simp only [List.map_cons, List.map_nil, pow3]
    rw [ga_map _ hi, ga_map _ hi, dig3 hi]
    simp [ix, ga]

theorem impl_PixleyFrom {n : Int} {m j : Int × List Int} : s_impl_PixleyFrom n m j = some (pfR n m j) := by
  unfold s_impl_PixleyFrom pfR
  rw [impl_guard n m j, Option.bind_some]
  cases h : pfOk n m j with
  | false => rfl
  | true =>
    obtain ⟨N, M, J, rfl, h1, h8, ⟨rfl, _, hM, hMx⟩, ⟨rfl, _, hJ, hJx⟩⟩ := pfOk_elim h
    have h3 := cube_le h8
    have h2 := sq_le h8
    have hp : 0 < N * N := Nat.mul_pos h1 h1
    simp only [Bool.not_true, cond_false, cond_true, NL_toNat, Int.toNat_natCast]
    rw [forC0_app (fun i => ((ga J ((i / (N * N) * N + ga M i) * N + i % N) : Nat) : Int)) (n := N * N * N) (by rw [NL_len, hM, pow3]) (by omega)]
    · simp [NL, pfT]
    · intro i s hi _
      have hv : ga M i < N := hMx _ (ga_mem (by rw [hM, pow3]; exact hi))
      have ha : i / (N * N) < N := Nat.div_lt_of_lt_mul hi
      have hb : i % N < N := Nat.mod_lt _ h1
      have h4 := lin2 ha hv
      have h5 := lin2 h4 hb
      have h6 : i / (N * N) * N ≤ N * N := Nat.mul_le_mul_right N (by omega)
      have h7 : i / (N * N) * N * N ≤ N * N * N := Nat.mul_le_mul_right N h6
      have h9 : ga M i * N ≤ N * N := Nat.mul_le_mul_right N (by omega)
      have e : i / (N * N) * N * N + ga M i * N + i % N = (i / (N * N) * N + ga M i) * N + i % N := by rw [Nat.add_mul]
      rw [idx_NL (by rw [hM, pow3]; exact hi), Option.bind_some, w64_mul (by omega), nz_nat hp, Option.bind_some, nz_nat h1, Option.bind_some, w64_div (by omega), w64_mul (by omega), w64_mul (by omega), w64_mul (by omega), w64_add (by omega), tmod_nat, w64_add (by omega), e, idx_NL (by rw [hJ, pow3]; exact h5), Option.bind_some]

theorem pfR_len (n : Int) (m j : Int × List Int) : (pfR n m j).1.2.length ≤ 512 := by
  unfold pfR
  cases h : pfOk n m j with
  | false => simp
  | true =>
    obtain ⟨N, M, J, rfl, h1, h8, _, _⟩ := pfOk_elim h
    have := cube_le h8
    simpa [pfT] using this

theorem neg_dec {k : Int} (h : 0 ≤ k) : decide (k < 0) = false := by simp; omega

theorem s_laws_FnExactPixleyFrom_ok (n : Int) (m j : Int × List Int) (_ : OkI n) (hm : OkP OkI (OkL OkI) m) (hj : OkP OkI (OkL OkI) j) : s_laws_FnExactPixleyFrom n m j = some true := by
  unfold s_laws_FnExactPixleyFrom
  rw [szOp_eq _ _ hm.2.1 (by omega) (by omega), Option.bind_some]
  by_cases h : (1048576 : Int) < m.2.length
  · simp [h]
  rw [if_neg h]
  have hl : m.2.length ≤ 4294967296 := by omega
  rw [show decide ((1048576 : Int) - m.2.length < 0) = false by simp; omega, cond_false, szOp_eq _ _ hj.2.1 (by omega) (by omega), Option.bind_some]
  by_cases h' : (1048576 : Int) - m.2.length < j.2.length
  · simp [h']
  rw [if_neg h']
  have hl' : j.2.length ≤ 4294967296 := by omega
  rw [show decide ((1048576 : Int) - m.2.length - j.2.length < 0) = false by simp; omega, cond_false]
  have hr := pfR_len n m j
  obtain ⟨⟨⟨a, t⟩, b⟩, hpr⟩ : ∃ p, pfR n m j = p := ⟨_, rfl⟩
  rw [hpr] at hr
  simp only [toOp_eq _ hl, toOp_eq _ hl', Option.bind_some, spec_PixleyFrom hl hl', impl_PixleyFrom, hpr, eqOp_eq _ _ hl, eqOp_eq _ _ hl', eqOp_eq (a, t) _ (show t.length ≤ 4294967296 by simp only at hr; omega), beq_self_eq_true, Bool.not_true, cond_false]
  simp only at hr
  rw [markOp_eq _ _ hl (by omega) (by omega), Option.bind_some]
  simp only
  rw [markOp_eq _ _ hl' (by omega) (by omega), Option.bind_some]
  simp only [neg_dec (show (0 : Int) ≤ 1 + (m.2.length : Int) + (j.2.length : Int) by omega), cond_false, Option.bind_some]
  rw [markOp_eq _ _ (show t.length ≤ 4294967296 by omega) (by omega) (by omega), Option.bind_some]
  simp only
  rw [heldOp_eq _ _ _ (show t.length ≤ 4294967296 by omega) (by omega) (by omega), Option.bind_some]
  simp only [neg_dec (show (0 : Int) ≤ 1 + (t.length : Int) by omega), cond_false, bne_self_eq_false, Option.bind_some]

end Go.Proofs
