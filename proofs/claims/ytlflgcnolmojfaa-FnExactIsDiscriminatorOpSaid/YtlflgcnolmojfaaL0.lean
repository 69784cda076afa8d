/- Plain lemmas on what the functions compute, up to: the law gives true. No conditions. -/
import Derived.Test.YtlflgcnolmojfaaF0
import Derived.Test.YtlflgcnolmojfaaGPure
import Derived.Test.YtlflgcnolmojfaaGOpen
set_option linter.unusedVariables false
namespace Go.Proofs
open Go.G
set_option maxRecDepth 100000


/-- The last t digits of i, base n. -/
def digs (n : Int) : Nat → Int → List Int
  | 0, _ => []
  | t + 1, i => (i / n ^ t % n) :: digs n t i

theorem digs_loop {i k n : Int} {K : Nat} (hk : k = (K : Int)) (hK : K ≤ 4294967296) (hn : 1 ≤ n) (hi : 0 ≤ i) (hi' : i ≤ 9223372036854775807) : (
  (mks k (0 : Int)).bind fun y2 =>
  (iter (S := Int × Int × (List Int)) (R := (List Int)) (fun s17 =>
  (bif (decide (0 ≤ s17.2.1)) then (nz n).bind fun u26 =>
  (idx s17.2.2 s17.2.1).bind fun x27 =>
  (nz n).bind fun u30 =>
  some (.nx (w64 (Int.tdiv s17.1 n), w64 (s17.2.1 - 1), List.set s17.2.2 (Int.toNat s17.2.1) (Int.tmod s17.1 n))) else some (.br (s17.1, s17.2.1, s17.2.2)))) FU (i, w64 (k - 1), y2)).bind fun o21 => after o21 (fun r_ => some r_) (fun s17 =>
  some s17.2.2)) = some (digs n K i) := by
  subst hk
  rw [mks_ok rfl hK, Option.bind_some]
  have hp : ∀ t : Nat, 0 ≤ i / n ^ t ∧ i / n ^ t ≤ i := fun t => ⟨Int.ediv_nonneg hi (by exact Int.pow_nonneg (by omega)), ediv_le hi (by exact Int.pow_nonneg (by omega))⟩
  rw [iter_br (fun t => (i / n ^ t, (K : Int) - 1 - t, List.replicate (K - t) 0 ++ digs n t i)) (t := (i / n ^ K, -1, digs n K i)) K (by omega)]
  · rfl
  · rw [w64_id (by omega) (by omega)]; simp [digs]
  · intro j hj
    have e2 : List.replicate (K - j) (0 : Int) ++ digs n j i = List.replicate (K - (j + 1)) 0 ++ (0 :: digs n j i) := by
      rw [show K - j = (K - (j + 1)) + 1 by omega, List.replicate_succ', List.append_assoc]; rfl
    have hp1 := hp j
    have e3 : (K : Int) - 1 - j = ((K - (j + 1) : Nat) : Int) := by omega
    simp only [decide_true, show (0 : Int) ≤ (K : Int) - 1 - j by omega, cond_true, nz_ok (show n ≠ 0 by omega), Option.bind_some, tdiv_nn hp1.1, tmod_nn hp1.1]
    rw [w64_id (x := i / n ^ j / n) (by have := Int.ediv_nonneg hp1.1 (show 0 ≤ n by omega); omega) (by have := ediv_le hp1.1 (show 0 ≤ n by omega); omega), w64_id (by omega) (by omega), e2, e3, idx_nat, Int.toNat_natCast]
    simp only [List.getElem?_append, List.length_replicate, Nat.lt_irrefl, if_false, Nat.sub_self, List.getElem?_cons_zero, Option.bind_some, List.set_append, List.set_cons_zero, Option.some.injEq, Ctl.nx.injEq, Prod.mk.injEq]
    refine ⟨?_, by omega, by rw [digs]⟩
    rw [Int.pow_succ, Int.ediv_ediv_of_nonneg (Int.pow_nonneg (by omega))]
  · have : decide ((0 : Int) ≤ (K : Int) - 1 - K) = false := by simp; omega
    simp only [this, cond_false, Nat.sub_self, List.replicate_zero, List.nil_append]
    rw [show (K : Int) - 1 - K = -1 by omega]

theorem l2Args_eq {i k n : Int} {K : Nat} (hk : k = (K : Int)) (hK : K ≤ 4294967296) (hn : 1 ≤ n) (hi : 0 ≤ i) (hi' : i ≤ 9223372036854775807) : s_spec_l2Args n k i = some (digs n K i) :=
  digs_loop hk hK hn hi hi'

theorem l6Size_eq (n : Int) : s_spec_l6Size n = some (decide (1 ≤ n ∧ n ≤ 8)) := by
  unfold s_spec_l6Size s_spec_l1In
  by_cases h : 1 ≤ n <;> by_cases h' : n ≤ 8 <;> simp [h, h']

theorem isSize_eq (n : Int) : s_impl_isSize n = some (decide (1 ≤ n ∧ n ≤ 8)) := by
  unfold s_impl_isSize
  by_cases h : 1 ≤ n <;> by_cases h' : n ≤ 8 <;> simp [h, h']


theorem eqIntS_eq (a b : List Int) (ha : a.length ≤ 4294967296) : s_laws_eqIntS a b = some (a == b) := by
  unfold s_laws_eqIntS
  by_cases hl : a.length = b.length
  · rw [hl]
    simp only [bne_self_eq_false, cond_false]
    rw [forC0_chk (n := b.length) (fun j => a[j]? == b[j]?) false rfl (by omega)]
    · have : (a == b) = (List.range b.length).all (fun j => a[j]? == b[j]?) := by
        rw [Bool.eq_iff_iff]
        simp only [beq_iff_eq, List.all_eq_true, List.mem_range]
        constructor
        · rintro rfl j _; rfl
        · intro h; apply List.ext_getElem?; intro j
          by_cases hj : j < b.length
          · exact h j hj
          · rw [List.getElem?_eq_none (by omega), List.getElem?_eq_none (by omega)]
      rw [← this]
      cases a == b <;> rfl
    · intro j hj
      have hj' : j < a.length := by omega
      simp only [idx_nat, List.getElem?_eq_getElem hj, List.getElem?_eq_getElem hj', Option.bind_some]
      by_cases h : a[j] = b[j]
      · simp [h]
      · simp [bne, beq_eq_false_iff_ne.2 h]
  · have h1 : (a == b) = false := by
      rw [Bool.eq_false_iff]; intro h; exact hl (by rw [beq_iff_eq.1 h])
    have h2 : ((a.length : Int) != (b.length : Int)) = true := by simp; omega
    rw [h1, h2]; rfl

theorem eqOp_eq (a b : Int × List Int) (ha : a.2.length ≤ 4294967296) : s_laws_eqOp a b = some (a == b) := by
  obtain ⟨a1, a2⟩ := a
  obtain ⟨b1, b2⟩ := b
  unfold s_laws_eqOp
  simp only [eqIntS_eq a2 b2 ha, Option.bind_some]
  have : ((a1, a2) == (b1, b2)) = ((a1 == b1) && (a2 == b2)) := rfl
  rw [this]
  by_cases h : a1 = b1
  · cases h2 : a2 == b2 <;> simp [h]
  · simp [bne, beq_eq_false_iff_ne.2 h]


theorem toIntS_eq (a : List Int) (ha : a.length ≤ 4294967296) : s_laws_toIntS a = some a := by
  unfold s_laws_toIntS
  rw [mks_ok rfl ha, Option.bind_some, forC0_set (fun j => a[j]?.getD 0) (z := 0) (n := a.length) rfl ha rfl]
  · rw [Option.bind_some, after_br', map_range_getElem]
  · intro j s hj hs
    simp [List.getElem?_eq_getElem hj, List.getElem?_eq_getElem (show j < s.length by omega)]

theorem toOp_eq (a : Int × List Int) (ha : a.2.length ≤ 4294967296) : s_laws_toOp a = some a := by
  unfold s_laws_toOp; rw [toIntS_eq a.2 ha]; rfl



theorem pow_loop {n k : Int} {N K : Nat} (hn : n = (N : Int)) (hk : k = (K : Int)) (hN : 1 ≤ N) (hK : N ^ K ≤ 9223372036854775807) (hK2 : K ≤ 4294967296) : (
  (iter (S := Int × Int) (R := Int) (fun s2 =>
  (bif (decide (0 < s2.1)) then some (.nx (w64 (s2.1 - 1), w64 (s2.2 * n))) else some (.br (s2.1, s2.2)))) FU (k, 1)).bind fun o6 => after o6 (fun r_ => some r_) (fun s2 =>
  some s2.2)) = some ((N ^ K : Nat) : Int) := by
  subst hn hk
  rw [iter_br (fun t => ((K : Int) - t, ((N ^ t : Nat) : Int))) (t := (0, ((N ^ K : Nat) : Int))) K (by omega)]
  · rfl
  · simp
  · intro j hj
    have hd : decide ((0 : Int) < (K : Int) - j) = true := by simp; omega
    have hp : N ^ (j + 1) ≤ N ^ K := Nat.pow_le_pow_right hN (by omega)
    simp only [hd, cond_true]
    rw [w64_id (by omega) (by omega), show ((N ^ j : Nat) : Int) * (N : Int) = ((N ^ (j + 1) : Nat) : Int) by rw [Nat.pow_succ]; simp, w64_nat (by omega)]
    simp; omega
  · simp

theorem power_eq {n k : Int} {N K : Nat} (hn : n = (N : Int)) (hk : k = (K : Int)) (hN : 1 ≤ N) (hK : N ^ K ≤ 9223372036854775807) (hK2 : K ≤ 4294967296) : s_impl_power n k = some ((N ^ K : Nat) : Int) := pow_loop hn hk hN hK hK2

theorem l2Pow_eq {n k : Int} {N K : Nat} (hn : n = (N : Int)) (hk : k = (K : Int)) (hN : 1 ≤ N) (hK : N ^ K ≤ 9223372036854775807) (hK2 : K ≤ 4294967296) : s_spec_l2Pow n k = some ((N ^ K : Nat) : Int) := pow_loop hn hk hN hK hK2


theorem inSize_eq (l : List Int) (n : Int) : s_impl_inSize l n = some (l.all fun x => decide (0 ≤ x) && decide (x < n)) := by
  unfold s_impl_inSize
  rw [forR_chk (fun x => decide (0 ≤ x) && decide (x < n)) false]
  · cases l.all fun x => decide (0 ≤ x) && decide (x < n) <;> rfl
  · intro i x _
    by_cases h : x < 0
    · simp [h]; simp [show ¬ 0 ≤ x by omega]
    · by_cases h' : n ≤ x
      · simp [h, h']; simp [show ¬ x < n by omega]
      · simp [h, h', show 0 ≤ x by omega, show x < n by omega]


theorem l1In_eq (x a b : Int) : s_spec_l1In x a b = some (decide (a ≤ x) && decide (x ≤ b)) := by
  unfold s_spec_l1In
  by_cases h : a ≤ x <;> simp [h]


theorem all_range {α : Type} (l : List α) (p : α → Bool) (d : α) : (List.range l.length).all (fun j => p (l[j]?.getD d)) = l.all p := by
  rw [Bool.eq_iff_iff]
  simp only [List.all_eq_true, List.mem_range]
  constructor
  · intro h x hx
    obtain ⟨i, hi, rfl⟩ := List.mem_iff_getElem.1 hx
    have := h i hi
    simpa [List.getElem?_eq_getElem hi] using this
  · intro h j hj
    rw [List.getElem?_eq_getElem hj]
    exact h _ (List.getElem_mem hj)


/-- An operation over a set of N. -/
def opOk (N : Nat) (f : Int × List Int) : Bool := decide (0 ≤ f.1) && (decide (f.1 ≤ 3) && (decide (f.2.length = N ^ f.1.toNat) && f.2.all fun x => decide (0 ≤ x) && decide (x < (N : Int))))

theorem pow_small {N K : Nat} (hN8 : N ≤ 8) (hK : K ≤ 3) : N ^ K ≤ 512 := by
  have h1 : N ^ K ≤ 8 ^ K := Nat.pow_le_pow_left hN8 K
  have h2 : 8 ^ K ≤ 8 ^ 3 := Nat.pow_le_pow_right (by omega) hK
  omega

theorem isOp_eq {n : Int} {N : Nat} (hn : n = (N : Int)) (hN : 1 ≤ N) (hN8 : N ≤ 8) (f : Int × List Int) : s_impl_isOp f n = some (opOk N f) := by
  obtain ⟨a, t⟩ := f
  unfold s_impl_isOp opOk
  by_cases h0 : 0 ≤ a
  · by_cases h3 : a ≤ 3
    · obtain ⟨K, rfl⟩ : ∃ K : Nat, a = (K : Int) := ⟨a.toNat, by omega⟩
      have hp : N ^ K ≤ 512 := pow_small hN8 (by omega)
      have hi : s_impl_inSize t n = some (t.all fun x => decide (0 ≤ x) && decide (x < (N : Int))) := by rw [inSize_eq, hn]
      simp only [h0, h3, decide_true, cond_true, Bool.true_and, Int.toNat_natCast]
      rw [power_eq hn rfl hN (by omega) (by omega), Option.bind_some, hi, Option.bind_some]
      by_cases hl : t.length = N ^ K
      · simp [hl]
      · have : ((t.length : Int) == ((N ^ K : Nat) : Int)) = false := by rw [beq_nat]; simp [hl]
        rw [this]; simp [hl]
    · simp [h0, h3]
  · simp [h0]

theorem l2Op_eq {n : Int} {N : Nat} (hn : n = (N : Int)) (hN : 1 ≤ N) (hN8 : N ≤ 8) (f : Int × List Int) (hl : f.2.length ≤ 4294967296) : s_spec_l2Op n f = some (opOk N f) := by
  obtain ⟨a, t⟩ := f
  unfold s_spec_l2Op opOk
  simp only [l1In_eq, Option.bind_some]
  by_cases h0 : 0 ≤ a
  · by_cases h3 : a ≤ 3
    · obtain ⟨K, rfl⟩ : ∃ K : Nat, a = (K : Int) := ⟨a.toNat, by omega⟩
      have hp : N ^ K ≤ 512 := pow_small hN8 (by omega)
      simp only [h0, h3, decide_true, Bool.true_and, Bool.not_true, cond_false, Int.toNat_natCast]
      rw [l2Pow_eq hn rfl hN (by omega) (by omega), Option.bind_some, Option.bind_some]
      by_cases hl' : t.length = N ^ K
      · have e1 : ((t.length : Int) != ((N ^ K : Nat) : Int)) = false := by rw [hl']; simp
        rw [e1, cond_false, w64_id (by omega) (by omega), forC0_chk (n := t.length) (fun j => decide (0 ≤ t[j]?.getD 0) && decide (t[j]?.getD 0 < (N : Int))) false rfl (by simp at hl; omega)]
        · rw [all_range t (fun x => decide (0 ≤ x) && decide (x < (N : Int))) 0]
          cases t.all fun x => decide (0 ≤ x) && decide (x < (N : Int)) <;> simp [hl']
        · intro j hj
          simp only [idx_nat, List.getElem?_eq_getElem hj, Option.bind_some, Option.getD_some]
          have : decide (t[j] ≤ n - 1) = decide (t[j] < (N : Int)) := by rw [decide_eq_decide]; omega
          rw [this]
          cases decide (0 ≤ t[j]) && decide (t[j] < (N : Int)) <;> rfl
      · have e1 : ((t.length : Int) != ((N ^ K : Nat) : Int)) = true := by rw [bne, beq_nat]; simp [hl']
        rw [e1]; simp [hl']
    · simp [h0, h3]
  · simp [h0]


theorem szIntS_eq (a : List Int) (left : Int) (ha : a.length ≤ 9223372036854775807) (h0 : 0 ≤ left) (h1 : left ≤ 4611686018427387904) : s_laws_szIntS a left = some (if left < a.length then -1 else left - a.length) := by
  unfold s_laws_szIntS
  rw [w64_id (by omega) (by omega)]
  by_cases h : left < a.length
  · rw [if_pos h]; simp [show left - (a.length : Int) < 0 by omega]
  · rw [if_neg h]; simp [show ¬ left - (a.length : Int) < 0 by omega]

theorem szOp_eq (a : Int × List Int) (left : Int) (ha : a.2.length ≤ 9223372036854775807) (h0 : 0 ≤ left) (h1 : left ≤ 4611686018427387904) : s_laws_szOp a left = some (if left < a.2.length then -1 else left - a.2.length) := by
  unfold s_laws_szOp
  rw [szIntS_eq a.2 left ha h0 h1, Option.bind_some]
  by_cases h : left < a.2.length
  · rw [if_pos h]; rfl
  · rw [if_neg h]; simp [show ¬ left - (a.2.length : Int) < 0 by omega]

theorem n3 {n : Int} (h : 1 ≤ n ∧ n ≤ 8) : ∃ N : Nat, 1 ≤ N ∧ N ≤ 8 ∧ n = (N : Int) ∧ w64 (w64 (n * n) * n) = ((N * N * N : Nat) : Int) ∧ N * N * N ≤ 512 := by
  obtain ⟨h1, h2⟩ := h
  obtain ⟨N, rfl⟩ : ∃ N : Nat, n = (N : Int) := ⟨n.toNat, by omega⟩
  have : N = 1 ∨ N = 2 ∨ N = 3 ∨ N = 4 ∨ N = 5 ∨ N = 6 ∨ N = 7 ∨ N = 8 := by omega
  refine ⟨N, by omega, by omega, rfl, ?_⟩
  rcases this with h | h | h | h | h | h | h | h <;> subst h <;> exact ⟨by decide, by decide⟩


/-- The discriminator's table, or the dual one's. -/
def discT (dual : Bool) (N : Nat) : List Int := (List.range (N * N * N)).map fun k : Nat => if ((k / N / N % N == k / N % N) == dual) then ((k / N / N % N : Nat) : Int) else ((k % N : Nat) : Int)

theorem digs3 (N k : Nat) : digs (N : Int) 3 (k : Int) = [((k / N / N % N : Nat) : Int), ((k / N % N : Nat) : Int), ((k % N : Nat) : Int)] := by
  simp [digs, Nat.div_div_eq_div_mul]
  exact ⟨by rw [Int.pow_succ, Int.pow_succ, Int.pow_zero, Int.one_mul], by rw [Int.pow_succ, Int.pow_zero, Int.one_mul]⟩

theorem l2Args3 {N k : Nat} (h1 : 1 ≤ N) (hk : k ≤ 4611686018427387904) : s_spec_l2Args (N : Int) 3 (k : Int) = some [((k / N / N % N : Nat) : Int), ((k / N % N : Nat) : Int), ((k % N : Nat) : Int)] := by
  rw [l2Args_eq (k := 3) (K := 3) rfl (by omega) (by omega) (by omega) (by omega), digs3]

theorem l18Op_eq {n : Int} {N : Nat} (dual : Bool) (h1 : 1 ≤ N) (hn : n = (N : Int)) (hw : w64 (w64 (n * n) * n) = ((N * N * N : Nat) : Int)) (hs : N * N * N ≤ 512) : s_spec_l18Op n dual = some (3, discT dual N) := by
  unfold s_spec_l18Op
  rw [hw, forC0_app (fun k : Nat => if ((k / N / N % N == k / N % N) == dual) then ((k / N / N % N : Nat) : Int) else ((k % N : Nat) : Int)) rfl (by omega)]
  · rfl
  · intro j s hj hs
    rw [hn, l2Args3 h1 (by omega), Option.bind_some]
    have e : ∀ x y z : Int, idx [x, y, z] 0 = some x ∧ idx [x, y, z] 1 = some y ∧ idx [x, y, z] 2 = some z := fun _ _ _ => ⟨rfl, rfl, rfl⟩
    simp only [e, Option.bind_some]
    rw [beq_nat]
    cases (j / N / N % N == j / N % N) == dual <;> rfl

theorem div2_lt {k N : Nat} (h : k < N * N * N) : k / N / N < N := by
  rw [Nat.div_div_eq_div_mul]; exact Nat.div_lt_of_lt_mul (by rw [Nat.mul_comm]; rw [Nat.mul_comm] at h; exact h)

theorem ternary3 {n : Int} {N k : Nat} (hn : n = (N : Int)) (h1 : 1 ≤ N) (hs : N * N * N ≤ 512) (hk : k < N * N * N) :
    nz n = some () ∧ w64 (Int.tdiv (w64 (Int.tdiv (k : Int) n)) n) = ((k / N / N % N : Nat) : Int) ∧ Int.tmod (w64 (Int.tdiv (k : Int) n)) n = ((k / N % N : Nat) : Int) ∧ Int.tmod (k : Int) n = ((k % N : Nat) : Int) := by
  subst hn
  have h3 : k / N ≤ k := Nat.div_le_self _ _
  have h4 : k / N / N ≤ k / N := Nat.div_le_self _ _
  refine ⟨nz_ok (by omega), ?_, ?_, tmod_nat _ _⟩
  · rw [tdiv_nat, w64_nat (by omega), tdiv_nat, w64_nat (by omega), Nat.mod_eq_of_lt (div2_lt hk)]
  · rw [tdiv_nat, w64_nat (by omega), tmod_nat]

theorem ternary_disc {n : Int} {N : Nat} (h1 : 1 ≤ N) (hn : n = (N : Int)) (hw : w64 (w64 (n * n) * n) = ((N * N * N : Nat) : Int)) (hs : N * N * N ≤ 512) : s_impl_ternary__impl_discriminator_1 n = some (3, discT false N) := by
  unfold s_impl_ternary__impl_discriminator_1
  rw [hw, forC0_app (fun k : Nat => if ((k / N / N % N == k / N % N) == false) then ((k / N / N % N : Nat) : Int) else ((k % N : Nat) : Int)) rfl (by omega)]
  · rfl
  · intro j s hj _
    obtain ⟨e1, e2, e3, e4⟩ := ternary3 hn h1 hs hj
    simp only [e1, e2, e3, e4, Option.bind_some, s_impl_discriminator_1, beq_nat]
    cases (j / N / N % N == j / N % N) <;> rfl

theorem impl_discriminator_eq {n : Int} {N : Nat} (h1 : 1 ≤ N) (hn : n = (N : Int)) (hw : w64 (w64 (n * n) * n) = ((N * N * N : Nat) : Int)) (hs : N * N * N ≤ 512) : s_impl_discriminator n = some (3, discT false N) := by
  unfold s_impl_discriminator; rw [ternary_disc h1 hn hw hs]; rfl

theorem same_loop (a b : List Int) (ha : a.length ≤ 4294967296) : (
  (bif ((a.length : Int) != (b.length : Int)) then some false else (forC (S := Unit) (R := Bool) (fun k12 s10 =>
  (idx a k12).bind fun x17 =>
  (idx b k12).bind fun x19 =>
  (bif (x17 != x19) then some (.rt false) else some (.nx ()))) 0 (a.length : Int) ()).bind fun o14 => after o14 (fun r_ => some r_) (fun s10 =>
  some true))) = some (a == b) := eqIntS_eq a b ha

theorem l1Same_eq (a b : List Int) (ha : a.length ≤ 4294967296) : s_spec_l1Same a b = some (a == b) := by
  unfold s_spec_l1Same; exact same_loop a b ha

theorem sameList_eq (a b : List Int) (ha : a.length ≤ 4294967296) : s_impl_sameList a b = some (a == b) := by
  rw [← same_loop a b ha]
  unfold s_impl_sameList
  congr 1
  congr 1
  · congr 1
    funext k s
    cases idx a k with
    | none => rfl
    | some x => cases idx b k with
      | none => rfl
      | some y =>
        simp only [Option.bind_some]
        by_cases h : x = y
        · subst h; rfl
        · simp [bne, beq_eq_false_iff_ne.2 h, beq_eq_false_iff_ne.2 (Ne.symm h)]

theorem l18Takes_eq {n : Int} (f : Int × List Int) (hl : f.2.length ≤ 4294967296) : s_spec_l18Takes n f = some (decide (1 ≤ n ∧ n ≤ 8) && opOk n.toNat f) := by
  unfold s_spec_l18Takes
  rw [l6Size_eq, Option.bind_some]
  by_cases h : 1 ≤ n ∧ n ≤ 8
  · rw [show decide (1 ≤ n ∧ n ≤ 8) = true by simp [h], cond_true, Bool.true_and, l2Op_eq (N := n.toNat) (by omega) (by omega) (by omega) f hl]; rfl
  · rw [show decide (1 ≤ n ∧ n ≤ 8) = false by simp; omega]; rfl

theorem implTakes_eq {n : Int} (f : Int × List Int) : ((s_impl_isSize n).bind fun r7 =>
  (bif (!r7) then some true else (s_impl_isOp (f.1, f.2) n).bind fun r10 =>
  some (!r10))) = some (!(decide (1 ≤ n ∧ n ≤ 8) && opOk n.toNat f)) := by
  rw [isSize_eq, Option.bind_some]
  by_cases h : 1 ≤ n ∧ n ≤ 8
  · rw [show decide (1 ≤ n ∧ n ≤ 8) = true by simp [h], isOp_eq (N := n.toNat) (by omega) (by omega) (by omega)]; rfl
  · rw [show decide (1 ≤ n ∧ n ≤ 8) = false by simp; omega]; rfl


/-- What both answer. -/
def isDiscR (n : Int) (f : Int × List Int) : Bool × Bool := bif decide (1 ≤ n ∧ n ≤ 8) && opOk n.toNat f then (bif f.1 == 3 then (f.2 == discT false n.toNat, true) else (false, true)) else (false, false)

theorem spec_IsDisc {n : Int} (f : Int × List Int) (hl : f.2.length ≤ 4294967296) : s_spec_IsDiscriminatorOp n f = some (isDiscR n f) := by
  unfold s_spec_IsDiscriminatorOp isDiscR
  rw [l18Takes_eq f hl, Option.bind_some]
  by_cases h : (decide (1 ≤ n ∧ n ≤ 8) && opOk n.toNat f) = true
  · rw [h]
    simp only [Bool.and_eq_true, decide_eq_true_eq] at h
    obtain ⟨N, hN, hN8, hn, hw, h512⟩ := n3 h.1
    have : n.toNat = N := by omega
    rw [this, l18Op_eq false hN hn hw h512, Option.bind_some, l1Same_eq _ _ hl]
    cases f.1 == 3 <;> rfl
  · rw [Bool.not_eq_true] at h; rw [h]; rfl

theorem impl_IsDisc {n : Int} (f : Int × List Int) (hl : f.2.length ≤ 4294967296) : s_impl_IsDiscriminatorOp n f = some (isDiscR n f) := by
  unfold s_impl_IsDiscriminatorOp isDiscR
  rw [implTakes_eq f, Option.bind_some]
  by_cases h : (decide (1 ≤ n ∧ n ≤ 8) && opOk n.toNat f) = true
  · rw [h]
    simp only [Bool.and_eq_true, decide_eq_true_eq] at h
    obtain ⟨N, hN, hN8, hn, hw, h512⟩ := n3 h.1
    have : n.toNat = N := by omega
    rw [this, impl_discriminator_eq hN hn hw h512, Option.bind_some, sameList_eq _ _ hl]
    cases f.1 == 3 <;> rfl
  · rw [Bool.not_eq_true] at h; rw [h]; rfl

theorem s_laws_FnExactIsDiscriminatorOp_ok (n : Int) (f : Int × List Int) (_ : OkI n) (hf : OkP OkI (OkL OkI) f) : s_laws_FnExactIsDiscriminatorOp n f = some true := by
  unfold s_laws_FnExactIsDiscriminatorOp
  rw [szOp_eq _ _ hf.2.1 (by omega) (by omega), Option.bind_some]
  by_cases h : (1048576 : Int) < f.2.length
  · simp [h]
  · rw [if_neg h]
    have hl : f.2.length ≤ 4294967296 := by omega
    simp only [show decide ((1048576 : Int) - f.2.length < 0) = false by simp; omega, cond_false, toOp_eq _ hl, Option.bind_some, spec_IsDisc _ hl, impl_IsDisc _ hl, eqOp_eq _ _ hl]
    simp

end Go.Proofs
