/- Plain lemmas on what the functions compute, up to: the law gives true. No conditions. -/
import Derived.Test.YtdbfekcoaappnaaF3
import Derived.Test.YtdbfekcoaappnaaGPure
import Derived.Test.YtdbfekcoaappnaaGOpen
import Derived.Test.YtdbfekcoaappnaaGLoop
set_option linter.unusedVariables false
namespace Go.Proofs
open Go.G
set_option maxRecDepth 100000


/-- The last t digits of i, base n. -/
def digs (n : Int) : Nat → Int → List Int
  | 0, _ => []
  | t + 1, i => (i / n ^ t % n) :: digs n t i

theorem digs_loop {i k n : Int} {K : Nat} (hk : k = (K : Int)) (hK : K ≤ 4294967296) (hn : 1 ≤ n) (hi : 0 ≤ i) (hi' : i ≤ 9223372036854775807) : (
  (mks k (0 : Int)).bind fun y2 =>
  (iter (S := Int × Int × (List Int)) (R := (List Int)) (fun s17 =>
  (bif (decide (0 ≤ s17.2.1)) then (nz n).bind fun u26 =>
  (idx s17.2.2 s17.2.1).bind fun x27 =>
  (nz n).bind fun u30 =>
  some (.nx (w64 (Int.tdiv s17.1 n), w64 (s17.2.1 - 1), List.set s17.2.2 (Int.toNat s17.2.1) (Int.tmod s17.1 n))) else some (.br (s17.1, s17.2.1, s17.2.2)))) FU (i, w64 (k - 1), y2)).bind fun o21 => after o21 (fun r_ => some r_) (fun s17 =>
  some s17.2.2)) = some (digs n K i) := by
  subst hk
  rw [mks_ok rfl hK, Option.bind_some]
  have hp : ∀ t : Nat, 0 ≤ i / n ^ t ∧ i / n ^ t ≤ i := fun t => ⟨Int.ediv_nonneg hi (by exact Int.pow_nonneg (by omega)), ediv_le hi (by exact Int.pow_nonneg (by omega))⟩
  rw [iter_br (fun t => (i / n ^ t, (K : Int) - 1 - t, List.replicate (K - t) 0 ++ digs n t i)) (t := (i / n ^ K, -1, digs n K i)) K (by omega)]
  · rfl
  · rw [w64_id (by omega) (by omega)]; simp [digs]
  · intro j hj
    have e2 : List.replicate (K - j) (0 : Int) ++ digs n j i = List.replicate (K - (j + 1)) 0 ++ (0 :: digs n j i) := by
      rw [show K - j = (K - (j + 1)) + 1 by omega, List.replicate_succ', List.append_assoc]; rfl
    have hp1 := hp j
    have e3 : (K : Int) - 1 - j = ((K - (j + 1) : Nat) : Int) := by omega
    simp only [decide_true, show (0 : Int) ≤ (K : Int) - 1 - j by omega, cond_true, nz_ok (show n ≠ 0 by omega), Option.bind_some, tdiv_nn hp1.1, tmod_nn hp1.1]
    rw [w64_id (x := i / n ^ j / n) (by have := Int.ediv_nonneg hp1.1 (show 0 ≤ n by omega); omega) (by have := ediv_le hp1.1 (show 0 ≤ n by omega); omega), w64_id (by omega) (by omega), e2, e3, idx_nat, Int.toNat_natCast]
    simp only [List.getElem?_append, List.length_replicate, Nat.lt_irrefl, if_false, Nat.sub_self, List.getElem?_cons_zero, Option.bind_some, List.set_append, List.set_cons_zero, Option.some.injEq, Ctl.nx.injEq, Prod.mk.injEq]
    refine ⟨?_, by omega, by rw [digs]⟩
    rw [Int.pow_succ, Int.ediv_ediv_of_nonneg (Int.pow_nonneg (by omega))]
  · have : decide ((0 : Int) ≤ (K : Int) - 1 - K) = false := by simp; omega
    simp only [this, cond_false, Nat.sub_self, List.replicate_zero, List.nil_append]
    rw [show (K : Int) - 1 - K = -1 by omega]

theorem l2Args_eq {i k n : Int} {K : Nat} (hk : k = (K : Int)) (hK : K ≤ 4294967296) (hn : 1 ≤ n) (hi : 0 ≤ i) (hi' : i ≤ 9223372036854775807) : s_spec_l2Args n k i = some (digs n K i) :=
  digs_loop hk hK hn hi hi'

theorem argsAt_eq {i k n : Int} {K : Nat} (hk : k = (K : Int)) (hK : K ≤ 4294967296) (hn : 1 ≤ n) (hi : 0 ≤ i) (hi' : i ≤ 9223372036854775807) : s_impl_argsAt i k n = some (digs n K i) :=
  digs_loop hk hK hn hi hi'


theorem l6Size_eq (n : Int) : s_spec_l6Size n = some (decide (1 ≤ n ∧ n ≤ 8)) := by
  unfold s_spec_l6Size s_spec_l1In
  by_cases h : 1 ≤ n <;> by_cases h' : n ≤ 8 <;> simp [h, h']

theorem isSize_eq (n : Int) : s_impl_isSize n = some (decide (1 ≤ n ∧ n ≤ 8)) := by
  unfold s_impl_isSize
  by_cases h : 1 ≤ n <;> by_cases h' : n ≤ 8 <;> simp [h, h']



theorem pow_loop {n k : Int} {N K : Nat} (hn : n = (N : Int)) (hk : k = (K : Int)) (hN : 1 ≤ N) (hK : N ^ K ≤ 9223372036854775807) (hK2 : K ≤ 4294967296) : (
  (iter (S := Int × Int) (R := Int) (fun s2 =>
  (bif (decide (0 < s2.1)) then some (.nx (w64 (s2.1 - 1), w64 (s2.2 * n))) else some (.br (s2.1, s2.2)))) FU (k, 1)).bind fun o6 => after o6 (fun r_ => some r_) (fun s2 =>
  some s2.2)) = some ((N ^ K : Nat) : Int) := by
  subst hn hk
  rw [iter_br (fun t => ((K : Int) - t, ((N ^ t : Nat) : Int))) (t := (0, ((N ^ K : Nat) : Int))) K (by omega)]
  · rfl
  · simp
  · intro j hj
    have hd : decide ((0 : Int) < (K : Int) - j) = true := by simp; omega
    have hp : N ^ (j + 1) ≤ N ^ K := Nat.pow_le_pow_right hN (by omega)
    simp only [hd, cond_true]
    rw [w64_id (by omega) (by omega), show ((N ^ j : Nat) : Int) * (N : Int) = ((N ^ (j + 1) : Nat) : Int) by rw [Nat.pow_succ]; simp, w64_nat (by omega)]
    simp; omega
  · simp

theorem power_eq {n k : Int} {N K : Nat} (hn : n = (N : Int)) (hk : k = (K : Int)) (hN : 1 ≤ N) (hK : N ^ K ≤ 9223372036854775807) (hK2 : K ≤ 4294967296) : s_impl_power n k = some ((N ^ K : Nat) : Int) := pow_loop hn hk hN hK hK2

theorem l2Pow_eq {n k : Int} {N K : Nat} (hn : n = (N : Int)) (hk : k = (K : Int)) (hN : 1 ≤ N) (hK : N ^ K ≤ 9223372036854775807) (hK2 : K ≤ 4294967296) : s_spec_l2Pow n k = some ((N ^ K : Nat) : Int) := pow_loop hn hk hN hK hK2


theorem inSize_eq (l : List Int) (n : Int) : s_impl_inSize l n = some (l.all fun x => decide (0 ≤ x) && decide (x < n)) := by
  unfold s_impl_inSize
  rw [forR_chk (fun x => decide (0 ≤ x) && decide (x < n)) false]
  · cases l.all fun x => decide (0 ≤ x) && decide (x < n) <;> rfl
  · intro i x _
    by_cases h : x < 0
    · simp [h]; simp [show ¬ 0 ≤ x by omega]
    · by_cases h' : n ≤ x
      · simp [h, h']; simp [show ¬ x < n by omega]
      · simp [h, h', show 0 ≤ x by omega, show x < n by omega]


theorem l1In_eq (x a b : Int) : s_spec_l1In x a b = some (decide (a ≤ x) && decide (x ≤ b)) := by
  unfold s_spec_l1In
  by_cases h : a ≤ x <;> simp [h]


theorem all_range {α : Type} (l : List α) (p : α → Bool) (d : α) : (List.range l.length).all (fun j => p (l[j]?.getD d)) = l.all p := by
  rw [Bool.eq_iff_iff]
  simp only [List.all_eq_true, List.mem_range]
  constructor
  · intro h x hx
    obtain ⟨i, hi, rfl⟩ := List.mem_iff_getElem.1 hx
    have := h i hi
    simpa [List.getElem?_eq_getElem hi] using this
  · intro h j hj
    rw [List.getElem?_eq_getElem hj]
    exact h _ (List.getElem_mem hj)


/-- An operation over a set of N. -/
def opOk (N : Nat) (f : Int × List Int) : Bool := decide (0 ≤ f.1) && (decide (f.1 ≤ 3) && (decide (f.2.length = N ^ f.1.toNat) && f.2.all fun x => decide (0 ≤ x) && decide (x < (N : Int))))

theorem pow_small {N K : Nat} (hN8 : N ≤ 8) (hK : K ≤ 3) : N ^ K ≤ 512 := by
  have h1 : N ^ K ≤ 8 ^ K := Nat.pow_le_pow_left hN8 K
  have h2 : 8 ^ K ≤ 8 ^ 3 := Nat.pow_le_pow_right (by omega) hK
  omega

theorem isOp_eq {n : Int} {N : Nat} (hn : n = (N : Int)) (hN : 1 ≤ N) (hN8 : N ≤ 8) (f : Int × List Int) : s_impl_isOp f n = some (opOk N f) := by
  obtain ⟨a, t⟩ := f
  unfold s_impl_isOp opOk
  by_cases h0 : 0 ≤ a
  · by_cases h3 : a ≤ 3
    · obtain ⟨K, rfl⟩ : ∃ K : Nat, a = (K : Int) := ⟨a.toNat, by omega⟩
      have hp : N ^ K ≤ 512 := pow_small hN8 (by omega)
      have hi : s_impl_inSize t n = some (t.all fun x => decide (0 ≤ x) && decide (x < (N : Int))) := by rw [inSize_eq, hn]
      simp only [h0, h3, decide_true, cond_true, Bool.true_and, Int.toNat_natCast]
      rw [power_eq hn rfl hN (by omega) (by omega), Option.bind_some, hi, Option.bind_some]
      by_cases hl : t.length = N ^ K
      · simp [hl]
      · have : ((t.length : Int) == ((N ^ K : Nat) : Int)) = false := by rw [beq_nat]; simp [hl]
        rw [this]; simp [hl]
    · simp [h0, h3]
  · simp [h0]

theorem l2Op_eq {n : Int} {N : Nat} (hn : n = (N : Int)) (hN : 1 ≤ N) (hN8 : N ≤ 8) (f : Int × List Int) (hl : f.2.length ≤ 4294967296) : s_spec_l2Op n f = some (opOk N f) := by
  obtain ⟨a, t⟩ := f
  unfold s_spec_l2Op opOk
  simp only [l1In_eq, Option.bind_some]
  by_cases h0 : 0 ≤ a
  · by_cases h3 : a ≤ 3
    · obtain ⟨K, rfl⟩ : ∃ K : Nat, a = (K : Int) := ⟨a.toNat, by omega⟩
      have hp : N ^ K ≤ 512 := pow_small hN8 (by omega)
      simp only [h0, h3, decide_true, Bool.true_and, Bool.not_true, cond_false, Int.toNat_natCast]
      rw [l2Pow_eq hn rfl hN (by omega) (by omega), Option.bind_some, Option.bind_some]
      by_cases hl' : t.length = N ^ K
      · have e1 : ((t.length : Int) != ((N ^ K : Nat) : Int)) = false := by rw [hl']; simp
        rw [e1, cond_false, w64_id (by omega) (by omega), forC0_chk (n := t.length) (fun j => decide (0 ≤ t[j]?.getD 0) && decide (t[j]?.getD 0 < (N : Int))) false rfl (by simp at hl; omega)]
        · rw [all_range t (fun x => decide (0 ≤ x) && decide (x < (N : Int))) 0]
          cases t.all fun x => decide (0 ≤ x) && decide (x < (N : Int)) <;> simp [hl']
        · intro j hj
          simp only [idx_nat, List.getElem?_eq_getElem hj, Option.bind_some, Option.getD_some]
          have : decide (t[j] ≤ n - 1) = decide (t[j] < (N : Int)) := by rw [decide_eq_decide]; omega
          rw [this]
          cases decide (0 ≤ t[j]) && decide (t[j] < (N : Int)) <;> rfl
      · have e1 : ((t.length : Int) != ((N ^ K : Nat) : Int)) = true := by rw [bne, beq_nat]; simp [hl']
        rw [e1]; simp [hl']
    · simp [h0, h3]
  · simp [h0]


theorem n3 {n : Int} (h : 1 ≤ n ∧ n ≤ 8) : ∃ N : Nat, 1 ≤ N ∧ N ≤ 8 ∧ n = (N : Int) ∧ w64 (w64 (n * n) * n) = ((N * N * N : Nat) : Int) ∧ N * N * N ≤ 512 := by
  obtain ⟨h1, h2⟩ := h
  obtain ⟨N, rfl⟩ : ∃ N : Nat, n = (N : Int) := ⟨n.toNat, by omega⟩
  have : N = 1 ∨ N = 2 ∨ N = 3 ∨ N = 4 ∨ N = 5 ∨ N = 6 ∨ N = 7 ∨ N = 8 := by omega
  refine ⟨N, by omega, by omega, rfl, ?_⟩
  rcases this with h | h | h | h | h | h | h | h <;> subst h <;> exact ⟨by decide, by decide⟩


/-- The discriminator's table, or the dual one's. -/
def discT (dual : Bool) (N : Nat) : List Int := (List.range (N * N * N)).map fun k : Nat => if ((k / N / N % N == k / N % N) == dual) then ((k / N / N % N : Nat) : Int) else ((k % N : Nat) : Int)

theorem digs3 (N k : Nat) : digs (N : Int) 3 (k : Int) = [((k / N / N % N : Nat) : Int), ((k / N % N : Nat) : Int), ((k % N : Nat) : Int)] := by
  simp [digs, Nat.div_div_eq_div_mul]
  exact ⟨by rw [Int.pow_succ, Int.pow_succ, Int.pow_zero, Int.one_mul], by rw [Int.pow_succ, Int.pow_zero, Int.one_mul]⟩

theorem l2Args3 {N k : Nat} (h1 : 1 ≤ N) (hk : k ≤ 4611686018427387904) : s_spec_l2Args (N : Int) 3 (k : Int) = some [((k / N / N % N : Nat) : Int), ((k / N % N : Nat) : Int), ((k % N : Nat) : Int)] := by
  rw [l2Args_eq (k := 3) (K := 3) rfl (by omega) (by omega) (by omega) (by omega), digs3]

theorem l18Op_eq {n : Int} {N : Nat} (dual : Bool) (h1 : 1 ≤ N) (hn : n = (N : Int)) (hw : w64 (w64 (n * n) * n) = ((N * N * N : Nat) : Int)) (hs : N * N * N ≤ 512) : s_spec_l18Op n dual = some (3, discT dual N) := by
  unfold s_spec_l18Op
  rw [hw, forC0_app (fun k : Nat => if ((k / N / N % N == k / N % N) == dual) then ((k / N / N % N : Nat) : Int) else ((k % N : Nat) : Int)) rfl (by omega)]
  · rfl
  · intro j s hj hs
    rw [hn, l2Args3 h1 (by omega), Option.bind_some]
    have e : ∀ x y z : Int, idx [x, y, z] 0 = some x ∧ idx [x, y, z] 1 = some y ∧ idx [x, y, z] 2 = some z := fun _ _ _ => ⟨rfl, rfl, rfl⟩
    simp only [e, Option.bind_some]
    rw [beq_nat]
    cases (j / N / N % N == j / N % N) == dual <;> rfl

theorem div2_lt {k N : Nat} (h : k < N * N * N) : k / N / N < N := by
  rw [Nat.div_div_eq_div_mul]; exact Nat.div_lt_of_lt_mul (by rw [Nat.mul_comm]; rw [Nat.mul_comm] at h; exact h)

theorem ternary3 {n : Int} {N k : Nat} (hn : n = (N : Int)) (h1 : 1 ≤ N) (hs : N * N * N ≤ 512) (hk : k < N * N * N) :
    nz n = some () ∧ w64 (Int.tdiv (w64 (Int.tdiv (k : Int) n)) n) = ((k / N / N % N : Nat) : Int) ∧ Int.tmod (w64 (Int.tdiv (k : Int) n)) n = ((k / N % N : Nat) : Int) ∧ Int.tmod (k : Int) n = ((k % N : Nat) : Int) := by
  subst hn
  have h3 : k / N ≤ k := Nat.div_le_self _ _
  have h4 : k / N / N ≤ k / N := Nat.div_le_self _ _
  refine ⟨nz_ok (by omega), ?_, ?_, tmod_nat _ _⟩
  · rw [tdiv_nat, w64_nat (by omega), tdiv_nat, w64_nat (by omega), Nat.mod_eq_of_lt (div2_lt hk)]
  · rw [tdiv_nat, w64_nat (by omega), tmod_nat]

theorem ternary_dual {n : Int} {N : Nat} (h1 : 1 ≤ N) (hn : n = (N : Int)) (hw : w64 (w64 (n * n) * n) = ((N * N * N : Nat) : Int)) (hs : N * N * N ≤ 512) : s_impl_ternary__impl_DualDiscriminatorOp_1 n = some (3, discT true N) := by
  unfold s_impl_ternary__impl_DualDiscriminatorOp_1
  rw [hw, forC0_app (fun k : Nat => if ((k / N / N % N == k / N % N) == true) then ((k / N / N % N : Nat) : Int) else ((k % N : Nat) : Int)) rfl (by omega)]
  · rfl
  · intro j s hj _
    obtain ⟨e1, e2, e3, e4⟩ := ternary3 hn h1 hs hj
    simp only [e1, e2, e3, e4, Option.bind_some, s_impl_DualDiscriminatorOp_1, beq_nat]
    cases (j / N / N % N == j / N % N) <;> rfl

theorem ternary_disc {n : Int} {N : Nat} (h1 : 1 ≤ N) (hn : n = (N : Int)) (hw : w64 (w64 (n * n) * n) = ((N * N * N : Nat) : Int)) (hs : N * N * N ≤ 512) : s_impl_ternary__impl_discriminator_1 n = some (3, discT false N) := by
  unfold s_impl_ternary__impl_discriminator_1
  rw [hw, forC0_app (fun k : Nat => if ((k / N / N % N == k / N % N) == false) then ((k / N / N % N : Nat) : Int) else ((k % N : Nat) : Int)) rfl (by omega)]
  · rfl
  · intro j s hj _
    obtain ⟨e1, e2, e3, e4⟩ := ternary3 hn h1 hs hj
    simp only [e1, e2, e3, e4, Option.bind_some, s_impl_discriminator_1, beq_nat]
    cases (j / N / N % N == j / N % N) <;> rfl

theorem discT_len (d : Bool) (N : Nat) : (discT d N).length = N * N * N := by simp [discT]

theorem impl_discriminator_eq {n : Int} {N : Nat} (h1 : 1 ≤ N) (hn : n = (N : Int)) (hw : w64 (w64 (n * n) * n) = ((N * N * N : Nat) : Int)) (hs : N * N * N ≤ 512) : s_impl_discriminator n = some (3, discT false N) := by
  unfold s_impl_discriminator; rw [ternary_disc h1 hn hw hs]; rfl

theorem same_loop (a b : List Int) (ha : a.length ≤ 4294967296) : (
  (bif ((a.length : Int) != (b.length : Int)) then some false else (forC (S := Unit) (R := Bool) (fun k12 s10 =>
  (idx a k12).bind fun x17 =>
  (idx b k12).bind fun x19 =>
  (bif (x17 != x19) then some (.rt false) else some (.nx ()))) 0 (a.length : Int) ()).bind fun o14 => after o14 (fun r_ => some r_) (fun s10 =>
  some true))) = some (a == b) := by
  by_cases hl : a.length = b.length
  · rw [hl]
    simp only [bne_self_eq_false, cond_false]
    rw [forC0_chk (n := b.length) (fun j => a[j]? == b[j]?) false rfl (by omega)]
    · have : (a == b) = (List.range b.length).all (fun j => a[j]? == b[j]?) := by
        rw [Bool.eq_iff_iff]
        simp only [beq_iff_eq, List.all_eq_true, List.mem_range]
        constructor
        · rintro rfl j _; rfl
        · intro h; apply List.ext_getElem?; intro j
          by_cases hj : j < b.length
          · exact h j hj
          · rw [List.getElem?_eq_none (by omega), List.getElem?_eq_none (by omega)]
      rw [← this]
      cases a == b <;> rfl
    · intro j hj
      have hj' : j < a.length := by omega
      simp only [idx_nat, List.getElem?_eq_getElem hj, List.getElem?_eq_getElem hj', Option.bind_some]
      by_cases h : a[j] = b[j]
      · simp [h]
      · simp [bne, beq_eq_false_iff_ne.2 h]
  · have h1 : (a == b) = false := by
      rw [Bool.eq_false_iff]; intro h; exact hl (by rw [beq_iff_eq.1 h])
    have h2 : ((a.length : Int) != (b.length : Int)) = true := by simp; omega
    rw [h1, h2]; rfl

theorem l1Same_eq (a b : List Int) (ha : a.length ≤ 4294967296) : s_spec_l1Same a b = some (a == b) := by
  unfold s_spec_l1Same; exact same_loop a b ha

theorem sameList_eq (a b : List Int) (ha : a.length ≤ 4294967296) : s_impl_sameList a b = some (a == b) := by
  rw [← same_loop a b ha]
  unfold s_impl_sameList
  congr 1
  congr 1
  · congr 1
    funext k s
    cases idx a k with
    | none => rfl
    | some x => cases idx b k with
      | none => rfl
      | some y =>
        simp only [Option.bind_some]
        by_cases h : x = y
        · subst h; rfl
        · simp [bne, beq_eq_false_iff_ne.2 h, beq_eq_false_iff_ne.2 (Ne.symm h)]

theorem l18Takes_eq {n : Int} (f : Int × List Int) (hl : f.2.length ≤ 4294967296) : s_spec_l18Takes n f = some (decide (1 ≤ n ∧ n ≤ 8) && opOk n.toNat f) := by
  unfold s_spec_l18Takes
  rw [l6Size_eq, Option.bind_some]
  by_cases h : 1 ≤ n ∧ n ≤ 8
  · rw [show decide (1 ≤ n ∧ n ≤ 8) = true by simp [h], cond_true, Bool.true_and, l2Op_eq (N := n.toNat) (by omega) (by omega) (by omega) f hl]; rfl
  · rw [show decide (1 ≤ n ∧ n ≤ 8) = false by simp; omega]; rfl

theorem implTakes_eq {n : Int} (f : Int × List Int) : ((s_impl_isSize n).bind fun r7 =>
  (bif (!r7) then some true else (s_impl_isOp (f.1, f.2) n).bind fun r10 =>
  some (!r10))) = some (!(decide (1 ≤ n ∧ n ≤ 8) && opOk n.toNat f)) := by
  rw [isSize_eq, Option.bind_some]
  by_cases h : 1 ≤ n ∧ n ≤ 8
  · rw [show decide (1 ≤ n ∧ n ≤ 8) = true by simp [h], isOp_eq (N := n.toNat) (by omega) (by omega) (by omega)]; rfl
  · rw [show decide (1 ≤ n ∧ n ≤ 8) = false by simp; omega]; rfl


/-- What both answer. -/
def isDiscR (n : Int) (f : Int × List Int) : Bool × Bool := bif decide (1 ≤ n ∧ n ≤ 8) && opOk n.toNat f then (bif f.1 == 3 then (f.2 == discT false n.toNat, true) else (false, true)) else (false, false)

theorem spec_IsDisc {n : Int} (f : Int × List Int) (hl : f.2.length ≤ 4294967296) : s_spec_IsDiscriminatorOp n f = some (isDiscR n f) := by
  unfold s_spec_IsDiscriminatorOp isDiscR
  rw [l18Takes_eq f hl, Option.bind_some]
  by_cases h : (decide (1 ≤ n ∧ n ≤ 8) && opOk n.toNat f) = true
  · rw [h]
    simp only [Bool.and_eq_true, decide_eq_true_eq] at h
    obtain ⟨N, hN, hN8, hn, hw, h512⟩ := n3 h.1
    have : n.toNat = N := by omega
    rw [this, l18Op_eq false hN hn hw h512, Option.bind_some, l1Same_eq _ _ hl]
    cases f.1 == 3 <;> rfl
  · rw [Bool.not_eq_true] at h; rw [h]; rfl

theorem impl_IsDisc {n : Int} (f : Int × List Int) (hl : f.2.length ≤ 4294967296) : s_impl_IsDiscriminatorOp n f = some (isDiscR n f) := by
  unfold s_impl_IsDiscriminatorOp isDiscR
  rw [implTakes_eq f, Option.bind_some]
  by_cases h : (decide (1 ≤ n ∧ n ≤ 8) && opOk n.toNat f) = true
  · rw [h]
    simp only [Bool.and_eq_true, decide_eq_true_eq] at h
    obtain ⟨N, hN, hN8, hn, hw, h512⟩ := n3 h.1
    have : n.toNat = N := by omega
    rw [this, impl_discriminator_eq hN hn hw h512, Option.bind_some, sameList_eq _ _ hl]
    cases f.1 == 3 <;> rfl
  · rw [Bool.not_eq_true] at h; rw [h]; rfl


def NL (T : List Nat) : List Int := T.map fun x : Nat => (x : Int)

@[simp] theorem NL_len (T : List Nat) : (NL T).length = T.length := by simp [NL]

@[simp] theorem NL_nil : NL [] = [] := rfl

@[simp] theorem NL_cons (x : Nat) (T : List Nat) : NL (x :: T) = (x : Int) :: NL T := rfl

theorem NL_app (S T : List Nat) : NL (S ++ T) = NL S ++ NL T := by simp [NL]

theorem NL_inj {S T : List Nat} (h : NL S = NL T) : S = T := by
  induction S generalizing T with
  | nil => cases T with
    | nil => rfl
    | cons y T => cases h
  | cons x S ih => cases T with
    | nil => cases h
    | cons y T =>
      simp only [NL_cons, List.cons.injEq] at h
      rw [ih h.2, show x = y by omega]

theorem NL_beq (S T : List Nat) : (NL S == NL T) = (S == T) := by
  rw [Bool.eq_iff_iff, beq_iff_eq, beq_iff_eq]; exact ⟨NL_inj, fun h => by rw [h]⟩

def ga (T : List Nat) (k : Nat) : Nat := T.getD k 0

theorem ga_get {T : List Nat} {k : Nat} (h : k < T.length) : ga T k = T[k] := by simp [ga, List.getElem?_eq_getElem h]

theorem ga_mem {T : List Nat} {k : Nat} (h : k < T.length) : ga T k ∈ T := by rw [ga_get h]; exact List.getElem_mem h

theorem idx_NL {T : List Nat} {k : Nat} (h : k < T.length) : idx (NL T) (k : Int) = some ((ga T k : Nat) : Int) := by
  rw [idx_nat, ga_get h]; simp [NL, List.getElem?_eq_getElem h]

theorem NL_of {t : List Int} (h : ∀ x ∈ t, 0 ≤ x) : ∃ T : List Nat, t = NL T := by
  refine ⟨t.map Int.toNat, ?_⟩
  unfold NL
  rw [List.map_map]
  conv => lhs; rw [← List.map_id t]
  refine List.map_congr_left fun x hx => ?_
  have := h x hx
  simp; omega

theorem map_ga (T : List Nat) : (List.range T.length).map (ga T) = T := by
  apply List.ext_getElem
  · simp
  · intro i h1 h2
    simp only [List.getElem_map, List.getElem_range]
    exact ga_get h2

theorem ga_map {n k : Nat} (f : Nat → Nat) (h : k < n) : ga ((List.range n).map f) k = f k := by
  rw [ga_get (by simpa using h)]; simp

theorem w64_add {a b : Nat} (h : a + b ≤ 9223372036854775807) : w64 ((a : Int) + (b : Int)) = ((a + b : Nat) : Int) := by
  rw [w64_id (by omega) (by omega)]; omega

theorem w64_add1 {a : Nat} (h : a + 1 ≤ 9223372036854775807) : w64 ((a : Int) + 1) = ((a + 1 : Nat) : Int) := by
  rw [w64_id (by omega) (by omega)]; omega

theorem w64_mul {a b : Nat} (h : a * b ≤ 9223372036854775807) : w64 ((a : Int) * (b : Int)) = ((a * b : Nat) : Int) := by
  rw [← Int.natCast_mul, w64_nat h]

theorem dec_lt (a b : Nat) : decide ((a : Int) < (b : Int)) = decide (a < b) := by rw [decide_eq_decide]; omega

theorem lin2 {x y N M : Nat} (hx : x < N) (hy : y < M) : x * M + y < N * M := by
  calc x * M + y < x * M + M := by omega
    _ = (x + 1) * M := by rw [Nat.add_mul, Nat.one_mul]
    _ ≤ N * M := Nat.mul_le_mul_right M hx

theorem lin2_div {x y M : Nat} (hy : y < M) : (x * M + y) / M = x := by
  rw [Nat.mul_comm, Nat.mul_add_div (by omega), Nat.div_eq_of_lt hy]; omega

theorem lin2_mod {x y M : Nat} (hy : y < M) : (x * M + y) % M = y := by
  rw [Nat.mul_comm, Nat.mul_add_mod, Nat.mod_eq_of_lt hy]

/-- All pairs, in one row. -/
theorem all_pairs (n m : Nat) (p : Nat → Bool) : (List.range (n * m)).all p = (List.range n).all fun x => (List.range m).all fun y => p (x * m + y) := by
  rw [Bool.eq_iff_iff]
  simp only [List.all_eq_true, List.mem_range]
  constructor
  · intro h x hx y hy; exact h _ (lin2 hx hy)
  · intro h i hi
    have hm : 0 < m := by rcases Nat.eq_zero_or_pos m with h0 | h0; simp [h0] at hi; exact h0
    have := h (i / m) (by rw [Nat.div_lt_iff_lt_mul hm]; exact hi) (i % m) (Nat.mod_lt _ hm)
    rwa [Nat.mul_comm, Nat.div_add_mod] at this


def dig (N : Nat) : Nat → Nat → List Nat
  | 0, _ => []
  | t + 1, i => (i / N ^ t % N) :: dig N t i

@[simp] theorem dig_len (N : Nat) : ∀ (t i : Nat), (dig N t i).length = t
  | 0, _ => rfl
  | t + 1, i => by simp [dig, dig_len N t i]

theorem digs_NL (N : Nat) : ∀ (t i : Nat), digs (N : Int) t (i : Int) = NL (dig N t i)
  | 0, _ => rfl
  | t + 1, i => by
    simp only [digs, dig, NL_cons, digs_NL N t i]
    congr 1

theorem dig_lt {N : Nat} (h : 0 < N) : ∀ (t i : Nat), ∀ x ∈ dig N t i, x < N
  | 0, _, _, h => by cases h
  | t + 1, i, x, hx => by
    rcases List.mem_cons.1 hx with rfl | hx
    · exact Nat.mod_lt _ h
    · exact dig_lt h t i x hx

theorem argsN {i K N : Nat} (hK : K ≤ 4294967296) (hN : 1 ≤ N) (hi : i ≤ 9223372036854775807) : s_impl_argsAt (i : Int) (K : Int) (N : Int) = some (NL (dig N K i)) := by
  rw [argsAt_eq (K := K) rfl hK (by omega) (by omega) (by omega), digs_NL]

theorem l2ArgsN {i K N : Nat} (hK : K ≤ 4294967296) (hN : 1 ≤ N) (hi : i ≤ 9223372036854775807) : s_spec_l2Args (N : Int) (K : Int) (i : Int) = some (NL (dig N K i)) := by
  rw [l2Args_eq (K := K) rfl hK (by omega) (by omega) (by omega), digs_NL]


/-- An operation on N, of the arity K. -/
structure OpN (N : Nat) (f : Int × List Int) (K : Nat) (T : List Nat) : Prop where
  eq : f = ((K : Int), NL T)
  k3 : K ≤ 3
  len : T.length = N ^ K
  lt : ∀ x ∈ T, x < N

theorem opOk_elim {N : Nat} {f : Int × List Int} (h : opOk N f = true) : ∃ K T, OpN N f K T := by
  obtain ⟨a, t⟩ := f
  simp only [opOk, Bool.and_eq_true, decide_eq_true_eq, List.all_eq_true] at h
  obtain ⟨h0, h3, hl, hx⟩ := h
  obtain ⟨T, rfl⟩ := NL_of (fun x hx' => (hx x hx').1)
  obtain ⟨K, rfl⟩ : ∃ K : Nat, a = (K : Int) := ⟨a.toNat, by omega⟩
  refine ⟨K, T, rfl, by omega, by simpa using hl, fun x hx' => ?_⟩
  have := (hx (x : Int) (List.mem_map.2 ⟨x, hx', rfl⟩)).2
  omega

theorem OpN.ok {N : Nat} {f : Int × List Int} {K : Nat} {T : List Nat} (h : OpN N f K T) : opOk N f = true := by
  obtain ⟨rfl, h3, hl, hx⟩ := h
  simp only [opOk, Bool.and_eq_true, decide_eq_true_eq, List.all_eq_true]
  refine ⟨by omega, by omega, by simpa using hl, fun x hx' => ?_⟩
  obtain ⟨y, hy, rfl⟩ := List.mem_map.1 hx'
  have := hx y hy
  simp; omega

theorem cube_le {N : Nat} (h : N ≤ 8) : N * N * N ≤ 512 := by
  have h1 : N * N ≤ 8 * 8 := Nat.mul_le_mul h h
  have : N * N * N ≤ 8 * 8 * 8 := Nat.mul_le_mul h1 h
  omega

theorem pow3 (N : Nat) : N ^ 3 = N * N * N := by rw [Nat.pow_succ, Nat.pow_succ, Nat.pow_succ, Nat.pow_zero, Nat.one_mul]

theorem pow2 (N : Nat) : N ^ 2 = N * N := by rw [Nat.pow_succ, Nat.pow_succ, Nat.pow_zero, Nat.one_mul]


def ix (N : Nat) (s : Nat) (A : List Nat) : Nat := A.foldl (fun s x => s * N + x) s

theorem ix_lt {N : Nat} : ∀ (A : List Nat) (s : Nat), (∀ x ∈ A, x < N) → ix N s A < (s + 1) * N ^ A.length
  | [], s, _ => by simp [ix]
  | x :: A, s, h => by
    have h1 := ix_lt A (s * N + x) (fun y hy => h y (by simp [hy]))
    have hx := h x (by simp)
    have : (s * N + x + 1) * N ^ A.length ≤ (s + 1) * N * N ^ A.length := by
      apply Nat.mul_le_mul_right; rw [Nat.add_mul, Nat.one_mul]; omega
    show ix N (s * N + x) A < _
    rw [List.length_cons, Nat.pow_succ, Nat.mul_comm (N ^ A.length), ← Nat.mul_assoc]
    omega

theorem ix0_lt {N K : Nat} {A : List Nat} (h : ∀ x ∈ A, x < N) (hl : A.length = K) : ix N 0 A < N ^ K := by
  have := ix_lt A 0 h; rw [hl] at this; simpa using this

theorem indexOf_loop {N : Nat} (hN : 1 ≤ N) : ∀ (A : List Nat) (s : Nat) (i : Int), (∀ x ∈ A, x < N) → (s + 1) * N ^ A.length ≤ 9223372036854775807 →
    forR (S := Int) (R := Int) (fun _ x6 s3 => some (.nx (w64 ((w64 (s3 * (N : Int))) + x6)))) i (NL A) (s : Int) = some (.br ((ix N s A : Nat) : Int))
  | [], s, i, _, _ => rfl
  | x :: A, s, i, h, hb => by
    have hx := h x (by simp)
    have hp : 1 ≤ N ^ A.length := Nat.pow_pos (by omega)
    rw [List.length_cons, Nat.pow_succ, Nat.mul_comm (N ^ A.length), ← Nat.mul_assoc] at hb
    have h1 : (s * N + x + 1) * N ^ A.length ≤ (s + 1) * N * N ^ A.length := by
      apply Nat.mul_le_mul_right; rw [Nat.add_mul, Nat.one_mul]; omega
    have h2 : s * N + x + 1 ≤ (s * N + x + 1) * N ^ A.length := Nat.le_mul_of_pos_right _ hp
    rw [NL_cons]
    unfold forR
    rw [w64_mul (by omega), w64_add (by omega)]
    exact indexOf_loop hN A (s * N + x) (i + 1) (fun y hy => h y (by simp [hy])) (by omega)

theorem indexOf_eq {N : Nat} (hN : 1 ≤ N) {A : List Nat} (h : ∀ x ∈ A, x < N) (hb : N ^ A.length ≤ 9223372036854775807) : s_impl_indexOf (NL A) (N : Int) = some ((ix N 0 A : Nat) : Int) := by
  unfold s_impl_indexOf
  have := indexOf_loop hN A 0 0 h (by simpa using hb)
  rw [show (((0 : Nat) : Int)) = 0 from rfl] at this
  rw [this]; rfl

theorem compose_eq {F G : List Nat} (h : ∀ x ∈ F, x < G.length) (hl : F.length ≤ 4294967296) : s_impl_compose (NL F) (NL G) = some (NL (F.map (ga G))) := by
  unfold s_impl_compose
  rw [mks_ok rfl (by simpa using hl), Option.bind_some, forC0_set (fun j => ((ga G (ga F j) : Nat) : Int)) (z := 0) (n := F.length) (by simp) (by omega) (by simp)]
  · rw [Option.bind_some, after_br']
    congr 1
    conv => rhs; rw [← map_ga F]
    unfold NL; simp
  · intro j s hj hs
    rw [idx_NL hj, Option.bind_some, idx_NL (h _ (ga_mem hj)), Option.bind_some]
    simp [List.getElem?_eq_getElem (show j < s.length by omega)]

theorem pow_le_512 {N K : Nat} (h8 : N ≤ 8) (hK : K ≤ 3) : N ^ K ≤ 512 := pow_small h8 hK

theorem projection_eq {N K place : Nat} (h1 : 1 ≤ N) (h8 : N ≤ 8) (hK : K ≤ 3) (hp : place < K) : s_impl_projection (N : Int) (K : Int) (place : Int) = some (NL ((List.range (N ^ K)).map fun i => ga (dig N K i) place)) := by
  have hb := pow_le_512 h8 hK
  unfold s_impl_projection
  rw [power_eq rfl rfl h1 (by omega) (by omega), Option.bind_some, mks_ok rfl (by omega), Option.bind_some, forC0_set (fun i => ((ga (dig N K i) place : Nat) : Int)) (z := 0) (n := N ^ K) (by simp) (by omega) rfl]
  · simp [NL]
  · intro j s hj hs
    rw [argsN (by omega) h1 (by omega), Option.bind_some, idx_NL (by simpa using hp), Option.bind_some]
    simp [List.getElem?_eq_getElem (show j < s.length by omega)]

theorem dig2 {N x y : Nat} (hx : x < N) (hy : y < N) : dig N 2 (x * N + y) = [x, y] := by
  simp only [dig, Nat.pow_one, Nat.pow_zero, Nat.div_one, lin2_div hy, lin2_mod hy, Nat.mod_eq_of_lt hx]

/-- The value of a ternary table. -/
def t3 (T : List Nat) (N a b c : Nat) : Nat := ga T ((a * N + b) * N + c)

def vat (N : Nat) (T P : List Nat) (i : Nat) : Nat := ga T (ix N 0 (P.map (ga (dig N 2 i))))

theorem valuesAt_eq {N : Nat} {T P : List Nat} (h1 : 1 ≤ N) (h8 : N ≤ 8) (hT : T.length = N ^ 3) (hP : P.length = 3) (hp : ∀ x ∈ P, x < 2) : s_impl_valuesAt (N : Int) (NL T) (NL P) = some (NL ((List.range (N * N)).map (vat N T P))) := by
  have h2 : N * N ≤ 8 * 8 := Nat.mul_le_mul h8 h8
  have h512 := pow_le_512 h8 (show 3 ≤ 3 by omega)
  unfold s_impl_valuesAt
  rw [w64_mul (by omega), forC0_app (fun i => ((vat N T P i : Nat) : Int)) rfl (by omega)]
  · simp [NL]
  · intro j s hj hs
    have hl : ∀ x ∈ P.map (ga (dig N 2 j)), x < N := by
      intro x hx
      obtain ⟨y, hy, rfl⟩ := List.mem_map.1 hx
      exact dig_lt h1 2 j _ (ga_mem (by simpa using hp y hy))
    have hlen : (P.map (ga (dig N 2 j))).length = 3 := by simpa using hP
    have := argsN (i := j) (K := 2) (N := N) (by omega) h1 (by omega)
    rw [show ((2 : Nat) : Int) = 2 from rfl] at this
    rw [this, Option.bind_some, compose_eq (by simpa using hp) (by omega), Option.bind_some, indexOf_eq h1 hl (by rw [hlen]; omega), Option.bind_some, idx_NL (by rw [hT]; exact ix0_lt hl hlen), Option.bind_some]
    rfl

theorem vat_at {N x y a b c : Nat} {T : List Nat} (hx : x < N) (hy : y < N) : vat N T [a, b, c] (x * N + y) = t3 T N (ga [x, y] a) (ga [x, y] b) (ga [x, y] c) := by
  unfold vat t3
  rw [dig2 hx hy]
  simp [ix]

theorem map_beq_all (n : Nat) (f g : Nat → Nat) : ((List.range n).map f == (List.range n).map g) = (List.range n).all fun i => f i == g i := by
  rw [Bool.eq_iff_iff, beq_iff_eq]
  simp

theorem hasValuesAt3 {N : Nat} {T : List Nat} {K : Nat} (h1 : 1 ≤ N) (h8 : N ≤ 8) (hT : K = 3 → T.length = N ^ 3) {P Q R : List Nat} (hP : P.length = 3 ∧ ∀ x ∈ P, x < 2) (hQ : Q.length = 3 ∧ ∀ x ∈ Q, x < 2) (hR : R.length = 3 ∧ ∀ x ∈ R, x < 2) (A B C : List Nat) :
    s_impl_hasValuesAt (N : Int) ((K : Int), NL T) [NL P, NL Q, NL R] [NL A, NL B, NL C] = some (K == 3 && ((List.range (N * N)).map (vat N T P) == A) && ((List.range (N * N)).map (vat N T Q) == B) && ((List.range (N * N)).map (vat N T R) == C)) := by
  have h2 : N * N ≤ 8 * 8 := Nat.mul_le_mul h8 h8
  unfold s_impl_hasValuesAt
  simp only
  by_cases hK : K = 3
  · subst hK
    have hT := hT rfl
    rw [show (((3 : Nat) : Int) != 3) = false from rfl, cond_false]
    rw [forC0_chk (n := 3) (fun j => match j with | 0 => (List.range (N * N)).map (vat N T P) == A | 1 => (List.range (N * N)).map (vat N T Q) == B | _ => (List.range (N * N)).map (vat N T R) == C) false (by rfl) (by omega)]
    · rw [show List.range 3 = [0, 1, 2] from rfl]
      simp only [List.all_cons, List.all_nil, Bool.and_true]
      cases (List.range (N * N)).map (vat N T P) == A <;> cases (List.range (N * N)).map (vat N T Q) == B <;> cases (List.range (N * N)).map (vat N T R) == C <;> rfl
    · intro j hj
      match j, hj with
      | 0, _ =>
        simp only [idx_nat, List.getElem?_cons_zero, Option.bind_some]
        rw [valuesAt_eq h1 h8 hT hP.1 hP.2, Option.bind_some, sameList_eq _ _ (by simp; omega), Option.bind_some, NL_beq]
        cases (List.range (N * N)).map (vat N T P) == A <;> rfl
      | 1, _ =>
        simp only [idx_nat, List.getElem?_cons_zero, List.getElem?_cons_succ, Option.bind_some]
        rw [valuesAt_eq h1 h8 hT hQ.1 hQ.2, Option.bind_some, sameList_eq _ _ (by simp; omega), Option.bind_some, NL_beq]
        cases (List.range (N * N)).map (vat N T Q) == B <;> rfl
      | 2, _ =>
        simp only [idx_nat, List.getElem?_cons_zero, List.getElem?_cons_succ, Option.bind_some]
        rw [valuesAt_eq h1 h8 hT hR.1 hR.2, Option.bind_some, sameList_eq _ _ (by simp; omega), Option.bind_some, NL_beq]
        cases (List.range (N * N)).map (vat N T R) == C <;> rfl
  · have e1 : ((K : Int) != 3) = true := by simp; omega
    have e2 : (K == 3) = false := by simpa using hK
    rw [e1, e2]; rfl

theorem firsts_eq {N : Nat} (h1 : 1 ≤ N) (h8 : N ≤ 8) : s_impl_firsts (N : Int) = some (NL ((List.range (N * N)).map fun i => ga (dig N 2 i) 0)) := by
  unfold s_impl_firsts
  have := projection_eq (K := 2) (place := 0) h1 h8 (by omega) (by omega)
  rw [pow2] at this
  exact (by simpa using this)

theorem seconds_eq {N : Nat} (h1 : 1 ≤ N) (h8 : N ≤ 8) : s_impl_seconds (N : Int) = some (NL ((List.range (N * N)).map fun i => ga (dig N 2 i) 1)) := by
  unfold s_impl_seconds
  have := projection_eq (K := 2) (place := 1) h1 h8 (by omega) (by omega)
  rw [pow2] at this
  exact (by simpa using this)


theorem l18At_eq {N K x y z : Nat} {T : List Nat} (h8 : N ≤ 8) (hT : T.length = N ^ 3) (hx : x < N) (hy : y < N) (hz : z < N) : s_spec_l18At (N : Int) ((K : Int), NL T) (x : Int) (y : Int) (z : Int) = some ((t3 T N x y z : Nat) : Int) := by
  have h512 := cube_le h8
  have h2 := lin2 hx hy
  have h3 := lin2 h2 hz
  have h4 : x * N ≤ x * N + y := by omega
  have h5 := Nat.mul_le_mul h8 h8
  unfold s_spec_l18At
  rw [w64_mul (by omega), w64_add (by omega), w64_mul (by omega), w64_add (by omega), idx_NL (by rw [hT, pow3]; exact h3)]
  rfl


theorem all2_chk {R : Type} (N : Nat) (hN : N ≤ 9223372036854775807) (p : Nat → Nat → Bool) (bad good : R) {step : Int → Int → Option Bool}
    (h : ∀ x y : Nat, x < N → y < N → step x y = some (!p x y)) : ((forC (S := Unit) (R := R) (fun k39 s37 =>
  (forC (S := Unit) (R := R) (fun k57 s55 =>
  (step k39 k57).bind fun s61 =>
  (bif s61 then some (.rt bad) else some (.nx ()))) 0 (N : Int) ()).bind fun o59 => after o59 (fun r_ => some (.rt r_)) (fun s55 =>
  some (.nx ()))) 0 (N : Int) ()).bind fun o41 => after o41 (fun r_ => some r_) (fun s37 =>
  some good)) = some (bif (List.range N).all fun x => (List.range N).all fun y => p x y then good else bad) := by
  rw [forC0_chk (n := N) (fun x => (List.range N).all fun y => p x y) bad rfl hN]
  · cases (List.range N).all fun x => (List.range N).all fun y => p x y <;> rfl
  · intro x hx
    rw [forC0_chk (n := N) (fun y => p x y) bad rfl hN]
    · cases (List.range N).all fun y => p x y <;> rfl
    · intro y hy
      rw [h x y hx hy, Option.bind_some]
      cases p x y <;> rfl

theorem l18Takes_op {n : Int} {f : Int × List Int} (h : (decide (1 ≤ n ∧ n ≤ 8) && opOk n.toNat f) = true) : ∃ N K T, n = ((N : Nat) : Int) ∧ 1 ≤ N ∧ N ≤ 8 ∧ OpN N f K T := by
  simp only [Bool.and_eq_true, decide_eq_true_eq] at h
  obtain ⟨K, T, ho⟩ := opOk_elim h.2
  exact ⟨n.toNat, K, T, by omega, by omega, by omega, ho⟩


/-- What both answer: three patterns. -/
def isTern (pat : Nat → List Nat → Nat → Nat → Bool) (n : Int) (f : Int × List Int) : Bool × Bool :=
  bif decide (1 ≤ n ∧ n ≤ 8) && opOk n.toNat f then (bif f.1 == 3 then ((List.range n.toNat).all fun x => (List.range n.toNat).all fun y => pat n.toNat (f.2.map Int.toNat) x y, true) else (false, true)) else (false, false)

theorem NL_toNat (T : List Nat) : (NL T).map Int.toNat = T := by
  unfold NL; rw [List.map_map]; exact (List.map_congr_left (fun x _ => by simp)).trans (List.map_id T)

def uni (N : Nat) (T : List Nat) (x y : Nat) : Bool := (t3 T N x x y == x) && (t3 T N x y x == x) && (t3 T N y x x == x)

def pix (N : Nat) (T : List Nat) (x y : Nat) : Bool := (t3 T N x y y == x) && (t3 T N x y x == x) && (t3 T N x x y == y)

theorem bne_nat (a b : Nat) : ((a : Int) != (b : Int)) = !(a == b) := by rw [bne, beq_nat]

theorem spec_IsUnanimity {n : Int} (f : Int × List Int) (hl : f.2.length ≤ 4294967296) : s_spec_IsUnanimityOp n f = some (isTern uni n f) := by
  unfold s_spec_IsUnanimityOp isTern
  rw [l18Takes_eq f hl, Option.bind_some]
  cases h : (decide (1 ≤ n ∧ n ≤ 8) && opOk n.toNat f) with
  | false => rfl
  | true =>
    obtain ⟨N, K, T, rfl, h1, h8, rfl, hk, hT, hlt⟩ := l18Takes_op h
    simp only [Bool.not_true, cond_false, cond_true, Int.toNat_natCast, NL_toNat]
    by_cases hK : K = 3
    · subst hK
      rw [show (((3 : Nat) : Int) != 3) = false from rfl, show (((3 : Nat) : Int) == 3) = true from rfl, cond_false, cond_true]
      rw [all2_chk N (by omega) (fun x y => uni N T x y) _ _ (step := fun k39 k57 => (s_spec_l18At (N : Int) (((3 : Nat) : Int), NL T) k39 k39 k57).bind fun r65 =>
  (bif (r65 != k39) then some true else (s_spec_l18At (N : Int) (((3 : Nat) : Int), NL T) k39 k57 k39).bind fun r68 =>
  (bif (r68 != k39) then some true else (s_spec_l18At (N : Int) (((3 : Nat) : Int), NL T) k57 k39 k39).bind fun r71 =>
  some (r71 != k39))))]
      · cases (List.range N).all fun x => (List.range N).all fun y => uni N T x y <;> rfl
      · intro x y hx hy
        rw [l18At_eq h8 hT hx hx hy, l18At_eq h8 hT hx hy hx, l18At_eq h8 hT hy hx hx]
        simp only [Option.bind_some, bne_nat, uni]
        cases t3 T N x x y == x <;> cases t3 T N x y x == x <;> cases t3 T N y x x == x <;> rfl
    · have e1 : ((K : Int) != 3) = true := by simp; omega
      have e2 : ((K : Int) == 3) = false := by simp; omega
      rw [e1, e2]; rfl

theorem spec_IsPixley {n : Int} (f : Int × List Int) (hl : f.2.length ≤ 4294967296) : s_spec_IsPixleyOp n f = some (isTern pix n f) := by
  unfold s_spec_IsPixleyOp isTern
  rw [l18Takes_eq f hl, Option.bind_some]
  cases h : (decide (1 ≤ n ∧ n ≤ 8) && opOk n.toNat f) with
  | false => rfl
  | true =>
    obtain ⟨N, K, T, rfl, h1, h8, rfl, hk, hT, hlt⟩ := l18Takes_op h
    simp only [Bool.not_true, cond_false, cond_true, Int.toNat_natCast, NL_toNat]
    by_cases hK : K = 3
    · subst hK
      rw [show (((3 : Nat) : Int) != 3) = false from rfl, show (((3 : Nat) : Int) == 3) = true from rfl, cond_false, cond_true]
      rw [all2_chk N (by omega) (fun x y => pix N T x y) _ _ (step := fun k39 k57 => (s_spec_l18At (N : Int) (((3 : Nat) : Int), NL T) k39 k57 k57).bind fun r65 =>
  (bif (r65 != k39) then some true else (s_spec_l18At (N : Int) (((3 : Nat) : Int), NL T) k39 k57 k39).bind fun r68 =>
  (bif (r68 != k39) then some true else (s_spec_l18At (N : Int) (((3 : Nat) : Int), NL T) k39 k39 k57).bind fun r71 =>
  some (r71 != k57))))]
      · cases (List.range N).all fun x => (List.range N).all fun y => pix N T x y <;> rfl
      · intro x y hx hy
        rw [l18At_eq h8 hT hx hy hy, l18At_eq h8 hT hx hy hx, l18At_eq h8 hT hx hx hy]
        simp only [Option.bind_some, bne_nat, pix]
        cases t3 T N x y y == x <;> cases t3 T N x y x == x <;> cases t3 T N x x y == y <;> rfl
    · have e1 : ((K : Int) != 3) = true := by simp; omega
      have e2 : ((K : Int) == 3) = false := by simp; omega
      rw [e1, e2]; rfl

theorem all_and3 (n : Nat) (p q r : Nat → Bool) : ((List.range n).all p && (List.range n).all q && (List.range n).all r) = (List.range n).all fun i => p i && q i && r i := by
  rw [Bool.eq_iff_iff]
  simp only [Bool.and_eq_true, List.all_eq_true]
  exact ⟨fun h x hx => ⟨⟨h.1.1 x hx, h.1.2 x hx⟩, h.2 x hx⟩, fun h => ⟨⟨fun x hx => (h x hx).1.1, fun x hx => (h x hx).1.2⟩, fun x hx => (h x hx).2⟩⟩

theorem all_range_congr {n : Nat} {p q : Nat → Bool} (h : ∀ i, i < n → p i = q i) : (List.range n).all p = (List.range n).all q := by
  rw [Bool.eq_iff_iff]
  simp only [List.all_eq_true, List.mem_range]
  exact ⟨fun H i hi => by rw [← h i hi]; exact H i hi, fun H i hi => by rw [h i hi]; exact H i hi⟩

theorem impl_IsUnanimity {n : Int} (f : Int × List Int) : s_impl_IsUnanimityOp n f = some (isTern uni n f) := by
  unfold s_impl_IsUnanimityOp isTern
  rw [implTakes_eq f, Option.bind_some]
  cases h : (decide (1 ≤ n ∧ n ≤ 8) && opOk n.toNat f) with
  | false => rfl
  | true =>
    obtain ⟨N, K, T, rfl, h1, h8, rfl, hk, hT, hlt⟩ := l18Takes_op h
    simp only [Bool.not_true, cond_false, cond_true, Int.toNat_natCast, NL_toNat]
    rw [firsts_eq h1 h8, Option.bind_some]
    have := hasValuesAt3 (K := K) (T := T) h1 h8 (fun e => by rw [hT, e]) (P := [0, 0, 1]) (Q := [0, 1, 0]) (R := [1, 0, 0]) (by decide) (by decide) (by decide) ((List.range (N * N)).map fun i => ga (dig N 2 i) 0) ((List.range (N * N)).map fun i => ga (dig N 2 i) 0) ((List.range (N * N)).map fun i => ga (dig N 2 i) 0)
    simp only [NL_cons, NL_nil] at this
    rw [show (((0 : Nat) : Int)) = 0 from rfl, show (((1 : Nat) : Int)) = 1 from rfl] at this
    rw [this, Option.bind_some]
    by_cases hK : K = 3
    · subst hK
      rw [show (((3 : Nat) : Int) == 3) = true from rfl, cond_true, map_beq_all, map_beq_all, map_beq_all, show ((3 : Nat) == 3) = true from rfl, Bool.true_and, all_and3, all_pairs]
      congr 2
      refine all_range_congr fun x hx => all_range_congr fun y hy => ?_
      rw [vat_at hx hy, vat_at hx hy, vat_at hx hy, dig2 hx hy]
      rfl
    · have e1 : (K == 3) = false := by simpa using hK
      have e2 : ((K : Int) == 3) = false := by simp; omega
      rw [e1, e2]; rfl

theorem impl_IsPixley {n : Int} (f : Int × List Int) : s_impl_IsPixleyOp n f = some (isTern pix n f) := by
  unfold s_impl_IsPixleyOp isTern
  rw [implTakes_eq f, Option.bind_some]
  cases h : (decide (1 ≤ n ∧ n ≤ 8) && opOk n.toNat f) with
  | false => rfl
  | true =>
    obtain ⟨N, K, T, rfl, h1, h8, rfl, hk, hT, hlt⟩ := l18Takes_op h
    simp only [Bool.not_true, cond_false, cond_true, Int.toNat_natCast, NL_toNat]
    rw [firsts_eq h1 h8, Option.bind_some, seconds_eq h1 h8, Option.bind_some]
    have := hasValuesAt3 (K := K) (T := T) h1 h8 (fun e => by rw [hT, e]) (P := [0, 1, 1]) (Q := [0, 1, 0]) (R := [0, 0, 1]) (by decide) (by decide) (by decide) ((List.range (N * N)).map fun i => ga (dig N 2 i) 0) ((List.range (N * N)).map fun i => ga (dig N 2 i) 0) ((List.range (N * N)).map fun i => ga (dig N 2 i) 1)
    simp only [NL_cons, NL_nil] at this
    rw [show (((0 : Nat) : Int)) = 0 from rfl, show (((1 : Nat) : Int)) = 1 from rfl] at this
    rw [this, Option.bind_some]
    by_cases hK : K = 3
    · subst hK
      rw [show (((3 : Nat) : Int) == 3) = true from rfl, cond_true, map_beq_all, map_beq_all, map_beq_all, show ((3 : Nat) == 3) = true from rfl, Bool.true_and, all_and3, all_pairs]
      congr 2
      refine all_range_congr fun x hx => all_range_congr fun y hy => ?_
      rw [vat_at hx hy, vat_at hx hy, vat_at hx hy, dig2 hx hy]
      rfl
    · have e1 : (K == 3) = false := by simpa using hK
      have e2 : ((K : Int) == 3) = false := by simp; omega
      rw [e1, e2]; rfl



def NLL (L : List (List Nat)) : List (List Int) := L.map NL

@[simp] theorem NLL_len (L : List (List Nat)) : (NLL L).length = L.length := by simp [NLL]

@[simp] theorem NLL_nil : NLL [] = [] := rfl

@[simp] theorem NLL_cons (x : List Nat) (L : List (List Nat)) : NLL (x :: L) = NL x :: NLL L := rfl

def gl (L : List (List Nat)) (k : Nat) : List Nat := L.getD k []

theorem l1Own_eq {l : List Int} (h : l.length ≤ 4294967296) : s_spec_l1Own l = some l := by
  unfold s_spec_l1Own; rw [app_ok (by simpa using h)]; rfl

def finB (N : Nat) (P Q : List Nat) : Bool := (List.range N).all fun x => ga Q (ga P x) == ga Q x

theorem slc_take {α : Type} {l : List α} {k : Nat} (h : k ≤ l.length) : slc l 0 (k : Int) = some (l.take k) := by
  unfold slc
  rw [if_pos ⟨by omega, by omega, by omega⟩]
  simp

def hk1 (N : Nat) (S : List (List Nat)) (L : List Nat) (k i : Nat) : Nat := (List.range i).foldl (fun m i => if finB N (gl S i) (gl S k) then max m (ga L i + 1) else m) 0

def hd? : List (List Nat) → Option (List Int)
  | [] => none
  | x :: _ => some (NL x)

set_option linter.unusedVariables false

/-- A code: bytes, not too many. -/
def Byt (c : List Int) : Prop := c.length ≤ 65536 ∧ ∀ x ∈ c, 0 ≤ x ∧ x ≤ 255

theorem iand255 (a : Int) : 0 ≤ w64 (iand .u64 a 255) ∧ w64 (iand .u64 a 255) ≤ 255 := by
  unfold iand
  have h : (BitVec.ofInt IntKind.u64.bits a &&& BitVec.ofInt IntKind.u64.bits 255).toNat ≤ 255 := by
    rw [BitVec.toNat_and]
    exact Nat.le_trans Nat.and_le_right (by decide)
  generalize (BitVec.ofInt IntKind.u64.bits a &&& BitVec.ofInt IntKind.u64.bits 255).toNat = m at h
  rw [IntWalk.u64_in (m : Int) (by omega), w64_id (by omega) (by omega)]
  omega

theorem next_ok {c : List Int} (hc : Byt c) {a : Nat} (ha : a ≤ 1000000) (m : Int) : ∃ v m', s_spec_l1Cur__next (c, (a : Int), m) = some (v, ((a + 1 : Nat) : Int), m') ∧ 0 ≤ v ∧ v ≤ 255 := by
  unfold s_spec_l1Cur__next
  simp only []
  rw [dec_lt, w64_add1 (by omega)]
  by_cases h : a < c.length
  · rw [show decide (a < c.length) = true by simpa using h, cond_true, idx_nat, List.getElem?_eq_getElem h, Option.bind_some]
    have hx := hc.2 _ (List.getElem_mem h)
    rw [Option.bind_some, w64_id (by omega) (by omega), show decide (((a + 1 : Nat) : Int) ≤ (c.length : Int)) = true by simp; omega, cond_true]
    exact ⟨_, _, rfl, hx⟩
  · rw [show decide (a < c.length) = false by simpa using h, cond_false, Option.bind_some, show decide (((a + 1 : Nat) : Int) ≤ (c.length : Int)) = false by simp; omega, cond_false]
    exact ⟨_, _, rfl, iand255 _⟩

theorem pick_ok {c : List Int} (hc : Byt c) {a : Nat} (ha : a ≤ 900000) (m : Int) {n : Nat} (hn : 1 ≤ n) (hn' : n ≤ 1000000) : ∃ (v b : Nat) (m' : Int), s_spec_l1Cur__pick (n : Int) (c, (a : Int), m) = some ((v : Int), (b : Int), m') ∧ v < n ∧ a ≤ b ∧ b ≤ a + 2 := by
  unfold s_spec_l1Cur__pick
  by_cases h1 : n ≤ 1
  · rw [show decide ((n : Int) ≤ 1) = true by simp; omega, cond_true]
    exact ⟨0, a, m, rfl, by omega, by omega, by omega⟩
  · rw [show decide ((n : Int) ≤ 1) = false by simp; omega, cond_false]
    obtain ⟨v, m', e, v0, v1⟩ := next_ok hc (a := a) (by omega) m
    obtain ⟨v, rfl⟩ : ∃ q : Nat, v = (q : Int) := ⟨v.toNat, by omega⟩
    have e : s_spec_l1Cur__next ((c, (a : Int), m).1, (c, (a : Int), m).2.1, (c, (a : Int), m).2.2) = _ := e
    rw [e, Option.bind_some]
    have hz : nz (n : Int) = some () := nz_ok (by omega)
    by_cases h2 : 200 < n
    · rw [show decide ((200 : Int) < (n : Int)) = true by simp; omega, cond_true]
      obtain ⟨u, m2, e2, u0, u1⟩ := next_ok hc (a := a + 1) (by omega) m'
      obtain ⟨u, rfl⟩ : ∃ q : Nat, u = (q : Int) := ⟨u.toNat, by omega⟩
      have e2 : s_spec_l1Cur__next ((c, (a : Int), m).1, ((v : Int), ((a + 1 : Nat) : Int), m').2.1, ((v : Int), ((a + 1 : Nat) : Int), m').2.2) = _ := e2
      rw [e2, Option.bind_some, hz, Option.bind_some]
      simp only []
      rw [w64_id (x := (v : Int) * 256) (by omega) (by omega), w64_id (by omega) (by omega), show (v : Int) * 256 + (u : Int) = ((v * 256 + u : Nat) : Int) by omega, tmod_nat]
      exact ⟨_, _, _, rfl, Nat.mod_lt _ (by omega), by omega, by omega⟩
    · rw [show decide ((200 : Int) < (n : Int)) = false by simp; omega, cond_false, hz, Option.bind_some]
      simp only []
      rw [tmod_nat]
      exact ⟨_, _, _, rfl, Nat.mod_lt _ (by omega), by omega, by omega⟩

theorem pick_lit {c : List Int} (hc : Byt c) {a : Nat} (ha : a ≤ 900000) (m : Int) {k : Int} (n : Nat) (hk : k = (n : Int)) (hn : 1 ≤ n) (hn' : n ≤ 1000000) : ∃ (v b : Nat) (m' : Int), s_spec_l1Cur__pick k (c, (a : Int), m) = some ((v : Int), (b : Int), m') ∧ v < n ∧ a ≤ b ∧ b ≤ a + 2 := by
  subst hk; exact pick_ok hc ha m hn hn'

theorem among_ok {c : List Int} (hc : Byt c) {a : Nat} (ha : a ≤ 900000) (m : Int) {l : List Int} (h1 : 1 ≤ l.length) (h2 : l.length ≤ 1000000) : ∃ (x : Int) (b : Nat) (m' : Int), s_spec_l1Cur__among l (c, (a : Int), m) = some (x, (b : Int), m') ∧ x ∈ l ∧ a ≤ b ∧ b ≤ a + 2 := by
  unfold s_spec_l1Cur__among
  obtain ⟨v, b, m', e, e1, e2, e3⟩ := pick_ok hc ha m h1 h2
  have e : s_spec_l1Cur__pick (l.length : Int) ((c, (a : Int), m).1, (c, (a : Int), m).2.1, (c, (a : Int), m).2.2) = _ := e
  rw [e, Option.bind_some]
  simp only []
  rw [idx_nat, List.getElem?_eq_getElem e1, Option.bind_some]
  exact ⟨_, _, _, rfl, List.getElem_mem e1, e2, e3⟩

theorem vInts_eq (a b : List Int) (ha : a.length ≤ 4294967296) : s_laws_vInts a b = some (a == b) := by
  unfold s_laws_vInts; exact same_loop a b ha

set_option linter.unusedVariables false

theorem known_all : ((List.range 17).all fun k => match s_spec_l2Known (k : Int) with | some z => decide (z.2.length ≤ 3) && z.2.all (fun f => decide (f.2.length ≤ 512)) | none => false) = true := by decide +kernel

theorem known_ok {k : Nat} (h : k < 17) : ∃ (m : Int) (ops : List (Int × List Int)), s_spec_l2Known (k : Int) = some (m, ops) ∧ ops.length ≤ 3 ∧ ∀ f ∈ ops, f.2.length ≤ 512 := by
  have := known_all
  rw [List.all_eq_true] at this
  have := this k (by simpa using h)
  cases e : s_spec_l2Known (k : Int) with
  | none => rw [e] at this; simp at this
  | some z =>
    rw [e] at this
    simp only [Bool.and_eq_true, decide_eq_true_eq, List.all_eq_true] at this
    exact ⟨z.1, z.2, rfl, this.1, this.2⟩

theorem one_ok {c : List Int} (hc : Byt c) {a : Nat} (ha : a ≤ 800000) (m : Int) {k : Int} (n : Nat) (hk : k = (n : Int)) (hn : 1 ≤ n) (hn' : n ≤ 1000000) : ∃ (v : Bool) (b : Nat) (m' : Int), s_spec_l1Cur__one k (c, (a : Int), m) = some (v, (b : Int), m') ∧ a ≤ b ∧ b ≤ a + 2 := by
  unfold s_spec_l1Cur__one
  obtain ⟨v, b, m', e, _, e2, e3⟩ := pick_lit hc (a := a) (by omega) m n hk hn hn'
  simp only []
  rw [e, Option.bind_some]
  exact ⟨_, b, m', rfl, e2, e3⟩

theorem l2Copy_eq (f : Int × List Int) (h : f.2.length ≤ 4294967296) : s_spec_l2Copy f = some f := by
  unfold s_spec_l2Copy; rw [l1Own_eq h]; rfl

theorem op13_ok {c : List Int} (hc : Byt c) {a : Nat} (ha : a ≤ 100000) (m : Int) {n ar : Nat} (h1 : 1 ≤ n) (h8 : n ≤ 8) (h3 : ar ≤ 3) : ∃ (f : Int × List Int) (b : Nat) (m' : Int), s_spec_l1Cur__op13 (n : Int) (ar : Int) (c, (a : Int), m) = some (f, (b : Int), m') ∧ f.2.length ≤ 512 := by
  unfold s_spec_l1Cur__op13
  rw [l6Size_eq, Option.bind_some, show decide (1 ≤ (n : Int) ∧ (n : Int) ≤ 8) = true from decide_eq_true (by omega), Bool.not_true, cond_false, l1In_eq, Option.bind_some, show (decide ((0 : Int) ≤ (ar : Int)) && decide ((ar : Int) ≤ 3)) = true by simp; omega, Bool.not_true, Option.bind_some, cond_false]
  have key : ∀ (q i fu a : Nat) (m : Int), i + q = 8 → q < fu → a + 6 * q ≤ 200000 →
      (∃ (i' b : Nat) (m' : Int), a ≤ b ∧ b ≤ a + 6 * q + 2 ∧ iter (S := Int × Int × Int) (R := (Int × (List Int)) × Int × Int) (fun s113 =>
  ((bif (decide (s113.1 < 8)) then (s_spec_l1Cur__one 2 (c, s113.2.1, s113.2.2)).bind fun r130 =>
  some (r130.1, r130.2.1, r130.2.2) else some (false, s113.2.1, s113.2.2))).bind fun s125 =>
  (bif s125.1 then (s_spec_l1Cur__pick 17 (c, s125.2.1, s125.2.2)).bind fun r134 =>
  (s_spec_l2Known r134.1).bind fun r136 =>
  (bif ((r136.1 == (n : Int)) && (decide (0 < (r136.2.length : Int)))) then (s_spec_l1Cur__pick (r136.2.length : Int) (c, r134.2.1, r134.2.2)).bind fun r147 =>
  (idx r136.2 r147.1).bind fun x148 =>
  (s_spec_l2Copy (x148.1, x148.2)).bind fun r153 =>
  some (.rt ((r153.1, r153.2), r147.2.1, r147.2.2)) else some (.nx (w64 (s113.1 + 1), r134.2.1, r134.2.2))) else some (.br (s113.1, s125.2.1, s125.2.2)))) fu ((i : Int), (a : Int), m) = some (.br ((i' : Int), (b : Int), m'))) ∨
      (∃ (f : Int × List Int) (b : Nat) (m' : Int), f.2.length ≤ 512 ∧ iter (S := Int × Int × Int) (R := (Int × (List Int)) × Int × Int) (fun s113 =>
  ((bif (decide (s113.1 < 8)) then (s_spec_l1Cur__one 2 (c, s113.2.1, s113.2.2)).bind fun r130 =>
  some (r130.1, r130.2.1, r130.2.2) else some (false, s113.2.1, s113.2.2))).bind fun s125 =>
  (bif s125.1 then (s_spec_l1Cur__pick 17 (c, s125.2.1, s125.2.2)).bind fun r134 =>
  (s_spec_l2Known r134.1).bind fun r136 =>
  (bif ((r136.1 == (n : Int)) && (decide (0 < (r136.2.length : Int)))) then (s_spec_l1Cur__pick (r136.2.length : Int) (c, r134.2.1, r134.2.2)).bind fun r147 =>
  (idx r136.2 r147.1).bind fun x148 =>
  (s_spec_l2Copy (x148.1, x148.2)).bind fun r153 =>
  some (.rt ((r153.1, r153.2), r147.2.1, r147.2.2)) else some (.nx (w64 (s113.1 + 1), r134.2.1, r134.2.2))) else some (.br (s113.1, s125.2.1, s125.2.2)))) fu ((i : Int), (a : Int), m) = some (.rt (f, (b : Int), m'))) := by
    intro q
    induction q with
    | zero =>
      intro i fu a m hi hfu _
      obtain ⟨fu, rfl⟩ : ∃ q, fu = q + 1 := ⟨fu - 1, by omega⟩
      left
      refine ⟨i, a, m, by omega, by omega, ?_⟩
      unfold iter
      simp only []
      rw [show decide ((i : Int) < 8) = false from decide_eq_false (by omega)]; rfl
    | succ q ih =>
      intro i fu a m hi hfu ha
      obtain ⟨fu, rfl⟩ : ∃ q, fu = q + 1 := ⟨fu - 1, by omega⟩
      unfold iter
      simp only []
      rw [show decide ((i : Int) < 8) = true from decide_eq_true (by omega), cond_true]
      obtain ⟨v, b, m1, e, e1, e2⟩ := one_ok hc (a := a) (by omega) m 2 (k := 2) rfl (by omega) (by omega)
      rw [e, Option.bind_some, Option.bind_some]
      cases v with
      | false => exact .inl ⟨i, b, m1, e1, by omega, rfl⟩
      | true =>
        simp only [cond_true]
        obtain ⟨k, b1, m2, f, f1, f2, f3⟩ := pick_lit hc (a := b) (by omega) m1 17 (k := 17) rfl (by omega) (by omega)
        rw [f, Option.bind_some]
        obtain ⟨z, ops, g, g1, g2⟩ := known_ok f1
        simp only []
        rw [g, Option.bind_some]
        simp only []
        cases ht : ((z == (n : Int)) && (decide ((0 : Int) < (ops.length : Int)))) with
        | true =>
          simp only [cond_true]
          rw [Bool.and_eq_true, decide_eq_true_eq] at ht
          obtain ⟨j, b2, m3, p, p1, p2, p3⟩ := pick_ok hc (a := b1) (by omega) m2 (n := ops.length) (by omega) (by omega)
          rw [p, Option.bind_some]
          simp only []
          rw [idx_nat, List.getElem?_eq_getElem p1, Option.bind_some, l2Copy_eq _ (by have := g2 _ (List.getElem_mem p1); simp only []; omega), Option.bind_some]
          exact .inr ⟨_, b2, m3, g2 _ (List.getElem_mem p1), rfl⟩
        | false =>
          simp only [cond_false]
          rw [w64_add1 (by omega)]
          rcases ih (i + 1) fu b1 m2 (by omega) (by omega) (by omega) with ⟨i', b', m', k1, k2, k3⟩ | ⟨f', b', m', k1, k2⟩
          · exact .inl ⟨i', b', m', by omega, by omega, k3⟩
          · exact .inr ⟨f', b', m', k1, k2⟩
  rcases key 8 0 FU a m (by omega) (by unfold FU; omega) (by omega) with ⟨i', b', m', k1, k2, k3⟩ | ⟨f', b', m', k1, k2⟩
  case inr =>
    rw [show ((0 : Nat) : Int) = 0 from rfl] at k2
    rw [k2]
    exact ⟨f', b', m', rfl, k1⟩
  rw [show ((0 : Nat) : Int) = 0 from rfl] at k3
  rw [k3, Option.bind_some, after_br']
  simp only []
  have hpow : n ^ ar ≤ 512 := pow_le_512 h8 h3
  have ep : s_spec_l2Pow (n : Int) (ar : Int) = some ((n ^ ar : Nat) : Int) := l2Pow_eq rfl rfl h1 (by omega) (by omega)
  have key2 : ∀ (q i fu a : Nat) (m : Int) (t : List Int), i + q = n ^ ar → q < fu → a + 4 * q ≤ 300000 → t.length = i →
      ∃ (b : Nat) (m' : Int) (t' : List Int), a ≤ b ∧ b ≤ a + 4 * q ∧ t'.length = n ^ ar ∧ iter (S := Int × Int × Int × (List Int)) (R := (Int × (List Int)) × Int × Int) (fun s300 =>
  (s_spec_l2Pow (n : Int) (ar : Int)).bind fun r311 =>
  (bif (decide (s300.1 < r311)) then (s_spec_l2Args (n : Int) (ar : Int) s300.1).bind fun r314 =>
  ((bif (decide (0 < (r314.length : Int))) then (s_spec_l1Cur__one 3 (c, s300.2.1, s300.2.2.1)).bind fun r327 =>
  some ((!r327.1), r327.2.1, r327.2.2) else some (false, s300.2.1, s300.2.2.1))).bind fun s322 =>
  (bif s322.1 then (s_spec_l1Cur__among r314 (c, s322.2.1, s322.2.2)).bind fun r332 =>
  (app s300.2.2.2 ([r332.1])).bind fun y336 =>
  some (.nx (w64 (s300.1 + 1), r332.2.1, r332.2.2, y336)) else (s_spec_l1Cur__pick (n : Int) (c, s322.2.1, s322.2.2)).bind fun r355 =>
  (app s300.2.2.2 ([r355.1])).bind fun y359 =>
  some (.nx (w64 (s300.1 + 1), r355.2.1, r355.2.2, y359))) else some (.br (s300.1, s300.2.1, s300.2.2.1, s300.2.2.2)))) fu ((i : Int), (a : Int), m, t) = some (.br (((n ^ ar : Nat) : Int), (b : Int), m', t')) := by
    simp only [ep, Option.bind_some]
    intro q
    induction q with
    | zero =>
      intro i fu a m t hi hfu _ ht
      obtain ⟨fu, rfl⟩ : ∃ q, fu = q + 1 := ⟨fu - 1, by omega⟩
      refine ⟨a, m, t, by omega, by omega, by omega, ?_⟩
      unfold iter
      try simp only
      rw [show decide ((i : Int) < ((n ^ ar : Nat) : Int)) = false from decide_eq_false (by omega), cond_false, show i = n ^ ar by omega]
    | succ q ih =>
      intro i fu a m t hi hfu ha ht
      obtain ⟨fu, rfl⟩ : ∃ q, fu = q + 1 := ⟨fu - 1, by omega⟩
      unfold iter
      try simp only
      rw [show decide ((i : Int) < ((n ^ ar : Nat) : Int)) = true from decide_eq_true (by omega), cond_true, l2ArgsN (by omega) h1 (by omega), Option.bind_some]
      have hmid : ∃ (v : Bool) (b : Nat) (m' : Int), (bif (decide ((0 : Int) < ((NL (dig n ar i)).length : Int))) then (s_spec_l1Cur__one 3 (c, (a : Int), m)).bind fun r327 =>
          some ((!r327.1), r327.2.1, r327.2.2) else some (false, (a : Int), m)) = some (v, (b : Int), m') ∧ a ≤ b ∧ b ≤ a + 2 ∧ (v = true → 1 ≤ ar) := by
        by_cases h0 : 0 < ar
        · rw [show decide ((0 : Int) < ((NL (dig n ar i)).length : Int)) = true from decide_eq_true (by rw [NL_len, dig_len]; omega), cond_true]
          obtain ⟨v, b, m1, e, e1, e2⟩ := one_ok hc (a := a) (by omega) m 3 (k := 3) rfl (by omega) (by omega)
          rw [e]
          exact ⟨_, b, m1, rfl, e1, e2, fun _ => h0⟩
        · rw [show decide ((0 : Int) < ((NL (dig n ar i)).length : Int)) = false from decide_eq_false (by rw [NL_len, dig_len]; omega), cond_false]
          exact ⟨false, a, m, rfl, by omega, by omega, fun h => by cases h⟩
      obtain ⟨v, b, m1, e, e1, e2, e3⟩ := hmid
      skip
      rw [e, Option.bind_some]
      cases v with
      | true =>
        simp only [cond_true]
        obtain ⟨x, b2, m2, f, _, f2, f3⟩ := among_ok hc (a := b) (by omega) m1 (l := NL (dig n ar i)) (by rw [NL_len, dig_len]; exact e3 rfl) (by rw [NL_len, dig_len]; omega)
        rw [f, Option.bind_some, app_ok (by simp; omega), Option.bind_some]
        simp only []
        rw [w64_add1 (by omega)]
        obtain ⟨b', m', t', g1, g2, g3, g4⟩ := ih (i + 1) fu b2 m2 (t ++ [x]) (by omega) (by omega) (by omega) (by simp; omega)
        exact ⟨b', m', t', by omega, by omega, g3, g4⟩
      | false =>
        simp only [cond_false]
        obtain ⟨x, b2, m2, f, _, f2, f3⟩ := pick_ok hc (a := b) (by omega) m1 (n := n) h1 (by omega)
        rw [f, Option.bind_some, app_ok (by simp; omega), Option.bind_some]
        simp only []
        rw [w64_add1 (by omega)]
        obtain ⟨b', m', t', g1, g2, g3, g4⟩ := ih (i + 1) fu b2 m2 (t ++ [(x : Int)]) (by omega) (by omega) (by omega) (by simp; omega)
        exact ⟨b', m', t', by omega, by omega, g3, g4⟩
  obtain ⟨b2, m2, t, g1, g2, g3, g4⟩ := key2 (n ^ ar) 0 FU b' m' [] (by omega) (by unfold FU; omega) (by omega) rfl
  rw [show ((0 : Nat) : Int) = 0 from rfl] at g4
  rw [g4, Option.bind_some, after_br']
  simp only []
  obtain ⟨v, b3, m3, e, e1, e2⟩ := one_ok hc (a := b2) (by omega) m2 32 (k := 32) rfl (by omega) (by omega)
  rw [e, Option.bind_some]
  cases v with
  | false => exact ⟨_, b3, m3, rfl, by simp only []; omega⟩
  | true =>
    simp only [cond_true]
    obtain ⟨x, b4, m4, f, _, f2, f3⟩ := among_ok hc (a := b3) (by omega) m3 (l := [(-1), (n : Int)]) (by simp) (by simp)
    have hpos : 0 < t.length := by rw [g3]; exact Nat.pow_pos (by omega)
    rw [f, Option.bind_some, show idx t 0 = some t[0] by rw [show (0 : Int) = ((0 : Nat) : Int) from rfl, idx_nat, List.getElem?_eq_getElem hpos], Option.bind_some]
    exact ⟨_, b4, m4, rfl, by simp; omega⟩

theorem op18_ok {c : List Int} (hc : Byt c) {a : Nat} (ha : a ≤ 1000) (m : Int) {n : Nat} : ∃ (f : Int × List Int) (b : Nat) (m' : Int), s_spec_l1Cur__op18 (n : Int) (c, (a : Int), m) = some (f, (b : Int), m') ∧ f.2.length ≤ 512 := by
  unfold s_spec_l1Cur__op18
  rw [l6Size_eq, Option.bind_some]
  by_cases h : 1 ≤ (n : Int) ∧ (n : Int) ≤ 8
  case neg => rw [show decide (1 ≤ (n : Int) ∧ (n : Int) ≤ 8) = false from decide_eq_false h]; exact ⟨(0, []), a, m, rfl, by simp⟩
  rw [show decide (1 ≤ (n : Int) ∧ (n : Int) ≤ 8) = true from decide_eq_true h, Bool.not_true, cond_false]
  obtain ⟨N, hN, hN8, hn, hw, h512⟩ := n3 h
  obtain rfl : n = N := by omega
  obtain ⟨v, b, m1, e, e1, e2⟩ := one_ok hc (a := a) (by omega) m 2 (k := 2) rfl (by omega) (by omega)
  simp only []
  rw [e, Option.bind_some]
  simp only []
  rw [l18Op_eq v hN rfl hw h512, Option.bind_some]
  obtain ⟨k, b1, m2, f, f1, f2, f3⟩ := pick_lit hc (a := b) (by omega) m1 5 (k := 5) rfl (by omega) (by omega)
  rw [f, Option.bind_some]
  simp only []
  have hlen := discT_len v n
  cases hk0 : ((k : Int) == 0) with
  | true =>
    simp only [cond_true]
    obtain ⟨x, b2, m3, g, gm, g2, g3⟩ := among_ok hc (a := b1) (by omega) m2 (l := [3, 3, 2, 1]) (by simp) (by simp)
    rw [g, Option.bind_some]
    simp only [List.mem_cons, List.not_mem_nil, or_false] at gm
    obtain ⟨x, rfl⟩ : ∃ q : Nat, x = (q : Int) := ⟨x.toNat, by omega⟩
    obtain ⟨f', b', m', p1, p2⟩ := op13_ok hc (a := b2) (by omega) m3 hN hN8 (ar := x) (by omega)
    simp only []
    rw [p1, Option.bind_some]
    exact ⟨_, b', m', rfl, p2⟩
  | false =>
    simp only [cond_false]
    cases hk1 : ((k : Int) == 1) with
    | true =>
      simp only [cond_true]
      have key : ∀ (q i fu a : Nat) (m : Int) (t : List Int), i + q = n * n * n → q < fu → a + 2 * q ≤ 300000 → t.length = n * n * n →
          ∃ (z : Int) (b : Nat) (m' : Int) (t' : List Int), t'.length = n * n * n ∧ iter (S := Int × Int × Int × (List Int)) (R := (Int × (List Int)) × Int × Int) (fun s171 =>
  (bif (decide (s171.1 < (s171.2.2.2.length : Int))) then (s_spec_l2Args (n : Int) 3 s171.1).bind fun r181 =>
  ((idx r181 0).bind fun x187 =>
  (idx r181 1).bind fun x189 =>
  (bif (x187 != x189) then (idx r181 1).bind fun x192 =>
  (idx r181 2).bind fun x194 =>
  (bif (x192 != x194) then (idx r181 0).bind fun x197 =>
  (idx r181 2).bind fun x199 =>
  some (x197 != x199) else some false) else some false)).bind fun s183 =>
  (bif s183 then (s_spec_l1Cur__pick (n : Int) (c, s171.2.1, s171.2.2.1)).bind fun r204 =>
  (idx s171.2.2.2 s171.1).bind fun x205 =>
  some (.nx (w64 (s171.1 + 1), r204.2.1, r204.2.2, List.set s171.2.2.2 (Int.toNat s171.1) r204.1)) else some (.nx (w64 (s171.1 + 1), s171.2.1, s171.2.2.1, s171.2.2.2))) else some (.br (s171.1, s171.2.1, s171.2.2.1, s171.2.2.2)))) fu ((i : Int), (a : Int), m, t) = some (.br (z, (b : Int), m', t')) := by
        intro q
        induction q with
        | zero =>
          intro i fu a m t hi hfu _ ht
          obtain ⟨fu, rfl⟩ : ∃ q, fu = q + 1 := ⟨fu - 1, by omega⟩
          refine ⟨(i : Int), a, m, t, ht, ?_⟩
          unfold iter
          simp only []
          rw [show decide ((i : Int) < (t.length : Int)) = false from decide_eq_false (by omega), cond_false]
        | succ q ih =>
          intro i fu a m t hi hfu ha ht
          obtain ⟨fu, rfl⟩ : ∃ q, fu = q + 1 := ⟨fu - 1, by omega⟩
          unfold iter
          simp only []
          rw [show decide ((i : Int) < (t.length : Int)) = true from decide_eq_true (by omega), cond_true, l2Args3 hN (by omega), Option.bind_some]
          obtain ⟨s, hs⟩ : ∃ s : Bool, ((idx [((i / n / n % n : Nat) : Int), ((i / n % n : Nat) : Int), ((i % n : Nat) : Int)] 0).bind fun x187 =>
  (idx [((i / n / n % n : Nat) : Int), ((i / n % n : Nat) : Int), ((i % n : Nat) : Int)] 1).bind fun x189 =>
  (bif (x187 != x189) then (idx [((i / n / n % n : Nat) : Int), ((i / n % n : Nat) : Int), ((i % n : Nat) : Int)] 1).bind fun x192 =>
  (idx [((i / n / n % n : Nat) : Int), ((i / n % n : Nat) : Int), ((i % n : Nat) : Int)] 2).bind fun x194 =>
  (bif (x192 != x194) then (idx [((i / n / n % n : Nat) : Int), ((i / n % n : Nat) : Int), ((i % n : Nat) : Int)] 0).bind fun x197 =>
  (idx [((i / n / n % n : Nat) : Int), ((i / n % n : Nat) : Int), ((i % n : Nat) : Int)] 2).bind fun x199 =>
  some (x197 != x199) else some false) else some false)) = some s := by
            have j0 : ∀ x y z : Int, idx [x, y, z] 0 = some x := fun _ _ _ => rfl
            have j1 : ∀ x y z : Int, idx [x, y, z] 1 = some y := fun _ _ _ => rfl
            have j2 : ∀ x y z : Int, idx [x, y, z] 2 = some z := fun _ _ _ => rfl
            simp only [j0, j1, j2, Option.bind_some]
            cases (((i / n / n % n : Nat) : Int) != ((i / n % n : Nat) : Int)) <;> cases (((i / n % n : Nat) : Int) != ((i % n : Nat) : Int)) <;> exact ⟨_, rfl⟩
          rw [hs, Option.bind_some]
          cases s with
          | false =>
            simp only [cond_false]
            rw [w64_add1 (by omega)]
            exact ih (i + 1) fu a m t (by omega) (by omega) (by omega) ht
          | true =>
            simp only [cond_true]
            obtain ⟨x, b2, m2, f, _, f2, f3⟩ := pick_ok hc (a := a) (by omega) m (n := n) hN (by omega)
            rw [f, Option.bind_some, idx_nat, List.getElem?_eq_getElem (by omega), Option.bind_some]
            simp only []
            rw [w64_add1 (by omega)]
            exact ih (i + 1) fu b2 m2 _ (by omega) (by omega) (by omega) (by simp; exact ht)
      obtain ⟨z, b', m', t', g1, g2⟩ := key (n * n * n) 0 FU b1 m2 (discT v n) (by omega) (by unfold FU; omega) (by omega) hlen
      rw [show ((0 : Nat) : Int) = 0 from rfl] at g2
      rw [g2, Option.bind_some, after_br']
      exact ⟨_, b', m', rfl, by simp only []; omega⟩
    | false =>
      simp only [cond_false]
      cases hk2 : ((k : Int) == 2) with
      | true =>
        simp only [cond_true]
        have hpos : 1 ≤ n * n * n := Nat.mul_pos (Nat.mul_pos hN hN) hN
        obtain ⟨x, b2, m3, g, g1, g2, g3⟩ := pick_ok hc (a := b1) (by omega) m2 (n := (discT v n).length) (by omega) (by omega)
        rw [g, Option.bind_some]
        simp only []
        obtain ⟨y, b3, m4, p, p1, p2, p3⟩ := pick_ok hc (a := b2) (by omega) m3 (n := n) hN (by omega)
        rw [p, Option.bind_some, idx_nat, List.getElem?_eq_getElem g1, Option.bind_some]
        exact ⟨_, b3, m4, rfl, by simp; omega⟩
      | false => exact ⟨_, b1, m2, rfl, by simp only []; omega⟩

theorem size13_ok {c : List Int} (hc : Byt c) {a : Nat} (ha : a ≤ 800) (m : Int) : ∃ (n b : Nat) (m' : Int), s_spec_l1Cur__size13 (c, (a : Int), m) = some ((n : Int), (b : Int), m') ∧ a ≤ b ∧ b ≤ a + 4 := by
  unfold s_spec_l1Cur__size13
  obtain ⟨v, b, m', e, e1, e2, e3⟩ := pick_lit hc (a := a) (by omega) m 24 (k := 24) rfl (by omega) (by omega)
  have e : s_spec_l1Cur__pick 24 ((c, (a : Int), m).1, (c, (a : Int), m).2.1, (c, (a : Int), m).2.2) = _ := e
  rw [e, Option.bind_some]
  simp only []
  have hd : Int.tdiv (v : Int) 11 = ((v / 11 : Nat) : Int) := by rw [show (11 : Int) = ((11 : Nat) : Int) from rfl, Int.tdiv_eq_ediv_of_nonneg (by omega)]; rfl
  have hv : v / 11 ≤ 2 := by omega
  rw [hd, w64_nat (by omega), show (8 : Int) + ((v / 11 : Nat) : Int) = ((8 + v / 11 : Nat) : Int) by omega, w64_nat (by omega), slc_take (by simp; omega), Option.bind_some]
  obtain ⟨x, b2, m2, f, f1, f2, f3⟩ := among_ok hc (a := b) (by omega) m' (l := List.take (8 + v / 11) [2, 3, 3, 4, 2, 1, 5, 8, 0, 9]) (by simp; omega) (by simp; omega)
  rw [f, Option.bind_some]
  have hx := List.mem_of_mem_take f1
  have hx : 0 ≤ x ∧ x ≤ 9 := by
    simp only [List.mem_cons, List.not_mem_nil, or_false] at hx
    omega
  obtain ⟨x, rfl⟩ : ∃ q : Nat, x = (q : Int) := ⟨x.toNat, by omega⟩
  exact ⟨x, b2, m2, rfl, by omega, by omega⟩

theorem drawPixley_ok {c : List Int} (hc : Byt c) : ∃ (n : Nat) (f : Int × List Int), s_spec_DrawIsPixleyOp c = some ((n : Int), f) ∧ f.2.length ≤ 512 ∧ s_spec_DrawDiscriminatorOp c = some (n : Int) := by
  unfold s_spec_DrawIsPixleyOp s_spec_DrawIsDiscriminatorOp s_spec_DrawDiscriminatorOp
  obtain ⟨n, b, m, e, e1, e2⟩ := size13_ok hc (a := 0) (by omega) 0
  have e : s_spec_l1Cur__size13 (c, 0, 0) = _ := e
  rw [e, Option.bind_some]
  simp only []
  obtain ⟨f, b', m', g1, g2⟩ := op18_ok hc (a := b) (by omega) m (n := n)
  rw [g1, Option.bind_some]
  exact ⟨n, f, rfl, g2, rfl⟩

set_option linter.unusedVariables false

def discN (d : Bool) (N : Nat) : List Nat := (List.range (N * N * N)).map fun k => if ((k / N / N % N == k / N % N) == d) then k / N / N % N else k % N

theorem discT_NL (d : Bool) (N : Nat) : discT d N = NL (discN d N) := by
  unfold discT discN NL
  rw [List.map_map]
  refine List.map_congr_left fun k _ => ?_
  show _ = ((if _ then _ else _ : Nat) : Int)
  split <;> rfl

theorem idx3 {N x y z : Nat} (hx : x < N) (hy : y < N) (hz : z < N) : (x * N + y) * N + z < N * N * N := lin2 (lin2 hx hy) hz

theorem ga_tab {N x y z : Nat} (g : Nat → Nat) (hx : x < N) (hy : y < N) (hz : z < N) : t3 ((List.range (N * N * N)).map g) N x y z = g ((x * N + y) * N + z) := by
  unfold t3
  exact ga_map g (idx3 hx hy hz)

theorem discN_at {d : Bool} {N x y z : Nat} (hx : x < N) (hy : y < N) (hz : z < N) : t3 (discN d N) N x y z = if ((x == y) == d) then x else z := by
  unfold discN
  rw [ga_tab _ hx hy hz, lin2_div hz, lin2_mod hz, lin2_div hy, lin2_mod hy, Nat.mod_eq_of_lt hx]

theorem cube (N : Nat) : N * N * N = N ^ 3 := by rw [Nat.pow_succ, Nat.pow_succ, Nat.pow_succ, Nat.pow_zero, Nat.one_mul]

theorem disc_op {N : Nat} (d : Bool) (h1 : 1 ≤ N) : OpN N (3, discT d N) 3 (discN d N) := by
  refine ⟨by rw [discT_NL]; rfl, by omega, by unfold discN; simp [cube], fun x hx => ?_⟩
  unfold discN at hx
  obtain ⟨k, hk, rfl⟩ := List.mem_map.1 hx
  split <;> exact Nat.mod_lt _ h1

theorem tern_eq {pat : Nat → List Nat → Nat → Nat → Bool} {N : Nat} (h1 : 1 ≤ N) (h8 : N ≤ 8) {f : Int × List Int} {T : List Nat} (ho : OpN N f 3 T) : isTern pat (N : Int) f = ((List.range N).all fun x => (List.range N).all fun y => pat N T x y, true) := by
  unfold isTern
  rw [Int.toNat_natCast, ho.ok, show decide (1 ≤ (N : Int) ∧ (N : Int) ≤ 8) = true from decide_eq_true (by omega), ho.eq]
  simp only [Bool.and_self, cond_true, NL_toNat]
  rfl

theorem all2_true {N : Nat} {p : Nat → Nat → Bool} (h : ∀ x y, x < N → y < N → p x y = true) : ((List.range N).all fun x => (List.range N).all fun y => p x y) = true := by
  rw [List.all_eq_true]
  intro x hx
  rw [List.all_eq_true]
  intro y hy
  exact h x y (by simpa using hx) (by simpa using hy)

theorem all2_elim {N : Nat} {p : Nat → Nat → Bool} (h : ((List.range N).all fun x => (List.range N).all fun y => p x y) = true) : ∀ x y, x < N → y < N → p x y = true := by
  intro x y hx hy
  rw [List.all_eq_true] at h
  have := h x (by simpa using hx)
  rw [List.all_eq_true] at this
  exact this y (by simpa using hy)

theorem disc_pix {N : Nat} (h1 : 1 ≤ N) (h8 : N ≤ 8) : isTern pix (N : Int) (3, discT false N) = (true, true) := by
  rw [tern_eq h1 h8 (disc_op false h1), all2_true]
  intro x y hx hy
  unfold pix
  rw [discN_at hx hy hy, discN_at hx hy hx, discN_at hx hx hy]
  by_cases h : x = y
  · subst h; simp
  · have : (x == y) = false := by simpa using h
    rw [this]; simp

theorem dual_uni {N : Nat} (h1 : 1 ≤ N) (h8 : N ≤ 8) : isTern uni (N : Int) (3, discT true N) = (true, true) := by
  rw [tern_eq h1 h8 (disc_op true h1), all2_true]
  intro x y hx hy
  unfold uni
  rw [discN_at hx hx hy, discN_at hx hy hx, discN_at hy hx hx]
  by_cases h : x = y
  · subst h; simp
  · have e1 : (x == y) = false := by simpa using h
    have e2 : (y == x) = false := by simpa using fun e => h (Eq.symm e)
    rw [e1, e2]; simp

theorem disc_is {N : Nat} (h1 : 1 ≤ N) (h8 : N ≤ 8) : isDiscR (N : Int) (3, discT false N) = (true, true) := by
  unfold isDiscR
  rw [Int.toNat_natCast, (disc_op false h1).ok, show decide (1 ≤ (N : Int) ∧ (N : Int) ≤ 8) = true from decide_eq_true (by omega)]
  simp only [Bool.and_self, cond_true, beq_self_eq_true]

theorem is_pix {n : Int} {f : Int × List Int} (h : (isDiscR n f).1 = true) : (isTern pix n f).1 = true := by
  unfold isDiscR at h
  cases hg : (decide (1 ≤ n ∧ n ≤ 8) && opOk n.toNat f) with
  | false => rw [hg] at h; cases h
  | true =>
    rw [hg, cond_true] at h
    cases h3 : (f.1 == 3) with
    | false => rw [h3] at h; cases h
    | true =>
      rw [h3, cond_true] at h
      rw [Bool.and_eq_true, decide_eq_true_eq] at hg
      have e : f = (3, discT false n.toNat) := Prod.ext (by simpa using h3) (by simpa using h)
      have hn : n = ((n.toNat : Nat) : Int) := by omega
      rw [e, hn, Int.toNat_natCast, disc_pix (by omega) (by omega)]

def pixM (N : Nat) (T : List Nat) : List Nat := (List.range (N * N * N)).map fun k => t3 T N (k / N / N) (t3 T N (k / N / N) (k / N % N) (k % N)) (k % N)

theorem pixM_at {N x y z : Nat} {T : List Nat} (hx : x < N) (hy : y < N) (hz : z < N) : t3 (pixM N T) N x y z = t3 T N x (t3 T N x y z) z := by
  unfold pixM
  rw [ga_tab _ hx hy hz, lin2_div hz, lin2_mod hz, lin2_div hy, lin2_mod hy]

theorem t3_lt {N x y z : Nat} {f : Int × List Int} {T : List Nat} (ho : OpN N f 3 T) (hx : x < N) (hy : y < N) (hz : z < N) : t3 T N x y z < N := by
  unfold t3
  exact ho.lt _ (ga_mem (by rw [ho.len, ← cube]; exact idx3 hx hy hz))

theorem pixM_op {N : Nat} {f : Int × List Int} {T : List Nat} (ho : OpN N f 3 T) : OpN N (3, NL (pixM N T)) 3 (pixM N T) := by
  refine ⟨rfl, by omega, by unfold pixM; simp [cube], fun v hv => ?_⟩
  unfold pixM at hv
  obtain ⟨k, hk, rfl⟩ := List.mem_map.1 hv
  rw [List.mem_range] at hk
  have hN : 0 < N := by
    rcases Nat.eq_zero_or_pos N with e | e
    · subst e; simp at hk
    · exact e
  have hx := div2_lt hk
  exact t3_lt ho hx (t3_lt ho hx (Nat.mod_lt _ hN) (Nat.mod_lt _ hN)) (Nat.mod_lt _ hN)

theorem tri_eq {N : Nat} {f : Int × List Int} {T : List Nat} (h8 : N ≤ 8) (ho : OpN N f 3 T) : (forC (S := (List Int)) (R := Bool) (fun k401 s399 =>
  (forC (S := (List Int)) (R := Bool) (fun k503 s501 =>
  (forC (S := (List Int)) (R := Bool) (fun k537 s535 =>
  (idx (NL T) (w64 ((w64 ((w64 ((w64 (k401 * (N : Int))) + k503)) * (N : Int))) + k537))).bind fun x545 =>
  (idx (NL T) (w64 ((w64 ((w64 ((w64 (k401 * (N : Int))) + x545)) * (N : Int))) + k537))).bind fun x548 =>
  (app s535 ([x548])).bind fun y553 =>
  some (.nx y553)) 0 (N : Int) s501).bind fun o539 => after o539 (fun r_ => some (.rt r_)) (fun s535 =>
  some (.nx s535))) 0 (N : Int) s399).bind fun o505 => after o505 (fun r_ => some (.rt r_)) (fun s501 =>
  some (.nx s501))) 0 (N : Int) ([])) = some (.br (NL (pixM N T))) := by
  have hc : ∀ x y z : Nat, x < N → y < N → z < N → w64 ((w64 ((w64 ((w64 ((x : Int) * (N : Int))) + (y : Int))) * (N : Int))) + (z : Int)) = (((x * N + y) * N + z : Nat) : Int) := fun x y z hx hy hz => by
    have a1 : x * N ≤ 8 * 8 := Nat.mul_le_mul (by omega) h8
    have a2 : (x * N + y) * N ≤ 72 * 8 := Nat.mul_le_mul (by omega) h8
    rw [w64_mul (by omega), ← Int.natCast_add, w64_nat (by omega), w64_mul (by omega), ← Int.natCast_add, w64_nat (by omega)]
  have hlen := ho.len
  rw [← cube] at hlen
  have h512 : N * N * N ≤ 512 := by
    have a1 : N * N ≤ 8 * 8 := Nat.mul_le_mul h8 h8
    have a2 : N * N * N ≤ 64 * 8 := Nat.mul_le_mul a1 h8
    omega
  rw [forC0_fn (R := Bool) (F := fun x => NL ((List.range (x * N * N)).map fun k => t3 T N (k / N / N) (t3 T N (k / N / N) (k / N % N) (k % N)) (k % N))) (s := []) (n := N) rfl (by omega) (by simp) (fun x hx => by
    rw [forC0_fn (R := Bool) (F := fun y => NL ((List.range ((x * N + y) * N)).map fun k => t3 T N (k / N / N) (t3 T N (k / N / N) (k / N % N) (k % N)) (k % N))) (n := N) rfl (by omega) (by simp) (fun y hy => by
      rw [forC0_fn (R := Bool) (F := fun z => NL ((List.range ((x * N + y) * N + z)).map fun k => t3 T N (k / N / N) (t3 T N (k / N / N) (k / N % N) (k % N)) (k % N))) (n := N) rfl (by omega) (by simp) (fun z hz => by
        have hv : t3 T N x y z < N := t3_lt ho hx hy hz
        have hi := idx3 hx hy hz
        have hi2 := idx3 hx hv hz
        rw [hc x y z hx hy hz, idx_NL (by omega), Option.bind_some]
        show (idx (NL T) (w64 ((w64 ((w64 ((w64 ((x : Int) * (N : Int))) + ((t3 T N x y z : Nat) : Int))) * (N : Int))) + (z : Int)))).bind _ = _
        rw [hc x _ z hx hv hz, idx_NL (by omega), Option.bind_some, app_ok (by simp; omega), Option.bind_some]
        show some (Ctl.nx (_ ++ [((t3 T N x (t3 T N x y z) z : Nat) : Int)])) = some (Ctl.nx (NL ((List.range ((x * N + y) * N + z + 1)).map _)))
        rw [List.range_succ, List.map_append, NL_app, List.map_singleton, lin2_div hz, lin2_mod hz, lin2_div hy, lin2_mod hy]
        rfl)]
      rw [Option.bind_some, after_br', show (x * N + (y + 1)) * N = (x * N + y) * N + N by rw [← Nat.add_assoc, Nat.succ_mul]])]
    rw [Option.bind_some, after_br', show (x + 1) * N * N = (x * N + N) * N by rw [Nat.succ_mul]])]
  rfl

theorem pix_uni {N : Nat} {T : List Nat} {f : Int × List Int} (ho : OpN N f 3 T) (h : ∀ x y, x < N → y < N → pix N T x y = true) (h1 : 1 ≤ N) (h8 : N ≤ 8) : isTern uni (N : Int) (3, NL (pixM N T)) = (true, true) := by
  rw [tern_eq h1 h8 (pixM_op ho), all2_true]
  have hp : ∀ x y, x < N → y < N → t3 T N x y y = x ∧ t3 T N x y x = x ∧ t3 T N x x y = y := fun x y hx hy => by
    have := h x y hx hy
    unfold pix at this
    simp only [Bool.and_eq_true, beq_iff_eq] at this
    exact ⟨this.1.1, this.1.2, this.2⟩
  intro x y hx hy
  unfold uni
  rw [pixM_at hx hx hy, pixM_at hx hy hx, pixM_at hy hx hx]
  rw [(hp x y hx hy).2.2, (hp x y hx hy).1, (hp x y hx hy).2.1, (hp x x hx hx).1, (hp y x hy hx).1, (hp y x hy hx).2.2]
  simp

def tailD (r85 : Int × (Int × (List Int))) : Option Bool :=
  (s_impl_IsPixleyOp r85.1 (r85.2.1, r85.2.2)).bind fun r90 =>
  (s_spec_IsPixleyOp r85.1 (r85.2.1, r85.2.2)).bind fun r92 =>
  (bif ((!(r90.1 == r92.1)) || (!(r90.2 == r92.2))) then some false else (bif r90.1 then (forC (S := (List Int)) (R := Bool) (fun k401 s399 =>
  (forC (S := (List Int)) (R := Bool) (fun k503 s501 =>
  (forC (S := (List Int)) (R := Bool) (fun k537 s535 =>
  (idx r85.2.2 (w64 ((w64 ((w64 ((w64 (k401 * r85.1)) + k503)) * r85.1)) + k537))).bind fun x545 =>
  (idx r85.2.2 (w64 ((w64 ((w64 ((w64 (k401 * r85.1)) + x545)) * r85.1)) + k537))).bind fun x548 =>
  (app s535 ([x548])).bind fun y553 =>
  some (.nx y553)) 0 r85.1 s501).bind fun o539 => after o539 (fun r_ => some (.rt r_)) (fun s535 =>
  some (.nx s535))) 0 r85.1 s399).bind fun o505 => after o505 (fun r_ => some (.rt r_)) (fun s501 =>
  some (.nx s501))) 0 r85.1 ([])).bind fun o403 => after o403 (fun r_ => some r_) (fun s399 =>
  (s_impl_IsUnanimityOp r85.1 (3, s399)).bind fun r557 =>
  (bif ((!r557.2) || (!r557.1)) then some false else (s_impl_IsUnanimityOp r85.1 (r85.2.1, r85.2.2)).bind fun r564 =>
  (s_spec_IsUnanimityOp r85.1 (r85.2.1, r85.2.2)).bind fun r566 =>
  (bif ((!(r564.1 == r566.1)) || (!(r564.2 == r566.2))) then some false else (s_impl_IsDiscriminatorOp r85.1 (r85.2.1, r85.2.2)).bind fun r573 =>
  (s_spec_IsDiscriminatorOp r85.1 (r85.2.1, r85.2.2)).bind fun r575 =>
  (bif (r573.1 == r575.1) then (bif (r573.2 == r575.2) then (bif (!r573.1) then some true else some r90.1) else some false) else some false)))) else (s_impl_IsUnanimityOp r85.1 (r85.2.1, r85.2.2)).bind fun r580 =>
  (s_spec_IsUnanimityOp r85.1 (r85.2.1, r85.2.2)).bind fun r582 =>
  (bif ((!(r580.1 == r582.1)) || (!(r580.2 == r582.2))) then some false else (s_impl_IsDiscriminatorOp r85.1 (r85.2.1, r85.2.2)).bind fun r589 =>
  (s_spec_IsDiscriminatorOp r85.1 (r85.2.1, r85.2.2)).bind fun r591 =>
  (bif (r589.1 == r591.1) then (bif (r589.2 == r591.2) then (bif (!r589.1) then some true else some r90.1) else some false) else some false))))

theorem tail_ok (n : Int) (f : Int × List Int) (hl : f.2.length ≤ 512) : tailD (n, f) = some true := by
  unfold tailD
  obtain ⟨a, t⟩ := f
  have hl' : (a, t).2.length ≤ 4294967296 := by omega
  simp only [impl_IsPixley (n := n) (a, t), spec_IsPixley (n := n) (a, t) hl', impl_IsUnanimity (n := n) (a, t), spec_IsUnanimity (n := n) (a, t) hl', impl_IsDisc (n := n) (a, t) hl', spec_IsDisc (n := n) (a, t) hl', Option.bind_some, beq_self_eq_true, Bool.not_true, Bool.or_self, cond_false, cond_true]
  have hI := is_pix (n := n) (f := (a, t))
  cases hp : (isTern pix n (a, t)).1 with
  | false =>
    cases hd : (isDiscR n (a, t)).1 with
    | false => rfl
    | true => rw [hI hd] at hp; cases hp
  | true =>
    simp only [cond_true]
    have hp' := hp
    unfold isTern at hp'
    cases hg : (decide (1 ≤ n ∧ n ≤ 8) && opOk n.toNat (a, t)) with
    | false => rw [hg] at hp'; cases hp'
    | true =>
      obtain ⟨N, K, T, rfl, h1, h8, ho⟩ := l18Takes_op hg
      rw [hg, cond_true] at hp'
      cases h3 : (((a, t) : Int × List Int).1 == 3) with
      | false => rw [h3] at hp'; cases hp'
      | true =>
        have hK : K = 3 := by
          have := ho.eq
          rw [this] at h3
          have : (K : Int) = 3 := by simpa using h3
          omega
        subst hK
        obtain ⟨rfl, rfl⟩ : a = 3 ∧ t = NL T := by have := ho.eq; simpa using this
        rw [tern_eq h1 h8 ho] at hp
        have hall := all2_elim hp
        rw [tri_eq h8 ho, Option.bind_some, after_br']
        rw [impl_IsUnanimity, pix_uni ho hall h1 h8]
        cases (isDiscR (N : Int) (3, NL T)).1 <;> rfl

theorem discs_eq (n : Int) : ∃ N : Nat, (1 ≤ n ∧ n ≤ 8 → n = (N : Int) ∧ 1 ≤ N ∧ N ≤ 8) ∧
    s_impl_DiscriminatorOp n = some (bif decide (1 ≤ n ∧ n ≤ 8) then ((3, discT false N), true) else ((0, []), false)) ∧ s_spec_DiscriminatorOp n = some (bif decide (1 ≤ n ∧ n ≤ 8) then ((3, discT false N), true) else ((0, []), false)) ∧
    s_impl_DualDiscriminatorOp n = some (bif decide (1 ≤ n ∧ n ≤ 8) then ((3, discT true N), true) else ((0, []), false)) ∧ s_spec_DualDiscriminatorOp n = some (bif decide (1 ≤ n ∧ n ≤ 8) then ((3, discT true N), true) else ((0, []), false)) := by
  unfold s_impl_DiscriminatorOp s_spec_DiscriminatorOp s_impl_DualDiscriminatorOp s_spec_DualDiscriminatorOp
  rw [isSize_eq, l6Size_eq]
  by_cases h : 1 ≤ n ∧ n ≤ 8
  · obtain ⟨N, hN, hN8, hn, hw, h512⟩ := n3 h
    refine ⟨N, fun _ => ⟨hn, hN, hN8⟩, ?_⟩
    rw [show decide (1 ≤ n ∧ n ≤ 8) = true from decide_eq_true h]
    simp only [Option.bind_some, Bool.not_true, cond_false, cond_true]
    rw [impl_discriminator_eq hN hn hw h512, l18Op_eq false hN hn hw h512, ternary_dual hN hn hw h512, l18Op_eq true hN hn hw h512]
    exact ⟨rfl, rfl, rfl, rfl⟩
  · refine ⟨0, fun h' => absurd h' h, ?_⟩
    rw [show decide (1 ≤ n ∧ n ≤ 8) = false from decide_eq_false h]
    exact ⟨rfl, rfl, rfl, rfl⟩

theorem vOp_eq (f g : Int × List Int) (h : f.2.length ≤ 4294967296) : s_laws_vOp f g = some (f == g) := by
  unfold s_laws_vOp
  rw [vInts_eq _ _ h, show (f == g) = (f.1 == g.1 && f.2 == g.2) from rfl]
  cases (f.1 == g.1) <;> rfl

theorem s_laws_FnDiscriminators_ok (c : List Int) (h : OkL OkY c) : s_laws_FnDiscriminators c = some true := by
  unfold s_laws_FnDiscriminators s_laws_vBig
  rw [Option.bind_some]
  by_cases hl : (65536 : Int) < c.length
  · rw [show decide ((65536 : Int) < c.length) = true by simpa using hl]; rfl
  rw [show decide ((65536 : Int) < c.length) = false by simpa using hl, cond_false]
  have hc : Byt c := ⟨by omega, fun x hx => by
    have := h.2 x hx
    have h' : (decide (0 ≤ x) && decide (x ≤ 255)) = true := this
    simpa using h'⟩
  obtain ⟨n, f, e1, hf, e2⟩ := drawPixley_ok hc
  have ht := tail_ok (n : Int) f hf
  obtain ⟨N, hN, d1, d2, d3, d4⟩ := discs_eq (n : Int)
  rw [e2, Option.bind_some, d1, d2, d3, d4]
  by_cases hn : 1 ≤ (n : Int) ∧ (n : Int) ≤ 8
  · obtain ⟨hn1, hN1, hN8⟩ := hN hn
    have h512 : N * N * N ≤ 512 := by
      have a1 : N * N ≤ 8 * 8 := Nat.mul_le_mul hN8 hN8
      have a2 : N * N * N ≤ 64 * 8 := Nat.mul_le_mul a1 hN8
      omega
    rw [show decide (1 ≤ (n : Int) ∧ (n : Int) ≤ 8) = true from decide_eq_true hn]
    have v : ∀ d, s_laws_vOp (3, discT d N) (3, discT d N) = some true := fun d => by rw [vOp_eq _ _ (by rw [discT_len]; omega)]; simp
    simp only [cond_true, Option.bind_some, beq_self_eq_true, Bool.not_true, cond_false, v]
    have hl1 : ((3, discT false N) : Int × List Int).2.length ≤ 4294967296 := by rw [discT_len]; omega
    rw [hn1] at e1 ht ⊢
    rw [impl_IsPixley, disc_pix hN1 hN8, Option.bind_some, impl_IsUnanimity, dual_uni hN1 hN8, Option.bind_some, impl_IsDisc _ hl1, disc_is hN1 hN8, Option.bind_some]
    simp only [Bool.not_true, Bool.or_self, cond_false]
    rw [e1, Option.bind_some]
    exact ht
  · rw [show decide (1 ≤ (n : Int) ∧ (n : Int) ≤ 8) = false from decide_eq_false hn]
    have v : s_laws_vOp (0, []) (0, []) = some true := rfl
    simp only [cond_false, Option.bind_some, beq_self_eq_true, Bool.not_true, v]
    rw [e1, Option.bind_some]
    exact ht

end Go.Proofs
