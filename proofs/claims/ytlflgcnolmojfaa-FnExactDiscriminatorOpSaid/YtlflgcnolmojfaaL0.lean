/- Plain lemmas on what the functions compute, up to: the law gives true. No conditions. -/
import Derived.Test.YtlflgcnolmojfaaF0
import Derived.Test.YtlflgcnolmojfaaGPure
import Derived.Test.YtlflgcnolmojfaaGOpen
set_option linter.unusedVariables false
namespace Go.Proofs
open Go.G
set_option maxRecDepth 100000


/-- The last t digits of i, base n. -/
def digs (n : Int) : Nat → Int → List Int
  | 0, _ => []
  | t + 1, i => (i / n ^ t % n) :: digs n t i

theorem digs_loop {i k n : Int} {K : Nat} (hk : k = (K : Int)) (hK : K ≤ 4294967296) (hn : 1 ≤ n) (hi : 0 ≤ i) (hi' : i ≤ 9223372036854775807) : (
  (mks k (0 : Int)).bind fun y2 =>
  (iter (S := Int × Int × (List Int)) (R := (List Int)) (fun s17 =>
  (bif (decide (0 ≤ s17.2.1)) then (nz n).bind fun u26 =>
  (idx s17.2.2 s17.2.1).bind fun x27 =>
  (nz n).bind fun u30 =>
  some (.nx (w64 (Int.tdiv s17.1 n), w64 (s17.2.1 - 1), List.set s17.2.2 (Int.toNat s17.2.1) (Int.tmod s17.1 n))) else some (.br (s17.1, s17.2.1, s17.2.2)))) FU (i, w64 (k - 1), y2)).bind fun o21 => after o21 (fun r_ => some r_) (fun s17 =>
  some s17.2.2)) = some (digs n K i) := by
  subst hk
  rw [mks_ok rfl hK, Option.bind_some]
  have hp : ∀ t : Nat, 0 ≤ i / n ^ t ∧ i / n ^ t ≤ i := fun t => ⟨Int.ediv_nonneg hi (by exact Int.pow_nonneg (by omega)), ediv_le hi (by exact Int.pow_nonneg (by omega))⟩
  rw [iter_br (fun t => (i / n ^ t, (K : Int) - 1 - t, List.replicate (K - t) 0 ++ digs n t i)) (t := (i / n ^ K, -1, digs n K i)) K (by omega)]
  · rfl
  · rw [w64_id (by omega) (by omega)]; simp [digs]
  · intro j hj
    have e2 : List.replicate (K - j) (0 : Int) ++ digs n j i = List.replicate (K - (j + 1)) 0 ++ (0 :: digs n j i) := by
      rw [show K - j = (K - (j + 1)) + 1 by omega, List.replicate_succ', List.append_assoc]; rfl
    have hp1 := hp j
    have e3 : (K : Int) - 1 - j = ((K - (j + 1) : Nat) : Int) := by omega
    simp only [decide_true, show (0 : Int) ≤ (K : Int) - 1 - j by omega, cond_true, nz_ok (show n ≠ 0 by omega), Option.bind_some, tdiv_nn hp1.1, tmod_nn hp1.1]
    rw [w64_id (x := i / n ^ j / n) (by have := Int.ediv_nonneg hp1.1 (show 0 ≤ n by omega); omega) (by have := ediv_le hp1.1 (show 0 ≤ n by omega); omega), w64_id (by omega) (by omega), e2, e3, idx_nat, Int.toNat_natCast]
    simp only [List.getElem?_append, List.length_replicate, Nat.lt_irrefl, if_false, Nat.sub_self, List.getElem?_cons_zero, Option.bind_some, List.set_append, List.set_cons_zero, Option.some.injEq, Ctl.nx.injEq, Prod.mk.injEq]
    refine ⟨?_, by omega, by rw [digs]⟩
    rw [Int.pow_succ, Int.ediv_ediv_of_nonneg (Int.pow_nonneg (by omega))]
  · have : decide ((0 : Int) ≤ (K : Int) - 1 - K) = false := by simp; omega
    simp only [this, cond_false, Nat.sub_self, List.replicate_zero, List.nil_append]
    rw [show (K : Int) - 1 - K = -1 by omega]

theorem l2Args_eq {i k n : Int} {K : Nat} (hk : k = (K : Int)) (hK : K ≤ 4294967296) (hn : 1 ≤ n) (hi : 0 ≤ i) (hi' : i ≤ 9223372036854775807) : s_spec_l2Args n k i = some (digs n K i) :=
  digs_loop hk hK hn hi hi'

theorem l6Size_eq (n : Int) : s_spec_l6Size n = some (decide (1 ≤ n ∧ n ≤ 8)) := by
  unfold s_spec_l6Size s_spec_l1In
  by_cases h : 1 ≤ n <;> by_cases h' : n ≤ 8 <;> simp [h, h']

theorem isSize_eq (n : Int) : s_impl_isSize n = some (decide (1 ≤ n ∧ n ≤ 8)) := by
  unfold s_impl_isSize
  by_cases h : 1 ≤ n <;> by_cases h' : n ≤ 8 <;> simp [h, h']


theorem eqIntS_eq (a b : List Int) (ha : a.length ≤ 4294967296) : s_laws_eqIntS a b = some (a == b) := by
  unfold s_laws_eqIntS
  by_cases hl : a.length = b.length
  · rw [hl]
    simp only [bne_self_eq_false, cond_false]
    rw [forC0_chk (n := b.length) (fun j => a[j]? == b[j]?) false rfl (by omega)]
    · have : (a == b) = (List.range b.length).all (fun j => a[j]? == b[j]?) := by
        rw [Bool.eq_iff_iff]
        simp only [beq_iff_eq, List.all_eq_true, List.mem_range]
        constructor
        · rintro rfl j _; rfl
        · intro h; apply List.ext_getElem?; intro j
          by_cases hj : j < b.length
          · exact h j hj
          · rw [List.getElem?_eq_none (by omega), List.getElem?_eq_none (by omega)]
      rw [← this]
      cases a == b <;> rfl
    · intro j hj
      have hj' : j < a.length := by omega
      simp only [idx_nat, List.getElem?_eq_getElem hj, List.getElem?_eq_getElem hj', Option.bind_some]
      by_cases h : a[j] = b[j]
      · simp [h]
      · simp [bne, beq_eq_false_iff_ne.2 h]
  · have h1 : (a == b) = false := by
      rw [Bool.eq_false_iff]; intro h; exact hl (by rw [beq_iff_eq.1 h])
    have h2 : ((a.length : Int) != (b.length : Int)) = true := by simp; omega
    rw [h1, h2]; rfl

theorem eqOp_eq (a b : Int × List Int) (ha : a.2.length ≤ 4294967296) : s_laws_eqOp a b = some (a == b) := by
  obtain ⟨a1, a2⟩ := a
  obtain ⟨b1, b2⟩ := b
  unfold s_laws_eqOp
  simp only [eqIntS_eq a2 b2 ha, Option.bind_some]
  have : ((a1, a2) == (b1, b2)) = ((a1 == b1) && (a2 == b2)) := rfl
  rw [this]
  by_cases h : a1 = b1
  · cases h2 : a2 == b2 <;> simp [h]
  · simp [bne, beq_eq_false_iff_ne.2 h]


/-- The marks k, k + 1, .. -/
def marks (n : Nat) (k : Int) : List Int := (List.range n).map fun j : Nat => k + (j : Int)

theorem markIntS_eq (a : List Int) (k : Int) (ha : a.length ≤ 4294967296) (h0 : 0 ≤ k) (h1 : k ≤ 4611686018427387904) : s_laws_markIntS a k = some (k + (a.length : Int), marks a.length k) := by
  unfold s_laws_markIntS
  rw [iter_br (fun t => (k + (t : Int), (t : Int), marks t k ++ a.drop t)) (t := (k + (a.length : Int), (a.length : Int), marks a.length k)) a.length (by omega)]
  · rfl
  · simp [marks]
  · intro j hj
    have hm : (marks j k).length = j := by simp [marks]
    have hl : (marks j k ++ a.drop j).length = a.length := by simp [hm]; omega
    have e2 : a.drop j = a[j] :: a.drop (j + 1) := by rw [List.drop_eq_getElem_cons hj]
    have hd : decide ((j : Int) < (a.length : Int)) = true := by simp; omega
    simp only [hl, hd, cond_true, idx_nat]
    rw [w64_id (by omega) (by omega), w64_id (by omega) (by omega), e2, List.getElem?_append_right (by omega), hm, Nat.sub_self, List.getElem?_cons_zero, Option.bind_some, Int.toNat_natCast, List.set_append_right _ _ (by omega), hm, Nat.sub_self, List.set_cons_zero]
    have e3 : marks (j + 1) k = marks j k ++ [k + (j : Int)] := by simp [marks, List.range_succ]
    rw [e3]; simp [Int.add_assoc]
  · have hl : (marks a.length k ++ a.drop a.length).length = a.length := by simp [marks]
    simp only [hl]
    simp

theorem heldIntS_eq (n : Nat) (k : Int) (ha : n ≤ 4294967296) (h0 : 0 ≤ k) (h1 : k ≤ 4611686018427387904) : s_laws_heldIntS (marks n k) k = some (k + (n : Int)) := by
  unfold s_laws_heldIntS
  rw [forC0_fn (fun j => k + (j : Int)) (n := n) (by simp [marks]) (by omega) (by simp)]
  · rfl
  · intro j hj
    have : (marks n k)[j]? = some (k + (j : Int)) := by simp [marks, hj]
    simp only [idx_nat, this, Option.bind_some, bne_self_eq_false, cond_false]
    rw [w64_id (by omega) (by omega)]; simp [Int.add_assoc]

theorem markOp_eq (a : Int × List Int) (k : Int) (ha : a.2.length ≤ 4294967296) (h0 : 0 ≤ k) (h1 : k ≤ 4611686018427387904) : s_laws_markOp a k = some (k + (a.2.length : Int), marks a.2.length k) := by
  unfold s_laws_markOp; rw [markIntS_eq _ _ ha h0 h1]; rfl

theorem heldOp_eq (x : Int) (n : Nat) (k : Int) (ha : n ≤ 4294967296) (h0 : 0 ≤ k) (h1 : k ≤ 4611686018427387904) : s_laws_heldOp (x, marks n k) k = some (k + (n : Int)) := by
  unfold s_laws_heldOp; simp only [heldIntS_eq n k ha h0 h1, Option.bind_some]
  have : decide (k + (n : Int) < 0) = false := by simp; omega
  rw [this]; rfl


theorem s_laws_FnExactDiscriminatorOp_of {n : Int} {op : Int × List Int} {b : Bool} (ho : op.2.length ≤ 4294967296) (h1 : s_spec_DiscriminatorOp n = some (op, b)) (h2 : s_impl_DiscriminatorOp n = some (op, b)) : s_laws_FnExactDiscriminatorOp n = some true := by
  unfold s_laws_FnExactDiscriminatorOp
  rw [h1, h2]
  have hc : ∀ n : Nat, decide ((1 : Int) + (n : Int) < 0) = false := by intro n; simp; omega
  simp [eqOp_eq _ _ ho, markOp_eq _ _ ho, heldOp_eq _ _ _ ho, hc]


theorem n3 {n : Int} (h : 1 ≤ n ∧ n ≤ 8) : ∃ N : Nat, 1 ≤ N ∧ N ≤ 8 ∧ n = (N : Int) ∧ w64 (w64 (n * n) * n) = ((N * N * N : Nat) : Int) ∧ N * N * N ≤ 512 := by
  obtain ⟨h1, h2⟩ := h
  obtain ⟨N, rfl⟩ : ∃ N : Nat, n = (N : Int) := ⟨n.toNat, by omega⟩
  have : N = 1 ∨ N = 2 ∨ N = 3 ∨ N = 4 ∨ N = 5 ∨ N = 6 ∨ N = 7 ∨ N = 8 := by omega
  refine ⟨N, by omega, by omega, rfl, ?_⟩
  rcases this with h | h | h | h | h | h | h | h <;> subst h <;> exact ⟨by decide, by decide⟩


/-- The discriminator's table, or the dual one's. -/
def discT (dual : Bool) (N : Nat) : List Int := (List.range (N * N * N)).map fun k : Nat => if ((k / N / N % N == k / N % N) == dual) then ((k / N / N % N : Nat) : Int) else ((k % N : Nat) : Int)

theorem digs3 (N k : Nat) : digs (N : Int) 3 (k : Int) = [((k / N / N % N : Nat) : Int), ((k / N % N : Nat) : Int), ((k % N : Nat) : Int)] := by
  simp [digs, Nat.div_div_eq_div_mul]
  exact ⟨by rw [Int.pow_succ, Int.pow_succ, Int.pow_zero, Int.one_mul], by rw [Int.pow_succ, Int.pow_zero, Int.one_mul]⟩

theorem l2Args3 {N k : Nat} (h1 : 1 ≤ N) (hk : k ≤ 4611686018427387904) : s_spec_l2Args (N : Int) 3 (k : Int) = some [((k / N / N % N : Nat) : Int), ((k / N % N : Nat) : Int), ((k % N : Nat) : Int)] := by
  rw [l2Args_eq (k := 3) (K := 3) rfl (by omega) (by omega) (by omega) (by omega), digs3]

theorem l18Op_eq {n : Int} {N : Nat} (dual : Bool) (h1 : 1 ≤ N) (hn : n = (N : Int)) (hw : w64 (w64 (n * n) * n) = ((N * N * N : Nat) : Int)) (hs : N * N * N ≤ 512) : s_spec_l18Op n dual = some (3, discT dual N) := by
  unfold s_spec_l18Op
  rw [hw, forC0_app (fun k : Nat => if ((k / N / N % N == k / N % N) == dual) then ((k / N / N % N : Nat) : Int) else ((k % N : Nat) : Int)) rfl (by omega)]
  · rfl
  · intro j s hj hs
    rw [hn, l2Args3 h1 (by omega), Option.bind_some]
    have e : ∀ x y z : Int, idx [x, y, z] 0 = some x ∧ idx [x, y, z] 1 = some y ∧ idx [x, y, z] 2 = some z := fun _ _ _ => ⟨rfl, rfl, rfl⟩
    simp only [e, Option.bind_some]
    rw [beq_nat]
    cases (j / N / N % N == j / N % N) == dual <;> rfl

theorem div2_lt {k N : Nat} (h : k < N * N * N) : k / N / N < N := by
  rw [Nat.div_div_eq_div_mul]; exact Nat.div_lt_of_lt_mul (by rw [Nat.mul_comm]; rw [Nat.mul_comm] at h; exact h)

theorem ternary3 {n : Int} {N k : Nat} (hn : n = (N : Int)) (h1 : 1 ≤ N) (hs : N * N * N ≤ 512) (hk : k < N * N * N) :
    nz n = some () ∧ w64 (Int.tdiv (w64 (Int.tdiv (k : Int) n)) n) = ((k / N / N % N : Nat) : Int) ∧ Int.tmod (w64 (Int.tdiv (k : Int) n)) n = ((k / N % N : Nat) : Int) ∧ Int.tmod (k : Int) n = ((k % N : Nat) : Int) := by
  subst hn
  have h3 : k / N ≤ k := Nat.div_le_self _ _
  have h4 : k / N / N ≤ k / N := Nat.div_le_self _ _
  refine ⟨nz_ok (by omega), ?_, ?_, tmod_nat _ _⟩
  · rw [tdiv_nat, w64_nat (by omega), tdiv_nat, w64_nat (by omega), Nat.mod_eq_of_lt (div2_lt hk)]
  · rw [tdiv_nat, w64_nat (by omega), tmod_nat]

theorem ternary_disc {n : Int} {N : Nat} (h1 : 1 ≤ N) (hn : n = (N : Int)) (hw : w64 (w64 (n * n) * n) = ((N * N * N : Nat) : Int)) (hs : N * N * N ≤ 512) : s_impl_ternary__impl_discriminator_1 n = some (3, discT false N) := by
  unfold s_impl_ternary__impl_discriminator_1
  rw [hw, forC0_app (fun k : Nat => if ((k / N / N % N == k / N % N) == false) then ((k / N / N % N : Nat) : Int) else ((k % N : Nat) : Int)) rfl (by omega)]
  · rfl
  · intro j s hj _
    obtain ⟨e1, e2, e3, e4⟩ := ternary3 hn h1 hs hj
    simp only [e1, e2, e3, e4, Option.bind_some, s_impl_discriminator_1, beq_nat]
    cases (j / N / N % N == j / N % N) <;> rfl

theorem discT_len (d : Bool) (N : Nat) : (discT d N).length = N * N * N := by simp [discT]

theorem impl_discriminator_eq {n : Int} {N : Nat} (h1 : 1 ≤ N) (hn : n = (N : Int)) (hw : w64 (w64 (n * n) * n) = ((N * N * N : Nat) : Int)) (hs : N * N * N ≤ 512) : s_impl_discriminator n = some (3, discT false N) := by
  unfold s_impl_discriminator; rw [ternary_disc h1 hn hw hs]; rfl

theorem s_laws_FnExactDiscriminatorOp_ok (n : Int) (_ : OkI n) : s_laws_FnExactDiscriminatorOp n = some true := by
  by_cases h : 1 ≤ n ∧ n ≤ 8
  · obtain ⟨N, hN, hN8, hn, hw, h512⟩ := n3 h
    refine s_laws_FnExactDiscriminatorOp_of (op := (3, discT false N)) (b := true) (by simp only [discT_len]; omega) ?_ ?_
    · unfold s_spec_DiscriminatorOp
      rw [l6Size_eq, l18Op_eq false hN hn hw h512]; simp [h]
    · unfold s_impl_DiscriminatorOp
      rw [isSize_eq, impl_discriminator_eq hN hn hw h512]; simp [h]
  · refine s_laws_FnExactDiscriminatorOp_of (op := (0, [])) (b := false) (by simp) ?_ ?_
    · unfold s_spec_DiscriminatorOp
      rw [l6Size_eq]; simp [h]
    · unfold s_impl_DiscriminatorOp
      rw [isSize_eq]; simp [h]

end Go.Proofs
