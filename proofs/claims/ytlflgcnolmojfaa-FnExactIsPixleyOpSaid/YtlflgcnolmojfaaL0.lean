/- Plain lemmas on what the functions compute, up to: the law gives true. No conditions. -/
import Derived.Test.YtlflgcnolmojfaaF1
import Derived.Test.YtlflgcnolmojfaaGPure
import Derived.Test.YtlflgcnolmojfaaGOpen
import Derived.Test.YtlflgcnolmojfaaGLoop
set_option linter.unusedVariables false
namespace Go.Proofs
open Go.G
set_option maxRecDepth 100000


/-- The last t digits of i, base n. -/
def digs (n : Int) : Nat → Int → List Int
  | 0, _ => []
  | t + 1, i => (i / n ^ t % n) :: digs n t i

theorem digs_loop {i k n : Int} {K : Nat} (hk : k = (K : Int)) (hK : K ≤ 4294967296) (hn : 1 ≤ n) (hi : 0 ≤ i) (hi' : i ≤ 9223372036854775807) : (
  (mks k (0 : Int)).bind fun y2 =>
  (iter (S := Int × Int × (List Int)) (R := (List Int)) (fun s17 =>
  (bif (decide (0 ≤ s17.2.1)) then (nz n).bind fun u26 =>
  (idx s17.2.2 s17.2.1).bind fun x27 =>
  (nz n).bind fun u30 =>
  some (.nx (w64 (Int.tdiv s17.1 n), w64 (s17.2.1 - 1), List.set s17.2.2 (Int.toNat s17.2.1) (Int.tmod s17.1 n))) else some (.br (s17.1, s17.2.1, s17.2.2)))) FU (i, w64 (k - 1), y2)).bind fun o21 => after o21 (fun r_ => some r_) (fun s17 =>
  some s17.2.2)) = some (digs n K i) := by
  subst hk
  rw [mks_ok rfl hK, Option.bind_some]
  have hp : ∀ t : Nat, 0 ≤ i / n ^ t ∧ i / n ^ t ≤ i := fun t => ⟨Int.ediv_nonneg hi (by exact Int.pow_nonneg (by omega)), ediv_le hi (by exact Int.pow_nonneg (by omega))⟩
  rw [iter_br (fun t => (i / n ^ t, (K : Int) - 1 - t, List.replicate (K - t) 0 ++ digs n t i)) (t := (i / n ^ K, -1, digs n K i)) K (by omega)]
  · rfl
  · rw [w64_id (by omega) (by omega)]; simp [digs]
  · intro j hj
    have e2 : List.replicate (K - j) (0 : Int) ++ digs n j i = List.replicate (K - (j + 1)) 0 ++ (0 :: digs n j i) := by
      rw [show K - j = (K - (j + 1)) + 1 by omega, List.replicate_succ', List.append_assoc]; rfl
    have hp1 := hp j
    have e3 : (K : Int) - 1 - j = ((K - (j + 1) : Nat) : Int) := by omega
    simp only [decide_true, show (0 : Int) ≤ (K : Int) - 1 - j by omega, cond_true, nz_ok (show n ≠ 0 by omega), Option.bind_some, tdiv_nn hp1.1, tmod_nn hp1.1]
    rw [w64_id (x := i / n ^ j / n) (by have := Int.ediv_nonneg hp1.1 (show 0 ≤ n by omega); omega) (by have := ediv_le hp1.1 (show 0 ≤ n by omega); omega), w64_id (by omega) (by omega), e2, e3, idx_nat, Int.toNat_natCast]
    simp only [List.getElem?_append, List.length_replicate, Nat.lt_irrefl, if_false, Nat.sub_self, List.getElem?_cons_zero, Option.bind_some, List.set_append, List.set_cons_zero, Option.some.injEq, Ctl.nx.injEq, Prod.mk.injEq]
    refine ⟨?_, by omega, by rw [digs]⟩
    rw [Int.pow_succ, Int.ediv_ediv_of_nonneg (Int.pow_nonneg (by omega))]
  · have : decide ((0 : Int) ≤ (K : Int) - 1 - K) = false := by simp; omega
    simp only [this, cond_false, Nat.sub_self, List.replicate_zero, List.nil_append]
    rw [show (K : Int) - 1 - K = -1 by omega]

theorem argsAt_eq {i k n : Int} {K : Nat} (hk : k = (K : Int)) (hK : K ≤ 4294967296) (hn : 1 ≤ n) (hi : 0 ≤ i) (hi' : i ≤ 9223372036854775807) : s_impl_argsAt i k n = some (digs n K i) :=
  digs_loop hk hK hn hi hi'


theorem l6Size_eq (n : Int) : s_spec_l6Size n = some (decide (1 ≤ n ∧ n ≤ 8)) := by
  unfold s_spec_l6Size s_spec_l1In
  by_cases h : 1 ≤ n <;> by_cases h' : n ≤ 8 <;> simp [h, h']

theorem isSize_eq (n : Int) : s_impl_isSize n = some (decide (1 ≤ n ∧ n ≤ 8)) := by
  unfold s_impl_isSize
  by_cases h : 1 ≤ n <;> by_cases h' : n ≤ 8 <;> simp [h, h']


theorem eqIntS_eq (a b : List Int) (ha : a.length ≤ 4294967296) : s_laws_eqIntS a b = some (a == b) := by
  unfold s_laws_eqIntS
  by_cases hl : a.length = b.length
  · rw [hl]
    simp only [bne_self_eq_false, cond_false]
    rw [forC0_chk (n := b.length) (fun j => a[j]? == b[j]?) false rfl (by omega)]
    · have : (a == b) = (List.range b.length).all (fun j => a[j]? == b[j]?) := by
        rw [Bool.eq_iff_iff]
        simp only [beq_iff_eq, List.all_eq_true, List.mem_range]
        constructor
        · rintro rfl j _; rfl
        · intro h; apply List.ext_getElem?; intro j
          by_cases hj : j < b.length
          · exact h j hj
          · rw [List.getElem?_eq_none (by omega), List.getElem?_eq_none (by omega)]
      rw [← this]
      cases a == b <;> rfl
    · intro j hj
      have hj' : j < a.length := by omega
      simp only [idx_nat, List.getElem?_eq_getElem hj, List.getElem?_eq_getElem hj', Option.bind_some]
      by_cases h : a[j] = b[j]
      · simp [h]
      · simp [bne, beq_eq_false_iff_ne.2 h]
  · have h1 : (a == b) = false := by
      rw [Bool.eq_false_iff]; intro h; exact hl (by rw [beq_iff_eq.1 h])
    have h2 : ((a.length : Int) != (b.length : Int)) = true := by simp; omega
    rw [h1, h2]; rfl

theorem eqOp_eq (a b : Int × List Int) (ha : a.2.length ≤ 4294967296) : s_laws_eqOp a b = some (a == b) := by
  obtain ⟨a1, a2⟩ := a
  obtain ⟨b1, b2⟩ := b
  unfold s_laws_eqOp
  simp only [eqIntS_eq a2 b2 ha, Option.bind_some]
  have : ((a1, a2) == (b1, b2)) = ((a1 == b1) && (a2 == b2)) := rfl
  rw [this]
  by_cases h : a1 = b1
  · cases h2 : a2 == b2 <;> simp [h]
  · simp [bne, beq_eq_false_iff_ne.2 h]


theorem toIntS_eq (a : List Int) (ha : a.length ≤ 4294967296) : s_laws_toIntS a = some a := by
  unfold s_laws_toIntS
  rw [mks_ok rfl ha, Option.bind_some, forC0_set (fun j => a[j]?.getD 0) (z := 0) (n := a.length) rfl ha rfl]
  · rw [Option.bind_some, after_br', map_range_getElem]
  · intro j s hj hs
    simp [List.getElem?_eq_getElem hj, List.getElem?_eq_getElem (show j < s.length by omega)]

theorem toOp_eq (a : Int × List Int) (ha : a.2.length ≤ 4294967296) : s_laws_toOp a = some a := by
  unfold s_laws_toOp; rw [toIntS_eq a.2 ha]; rfl



theorem pow_loop {n k : Int} {N K : Nat} (hn : n = (N : Int)) (hk : k = (K : Int)) (hN : 1 ≤ N) (hK : N ^ K ≤ 9223372036854775807) (hK2 : K ≤ 4294967296) : (
  (iter (S := Int × Int) (R := Int) (fun s2 =>
  (bif (decide (0 < s2.1)) then some (.nx (w64 (s2.1 - 1), w64 (s2.2 * n))) else some (.br (s2.1, s2.2)))) FU (k, 1)).bind fun o6 => after o6 (fun r_ => some r_) (fun s2 =>
  some s2.2)) = some ((N ^ K : Nat) : Int) := by
  subst hn hk
  rw [iter_br (fun t => ((K : Int) - t, ((N ^ t : Nat) : Int))) (t := (0, ((N ^ K : Nat) : Int))) K (by omega)]
  · rfl
  · simp
  · intro j hj
    have hd : decide ((0 : Int) < (K : Int) - j) = true := by simp; omega
    have hp : N ^ (j + 1) ≤ N ^ K := Nat.pow_le_pow_right hN (by omega)
    simp only [hd, cond_true]
    rw [w64_id (by omega) (by omega), show ((N ^ j : Nat) : Int) * (N : Int) = ((N ^ (j + 1) : Nat) : Int) by rw [Nat.pow_succ]; simp, w64_nat (by omega)]
    simp; omega
  · simp

theorem power_eq {n k : Int} {N K : Nat} (hn : n = (N : Int)) (hk : k = (K : Int)) (hN : 1 ≤ N) (hK : N ^ K ≤ 9223372036854775807) (hK2 : K ≤ 4294967296) : s_impl_power n k = some ((N ^ K : Nat) : Int) := pow_loop hn hk hN hK hK2

theorem l2Pow_eq {n k : Int} {N K : Nat} (hn : n = (N : Int)) (hk : k = (K : Int)) (hN : 1 ≤ N) (hK : N ^ K ≤ 9223372036854775807) (hK2 : K ≤ 4294967296) : s_spec_l2Pow n k = some ((N ^ K : Nat) : Int) := pow_loop hn hk hN hK hK2


theorem inSize_eq (l : List Int) (n : Int) : s_impl_inSize l n = some (l.all fun x => decide (0 ≤ x) && decide (x < n)) := by
  unfold s_impl_inSize
  rw [forR_chk (fun x => decide (0 ≤ x) && decide (x < n)) false]
  · cases l.all fun x => decide (0 ≤ x) && decide (x < n) <;> rfl
  · intro i x _
    by_cases h : x < 0
    · simp [h]; simp [show ¬ 0 ≤ x by omega]
    · by_cases h' : n ≤ x
      · simp [h, h']; simp [show ¬ x < n by omega]
      · simp [h, h', show 0 ≤ x by omega, show x < n by omega]


theorem l1In_eq (x a b : Int) : s_spec_l1In x a b = some (decide (a ≤ x) && decide (x ≤ b)) := by
  unfold s_spec_l1In
  by_cases h : a ≤ x <;> simp [h]


theorem all_range {α : Type} (l : List α) (p : α → Bool) (d : α) : (List.range l.length).all (fun j => p (l[j]?.getD d)) = l.all p := by
  rw [Bool.eq_iff_iff]
  simp only [List.all_eq_true, List.mem_range]
  constructor
  · intro h x hx
    obtain ⟨i, hi, rfl⟩ := List.mem_iff_getElem.1 hx
    have := h i hi
    simpa [List.getElem?_eq_getElem hi] using this
  · intro h j hj
    rw [List.getElem?_eq_getElem hj]
    exact h _ (List.getElem_mem hj)


/-- An operation over a set of N. -/
def opOk (N : Nat) (f : Int × List Int) : Bool := decide (0 ≤ f.1) && (decide (f.1 ≤ 3) && (decide (f.2.length = N ^ f.1.toNat) && f.2.all fun x => decide (0 ≤ x) && decide (x < (N : Int))))

theorem pow_small {N K : Nat} (hN8 : N ≤ 8) (hK : K ≤ 3) : N ^ K ≤ 512 := by
  have h1 : N ^ K ≤ 8 ^ K := Nat.pow_le_pow_left hN8 K
  have h2 : 8 ^ K ≤ 8 ^ 3 := Nat.pow_le_pow_right (by omega) hK
  omega

theorem isOp_eq {n : Int} {N : Nat} (hn : n = (N : Int)) (hN : 1 ≤ N) (hN8 : N ≤ 8) (f : Int × List Int) : s_impl_isOp f n = some (opOk N f) := by
  obtain ⟨a, t⟩ := f
  unfold s_impl_isOp opOk
  by_cases h0 : 0 ≤ a
  · by_cases h3 : a ≤ 3
    · obtain ⟨K, rfl⟩ : ∃ K : Nat, a = (K : Int) := ⟨a.toNat, by omega⟩
      have hp : N ^ K ≤ 512 := pow_small hN8 (by omega)
      have hi : s_impl_inSize t n = some (t.all fun x => decide (0 ≤ x) && decide (x < (N : Int))) := by rw [inSize_eq, hn]
      simp only [h0, h3, decide_true, cond_true, Bool.true_and, Int.toNat_natCast]
      rw [power_eq hn rfl hN (by omega) (by omega), Option.bind_some, hi, Option.bind_some]
      by_cases hl : t.length = N ^ K
      · simp [hl]
      · have : ((t.length : Int) == ((N ^ K : Nat) : Int)) = false := by rw [beq_nat]; simp [hl]
        rw [this]; simp [hl]
    · simp [h0, h3]
  · simp [h0]

theorem l2Op_eq {n : Int} {N : Nat} (hn : n = (N : Int)) (hN : 1 ≤ N) (hN8 : N ≤ 8) (f : Int × List Int) (hl : f.2.length ≤ 4294967296) : s_spec_l2Op n f = some (opOk N f) := by
  obtain ⟨a, t⟩ := f
  unfold s_spec_l2Op opOk
  simp only [l1In_eq, Option.bind_some]
  by_cases h0 : 0 ≤ a
  · by_cases h3 : a ≤ 3
    · obtain ⟨K, rfl⟩ : ∃ K : Nat, a = (K : Int) := ⟨a.toNat, by omega⟩
      have hp : N ^ K ≤ 512 := pow_small hN8 (by omega)
      simp only [h0, h3, decide_true, Bool.true_and, Bool.not_true, cond_false, Int.toNat_natCast]
      rw [l2Pow_eq hn rfl hN (by omega) (by omega), Option.bind_some, Option.bind_some]
      by_cases hl' : t.length = N ^ K
      · have e1 : ((t.length : Int) != ((N ^ K : Nat) : Int)) = false := by rw [hl']; simp
        rw [e1, cond_false, w64_id (by omega) (by omega), forC0_chk (n := t.length) (fun j => decide (0 ≤ t[j]?.getD 0) && decide (t[j]?.getD 0 < (N : Int))) false rfl (by simp at hl; omega)]
        · rw [all_range t (fun x => decide (0 ≤ x) && decide (x < (N : Int))) 0]
          cases t.all fun x => decide (0 ≤ x) && decide (x < (N : Int)) <;> simp [hl']
        · intro j hj
          simp only [idx_nat, List.getElem?_eq_getElem hj, Option.bind_some, Option.getD_some]
          have : decide (t[j] ≤ n - 1) = decide (t[j] < (N : Int)) := by rw [decide_eq_decide]; omega
          rw [this]
          cases decide (0 ≤ t[j]) && decide (t[j] < (N : Int)) <;> rfl
      · have e1 : ((t.length : Int) != ((N ^ K : Nat) : Int)) = true := by rw [bne, beq_nat]; simp [hl']
        rw [e1]; simp [hl']
    · simp [h0, h3]
  · simp [h0]


theorem szIntS_eq (a : List Int) (left : Int) (ha : a.length ≤ 9223372036854775807) (h0 : 0 ≤ left) (h1 : left ≤ 4611686018427387904) : s_laws_szIntS a left = some (if left < a.length then -1 else left - a.length) := by
  unfold s_laws_szIntS
  rw [w64_id (by omega) (by omega)]
  by_cases h : left < a.length
  · rw [if_pos h]; simp [show left - (a.length : Int) < 0 by omega]
  · rw [if_neg h]; simp [show ¬ left - (a.length : Int) < 0 by omega]

theorem szOp_eq (a : Int × List Int) (left : Int) (ha : a.2.length ≤ 9223372036854775807) (h0 : 0 ≤ left) (h1 : left ≤ 4611686018427387904) : s_laws_szOp a left = some (if left < a.2.length then -1 else left - a.2.length) := by
  unfold s_laws_szOp
  rw [szIntS_eq a.2 left ha h0 h1, Option.bind_some]
  by_cases h : left < a.2.length
  · rw [if_pos h]; rfl
  · rw [if_neg h]; simp [show ¬ left - (a.2.length : Int) < 0 by omega]

theorem same_loop (a b : List Int) (ha : a.length ≤ 4294967296) : (
  (bif ((a.length : Int) != (b.length : Int)) then some false else (forC (S := Unit) (R := Bool) (fun k12 s10 =>
  (idx a k12).bind fun x17 =>
  (idx b k12).bind fun x19 =>
  (bif (x17 != x19) then some (.rt false) else some (.nx ()))) 0 (a.length : Int) ()).bind fun o14 => after o14 (fun r_ => some r_) (fun s10 =>
  some true))) = some (a == b) := eqIntS_eq a b ha

theorem sameList_eq (a b : List Int) (ha : a.length ≤ 4294967296) : s_impl_sameList a b = some (a == b) := by
  rw [← same_loop a b ha]
  unfold s_impl_sameList
  congr 1
  congr 1
  · congr 1
    funext k s
    cases idx a k with
    | none => rfl
    | some x => cases idx b k with
      | none => rfl
      | some y =>
        simp only [Option.bind_some]
        by_cases h : x = y
        · subst h; rfl
        · simp [bne, beq_eq_false_iff_ne.2 h, beq_eq_false_iff_ne.2 (Ne.symm h)]

theorem l18Takes_eq {n : Int} (f : Int × List Int) (hl : f.2.length ≤ 4294967296) : s_spec_l18Takes n f = some (decide (1 ≤ n ∧ n ≤ 8) && opOk n.toNat f) := by
  unfold s_spec_l18Takes
  rw [l6Size_eq, Option.bind_some]
  by_cases h : 1 ≤ n ∧ n ≤ 8
  · rw [show decide (1 ≤ n ∧ n ≤ 8) = true by simp [h], cond_true, Bool.true_and, l2Op_eq (N := n.toNat) (by omega) (by omega) (by omega) f hl]; rfl
  · rw [show decide (1 ≤ n ∧ n ≤ 8) = false by simp; omega]; rfl

theorem implTakes_eq {n : Int} (f : Int × List Int) : ((s_impl_isSize n).bind fun r7 =>
  (bif (!r7) then some true else (s_impl_isOp (f.1, f.2) n).bind fun r10 =>
  some (!r10))) = some (!(decide (1 ≤ n ∧ n ≤ 8) && opOk n.toNat f)) := by
  rw [isSize_eq, Option.bind_some]
  by_cases h : 1 ≤ n ∧ n ≤ 8
  · rw [show decide (1 ≤ n ∧ n ≤ 8) = true by simp [h], isOp_eq (N := n.toNat) (by omega) (by omega) (by omega)]; rfl
  · rw [show decide (1 ≤ n ∧ n ≤ 8) = false by simp; omega]; rfl



def NL (T : List Nat) : List Int := T.map fun x : Nat => (x : Int)

@[simp] theorem NL_len (T : List Nat) : (NL T).length = T.length := by simp [NL]

@[simp] theorem NL_nil : NL [] = [] := rfl

@[simp] theorem NL_cons (x : Nat) (T : List Nat) : NL (x :: T) = (x : Int) :: NL T := rfl

theorem NL_inj {S T : List Nat} (h : NL S = NL T) : S = T := by
  induction S generalizing T with
  | nil => cases T with
    | nil => rfl
    | cons y T => cases h
  | cons x S ih => cases T with
    | nil => cases h
    | cons y T =>
      simp only [NL_cons, List.cons.injEq] at h
      rw [ih h.2, show x = y by omega]

theorem NL_beq (S T : List Nat) : (NL S == NL T) = (S == T) := by
  rw [Bool.eq_iff_iff, beq_iff_eq, beq_iff_eq]; exact ⟨NL_inj, fun h => by rw [h]⟩

def ga (T : List Nat) (k : Nat) : Nat := T.getD k 0

theorem ga_get {T : List Nat} {k : Nat} (h : k < T.length) : ga T k = T[k] := by simp [ga, List.getElem?_eq_getElem h]

theorem ga_mem {T : List Nat} {k : Nat} (h : k < T.length) : ga T k ∈ T := by rw [ga_get h]; exact List.getElem_mem h

theorem idx_NL {T : List Nat} {k : Nat} (h : k < T.length) : idx (NL T) (k : Int) = some ((ga T k : Nat) : Int) := by
  rw [idx_nat, ga_get h]; simp [NL, List.getElem?_eq_getElem h]

theorem NL_of {t : List Int} (h : ∀ x ∈ t, 0 ≤ x) : ∃ T : List Nat, t = NL T := by
  refine ⟨t.map Int.toNat, ?_⟩
  unfold NL
  rw [List.map_map]
  conv => lhs; rw [← List.map_id t]
  refine List.map_congr_left fun x hx => ?_
  have := h x hx
  simp; omega

theorem map_ga (T : List Nat) : (List.range T.length).map (ga T) = T := by
  apply List.ext_getElem
  · simp
  · intro i h1 h2
    simp only [List.getElem_map, List.getElem_range]
    exact ga_get h2

theorem w64_add {a b : Nat} (h : a + b ≤ 9223372036854775807) : w64 ((a : Int) + (b : Int)) = ((a + b : Nat) : Int) := by
  rw [w64_id (by omega) (by omega)]; omega

theorem w64_mul {a b : Nat} (h : a * b ≤ 9223372036854775807) : w64 ((a : Int) * (b : Int)) = ((a * b : Nat) : Int) := by
  rw [← Int.natCast_mul, w64_nat h]

theorem lin2 {x y N M : Nat} (hx : x < N) (hy : y < M) : x * M + y < N * M := by
  calc x * M + y < x * M + M := by omega
    _ = (x + 1) * M := by rw [Nat.add_mul, Nat.one_mul]
    _ ≤ N * M := Nat.mul_le_mul_right M hx

theorem lin2_div {x y M : Nat} (hy : y < M) : (x * M + y) / M = x := by
  rw [Nat.mul_comm, Nat.mul_add_div (by omega), Nat.div_eq_of_lt hy]; omega

theorem lin2_mod {x y M : Nat} (hy : y < M) : (x * M + y) % M = y := by
  rw [Nat.mul_comm, Nat.mul_add_mod, Nat.mod_eq_of_lt hy]

/-- All pairs, in one row. -/
theorem all_pairs (n m : Nat) (p : Nat → Bool) : (List.range (n * m)).all p = (List.range n).all fun x => (List.range m).all fun y => p (x * m + y) := by
  rw [Bool.eq_iff_iff]
  simp only [List.all_eq_true, List.mem_range]
  constructor
  · intro h x hx y hy; exact h _ (lin2 hx hy)
  · intro h i hi
    have hm : 0 < m := by rcases Nat.eq_zero_or_pos m with h0 | h0; simp [h0] at hi; exact h0
    have := h (i / m) (by rw [Nat.div_lt_iff_lt_mul hm]; exact hi) (i % m) (Nat.mod_lt _ hm)
    rwa [Nat.mul_comm, Nat.div_add_mod] at this


def dig (N : Nat) : Nat → Nat → List Nat
  | 0, _ => []
  | t + 1, i => (i / N ^ t % N) :: dig N t i

@[simp] theorem dig_len (N : Nat) : ∀ (t i : Nat), (dig N t i).length = t
  | 0, _ => rfl
  | t + 1, i => by simp [dig, dig_len N t i]

theorem digs_NL (N : Nat) : ∀ (t i : Nat), digs (N : Int) t (i : Int) = NL (dig N t i)
  | 0, _ => rfl
  | t + 1, i => by
    simp only [digs, dig, NL_cons, digs_NL N t i]
    congr 1

theorem dig_lt {N : Nat} (h : 0 < N) : ∀ (t i : Nat), ∀ x ∈ dig N t i, x < N
  | 0, _, _, h => by cases h
  | t + 1, i, x, hx => by
    rcases List.mem_cons.1 hx with rfl | hx
    · exact Nat.mod_lt _ h
    · exact dig_lt h t i x hx

theorem argsN {i K N : Nat} (hK : K ≤ 4294967296) (hN : 1 ≤ N) (hi : i ≤ 9223372036854775807) : s_impl_argsAt (i : Int) (K : Int) (N : Int) = some (NL (dig N K i)) := by
  rw [argsAt_eq (K := K) rfl hK (by omega) (by omega) (by omega), digs_NL]

/-- An operation on N, of the arity K. -/
structure OpN (N : Nat) (f : Int × List Int) (K : Nat) (T : List Nat) : Prop where
  eq : f = ((K : Int), NL T)
  k3 : K ≤ 3
  len : T.length = N ^ K
  lt : ∀ x ∈ T, x < N

theorem opOk_elim {N : Nat} {f : Int × List Int} (h : opOk N f = true) : ∃ K T, OpN N f K T := by
  obtain ⟨a, t⟩ := f
  simp only [opOk, Bool.and_eq_true, decide_eq_true_eq, List.all_eq_true] at h
  obtain ⟨h0, h3, hl, hx⟩ := h
  obtain ⟨T, rfl⟩ := NL_of (fun x hx' => (hx x hx').1)
  obtain ⟨K, rfl⟩ : ∃ K : Nat, a = (K : Int) := ⟨a.toNat, by omega⟩
  refine ⟨K, T, rfl, by omega, by simpa using hl, fun x hx' => ?_⟩
  have := (hx (x : Int) (List.mem_map.2 ⟨x, hx', rfl⟩)).2
  omega

theorem cube_le {N : Nat} (h : N ≤ 8) : N * N * N ≤ 512 := by
  have h1 : N * N ≤ 8 * 8 := Nat.mul_le_mul h h
  have : N * N * N ≤ 8 * 8 * 8 := Nat.mul_le_mul h1 h
  omega

theorem pow3 (N : Nat) : N ^ 3 = N * N * N := by rw [Nat.pow_succ, Nat.pow_succ, Nat.pow_succ, Nat.pow_zero, Nat.one_mul]

theorem pow2 (N : Nat) : N ^ 2 = N * N := by rw [Nat.pow_succ, Nat.pow_succ, Nat.pow_zero, Nat.one_mul]


def ix (N : Nat) (s : Nat) (A : List Nat) : Nat := A.foldl (fun s x => s * N + x) s

theorem ix_lt {N : Nat} : ∀ (A : List Nat) (s : Nat), (∀ x ∈ A, x < N) → ix N s A < (s + 1) * N ^ A.length
  | [], s, _ => by simp [ix]
  | x :: A, s, h => by
    have h1 := ix_lt A (s * N + x) (fun y hy => h y (by simp [hy]))
    have hx := h x (by simp)
    have : (s * N + x + 1) * N ^ A.length ≤ (s + 1) * N * N ^ A.length := by
      apply Nat.mul_le_mul_right; rw [Nat.add_mul, Nat.one_mul]; omega
    show ix N (s * N + x) A < _
    rw [List.length_cons, Nat.pow_succ, Nat.mul_comm (N ^ A.length), ← Nat.mul_assoc]
    omega

theorem ix0_lt {N K : Nat} {A : List Nat} (h : ∀ x ∈ A, x < N) (hl : A.length = K) : ix N 0 A < N ^ K := by
  have := ix_lt A 0 h; rw [hl] at this; simpa using this

theorem indexOf_loop {N : Nat} (hN : 1 ≤ N) : ∀ (A : List Nat) (s : Nat) (i : Int), (∀ x ∈ A, x < N) → (s + 1) * N ^ A.length ≤ 9223372036854775807 →
    forR (S := Int) (R := Int) (fun _ x6 s3 => some (.nx (w64 ((w64 (s3 * (N : Int))) + x6)))) i (NL A) (s : Int) = some (.br ((ix N s A : Nat) : Int))
  | [], s, i, _, _ => rfl
  | x :: A, s, i, h, hb => by
    have hx := h x (by simp)
    have hp : 1 ≤ N ^ A.length := Nat.pow_pos (by omega)
    rw [List.length_cons, Nat.pow_succ, Nat.mul_comm (N ^ A.length), ← Nat.mul_assoc] at hb
    have h1 : (s * N + x + 1) * N ^ A.length ≤ (s + 1) * N * N ^ A.length := by
      apply Nat.mul_le_mul_right; rw [Nat.add_mul, Nat.one_mul]; omega
    have h2 : s * N + x + 1 ≤ (s * N + x + 1) * N ^ A.length := Nat.le_mul_of_pos_right _ hp
    rw [NL_cons]
    unfold forR
    rw [w64_mul (by omega), w64_add (by omega)]
    exact indexOf_loop hN A (s * N + x) (i + 1) (fun y hy => h y (by simp [hy])) (by omega)

theorem indexOf_eq {N : Nat} (hN : 1 ≤ N) {A : List Nat} (h : ∀ x ∈ A, x < N) (hb : N ^ A.length ≤ 9223372036854775807) : s_impl_indexOf (NL A) (N : Int) = some ((ix N 0 A : Nat) : Int) := by
  unfold s_impl_indexOf
  have := indexOf_loop hN A 0 0 h (by simpa using hb)
  rw [show (((0 : Nat) : Int)) = 0 from rfl] at this
  rw [this]; rfl

theorem compose_eq {F G : List Nat} (h : ∀ x ∈ F, x < G.length) (hl : F.length ≤ 4294967296) : s_impl_compose (NL F) (NL G) = some (NL (F.map (ga G))) := by
  unfold s_impl_compose
  rw [mks_ok rfl (by simpa using hl), Option.bind_some, forC0_set (fun j => ((ga G (ga F j) : Nat) : Int)) (z := 0) (n := F.length) (by simp) (by omega) (by simp)]
  · rw [Option.bind_some, after_br']
    congr 1
    conv => rhs; rw [← map_ga F]
    unfold NL; simp
  · intro j s hj hs
    rw [idx_NL hj, Option.bind_some, idx_NL (h _ (ga_mem hj)), Option.bind_some]
    simp [List.getElem?_eq_getElem (show j < s.length by omega)]

theorem pow_le_512 {N K : Nat} (h8 : N ≤ 8) (hK : K ≤ 3) : N ^ K ≤ 512 := pow_small h8 hK

theorem projection_eq {N K place : Nat} (h1 : 1 ≤ N) (h8 : N ≤ 8) (hK : K ≤ 3) (hp : place < K) : s_impl_projection (N : Int) (K : Int) (place : Int) = some (NL ((List.range (N ^ K)).map fun i => ga (dig N K i) place)) := by
  have hb := pow_le_512 h8 hK
  unfold s_impl_projection
  rw [power_eq rfl rfl h1 (by omega) (by omega), Option.bind_some, mks_ok rfl (by omega), Option.bind_some, forC0_set (fun i => ((ga (dig N K i) place : Nat) : Int)) (z := 0) (n := N ^ K) (by simp) (by omega) rfl]
  · simp [NL]
  · intro j s hj hs
    rw [argsN (by omega) h1 (by omega), Option.bind_some, idx_NL (by simpa using hp), Option.bind_some]
    simp [List.getElem?_eq_getElem (show j < s.length by omega)]

theorem dig2 {N x y : Nat} (hx : x < N) (hy : y < N) : dig N 2 (x * N + y) = [x, y] := by
  simp only [dig, Nat.pow_one, Nat.pow_zero, Nat.div_one, lin2_div hy, lin2_mod hy, Nat.mod_eq_of_lt hx]

/-- The value of a ternary table. -/
def t3 (T : List Nat) (N a b c : Nat) : Nat := ga T ((a * N + b) * N + c)

def vat (N : Nat) (T P : List Nat) (i : Nat) : Nat := ga T (ix N 0 (P.map (ga (dig N 2 i))))

theorem valuesAt_eq {N : Nat} {T P : List Nat} (h1 : 1 ≤ N) (h8 : N ≤ 8) (hT : T.length = N ^ 3) (hP : P.length = 3) (hp : ∀ x ∈ P, x < 2) : s_impl_valuesAt (N : Int) (NL T) (NL P) = some (NL ((List.range (N * N)).map (vat N T P))) := by
  have h2 : N * N ≤ 8 * 8 := Nat.mul_le_mul h8 h8
  have h512 := pow_le_512 h8 (show 3 ≤ 3 by omega)
  unfold s_impl_valuesAt
  rw [w64_mul (by omega), forC0_app (fun i => ((vat N T P i : Nat) : Int)) rfl (by omega)]
  · simp [NL]
  · intro j s hj hs
    have hl : ∀ x ∈ P.map (ga (dig N 2 j)), x < N := by
      intro x hx
      obtain ⟨y, hy, rfl⟩ := List.mem_map.1 hx
      exact dig_lt h1 2 j _ (ga_mem (by simpa using hp y hy))
    have hlen : (P.map (ga (dig N 2 j))).length = 3 := by simpa using hP
    have := argsN (i := j) (K := 2) (N := N) (by omega) h1 (by omega)
    rw [show ((2 : Nat) : Int) = 2 from rfl] at this
    rw [this, Option.bind_some, compose_eq (by simpa using hp) (by omega), Option.bind_some, indexOf_eq h1 hl (by rw [hlen]; omega), Option.bind_some, idx_NL (by rw [hT]; exact ix0_lt hl hlen), Option.bind_some]
    rfl

theorem vat_at {N x y a b c : Nat} {T : List Nat} (hx : x < N) (hy : y < N) : vat N T [a, b, c] (x * N + y) = t3 T N (ga [x, y] a) (ga [x, y] b) (ga [x, y] c) := by
  unfold vat t3
  rw [dig2 hx hy]
  simp [ix]

theorem map_beq_all (n : Nat) (f g : Nat → Nat) : ((List.range n).map f == (List.range n).map g) = (List.range n).all fun i => f i == g i := by
  rw [Bool.eq_iff_iff, beq_iff_eq]
  simp

theorem hasValuesAt3 {N : Nat} {T : List Nat} {K : Nat} (h1 : 1 ≤ N) (h8 : N ≤ 8) (hT : K = 3 → T.length = N ^ 3) {P Q R : List Nat} (hP : P.length = 3 ∧ ∀ x ∈ P, x < 2) (hQ : Q.length = 3 ∧ ∀ x ∈ Q, x < 2) (hR : R.length = 3 ∧ ∀ x ∈ R, x < 2) (A B C : List Nat) :
    s_impl_hasValuesAt (N : Int) ((K : Int), NL T) [NL P, NL Q, NL R] [NL A, NL B, NL C] = some (K == 3 && ((List.range (N * N)).map (vat N T P) == A) && ((List.range (N * N)).map (vat N T Q) == B) && ((List.range (N * N)).map (vat N T R) == C)) := by
  have h2 : N * N ≤ 8 * 8 := Nat.mul_le_mul h8 h8
  unfold s_impl_hasValuesAt
  simp only
  by_cases hK : K = 3
  · subst hK
    have hT := hT rfl
    rw [show (((3 : Nat) : Int) != 3) = false from rfl, cond_false]
    rw [forC0_chk (n := 3) (fun j => match j with | 0 => (List.range (N * N)).map (vat N T P) == A | 1 => (List.range (N * N)).map (vat N T Q) == B | _ => (List.range (N * N)).map (vat N T R) == C) false (by rfl) (by omega)]
    · rw [show List.range 3 = [0, 1, 2] from rfl]
      simp only [List.all_cons, List.all_nil, Bool.and_true]
      cases (List.range (N * N)).map (vat N T P) == A <;> cases (List.range (N * N)).map (vat N T Q) == B <;> cases (List.range (N * N)).map (vat N T R) == C <;> rfl
    · intro j hj
      match j, hj with
      | 0, _ =>
        simp only [idx_nat, List.getElem?_cons_zero, Option.bind_some]
        rw [valuesAt_eq h1 h8 hT hP.1 hP.2, Option.bind_some, sameList_eq _ _ (by simp; omega), Option.bind_some, NL_beq]
        cases (List.range (N * N)).map (vat N T P) == A <;> rfl
      | 1, _ =>
        simp only [idx_nat, List.getElem?_cons_zero, List.getElem?_cons_succ, Option.bind_some]
        rw [valuesAt_eq h1 h8 hT hQ.1 hQ.2, Option.bind_some, sameList_eq _ _ (by simp; omega), Option.bind_some, NL_beq]
        cases (List.range (N * N)).map (vat N T Q) == B <;> rfl
      | 2, _ =>
        simp only [idx_nat, List.getElem?_cons_zero, List.getElem?_cons_succ, Option.bind_some]
        rw [valuesAt_eq h1 h8 hT hR.1 hR.2, Option.bind_some, sameList_eq _ _ (by simp; omega), Option.bind_some, NL_beq]
        cases (List.range (N * N)).map (vat N T R) == C <;> rfl
  · have e1 : ((K : Int) != 3) = true := by simp; omega
    have e2 : (K == 3) = false := by simpa using hK
    rw [e1, e2]; rfl

theorem firsts_eq {N : Nat} (h1 : 1 ≤ N) (h8 : N ≤ 8) : s_impl_firsts (N : Int) = some (NL ((List.range (N * N)).map fun i => ga (dig N 2 i) 0)) := by
  unfold s_impl_firsts
  have := projection_eq (K := 2) (place := 0) h1 h8 (by omega) (by omega)
  rw [pow2] at this
  exact (by simpa using this)

theorem seconds_eq {N : Nat} (h1 : 1 ≤ N) (h8 : N ≤ 8) : s_impl_seconds (N : Int) = some (NL ((List.range (N * N)).map fun i => ga (dig N 2 i) 1)) := by
  unfold s_impl_seconds
  have := projection_eq (K := 2) (place := 1) h1 h8 (by omega) (by omega)
  rw [pow2] at this
  exact (by simpa using this)


theorem l18At_eq {N K x y z : Nat} {T : List Nat} (h8 : N ≤ 8) (hT : T.length = N ^ 3) (hx : x < N) (hy : y < N) (hz : z < N) : s_spec_l18At (N : Int) ((K : Int), NL T) (x : Int) (y : Int) (z : Int) = some ((t3 T N x y z : Nat) : Int) := by
  have h512 := cube_le h8
  have h2 := lin2 hx hy
  have h3 := lin2 h2 hz
  have h4 : x * N ≤ x * N + y := by omega
  have h5 := Nat.mul_le_mul h8 h8
  unfold s_spec_l18At
  rw [w64_mul (by omega), w64_add (by omega), w64_mul (by omega), w64_add (by omega), idx_NL (by rw [hT, pow3]; exact h3)]
  rfl


theorem all2_chk {R : Type} (N : Nat) (hN : N ≤ 9223372036854775807) (p : Nat → Nat → Bool) (bad good : R) {step : Int → Int → Option Bool}
    (h : ∀ x y : Nat, x < N → y < N → step x y = some (!p x y)) : ((forC (S := Unit) (R := R) (fun k39 s37 =>
  (forC (S := Unit) (R := R) (fun k57 s55 =>
  (step k39 k57).bind fun s61 =>
  (bif s61 then some (.rt bad) else some (.nx ()))) 0 (N : Int) ()).bind fun o59 => after o59 (fun r_ => some (.rt r_)) (fun s55 =>
  some (.nx ()))) 0 (N : Int) ()).bind fun o41 => after o41 (fun r_ => some r_) (fun s37 =>
  some good)) = some (bif (List.range N).all fun x => (List.range N).all fun y => p x y then good else bad) := by
  rw [forC0_chk (n := N) (fun x => (List.range N).all fun y => p x y) bad rfl hN]
  · cases (List.range N).all fun x => (List.range N).all fun y => p x y <;> rfl
  · intro x hx
    rw [forC0_chk (n := N) (fun y => p x y) bad rfl hN]
    · cases (List.range N).all fun y => p x y <;> rfl
    · intro y hy
      rw [h x y hx hy, Option.bind_some]
      cases p x y <;> rfl

theorem l18Takes_op {n : Int} {f : Int × List Int} (h : (decide (1 ≤ n ∧ n ≤ 8) && opOk n.toNat f) = true) : ∃ N K T, n = ((N : Nat) : Int) ∧ 1 ≤ N ∧ N ≤ 8 ∧ OpN N f K T := by
  simp only [Bool.and_eq_true, decide_eq_true_eq] at h
  obtain ⟨K, T, ho⟩ := opOk_elim h.2
  exact ⟨n.toNat, K, T, by omega, by omega, by omega, ho⟩


/-- What both answer: three patterns. -/
def isTern (pat : Nat → List Nat → Nat → Nat → Bool) (n : Int) (f : Int × List Int) : Bool × Bool :=
  bif decide (1 ≤ n ∧ n ≤ 8) && opOk n.toNat f then (bif f.1 == 3 then ((List.range n.toNat).all fun x => (List.range n.toNat).all fun y => pat n.toNat (f.2.map Int.toNat) x y, true) else (false, true)) else (false, false)

theorem NL_toNat (T : List Nat) : (NL T).map Int.toNat = T := by
  unfold NL; rw [List.map_map]; exact (List.map_congr_left (fun x _ => by simp)).trans (List.map_id T)

def pix (N : Nat) (T : List Nat) (x y : Nat) : Bool := (t3 T N x y y == x) && (t3 T N x y x == x) && (t3 T N x x y == y)

theorem bne_nat (a b : Nat) : ((a : Int) != (b : Int)) = !(a == b) := by rw [bne, beq_nat]

theorem spec_IsPixley {n : Int} (f : Int × List Int) (hl : f.2.length ≤ 4294967296) : s_spec_IsPixleyOp n f = some (isTern pix n f) := by
  unfold s_spec_IsPixleyOp isTern
  rw [l18Takes_eq f hl, Option.bind_some]
  cases h : (decide (1 ≤ n ∧ n ≤ 8) && opOk n.toNat f) with
  | false => rfl
  | true =>
    obtain ⟨N, K, T, rfl, h1, h8, rfl, hk, hT, hlt⟩ := l18Takes_op h
    simp only [Bool.not_true, cond_false, cond_true, Int.toNat_natCast, NL_toNat]
    by_cases hK : K = 3
    · subst hK
      rw [show (((3 : Nat) : Int) != 3) = false from rfl, show (((3 : Nat) : Int) == 3) = true from rfl, cond_false, cond_true]
      rw [all2_chk N (by omega) (fun x y => pix N T x y) _ _ (step := fun k39 k57 => (s_spec_l18At (N : Int) (((3 : Nat) : Int), NL T) k39 k57 k57).bind fun r65 =>
  (bif (r65 != k39) then some true else (s_spec_l18At (N : Int) (((3 : Nat) : Int), NL T) k39 k57 k39).bind fun r68 =>
  (bif (r68 != k39) then some true else (s_spec_l18At (N : Int) (((3 : Nat) : Int), NL T) k39 k39 k57).bind fun r71 =>
  some (r71 != k57))))]
      · cases (List.range N).all fun x => (List.range N).all fun y => pix N T x y <;> rfl
      · intro x y hx hy
        rw [l18At_eq h8 hT hx hy hy, l18At_eq h8 hT hx hy hx, l18At_eq h8 hT hx hx hy]
        simp only [Option.bind_some, bne_nat, pix]
        cases t3 T N x y y == x <;> cases t3 T N x y x == x <;> cases t3 T N x x y == y <;> rfl
    · have e1 : ((K : Int) != 3) = true := by simp; omega
      have e2 : ((K : Int) == 3) = false := by simp; omega
      rw [e1, e2]; rfl

theorem all_and3 (n : Nat) (p q r : Nat → Bool) : ((List.range n).all p && (List.range n).all q && (List.range n).all r) = (List.range n).all fun i => p i && q i && r i := by
  rw [Bool.eq_iff_iff]
  simp only [Bool.and_eq_true, List.all_eq_true]
  exact ⟨fun h x hx => ⟨⟨h.1.1 x hx, h.1.2 x hx⟩, h.2 x hx⟩, fun h => ⟨⟨fun x hx => (h x hx).1.1, fun x hx => (h x hx).1.2⟩, fun x hx => (h x hx).2⟩⟩

theorem all_range_congr {n : Nat} {p q : Nat → Bool} (h : ∀ i, i < n → p i = q i) : (List.range n).all p = (List.range n).all q := by
  rw [Bool.eq_iff_iff]
  simp only [List.all_eq_true, List.mem_range]
  exact ⟨fun H i hi => by rw [← h i hi]; exact H i hi, fun H i hi => by rw [h i hi]; exact H i hi⟩

theorem impl_IsPixley {n : Int} (f : Int × List Int) : s_impl_IsPixleyOp n f = some (isTern pix n f) := by
  unfold s_impl_IsPixleyOp isTern
  rw [implTakes_eq f, Option.bind_some]
  cases h : (decide (1 ≤ n ∧ n ≤ 8) && opOk n.toNat f) with
  | false => rfl
  | true =>
    obtain ⟨N, K, T, rfl, h1, h8, rfl, hk, hT, hlt⟩ := l18Takes_op h
    simp only [Bool.not_true, cond_false, cond_true, Int.toNat_natCast, NL_toNat]
    rw [firsts_eq h1 h8, Option.bind_some, seconds_eq h1 h8, Option.bind_some]
    have := hasValuesAt3 (K := K) (T := T) h1 h8 (fun e => by rw [hT, e]) (P := [0, 1, 1]) (Q := [0, 1, 0]) (R := [0, 0, 1]) (by decide) (by decide) (by decide) ((List.range (N * N)).map fun i => ga (dig N 2 i) 0) ((List.range (N * N)).map fun i => ga (dig N 2 i) 0) ((List.range (N * N)).map fun i => ga (dig N 2 i) 1)
    simp only [NL_cons, NL_nil] at this
    rw [show (((0 : Nat) : Int)) = 0 from rfl, show (((1 : Nat) : Int)) = 1 from rfl] at this
    rw [this, Option.bind_some]
    by_cases hK : K = 3
    · subst hK
      rw [show (((3 : Nat) : Int) == 3) = true from rfl, cond_true, map_beq_all, map_beq_all, map_beq_all, show ((3 : Nat) == 3) = true from rfl, Bool.true_and, all_and3, all_pairs]
      congr 2
      refine all_range_congr fun x hx => all_range_congr fun y hy => ?_
      rw [vat_at hx hy, vat_at hx hy, vat_at hx hy, dig2 hx hy]
      rfl
    · have e1 : (K == 3) = false := by simpa using hK
      have e2 : ((K : Int) == 3) = false := by simp; omega
      rw [e1, e2]; rfl


theorem s_laws_FnExactIsPixleyOp_ok (n : Int) (f : Int × List Int) (_ : OkI n) (hf : OkP OkI (OkL OkI) f) : s_laws_FnExactIsPixleyOp n f = some true := by
  unfold s_laws_FnExactIsPixleyOp
  rw [szOp_eq _ _ hf.2.1 (by omega) (by omega), Option.bind_some]
  by_cases h : (1048576 : Int) < f.2.length
  · simp [h]
  · rw [if_neg h]
    have hl : f.2.length ≤ 4294967296 := by omega
    simp only [show decide ((1048576 : Int) - f.2.length < 0) = false by simp; omega, cond_false, toOp_eq _ hl, Option.bind_some, spec_IsPixley _ hl, impl_IsPixley, eqOp_eq _ _ hl]
    simp

end Go.Proofs
