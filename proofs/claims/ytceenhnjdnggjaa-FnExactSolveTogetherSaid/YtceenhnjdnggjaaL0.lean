/- Plain lemmas on what the functions compute, up to: the law gives true. No conditions. -/
import Derived.Test.YtceenhnjdnggjaaF2
import Derived.Test.YtceenhnjdnggjaaGPure
import Derived.Test.YtceenhnjdnggjaaGOpen
import Derived.Test.YtceenhnjdnggjaaGLoop
set_option linter.unusedVariables false
namespace Go.Proofs
open Go.G
set_option maxRecDepth 100000


/-- The last t digits of i, base n. -/
def digs (n : Int) : Nat → Int → List Int
  | 0, _ => []
  | t + 1, i => (i / n ^ t % n) :: digs n t i

theorem digs_loop {i k n : Int} {K : Nat} (hk : k = (K : Int)) (hK : K ≤ 4294967296) (hn : 1 ≤ n) (hi : 0 ≤ i) (hi' : i ≤ 9223372036854775807) : (
  (mks k (0 : Int)).bind fun y2 =>
  (iter (S := Int × Int × (List Int)) (R := (List Int)) (fun s17 =>
  (bif (decide (0 ≤ s17.2.1)) then (nz n).bind fun u26 =>
  (idx s17.2.2 s17.2.1).bind fun x27 =>
  (nz n).bind fun u30 =>
  some (.nx (w64 (Int.tdiv s17.1 n), w64 (s17.2.1 - 1), List.set s17.2.2 (Int.toNat s17.2.1) (Int.tmod s17.1 n))) else some (.br (s17.1, s17.2.1, s17.2.2)))) FU (i, w64 (k - 1), y2)).bind fun o21 => after o21 (fun r_ => some r_) (fun s17 =>
  some s17.2.2)) = some (digs n K i) := by
  subst hk
  rw [mks_ok rfl hK, Option.bind_some]
  have hp : ∀ t : Nat, 0 ≤ i / n ^ t ∧ i / n ^ t ≤ i := fun t => ⟨Int.ediv_nonneg hi (by exact Int.pow_nonneg (by omega)), ediv_le hi (by exact Int.pow_nonneg (by omega))⟩
  rw [iter_br (fun t => (i / n ^ t, (K : Int) - 1 - t, List.replicate (K - t) 0 ++ digs n t i)) (t := (i / n ^ K, -1, digs n K i)) K (by omega)]
  · rfl
  · rw [w64_id (by omega) (by omega)]; simp [digs]
  · intro j hj
    have e2 : List.replicate (K - j) (0 : Int) ++ digs n j i = List.replicate (K - (j + 1)) 0 ++ (0 :: digs n j i) := by
      rw [show K - j = (K - (j + 1)) + 1 by omega, List.replicate_succ', List.append_assoc]; rfl
    have hp1 := hp j
    have e3 : (K : Int) - 1 - j = ((K - (j + 1) : Nat) : Int) := by omega
    simp only [decide_true, show (0 : Int) ≤ (K : Int) - 1 - j by omega, cond_true, nz_ok (show n ≠ 0 by omega), Option.bind_some, tdiv_nn hp1.1, tmod_nn hp1.1]
    rw [w64_id (x := i / n ^ j / n) (by have := Int.ediv_nonneg hp1.1 (show 0 ≤ n by omega); omega) (by have := ediv_le hp1.1 (show 0 ≤ n by omega); omega), w64_id (by omega) (by omega), e2, e3, idx_nat, Int.toNat_natCast]
    simp only [List.getElem?_append, List.length_replicate, Nat.lt_irrefl, if_false, Nat.sub_self, List.getElem?_cons_zero, Option.bind_some, List.set_append, List.set_cons_zero, Option.some.injEq, Ctl.nx.injEq, Prod.mk.injEq]
    refine ⟨?_, by omega, by rw [digs]⟩
    rw [Int.pow_succ, Int.ediv_ediv_of_nonneg (Int.pow_nonneg (by omega))]
  · have : decide ((0 : Int) ≤ (K : Int) - 1 - K) = false := by simp; omega
    simp only [this, cond_false, Nat.sub_self, List.replicate_zero, List.nil_append]
    rw [show (K : Int) - 1 - K = -1 by omega]

theorem l2Args_eq {i k n : Int} {K : Nat} (hk : k = (K : Int)) (hK : K ≤ 4294967296) (hn : 1 ≤ n) (hi : 0 ≤ i) (hi' : i ≤ 9223372036854775807) : s_spec_l2Args n k i = some (digs n K i) :=
  digs_loop hk hK hn hi hi'

theorem eqIntS_eq (a b : List Int) (ha : a.length ≤ 4294967296) : s_laws_eqIntS a b = some (a == b) := by
  unfold s_laws_eqIntS
  by_cases hl : a.length = b.length
  · rw [hl]
    simp only [bne_self_eq_false, cond_false]
    rw [forC0_chk (n := b.length) (fun j => a[j]? == b[j]?) false rfl (by omega)]
    · have : (a == b) = (List.range b.length).all (fun j => a[j]? == b[j]?) := by
        rw [Bool.eq_iff_iff]
        simp only [beq_iff_eq, List.all_eq_true, List.mem_range]
        constructor
        · rintro rfl j _; rfl
        · intro h; apply List.ext_getElem?; intro j
          by_cases hj : j < b.length
          · exact h j hj
          · rw [List.getElem?_eq_none (by omega), List.getElem?_eq_none (by omega)]
      rw [← this]
      cases a == b <;> rfl
    · intro j hj
      have hj' : j < a.length := by omega
      simp only [idx_nat, List.getElem?_eq_getElem hj, List.getElem?_eq_getElem hj', Option.bind_some]
      by_cases h : a[j] = b[j]
      · simp [h]
      · simp [bne, beq_eq_false_iff_ne.2 h]
  · have h1 : (a == b) = false := by
      rw [Bool.eq_false_iff]; intro h; exact hl (by rw [beq_iff_eq.1 h])
    have h2 : ((a.length : Int) != (b.length : Int)) = true := by simp; omega
    rw [h1, h2]; rfl

theorem toIntS_eq (a : List Int) (ha : a.length ≤ 4294967296) : s_laws_toIntS a = some a := by
  unfold s_laws_toIntS
  rw [mks_ok rfl ha, Option.bind_some, forC0_set (fun j => a[j]?.getD 0) (z := 0) (n := a.length) rfl ha rfl]
  · rw [Option.bind_some, after_br', map_range_getElem]
  · intro j s hj hs
    simp [List.getElem?_eq_getElem hj, List.getElem?_eq_getElem (show j < s.length by omega)]


theorem pow_loop {n k : Int} {N K : Nat} (hn : n = (N : Int)) (hk : k = (K : Int)) (hN : 1 ≤ N) (hK : N ^ K ≤ 9223372036854775807) (hK2 : K ≤ 4294967296) : (
  (iter (S := Int × Int) (R := Int) (fun s2 =>
  (bif (decide (0 < s2.1)) then some (.nx (w64 (s2.1 - 1), w64 (s2.2 * n))) else some (.br (s2.1, s2.2)))) FU (k, 1)).bind fun o6 => after o6 (fun r_ => some r_) (fun s2 =>
  some s2.2)) = some ((N ^ K : Nat) : Int) := by
  subst hn hk
  rw [iter_br (fun t => ((K : Int) - t, ((N ^ t : Nat) : Int))) (t := (0, ((N ^ K : Nat) : Int))) K (by omega)]
  · rfl
  · simp
  · intro j hj
    have hd : decide ((0 : Int) < (K : Int) - j) = true := by simp; omega
    have hp : N ^ (j + 1) ≤ N ^ K := Nat.pow_le_pow_right hN (by omega)
    simp only [hd, cond_true]
    rw [w64_id (by omega) (by omega), show ((N ^ j : Nat) : Int) * (N : Int) = ((N ^ (j + 1) : Nat) : Int) by rw [Nat.pow_succ]; simp, w64_nat (by omega)]
    simp; omega
  · simp

theorem power_eq {n k : Int} {N K : Nat} (hn : n = (N : Int)) (hk : k = (K : Int)) (hN : 1 ≤ N) (hK : N ^ K ≤ 9223372036854775807) (hK2 : K ≤ 4294967296) : s_impl_power n k = some ((N ^ K : Nat) : Int) := pow_loop hn hk hN hK hK2

theorem l2Pow_eq {n k : Int} {N K : Nat} (hn : n = (N : Int)) (hk : k = (K : Int)) (hN : 1 ≤ N) (hK : N ^ K ≤ 9223372036854775807) (hK2 : K ≤ 4294967296) : s_spec_l2Pow n k = some ((N ^ K : Nat) : Int) := pow_loop hn hk hN hK hK2


theorem inSize_eq (l : List Int) (n : Int) : s_impl_inSize l n = some (l.all fun x => decide (0 ≤ x) && decide (x < n)) := by
  unfold s_impl_inSize
  rw [forR_chk (fun x => decide (0 ≤ x) && decide (x < n)) false]
  · cases l.all fun x => decide (0 ≤ x) && decide (x < n) <;> rfl
  · intro i x _
    by_cases h : x < 0
    · simp [h]; simp [show ¬ 0 ≤ x by omega]
    · by_cases h' : n ≤ x
      · simp [h, h']; simp [show ¬ x < n by omega]
      · simp [h, h', show 0 ≤ x by omega, show x < n by omega]


theorem l1In_eq (x a b : Int) : s_spec_l1In x a b = some (decide (a ≤ x) && decide (x ≤ b)) := by
  unfold s_spec_l1In
  by_cases h : a ≤ x <;> simp [h]


theorem all_range {α : Type} (l : List α) (p : α → Bool) (d : α) : (List.range l.length).all (fun j => p (l[j]?.getD d)) = l.all p := by
  rw [Bool.eq_iff_iff]
  simp only [List.all_eq_true, List.mem_range]
  constructor
  · intro h x hx
    obtain ⟨i, hi, rfl⟩ := List.mem_iff_getElem.1 hx
    have := h i hi
    simpa [List.getElem?_eq_getElem hi] using this
  · intro h j hj
    rw [List.getElem?_eq_getElem hj]
    exact h _ (List.getElem_mem hj)


/-- An operation over a set of N. -/
def opOk (N : Nat) (f : Int × List Int) : Bool := decide (0 ≤ f.1) && (decide (f.1 ≤ 3) && (decide (f.2.length = N ^ f.1.toNat) && f.2.all fun x => decide (0 ≤ x) && decide (x < (N : Int))))

theorem pow_small {N K : Nat} (hN8 : N ≤ 8) (hK : K ≤ 3) : N ^ K ≤ 512 := by
  have h1 : N ^ K ≤ 8 ^ K := Nat.pow_le_pow_left hN8 K
  have h2 : 8 ^ K ≤ 8 ^ 3 := Nat.pow_le_pow_right (by omega) hK
  omega

theorem isOp_eq {n : Int} {N : Nat} (hn : n = (N : Int)) (hN : 1 ≤ N) (hN8 : N ≤ 8) (f : Int × List Int) : s_impl_isOp f n = some (opOk N f) := by
  obtain ⟨a, t⟩ := f
  unfold s_impl_isOp opOk
  by_cases h0 : 0 ≤ a
  · by_cases h3 : a ≤ 3
    · obtain ⟨K, rfl⟩ : ∃ K : Nat, a = (K : Int) := ⟨a.toNat, by omega⟩
      have hp : N ^ K ≤ 512 := pow_small hN8 (by omega)
      have hi : s_impl_inSize t n = some (t.all fun x => decide (0 ≤ x) && decide (x < (N : Int))) := by rw [inSize_eq, hn]
      simp only [h0, h3, decide_true, cond_true, Bool.true_and, Int.toNat_natCast]
      rw [power_eq hn rfl hN (by omega) (by omega), Option.bind_some, hi, Option.bind_some]
      by_cases hl : t.length = N ^ K
      · simp [hl]
      · have : ((t.length : Int) == ((N ^ K : Nat) : Int)) = false := by rw [beq_nat]; simp [hl]
        rw [this]; simp [hl]
    · simp [h0, h3]
  · simp [h0]

theorem l2Op_eq {n : Int} {N : Nat} (hn : n = (N : Int)) (hN : 1 ≤ N) (hN8 : N ≤ 8) (f : Int × List Int) (hl : f.2.length ≤ 4294967296) : s_spec_l2Op n f = some (opOk N f) := by
  obtain ⟨a, t⟩ := f
  unfold s_spec_l2Op opOk
  simp only [l1In_eq, Option.bind_some]
  by_cases h0 : 0 ≤ a
  · by_cases h3 : a ≤ 3
    · obtain ⟨K, rfl⟩ : ∃ K : Nat, a = (K : Int) := ⟨a.toNat, by omega⟩
      have hp : N ^ K ≤ 512 := pow_small hN8 (by omega)
      simp only [h0, h3, decide_true, Bool.true_and, Bool.not_true, cond_false, Int.toNat_natCast]
      rw [l2Pow_eq hn rfl hN (by omega) (by omega), Option.bind_some, Option.bind_some]
      by_cases hl' : t.length = N ^ K
      · have e1 : ((t.length : Int) != ((N ^ K : Nat) : Int)) = false := by rw [hl']; simp
        rw [e1, cond_false, w64_id (by omega) (by omega), forC0_chk (n := t.length) (fun j => decide (0 ≤ t[j]?.getD 0) && decide (t[j]?.getD 0 < (N : Int))) false rfl (by simp at hl; omega)]
        · rw [all_range t (fun x => decide (0 ≤ x) && decide (x < (N : Int))) 0]
          cases t.all fun x => decide (0 ≤ x) && decide (x < (N : Int)) <;> simp [hl']
        · intro j hj
          simp only [idx_nat, List.getElem?_eq_getElem hj, Option.bind_some, Option.getD_some]
          have : decide (t[j] ≤ n - 1) = decide (t[j] < (N : Int)) := by rw [decide_eq_decide]; omega
          rw [this]
          cases decide (0 ≤ t[j]) && decide (t[j] < (N : Int)) <;> rfl
      · have e1 : ((t.length : Int) != ((N ^ K : Nat) : Int)) = true := by rw [bne, beq_nat]; simp [hl']
        rw [e1]; simp [hl']
    · simp [h0, h3]
  · simp [h0]


theorem szIntS_eq (a : List Int) (left : Int) (ha : a.length ≤ 9223372036854775807) (h0 : 0 ≤ left) (h1 : left ≤ 4611686018427387904) : s_laws_szIntS a left = some (if left < a.length then -1 else left - a.length) := by
  unfold s_laws_szIntS
  rw [w64_id (by omega) (by omega)]
  by_cases h : left < a.length
  · rw [if_pos h]; simp [show left - (a.length : Int) < 0 by omega]
  · rw [if_neg h]; simp [show ¬ left - (a.length : Int) < 0 by omega]

theorem same_loop (a b : List Int) (ha : a.length ≤ 4294967296) : (
  (bif ((a.length : Int) != (b.length : Int)) then some false else (forC (S := Unit) (R := Bool) (fun k12 s10 =>
  (idx a k12).bind fun x17 =>
  (idx b k12).bind fun x19 =>
  (bif (x17 != x19) then some (.rt false) else some (.nx ()))) 0 (a.length : Int) ()).bind fun o14 => after o14 (fun r_ => some r_) (fun s10 =>
  some true))) = some (a == b) := eqIntS_eq a b ha

theorem l1Same_eq (a b : List Int) (ha : a.length ≤ 4294967296) : s_spec_l1Same a b = some (a == b) := by
  unfold s_spec_l1Same; exact same_loop a b ha


def NL (T : List Nat) : List Int := T.map fun x : Nat => (x : Int)

@[simp] theorem NL_len (T : List Nat) : (NL T).length = T.length := by simp [NL]

@[simp] theorem NL_nil : NL [] = [] := rfl

@[simp] theorem NL_cons (x : Nat) (T : List Nat) : NL (x :: T) = (x : Int) :: NL T := rfl

theorem NL_inj {S T : List Nat} (h : NL S = NL T) : S = T := by
  induction S generalizing T with
  | nil => cases T with
    | nil => rfl
    | cons y T => cases h
  | cons x S ih => cases T with
    | nil => cases h
    | cons y T =>
      simp only [NL_cons, List.cons.injEq] at h
      rw [ih h.2, show x = y by omega]

theorem NL_beq (S T : List Nat) : (NL S == NL T) = (S == T) := by
  rw [Bool.eq_iff_iff, beq_iff_eq, beq_iff_eq]; exact ⟨NL_inj, fun h => by rw [h]⟩

def ga (T : List Nat) (k : Nat) : Nat := T.getD k 0

theorem ga_get {T : List Nat} {k : Nat} (h : k < T.length) : ga T k = T[k] := by simp [ga, List.getElem?_eq_getElem h]

theorem ga_mem {T : List Nat} {k : Nat} (h : k < T.length) : ga T k ∈ T := by rw [ga_get h]; exact List.getElem_mem h

theorem idx_NL {T : List Nat} {k : Nat} (h : k < T.length) : idx (NL T) (k : Int) = some ((ga T k : Nat) : Int) := by
  rw [idx_nat, ga_get h]; simp [NL, List.getElem?_eq_getElem h]

theorem NL_of {t : List Int} (h : ∀ x ∈ t, 0 ≤ x) : ∃ T : List Nat, t = NL T := by
  refine ⟨t.map Int.toNat, ?_⟩
  unfold NL
  rw [List.map_map]
  conv => lhs; rw [← List.map_id t]
  refine List.map_congr_left fun x hx => ?_
  have := h x hx
  simp; omega

theorem map_ga (T : List Nat) : (List.range T.length).map (ga T) = T := by
  apply List.ext_getElem
  · simp
  · intro i h1 h2
    simp only [List.getElem_map, List.getElem_range]
    exact ga_get h2

theorem ga_ext {S T : List Nat} (hl : S.length = T.length) (h : ∀ k, k < S.length → ga S k = ga T k) : S = T := by
  rw [← map_ga S, ← map_ga T, ← hl]
  exact List.map_congr_left fun k hk => h k (by simpa using hk)

theorem ga_map {n k : Nat} (f : Nat → Nat) (h : k < n) : ga ((List.range n).map f) k = f k := by
  rw [ga_get (by simpa using h)]; simp

theorem w64_add {a b : Nat} (h : a + b ≤ 9223372036854775807) : w64 ((a : Int) + (b : Int)) = ((a + b : Nat) : Int) := by
  rw [w64_id (by omega) (by omega)]; omega

theorem w64_add1 {a : Nat} (h : a + 1 ≤ 9223372036854775807) : w64 ((a : Int) + 1) = ((a + 1 : Nat) : Int) := by
  rw [w64_id (by omega) (by omega)]; omega

theorem w64_mul {a b : Nat} (h : a * b ≤ 9223372036854775807) : w64 ((a : Int) * (b : Int)) = ((a * b : Nat) : Int) := by
  rw [← Int.natCast_mul, w64_nat h]

theorem w64_div {a b : Nat} (h : a ≤ 9223372036854775807) : w64 (Int.tdiv (a : Int) (b : Int)) = ((a / b : Nat) : Int) := by
  rw [tdiv_nat, w64_nat (Nat.le_trans (Nat.div_le_self _ _) h)]

theorem nz_nat {b : Nat} (h : 0 < b) : nz (b : Int) = some () := nz_ok (by omega)

theorem dec_lt (a b : Nat) : decide ((a : Int) < (b : Int)) = decide (a < b) := by rw [decide_eq_decide]; omega

theorem lin2 {x y N M : Nat} (hx : x < N) (hy : y < M) : x * M + y < N * M := by
  calc x * M + y < x * M + M := by omega
    _ = (x + 1) * M := by rw [Nat.add_mul, Nat.one_mul]
    _ ≤ N * M := Nat.mul_le_mul_right M hx

theorem lin2_div {x y M : Nat} (hy : y < M) : (x * M + y) / M = x := by
  rw [Nat.mul_comm, Nat.mul_add_div (by omega), Nat.div_eq_of_lt hy]; omega

theorem lin2_mod {x y M : Nat} (hy : y < M) : (x * M + y) % M = y := by
  rw [Nat.mul_comm, Nat.mul_add_mod, Nat.mod_eq_of_lt hy]

def dig (N : Nat) : Nat → Nat → List Nat
  | 0, _ => []
  | t + 1, i => (i / N ^ t % N) :: dig N t i

@[simp] theorem dig_len (N : Nat) : ∀ (t i : Nat), (dig N t i).length = t
  | 0, _ => rfl
  | t + 1, i => by simp [dig, dig_len N t i]

theorem digs_NL (N : Nat) : ∀ (t i : Nat), digs (N : Int) t (i : Int) = NL (dig N t i)
  | 0, _ => rfl
  | t + 1, i => by
    simp only [digs, dig, NL_cons, digs_NL N t i]
    congr 1

theorem dig_lt {N : Nat} (h : 0 < N) : ∀ (t i : Nat), ∀ x ∈ dig N t i, x < N
  | 0, _, _, h => by cases h
  | t + 1, i, x, hx => by
    rcases List.mem_cons.1 hx with rfl | hx
    · exact Nat.mod_lt _ h
    · exact dig_lt h t i x hx

theorem l2ArgsN {i K N : Nat} (hK : K ≤ 4294967296) (hN : 1 ≤ N) (hi : i ≤ 9223372036854775807) : s_spec_l2Args (N : Int) (K : Int) (i : Int) = some (NL (dig N K i)) := by
  rw [l2Args_eq (K := K) rfl hK (by omega) (by omega) (by omega), digs_NL]


/-- An operation on N, of the arity K. -/
structure OpN (N : Nat) (f : Int × List Int) (K : Nat) (T : List Nat) : Prop where
  eq : f = ((K : Int), NL T)
  k3 : K ≤ 3
  len : T.length = N ^ K
  lt : ∀ x ∈ T, x < N

theorem opOk_elim {N : Nat} {f : Int × List Int} (h : opOk N f = true) : ∃ K T, OpN N f K T := by
  obtain ⟨a, t⟩ := f
  simp only [opOk, Bool.and_eq_true, decide_eq_true_eq, List.all_eq_true] at h
  obtain ⟨h0, h3, hl, hx⟩ := h
  obtain ⟨T, rfl⟩ := NL_of (fun x hx' => (hx x hx').1)
  obtain ⟨K, rfl⟩ : ∃ K : Nat, a = (K : Int) := ⟨a.toNat, by omega⟩
  refine ⟨K, T, rfl, by omega, by simpa using hl, fun x hx' => ?_⟩
  have := (hx (x : Int) (List.mem_map.2 ⟨x, hx', rfl⟩)).2
  omega

theorem OpN.ok {N : Nat} {f : Int × List Int} {K : Nat} {T : List Nat} (h : OpN N f K T) : opOk N f = true := by
  obtain ⟨rfl, h3, hl, hx⟩ := h
  simp only [opOk, Bool.and_eq_true, decide_eq_true_eq, List.all_eq_true]
  refine ⟨by omega, by omega, by simpa using hl, fun x hx' => ?_⟩
  obtain ⟨y, hy, rfl⟩ := List.mem_map.1 hx'
  have := hx y hy
  simp; omega

theorem pow2 (N : Nat) : N ^ 2 = N * N := by rw [Nat.pow_succ, Nat.pow_succ, Nat.pow_zero, Nat.one_mul]


def ix (N : Nat) (s : Nat) (A : List Nat) : Nat := A.foldl (fun s x => s * N + x) s

theorem ix_lt {N : Nat} : ∀ (A : List Nat) (s : Nat), (∀ x ∈ A, x < N) → ix N s A < (s + 1) * N ^ A.length
  | [], s, _ => by simp [ix]
  | x :: A, s, h => by
    have h1 := ix_lt A (s * N + x) (fun y hy => h y (by simp [hy]))
    have hx := h x (by simp)
    have : (s * N + x + 1) * N ^ A.length ≤ (s + 1) * N * N ^ A.length := by
      apply Nat.mul_le_mul_right; rw [Nat.add_mul, Nat.one_mul]; omega
    show ix N (s * N + x) A < _
    rw [List.length_cons, Nat.pow_succ, Nat.mul_comm (N ^ A.length), ← Nat.mul_assoc]
    omega

theorem ix0_lt {N K : Nat} {A : List Nat} (h : ∀ x ∈ A, x < N) (hl : A.length = K) : ix N 0 A < N ^ K := by
  have := ix_lt A 0 h; rw [hl] at this; simpa using this

theorem pow_le_512 {N K : Nat} (h8 : N ≤ 8) (hK : K ≤ 3) : N ^ K ≤ 512 := pow_small h8 hK

theorem NL_toNat (T : List Nat) : (NL T).map Int.toNat = T := by
  unfold NL; rw [List.map_map]; exact (List.map_congr_left (fun x _ => by simp)).trans (List.map_id T)


def NLL (L : List (List Nat)) : List (List Int) := L.map NL

@[simp] theorem NLL_len (L : List (List Nat)) : (NLL L).length = L.length := by simp [NLL]

@[simp] theorem NLL_nil : NLL [] = [] := rfl

@[simp] theorem NLL_cons (x : List Nat) (L : List (List Nat)) : NLL (x :: L) = NL x :: NLL L := rfl

theorem l1Same_NL {a b : List Nat} (h : a.length ≤ 4294967296) : s_spec_l1Same (NL a) (NL b) = some (a == b) := by
  rw [l1Same_eq _ _ (by simpa using h), NL_beq]

/-- P is a partition of N: each element is sent to the least one of its block. -/
structure Part (N : Nat) (P : List Nat) : Prop where
  len : P.length = N
  le : ∀ x, x < N → ga P x ≤ x
  idem : ∀ x, x < N → ga P (ga P x) = ga P x

theorem Part.lt {N : Nat} {P : List Nat} (h : Part N P) {x : Nat} (hx : x < N) : ga P x < N := by have := h.le x hx; omega

def partOk (p : List Int) : Bool := (List.range p.length).all fun x : Nat => decide (0 ≤ gi p (x : Int)) && (decide (gi p (x : Int) ≤ (x : Int)) && (gi p (gi p (x : Int)) == gi p (x : Int)))

theorem partOk_elim {p : List Int} (h : partOk p = true) : ∃ P, p = NL P ∧ Part p.length P := by
  simp only [partOk, List.all_eq_true, List.mem_range, Bool.and_eq_true, decide_eq_true_eq, beq_iff_eq] at h
  obtain ⟨P, hP⟩ := NL_of (t := p) (fun x hx => by
    obtain ⟨i, hi, rfl⟩ := List.mem_iff_getElem.1 hx
    have := (h i hi).1
    rwa [gi_getElem hi] at this)
  subst hP
  simp only [NL_len] at h ⊢
  have e : ∀ x, x < P.length → gi (NL P) ((x : Nat) : Int) = ((ga P x : Nat) : Int) := fun x hx => by
    have := idx_NL hx
    rw [idx_gi (by omega) (by simpa using hx)] at this
    exact Option.some.inj this
  refine ⟨P, rfl, rfl, fun x hx => ?_, fun x hx => ?_⟩
  · have := (h x hx).2.1
    rw [e x hx] at this; omega
  · have h1 := (h x hx).2.1
    have h2 := (h x hx).2.2
    rw [e x hx] at h1 h2
    rw [e (ga P x) (by omega)] at h2
    omega

theorem isPartition_eq (n : Int) (p : List Int) (hl : p.length ≤ 4294967296) : s_impl_isPartition n p = some (((p.length : Int) == n) && partOk p) := by
  unfold s_impl_isPartition
  by_cases h : (p.length : Int) = n
  · rw [h]
    simp only [bne_self_eq_false, cond_false, beq_self_eq_true, Bool.true_and]
    rw [forC0_chk (n := p.length) (fun x : Nat => decide (0 ≤ gi p (x : Int)) && (decide (gi p (x : Int) ≤ (x : Int)) && (gi p (gi p (x : Int)) == gi p (x : Int)))) false h.symm (by omega)]
    · show _ = some (partOk p)
      unfold partOk
      cases (List.range p.length).all _ <;> rfl
    · intro j hj
      rw [idx_gi (by omega) (by omega), Option.bind_some]
      by_cases h0 : gi p (j : Int) < 0
      · simp [h0, show ¬ 0 ≤ gi p (j : Int) by omega]
      · by_cases h1 : (j : Int) < gi p (j : Int)
        · simp [h0, h1, show ¬ gi p (j : Int) ≤ (j : Int) by omega]
        · simp only [h0, decide_false, cond_false, h1, show 0 ≤ gi p (j : Int) by omega, show gi p (j : Int) ≤ (j : Int) by omega, decide_true, Bool.true_and]
          rw [idx_gi (by omega) (by omega), Option.bind_some, bne]
          cases gi p (gi p (j : Int)) == gi p (j : Int) <;> rfl
  · have e1 : ((p.length : Int) != n) = true := by simp [h]
    have e2 : ((p.length : Int) == n) = false := by simp [h]
    rw [e1, e2]; rfl

theorem l6Partition_eq (n : Int) (p : List Int) (hl : p.length ≤ 4294967296) : s_spec_l6Partition n p = some (((p.length : Int) == n) && partOk p) := by
  unfold s_spec_l6Partition
  by_cases h : (p.length : Int) = n
  · rw [h]
    simp only [bne_self_eq_false, cond_false, beq_self_eq_true, Bool.true_and]
    rw [forC0_chk (n := p.length) (fun x : Nat => decide (0 ≤ gi p (x : Int)) && (decide (gi p (x : Int) ≤ (x : Int)) && (gi p (gi p (x : Int)) == gi p (x : Int)))) false h.symm (by omega)]
    · show _ = some (partOk p)
      unfold partOk
      cases (List.range p.length).all _ <;> rfl
    · intro j hj
      rw [idx_gi (by omega) (by omega)]
      simp only [Option.bind_some, l1In_eq]
      by_cases h0 : gi p (j : Int) < 0
      · simp [show ¬ 0 ≤ gi p (j : Int) by omega]
      · by_cases h1 : (j : Int) < gi p (j : Int)
        · simp [show ¬ gi p (j : Int) ≤ (j : Int) by omega]
        · simp only [show 0 ≤ gi p (j : Int) by omega, show gi p (j : Int) ≤ (j : Int) by omega, decide_true, Bool.true_and, Bool.not_true, cond_false]
          rw [idx_gi (by omega) (by omega), Option.bind_some, bne]
          cases gi p (gi p (j : Int)) == gi p (j : Int) <;> rfl
  · have e1 : ((p.length : Int) != n) = true := by simp [h]
    have e2 : ((p.length : Int) == n) = false := by simp [h]
    rw [e1, e2]; rfl

theorem sq_le {N : Nat} (h : N ≤ 8) : N * N ≤ 64 := by have := Nat.mul_le_mul h h; omega

theorem set_map_range {N j : Nat} {α : Type} (f g : Nat → α) (h : ∀ z, z < N → z ≠ j → f z = g z) : ((List.range N).map f).set j (g j) = (List.range N).map g := by
  apply List.ext_getElem
  · simp
  · intro i h1 h2
    simp only [List.length_map, List.length_range] at h2
    rw [List.getElem_set]
    by_cases e : j = i
    · subst e; simp
    · rw [if_neg e]; simp only [List.getElem_map, List.getElem_range]; exact h i h2 (fun e' => e e'.symm)

theorem ix_append (N s : Nat) (A B : List Nat) : ix N s (A ++ B) = ix N (ix N s A) B := by simp [ix]


theorem eqS_refl {α : Type} (eq : α → α → Option Bool) (a : List α) (ha : a.length ≤ 9223372036854775807) (h : ∀ x ∈ a, eq x x = some true) :
    (bif ((a.length : Int) != (a.length : Int)) then some false else (forC (S := Unit) (R := Bool) (fun k s => (idx a k).bind fun x => (idx a k).bind fun y => (eq x y).bind fun r => (bif (!r) then some (.rt false) else some (.nx ()))) 0 (a.length : Int) ()).bind fun o => after o (fun r_ => some r_) (fun s => some true)) = some true := by
  rw [bne_self_eq_false, cond_false, forC0_chk (n := a.length) (fun _ => true) false rfl ha]
  · rw [show ((List.range a.length).all fun _ => true) = true by simp]; rfl
  · intro j hj
    simp only [idx_nat, List.getElem?_eq_getElem hj, Option.bind_some, h _ (List.getElem_mem hj)]
    rfl

theorem toS_loop {α : Type} (f : α → Option α) (z : α) (a : List α) (ha : a.length ≤ 4294967296) (h : ∀ x ∈ a, f x = some x) :
    ((mks (a.length : Int) z).bind fun y3 => (forC (S := List α) (R := List α) (fun k s => (idx a k).bind fun x => (f x).bind fun r => (idx s k).bind fun _ => some (.nx (List.set s (Int.toNat k) r))) 0 (a.length : Int) y3).bind fun o => after o (fun r_ => some r_) (fun s => some s)) = some a := by
  rw [mks_ok rfl ha, Option.bind_some, forC0_set (fun j => a[j]?.getD z) (z := z) (n := a.length) rfl ha rfl]
  · rw [Option.bind_some, after_br', map_range_getElem]
  · intro j s hj hs
    simp only [idx_nat, List.getElem?_eq_getElem hj, List.getElem?_eq_getElem (show j < s.length by omega), Option.bind_some, h _ (List.getElem_mem hj), Option.getD_some, Int.toNat_natCast]

/-- Sizes: what is counted is bounded. -/
def SzOk {α : Type} (sz : α → Int → Option Int) (Bd : α → Prop) (a : α) : Prop := ∀ l : Int, 0 ≤ l → l ≤ 1048576 → ∃ v, sz a l = some v ∧ (v < 0 ∨ (Bd a ∧ 0 ≤ v ∧ v ≤ l))

theorem szS_loop {α : Type} (sz : α → Int → Option Int) (Bd : α → Prop) (a : List α) (ha : a.length ≤ 9223372036854775807) (h : ∀ x ∈ a, SzOk sz Bd x) (l : Int) (h0 : 0 ≤ l) (h1 : l ≤ 1048576) :
    ∃ v, (bif (decide ((w64 (l - (a.length : Int))) < 0)) then some (-1) else (forC (S := Int) (R := Int) (fun k s => (idx a k).bind fun x => (sz x s).bind fun r => (bif (decide (r < 0)) then some (.rt (-1)) else some (.nx r))) 0 (a.length : Int) (w64 (l - (a.length : Int)))).bind fun o => after o (fun r_ => some r_) (fun s => some s)) = some v ∧
      (v < 0 ∨ ((a.length ≤ 1048576 ∧ ∀ x ∈ a, Bd x) ∧ 0 ≤ v ∧ v ≤ l)) := by
  rw [w64_id (by omega) (by omega)]
  by_cases hl : l - (a.length : Int) < 0
  · rw [show decide (l - (a.length : Int) < 0) = true by simpa using hl]
    exact ⟨-1, rfl, .inl (by omega)⟩
  · rw [show decide (l - (a.length : Int) < 0) = false by simpa using hl, cond_false]
    rcases forC0_hoare (step := fun k s => (idx a k).bind fun x => (sz x s).bind fun r => (bif (decide (r < 0)) then some (Ctl.rt (S := Int) (-1 : Int)) else some (.nx r))) (fun j s => 0 ≤ s ∧ s ≤ l ∧ ∀ i, i < j → ∀ x, a[i]? = some x → Bd x) (fun _ => False) (fun r => r = -1) (n := a.length) rfl (by omega) (s := l - (a.length : Int)) ⟨by omega, by omega, fun i hi => by omega⟩ (by
      rintro j s hj ⟨hs0, hs1, hb⟩
      obtain ⟨v, hv, hv'⟩ := h a[j] (List.getElem_mem hj) s hs0 (by omega)
      simp only [idx_nat, List.getElem?_eq_getElem hj, Option.bind_some, hv]
      rcases hv' with hv' | ⟨hB, hv0, hv1⟩
      · right; right
        rw [show decide (v < 0) = true by simpa using hv']
        exact ⟨_, rfl, rfl⟩
      · left
        rw [show decide (v < 0) = false by simp; omega]
        refine ⟨_, rfl, hv0, by omega, fun i hi x hx => ?_⟩
        by_cases e : i = j
        · subst e
          rw [List.getElem?_eq_getElem hj] at hx
          cases hx; exact hB
        · exact hb i (by omega) x hx) with ⟨s', e, ⟨a1, a2, a3⟩ | hF⟩ | ⟨r, e, rfl⟩
    · rw [e]
      refine ⟨s', rfl, .inr ⟨⟨by omega, fun x hx => ?_⟩, a1, a2⟩⟩
      obtain ⟨i, hi, rfl⟩ := List.mem_iff_getElem.1 hx
      exact a3 i hi _ (List.getElem?_eq_getElem hi)
    · exact hF.elim
    · rw [e]
      exact ⟨-1, rfl, .inl (by omega)⟩

/-- Marks are found again. -/
def MkOk {α β : Type} (mk : α → Int → Option (Int × β)) (hd : β → Int → Option Int) (C : Nat) (a : α) : Prop :=
  ∀ k : Int, 0 ≤ k → k + C ≤ 4611686018427387904 → ∃ k' a', mk a k = some (k', a') ∧ hd a' k = some k' ∧ k ≤ k' ∧ k' ≤ k + C

def B1 (l : List Int) : Prop := l.length ≤ 1048576

def B2 (l : List (List Int)) : Prop := l.length ≤ 1048576 ∧ ∀ x ∈ l, B1 x

theorem szIntS_ok (a : List Int) (ha : a.length ≤ maxLen) : SzOk s_laws_szIntS B1 a := by
  intro l h0 h1
  unfold maxLen at ha
  rw [szIntS_eq a l (by omega) h0 (by omega)]
  by_cases h : l < a.length
  · rw [if_pos h]; exact ⟨-1, rfl, .inl (by omega)⟩
  · rw [if_neg h]; exact ⟨_, rfl, .inr ⟨by unfold B1; omega, by omega, by omega⟩⟩

theorem eqIntS_refl (a : List Int) (ha : B1 a) : s_laws_eqIntS a a = some true := by
  unfold B1 at ha; rw [eqIntS_eq a a (by omega)]; simp

theorem toIntS_ok (a : List Int) (ha : B1 a) : s_laws_toIntS a = some a := by
  unfold B1 at ha; exact toIntS_eq a (by omega)


theorem szIntSS_ok (a : List (List Int)) (ha : a.length ≤ maxLen) (h : ∀ x ∈ a, x.length ≤ maxLen) : SzOk s_laws_szIntSS B2 a := by
  intro l h0 h1
  unfold s_laws_szIntSS
  exact szS_loop s_laws_szIntS B1 a (by unfold maxLen at ha; omega) (fun x hx => szIntS_ok x (h x hx)) l h0 h1

theorem eqIntSS_refl (a : List (List Int)) (ha : B2 a) : s_laws_eqIntSS a a = some true := by
  unfold s_laws_eqIntSS
  exact eqS_refl s_laws_eqIntS a (by have := ha.1; omega) (fun x hx => eqIntS_refl x (ha.2 x hx))

theorem toIntSS_ok (a : List (List Int)) (ha : B2 a) : s_laws_toIntSS a = some a := by
  unfold s_laws_toIntSS
  exact toS_loop s_laws_toIntS [] a (by have := ha.1; omega) (fun x hx => toIntS_ok x (ha.2 x hx))

theorem MkOk.le {α β : Type} {mk : α → Int → Option (Int × β)} {hd : β → Int → Option Int} {C C' : Nat} {a : α} (h : MkOk mk hd C a) (hC : C ≤ C') : MkOk mk hd C' a := fun k h0 h1 => by
  obtain ⟨k', a', g1, g2, g3, g4⟩ := h k h0 (by omega)
  exact ⟨k', a', g1, g2, g3, by omega⟩

def BO (f : Int × List Int) : Prop := B1 f.2

def BA (a : Int × List (Int × List Int)) : Prop := a.2.length ≤ 1048576 ∧ ∀ f ∈ a.2, BO f

theorem szOp_ok (a : Int × List Int) (ha : a.2.length ≤ maxLen) : SzOk s_laws_szOp BO a := by
  intro l h0 h1
  obtain ⟨v, hv, h2⟩ := szIntS_ok a.2 ha l h0 h1
  unfold s_laws_szOp
  rw [hv, Option.bind_some]
  by_cases hn : v < 0
  · rw [show decide (v < 0) = true by simpa using hn]; exact ⟨-1, rfl, .inl (by omega)⟩
  · rw [show decide (v < 0) = false by simpa using hn]; exact ⟨v, rfl, h2⟩

theorem eqOp_refl (a : Int × List Int) (ha : BO a) : s_laws_eqOp a a = some true := by
  unfold s_laws_eqOp
  rw [bne_self_eq_false, cond_false, eqIntS_refl a.2 ha]; rfl

theorem toOp_ok (a : Int × List Int) (ha : BO a) : s_laws_toOp a = some a := by
  unfold s_laws_toOp; rw [toIntS_ok a.2 ha]; rfl

theorem szAlgebra_ok (a : Int × List (Int × List Int)) (ha : a.2.length ≤ maxLen) (h : ∀ f ∈ a.2, f.2.length ≤ maxLen) : SzOk s_laws_szAlgebra BA a := by
  intro l h0 h1
  obtain ⟨v, hv, h2⟩ := szS_loop s_laws_szOp BO a.2 (by unfold maxLen at ha; omega) (fun x hx => szOp_ok x (h x hx)) l h0 h1
  have hv : s_laws_szOpS a.2 l = some v := hv
  unfold s_laws_szAlgebra
  rw [hv, Option.bind_some]
  by_cases hn : v < 0
  · rw [show decide (v < 0) = true by simpa using hn]; exact ⟨-1, rfl, .inl (by omega)⟩
  · rw [show decide (v < 0) = false by simpa using hn]; exact ⟨v, rfl, h2⟩

theorem eqAlgebra_refl (a : Int × List (Int × List Int)) (ha : BA a) : s_laws_eqAlgebra a a = some true := by
  have e : s_laws_eqOpS a.2 a.2 = some true := eqS_refl s_laws_eqOp a.2 (by have := ha.1; omega) (fun x hx => eqOp_refl x (ha.2 x hx))
  unfold s_laws_eqAlgebra
  rw [bne_self_eq_false, cond_false, e]; rfl

theorem toAlgebra_ok (a : Int × List (Int × List Int)) (ha : BA a) : s_laws_toAlgebra a = some a := by
  have e : s_laws_toOpS a.2 = some a.2 := toS_loop s_laws_toOp (0, []) a.2 (by have := ha.1; omega) (fun x hx => toOp_ok x (ha.2 x hx))
  unfold s_laws_toAlgebra; rw [e]; rfl


/-- A test, and what it says. -/
def Says (o : Option Bool) (P : Prop) : Prop := ∃ b, o = some b ∧ (b = true ↔ P)

theorem Says.cases {o : Option Bool} {P : Prop} (h : Says o P) : (o = some true ∧ P) ∨ (o = some false ∧ ¬ P) := by
  obtain ⟨b, rfl, hb⟩ := h
  cases b with
  | true => exact .inl ⟨rfl, hb.1 rfl⟩
  | false => exact .inr ⟨rfl, fun hp => by cases hb.2 hp⟩

theorem Says.yes {o : Option Bool} {P : Prop} (h : o = some true) (hp : P) : Says o P := ⟨true, h, by simp [hp]⟩

theorem Says.no {o : Option Bool} {P : Prop} (h : o = some false) (hp : ¬ P) : Says o P := ⟨false, h, by simp [hp]⟩

theorem Says.iff {o : Option Bool} {P Q : Prop} (h : Says o P) (hq : P ↔ Q) : Says o Q := by
  obtain ⟨b, rfl, hb⟩ := h; exact ⟨b, rfl, hb.trans hq⟩

theorem Says.of {b : Bool} {P : Prop} (h : b = true ↔ P) : Says (some b) P := ⟨b, rfl, h⟩

theorem Says.eq {o o' : Option Bool} {P : Prop} (h : Says o P) (h' : Says o' P) : o = o' := by
  rcases h.cases with ⟨rfl, hp⟩ | ⟨rfl, hp⟩ <;> rcases h'.cases with ⟨rfl, hp'⟩ | ⟨rfl, hp'⟩ <;> first | rfl | exact absurd hp hp' | exact absurd hp' hp


theorem l2Elements_eq {n : Int} (hn : -9223372036854775807 ≤ n) (hn' : n ≤ 9223372036854775807) (l : List Int) (hl : l.length ≤ 9223372036854775807) : s_spec_l2Elements n l = some (l.all fun x => decide (0 ≤ x) && decide (x < n)) := by
  unfold s_spec_l2Elements
  rw [w64_id (by omega) (by omega), forC0_chk (n := l.length) (fun j => decide (0 ≤ l[j]?.getD 0) && decide (l[j]?.getD 0 < n)) false rfl hl]
  · rw [all_range l (fun x => decide (0 ≤ x) && decide (x < n)) 0]
    cases l.all fun x => decide (0 ≤ x) && decide (x < n) <;> rfl
  · intro j hj
    simp only [idx_nat, List.getElem?_eq_getElem hj, Option.bind_some, Option.getD_some, l1In_eq]
    have : decide (l[j] ≤ n - 1) = decide (l[j] < n) := by rw [decide_eq_decide]; omega
    rw [this]
    cases decide (0 ≤ l[j]) && decide (l[j] < n) <;> rfl

/-- A test of all elements of a row. -/
theorem range_says {α : Type} (l : List α) (P : α → Prop) (f : α → Option Bool) (h : ∀ x ∈ l, Says (f x) (P x)) : ∀ i : Int, Says ((forR (S := Unit) (R := Bool) (fun _ x s => (f x).bind fun r => (bif (!r) then some (.rt false) else some (.nx ()))) i l ()).bind fun o => after o (fun r_ => some r_) (fun _ => some true)) (∀ x ∈ l, P x) := by
  induction l with
  | nil => intro i; exact .yes rfl (by simp)
  | cons x l ih =>
    intro i
    have := ih (fun y hy => h y (by simp [hy])) (i + 1)
    unfold forR
    rcases (h x (by simp)).cases with ⟨e, hp⟩ | ⟨e, hp⟩
    · rw [e]
      refine Says.iff this ?_
      simp [hp]
    · rw [e]
      exact .no rfl (fun H => hp (H x (by simp)))

theorem count_says {α : Type} (l : List α) (P : α → Prop) (f : α → Option Bool) (hl : l.length ≤ 9223372036854775807) (h : ∀ x ∈ l, Says (f x) (P x)) : Says ((forC (S := Unit) (R := Bool) (fun k s => (idx l k).bind fun x => (f x).bind fun r => (bif (!r) then some (.rt false) else some (.nx ()))) 0 (l.length : Int) ()).bind fun o => after o (fun r_ => some r_) (fun _ => some true)) (∀ x ∈ l, P x) := by
  rcases forC0_hoare (R := Bool) (step := fun k (s : Unit) => (idx l k).bind fun x => (f x).bind fun r => (bif (!r) then some (.rt false) else some (.nx ()))) (fun j _ => ∀ i, i < j → ∀ x, l[i]? = some x → P x) (fun _ => False) (fun b => b = false ∧ ¬ ∀ x ∈ l, P x) (n := l.length) rfl hl (s := ()) (fun i hi => by omega) (by
    rintro j ⟨⟩ hj hI
    rw [idx_nat, List.getElem?_eq_getElem hj, Option.bind_some]
    rcases (h _ (List.getElem_mem hj)).cases with ⟨e, hp⟩ | ⟨e, hp⟩
    · left
      refine ⟨(), by rw [e]; rfl, fun i hi x hx => ?_⟩
      by_cases e' : i = j
      · subst e'
        rw [List.getElem?_eq_getElem hj] at hx
        cases hx; exact hp
      · exact hI i (by omega) x hx
    · right; right
      exact ⟨false, by rw [e]; rfl, rfl, fun H => hp (H _ (List.getElem_mem hj))⟩) with ⟨s', e, h' | h'⟩ | ⟨b, e, rfl, h'⟩
  · refine .yes (by rw [e]; rfl) (fun x hx => ?_)
    obtain ⟨i, hi, rfl⟩ := List.mem_iff_getElem.1 hx
    exact h' i hi _ (List.getElem?_eq_getElem hi)
  · exact h'.elim
  · exact .no (by rw [e]; rfl) h'


theorem clone_eq {l : List Int} (h : l.length ≤ 4294967296) : s_impl_clone l = some l := by
  unfold s_impl_clone; rw [app_ok (by simpa using h)]; rfl

theorem l1Own_eq {l : List Int} (h : l.length ≤ 4294967296) : s_spec_l1Own l = some l := by
  unfold s_spec_l1Own; rw [app_ok (by simpa using h)]; rfl

/-- An algebra with N elements. -/
structure AlgN (a : Int × List (Int × List Int)) (N : Nat) : Prop where
  eN : a.1 = (N : Int)
  n1 : 1 ≤ N
  n8 : N ≤ 8
  l4 : a.2.length ≤ 4
  ops : ∀ f ∈ a.2, ∃ K T, OpN N f K T

def IsAlg (a : Int × List (Int × List Int)) : Prop := ∃ N, AlgN a N

theorem isAlg_iff {a : Int × List (Int × List Int)} (h : 1 ≤ a.1 ∧ a.1 ≤ 8 ∧ a.2.length ≤ 4) : IsAlg a ↔ ∀ f ∈ a.2, opOk a.1.toNat f = true := by
  constructor
  · rintro ⟨N, hN⟩ f hf
    obtain ⟨K, T, ho⟩ := hN.ops f hf
    have := hN.eN
    rw [show a.1.toNat = N by omega]; exact ho.ok
  · intro H
    exact ⟨a.1.toNat, by omega, by omega, by omega, h.2.2, fun f hf => opOk_elim (H f hf)⟩

theorem IsAlgebra_says (a : Int × List (Int × List Int)) : Says (s_impl_IsAlgebra a) (IsAlg a) := by
  unfold s_impl_IsAlgebra
  by_cases h : 1 ≤ a.1 ∧ a.1 ≤ 8 ∧ a.2.length ≤ 4
  · rw [show (((decide (a.1 < 1)) || (decide (8 < a.1))) || (decide (4 < (a.2.length : Int)))) = false by simp; omega, cond_false]
    refine Says.iff (range_says a.2 (fun f => opOk a.1.toNat f = true) (fun x21 => s_impl_isOp (x21.1, x21.2) a.1) (fun f hf => ?_) 0) (isAlg_iff h).symm
    have : s_impl_isOp (f.1, f.2) a.1 = some (opOk a.1.toNat f) := isOp_eq (N := a.1.toNat) (by omega) (by omega) (by omega) f
    exact ⟨_, this, Iff.rfl⟩
  · refine .no ?_ (fun H => ?_)
    · rw [show (((decide (a.1 < 1)) || (decide (8 < a.1))) || (decide (4 < (a.2.length : Int)))) = true by simp; omega]; rfl
    · obtain ⟨N, hN⟩ := H
      have := hN.eN
      have := hN.n1
      have := hN.n8
      have := hN.l4
      omega

theorem l2Good_says (a : Int × List (Int × List Int)) (hb : BA a) : Says (s_spec_l2Good a) (IsAlg a) := by
  unfold s_spec_l2Good
  rw [l1In_eq, Option.bind_some]
  by_cases h : 1 ≤ a.1 ∧ a.1 ≤ 8 ∧ a.2.length ≤ 4
  · rw [show (decide (1 ≤ a.1) && decide (a.1 ≤ 8)) = true by simp; omega, Bool.not_true, cond_false, Option.bind_some, show decide (4 < (a.2.length : Int)) = false by simp; omega, cond_false]
    refine Says.iff (count_says a.2 (fun f => opOk a.1.toNat f = true) (fun x25 => s_spec_l2Op a.1 (x25.1, x25.2)) (by omega) (fun f hf => ?_)) (isAlg_iff h).symm
    have hf' : f.2.length ≤ 1048576 := hb.2 f hf
    have : s_spec_l2Op a.1 (f.1, f.2) = some (opOk a.1.toNat f) := l2Op_eq (N := a.1.toNat) (by omega) (by omega) (by omega) f (by omega)
    exact ⟨_, this, Iff.rfl⟩
  · refine .no ?_ (fun H => ?_)
    · by_cases h1 : 1 ≤ a.1 ∧ a.1 ≤ 8
      · rw [show (decide (1 ≤ a.1) && decide (a.1 ≤ 8)) = true by simp; omega, Bool.not_true, cond_false, Option.bind_some, show decide (4 < (a.2.length : Int)) = true by simp; omega]; rfl
      · rw [show (decide (1 ≤ a.1) && decide (a.1 ≤ 8)) = false by rw [Bool.eq_false_iff]; simp; omega]; rfl
    · obtain ⟨N, hN⟩ := H
      have := hN.eN
      have := hN.n1
      have := hN.n8
      have := hN.l4
      omega

theorem alg_cases (a : Int × List (Int × List Int)) (hb : BA a) : (∃ N, AlgN a N ∧ s_spec_l2Good (a.1, a.2) = some true ∧ s_impl_IsAlgebra (a.1, a.2) = some true) ∨
    (¬ IsAlg a ∧ s_spec_l2Good (a.1, a.2) = some false ∧ s_impl_IsAlgebra (a.1, a.2) = some false) := by
  rcases (l2Good_says a hb).cases with ⟨e, h⟩ | ⟨e, h⟩
  · rcases (IsAlgebra_says a).cases with ⟨e', _⟩ | ⟨_, h'⟩
    · obtain ⟨N, hn⟩ := h; exact .inl ⟨N, hn, e, e'⟩
    · exact absurd h h'
  · rcases (IsAlgebra_says a).cases with ⟨_, h'⟩ | ⟨e', _⟩
    · exact absurd h' h
    · exact .inr ⟨h, e, e'⟩

theorem OkAlg.sz {a : Int × List (Int × List Int)} (h : OkP OkI (OkL (OkP OkI (OkL OkI))) a) : SzOk s_laws_szAlgebra BA a := szAlgebra_ok a h.2.1 (fun f hf => (h.2.2 f hf).2.1)

/-- P is finer than Q. -/
def Fin (N : Nat) (P Q : List Nat) : Prop := ∀ x y, x < N → y < N → ga P x = ga P y → ga Q x = ga Q y

theorem Fin.refl (N : Nat) (P : List Nat) : Fin N P P := fun _ _ _ _ h => h

theorem Fin.trans {N : Nat} {P Q R : List Nat} (h : Fin N P Q) (h' : Fin N Q R) : Fin N P R := fun x y hx hy e => h' x y hx hy (h x y hx hy e)

theorem Part.rep {N : Nat} {P : List Nat} (h : Part N P) {x y : Nat} (hx : x < N) (hy : y < N) (e : ga P x = ga P y) : ga P x ≤ y := by rw [e]; exact h.le y hy

/-- A partition is told by its relation. -/
theorem Part.ext {N : Nat} {P Q : List Nat} (hP : Part N P) (hQ : Part N Q) (h : Fin N P Q) (h' : Fin N Q P) : P = Q := by
  refine ga_ext (hP.len.trans hQ.len.symm) fun x hx => ?_
  rw [hP.len] at hx
  have a := hP.lt hx
  have b := hQ.lt hx
  have h1 := h x (ga P x) hx a (hP.idem x hx).symm
  have h2 := h' x (ga Q x) hx b (hQ.idem x hx).symm
  have h3 := hQ.rep hx a h1
  have h4 := hP.rep hx b h2
  omega

theorem fin_of_rep {N : Nat} {P Q : List Nat} (hP : Part N P) (h : ∀ x, x < N → ga Q (ga P x) = ga Q x) : Fin N P Q := fun x y hx hy e => by
  rw [← h x hx, ← h y hy, e]

def uni2 (P : List Nat) (x y : Nat) : List Nat := P.map fun z => if z = max (ga P x) (ga P y) then min (ga P x) (ga P y) else z

theorem uni2_len (P : List Nat) (x y : Nat) : (uni2 P x y).length = P.length := by simp [uni2]

theorem ga_map' {T : List Nat} {k : Nat} (f : Nat → Nat) (h : k < T.length) : ga (T.map f) k = f (ga T k) := by
  rw [ga_get (by simpa using h), ga_get h, List.getElem_map]

theorem uni2_at {N : Nat} {P : List Nat} (hl : P.length = N) (x y z : Nat) (hz : z < N) : ga (uni2 P x y) z = if ga P z = max (ga P x) (ga P y) then min (ga P x) (ga P y) else ga P z := by
  unfold uni2; rw [ga_map' _ (by omega)]

theorem uni2_part {N : Nat} {P : List Nat} (hP : Part N P) {x y : Nat} (hx : x < N) (hy : y < N) : Part N (uni2 P x y) := by
  have ax := hP.lt hx
  have ay := hP.lt hy
  have ix := hP.idem x hx
  have iy := hP.idem y hy
  have hmin : ga P (min (ga P x) (ga P y)) = min (ga P x) (ga P y) := by
    rcases Nat.le_total (ga P x) (ga P y) with h | h
    · rw [Nat.min_eq_left h]; exact ix
    · rw [Nat.min_eq_right h]; exact iy
  refine ⟨by rw [uni2_len, hP.len], fun z hz => ?_, fun z hz => ?_⟩
  · have := hP.le z hz
    rw [uni2_at hP.len x y z hz]
    split <;> omega
  · have := hP.lt hz
    rw [uni2_at hP.len x y z hz]
    by_cases h : ga P z = max (ga P x) (ga P y)
    · rw [if_pos h, uni2_at hP.len x y _ (by omega), hmin]
      split <;> omega
    · rw [if_neg h, uni2_at hP.len x y _ this, hP.idem z hz, if_neg h]

theorem uni2_fin {N : Nat} {P : List Nat} (hP : Part N P) {x y : Nat} : Fin N P (uni2 P x y) := fun u v hu hv e => by
  rw [uni2_at hP.len x y u hu, uni2_at hP.len x y v hv, e]

theorem uni2_joins {N : Nat} {P : List Nat} (hP : Part N P) {x y : Nat} (hx : x < N) (hy : y < N) : ga (uni2 P x y) x = ga (uni2 P x y) y := by
  rw [uni2_at hP.len x y x hx, uni2_at hP.len x y y hy]
  rcases Nat.le_total (ga P x) (ga P y) with h | h
  · rw [Nat.min_eq_left h, Nat.max_eq_right h]
    split <;> split <;> omega
  · rw [Nat.min_eq_right h, Nat.max_eq_left h]
    split <;> split <;> omega

theorem uni2_least {N : Nat} {P Q : List Nat} (hP : Part N P) {x y : Nat} (hx : x < N) (hy : y < N) (h : Fin N P Q) (hxy : ga Q x = ga Q y) : Fin N (uni2 P x y) Q := by
  have ax := hP.lt hx
  have ay := hP.lt hy
  refine fin_of_rep (uni2_part hP hx hy) fun z hz => ?_
  rw [uni2_at hP.len x y z hz]
  have hz' := h z (ga P z) hz (hP.lt hz) (hP.idem z hz).symm
  have h1 := h x (ga P x) hx ax (hP.idem x hx).symm
  have h2 := h y (ga P y) hy ay (hP.idem y hy).symm
  by_cases e : ga P z = max (ga P x) (ga P y)
  · rw [if_pos e]
    rcases Nat.le_total (ga P x) (ga P y) with h3 | h3
    · rw [Nat.min_eq_left h3]; rw [Nat.max_eq_right h3] at e
      rw [hz', e, ← h2, ← h1, hxy]
    · rw [Nat.min_eq_right h3]; rw [Nat.max_eq_left h3] at e
      rw [hz', e, ← h2, ← h1, hxy]
  · rw [if_neg e]; exact hz'.symm

theorem uni2_same {P : List Nat} {x y : Nat} (h : ga P x = ga P y) : uni2 P x y = P := by
  unfold uni2
  rw [h, Nat.max_self, Nat.min_self]
  conv => rhs; rw [← List.map_id P]
  refine List.map_congr_left fun z _ => ?_
  simp; omega

/-- The number of the blocks. -/
def blocks (P : List Nat) : Nat := ((List.range P.length).filter fun x => ga P x == x).length

theorem filter_le {α : Type} {l : List α} {p q : α → Bool} (h : ∀ x ∈ l, p x = true → q x = true) : (l.filter p).length ≤ (l.filter q).length := by
  induction l with
  | nil => simp
  | cons x l ih =>
    have := ih fun y hy => h y (by simp [hy])
    have hx := h x (by simp)
    rw [List.filter_cons, List.filter_cons]
    cases hp : p x with
    | true => rw [hx hp]; simp; omega
    | false => cases q x <;> simp <;> omega

theorem filter_lt {α : Type} {l : List α} {p q : α → Bool} (h : ∀ x ∈ l, p x = true → q x = true) {z : α} (hz : z ∈ l) (hp : p z = false) (hq : q z = true) : (l.filter p).length < (l.filter q).length := by
  induction l with
  | nil => cases hz
  | cons x l ih =>
    rw [List.filter_cons, List.filter_cons]
    rcases List.mem_cons.1 hz with rfl | hz
    · rw [hp, hq]
      have := filter_le (l := l) (p := p) (q := q) fun y hy => h y (by simp [hy])
      simp; omega
    · have := ih (fun y hy => h y (by simp [hy])) hz
      have hx := h x (by simp)
      cases hp' : p x with
      | true => rw [hx hp']; simp; omega
      | false => cases q x <;> simp <;> omega

theorem blocks_fin {N : Nat} {P Q : List Nat} (hP : Part N P) (hQ : Part N Q) (h : Fin N P Q) : blocks Q ≤ blocks P := by
  unfold blocks
  rw [hP.len, hQ.len]
  refine filter_le fun x hx hq => ?_
  simp only [List.mem_range] at hx
  simp only [beq_iff_eq] at hq ⊢
  have h1 := hP.le x hx
  have h2 := h x (ga P x) hx (hP.lt hx) (hP.idem x hx).symm
  have h3 := hQ.le (ga P x) (hP.lt hx)
  omega

theorem blocks_lt {N : Nat} {P Q : List Nat} (hP : Part N P) (hQ : Part N Q) (h : Fin N P Q) (hne : P ≠ Q) : blocks Q < blocks P := by
  rcases Nat.lt_or_ge (blocks Q) (blocks P) with h1 | h1
  · exact h1
  · exfalso
    -- the same number of blocks, one finer: the same
    apply hne
    refine hP.ext hQ h (fin_of_rep hQ fun x hx => ?_)
    have all : ∀ z, z < N → ga P z = z → ga Q z = z := by
      intro z hz hp
      by_cases hq : ga Q z = z
      · exact hq
      · exfalso
        have : blocks Q < blocks P := by
          unfold blocks
          rw [hP.len, hQ.len]
          refine filter_lt (z := z) (fun x hx hq => ?_) (by simpa using hz) (by simpa using hq) (by simpa using hp)
          simp only [List.mem_range] at hx
          simp only [beq_iff_eq] at hq ⊢
          have h1 := hP.le x hx
          have h2 := h x (ga P x) hx (hP.lt hx) (hP.idem x hx).symm
          have h3 := hQ.le (ga P x) (hP.lt hx)
          omega
        omega
    have a := hP.lt hx
    have b := hQ.lt hx
    have h2 := h x (ga P x) hx a (hP.idem x hx).symm
    have h3 := all (ga P x) a (hP.idem x hx)
    rw [show ga Q x = ga P x by omega]
    exact hP.idem x hx

theorem blocks_le {P : List Nat} : blocks P ≤ P.length := by
  unfold blocks
  exact Nat.le_trans (List.length_filter_le _ _) (by simp)

theorem uni2_blocks {N : Nat} {P : List Nat} (hP : Part N P) {x y : Nat} (hx : x < N) (hy : y < N) (hne : ga P x ≠ ga P y) : blocks (uni2 P x y) < blocks P := by
  refine blocks_lt hP (uni2_part hP hx hy) (uni2_fin hP) fun e => hne ?_
  have := uni2_joins hP hx hy
  rw [← e] at this; exact this


theorem uni2_form {N : Nat} {P : List Nat} (hP : P.length = N) (x y : Nat) : uni2 P x y = (List.range N).map fun z => if ga P z = max (ga P x) (ga P y) then min (ga P x) (ga P y) else ga P z := by
  unfold uni2
  generalize max (ga P x) (ga P y) = a
  generalize min (ga P x) (ga P y) = b
  conv => lhs; rw [← map_ga P, hP]
  rw [List.map_map]; rfl


theorem l6Unite_eq {N : Nat} {P : List Nat} (hN : N ≤ 4294967296) (hP : P.length = N) {x y : Nat} (hx : x < N) (hy : y < N) : s_spec_l6Unite (NL P) (x : Int) (y : Int) = some (NL (uni2 P x y)) := by
  unfold s_spec_l6Unite s_spec_l1Least s_spec_l1Most
  rw [idx_NL (by omega), idx_NL (by omega)]
  simp only [Option.bind_some, dec_lt]
  have e1 : (bif decide (ga P x < ga P y) then some ((ga P x : Nat) : Int) else some ((ga P y : Nat) : Int)) = some ((min (ga P x) (ga P y) : Nat) : Int) := by
    by_cases h : ga P x < ga P y
    · simp [h]; omega
    · simp [h]; omega
  have e2 : (bif decide (ga P y < ga P x) then some ((ga P x : Nat) : Int) else some ((ga P y : Nat) : Int)) = some ((max (ga P x) (ga P y) : Nat) : Int) := by
    by_cases h : ga P y < ga P x
    · simp [h]; omega
    · simp [h]; omega
  rw [e1, e2, Option.bind_some, Option.bind_some, forC0_app (fun z => ((if ga P z = max (ga P x) (ga P y) then min (ga P x) (ga P y) else ga P z : Nat) : Int)) (n := N) (by rw [NL_len, hP]) hN]
  · rw [Option.bind_some, after_br']
    congr 1
    rw [uni2_form hP]
    unfold NL
    rw [List.map_map]; rfl
  · intro z s hz _
    rw [idx_NL (by omega), Option.bind_some, beq_nat]
    by_cases h : ga P z = max (ga P x) (ga P y)
    · rw [show (ga P z == max (ga P x) (ga P y)) = true by simpa using h, cond_true, if_pos h]
    · rw [show (ga P z == max (ga P x) (ga P y)) = false by simpa using h, cond_false, if_neg h, Option.bind_some]

theorem unite_eq {N : Nat} {P : List Nat} (hN : N ≤ 4294967296) (hP : P.length = N) {x y : Nat} (hx : x < N) (hy : y < N) : s_impl_unite (NL P) (x : Int) (y : Int) = some (!(ga P x == ga P y), NL (uni2 P x y)) := by
  unfold s_impl_unite
  rw [idx_NL (by omega), idx_NL (by omega)]
  simp only [Option.bind_some, beq_nat]
  by_cases h : ga P x = ga P y
  · rw [show (ga P x == ga P y) = true by simpa using h, cond_true, uni2_same h]; rfl
  · rw [show (ga P x == ga P y) = false by simpa using h, cond_false, dec_lt]
    have e : (bif decide (ga P y < ga P x) then some (((ga P y : Nat) : Int), ((ga P x : Nat) : Int)) else some (((ga P x : Nat) : Int), ((ga P y : Nat) : Int))) = some (((min (ga P x) (ga P y) : Nat) : Int), ((max (ga P x) (ga P y) : Nat) : Int)) := by
      by_cases h' : ga P y < ga P x
      · simp [h']; omega
      · simp [h']; omega
    rw [e, Option.bind_some]
    simp only
    let F : Nat → List Nat := fun j => (List.range N).map fun z => if z < j ∧ ga P z = max (ga P x) (ga P y) then min (ga P x) (ga P y) else ga P z
    have hF : ∀ j, (F j).length = N := fun j => by simp [F]
    rw [forC0_fn (fun j => NL (F j)) (n := N) (by rw [NL_len, hP]) (by omega)]
    · rw [Option.bind_some, after_br', Bool.not_false]
      congr 3
      rw [uni2_form hP]
      refine List.map_congr_left fun z hz => ?_
      simp only [List.mem_range] at hz
      simp [hz]
    · congr 1
      simp only [F]
      conv => lhs; rw [← map_ga P, hP]
      refine List.map_congr_left fun z _ => ?_
      simp
    · intro j hj
      have hat : ga (F j) j = ga P j := by simp only [F]; rw [ga_map _ hj]; simp
      rw [idx_NL (by rw [hF]; exact hj), Option.bind_some, hat, beq_nat]
      have hnext : ∀ v : Nat, v = (if ga P j = max (ga P x) (ga P y) then min (ga P x) (ga P y) else ga P j) → (NL (F j)).set j (v : Int) = NL (F (j + 1)) := by
        intro v hv
        subst hv
        simp only [F, NL, List.map_map]
        have := set_map_range (N := N) (j := j) (fun z => (((if z < j ∧ ga P z = max (ga P x) (ga P y) then min (ga P x) (ga P y) else ga P z : Nat) : Int))) (fun z => (((if z < j + 1 ∧ ga P z = max (ga P x) (ga P y) then min (ga P x) (ga P y) else ga P z : Nat) : Int))) (fun z hz hzj => by
          by_cases h1 : z < j
          · simp [h1, show z < j + 1 by omega]
          · simp [h1, show ¬ z < j + 1 by omega])
        simp only [show j < j + 1 by omega, true_and] at this
        exact this
      by_cases he : ga P j = max (ga P x) (ga P y)
      · rw [show (ga P j == max (ga P x) (ga P y)) = true by simpa using he, cond_true, Option.bind_some, Int.toNat_natCast, hnext _ (by rw [if_pos he])]
      · rw [show (ga P j == max (ga P x) (ga P y)) = false by simpa using he, cond_false]
        have := hnext (ga P j) (by rw [if_neg he])
        congr 2
        rw [← this]
        apply List.ext_getElem
        · simp
        · intro i h1 h2
          rw [List.getElem_set]
          split
          · rename_i e; subst e
            have := idx_NL (T := F j) (k := j) (by rw [hF]; exact hj)
            rw [idx_nat, List.getElem?_eq_getElem h1, hat] at this
            exact Option.some.inj this
          · rfl


/-- i with v as its digit of the weight N ^ k. -/
def sb (N k i v : Nat) : Nat := i - i / N ^ k % N * N ^ k + v * N ^ k

theorem sb_form (N k i v : Nat) : sb N k i v = (i / N ^ (k + 1)) * N ^ (k + 1) + (v * N ^ k + i % N ^ k) ∧ i = (i / N ^ (k + 1)) * N ^ (k + 1) + (i / N ^ k % N * N ^ k + i % N ^ k) := by
  have h1 := Nat.div_add_mod i (N ^ k)
  have h2 := Nat.div_add_mod (i / N ^ k) N
  have h3 : i / N ^ k / N = i / N ^ (k + 1) := by rw [Nat.div_div_eq_div_mul, Nat.pow_succ]
  rw [h3] at h2
  have h4 : N ^ k * (i / N ^ k) = i / N ^ (k + 1) * N ^ (k + 1) + i / N ^ k % N * N ^ k := by
    conv => lhs; rw [← h2]
    rw [Nat.mul_add, Nat.pow_succ, Nat.mul_comm (N ^ k) (i / N ^ k % N), ← Nat.mul_assoc (N ^ k) N, Nat.mul_comm (N ^ k * N)]
  rw [h4] at h1
  unfold sb
  generalize i / N ^ k % N * N ^ k = A at *
  generalize i / N ^ (k + 1) * N ^ (k + 1) = B at *
  generalize v * N ^ k = C at *
  generalize i % N ^ k = D at *
  constructor <;> omega

theorem pow_pos' {N : Nat} (h : 1 ≤ N) (k : Nat) : 0 < N ^ k := Nat.pow_pos h

theorem sb_lt {N K k i v : Nat} (hN : 1 ≤ N) (hk : k < K) (hi : i < N ^ K) (hv : v < N) : sb N k i v < N ^ K := by
  obtain ⟨e, _⟩ := sb_form N k i v
  rw [e]
  have h1 : v * N ^ k + i % N ^ k < N * N ^ k := lin2 hv (Nat.mod_lt _ (pow_pos' hN k))
  rw [Nat.mul_comm N, ← Nat.pow_succ] at h1
  have h2 : i / N ^ (k + 1) < N ^ (K - (k + 1)) := by
    apply Nat.div_lt_of_lt_mul
    rw [← Nat.pow_add, show k + 1 + (K - (k + 1)) = K by omega]; exact hi
  have h3 := lin2 h2 h1
  rwa [← Nat.pow_add, show K - (k + 1) + (k + 1) = K by omega] at h3

theorem sb_digit {N k i v : Nat} (hN : 1 ≤ N) (hv : v < N) : sb N k i v / N ^ k % N = v := by
  obtain ⟨e, _⟩ := sb_form N k i v
  have hp := pow_pos' hN k
  have hlo := Nat.mod_lt i hp
  have e2 : sb N k i v = (i / N ^ (k + 1) * N + v) * N ^ k + i % N ^ k := by
    rw [e, Nat.add_mul, Nat.pow_succ, Nat.mul_comm (N ^ k) N, ← Nat.mul_assoc]; omega
  rw [e2, lin2_div hlo, lin2_mod hv]

theorem sb_sb {N k i v u : Nat} (hN : 1 ≤ N) (hv : v < N) : sb N k (sb N k i v) u = sb N k i u := by
  have hp := pow_pos' hN k
  have h1 : sb N k (sb N k i v) u = sb N k i v - v * N ^ k + u * N ^ k := by
    have : ∀ j, sb N k j u = j - j / N ^ k % N * N ^ k + u * N ^ k := fun _ => rfl
    rw [this, sb_digit hN hv]
  rw [h1]
  obtain ⟨e1, _⟩ := sb_form N k i v
  obtain ⟨e2, _⟩ := sb_form N k i u
  rw [e1, e2]
  generalize i / N ^ (k + 1) * N ^ (k + 1) = B
  generalize v * N ^ k = C
  generalize u * N ^ k = E
  generalize i % N ^ k = D
  omega

theorem sb_int {N k i v : Nat} : ((sb N k i v : Nat) : Int) = (i : Int) + ((v : Int) - ((i / N ^ k % N : Nat) : Int)) * ((N ^ k : Nat) : Int) := by
  obtain ⟨_, e⟩ := sb_form N k i v
  have hle : i / N ^ k % N * N ^ k ≤ i := by
    generalize i / N ^ k % N * N ^ k = A at *
    generalize i / N ^ (k + 1) * N ^ (k + 1) = B at *
    generalize i % N ^ k = D at *
    omega
  unfold sb
  rw [Int.sub_mul, ← Int.natCast_mul, ← Int.natCast_mul]
  generalize i / N ^ k % N * N ^ k = A at *
  generalize v * N ^ k = C
  clear e
  omega


/-- The condition on P at the place i, the digit k, of the table T. -/
def cnd (N : Nat) (P T : List Nat) (k i : Nat) : Prop := ga P (ga T i) = ga P (ga T (sb N k i (ga P (i / N ^ k % N))))

def CongF (N : Nat) (P : List Nat) (f : Int × List Int) : Prop := ∀ K T, OpN N f K T → ∀ k, k < K → ∀ i, i < N ^ K → cnd N P T k i

def Cong (N : Nat) (ops : List (Int × List Int)) (P : List Nat) : Prop := Part N P ∧ ∀ f ∈ ops, CongF N P f

theorem OpN.val {N K : Nat} {f : Int × List Int} {T : List Nat} (h : OpN N f K T) {i : Nat} (hi : i < N ^ K) : ga T i < N := h.lt _ (ga_mem (by rw [h.len]; exact hi))

theorem OpN.uniq {N K K' : Nat} {f : Int × List Int} {T T' : List Nat} (h : OpN N f K T) (h' : OpN N f K' T') : K' = K ∧ T' = T := by
  have e := h.eq
  rw [h'.eq] at e
  simp only [Prod.mk.injEq] at e
  exact ⟨by omega, NL_inj e.2⟩

/-- What a finer partition asks for, a congruence bears out. -/
theorem cong_bears {N K k i : Nat} {ops : List (Int × List Int)} {f : Int × List Int} {P Q T : List Nat} (hN : 1 ≤ N) (hf : f ∈ ops) (ho : OpN N f K T) (hQ : Cong N ops Q) (hP : Part N P) (h : Fin N P Q) (hk : k < K) (hi : i < N ^ K) :
    ga Q (ga T i) = ga Q (ga T (sb N k i (ga P (i / N ^ k % N)))) := by
  have hd : i / N ^ k % N < N := Nat.mod_lt _ hN
  have hPd := hP.lt hd
  have h1 := hQ.2 f hf K T ho k hk i hi
  have h2 := hQ.2 f hf K T ho k hk (sb N k i (ga P (i / N ^ k % N))) (sb_lt hN hk hi hPd)
  unfold cnd at h1 h2
  rw [sb_digit hN hPd, sb_sb hN hPd] at h2
  have h3 := h (i / N ^ k % N) (ga P (i / N ^ k % N)) hd hPd (hP.idem _ hd).symm
  rw [h1, h2, h3]

/-- The least congruence above P0. -/
structure IsCg (N : Nat) (ops : List (Int × List Int)) (P0 Q : List Nat) : Prop where
  cong : Cong N ops Q
  fin : Fin N P0 Q
  least : ∀ R, Cong N ops R → Fin N P0 R → Fin N Q R

theorem IsCg.uniq {N : Nat} {ops : List (Int × List Int)} {P0 Q Q' : List Nat} (h : IsCg N ops P0 Q) (h' : IsCg N ops P0 Q') : Q = Q' :=
  h.cong.1.ext h'.cong.1 (h.least Q' h'.cong h'.fin) (h'.least Q h.cong h.fin)

/-- What is so on the way: P lies between P0 and every congruence above it. -/
structure Way (N : Nat) (ops : List (Int × List Int)) (P0 P : List Nat) : Prop where
  part : Part N P
  fin : Fin N P0 P
  least : ∀ R, Cong N ops R → Fin N P0 R → Fin N P R

theorem Way.unite {N K k i : Nat} {ops : List (Int × List Int)} {f : Int × List Int} {P0 P T p : List Nat} (hN : 1 ≤ N) (hf : f ∈ ops) (ho : OpN N f K T) (h : Way N ops P0 P) (hp : Way N ops P0 p) (hk : k < K) (hi : i < N ^ K) :
    Way N ops P0 (uni2 P (ga T i) (ga T (sb N k i (ga p (i / N ^ k % N))))) := by
  have hd : i / N ^ k % N < N := Nat.mod_lt _ hN
  have a := ho.val hi
  have b := ho.val (sb_lt hN hk hi (hp.part.lt hd))
  exact ⟨uni2_part h.part a b, h.fin.trans (uni2_fin h.part), fun R hR hR0 => uni2_least h.part a b (h.least R hR hR0) (cong_bears hN hf ho hR hp.part (hp.least R hR hR0) hk hi)⟩


/-- A pass under way: it began at Ps with w0. -/
structure Pass (N : Nat) (ops : List (Int × List Int)) (P0 Ps : List Nat) (w0 w c : Bool) (P : List Nat) : Prop where
  way : Way N ops P0 P
  same : c = false → P = Ps
  less : c = true → blocks P < blocks Ps
  was : w = (w0 || c)

theorem close_in {N K k : Nat} {ops : List (Int × List Int)} {f : Int × List Int} {P0 Ps T : List Nat} {w0 : Bool} (hN : 1 ≤ N) (h8 : N ≤ 8) (hf : f ∈ ops) (ho : OpN N f K T) (hk : k < K) {w c : Bool} {P : List Nat} (hP : Pass N ops P0 Ps w0 w c P) :
    ∃ w' c' P', forC (S := Bool × Bool × (List Int)) (R := Bool × (List Int)) (fun k1446 s1444 =>
  (idx f.2 k1446).bind fun x1452 =>
  (nz ((N ^ k : Nat) : Int)).bind fun u1455 =>
  (nz (N : Int)).bind fun u1456 =>
  (idx s1444.2.2 (Int.tmod (w64 (Int.tdiv k1446 ((N ^ k : Nat) : Int))) (N : Int))).bind fun x1458 =>
  (idx f.2 (w64 (k1446 + (w64 ((w64 (x1458 - (Int.tmod (w64 (Int.tdiv k1446 ((N ^ k : Nat) : Int))) (N : Int)))) * ((N ^ k : Nat) : Int)))))).bind fun x1460 =>
  (s_impl_unite s1444.2.2 x1452 x1460).bind fun r1463 =>
  (bif r1463.1 then some (.nx (true, true, r1463.2)) else some (.nx (s1444.1, s1444.2.1, r1463.2)))) 0 (f.2.length : Int) (w, c, NL P) = some (.br (w', c', NL P')) ∧ Pass N ops P0 Ps w0 w' c' P' ∧ (c' = false → c = false ∧ ∀ i, i < N ^ K → cnd N Ps T k i) := by
  have h512 := pow_le_512 h8 ho.k3
  have hfe := ho.eq
  have hlen : (f.2.length : Int) = ((N ^ K : Nat) : Int) := by rw [hfe]; simp [ho.len]
  have hkK : N ^ k ≤ N ^ K := Nat.pow_le_pow_right hN (by omega)
  rcases forC0_hoare (R := Bool × List Int) (step := fun k1446 (s1444 : Bool × Bool × (List Int)) =>
  (idx f.2 k1446).bind fun x1452 =>
  (nz ((N ^ k : Nat) : Int)).bind fun u1455 =>
  (nz (N : Int)).bind fun u1456 =>
  (idx s1444.2.2 (Int.tmod (w64 (Int.tdiv k1446 ((N ^ k : Nat) : Int))) (N : Int))).bind fun x1458 =>
  (idx f.2 (w64 (k1446 + (w64 ((w64 (x1458 - (Int.tmod (w64 (Int.tdiv k1446 ((N ^ k : Nat) : Int))) (N : Int)))) * ((N ^ k : Nat) : Int)))))).bind fun x1460 =>
  (s_impl_unite s1444.2.2 x1452 x1460).bind fun r1463 =>
  (bif r1463.1 then some (.nx (true, true, r1463.2)) else some (.nx (s1444.1, s1444.2.1, r1463.2)))) (fun j s => ∃ w' c' P', s = (w', c', NL P') ∧ Pass N ops P0 Ps w0 w' c' P' ∧ (c' = false → c = false ∧ ∀ i, i < j → cnd N Ps T k i)) (fun _ => False) (fun _ => False) (n := N ^ K) hlen (by omega) (s := (w, c, NL P)) ⟨w, c, P, rfl, hP, fun h => ⟨h, fun i hi => by omega⟩⟩ (by
    rintro j s hj ⟨w', c', P', rfl, hP', hc'⟩
    left
    have hd : j / N ^ k % N < N := Nat.mod_lt _ hN
    have hPd := hP'.way.part.lt hd
    have hPl := hP'.way.part.len
    have hsl := sb_lt hN hk hj hPd
    have hple := hP'.way.part.le _ hd
    have e1 : Int.tmod (w64 (Int.tdiv (j : Int) ((N ^ k : Nat) : Int))) (N : Int) = ((j / N ^ k % N : Nat) : Int) := by rw [w64_div (by omega), tmod_nat]
    have hmul : j / N ^ k % N * N ^ k ≤ 8 * 512 := Nat.mul_le_mul (by omega) (by omega)
    have hmul2 : ga P' (j / N ^ k % N) * N ^ k ≤ 8 * 512 := Nat.mul_le_mul (by omega) (by omega)
    have e2 : w64 ((j : Int) + w64 ((w64 (((ga P' (j / N ^ k % N) : Nat) : Int) - ((j / N ^ k % N : Nat) : Int))) * ((N ^ k : Nat) : Int))) = ((sb N k j (ga P' (j / N ^ k % N)) : Nat) : Int) := by
      have hsi := sb_int (N := N) (k := k) (i := j) (v := ga P' (j / N ^ k % N))
      have hexp : (((ga P' (j / N ^ k % N) : Nat) : Int) - ((j / N ^ k % N : Nat) : Int)) * ((N ^ k : Nat) : Int) = ((ga P' (j / N ^ k % N) * N ^ k : Nat) : Int) - ((j / N ^ k % N * N ^ k : Nat) : Int) := by
        rw [Int.sub_mul, Int.natCast_mul, Int.natCast_mul]
      rw [w64_id (x := ((ga P' (j / N ^ k % N) : Nat) : Int) - ((j / N ^ k % N : Nat) : Int)) (by omega) (by omega), w64_id (x := (((ga P' (j / N ^ k % N) : Nat) : Int) - ((j / N ^ k % N : Nat) : Int)) * ((N ^ k : Nat) : Int)) (by rw [hexp]; omega) (by rw [hexp]; omega), ← hsi, w64_nat (by omega)]
    have ha : ga T j < N := ho.val hj
    have hb : ga T (sb N k j (ga P' (j / N ^ k % N))) < N := ho.val hsl
    have i1 : idx f.2 (j : Int) = some ((ga T j : Nat) : Int) := by rw [hfe]; exact idx_NL (by rw [ho.len]; exact hj)
    have i2 : idx f.2 ((sb N k j (ga P' (j / N ^ k % N)) : Nat) : Int) = some ((ga T (sb N k j (ga P' (j / N ^ k % N))) : Nat) : Int) := by rw [hfe]; exact idx_NL (by rw [ho.len]; exact hsl)
    simp only [i1, Option.bind_some, nz_nat (pow_pos' hN k), nz_nat hN, e1]
    rw [idx_NL (by omega), Option.bind_some, e2, i2, Option.bind_some, unite_eq (by omega) hPl ha hb, Option.bind_some]
    have hway := Way.unite hN hf ho hP'.way hP'.way hk hj
    by_cases he : ga P' (ga T j) = ga P' (ga T (sb N k j (ga P' (j / N ^ k % N))))
    · rw [show (ga P' (ga T j) == ga P' (ga T (sb N k j (ga P' (j / N ^ k % N))))) = true by simpa using he, uni2_same he]
      refine ⟨_, rfl, w', c', P', rfl, hP', fun h => ⟨(hc' h).1, fun i hi => ?_⟩⟩
      by_cases e : i = j
      · subst e
        have := hP'.same h
        subst this
        exact he
      · exact (hc' h).2 i (by omega)
    · rw [show (ga P' (ga T j) == ga P' (ga T (sb N k j (ga P' (j / N ^ k % N))))) = false by simpa using he]
      refine ⟨_, rfl, true, true, _, rfl, ⟨hway, (fun h => nomatch h), fun _ => ?_, by simp⟩, (fun h => nomatch h)⟩
      have h1 := uni2_blocks hP'.way.part ha hb he
      cases hc : c' with
      | false => rw [hP'.same hc] at h1 ⊢; exact h1
      | true => have := hP'.less hc; omega) with ⟨s', e, ⟨w', c', P', rfl, h1, h2⟩ | h⟩ | ⟨r, _, h⟩
  · exact ⟨w', c', P', e, h1, h2⟩
  · exact h.elim
  · exact h.elim

theorem close_op {N : Nat} {ops : List (Int × List Int)} {f : Int × List Int} {P0 Ps : List Nat} {w0 : Bool} (hN : 1 ≤ N) (h8 : N ≤ 8) (hf : f ∈ ops) (hop : ∃ K T, OpN N f K T) {w c : Bool} {P : List Nat} (hP : Pass N ops P0 Ps w0 w c P) :
    ∃ w' c' P', ((forC (S := Bool × Bool × Int × (List Int)) (R := Bool × (List Int)) (fun k1411 s1409 =>
  (forC (S := Bool × Bool × (List Int)) (R := Bool × (List Int)) (fun k1446 s1444 =>
  (idx f.2 k1446).bind fun x1452 =>
  (nz s1409.2.2.1).bind fun u1455 =>
  (nz (N : Int)).bind fun u1456 =>
  (idx s1444.2.2 (Int.tmod (w64 (Int.tdiv k1446 s1409.2.2.1)) (N : Int))).bind fun x1458 =>
  (idx f.2 (w64 (k1446 + (w64 ((w64 (x1458 - (Int.tmod (w64 (Int.tdiv k1446 s1409.2.2.1)) (N : Int)))) * s1409.2.2.1))))).bind fun x1460 =>
  (s_impl_unite s1444.2.2 x1452 x1460).bind fun r1463 =>
  (bif r1463.1 then some (.nx (true, true, r1463.2)) else some (.nx (s1444.1, s1444.2.1, r1463.2)))) 0 (f.2.length : Int) (s1409.1, s1409.2.1, s1409.2.2.2)).bind fun o1448 => after o1448 (fun r_ => some (.rt r_)) (fun s1444 =>
  some (.nx (s1444.1, s1444.2.1, w64 (s1409.2.2.1 * (N : Int)), s1444.2.2)))) 0 f.1 (w, c, 1, NL P)).bind fun o1413 => after o1413 (fun r_ => some (Ctl.rt (S := Bool × Bool × List Int) r_)) (fun s1409 =>
  some (.nx (s1409.1, s1409.2.1, s1409.2.2.2)))) = some (.nx (w', c', NL P')) ∧ Pass N ops P0 Ps w0 w' c' P' ∧ (c' = false → c = false ∧ CongF N Ps f) := by
  obtain ⟨K, T, ho⟩ := hop
  have hk3 := ho.k3
  have h512 := pow_le_512 h8 hk3
  have hf1 : f.1 = (K : Int) := by rw [ho.eq]
  rcases forC0_hoare (R := Bool × List Int) (step := fun k1411 (s1409 : Bool × Bool × Int × (List Int)) =>
  (forC (S := Bool × Bool × (List Int)) (R := Bool × (List Int)) (fun k1446 s1444 =>
  (idx f.2 k1446).bind fun x1452 =>
  (nz s1409.2.2.1).bind fun u1455 =>
  (nz (N : Int)).bind fun u1456 =>
  (idx s1444.2.2 (Int.tmod (w64 (Int.tdiv k1446 s1409.2.2.1)) (N : Int))).bind fun x1458 =>
  (idx f.2 (w64 (k1446 + (w64 ((w64 (x1458 - (Int.tmod (w64 (Int.tdiv k1446 s1409.2.2.1)) (N : Int)))) * s1409.2.2.1))))).bind fun x1460 =>
  (s_impl_unite s1444.2.2 x1452 x1460).bind fun r1463 =>
  (bif r1463.1 then some (.nx (true, true, r1463.2)) else some (.nx (s1444.1, s1444.2.1, r1463.2)))) 0 (f.2.length : Int) (s1409.1, s1409.2.1, s1409.2.2.2)).bind fun o1448 => after o1448 (fun r_ => some (.rt r_)) (fun s1444 =>
  some (.nx (s1444.1, s1444.2.1, w64 (s1409.2.2.1 * (N : Int)), s1444.2.2)))) (fun k s => ∃ w' c' P', s = (w', c', ((N ^ k : Nat) : Int), NL P') ∧ Pass N ops P0 Ps w0 w' c' P' ∧ (c' = false → c = false ∧ ∀ k', k' < k → ∀ i, i < N ^ K → cnd N Ps T k' i)) (fun _ => False) (fun _ => False) (n := K) hf1 (by omega) (s := (w, c, 1, NL P)) ⟨w, c, P, rfl, hP, fun h => ⟨h, fun k' hk' => by omega⟩⟩ (by
    rintro k s hk ⟨w', c', P', rfl, hP', hc'⟩
    left
    have hkK : N ^ (k + 1) ≤ N ^ K := Nat.pow_le_pow_right hN (by omega)
    have hps : N ^ k * N = N ^ (k + 1) := (Nat.pow_succ ..).symm
    obtain ⟨w2, c2, P2, e, h1, h2⟩ := close_in hN h8 hf ho hk hP'
    refine ⟨(w2, c2, ((N ^ (k + 1) : Nat) : Int), NL P2), ?_, w2, c2, P2, rfl, h1, fun h => ⟨(hc' (h2 h).1).1, fun k' hk' => ?_⟩⟩
    · simp only
      rw [e, Option.bind_some, after_br', w64_mul (by rw [hps]; omega), hps]
    · by_cases e' : k' = k
      · subst e'; exact (h2 h).2
      · exact (hc' (h2 h).1).2 k' (by omega)) with ⟨s', e, ⟨w', c', P', rfl, h1, h2⟩ | h⟩ | ⟨r, _, h⟩
  · refine ⟨w', c', P', by rw [e]; rfl, h1, fun h => ⟨(h2 h).1, fun K' T' ho' => ?_⟩⟩
    obtain ⟨rfl, rfl⟩ := ho.uniq ho'
    exact (h2 h).2
  · exact h.elim
  · exact h.elim

theorem closePartition_ok {N : Nat} {a : Int × List (Int × List Int)} (ha : AlgN a N) {P0 : List Nat} (hP0 : Part N P0) : ∃ w Q, s_impl_closePartition a (NL P0) = some (w, NL Q) ∧ IsCg N a.2 P0 Q ∧ (w = false → Q = P0) ∧ (w = true → Q ≠ P0) := by
  have hN := ha.n1
  have h8 := ha.n8
  have hb0 : blocks P0 ≤ N := by have := @blocks_le P0; rw [hP0.len] at this; exact this
  unfold s_impl_closePartition
  rw [ha.eN]
  obtain ⟨o, ho, ⟨w, Q, rfl, hq⟩, _⟩ := iter_inv (R := Bool × List Int) (step := fun s973 =>
  (bif s973.2.1 then (forR (S := Bool × Bool × (List Int)) (R := Bool × (List Int)) (fun _ x1302 s1299 =>
  (forC (S := Bool × Bool × Int × (List Int)) (R := Bool × (List Int)) (fun k1411 s1409 =>
  (forC (S := Bool × Bool × (List Int)) (R := Bool × (List Int)) (fun k1446 s1444 =>
  (idx x1302.2 k1446).bind fun x1452 =>
  (nz s1409.2.2.1).bind fun u1455 =>
  (nz (N : Int)).bind fun u1456 =>
  (idx s1444.2.2 (Int.tmod (w64 (Int.tdiv k1446 s1409.2.2.1)) (N : Int))).bind fun x1458 =>
  (idx x1302.2 (w64 (k1446 + (w64 ((w64 (x1458 - (Int.tmod (w64 (Int.tdiv k1446 s1409.2.2.1)) (N : Int)))) * s1409.2.2.1))))).bind fun x1460 =>
  (s_impl_unite s1444.2.2 x1452 x1460).bind fun r1463 =>
  (bif r1463.1 then some (.nx (true, true, r1463.2)) else some (.nx (s1444.1, s1444.2.1, r1463.2)))) 0 (x1302.2.length : Int) (s1409.1, s1409.2.1, s1409.2.2.2)).bind fun o1448 => after o1448 (fun r_ => some (.rt r_)) (fun s1444 =>
  some (.nx (s1444.1, s1444.2.1, w64 (s1409.2.2.1 * (N : Int)), s1444.2.2)))) 0 x1302.1 (s1299.1, s1299.2.1, 1, s1299.2.2)).bind fun o1413 => after o1413 (fun r_ => some (.rt r_)) (fun s1409 =>
  some (.nx (s1409.1, s1409.2.1, s1409.2.2.2)))) 0 a.2 (s973.1, false, s973.2.2)).bind fun o1303 => after o1303 (fun r_ => some (.rt r_)) (fun s1299 =>
  some (.nx (s1299.1, s1299.2.1, s1299.2.2))) else some (.br (s973.1, s973.2.1, s973.2.2))))
    (fun s => ∃ w c P, s = (w, c, NL P) ∧ Way N a.2 P0 P ∧ (c = false → Cong N a.2 P) ∧ (w = false → P = P0) ∧ (w = true → blocks P < blocks P0))
    (fun s => if s.2.1 then blocks (s.2.2.map Int.toNat) + 1 else 0) (fun o => ∃ w P, o = .br (w, false, NL P) ∧ Way N a.2 P0 P ∧ Cong N a.2 P ∧ (w = false → P = P0) ∧ (w = true → blocks P < blocks P0)) FU (false, true, NL P0)
    ⟨false, true, P0, rfl, ⟨hP0, Fin.refl _ _, fun R _ h => h⟩, (fun h => nomatch h), fun _ => rfl, (fun h => nomatch h)⟩ (by simp only [if_true, NL_toNat, FU]; omega) (by
    rintro s ⟨w, c, P, rfl, hway, hc, hw1, hw2⟩
    cases c with
    | false =>
      right
      exact ⟨_, rfl, by intro s; simp, w, P, rfl, hway, hc rfl, hw1, hw2⟩
    | true =>
      left
      simp only [cond_true]
      have hstart : Pass N a.2 P0 P w w false P := ⟨hway, fun _ => rfl, (fun h => nomatch h), by simp⟩
      rcases forR_hoare (R := Bool × List Int) (step := fun _ (x1302 : Int × List Int) (s1299 : Bool × Bool × (List Int)) =>
  (forC (S := Bool × Bool × Int × (List Int)) (R := Bool × (List Int)) (fun k1411 s1409 =>
  (forC (S := Bool × Bool × (List Int)) (R := Bool × (List Int)) (fun k1446 s1444 =>
  (idx x1302.2 k1446).bind fun x1452 =>
  (nz s1409.2.2.1).bind fun u1455 =>
  (nz (N : Int)).bind fun u1456 =>
  (idx s1444.2.2 (Int.tmod (w64 (Int.tdiv k1446 s1409.2.2.1)) (N : Int))).bind fun x1458 =>
  (idx x1302.2 (w64 (k1446 + (w64 ((w64 (x1458 - (Int.tmod (w64 (Int.tdiv k1446 s1409.2.2.1)) (N : Int)))) * s1409.2.2.1))))).bind fun x1460 =>
  (s_impl_unite s1444.2.2 x1452 x1460).bind fun r1463 =>
  (bif r1463.1 then some (.nx (true, true, r1463.2)) else some (.nx (s1444.1, s1444.2.1, r1463.2)))) 0 (x1302.2.length : Int) (s1409.1, s1409.2.1, s1409.2.2.2)).bind fun o1448 => after o1448 (fun r_ => some (.rt r_)) (fun s1444 =>
  some (.nx (s1444.1, s1444.2.1, w64 (s1409.2.2.1 * (N : Int)), s1444.2.2)))) 0 x1302.1 (s1299.1, s1299.2.1, 1, s1299.2.2)).bind fun o1413 => after o1413 (fun r_ => some (.rt r_)) (fun s1409 =>
  some (.nx (s1409.1, s1409.2.1, s1409.2.2.2)))) (fun pre s => ∃ w' c' P', s = (w', c', NL P') ∧ Pass N a.2 P0 P w w' c' P' ∧ (c' = false → ∀ f ∈ pre, CongF N P f)) (fun _ => False) (fun _ => False) a.2 [] 0 (w, false, NL P) ⟨w, false, P, rfl, hstart, fun _ f hf => by cases hf⟩ (by
        rintro i pre x post s hl ⟨w', c', P', rfl, hP', hc'⟩
        left
        have hx : x ∈ a.2 := by rw [hl]; simp
        obtain ⟨w2, c2, P2, e, h1, h2⟩ := close_op hN h8 hx (ha.ops x hx) hP'
        refine ⟨_, e, w2, c2, P2, rfl, h1, fun h f hf => ?_⟩
        rcases List.mem_append.1 hf with hf | hf
        · cases hf
        · rcases List.mem_append.1 hf with hf | hf
          · exact hc' (h2 h).1 f (by simpa using hf)
          · rw [List.mem_singleton.1 hf]; exact (h2 h).2) with ⟨s', e, ⟨w', c', P', rfl, h1, h2⟩ | h⟩ | ⟨r, _, h⟩
      · refine ⟨(w', c', NL P'), by rw [e]; rfl, ⟨w', c', P', rfl, h1.way, fun h => ?_, fun h => ?_, fun h => ?_⟩, ?_⟩
        · have := h1.same h
          subst this
          exact ⟨h1.way.part, fun f hf => h2 h f (by simpa using hf)⟩
        · have := h1.was
          rw [h] at this
          cases hw : w with
          | true => rw [hw] at this; cases this
          | false =>
            cases hc' : c' with
            | true => rw [hw, hc'] at this; cases this
            | false => rw [h1.same hc', hw1 hw]
        · have hle := blocks_fin hP0 hway.part hway.fin
          cases hc' : c' with
          | true => have := h1.less hc'; omega
          | false =>
            have := h1.was
            rw [h, hc'] at this
            cases hw : w with
            | false => rw [hw] at this; cases this
            | true => rw [h1.same hc']; exact hw2 hw
        · simp only [NL_toNat, if_true]
          cases hc' : c' with
          | false => simp
          | true => have := h1.less hc'; simp; omega
      · exact h.elim
      · exact h.elim)
  rw [ho]
  obtain ⟨hway, hcong, h1, h2⟩ := hq
  refine ⟨w, Q, rfl, ⟨hcong, hway.fin, hway.least⟩, h1, fun h e => ?_⟩
  have := h2 h
  rw [e] at this; omega


theorem dig_at (N : Nat) : ∀ (K i kk : Nat), kk < K → ga (dig N K i) kk = i / N ^ (K - 1 - kk) % N
  | 0, _, _, h => by omega
  | K + 1, i, 0, _ => by simp [dig, ga]
  | K + 1, i, kk + 1, h => by
    have := dig_at N K i kk (by omega)
    simp only [dig, ga, List.getD_cons_succ] at this ⊢
    rw [this, show K + 1 - 1 - (kk + 1) = K - 1 - kk by omega]

theorem ix_shift (N : Nat) : ∀ (A : List Nat) (s : Nat), ix N s A = s * N ^ A.length + ix N 0 A
  | [], s => by simp [ix]
  | x :: A, s => by
    have h1 := ix_shift N A (s * N + x)
    have h2 := ix_shift N A (0 * N + x)
    show ix N (s * N + x) A = s * N ^ (A.length + 1) + ix N (0 * N + x) A
    rw [h1, h2, Nat.pow_succ, Nat.mul_comm (N ^ A.length) N, ← Nat.mul_assoc, Nat.add_mul]
    simp; omega

theorem ix_dig {N : Nat} : ∀ (K i : Nat), i < N ^ K → ix N 0 (dig N K i) = i
  | 0, i, h => by simp at h; subst h; rfl
  | K + 1, i, h => by
    show ix N (0 * N + i / N ^ K % N) (dig N K i) = i
    have e : dig N K i = dig N K (i % N ^ K) := by
      have : ∀ t, t ≤ K → dig N t i = dig N t (i % N ^ K) := by
        intro t
        induction t with
        | zero => intro _; rfl
        | succ t ih =>
          intro ht
          have hd : i / N ^ t % N = i % N ^ K / N ^ t % N := by
            have hK : N ^ K = N ^ t * (N * N ^ (K - t - 1)) := by
              rw [← Nat.mul_assoc, ← Nat.pow_succ, ← Nat.pow_add]; congr 1; omega
            rw [hK, Nat.mod_mul_right_div_self]
            rw [Nat.mod_mul_right_mod]
          simp only [dig, ih (by omega)]
          rw [hd]
      exact this K (Nat.le_refl _)
    have hN : 0 < N ^ K := by
      rcases Nat.eq_zero_or_pos (N ^ K) with h0 | h0
      · rw [Nat.pow_succ, h0] at h; simp at h
      · exact h0
    rw [ix_shift, dig_len, e, ix_dig K (i % N ^ K) (Nat.mod_lt _ hN)]
    have h1 := Nat.div_add_mod i (N ^ K)
    have h2 : i / N ^ K < N := Nat.div_lt_of_lt_mul (by rw [Nat.pow_succ] at h; exact h)
    rw [Nat.zero_mul, Nat.zero_add, Nat.mod_eq_of_lt h2, Nat.mul_comm]; exact h1

theorem ix_set (N v : Nat) : ∀ (A : List Nat) (kk : Nat), kk < A.length → ix N 0 (A.set kk v) + ga A kk * N ^ (A.length - 1 - kk) = ix N 0 A + v * N ^ (A.length - 1 - kk)
  | [], _, h => by simp at h
  | x :: A, 0, _ => by
    show ix N (0 * N + v) A + x * N ^ (A.length + 1 - 1 - 0) = ix N (0 * N + x) A + v * N ^ (A.length + 1 - 1 - 0)
    rw [ix_shift N A (0 * N + v), ix_shift N A (0 * N + x)]
    simp; omega
  | x :: A, kk + 1, h => by
    have ih := ix_set N v A kk (by simpa using h)
    show ix N (0 * N + x) (A.set kk v) + ga A kk * N ^ (A.length + 1 - 1 - (kk + 1)) = ix N (0 * N + x) A + v * N ^ (A.length + 1 - 1 - (kk + 1))
    rw [ix_shift N (A.set kk v), ix_shift N A (0 * N + x), show A.length + 1 - 1 - (kk + 1) = A.length - 1 - kk by omega, List.length_set]
    omega

theorem ix_set_dig {N K i kk v : Nat} (hi : i < N ^ K) (hk : kk < K) : ix N 0 ((dig N K i).set kk v) = sb N (K - 1 - kk) i v := by
  have h := ix_set N v (dig N K i) kk (by simpa using hk)
  rw [dig_len, ix_dig K i hi, dig_at N K i kk hk] at h
  obtain ⟨_, e⟩ := sb_form N (K - 1 - kk) i v
  unfold sb
  generalize i / N ^ (K - 1 - kk) % N * N ^ (K - 1 - kk) = A at *
  generalize i / N ^ (K - 1 - kk + 1) * N ^ (K - 1 - kk + 1) = B at *
  generalize i % N ^ (K - 1 - kk) = D at *
  generalize v * N ^ (K - 1 - kk) = C at *
  omega

theorem l2Value_eq {N K j : Nat} {a : Int × List (Int × List Int)} {T A : List Nat} (hN : 1 ≤ N) (h8 : N ≤ 8) (ha : a.1 = (N : Int)) (hj : j < a.2.length) (ho : OpN N a.2[j] K T) (hA : A.length = K) (hx : ∀ x ∈ A, x < N) : s_spec_l2Value a (j : Int) (NL A) = some ((ga T (ix N 0 A) : Nat) : Int) := by
  have hk3 := ho.k3
  have h512 := pow_le_512 h8 hk3
  unfold s_spec_l2Value
  rw [ha, forC0_fn (fun t => ((ix N 0 (A.take t) : Nat) : Int)) (n := K) (by rw [NL_len, hA]) (by omega) (by rfl)]
  · rw [Option.bind_some, after_br', List.take_of_length_le (by omega), idx_nat, List.getElem?_eq_getElem hj, Option.bind_some]
    have e : idx (a.2[j]).2 ((ix N 0 A : Nat) : Int) = some ((ga T (ix N 0 A) : Nat) : Int) := by rw [ho.eq]; exact idx_NL (by rw [ho.len]; exact ix0_lt hx hA)
    rw [e]; rfl
  · intro t ht
    have e : A.take (t + 1) = A.take t ++ [ga A t] := by rw [List.take_succ_eq_append_getElem (by omega), ga_get (by omega)]
    have h1 := ix0_lt (N := N) (K := t) (A := A.take t) (fun x hx' => hx x (List.mem_of_mem_take hx')) (by simp; omega)
    have h3 : N ^ t ≤ N ^ 2 := Nat.pow_le_pow_right hN (by omega)
    have h4 := sq_le h8
    rw [pow2] at h3
    have hv : ga A t < N := hx _ (ga_mem (by omega))
    have h6 : ix N 0 (A.take t) * N ≤ 64 * 8 := Nat.mul_le_mul (by omega) h8
    rw [idx_NL (by omega), Option.bind_some, w64_mul (by omega), w64_add (by omega), e, ix_append]
    rfl


structure Rnd (N : Nat) (ops : List (Int × List Int)) (p P : List Nat) : Prop where
  part : Part N P
  fin : Fin N p P
  less : P = p ∨ blocks P < blocks p
  way : ∀ P0, Way N ops P0 p → Way N ops P0 P

theorem l6Push_ok {N : Nat} {a : Int × List (Int × List Int)} (ha : AlgN a N) {p : List Nat} (hp : Part N p) : ∃ Q, s_spec_l6Push a (NL p) = some (NL Q) ∧ Rnd N a.2 p Q ∧ (Q = p → Cong N a.2 p) := by
  have hN := ha.n1
  have h8 := ha.n8
  have hl4 := ha.l4
  have hpl := hp.len
  unfold s_spec_l6Push
  rw [l1Own_eq (by rw [NL_len]; omega), Option.bind_some, ha.eN]
  rcases forC0_hoare (R := List Int) (step := fun k179 s177 =>
  (iter (S := (List Int) × Int) (R := (List Int)) (fun s267 =>
  (idx a.2 k179).bind fun x277 =>
  (bif (decide (s267.2 < (x277.2.length : Int))) then (idx a.2 k179).bind fun x291 =>
  (s_spec_l2Args (N : Int) x291.1 s267.2).bind fun r295 =>
  (forC (S := (List Int)) (R := (List Int)) (fun k324 s322 =>
  (s_spec_l1Own r295).bind fun r333 =>
  (idx r295 k324).bind fun x335 =>
  (idx (NL p) x335).bind fun x337 =>
  (idx r333 k324).bind fun x339 =>
  (idx a.2 k179).bind fun x343 =>
  (idx x343.2 s267.2).bind fun x348 =>
  (s_spec_l2Value ((N : Int), a.2) k179 (List.set r333 (Int.toNat k324) x337)).bind fun r351 =>
  (s_spec_l6Unite s322 x348 r351).bind fun r353 =>
  some (.nx r353)) 0 (r295.length : Int) s267.1).bind fun o326 => after o326 (fun r_ => some (.rt r_)) (fun s322 =>
  some (.nx (s322, w64 (s267.2 + 1)))) else some (.br (s267.1, s267.2)))) FU (s177, 0)).bind fun o271 => after o271 (fun r_ => some (.rt r_)) (fun s267 =>
  some (.nx s267.1))) (fun j s => ∃ P, s = NL P ∧ Rnd N a.2 p P ∧ (P = p → ∀ i, i < j → ∀ f, a.2[i]? = some f → CongF N p f)) (fun _ => False) (fun _ => False) (n := a.2.length) rfl (by omega) (s := NL p)
    ⟨p, rfl, ⟨hp, Fin.refl _ _, .inl rfl, fun P0 h => h⟩, fun _ i hi => by omega⟩ (by
    rintro j s hj ⟨P, rfl, hR, hc⟩
    left
    obtain ⟨K, T, ho⟩ := ha.ops a.2[j] (List.getElem_mem hj)
    have hfm : a.2[j] ∈ a.2 := List.getElem_mem hj
    have hk3 := ho.k3
    have h512 := pow_le_512 h8 hk3
    have e1 : (a.2[j]).1 = (K : Int) := by rw [ho.eq]
    have e2 : (a.2[j]).2 = NL T := by rw [ho.eq]
    obtain ⟨o, hoo, ⟨P', rfl, hR', hc'⟩, _⟩ := iter_inv (R := List Int) (step := fun s267 =>
  (idx a.2 (j : Int)).bind fun x277 =>
  (bif (decide (s267.2 < (x277.2.length : Int))) then (idx a.2 (j : Int)).bind fun x291 =>
  (s_spec_l2Args (N : Int) x291.1 s267.2).bind fun r295 =>
  (forC (S := (List Int)) (R := (List Int)) (fun k324 s322 =>
  (s_spec_l1Own r295).bind fun r333 =>
  (idx r295 k324).bind fun x335 =>
  (idx (NL p) x335).bind fun x337 =>
  (idx r333 k324).bind fun x339 =>
  (idx a.2 (j : Int)).bind fun x343 =>
  (idx x343.2 s267.2).bind fun x348 =>
  (s_spec_l2Value ((N : Int), a.2) (j : Int) (List.set r333 (Int.toNat k324) x337)).bind fun r351 =>
  (s_spec_l6Unite s322 x348 r351).bind fun r353 =>
  some (.nx r353)) 0 (r295.length : Int) s267.1).bind fun o326 => after o326 (fun r_ => some (.rt r_)) (fun s322 =>
  some (.nx (s322, w64 (s267.2 + 1)))) else some (.br (s267.1, s267.2))))
      (fun s => ∃ (t : Nat) (P' : List Nat), s = (NL P', (t : Int)) ∧ t ≤ N ^ K ∧ Rnd N a.2 p P' ∧ (P' = p → P = p ∧ ∀ i, i < t → ∀ k, k < K → cnd N p T k i)) (fun s => N ^ K - s.2.toNat)
      (fun o => ∃ P', o = .br (NL P', ((N ^ K : Nat) : Int)) ∧ Rnd N a.2 p P' ∧ (P' = p → P = p ∧ ∀ i, i < N ^ K → ∀ k, k < K → cnd N p T k i)) FU (NL P, 0) ⟨0, P, rfl, by omega, hR, fun h => ⟨h, fun i hi => by omega⟩⟩ (by show N ^ K - (0 : Int).toNat < FU; unfold FU; omega) (by
      rintro s ⟨t, P', rfl, ht, hR', hc'⟩
      have ij : idx a.2 (j : Int) = some a.2[j] := by rw [idx_nat, List.getElem?_eq_getElem hj]
      simp only [ij, Option.bind_some, e1, e2, NL_len, ho.len, dec_lt]
      by_cases htl : t < N ^ K
      · left
        rw [show decide (t < N ^ K) = true by simpa using htl, cond_true, l2ArgsN (by omega) hN (by omega), Option.bind_some]
        rcases forC0_hoare (R := List Int) (step := fun k324 s322 =>
  (s_spec_l1Own (NL (dig N K t))).bind fun r333 =>
  (idx (NL (dig N K t)) k324).bind fun x335 =>
  (idx (NL p) x335).bind fun x337 =>
  (idx r333 k324).bind fun x339 =>
  (idx (NL T) (t : Int)).bind fun x348 =>
  (s_spec_l2Value ((N : Int), a.2) (j : Int) (List.set r333 (Int.toNat k324) x337)).bind fun r351 =>
  (s_spec_l6Unite s322 x348 r351).bind fun r353 =>
  some (.nx r353)) (fun kk s => ∃ P2, s = NL P2 ∧ Rnd N a.2 p P2 ∧ (P2 = p → P' = p ∧ ∀ k, k < kk → cnd N p T (K - 1 - k) t)) (fun _ => False) (fun _ => False) (n := K) (hi := ((NL (dig N K t)).length : Int)) (by simp) (by omega) (s := NL P') ⟨P', rfl, hR', fun h => ⟨h, fun k hk => by omega⟩⟩ (by
          rintro kk s hkk ⟨P2, rfl, hR2, hc2⟩
          left
          have hdl : kk < (dig N K t).length := by simpa using hkk
          have hd : ga (dig N K t) kk < N := dig_lt hN K t _ (ga_mem hdl)
          have hpd := hp.lt hd
          have hkw : K - 1 - kk < K := by omega
          have hset : List.set (NL (dig N K t)) kk ((ga p (ga (dig N K t) kk) : Nat) : Int) = NL ((dig N K t).set kk (ga p (ga (dig N K t) kk))) := by
            unfold NL; rw [List.map_set]
          have hxs : ∀ x ∈ (dig N K t).set kk (ga p (ga (dig N K t) kk)), x < N := fun x hx => by
            rcases List.mem_or_eq_of_mem_set hx with h | h
            · exact dig_lt hN K t x h
            · rw [h]; exact hpd
          have hdd := dig_at N K t kk hkk
          have hval := l2Value_eq (a := ((N : Int), a.2)) (j := j) hN h8 rfl hj ho (A := (dig N K t).set kk (ga p (ga (dig N K t) kk))) (by simp) hxs
          rw [ix_set_dig htl hkk, hdd] at hval
          have a1 := ho.val htl
          have a2 := ho.val (sb_lt hN hkw htl (hp.lt (show t / N ^ (K - 1 - kk) % N < N from Nat.mod_lt _ hN)))
          rw [l1Own_eq (by simp; omega), Option.bind_some, idx_NL hdl, Option.bind_some, idx_NL (by omega), Option.bind_some, Option.bind_some, idx_NL (by rw [ho.len]; exact htl), Option.bind_some, Int.toNat_natCast, hset, hdd, hval, Option.bind_some, l6Unite_eq (by omega) hR2.part.len a1 a2, Option.bind_some]
          refine ⟨_, rfl, _, rfl, ⟨uni2_part hR2.part a1 a2, hR2.fin.trans (uni2_fin hR2.part), ?_, fun P0 hw => Way.unite hN hfm ho (hR2.way P0 hw) hw hkw htl⟩, fun h => ?_⟩
          · by_cases he : ga P2 (ga T t) = ga P2 (ga T (sb N (K - 1 - kk) t (ga p (t / N ^ (K - 1 - kk) % N))))
            · rw [uni2_same he]; exact hR2.less
            · right
              have := uni2_blocks hR2.part a1 a2 he
              rcases hR2.less with h | h
              · rw [h] at this ⊢; exact this
              · omega
          · have hP2 : P2 = p := by
              rcases hR2.less with h' | h'
              · exact h'
              · exfalso
                have := blocks_fin hR2.part (uni2_part hR2.part a1 a2) (uni2_fin hR2.part (x := ga T t) (y := ga T (sb N (K - 1 - kk) t (ga p (t / N ^ (K - 1 - kk) % N)))))
                rw [h] at this; omega
            refine ⟨(hc2 hP2).1, fun k hk => ?_⟩
            by_cases e : k = kk
            · subst e
              subst hP2
              have := uni2_joins hp a1 a2
              rw [h] at this; exact this
            · exact (hc2 hP2).2 k (by omega)) with ⟨s', e, ⟨P2, rfl, h1, h2⟩ | h⟩ | ⟨r, _, h⟩
        · refine ⟨(NL P2, ((t + 1 : Nat) : Int)), by rw [e, Option.bind_some, after_br', w64_add1 (by omega)], ⟨t + 1, P2, rfl, by omega, h1, fun h => ⟨(hc' (h2 h).1).1, fun i hi k hk => ?_⟩⟩, by simp; omega⟩
          by_cases e' : i = t
          · subst e'
            have := (h2 h).2 (K - 1 - k) (by omega)
            rwa [show K - 1 - (K - 1 - k) = k by omega] at this
          · exact (hc' (h2 h).1).2 i (by omega) k hk
        · exact h.elim
        · exact h.elim
      · right
        obtain rfl : t = N ^ K := by omega
        rw [show decide (N ^ K < N ^ K) = false by simp, cond_false]
        exact ⟨_, rfl, by intro s; simp, P', rfl, hR', hc'⟩)
    rw [hoo]
    refine ⟨NL P', rfl, P', rfl, hR', fun h i hi f hf => ?_⟩
    by_cases e : i = j
    · subst e
      rw [List.getElem?_eq_getElem hj] at hf
      cases hf
      intro K' T' ho'
      obtain ⟨rfl, rfl⟩ := ho.uniq ho'
      intro k hk i hi'
      exact (hc' h).2 i hi' k hk
    · exact hc (hc' h).1 i (by omega) f hf) with ⟨s', e, ⟨P, rfl, h1, h2⟩ | h⟩ | ⟨r, _, h⟩
  · refine ⟨P, by rw [e]; rfl, h1, fun h => ⟨hp, fun f hf => ?_⟩⟩
    obtain ⟨i, hi, rfl⟩ := List.mem_iff_getElem.1 hf
    exact h2 h i hi _ (List.getElem?_eq_getElem hi)
  · exact h.elim
  · exact h.elim


theorem Cong.isCg {N : Nat} {ops : List (Int × List Int)} {P : List Nat} (h : Cong N ops P) : IsCg N ops P P := ⟨h, Fin.refl _ _, fun _ _ h => h⟩

def CongL (N : Nat) (ops : List (Int × List Int)) (p : List Int) : Prop := ∃ P, p = NL P ∧ Cong N ops P

theorem congL_NL {N : Nat} {ops : List (Int × List Int)} {P : List Nat} : CongL N ops (NL P) ↔ Cong N ops P := by
  constructor
  · rintro ⟨Q, e, h⟩
    have : P = Q := by have := congrArg (List.map Int.toNat) e; simpa only [NL_toNat] using this
    subst this; exact h
  · intro h; exact ⟨P, rfl, h⟩

theorem partOk_of {N : Nat} {P : List Nat} (h : Part N P) : partOk (NL P) = true := by
  have hl := h.len
  simp only [partOk, List.all_eq_true, List.mem_range, Bool.and_eq_true, decide_eq_true_eq, beq_iff_eq, NL_len]
  intro x hx
  have hx' : x < N := by omega
  have e : ∀ y, y < N → gi (NL P) (y : Int) = ((ga P y : Nat) : Int) := fun y hy => by
    have h1 := idx_NL (T := P) (k := y) (by omega)
    rw [idx_gi (by omega) (by rw [NL_len]; omega)] at h1
    exact Option.some.inj h1
  rw [e x hx', e _ (h.lt hx'), h.idem x hx']
  have := h.le x hx'
  exact ⟨by omega, by omega, rfl⟩

theorem isCongruence_says {N : Nat} {a : Int × List (Int × List Int)} (ha : AlgN a N) (p : List Int) (hl : p.length ≤ 4294967296) : Says (s_impl_isCongruence (a.1, a.2) p) (CongL N a.2 p) := by
  unfold s_impl_isCongruence
  rw [show (a.1, a.2) = a from rfl, isPartition_eq _ _ hl, Option.bind_some, ha.eN]
  cases hp : (((p.length : Int) == (N : Int)) && partOk p) with
  | false =>
    refine .no rfl ?_
    rintro ⟨P, rfl, hc⟩
    rw [partOk_of hc.1, NL_len, hc.1.len] at hp
    simp at hp
  | true =>
    rw [Bool.and_eq_true, beq_iff_eq] at hp
    obtain ⟨P, rfl, hP⟩ := partOk_elim hp.2
    have hP : Part N P := by rw [show N = (NL P).length by omega]; exact hP
    rw [cond_true, clone_eq hl, Option.bind_some]
    obtain ⟨w, Q, e, hcg, h1, h2⟩ := closePartition_ok ha hP
    rw [e, Option.bind_some]
    refine Says.iff (Says.of (P := Cong N a.2 P) ?_) congL_NL.symm
    cases w with
    | false => exact ⟨fun _ => by rw [← h1 rfl]; exact hcg.cong, fun _ => rfl⟩
    | true => exact ⟨fun h => (nomatch h), fun h => absurd (hcg.uniq h.isCg) (h2 rfl)⟩

theorem l6Is_says {N : Nat} {a : Int × List (Int × List Int)} (ha : AlgN a N) (p : List Int) (hl : p.length ≤ 4294967296) : Says (s_spec_l6Is (a.1, a.2) p) (CongL N a.2 p) := by
  unfold s_spec_l6Is
  rw [show (a.1, a.2) = a from rfl, l6Partition_eq _ _ hl, Option.bind_some, ha.eN]
  cases hp : (((p.length : Int) == (N : Int)) && partOk p) with
  | false =>
    refine .no rfl ?_
    rintro ⟨P, rfl, hc⟩
    rw [partOk_of hc.1, NL_len, hc.1.len] at hp
    simp at hp
  | true =>
    rw [Bool.and_eq_true, beq_iff_eq] at hp
    obtain ⟨P, rfl, hP⟩ := partOk_elim hp.2
    have hP : Part N P := by rw [show N = (NL P).length by omega]; exact hP
    have h8 := ha.n8
    obtain ⟨Q, e, hR, hc⟩ := l6Push_ok ha hP
    rw [cond_true, e, Option.bind_some, l1Same_NL (by rw [hR.part.len]; omega), Option.bind_some]
    refine Says.iff (Says.of (P := Cong N a.2 P) ?_) congL_NL.symm
    rw [beq_iff_eq]
    refine ⟨hc, fun h => ?_⟩
    have hw := hR.way P ⟨hP, Fin.refl _ _, fun _ _ h => h⟩
    exact hw.part.ext hP (hw.least P h (Fin.refl _ _)) hw.fin

theorem areCongruences_says {a : Int × List (Int × List Int)} (hb : BA a) (L : List (List Int)) (hL : B2 L) : Says (s_impl_areCongruences (a.1, a.2) L) (∃ N, AlgN a N ∧ L.length ≤ 20 ∧ ∀ p ∈ L, CongL N a.2 p) := by
  unfold s_impl_areCongruences
  rcases alg_cases a hb with ⟨N, hN, _, e2⟩ | ⟨h, _, e2⟩
  · simp only [e2, Option.bind_some, Bool.not_true, cond_false]
    by_cases h20 : L.length ≤ 20
    · rw [show decide (20 < (L.length : Int)) = false by simp; omega, cond_false]
      refine Says.iff (range_says L (CongL N a.2) (fun p => s_impl_isCongruence (a.1, a.2) p) (fun p hp => isCongruence_says hN p (by have := hL.2 p hp; unfold B1 at this; omega)) 0) ⟨fun h => ⟨N, hN, h20, h⟩, ?_⟩
      rintro ⟨M, hM, _, h⟩
      have : M = N := by have := hM.eN; have := hN.eN; omega
      subst this; exact h
    · rw [show decide (20 < (L.length : Int)) = true by simp; omega, cond_true]
      exact .no rfl (fun ⟨_, _, h, _⟩ => h20 h)
  · simp only [e2, Option.bind_some, Bool.not_false, cond_true]
    exact .no rfl (fun ⟨N, hN, _⟩ => h ⟨N, hN⟩)


def solQ (cs : List (List Int)) (es : List Int) (x k : Nat) : Bool := gi (gi cs (k : Int)) (x : Int) == gi (gi cs (k : Int)) (gi es (k : Int))

def solR (N : Nat) (cs : List (List Int)) (es : List Int) : Int × Bool :=
  match (List.range N).findSome? (fun x => if (List.range cs.length).all (solQ cs es x) then some ((x : Int), true) else none) with
  | none => (0, false)
  | some r => r

theorem SolveTogether_same (a : Int × List (Int × List Int)) (cs : List (List Int)) (es : List Int) (hb : BA a) (hc : B2 cs) (he : B1 es) : ∃ z, s_spec_SolveTogether (a.1, a.2) cs es = some z ∧ s_impl_SolveTogether (a.1, a.2) cs es = some z := by
  have hc1 := hc.1
  unfold B1 at he
  have hA := areCongruences_says hb cs hc
  unfold s_spec_SolveTogether s_impl_SolveTogether
  simp only
  rcases alg_cases a hb with ⟨N, hN, e1, e2⟩ | ⟨h, e1, e2⟩
  · have hN1 := hN.n1
    have hN8 := hN.n8
    rw [e1, Option.bind_some, Bool.not_true, cond_false, inSize_eq, hN.eN, l2Elements_eq (by omega) (by omega) _ (by omega)]
    have hA : Says (s_impl_areCongruences (a.1, a.2) cs) (cs.length ≤ 20 ∧ ∀ p ∈ cs, CongL N a.2 p) := hA.iff ⟨fun ⟨M, hM, h1, h2⟩ => by
      have : M = N := by have := hM.eN; have := hN.eN; omega
      subst this; exact ⟨h1, h2⟩, fun ⟨h1, h2⟩ => ⟨N, hN, h1, h2⟩⟩
    rw [show (a.1, a.2) = ((N : Int), a.2) by rw [hN.eN]] at hA
    by_cases h8 : cs.length ≤ 8
    · rw [show decide (8 < (cs.length : Int)) = false by simp; omega, cond_false]
      by_cases hl : es.length = cs.length
      · rw [show ((es.length : Int) != (cs.length : Int)) = false by simp; omega, cond_false]
        cases hin : (es.all fun x => decide (0 ≤ x) && decide (x < (N : Int))) with
        | false =>
          refine ⟨(0, false), rfl, ?_⟩
          rcases hA.cases with ⟨e, _⟩ | ⟨e, _⟩ <;> rw [e] <;> rfl
        | true =>
          simp only [Option.bind_some, Bool.not_true, cond_false]
          have hsp : forC (S := Unit) (R := Int × Bool) (fun k40 s38 =>
  ((idx cs k40).bind fun x48 =>
  (s_spec_l6Partition (N : Int) x48).bind fun r53 =>
  (bif (!r53) then some true else (idx cs k40).bind fun x55 =>
  (s_spec_l6Is ((N : Int), a.2) x55).bind fun r60 =>
  some (!r60))).bind fun s44 =>
  (bif s44 then some (.rt (0, false)) else some (.nx ()))) 0 (cs.length : Int) () = some (bif (List.range cs.length).all (fun j => match s_spec_l6Is ((N : Int), a.2) (gi cs (j : Int)) with | some true => true | _ => false) then .br () else .rt (0, false)) := by
            refine forC0_chk _ _ rfl (by omega) fun j hj => ?_
            have hm : gi cs (j : Int) ∈ cs := gi_mem (by omega) (by omega)
            have hpl : (gi cs (j : Int)).length ≤ 4294967296 := by have := hc.2 _ hm; unfold B1 at this; omega
            rw [idx_gi (by omega) (by omega), Option.bind_some, l6Partition_eq _ _ hpl, Option.bind_some, Option.bind_some]
            have hs := l6Is_says hN (gi cs (j : Int)) hpl
            rw [show (a.1, a.2) = ((N : Int), a.2) by rw [hN.eN]] at hs
            rcases hs.cases with ⟨e, h⟩ | ⟨e, h⟩
            · obtain ⟨P, hP, hcg⟩ := h
              rw [e, hP, partOk_of hcg.1, NL_len, hcg.1.len]
              simp
            · rw [e]
              cases (((gi cs (j : Int)).length : Int) == (N : Int) && partOk (gi cs (j : Int))) <;> rfl
          rw [hsp]
          rcases hA.cases with ⟨e, _, hcg⟩ | ⟨e, hno⟩
          · have hall : (List.range cs.length).all (fun j => match s_spec_l6Is ((N : Int), a.2) (gi cs (j : Int)) with | some true => true | _ => false) = true := by
              rw [List.all_eq_true]
              intro j hj
              rw [List.mem_range] at hj
              have hm : gi cs (j : Int) ∈ cs := gi_mem (by omega) (by omega)
              have hpl : (gi cs (j : Int)).length ≤ 4294967296 := by have := hc.2 _ hm; unfold B1 at this; omega
              have hs := l6Is_says hN (gi cs (j : Int)) hpl
              rw [show (a.1, a.2) = ((N : Int), a.2) by rw [hN.eN]] at hs
              rcases hs.cases with ⟨e, h⟩ | ⟨e, h⟩
              · rw [e]
              · exact absurd (hcg _ hm) h
            rw [hall, e]
            simp only [Option.bind_some, Bool.not_true, cond_false, cond_true, after_br']
            have hrow : ∀ k : Nat, k < cs.length → (gi cs (k : Int)).length = N := fun k hk => by
              obtain ⟨P, hP, hc⟩ := hcg _ (gi_mem (l := cs) (i := (k : Int)) (by omega) (by omega))
              rw [hP, NL_len, hc.1.len]
            have hel : ∀ k : Nat, k < cs.length → 0 ≤ gi es (k : Int) ∧ gi es (k : Int) < (N : Int) := fun k hk => by
              have := List.all_eq_true.1 hin _ (gi_mem (l := es) (i := (k : Int)) (by omega) (by omega))
              simpa using this
            refine ⟨solR N cs es, ?_, ?_⟩
            · rw [forC0_find (fun x => if (List.range cs.length).all (solQ cs es x) then some ((x : Int), true) else none) (n := N) rfl (by omega)]
              · rw [Option.bind_some]; unfold solR
                cases (List.range N).findSome? (fun x => if (List.range cs.length).all (solQ cs es x) then some ((x : Int), true) else none) <;> rfl
              · intro x hx
                rw [forC0_fn (fun k => (List.range k).all (solQ cs es x)) (n := cs.length) (by rw [hl]) (by omega) (by rfl)]
                · rw [Option.bind_some, after_br']
                  cases (List.range cs.length).all (solQ cs es x) <;> rfl
                · intro k hk
                  have h1 := hrow k hk
                  have h2 := hel k hk
                  rw [idx_gi (l := cs) (by omega) (by omega), idx_gi (l := es) (by omega) (by omega), Option.bind_some, idx_gi (i := (x : Int)) (by omega) (by omega), Option.bind_some, Option.bind_some, Option.bind_some, idx_gi h2.1 (by omega), Option.bind_some, List.range_succ, List.all_append]
                  cases (List.range k).all (solQ cs es x) <;> simp [solQ]
            · rw [forC0_find (fun x => if (List.range cs.length).all (solQ cs es x) then some ((x : Int), true) else none) (n := N) rfl (by omega)]
              · rw [Option.bind_some]; unfold solR
                cases (List.range N).findSome? (fun x => if (List.range cs.length).all (solQ cs es x) then some ((x : Int), true) else none) <;> rfl
              · intro x hx
                rw [forC0_fn (fun k => (List.range k).all (solQ cs es x)) (n := cs.length) rfl (by omega) (by rfl)]
                · rw [Option.bind_some, after_br']
                  cases (List.range cs.length).all (solQ cs es x) <;> rfl
                · intro k hk
                  have h1 := hrow k hk
                  have h2 := hel k hk
                  rw [idx_gi (l := cs) (by omega) (by omega), idx_gi (l := es) (by omega) (by omega), Option.bind_some, idx_gi (i := (x : Int)) (by omega) (by omega), Option.bind_some, Option.bind_some, idx_gi h2.1 (by omega), Option.bind_some, List.range_succ, List.all_append]
                  cases (List.range k).all (solQ cs es x) <;> simp [solQ]
          · have hall : (List.range cs.length).all (fun j => match s_spec_l6Is ((N : Int), a.2) (gi cs (j : Int)) with | some true => true | _ => false) = false := by
              rw [Bool.eq_false_iff]
              intro hall
              refine hno ⟨by omega, fun p hp => ?_⟩
              obtain ⟨j, hj, rfl⟩ := List.mem_iff_getElem.1 hp
              have := List.all_eq_true.1 hall j (List.mem_range.2 hj)
              rw [gi_getElem hj] at this
              have hpl : (cs[j]).length ≤ 4294967296 := by have := hc.2 _ hp; unfold B1 at this; omega
              have hs := l6Is_says hN cs[j] hpl
              rw [show (a.1, a.2) = ((N : Int), a.2) by rw [hN.eN]] at hs
              rcases hs.cases with ⟨e, h⟩ | ⟨e, h⟩
              · exact h
              · rw [e] at this; cases this
            refine ⟨(0, false), ?_, ?_⟩
            · rw [hall]; rfl
            · rw [e]; rfl
      · rw [show ((es.length : Int) != (cs.length : Int)) = true by simp; omega, cond_true]
        refine ⟨(0, false), rfl, ?_⟩
        rcases hA.cases with ⟨e, _⟩ | ⟨e, _⟩ <;> rw [e] <;> rfl
    · rw [show decide (8 < (cs.length : Int)) = true by simp; omega, cond_true]
      refine ⟨(0, false), rfl, ?_⟩
      rcases hA.cases with ⟨e, _⟩ | ⟨e, _⟩ <;> rw [e] <;> rfl
  · refine ⟨(0, false), by rw [e1]; rfl, ?_⟩
    rcases hA.cases with ⟨e, N, hN, _⟩ | ⟨e, _⟩
    · exact absurd ⟨N, hN⟩ h
    · rw [e]; rfl

theorem s_laws_FnExactSolveTogether_ok (a : Int × List (Int × List Int)) (cs : List (List Int)) (es : List Int) (hn : OkP OkI (OkL (OkP OkI (OkL OkI))) a) (hnc : OkL (OkL OkI) cs) (_ : OkL OkI es) : s_laws_FnExactSolveTogether a cs es = some true := by
  unfold s_laws_FnExactSolveTogether
  by_cases h1 : (1048576 : Int) < es.length
  · simp [h1]
  have he : B1 es := by unfold B1; omega
  obtain ⟨u, hu, hb⟩ := OkAlg.sz hn 1048576 (by omega) (by omega)
  have hu : s_laws_szAlgebra (a.1, a.2) 1048576 = some u := hu
  rw [show decide ((1048576 : Int) < es.length) = false by simpa using h1, cond_false, hu, Option.bind_some]
  by_cases hneg : u < 0
  · rw [show decide (u < 0) = true by simpa using hneg]; rfl
  rcases hb with hb | ⟨ha, hu0, hu1⟩
  · exact absurd hb hneg
  rw [show decide (u < 0) = false by simpa using hneg, cond_false]
  obtain ⟨u', hu', hb⟩ := szIntSS_ok cs hnc.1 (fun x hx => (hnc.2 x hx).1) u hu0 hu1
  rw [hu', Option.bind_some]
  by_cases hneg' : u' < 0
  · rw [show decide (u' < 0) = true by simpa using hneg']; rfl
  rcases hb with hb | ⟨hc, _, _⟩
  · exact absurd hb hneg'
  have e1 : s_laws_toAlgebra (a.1, a.2) = some a := toAlgebra_ok a ha
  have e2 : s_laws_eqAlgebra (a.1, a.2) (a.1, a.2) = some true := eqAlgebra_refl a ha
  obtain ⟨⟨g, b⟩, z1, z2⟩ := SolveTogether_same a cs es ha hc he
  simp only [show decide (u' < 0) = false by simpa using hneg', cond_false, e1, e2, toIntSS_ok cs hc, eqIntSS_refl cs hc, toIntS_ok es he, eqIntS_refl es he, Option.bind_some, z1, z2, beq_self_eq_true, bne_self_eq_false, Bool.not_true, Bool.or_self]

end Go.Proofs
