/- Plain lemmas on what the functions compute, up to: the law gives true. No conditions. -/
import Derived.Test.YtmghggenjagioaaF5
import Derived.Test.YtmghggenjagioaaGPure
import Derived.Test.YtmghggenjagioaaGOpen
import Derived.Test.YtmghggenjagioaaGLoop
set_option linter.unusedVariables false
namespace Go.Proofs
open Go.G
set_option maxRecDepth 100000


/-- The last t digits of i, base n. -/
def digs (n : Int) : Nat → Int → List Int
  | 0, _ => []
  | t + 1, i => (i / n ^ t % n) :: digs n t i

theorem digs_loop {i k n : Int} {K : Nat} (hk : k = (K : Int)) (hK : K ≤ 4294967296) (hn : 1 ≤ n) (hi : 0 ≤ i) (hi' : i ≤ 9223372036854775807) : (
  (mks k (0 : Int)).bind fun y2 =>
  (iter (S := Int × Int × (List Int)) (R := (List Int)) (fun s17 =>
  (bif (decide (0 ≤ s17.2.1)) then (nz n).bind fun u26 =>
  (idx s17.2.2 s17.2.1).bind fun x27 =>
  (nz n).bind fun u30 =>
  some (.nx (w64 (Int.tdiv s17.1 n), w64 (s17.2.1 - 1), List.set s17.2.2 (Int.toNat s17.2.1) (Int.tmod s17.1 n))) else some (.br (s17.1, s17.2.1, s17.2.2)))) FU (i, w64 (k - 1), y2)).bind fun o21 => after o21 (fun r_ => some r_) (fun s17 =>
  some s17.2.2)) = some (digs n K i) := by
  subst hk
  rw [mks_ok rfl hK, Option.bind_some]
  have hp : ∀ t : Nat, 0 ≤ i / n ^ t ∧ i / n ^ t ≤ i := fun t => ⟨Int.ediv_nonneg hi (by exact Int.pow_nonneg (by omega)), ediv_le hi (by exact Int.pow_nonneg (by omega))⟩
  rw [iter_br (fun t => (i / n ^ t, (K : Int) - 1 - t, List.replicate (K - t) 0 ++ digs n t i)) (t := (i / n ^ K, -1, digs n K i)) K (by omega)]
  · rfl
  · rw [w64_id (by omega) (by omega)]; simp [digs]
  · intro j hj
    have e2 : List.replicate (K - j) (0 : Int) ++ digs n j i = List.replicate (K - (j + 1)) 0 ++ (0 :: digs n j i) := by
      rw [show K - j = (K - (j + 1)) + 1 by omega, List.replicate_succ', List.append_assoc]; rfl
    have hp1 := hp j
    have e3 : (K : Int) - 1 - j = ((K - (j + 1) : Nat) : Int) := by omega
    simp only [decide_true, show (0 : Int) ≤ (K : Int) - 1 - j by omega, cond_true, nz_ok (show n ≠ 0 by omega), Option.bind_some, tdiv_nn hp1.1, tmod_nn hp1.1]
    rw [w64_id (x := i / n ^ j / n) (by have := Int.ediv_nonneg hp1.1 (show 0 ≤ n by omega); omega) (by have := ediv_le hp1.1 (show 0 ≤ n by omega); omega), w64_id (by omega) (by omega), e2, e3, idx_nat, Int.toNat_natCast]
    simp only [List.getElem?_append, List.length_replicate, Nat.lt_irrefl, if_false, Nat.sub_self, List.getElem?_cons_zero, Option.bind_some, List.set_append, List.set_cons_zero, Option.some.injEq, Ctl.nx.injEq, Prod.mk.injEq]
    refine ⟨?_, by omega, by rw [digs]⟩
    rw [Int.pow_succ, Int.ediv_ediv_of_nonneg (Int.pow_nonneg (by omega))]
  · have : decide ((0 : Int) ≤ (K : Int) - 1 - K) = false := by simp; omega
    simp only [this, cond_false, Nat.sub_self, List.replicate_zero, List.nil_append]
    rw [show (K : Int) - 1 - K = -1 by omega]

theorem l2Args_eq {i k n : Int} {K : Nat} (hk : k = (K : Int)) (hK : K ≤ 4294967296) (hn : 1 ≤ n) (hi : 0 ≤ i) (hi' : i ≤ 9223372036854775807) : s_spec_l2Args n k i = some (digs n K i) :=
  digs_loop hk hK hn hi hi'

theorem argsAt_eq {i k n : Int} {K : Nat} (hk : k = (K : Int)) (hK : K ≤ 4294967296) (hn : 1 ≤ n) (hi : 0 ≤ i) (hi' : i ≤ 9223372036854775807) : s_impl_argsAt i k n = some (digs n K i) :=
  digs_loop hk hK hn hi hi'


theorem eqIntS_eq (a b : List Int) (ha : a.length ≤ 4294967296) : s_laws_eqIntS a b = some (a == b) := by
  unfold s_laws_eqIntS
  by_cases hl : a.length = b.length
  · rw [hl]
    simp only [bne_self_eq_false, cond_false]
    rw [forC0_chk (n := b.length) (fun j => a[j]? == b[j]?) false rfl (by omega)]
    · have : (a == b) = (List.range b.length).all (fun j => a[j]? == b[j]?) := by
        rw [Bool.eq_iff_iff]
        simp only [beq_iff_eq, List.all_eq_true, List.mem_range]
        constructor
        · rintro rfl j _; rfl
        · intro h; apply List.ext_getElem?; intro j
          by_cases hj : j < b.length
          · exact h j hj
          · rw [List.getElem?_eq_none (by omega), List.getElem?_eq_none (by omega)]
      rw [← this]
      cases a == b <;> rfl
    · intro j hj
      have hj' : j < a.length := by omega
      simp only [idx_nat, List.getElem?_eq_getElem hj, List.getElem?_eq_getElem hj', Option.bind_some]
      by_cases h : a[j] = b[j]
      · simp [h]
      · simp [bne, beq_eq_false_iff_ne.2 h]
  · have h1 : (a == b) = false := by
      rw [Bool.eq_false_iff]; intro h; exact hl (by rw [beq_iff_eq.1 h])
    have h2 : ((a.length : Int) != (b.length : Int)) = true := by simp; omega
    rw [h1, h2]; rfl

theorem toIntS_eq (a : List Int) (ha : a.length ≤ 4294967296) : s_laws_toIntS a = some a := by
  unfold s_laws_toIntS
  rw [mks_ok rfl ha, Option.bind_some, forC0_set (fun j => a[j]?.getD 0) (z := 0) (n := a.length) rfl ha rfl]
  · rw [Option.bind_some, after_br', map_range_getElem]
  · intro j s hj hs
    simp [List.getElem?_eq_getElem hj, List.getElem?_eq_getElem (show j < s.length by omega)]

/-- The marks k, k + 1, .. -/
def marks (n : Nat) (k : Int) : List Int := (List.range n).map fun j : Nat => k + (j : Int)

theorem markIntS_eq (a : List Int) (k : Int) (ha : a.length ≤ 4294967296) (h0 : 0 ≤ k) (h1 : k ≤ 4611686018427387904) : s_laws_markIntS a k = some (k + (a.length : Int), marks a.length k) := by
  unfold s_laws_markIntS
  rw [iter_br (fun t => (k + (t : Int), (t : Int), marks t k ++ a.drop t)) (t := (k + (a.length : Int), (a.length : Int), marks a.length k)) a.length (by omega)]
  · rfl
  · simp [marks]
  · intro j hj
    have hm : (marks j k).length = j := by simp [marks]
    have hl : (marks j k ++ a.drop j).length = a.length := by simp [hm]; omega
    have e2 : a.drop j = a[j] :: a.drop (j + 1) := by rw [List.drop_eq_getElem_cons hj]
    have hd : decide ((j : Int) < (a.length : Int)) = true := by simp; omega
    simp only [hl, hd, cond_true, idx_nat]
    rw [w64_id (by omega) (by omega), w64_id (by omega) (by omega), e2, List.getElem?_append_right (by omega), hm, Nat.sub_self, List.getElem?_cons_zero, Option.bind_some, Int.toNat_natCast, List.set_append_right _ _ (by omega), hm, Nat.sub_self, List.set_cons_zero]
    have e3 : marks (j + 1) k = marks j k ++ [k + (j : Int)] := by simp [marks, List.range_succ]
    rw [e3]; simp [Int.add_assoc]
  · have hl : (marks a.length k ++ a.drop a.length).length = a.length := by simp [marks]
    simp only [hl]
    simp

theorem heldIntS_eq (n : Nat) (k : Int) (ha : n ≤ 4294967296) (h0 : 0 ≤ k) (h1 : k ≤ 4611686018427387904) : s_laws_heldIntS (marks n k) k = some (k + (n : Int)) := by
  unfold s_laws_heldIntS
  rw [forC0_fn (fun j => k + (j : Int)) (n := n) (by simp [marks]) (by omega) (by simp)]
  · rfl
  · intro j hj
    have : (marks n k)[j]? = some (k + (j : Int)) := by simp [marks, hj]
    simp only [idx_nat, this, Option.bind_some, bne_self_eq_false, cond_false]
    rw [w64_id (by omega) (by omega)]; simp [Int.add_assoc]


theorem pow_loop {n k : Int} {N K : Nat} (hn : n = (N : Int)) (hk : k = (K : Int)) (hN : 1 ≤ N) (hK : N ^ K ≤ 9223372036854775807) (hK2 : K ≤ 4294967296) : (
  (iter (S := Int × Int) (R := Int) (fun s2 =>
  (bif (decide (0 < s2.1)) then some (.nx (w64 (s2.1 - 1), w64 (s2.2 * n))) else some (.br (s2.1, s2.2)))) FU (k, 1)).bind fun o6 => after o6 (fun r_ => some r_) (fun s2 =>
  some s2.2)) = some ((N ^ K : Nat) : Int) := by
  subst hn hk
  rw [iter_br (fun t => ((K : Int) - t, ((N ^ t : Nat) : Int))) (t := (0, ((N ^ K : Nat) : Int))) K (by omega)]
  · rfl
  · simp
  · intro j hj
    have hd : decide ((0 : Int) < (K : Int) - j) = true := by simp; omega
    have hp : N ^ (j + 1) ≤ N ^ K := Nat.pow_le_pow_right hN (by omega)
    simp only [hd, cond_true]
    rw [w64_id (by omega) (by omega), show ((N ^ j : Nat) : Int) * (N : Int) = ((N ^ (j + 1) : Nat) : Int) by rw [Nat.pow_succ]; simp, w64_nat (by omega)]
    simp; omega
  · simp

theorem power_eq {n k : Int} {N K : Nat} (hn : n = (N : Int)) (hk : k = (K : Int)) (hN : 1 ≤ N) (hK : N ^ K ≤ 9223372036854775807) (hK2 : K ≤ 4294967296) : s_impl_power n k = some ((N ^ K : Nat) : Int) := pow_loop hn hk hN hK hK2

theorem l2Pow_eq {n k : Int} {N K : Nat} (hn : n = (N : Int)) (hk : k = (K : Int)) (hN : 1 ≤ N) (hK : N ^ K ≤ 9223372036854775807) (hK2 : K ≤ 4294967296) : s_spec_l2Pow n k = some ((N ^ K : Nat) : Int) := pow_loop hn hk hN hK hK2


theorem inSize_eq (l : List Int) (n : Int) : s_impl_inSize l n = some (l.all fun x => decide (0 ≤ x) && decide (x < n)) := by
  unfold s_impl_inSize
  rw [forR_chk (fun x => decide (0 ≤ x) && decide (x < n)) false]
  · cases l.all fun x => decide (0 ≤ x) && decide (x < n) <;> rfl
  · intro i x _
    by_cases h : x < 0
    · simp [h]; simp [show ¬ 0 ≤ x by omega]
    · by_cases h' : n ≤ x
      · simp [h, h']; simp [show ¬ x < n by omega]
      · simp [h, h', show 0 ≤ x by omega, show x < n by omega]


theorem l1In_eq (x a b : Int) : s_spec_l1In x a b = some (decide (a ≤ x) && decide (x ≤ b)) := by
  unfold s_spec_l1In
  by_cases h : a ≤ x <;> simp [h]


theorem all_range {α : Type} (l : List α) (p : α → Bool) (d : α) : (List.range l.length).all (fun j => p (l[j]?.getD d)) = l.all p := by
  rw [Bool.eq_iff_iff]
  simp only [List.all_eq_true, List.mem_range]
  constructor
  · intro h x hx
    obtain ⟨i, hi, rfl⟩ := List.mem_iff_getElem.1 hx
    have := h i hi
    simpa [List.getElem?_eq_getElem hi] using this
  · intro h j hj
    rw [List.getElem?_eq_getElem hj]
    exact h _ (List.getElem_mem hj)


/-- An operation over a set of N. -/
def opOk (N : Nat) (f : Int × List Int) : Bool := decide (0 ≤ f.1) && (decide (f.1 ≤ 3) && (decide (f.2.length = N ^ f.1.toNat) && f.2.all fun x => decide (0 ≤ x) && decide (x < (N : Int))))

theorem pow_small {N K : Nat} (hN8 : N ≤ 8) (hK : K ≤ 3) : N ^ K ≤ 512 := by
  have h1 : N ^ K ≤ 8 ^ K := Nat.pow_le_pow_left hN8 K
  have h2 : 8 ^ K ≤ 8 ^ 3 := Nat.pow_le_pow_right (by omega) hK
  omega

theorem isOp_eq {n : Int} {N : Nat} (hn : n = (N : Int)) (hN : 1 ≤ N) (hN8 : N ≤ 8) (f : Int × List Int) : s_impl_isOp f n = some (opOk N f) := by
  obtain ⟨a, t⟩ := f
  unfold s_impl_isOp opOk
  by_cases h0 : 0 ≤ a
  · by_cases h3 : a ≤ 3
    · obtain ⟨K, rfl⟩ : ∃ K : Nat, a = (K : Int) := ⟨a.toNat, by omega⟩
      have hp : N ^ K ≤ 512 := pow_small hN8 (by omega)
      have hi : s_impl_inSize t n = some (t.all fun x => decide (0 ≤ x) && decide (x < (N : Int))) := by rw [inSize_eq, hn]
      simp only [h0, h3, decide_true, cond_true, Bool.true_and, Int.toNat_natCast]
      rw [power_eq hn rfl hN (by omega) (by omega), Option.bind_some, hi, Option.bind_some]
      by_cases hl : t.length = N ^ K
      · simp [hl]
      · have : ((t.length : Int) == ((N ^ K : Nat) : Int)) = false := by rw [beq_nat]; simp [hl]
        rw [this]; simp [hl]
    · simp [h0, h3]
  · simp [h0]

theorem l2Op_eq {n : Int} {N : Nat} (hn : n = (N : Int)) (hN : 1 ≤ N) (hN8 : N ≤ 8) (f : Int × List Int) (hl : f.2.length ≤ 4294967296) : s_spec_l2Op n f = some (opOk N f) := by
  obtain ⟨a, t⟩ := f
  unfold s_spec_l2Op opOk
  simp only [l1In_eq, Option.bind_some]
  by_cases h0 : 0 ≤ a
  · by_cases h3 : a ≤ 3
    · obtain ⟨K, rfl⟩ : ∃ K : Nat, a = (K : Int) := ⟨a.toNat, by omega⟩
      have hp : N ^ K ≤ 512 := pow_small hN8 (by omega)
      simp only [h0, h3, decide_true, Bool.true_and, Bool.not_true, cond_false, Int.toNat_natCast]
      rw [l2Pow_eq hn rfl hN (by omega) (by omega), Option.bind_some, Option.bind_some]
      by_cases hl' : t.length = N ^ K
      · have e1 : ((t.length : Int) != ((N ^ K : Nat) : Int)) = false := by rw [hl']; simp
        rw [e1, cond_false, w64_id (by omega) (by omega), forC0_chk (n := t.length) (fun j => decide (0 ≤ t[j]?.getD 0) && decide (t[j]?.getD 0 < (N : Int))) false rfl (by simp at hl; omega)]
        · rw [all_range t (fun x => decide (0 ≤ x) && decide (x < (N : Int))) 0]
          cases t.all fun x => decide (0 ≤ x) && decide (x < (N : Int)) <;> simp [hl']
        · intro j hj
          simp only [idx_nat, List.getElem?_eq_getElem hj, Option.bind_some, Option.getD_some]
          have : decide (t[j] ≤ n - 1) = decide (t[j] < (N : Int)) := by rw [decide_eq_decide]; omega
          rw [this]
          cases decide (0 ≤ t[j]) && decide (t[j] < (N : Int)) <;> rfl
      · have e1 : ((t.length : Int) != ((N ^ K : Nat) : Int)) = true := by rw [bne, beq_nat]; simp [hl']
        rw [e1]; simp [hl']
    · simp [h0, h3]
  · simp [h0]


theorem szIntS_eq (a : List Int) (left : Int) (ha : a.length ≤ 9223372036854775807) (h0 : 0 ≤ left) (h1 : left ≤ 4611686018427387904) : s_laws_szIntS a left = some (if left < a.length then -1 else left - a.length) := by
  unfold s_laws_szIntS
  rw [w64_id (by omega) (by omega)]
  by_cases h : left < a.length
  · rw [if_pos h]; simp [show left - (a.length : Int) < 0 by omega]
  · rw [if_neg h]; simp [show ¬ left - (a.length : Int) < 0 by omega]

theorem same_loop (a b : List Int) (ha : a.length ≤ 4294967296) : (
  (bif ((a.length : Int) != (b.length : Int)) then some false else (forC (S := Unit) (R := Bool) (fun k12 s10 =>
  (idx a k12).bind fun x17 =>
  (idx b k12).bind fun x19 =>
  (bif (x17 != x19) then some (.rt false) else some (.nx ()))) 0 (a.length : Int) ()).bind fun o14 => after o14 (fun r_ => some r_) (fun s10 =>
  some true))) = some (a == b) := by
  by_cases hl : a.length = b.length
  · rw [hl]
    simp only [bne_self_eq_false, cond_false]
    rw [forC0_chk (n := b.length) (fun j => a[j]? == b[j]?) false rfl (by omega)]
    · have : (a == b) = (List.range b.length).all (fun j => a[j]? == b[j]?) := by
        rw [Bool.eq_iff_iff]
        simp only [beq_iff_eq, List.all_eq_true, List.mem_range]
        constructor
        · rintro rfl j _; rfl
        · intro h; apply List.ext_getElem?; intro j
          by_cases hj : j < b.length
          · exact h j hj
          · rw [List.getElem?_eq_none (by omega), List.getElem?_eq_none (by omega)]
      rw [← this]
      cases a == b <;> rfl
    · intro j hj
      have hj' : j < a.length := by omega
      simp only [idx_nat, List.getElem?_eq_getElem hj, List.getElem?_eq_getElem hj', Option.bind_some]
      by_cases h : a[j] = b[j]
      · simp [h]
      · simp [bne, beq_eq_false_iff_ne.2 h]
  · have h1 : (a == b) = false := by
      rw [Bool.eq_false_iff]; intro h; exact hl (by rw [beq_iff_eq.1 h])
    have h2 : ((a.length : Int) != (b.length : Int)) = true := by simp; omega
    rw [h1, h2]; rfl

theorem l1Same_eq (a b : List Int) (ha : a.length ≤ 4294967296) : s_spec_l1Same a b = some (a == b) := by
  unfold s_spec_l1Same; exact same_loop a b ha

theorem sameList_eq (a b : List Int) (ha : a.length ≤ 4294967296) : s_impl_sameList a b = some (a == b) := by
  rw [← same_loop a b ha]
  unfold s_impl_sameList
  congr 1
  congr 1
  · congr 1
    funext k s
    cases idx a k with
    | none => rfl
    | some x => cases idx b k with
      | none => rfl
      | some y =>
        simp only [Option.bind_some]
        by_cases h : x = y
        · subst h; rfl
        · simp [bne, beq_eq_false_iff_ne.2 h, beq_eq_false_iff_ne.2 (Ne.symm h)]


def NL (T : List Nat) : List Int := T.map fun x : Nat => (x : Int)

@[simp] theorem NL_len (T : List Nat) : (NL T).length = T.length := by simp [NL]

@[simp] theorem NL_nil : NL [] = [] := rfl

@[simp] theorem NL_cons (x : Nat) (T : List Nat) : NL (x :: T) = (x : Int) :: NL T := rfl

theorem NL_app (S T : List Nat) : NL (S ++ T) = NL S ++ NL T := by simp [NL]

theorem NL_inj {S T : List Nat} (h : NL S = NL T) : S = T := by
  induction S generalizing T with
  | nil => cases T with
    | nil => rfl
    | cons y T => cases h
  | cons x S ih => cases T with
    | nil => cases h
    | cons y T =>
      simp only [NL_cons, List.cons.injEq] at h
      rw [ih h.2, show x = y by omega]

theorem NL_beq (S T : List Nat) : (NL S == NL T) = (S == T) := by
  rw [Bool.eq_iff_iff, beq_iff_eq, beq_iff_eq]; exact ⟨NL_inj, fun h => by rw [h]⟩

def ga (T : List Nat) (k : Nat) : Nat := T.getD k 0

theorem ga_get {T : List Nat} {k : Nat} (h : k < T.length) : ga T k = T[k] := by simp [ga, List.getElem?_eq_getElem h]

theorem ga_mem {T : List Nat} {k : Nat} (h : k < T.length) : ga T k ∈ T := by rw [ga_get h]; exact List.getElem_mem h

theorem idx_NL {T : List Nat} {k : Nat} (h : k < T.length) : idx (NL T) (k : Int) = some ((ga T k : Nat) : Int) := by
  rw [idx_nat, ga_get h]; simp [NL, List.getElem?_eq_getElem h]

theorem NL_of {t : List Int} (h : ∀ x ∈ t, 0 ≤ x) : ∃ T : List Nat, t = NL T := by
  refine ⟨t.map Int.toNat, ?_⟩
  unfold NL
  rw [List.map_map]
  conv => lhs; rw [← List.map_id t]
  refine List.map_congr_left fun x hx => ?_
  have := h x hx
  simp; omega

theorem map_ga (T : List Nat) : (List.range T.length).map (ga T) = T := by
  apply List.ext_getElem
  · simp
  · intro i h1 h2
    simp only [List.getElem_map, List.getElem_range]
    exact ga_get h2

theorem w64_add {a b : Nat} (h : a + b ≤ 9223372036854775807) : w64 ((a : Int) + (b : Int)) = ((a + b : Nat) : Int) := by
  rw [w64_id (by omega) (by omega)]; omega

theorem w64_add1 {a : Nat} (h : a + 1 ≤ 9223372036854775807) : w64 ((a : Int) + 1) = ((a + 1 : Nat) : Int) := by
  rw [w64_id (by omega) (by omega)]; omega

theorem w64_mul {a b : Nat} (h : a * b ≤ 9223372036854775807) : w64 ((a : Int) * (b : Int)) = ((a * b : Nat) : Int) := by
  rw [← Int.natCast_mul, w64_nat h]

theorem w64_div {a b : Nat} (h : a ≤ 9223372036854775807) : w64 (Int.tdiv (a : Int) (b : Int)) = ((a / b : Nat) : Int) := by
  rw [tdiv_nat, w64_nat (Nat.le_trans (Nat.div_le_self _ _) h)]

theorem dec_lt (a b : Nat) : decide ((a : Int) < (b : Int)) = decide (a < b) := by rw [decide_eq_decide]; omega

theorem dec_le (a b : Nat) : decide ((a : Int) ≤ (b : Int)) = decide (a ≤ b) := by rw [decide_eq_decide]; omega

theorem lin2 {x y N M : Nat} (hx : x < N) (hy : y < M) : x * M + y < N * M := by
  calc x * M + y < x * M + M := by omega
    _ = (x + 1) * M := by rw [Nat.add_mul, Nat.one_mul]
    _ ≤ N * M := Nat.mul_le_mul_right M hx

theorem lin2_div {x y M : Nat} (hy : y < M) : (x * M + y) / M = x := by
  rw [Nat.mul_comm, Nat.mul_add_div (by omega), Nat.div_eq_of_lt hy]; omega

theorem lin2_mod {x y M : Nat} (hy : y < M) : (x * M + y) % M = y := by
  rw [Nat.mul_comm, Nat.mul_add_mod, Nat.mod_eq_of_lt hy]

def dig (N : Nat) : Nat → Nat → List Nat
  | 0, _ => []
  | t + 1, i => (i / N ^ t % N) :: dig N t i

@[simp] theorem dig_len (N : Nat) : ∀ (t i : Nat), (dig N t i).length = t
  | 0, _ => rfl
  | t + 1, i => by simp [dig, dig_len N t i]

theorem digs_NL (N : Nat) : ∀ (t i : Nat), digs (N : Int) t (i : Int) = NL (dig N t i)
  | 0, _ => rfl
  | t + 1, i => by
    simp only [digs, dig, NL_cons, digs_NL N t i]
    congr 1

theorem dig_lt {N : Nat} (h : 0 < N) : ∀ (t i : Nat), ∀ x ∈ dig N t i, x < N
  | 0, _, _, h => by cases h
  | t + 1, i, x, hx => by
    rcases List.mem_cons.1 hx with rfl | hx
    · exact Nat.mod_lt _ h
    · exact dig_lt h t i x hx

theorem argsN {i K N : Nat} (hK : K ≤ 4294967296) (hN : 1 ≤ N) (hi : i ≤ 9223372036854775807) : s_impl_argsAt (i : Int) (K : Int) (N : Int) = some (NL (dig N K i)) := by
  rw [argsAt_eq (K := K) rfl hK (by omega) (by omega) (by omega), digs_NL]

theorem l2ArgsN {i K N : Nat} (hK : K ≤ 4294967296) (hN : 1 ≤ N) (hi : i ≤ 9223372036854775807) : s_spec_l2Args (N : Int) (K : Int) (i : Int) = some (NL (dig N K i)) := by
  rw [l2Args_eq (K := K) rfl hK (by omega) (by omega) (by omega), digs_NL]


/-- An operation on N, of the arity K. -/
structure OpN (N : Nat) (f : Int × List Int) (K : Nat) (T : List Nat) : Prop where
  eq : f = ((K : Int), NL T)
  k3 : K ≤ 3
  len : T.length = N ^ K
  lt : ∀ x ∈ T, x < N

theorem opOk_elim {N : Nat} {f : Int × List Int} (h : opOk N f = true) : ∃ K T, OpN N f K T := by
  obtain ⟨a, t⟩ := f
  simp only [opOk, Bool.and_eq_true, decide_eq_true_eq, List.all_eq_true] at h
  obtain ⟨h0, h3, hl, hx⟩ := h
  obtain ⟨T, rfl⟩ := NL_of (fun x hx' => (hx x hx').1)
  obtain ⟨K, rfl⟩ : ∃ K : Nat, a = (K : Int) := ⟨a.toNat, by omega⟩
  refine ⟨K, T, rfl, by omega, by simpa using hl, fun x hx' => ?_⟩
  have := (hx (x : Int) (List.mem_map.2 ⟨x, hx', rfl⟩)).2
  omega

theorem OpN.ok {N : Nat} {f : Int × List Int} {K : Nat} {T : List Nat} (h : OpN N f K T) : opOk N f = true := by
  obtain ⟨rfl, h3, hl, hx⟩ := h
  simp only [opOk, Bool.and_eq_true, decide_eq_true_eq, List.all_eq_true]
  refine ⟨by omega, by omega, by simpa using hl, fun x hx' => ?_⟩
  obtain ⟨y, hy, rfl⟩ := List.mem_map.1 hx'
  have := hx y hy
  simp; omega

theorem pow2 (N : Nat) : N ^ 2 = N * N := by rw [Nat.pow_succ, Nat.pow_succ, Nat.pow_zero, Nat.one_mul]


def ix (N : Nat) (s : Nat) (A : List Nat) : Nat := A.foldl (fun s x => s * N + x) s

theorem ix_lt {N : Nat} : ∀ (A : List Nat) (s : Nat), (∀ x ∈ A, x < N) → ix N s A < (s + 1) * N ^ A.length
  | [], s, _ => by simp [ix]
  | x :: A, s, h => by
    have h1 := ix_lt A (s * N + x) (fun y hy => h y (by simp [hy]))
    have hx := h x (by simp)
    have : (s * N + x + 1) * N ^ A.length ≤ (s + 1) * N * N ^ A.length := by
      apply Nat.mul_le_mul_right; rw [Nat.add_mul, Nat.one_mul]; omega
    show ix N (s * N + x) A < _
    rw [List.length_cons, Nat.pow_succ, Nat.mul_comm (N ^ A.length), ← Nat.mul_assoc]
    omega

theorem ix0_lt {N K : Nat} {A : List Nat} (h : ∀ x ∈ A, x < N) (hl : A.length = K) : ix N 0 A < N ^ K := by
  have := ix_lt A 0 h; rw [hl] at this; simpa using this

theorem indexOf_loop {N : Nat} (hN : 1 ≤ N) : ∀ (A : List Nat) (s : Nat) (i : Int), (∀ x ∈ A, x < N) → (s + 1) * N ^ A.length ≤ 9223372036854775807 →
    forR (S := Int) (R := Int) (fun _ x6 s3 => some (.nx (w64 ((w64 (s3 * (N : Int))) + x6)))) i (NL A) (s : Int) = some (.br ((ix N s A : Nat) : Int))
  | [], s, i, _, _ => rfl
  | x :: A, s, i, h, hb => by
    have hx := h x (by simp)
    have hp : 1 ≤ N ^ A.length := Nat.pow_pos (by omega)
    rw [List.length_cons, Nat.pow_succ, Nat.mul_comm (N ^ A.length), ← Nat.mul_assoc] at hb
    have h1 : (s * N + x + 1) * N ^ A.length ≤ (s + 1) * N * N ^ A.length := by
      apply Nat.mul_le_mul_right; rw [Nat.add_mul, Nat.one_mul]; omega
    have h2 : s * N + x + 1 ≤ (s * N + x + 1) * N ^ A.length := Nat.le_mul_of_pos_right _ hp
    rw [NL_cons]
    unfold forR
    rw [w64_mul (by omega), w64_add (by omega)]
    exact indexOf_loop hN A (s * N + x) (i + 1) (fun y hy => h y (by simp [hy])) (by omega)

theorem indexOf_eq {N : Nat} (hN : 1 ≤ N) {A : List Nat} (h : ∀ x ∈ A, x < N) (hb : N ^ A.length ≤ 9223372036854775807) : s_impl_indexOf (NL A) (N : Int) = some ((ix N 0 A : Nat) : Int) := by
  unfold s_impl_indexOf
  have := indexOf_loop hN A 0 0 h (by simpa using hb)
  rw [show (((0 : Nat) : Int)) = 0 from rfl] at this
  rw [this]; rfl

theorem compose_eq {F G : List Nat} (h : ∀ x ∈ F, x < G.length) (hl : F.length ≤ 4294967296) : s_impl_compose (NL F) (NL G) = some (NL (F.map (ga G))) := by
  unfold s_impl_compose
  rw [mks_ok rfl (by simpa using hl), Option.bind_some, forC0_set (fun j => ((ga G (ga F j) : Nat) : Int)) (z := 0) (n := F.length) (by simp) (by omega) (by simp)]
  · rw [Option.bind_some, after_br']
    congr 1
    conv => rhs; rw [← map_ga F]
    unfold NL; simp
  · intro j s hj hs
    rw [idx_NL hj, Option.bind_some, idx_NL (h _ (ga_mem hj)), Option.bind_some]
    simp [List.getElem?_eq_getElem (show j < s.length by omega)]

theorem pow_le_512 {N K : Nat} (h8 : N ≤ 8) (hK : K ≤ 3) : N ^ K ≤ 512 := pow_small h8 hK

theorem projection_eq {N K place : Nat} (h1 : 1 ≤ N) (h8 : N ≤ 8) (hK : K ≤ 3) (hp : place < K) : s_impl_projection (N : Int) (K : Int) (place : Int) = some (NL ((List.range (N ^ K)).map fun i => ga (dig N K i) place)) := by
  have hb := pow_le_512 h8 hK
  unfold s_impl_projection
  rw [power_eq rfl rfl h1 (by omega) (by omega), Option.bind_some, mks_ok rfl (by omega), Option.bind_some, forC0_set (fun i => ((ga (dig N K i) place : Nat) : Int)) (z := 0) (n := N ^ K) (by simp) (by omega) rfl]
  · simp [NL]
  · intro j s hj hs
    rw [argsN (by omega) h1 (by omega), Option.bind_some, idx_NL (by simpa using hp), Option.bind_some]
    simp [List.getElem?_eq_getElem (show j < s.length by omega)]

theorem l12Projection_eq {N K place : Nat} (h1 : 1 ≤ N) (h8 : N ≤ 8) (hK : K ≤ 3) (hp : place < K) : s_spec_l12Projection (N : Int) (K : Int) (place : Int) = some (NL ((List.range (N ^ K)).map fun i => ga (dig N K i) place)) := by
  have hb := pow_le_512 h8 hK
  unfold s_spec_l12Projection
  rw [iter_br (fun j => (NL ((List.range j).map fun i => ga (dig N K i) place), (j : Int))) (t := (NL ((List.range (N ^ K)).map fun i => ga (dig N K i) place), ((N ^ K : Nat) : Int))) (N ^ K) (by omega) (by rfl)]
  · rfl
  · intro j hj
    rw [l2Pow_eq rfl rfl h1 (by omega) (by omega), Option.bind_some]
    simp only [dec_lt, hj, decide_true, cond_true]
    rw [l2ArgsN (by omega) h1 (by omega), Option.bind_some, idx_NL (by simpa using hp), Option.bind_some, app_ok (by simp; omega), Option.bind_some, w64_add1 (by omega)]
    simp [List.range_succ, NL]
  · rw [l2Pow_eq rfl rfl h1 (by omega) (by omega), Option.bind_some]
    simp only [dec_lt, Nat.lt_irrefl, decide_false, cond_false]


theorem dig2 {N x y : Nat} (hx : x < N) (hy : y < N) : dig N 2 (x * N + y) = [x, y] := by
  simp only [dig, Nat.pow_one, Nat.pow_zero, Nat.div_one, lin2_div hy, lin2_mod hy, Nat.mod_eq_of_lt hx]

/-- The value of a ternary table. -/
def t3 (T : List Nat) (N a b c : Nat) : Nat := ga T ((a * N + b) * N + c)

def vat (N : Nat) (T P : List Nat) (i : Nat) : Nat := ga T (ix N 0 (P.map (ga (dig N 2 i))))

theorem valuesAt_eq {N : Nat} {T P : List Nat} (h1 : 1 ≤ N) (h8 : N ≤ 8) (hT : T.length = N ^ 3) (hP : P.length = 3) (hp : ∀ x ∈ P, x < 2) : s_impl_valuesAt (N : Int) (NL T) (NL P) = some (NL ((List.range (N * N)).map (vat N T P))) := by
  have h2 : N * N ≤ 8 * 8 := Nat.mul_le_mul h8 h8
  have h512 := pow_le_512 h8 (show 3 ≤ 3 by omega)
  unfold s_impl_valuesAt
  rw [w64_mul (by omega), forC0_app (fun i => ((vat N T P i : Nat) : Int)) rfl (by omega)]
  · simp [NL]
  · intro j s hj hs
    have hl : ∀ x ∈ P.map (ga (dig N 2 j)), x < N := by
      intro x hx
      obtain ⟨y, hy, rfl⟩ := List.mem_map.1 hx
      exact dig_lt h1 2 j _ (ga_mem (by simpa using hp y hy))
    have hlen : (P.map (ga (dig N 2 j))).length = 3 := by simpa using hP
    have := argsN (i := j) (K := 2) (N := N) (by omega) h1 (by omega)
    rw [show ((2 : Nat) : Int) = 2 from rfl] at this
    rw [this, Option.bind_some, compose_eq (by simpa using hp) (by omega), Option.bind_some, indexOf_eq h1 hl (by rw [hlen]; omega), Option.bind_some, idx_NL (by rw [hT]; exact ix0_lt hl hlen), Option.bind_some]
    rfl

theorem vat_at {N x y a b c : Nat} {T : List Nat} (hx : x < N) (hy : y < N) : vat N T [a, b, c] (x * N + y) = t3 T N (ga [x, y] a) (ga [x, y] b) (ga [x, y] c) := by
  unfold vat t3
  rw [dig2 hx hy]
  simp [ix]

theorem firsts_eq {N : Nat} (h1 : 1 ≤ N) (h8 : N ≤ 8) : s_impl_firsts (N : Int) = some (NL ((List.range (N * N)).map fun i => ga (dig N 2 i) 0)) := by
  unfold s_impl_firsts
  have := projection_eq (K := 2) (place := 0) h1 h8 (by omega) (by omega)
  rw [pow2] at this
  exact (by simpa using this)

theorem seconds_eq {N : Nat} (h1 : 1 ≤ N) (h8 : N ≤ 8) : s_impl_seconds (N : Int) = some (NL ((List.range (N * N)).map fun i => ga (dig N 2 i) 1)) := by
  unfold s_impl_seconds
  have := projection_eq (K := 2) (place := 1) h1 h8 (by omega) (by omega)
  rw [pow2] at this
  exact (by simpa using this)


theorem NL_toNat (T : List Nat) : (NL T).map Int.toNat = T := by
  unfold NL; rw [List.map_map]; exact (List.map_congr_left (fun x _ => by simp)).trans (List.map_id T)


def NLL (L : List (List Nat)) : List (List Int) := L.map NL

@[simp] theorem NLL_len (L : List (List Nat)) : (NLL L).length = L.length := by simp [NLL]

@[simp] theorem NLL_nil : NLL [] = [] := rfl

@[simp] theorem NLL_cons (x : List Nat) (L : List (List Nat)) : NLL (x :: L) = NL x :: NLL L := rfl

def gl (L : List (List Nat)) (k : Nat) : List Nat := L.getD k []

theorem gl_get {L : List (List Nat)} {k : Nat} (h : k < L.length) : gl L k = L[k] := by simp [gl, List.getElem?_eq_getElem h]

theorem gl_mem {L : List (List Nat)} {k : Nat} (h : k < L.length) : gl L k ∈ L := by rw [gl_get h]; exact List.getElem_mem h

theorem idx_NLL {L : List (List Nat)} {k : Nat} (h : k < L.length) : idx (NLL L) (k : Int) = some (NL (gl L k)) := by
  rw [idx_nat, gl_get h]; simp [NLL, List.getElem?_eq_getElem h]

theorem l1Same_NL {a b : List Nat} (h : a.length ≤ 4294967296) : s_spec_l1Same (NL a) (NL b) = some (a == b) := by
  rw [l1Same_eq _ _ (by simpa using h), NL_beq]

theorem sameList_NL {a b : List Nat} (h : a.length ≤ 4294967296) : s_impl_sameList (NL a) (NL b) = some (a == b) := by
  rw [sameList_eq _ _ (by simpa using h), NL_beq]


theorem sq_le {N : Nat} (h : N ≤ 8) : N * N ≤ 64 := by have := Nat.mul_le_mul h h; omega


def cmp (N : Nat) (T : List Nat) (tabs : List (List Nat)) (i : Nat) : Nat := ga T (ix N 0 (tabs.map fun t => ga t i))

theorem ix_append (N s : Nat) (A B : List Nat) : ix N s (A ++ B) = ix N (ix N s A) B := by simp [ix]

theorem l12Compose_eq {N K size : Nat} {T : List Nat} {tabs : List (List Nat)} {k : Int} (hN : 1 ≤ N) (h8 : N ≤ 8) (hK : K ≤ 3) (hT : T.length = N ^ K) (ht : tabs.length = K) (hl : ∀ t ∈ tabs, t.length = size) (hx : ∀ t ∈ tabs, ∀ x ∈ t, x < N)
    (hs : size ≤ 4294967296) : s_spec_l12Compose (N : Int) (k, NL T) (NLL tabs) (size : Int) = some (NL ((List.range size).map (cmp N T tabs))) := by
  have h512 := pow_le_512 h8 hK
  unfold s_spec_l12Compose
  rw [forC0_app (fun i => ((cmp N T tabs i : Nat) : Int)) rfl hs]
  · simp [NL]
  · intro i s hi _
    have hlt : ∀ x ∈ tabs.map (fun t => ga t i), x < N := by
      intro x hx'
      obtain ⟨t, ht', rfl⟩ := List.mem_map.1 hx'
      exact hx t ht' _ (ga_mem (by rw [hl t ht']; exact hi))
    rw [forC0_fn (fun j => ((ix N 0 ((tabs.take j).map fun t => ga t i) : Nat) : Int)) (n := K) (by simp [ht]) (by omega) (by rfl)]
    · rw [Option.bind_some, after_br', List.take_of_length_le (by omega)]
      simp only
      rw [idx_NL (by rw [hT]; exact ix0_lt hlt (by simpa using ht)), Option.bind_some]
      rfl
    · intro j hj
      have hg : gl tabs j ∈ tabs := gl_mem (by omega)
      have e : tabs.take (j + 1) = tabs.take j ++ [gl tabs j] := by
        rw [List.take_succ_eq_append_getElem (by omega), gl_get (by omega)]
      have h1 : ∀ x ∈ (tabs.take j).map (fun t => ga t i), x < N := fun x hx' => hlt x (by
        obtain ⟨t, ht', rfl⟩ := List.mem_map.1 hx'
        exact List.mem_map.2 ⟨t, List.mem_of_mem_take ht', rfl⟩)
      have h2 := ix0_lt (K := j) h1 (by simp; omega)
      have h3 : N ^ j ≤ N ^ 2 := Nat.pow_le_pow_right (by omega) (by omega)
      have h4 := sq_le h8
      rw [pow2] at h3
      have hv : ga (gl tabs j) i < N := hx _ hg _ (ga_mem (by rw [hl _ hg]; exact hi))
      have h5 := lin2 h2 hv
      have h6 : N ^ j * N ≤ 64 * 8 := Nat.mul_le_mul (by omega) h8
      rw [idx_NLL (by omega), Option.bind_some, idx_NL (by rw [hl _ hg]; exact hi), Option.bind_some, w64_mul (by omega), w64_add (by omega), e, List.map_append, ix_append]
      rfl



theorem eqS_refl {α : Type} (eq : α → α → Option Bool) (a : List α) (ha : a.length ≤ 9223372036854775807) (h : ∀ x ∈ a, eq x x = some true) :
    (bif ((a.length : Int) != (a.length : Int)) then some false else (forC (S := Unit) (R := Bool) (fun k s => (idx a k).bind fun x => (idx a k).bind fun y => (eq x y).bind fun r => (bif (!r) then some (.rt false) else some (.nx ()))) 0 (a.length : Int) ()).bind fun o => after o (fun r_ => some r_) (fun s => some true)) = some true := by
  rw [bne_self_eq_false, cond_false, forC0_chk (n := a.length) (fun _ => true) false rfl ha]
  · rw [show ((List.range a.length).all fun _ => true) = true by simp]; rfl
  · intro j hj
    simp only [idx_nat, List.getElem?_eq_getElem hj, Option.bind_some, h _ (List.getElem_mem hj)]
    rfl

theorem toS_loop {α : Type} (f : α → Option α) (z : α) (a : List α) (ha : a.length ≤ 4294967296) (h : ∀ x ∈ a, f x = some x) :
    ((mks (a.length : Int) z).bind fun y3 => (forC (S := List α) (R := List α) (fun k s => (idx a k).bind fun x => (f x).bind fun r => (idx s k).bind fun _ => some (.nx (List.set s (Int.toNat k) r))) 0 (a.length : Int) y3).bind fun o => after o (fun r_ => some r_) (fun s => some s)) = some a := by
  rw [mks_ok rfl ha, Option.bind_some, forC0_set (fun j => a[j]?.getD z) (z := z) (n := a.length) rfl ha rfl]
  · rw [Option.bind_some, after_br', map_range_getElem]
  · intro j s hj hs
    simp only [idx_nat, List.getElem?_eq_getElem hj, List.getElem?_eq_getElem (show j < s.length by omega), Option.bind_some, h _ (List.getElem_mem hj), Option.getD_some, Int.toNat_natCast]

/-- Sizes: what is counted is bounded. -/
def SzOk {α : Type} (sz : α → Int → Option Int) (Bd : α → Prop) (a : α) : Prop := ∀ l : Int, 0 ≤ l → l ≤ 1048576 → ∃ v, sz a l = some v ∧ (v < 0 ∨ (Bd a ∧ 0 ≤ v ∧ v ≤ l))

theorem szS_loop {α : Type} (sz : α → Int → Option Int) (Bd : α → Prop) (a : List α) (ha : a.length ≤ 9223372036854775807) (h : ∀ x ∈ a, SzOk sz Bd x) (l : Int) (h0 : 0 ≤ l) (h1 : l ≤ 1048576) :
    ∃ v, (bif (decide ((w64 (l - (a.length : Int))) < 0)) then some (-1) else (forC (S := Int) (R := Int) (fun k s => (idx a k).bind fun x => (sz x s).bind fun r => (bif (decide (r < 0)) then some (.rt (-1)) else some (.nx r))) 0 (a.length : Int) (w64 (l - (a.length : Int)))).bind fun o => after o (fun r_ => some r_) (fun s => some s)) = some v ∧
      (v < 0 ∨ ((a.length ≤ 1048576 ∧ ∀ x ∈ a, Bd x) ∧ 0 ≤ v ∧ v ≤ l)) := by
  rw [w64_id (by omega) (by omega)]
  by_cases hl : l - (a.length : Int) < 0
  · rw [show decide (l - (a.length : Int) < 0) = true by simpa using hl]
    exact ⟨-1, rfl, .inl (by omega)⟩
  · rw [show decide (l - (a.length : Int) < 0) = false by simpa using hl, cond_false]
    rcases forC0_hoare (step := fun k s => (idx a k).bind fun x => (sz x s).bind fun r => (bif (decide (r < 0)) then some (Ctl.rt (S := Int) (-1 : Int)) else some (.nx r))) (fun j s => 0 ≤ s ∧ s ≤ l ∧ ∀ i, i < j → ∀ x, a[i]? = some x → Bd x) (fun _ => False) (fun r => r = -1) (n := a.length) rfl (by omega) (s := l - (a.length : Int)) ⟨by omega, by omega, fun i hi => by omega⟩ (by
      rintro j s hj ⟨hs0, hs1, hb⟩
      obtain ⟨v, hv, hv'⟩ := h a[j] (List.getElem_mem hj) s hs0 (by omega)
      simp only [idx_nat, List.getElem?_eq_getElem hj, Option.bind_some, hv]
      rcases hv' with hv' | ⟨hB, hv0, hv1⟩
      · right; right
        rw [show decide (v < 0) = true by simpa using hv']
        exact ⟨_, rfl, rfl⟩
      · left
        rw [show decide (v < 0) = false by simp; omega]
        refine ⟨_, rfl, hv0, by omega, fun i hi x hx => ?_⟩
        by_cases e : i = j
        · subst e
          rw [List.getElem?_eq_getElem hj] at hx
          cases hx; exact hB
        · exact hb i (by omega) x hx) with ⟨s', e, ⟨a1, a2, a3⟩ | hF⟩ | ⟨r, e, rfl⟩
    · rw [e]
      refine ⟨s', rfl, .inr ⟨⟨by omega, fun x hx => ?_⟩, a1, a2⟩⟩
      obtain ⟨i, hi, rfl⟩ := List.mem_iff_getElem.1 hx
      exact a3 i hi _ (List.getElem?_eq_getElem hi)
    · exact hF.elim
    · rw [e]
      exact ⟨-1, rfl, .inl (by omega)⟩

/-- Marks are found again. -/
def MkOk {α β : Type} (mk : α → Int → Option (Int × β)) (hd : β → Int → Option Int) (C : Nat) (a : α) : Prop :=
  ∀ k : Int, 0 ≤ k → k + C ≤ 4611686018427387904 → ∃ k' a', mk a k = some (k', a') ∧ hd a' k = some k' ∧ k ≤ k' ∧ k' ≤ k + C

theorem markS_loop {α : Type} (mk : α → Int → Option (Int × α)) (hd : α → Int → Option Int) (C : Nat) (a : List α) (ha : a.length ≤ 1048576) (h : ∀ x ∈ a, MkOk mk hd C x) {step : Int × Int × List α → Option (Ctl (Int × Int × List α) (Int × List α))}
    {hstep : Int → Int → List α → Option (Ctl Int Int)}
    (h1 : ∀ (k : Int) (i : Nat) (l : List α) (hi : i < l.length), l.length = a.length → (∃ z, mk l[i] k = some z) → 0 ≤ k → k + C ≤ 4611686018427387904 → step (k, (i : Int), l) = (mk l[i] k).bind fun r => some (.nx (r.1, ((i + 1 : Nat) : Int), l.set i r.2)))
    (h2 : ∀ (k : Int) (i : Nat) (l : List α), i = l.length → step (k, (i : Int), l) = some (.br (k, (i : Int), l)))
    (h3 : ∀ (k : Int) (i : Nat) (l : List α) (hi : i < l.length) (k' : Int), hd l[i] k = some k' → 0 ≤ k → k ≤ k' → k' ≤ k + C → k + C ≤ 4611686018427387904 → hstep (i : Int) k l = some (.nx k')) :
    ∀ k : Int, 0 ≤ k → k + ((a.length * C : Nat) : Int) ≤ 4611686018427387904 → ∃ k' a', ((iter (S := Int × Int × List α) (R := Int × List α) step FU (k, 0, a)).bind fun o => after o (fun r_ => some r_) (fun s => some (s.1, s.2.2))) = some (k', a') ∧
      ((forC (S := Int) (R := Int) (fun i s => hstep i s a') 0 (a'.length : Int) k).bind fun o => after o (fun r_ => some r_) (fun s => some s)) = some k' ∧ k ≤ k' ∧ k' ≤ k + ((a.length * C : Nat) : Int) := by
  intro k hk0 hk1
  -- the marked part, and where each begins
  have main : ∀ m, m ≤ a.length → ∃ (ks : Nat → Int) (l : List α), ks 0 = k ∧ l.length = a.length ∧ (∀ j, j < m → ks j ≤ ks (j + 1) ∧ ks (j + 1) ≤ ks j + C ∧ ∃ x, l[j]? = some x ∧ hd x (ks j) = some (ks (j + 1))) ∧ (∀ j, m ≤ j → l[j]? = a[j]?) ∧
      ∀ fu, iter (S := Int × Int × List α) (R := Int × List α) step (fu + m) (k, 0, a) = iter step fu (ks m, (m : Int), l) := by
    intro m
    induction m with
    | zero => intro _; exact ⟨fun _ => k, a, rfl, rfl, fun j hj => by omega, fun j _ => rfl, fun fu => rfl⟩
    | succ m ih =>
      intro hm
      obtain ⟨ks, l, e0, el, e1, e2, e3⟩ := ih (by omega)
      have hks : ∀ j, j ≤ m → k ≤ ks j ∧ ks j ≤ k + ((j * C : Nat) : Int) := by
        intro j
        induction j with
        | zero => intro _; rw [e0]; omega
        | succ j ihj =>
          intro hj
          have := ihj (by omega)
          have h4 := e1 j (by omega)
          rw [Nat.add_mul, Nat.one_mul]; omega
      have hmC : (m + 1) * C ≤ a.length * C := Nat.mul_le_mul_right C hm
      have hkm := hks m (Nat.le_refl _)
      rw [Nat.add_mul, Nat.one_mul] at hmC
      have hml : m < l.length := by omega
      have hxm : l[m] = a[m]'(by omega) := by
        have := e2 m (Nat.le_refl _)
        rw [List.getElem?_eq_getElem hml, List.getElem?_eq_getElem (by omega)] at this
        exact Option.some.inj this
      obtain ⟨k', x', g1, g2, g3, g4⟩ := h (a[m]'(by omega)) (List.getElem_mem _) (ks m) (by omega) (by omega)
      refine ⟨fun j => if j ≤ m then ks j else k', l.set m x', by simp [e0], by simpa using el, fun j hj => ?_, fun j hj => ?_, fun fu => ?_⟩
      · by_cases e : j = m
        · subst e
          simp only [Nat.le_refl, if_true, show ¬ j + 1 ≤ j by omega, if_false]
          exact ⟨g3, g4, x', by rw [List.getElem?_set_self hml], g2⟩
        · have := e1 j (by omega)
          simp only [show j ≤ m by omega, show j + 1 ≤ m by omega, if_true]
          refine ⟨this.1, this.2.1, ?_⟩
          rw [List.getElem?_set_ne (by omega)]
          exact this.2.2
      · rw [List.getElem?_set_ne (by omega)]; exact e2 j (by omega)
      · have := e3 (fu + 1)
        rw [show fu + (m + 1) = fu + 1 + m by omega, this]
        rw [iter_nx (s' := (k', ((m + 1 : Nat) : Int), l.set m x'))]
        · simp only [show ¬ m + 1 ≤ m by omega, if_false]
        · rw [h1 _ m l hml el ⟨_, by rw [hxm]; exact g1⟩ (by omega) (by omega), hxm, g1]
          simp only [Option.bind_some]
  obtain ⟨ks, l, e0, el, e1, e2, e3⟩ := main a.length (Nat.le_refl _)
  have hks : ∀ j, j ≤ a.length → k ≤ ks j ∧ ks j ≤ k + ((j * C : Nat) : Int) := by
    intro j
    induction j with
    | zero => intro _; rw [e0]; omega
    | succ j ihj =>
      intro hj
      have := ihj (by omega)
      have h4 := e1 j (by omega)
      rw [Nat.add_mul, Nat.one_mul]; omega
  refine ⟨ks a.length, l, ?_, ?_, (hks _ (Nat.le_refl _)).1, (hks _ (Nat.le_refl _)).2⟩
  · have := e3 (FU - a.length)
    rw [show FU - a.length + a.length = FU by unfold FU; omega] at this
    rw [this]
    obtain ⟨n, hn⟩ : ∃ n, FU - a.length = n + 1 := ⟨FU - a.length - 1, by unfold FU; omega⟩
    rw [hn]
    rw [iter_out (h2 _ _ _ (by omega)) (by intro s; simp)]
    rfl
  · rw [forC0_fn ks (n := a.length) (by rw [el]) (by omega) e0.symm]
    · rfl
    · intro j hj
      obtain ⟨g3, g4, x, hx, g2⟩ := e1 j hj
      have hjl : j < l.length := by omega
      rw [List.getElem?_eq_getElem hjl] at hx
      have hkj := hks j (by omega)
      have hC : (j + 1) * C ≤ a.length * C := Nat.mul_le_mul_right C hj
      rw [Nat.add_mul, Nat.one_mul] at hC
      exact h3 _ j l hjl _ (by rw [Option.some.inj hx]; exact g2) (by omega) g3 g4 (by omega)


def B1 (l : List Int) : Prop := l.length ≤ 1048576

theorem markIntS_ok (a : List Int) (ha : B1 a) : MkOk s_laws_markIntS s_laws_heldIntS 1048576 a := by
  intro k h0 h1
  unfold B1 at ha
  refine ⟨_, _, markIntS_eq a k (by omega) h0 (by omega), heldIntS_eq a.length k (by omega) h0 (by omega), by omega, by omega⟩

theorem szIntS_ok (a : List Int) (ha : a.length ≤ maxLen) : SzOk s_laws_szIntS B1 a := by
  intro l h0 h1
  unfold maxLen at ha
  rw [szIntS_eq a l (by omega) h0 (by omega)]
  by_cases h : l < a.length
  · rw [if_pos h]; exact ⟨-1, rfl, .inl (by omega)⟩
  · rw [if_neg h]; exact ⟨_, rfl, .inr ⟨by unfold B1; omega, by omega, by omega⟩⟩

theorem eqIntS_refl (a : List Int) (ha : B1 a) : s_laws_eqIntS a a = some true := by
  unfold B1 at ha; rw [eqIntS_eq a a (by omega)]; simp

theorem toIntS_ok (a : List Int) (ha : B1 a) : s_laws_toIntS a = some a := by
  unfold B1 at ha; exact toIntS_eq a (by omega)


theorem neg_dec' {k : Int} (h : 0 ≤ k) : decide (k < 0) = false := by simp; omega

def BO (f : Int × List Int) : Prop := B1 f.2

def BA (a : Int × List (Int × List Int)) : Prop := a.2.length ≤ 1048576 ∧ ∀ f ∈ a.2, BO f

theorem szOp_ok (a : Int × List Int) (ha : a.2.length ≤ maxLen) : SzOk s_laws_szOp BO a := by
  intro l h0 h1
  obtain ⟨v, hv, h2⟩ := szIntS_ok a.2 ha l h0 h1
  unfold s_laws_szOp
  rw [hv, Option.bind_some]
  by_cases hn : v < 0
  · rw [show decide (v < 0) = true by simpa using hn]; exact ⟨-1, rfl, .inl (by omega)⟩
  · rw [show decide (v < 0) = false by simpa using hn]; exact ⟨v, rfl, h2⟩

theorem eqOp_refl (a : Int × List Int) (ha : BO a) : s_laws_eqOp a a = some true := by
  unfold s_laws_eqOp
  rw [bne_self_eq_false, cond_false, eqIntS_refl a.2 ha]; rfl

theorem toOp_ok (a : Int × List Int) (ha : BO a) : s_laws_toOp a = some a := by
  unfold s_laws_toOp; rw [toIntS_ok a.2 ha]; rfl

theorem szAlgebra_ok (a : Int × List (Int × List Int)) (ha : a.2.length ≤ maxLen) (h : ∀ f ∈ a.2, f.2.length ≤ maxLen) : SzOk s_laws_szAlgebra BA a := by
  intro l h0 h1
  obtain ⟨v, hv, h2⟩ := szS_loop s_laws_szOp BO a.2 (by unfold maxLen at ha; omega) (fun x hx => szOp_ok x (h x hx)) l h0 h1
  have hv : s_laws_szOpS a.2 l = some v := hv
  unfold s_laws_szAlgebra
  rw [hv, Option.bind_some]
  by_cases hn : v < 0
  · rw [show decide (v < 0) = true by simpa using hn]; exact ⟨-1, rfl, .inl (by omega)⟩
  · rw [show decide (v < 0) = false by simpa using hn]; exact ⟨v, rfl, h2⟩

theorem eqAlgebra_refl (a : Int × List (Int × List Int)) (ha : BA a) : s_laws_eqAlgebra a a = some true := by
  have e : s_laws_eqOpS a.2 a.2 = some true := eqS_refl s_laws_eqOp a.2 (by have := ha.1; omega) (fun x hx => eqOp_refl x (ha.2 x hx))
  unfold s_laws_eqAlgebra
  rw [bne_self_eq_false, cond_false, e]; rfl

theorem toAlgebra_ok (a : Int × List (Int × List Int)) (ha : BA a) : s_laws_toAlgebra a = some a := by
  have e : s_laws_toOpS a.2 = some a.2 := toS_loop s_laws_toOp (0, []) a.2 (by have := ha.1; omega) (fun x hx => toOp_ok x (ha.2 x hx))
  unfold s_laws_toAlgebra; rw [e]; rfl

/-- The marks of an operation that lies in a row. -/
def mkOp1 (x : Int × List Int) (k : Int) : Option (Int × (Int × List Int)) := (s_laws_markIntS x.2 (k + 1)).bind fun r => some (r.1, (k, r.2))

def hdOp1 (x : Int × List Int) (k : Int) : Option Int := if x.1 = k then some (k + 1 + (x.2.length : Int)) else none

theorem mkOp1_ok (x : Int × List Int) (hx : BO x) : MkOk mkOp1 hdOp1 1048577 x := by
  intro k h0 h1
  have hx' : x.2.length ≤ 1048576 := hx
  refine ⟨k + 1 + (x.2.length : Int), (k, marks x.2.length (k + 1)), by unfold mkOp1; rw [markIntS_eq x.2 (k + 1) (by omega) (by omega) (by omega)]; rfl, by unfold hdOp1; rw [if_pos rfl]; simp [marks], by omega, by omega⟩

theorem markAlgebra_ok (a : Int × List (Int × List Int)) (ha : BA a) (k : Int) (h0 : 0 ≤ k) (h1 : k + 1099512676352 ≤ 4611686018427387904) :
    ∃ k' t, s_laws_markAlgebra a k = some (k', t) ∧ 0 ≤ k' ∧ k' ≤ k + 1099512676352 := by
  have hl := ha.1
  have hC : a.2.length * 1048577 ≤ 1048576 * 1048577 := Nat.mul_le_mul_right _ hl
  have h := markS_loop mkOp1 hdOp1 1048577 a.2 hl (fun x hx => mkOp1_ok x (ha.2 x hx)) (step := fun s57 =>
  (bif (decide (s57.2.1 < (s57.2.2.length : Int))) then (idx s57.2.2 s57.2.1).bind fun x66 =>
  (idx (List.set s57.2.2 (Int.toNat s57.2.1) (s57.1, x66.2)) s57.2.1).bind fun x70 =>
  (s_laws_markIntS x70.2 (w64 (s57.1 + 1))).bind fun r76 =>
  some (.nx (r76.1, w64 (s57.2.1 + 1), List.set (List.set s57.2.2 (Int.toNat s57.2.1) (s57.1, x66.2)) (Int.toNat s57.2.1) (x70.1, r76.2))) else some (.br (s57.1, s57.2.1, s57.2.2))))
    (hstep := fun i k l => (idx l i).bind fun x => (hdOp1 x k).bind fun r => some (.nx r)) (fun k i l hi hl' hm h0 hk => by
      obtain ⟨z, hz⟩ := hm
      have hd : decide ((i : Int) < (l.length : Int)) = true := by simp; omega
      have hs : (l.set i (k, l[i].2))[i]? = some (k, l[i].2) := by rw [List.getElem?_set_self hi]
      simp only [hd, cond_true, idx_nat, List.getElem?_eq_getElem hi, Option.bind_some, Int.toNat_natCast, hs, w64_add1 (show i + 1 ≤ 9223372036854775807 by omega), w64_id (show -9223372036854775808 ≤ k + 1 by omega) (show k + 1 ≤ 9223372036854775807 by omega), List.set_set, mkOp1]
      rw [Option.bind_assoc]
      rfl) (fun k i l hi => by subst hi; simp) (fun k i l hi k' hh h0 h1 h2 hk => by
      simp only [idx_nat, List.getElem?_eq_getElem hi, Option.bind_some, hh]) k h0 (by omega)
  obtain ⟨k', t, g1, _, g3, g4⟩ := h
  have g1' : s_laws_markOpS a.2 k = some (k', t) := g1
  exact ⟨k', t, by unfold s_laws_markAlgebra; rw [g1']; rfl, by omega, by omega⟩



/-- A test, and what it says. -/
def Says (o : Option Bool) (P : Prop) : Prop := ∃ b, o = some b ∧ (b = true ↔ P)

theorem Says.cases {o : Option Bool} {P : Prop} (h : Says o P) : (o = some true ∧ P) ∨ (o = some false ∧ ¬ P) := by
  obtain ⟨b, rfl, hb⟩ := h
  cases b with
  | true => exact .inl ⟨rfl, hb.1 rfl⟩
  | false => exact .inr ⟨rfl, fun hp => by cases hb.2 hp⟩

theorem Says.yes {o : Option Bool} {P : Prop} (h : o = some true) (hp : P) : Says o P := ⟨true, h, by simp [hp]⟩

theorem Says.no {o : Option Bool} {P : Prop} (h : o = some false) (hp : ¬ P) : Says o P := ⟨false, h, by simp [hp]⟩

theorem Says.iff {o : Option Bool} {P Q : Prop} (h : Says o P) (hq : P ↔ Q) : Says o Q := by
  obtain ⟨b, rfl, hb⟩ := h; exact ⟨b, rfl, hb.trans hq⟩

/-- A test of all elements of a row. -/
theorem range_says {α : Type} (l : List α) (P : α → Prop) (f : α → Option Bool) (h : ∀ x ∈ l, Says (f x) (P x)) : ∀ i : Int, Says ((forR (S := Unit) (R := Bool) (fun _ x s => (f x).bind fun r => (bif (!r) then some (.rt false) else some (.nx ()))) i l ()).bind fun o => after o (fun r_ => some r_) (fun _ => some true)) (∀ x ∈ l, P x) := by
  induction l with
  | nil => intro i; exact .yes rfl (by simp)
  | cons x l ih =>
    intro i
    have := ih (fun y hy => h y (by simp [hy])) (i + 1)
    unfold forR
    rcases (h x (by simp)).cases with ⟨e, hp⟩ | ⟨e, hp⟩
    · rw [e]
      refine Says.iff this ?_
      simp [hp]
    · rw [e]
      exact .no rfl (fun H => hp (H x (by simp)))

theorem count_says {α : Type} (l : List α) (P : α → Prop) (f : α → Option Bool) (hl : l.length ≤ 9223372036854775807) (h : ∀ x ∈ l, Says (f x) (P x)) : Says ((forC (S := Unit) (R := Bool) (fun k s => (idx l k).bind fun x => (f x).bind fun r => (bif (!r) then some (.rt false) else some (.nx ()))) 0 (l.length : Int) ()).bind fun o => after o (fun r_ => some r_) (fun _ => some true)) (∀ x ∈ l, P x) := by
  rcases forC0_hoare (R := Bool) (step := fun k (s : Unit) => (idx l k).bind fun x => (f x).bind fun r => (bif (!r) then some (.rt false) else some (.nx ()))) (fun j _ => ∀ i, i < j → ∀ x, l[i]? = some x → P x) (fun _ => False) (fun b => b = false ∧ ¬ ∀ x ∈ l, P x) (n := l.length) rfl hl (s := ()) (fun i hi => by omega) (by
    rintro j ⟨⟩ hj hI
    rw [idx_nat, List.getElem?_eq_getElem hj, Option.bind_some]
    rcases (h _ (List.getElem_mem hj)).cases with ⟨e, hp⟩ | ⟨e, hp⟩
    · left
      refine ⟨(), by rw [e]; rfl, fun i hi x hx => ?_⟩
      by_cases e' : i = j
      · subst e'
        rw [List.getElem?_eq_getElem hj] at hx
        cases hx; exact hp
      · exact hI i (by omega) x hx
    · right; right
      exact ⟨false, by rw [e]; rfl, rfl, fun H => hp (H _ (List.getElem_mem hj))⟩) with ⟨s', e, h' | h'⟩ | ⟨b, e, rfl, h'⟩
  · refine .yes (by rw [e]; rfl) (fun x hx => ?_)
    obtain ⟨i, hi, rfl⟩ := List.mem_iff_getElem.1 hx
    exact h' i hi _ (List.getElem?_eq_getElem hi)
  · exact h'.elim
  · exact .no (by rw [e]; rfl) h'


theorem clone_eq {l : List Int} (h : l.length ≤ 4294967296) : s_impl_clone l = some l := by
  unfold s_impl_clone; rw [app_ok (by simpa using h)]; rfl

theorem l1Own_eq {l : List Int} (h : l.length ≤ 4294967296) : s_spec_l1Own l = some l := by
  unfold s_spec_l1Own; rw [app_ok (by simpa using h)]; rfl

/-- An algebra with N elements. -/
structure AlgN (a : Int × List (Int × List Int)) (N : Nat) : Prop where
  eN : a.1 = (N : Int)
  n1 : 1 ≤ N
  n8 : N ≤ 8
  l4 : a.2.length ≤ 4
  ops : ∀ f ∈ a.2, ∃ K T, OpN N f K T

def IsAlg (a : Int × List (Int × List Int)) : Prop := ∃ N, AlgN a N

theorem isAlg_iff {a : Int × List (Int × List Int)} (h : 1 ≤ a.1 ∧ a.1 ≤ 8 ∧ a.2.length ≤ 4) : IsAlg a ↔ ∀ f ∈ a.2, opOk a.1.toNat f = true := by
  constructor
  · rintro ⟨N, hN⟩ f hf
    obtain ⟨K, T, ho⟩ := hN.ops f hf
    have := hN.eN
    rw [show a.1.toNat = N by omega]; exact ho.ok
  · intro H
    exact ⟨a.1.toNat, by omega, by omega, by omega, h.2.2, fun f hf => opOk_elim (H f hf)⟩

theorem IsAlgebra_says (a : Int × List (Int × List Int)) : Says (s_impl_IsAlgebra a) (IsAlg a) := by
  unfold s_impl_IsAlgebra
  by_cases h : 1 ≤ a.1 ∧ a.1 ≤ 8 ∧ a.2.length ≤ 4
  · rw [show (((decide (a.1 < 1)) || (decide (8 < a.1))) || (decide (4 < (a.2.length : Int)))) = false by simp; omega, cond_false]
    refine Says.iff (range_says a.2 (fun f => opOk a.1.toNat f = true) (fun x21 => s_impl_isOp (x21.1, x21.2) a.1) (fun f hf => ?_) 0) (isAlg_iff h).symm
    have : s_impl_isOp (f.1, f.2) a.1 = some (opOk a.1.toNat f) := isOp_eq (N := a.1.toNat) (by omega) (by omega) (by omega) f
    exact ⟨_, this, Iff.rfl⟩
  · refine .no ?_ (fun H => ?_)
    · rw [show (((decide (a.1 < 1)) || (decide (8 < a.1))) || (decide (4 < (a.2.length : Int)))) = true by simp; omega]; rfl
    · obtain ⟨N, hN⟩ := H
      have := hN.eN
      have := hN.n1
      have := hN.n8
      have := hN.l4
      omega

theorem l2Good_says (a : Int × List (Int × List Int)) (hb : BA a) : Says (s_spec_l2Good a) (IsAlg a) := by
  unfold s_spec_l2Good
  rw [l1In_eq, Option.bind_some]
  by_cases h : 1 ≤ a.1 ∧ a.1 ≤ 8 ∧ a.2.length ≤ 4
  · rw [show (decide (1 ≤ a.1) && decide (a.1 ≤ 8)) = true by simp; omega, Bool.not_true, cond_false, Option.bind_some, show decide (4 < (a.2.length : Int)) = false by simp; omega, cond_false]
    refine Says.iff (count_says a.2 (fun f => opOk a.1.toNat f = true) (fun x25 => s_spec_l2Op a.1 (x25.1, x25.2)) (by omega) (fun f hf => ?_)) (isAlg_iff h).symm
    have hf' : f.2.length ≤ 1048576 := hb.2 f hf
    have : s_spec_l2Op a.1 (f.1, f.2) = some (opOk a.1.toNat f) := l2Op_eq (N := a.1.toNat) (by omega) (by omega) (by omega) f (by omega)
    exact ⟨_, this, Iff.rfl⟩
  · refine .no ?_ (fun H => ?_)
    · by_cases h1 : 1 ≤ a.1 ∧ a.1 ≤ 8
      · rw [show (decide (1 ≤ a.1) && decide (a.1 ≤ 8)) = true by simp; omega, Bool.not_true, cond_false, Option.bind_some, show decide (4 < (a.2.length : Int)) = true by simp; omega]; rfl
      · rw [show (decide (1 ≤ a.1) && decide (a.1 ≤ 8)) = false by rw [Bool.eq_false_iff]; simp; omega]; rfl
    · obtain ⟨N, hN⟩ := H
      have := hN.eN
      have := hN.n1
      have := hN.n8
      have := hN.l4
      omega

theorem alg_cases (a : Int × List (Int × List Int)) (hb : BA a) : (∃ N, AlgN a N ∧ s_spec_l2Good (a.1, a.2) = some true ∧ s_impl_IsAlgebra (a.1, a.2) = some true) ∨
    (¬ IsAlg a ∧ s_spec_l2Good (a.1, a.2) = some false ∧ s_impl_IsAlgebra (a.1, a.2) = some false) := by
  rcases (l2Good_says a hb).cases with ⟨e, h⟩ | ⟨e, h⟩
  · rcases (IsAlgebra_says a).cases with ⟨e', _⟩ | ⟨_, h'⟩
    · obtain ⟨N, hn⟩ := h; exact .inl ⟨N, hn, e, e'⟩
    · exact absurd h h'
  · rcases (IsAlgebra_says a).cases with ⟨_, h'⟩ | ⟨e', _⟩
    · exact absurd h' h
    · exact .inr ⟨h, e, e'⟩

theorem OkAlg.sz {a : Int × List (Int × List Int)} (h : OkP OkI (OkL (OkP OkI (OkL OkI))) a) : SzOk s_laws_szAlgebra BA a := szAlgebra_ok a h.2.1 (fun f hf => (h.2.2 f hf).2.1)

theorem OpN.uniq {N K K' : Nat} {f : Int × List Int} {T T' : List Nat} (h : OpN N f K T) (h' : OpN N f K' T') : K' = K ∧ T' = T := by
  have e := h.eq
  rw [h'.eq] at e
  simp only [Prod.mk.injEq] at e
  exact ⟨by omega, NL_inj e.2⟩

section
set_option linter.unusedVariables false
theorem ba_beq {a b : ByteArray} : (a == b) = decide (a = b) := by
  by_cases h : a = b
  · rw [(ba_iff (a := a) (b := b)).2 h]; simp [h]
  · cases hc : (a == b) with
    | false => simp [h]
    | true => exact absurd (ba_iff.1 hc) h
theorem mget_put {β : Type} (m : List (ByteArray × β)) (k k' : ByteArray) (x : β) : mget (mput m k x) k' = if k' = k then some x else mget m k' := by
  induction m with
  | nil => simp only [mput, mget, ba_beq, decide_eq_true_eq]
  | cons p m ih =>
    obtain ⟨q, v⟩ := p
    simp only [mput]
    by_cases h : k = q
    · rw [if_pos (by rw [ba_beq]; simpa using h)]
      subst h
      simp only [mget, ba_beq, decide_eq_true_eq]
      by_cases h2 : k' = k
      · rw [if_pos h2]; simp [h2]
      · simp [h2]
    · rw [if_neg (by rw [ba_beq]; simpa using h)]
      simp only [mget, ba_beq, decide_eq_true_eq, ih]
      by_cases h2 : k' = q
      · rw [if_pos h2, if_pos h2, if_neg (fun e => h (by rw [← e, h2]))]
      · rw [if_neg h2, if_neg h2]
theorem bstr_data (ns : List Int) : (bstr ns).data = (ns.map fun n => UInt8.ofNat n.toNat).toArray := by
  have : ∀ (ns : List Int) (r : ByteArray), (ns.foldl (fun r n => r.push (UInt8.ofNat n.toNat)) r).data = r.data ++ (ns.map fun n => UInt8.ofNat n.toNat).toArray := by
    intro ns
    induction ns with
    | nil => intro r; simp
    | cons n ns ih =>
      intro r
      rw [List.foldl_cons, ih]
      show (r.data.push _) ++ _ = _
      apply Array.ext'
      simp
  have h := this ns ByteArray.empty
  unfold bstr
  rw [h]
  apply Array.ext'
  show ([] : List UInt8) ++ _ = _
  simp
theorem bstr_inj {a b : List Int} (ha : ∀ x ∈ a, 0 ≤ x ∧ x < 256) (hb : ∀ x ∈ b, 0 ≤ x ∧ x < 256) (h : bstr a = bstr b) : a = b := by
  have h := congrArg (fun s => s.data.toList) h
  simp only [bstr_data] at h
  have key : ∀ {a b : List Int}, (∀ x ∈ a, 0 ≤ x ∧ x < 256) → (∀ x ∈ b, 0 ≤ x ∧ x < 256) → (a.map fun n => UInt8.ofNat n.toNat) = (b.map fun n => UInt8.ofNat n.toNat) → a = b := by
    intro a
    induction a with
    | nil => intro b _ _ h; cases b with
      | nil => rfl
      | cons _ _ => cases h
    | cons x a ih =>
      intro b ha hb h
      cases b with
      | nil => cases h
      | cons y b =>
        rw [List.map_cons, List.map_cons, List.cons.injEq] at h
        have h1 := congrArg UInt8.toNat h.1
        have hx := ha x (by simp); have hy := hb y (by simp)
        have e1 : (UInt8.ofNat x.toNat).toNat = x.toNat := by
          rw [UInt8.toNat_ofNat']; exact Nat.mod_eq_of_lt (by omega)
        have e2 : (UInt8.ofNat y.toNat).toNat = y.toNat := by
          rw [UInt8.toNat_ofNat']; exact Nat.mod_eq_of_lt (by omega)
        rw [e1, e2] at h1
        rw [ih (fun z hz => ha z (by simp [hz])) (fun z hz => hb z (by simp [hz])) h.2, show x = y by omega]
  exact key ha hb (by simpa using h)
/-- The key of a list of small numbers. -/
def kb (x : Nat) : List Int := [((x / 256 % 256 : Nat) : Int), ((x % 256 : Nat) : Int)]
def kkey (T : List Nat) : ByteArray := bstr (T.flatMap kb)
theorem kkey_inj {S T : List Nat} (hS : ∀ x ∈ S, x < 65536) (hT : ∀ x ∈ T, x < 65536) : kkey S = kkey T ↔ S = T := by
  refine ⟨fun h => ?_, fun h => by rw [h]⟩
  have bd : ∀ T : List Nat, ∀ y ∈ T.flatMap kb, 0 ≤ y ∧ y < 256 := by
    intro T y hy
    obtain ⟨x, _, hx⟩ := List.mem_flatMap.1 hy
    simp only [kb, List.mem_cons, List.not_mem_nil, or_false] at hx
    rcases hx with rfl | rfl <;> omega
  have h := bstr_inj (bd S) (bd T) h
  induction S generalizing T with
  | nil => cases T with
    | nil => rfl
    | cons y T => simp [kb] at h
  | cons x S ih =>
    cases T with
    | nil => simp [kb] at h
    | cons y T =>
      simp only [List.flatMap_cons, kb, List.cons_append, List.nil_append, List.cons.injEq] at h
      have hx := hS x (by simp); have hy := hT y (by simp)
      rw [ih (fun z hz => hS z (by simp [hz])) (fun z hz => hT z (by simp [hz])) (by unfold kkey; rw [h.2.2]) h.2.2, show x = y by omega]

end

def finB (N : Nat) (P Q : List Nat) : Bool := (List.range N).all fun x => ga Q (ga P x) == ga Q x

set_option linter.unusedVariables false
theorem u8_wrap (x : Nat) : IntKind.u8.wrap (x : Int) = ((x % 256 : Nat) : Int) := by
  have : IntKind.u8.wrap (x : Int) = (x : Int) % 256 := by
    unfold IntKind.wrap
    rw [if_neg (by simp [IntKind.signed])]; rfl
  rw [this]; omega

theorem shr8 (x : Nat) : ishr .i64 (x : Int) 8 = ((x / 256 : Nat) : Int) := by
  unfold ishr
  show Int.fdiv (x : Int) (2 ^ 8) = _
  rw [Int.fdiv_eq_ediv_of_nonneg _ (by decide)]
  omega

theorem keyOf_eq {T : List Nat} (hl : T.length ≤ 1000000000) : s_impl_keyOf (NL T) = some (kkey T) := by
  unfold s_impl_keyOf
  have e0 : mkc 0 (w64 (2 * ((NL T).length : Int))) = some () := by
    rw [show (2 * ((NL T).length : Int)) = ((2 * T.length : Nat) : Int) by simp, w64_nat (by omega)]
    unfold mkc; rw [if_pos ⟨by omega, by omega, by omega⟩]
  rw [e0, Option.bind_some]
  have key : ∀ (T S : List Nat) (i : Int), S.length + T.length ≤ 1000000000 → forR (S := (List Int)) (R := ByteArray) (fun _ x16 s13 =>
  (app s13 ([IntKind.u8.wrap (ishr .i64 x16 8), IntKind.u8.wrap x16])).bind fun y27 =>
  some (.nx y27)) i (NL T) (S.flatMap kb) = some (.br ((S ++ T).flatMap kb)) := by
    intro T
    induction T with
    | nil => intro S i _; rw [List.append_nil]; rfl
    | cons x T ih =>
      intro S i h
      have hk : (S.flatMap kb).length = 2 * S.length := by
        clear h
        induction S with
        | nil => rfl
        | cons y S ih => simp [List.flatMap_cons, kb, ih]; omega
      simp only [List.length_cons] at h
      show forR _ i ((x : Int) :: NL T) _ = _
      unfold forR
      simp only [shr8, u8_wrap]
      rw [app_ok (by rw [hk]; simp; omega), Option.bind_some]
      have := ih (S ++ [x]) (i + 1) (by simp; omega)
      simp only [List.flatMap_append, List.flatMap_cons, List.flatMap_nil, List.append_nil, kb] at this ⊢
      simp only [List.append_assoc] at this ⊢
      rw [this]
  have := key T [] 0 (by simpa using hl)
  simp only [List.flatMap_nil, List.nil_append] at this
  rw [show List.replicate (Int.toNat 0) (0 : Int) = [] from rfl, this]
  rfl


def SeenOk (seen : List (ByteArray × Bool)) (L : List (List Nat)) : Prop := ∀ T : List Nat, (∀ x ∈ T, x < 65536) → (mget seen (kkey T)).getD false = decide (T ∈ L)

theorem SeenOk.add {seen : List (ByteArray × Bool)} {L : List (List Nat)} (h : SeenOk seen L) {T : List Nat} (hT : ∀ x ∈ T, x < 65536) : SeenOk (mput seen (kkey T) true) (L ++ [T]) := fun S hS => by
  rw [mget_put]
  by_cases e : S = T
  · subst e; simp
  · rw [if_neg (fun h' => e ((kkey_inj hS hT).1 h')), h S hS]
    simp [e]

set_option linter.unusedVariables false
/-- What a law over an algebra alone needs at its head. -/
theorem alg_head {a : Int × List (Int × List Int)} (ha : OkP OkI (OkL (OkP OkI (OkL OkI))) a) {rest : Option Bool} (h : BA a → rest = some true) : ((s_laws_szAlgebra (a.1, a.2) 1048576).bind fun r4 => bif (decide (r4 < 0)) then some true else rest) = some true := by
  obtain ⟨u, hu, hb⟩ := OkAlg.sz ha 1048576 (by omega) (by omega)
  have hu : s_laws_szAlgebra (a.1, a.2) 1048576 = some u := hu
  rw [hu, Option.bind_some]
  by_cases hneg : u < 0
  · rw [show decide (u < 0) = true by simpa using hneg]; rfl
  rcases hb with hb | ⟨hb, _, _⟩
  · exact absurd hb hneg
  rw [show decide (u < 0) = false by simpa using hneg, cond_false]
  exact h hb

def hk1 (N : Nat) (S : List (List Nat)) (L : List Nat) (k i : Nat) : Nat := (List.range i).foldl (fun m i => if finB N (gl S i) (gl S k) then max m (ga L i + 1) else m) 0

set_option linter.unusedVariables false

theorem dig_snoc {N : Nat} (hN : 0 < N) : ∀ (t i : Nat), dig N (t + 1) i = dig N t (i / N) ++ [i % N]
  | 0, i => by simp [dig]
  | t + 1, i => by
    rw [show dig N (t + 1 + 1) i = (i / N ^ (t + 1) % N) :: dig N (t + 1) i from rfl, dig_snoc hN t i]
    show _ = (i / N / N ^ t % N) :: dig N t (i / N) ++ [i % N]
    rw [Nat.div_div_eq_div_mul, show N * N ^ t = N ^ (t + 1) by rw [Nat.pow_succ, Nat.mul_comm]]; rfl

theorem dig_ix {N : Nat} (hN : 1 ≤ N) : ∀ (K : Nat) (ds : List Nat), ds.length = K → (∀ x ∈ ds, x < N) → dig N K (ix N 0 ds) = ds
  | 0, ds, h, _ => by rw [List.length_eq_zero_iff.1 h]; rfl
  | K + 1, ds, h, hx => by
    rcases List.eq_nil_or_concat ds with rfl | ⟨A, x, rfl⟩
    · simp at h
    · have hl : A.length = K := by simpa using h
      rw [List.concat_eq_append] at hx ⊢
      have hxl : x < N := hx x (by simp)
      have e : ix N 0 (A ++ [x]) = ix N 0 A * N + x := by rw [ix_append]; rfl
      rw [dig_snoc hN, e, lin2_div hxl, lin2_mod hxl, dig_ix hN K A hl (fun y hy => hx y (by simp [hy]))]

set_option linter.unusedVariables false
def bt (H : List Bool) (c : Nat) : Bool := H.getD c false

def mk (H : List Bool) : List Nat := (List.range H.length).filter (bt H)

theorem forR_step {α S R : Type} {step : Int → α → S → Option (Ctl S R)} {i : Int} {x : α} {l : List α} {s s' : S} (h : step i x s = some (.nx s')) : forR step i (x :: l) s = forR step (i + 1) l s' := by
  conv => lhs; unfold forR
  rw [h]

def hd? : List (List Nat) → Option (List Int)
  | [] => none
  | x :: _ => some (NL x)

set_option linter.unusedVariables false

/-- A table is added; nothing is left where there are too many. -/
def ad (s : Option (List (List Nat))) (t : List Nat) : Option (List (List Nat)) := s.bind fun L => if t ∈ L then some L else if L.length = 60 then none else some (L ++ [t])

theorem ad_none (l : List (List Nat)) : l.foldl ad none = none := by
  induction l with
  | nil => rfl
  | cons t l ih => rw [List.foldl_cons]; exact ih

theorem ad_old {L : List (List Nat)} {t : List Nat} (h : t ∈ L) : ad (some L) t = some L := by unfold ad; rw [Option.bind_some, if_pos h]

theorem ad_pre {L L' : List (List Nat)} {t : List Nat} (h : ad (some L) t = some L') : ∃ E, L' = L ++ E ∧ (∀ x ∈ E, x = t) ∧ t ∈ L' ∧ (L.length ≤ 60 → L'.length ≤ 60) := by
  unfold ad at h
  rw [Option.bind_some] at h
  split at h
  · rename_i hm; cases h; exact ⟨[], by simp, by simp, hm, fun h => h⟩
  · split at h
    · cases h
    · rename_i _ hl
      cases h; exact ⟨[t], rfl, by simp, by simp, fun h => by simp; omega⟩

theorem adF_pre : ∀ (l : List (List Nat)) {L L' : List (List Nat)}, l.foldl ad (some L) = some L' → ∃ E, L' = L ++ E ∧ (∀ x ∈ E, x ∈ l) ∧ (∀ t ∈ l, t ∈ L') ∧ (L.length ≤ 60 → L'.length ≤ 60)
  | [], L, L', h => by cases h; exact ⟨[], by simp, by simp, by simp, fun h => h⟩
  | t :: l, L, L', h => by
    rw [List.foldl_cons] at h
    cases h1 : ad (some L) t with
    | none => rw [h1, ad_none] at h; cases h
    | some L1 =>
      rw [h1] at h
      obtain ⟨E1, e1, e2, e3, e4⟩ := ad_pre h1
      obtain ⟨E2, f1, f2, f3, f4⟩ := adF_pre l h
      refine ⟨E1 ++ E2, by rw [f1, e1, List.append_assoc], fun x hx => ?_, fun x hx => ?_, fun h => f4 (e4 h)⟩
      · rcases List.mem_append.1 hx with hx | hx
        · rw [e2 x hx]; simp
        · exact List.mem_cons_of_mem _ (f2 x hx)
      · rcases List.mem_cons.1 hx with rfl | hx
        · rw [f1]; exact List.mem_append_left _ e3
        · exact f3 x hx

/-- The composition of an operation with tables at places. -/
def cmT (N S : Nat) (T : List Nat) (L : List (List Nat)) (ds : List Nat) : List Nat := (List.range S).map (cmp N T (ds.map (gl L)))

/-- The tables are tables. -/
def Tbl (N S : Nat) (L : List (List Nat)) : Prop := ∀ t ∈ L, t.length = S ∧ ∀ x ∈ t, x < N

theorem cmT_tbl {N S K : Nat} {f : Int × List Int} {T : List Nat} (ho : OpN N f K T) {L : List (List Nat)} (hL : Tbl N S L) {ds : List Nat} (hl : ds.length = K) (hd : ∀ d ∈ ds, d < L.length) : (cmT N S T L ds).length = S ∧ ∀ x ∈ cmT N S T L ds, x < N := by
  refine ⟨by simp [cmT], fun x hx => ?_⟩
  obtain ⟨i, hi, rfl⟩ := List.mem_map.1 hx
  rw [List.mem_range] at hi
  unfold cmp
  refine ho.lt _ (ga_mem ?_)
  rw [ho.len]
  refine ix0_lt (fun y hy => ?_) (by simpa using hl)
  obtain ⟨t, ht, rfl⟩ := List.mem_map.1 hy
  obtain ⟨d, hdd, rfl⟩ := List.mem_map.1 ht
  have := hL _ (gl_mem (hd d hdd))
  exact this.2 _ (ga_mem (by rw [this.1]; exact hi))

theorem cmT_app {N S : Nat} {T : List Nat} {L E : List (List Nat)} {ds : List Nat} (hd : ∀ d ∈ ds, d < L.length) : cmT N S T (L ++ E) ds = cmT N S T L ds := by
  unfold cmT
  have : ds.map (gl (L ++ E)) = ds.map (gl L) := List.map_congr_left fun d h => by
    have := hd d h
    simp [gl, List.getElem?_append_left this]
  rw [this]

/-- All compositions of an operation with tables of L, in order. -/
def cmL (N S : Nat) (K : Nat) (T : List Nat) (L : List (List Nat)) : List (List Nat) := (List.range (L.length ^ K)).map fun i => cmT N S T L (dig L.length K i)


theorem place_mem (L : List (List Nat)) (t : List Nat) (hL : L.length ≤ 100000) (hx : ∀ u ∈ L, u.length ≤ 100000) : ∃ r, s_spec_l12Place (NLL L) (NL t) = some r ∧ decide (0 ≤ r) = decide (t ∈ L) := by
  unfold s_spec_l12Place
  have hh := forC0_find (R := Int) (S := Unit) (s := ()) (step := fun k12 s10 =>
  (idx (NLL L) k12).bind fun x16 =>
  (s_spec_l1Same x16 (NL t)).bind fun r21 =>
  (bif r21 then some (.rt k12) else some (.nx ()))) (fun j => if gl L j == t then some (j : Int) else none) (n := L.length) (hi := ((NLL L).length : Int)) (by rw [NLL_len]) (by omega) (fun j hj => by
    rw [idx_NLL hj, Option.bind_some, l1Same_NL (by have := hx _ (gl_mem hj); omega), Option.bind_some]
    cases (gl L j == t) <;> rfl)
  rw [hh]
  cases hf : (List.range L.length).findSome? (fun j => if gl L j == t then some (j : Int) else none) with
  | none =>
    refine ⟨-1, rfl, ?_⟩
    rw [List.findSome?_eq_none_iff] at hf
    rw [show decide ((0 : Int) ≤ -1) = false from rfl]
    symm
    rw [decide_eq_false_iff_not]
    intro hm
    obtain ⟨i, hi, e⟩ := List.mem_iff_getElem.1 hm
    have := hf i (by simpa using hi)
    rw [gl_get hi, e] at this
    simp at this
  | some r =>
    refine ⟨r, rfl, ?_⟩
    obtain ⟨j, hj, hr⟩ := List.exists_of_findSome?_eq_some hf
    rw [List.mem_range] at hj
    split at hr
    · rename_i he
      cases hr
      rw [show decide ((0 : Int) ≤ (j : Int)) = true from decide_eq_true (by omega)]
      symm
      rw [decide_eq_true_eq, ← beq_iff_eq.1 he]
      exact gl_mem hj
    · cases hr

abbrev Stp := List (Int × List Int)

/-- What the reference's state is, for what is found. -/
def SpR (L' : Option (List (List Nat))) (z : List (List Int) × Stp × Bool) : Prop := match L' with | none => z.2.2 = true | some L => z.1 = NLL L ∧ z.2.1.length = L.length ∧ z.2.2 = false

theorem spec_add {N S : Nat} {s : Option (List (List Nat))} {z : List (List Int) × Stp × Bool} (hz : SpR s z) (h60 : ∀ L, s = some L → L.length ≤ 60 ∧ Tbl N S L) (hS : S ≤ 1000) (t : List Nat) (st : Int × List Int) : ∃ z', s_spec_l12Add__take02 z (NL t) st = some z' ∧ SpR (ad s t) z' := by
  unfold s_spec_l12Add__take02
  cases s with
  | none =>
    have hz : z.2.2 = true := hz
    rw [hz]
    exact ⟨_, rfl, rfl⟩
  | some L =>
    obtain ⟨h1, h2, h3⟩ := hz
    obtain ⟨h4, h5⟩ := h60 L rfl
    obtain ⟨r, e, er⟩ := place_mem L t (by omega) (fun u hu => by have := (h5 u hu).1; omega)
    rw [h3, cond_false, h1, e, Option.bind_some, Option.bind_some, er]
    unfold ad
    rw [Option.bind_some]
    by_cases hm : t ∈ L
    · rw [if_pos hm, decide_eq_true hm]
      exact ⟨_, rfl, rfl, h2, rfl⟩
    · rw [if_neg hm, decide_eq_false hm, cond_false, NLL_len]
      by_cases hl : L.length = 60
      · rw [if_pos hl, show ((L.length : Int) == 60) = true by simp; omega]
        exact ⟨_, rfl, rfl⟩
      · rw [if_neg hl, show ((L.length : Int) == 60) = false by simp; omega, cond_false, app_ok (by simp; omega), Option.bind_some, app_ok (by simp; omega), Option.bind_some]
        exact ⟨_, rfl, by simp [NLL], by simp [h2], rfl⟩

/-- What the program's state is. -/
def ImR (L : List (List Nat)) (z : List (List Int) × Stp × List (ByteArray × Bool)) : Prop := z.1 = NLL L ∧ z.2.1.length = L.length ∧ SeenOk z.2.2 L

theorem impl_add {N S : Nat} {L : List (List Nat)} {z : List (List Int) × Stp × List (ByteArray × Bool)} (hz : ImR L z) (h60 : L.length ≤ 60) (hN : N ≤ 8) (hS : S ≤ 1000) {t : List Nat} (htl : t.length = S) (htx : ∀ x ∈ t, x < N) (o : Int) (st : List Int) (hst : st.length ≤ 1000) :
    ∃ z', s_impl_found__add (NL t) o st z = some z' ∧ ImR (if t ∈ L then L else L ++ [t]) z' := by
  unfold s_impl_found__add
  obtain ⟨h1, h2, h3⟩ := hz
  have hs : ∀ x ∈ t, x < 65536 := fun x hx => by have := htx x hx; omega
  rw [keyOf_eq (by omega), Option.bind_some, h3 t hs]
  by_cases hm : t ∈ L
  · rw [if_pos hm, decide_eq_true hm]
    exact ⟨_, rfl, h1, h2, h3⟩
  · rw [if_neg hm, decide_eq_false hm, Bool.not_false, cond_true, h1, app_ok (by simp; omega), Option.bind_some, clone_eq (by omega), Option.bind_some, app_ok (by simp; omega), Option.bind_some]
    exact ⟨_, rfl, by simp [NLL], by simp [h2], h3.add hs⟩

theorem fresh_ok {known K i before : Nat} (h1 : 1 ≤ known) (hK : K ≤ 3) (hi : i ≤ 1000000) : ∃ b, s_spec_l12Fresh (known : Int) (K : Int) (i : Int) (before : Int) = some b ∧ (b = false → before ≠ 0 ∧ ∀ d ∈ dig known K i, d < before) := by
  unfold s_spec_l12Fresh
  have hz : nz (known : Int) = some () := nz_ok (by omega)
  have hw : ∀ j : Nat, j ≤ 1000000 → w64 (Int.tdiv (j : Int) (known : Int)) = ((j / known : Nat) : Int) := fun j hj => w64_div (by omega)
  have key : ∀ (q k : Nat) (s : Nat), s ≤ 1000000 → ∃ o, forI (S := Int) (R := Bool) (fun k6 s4 =>
  (nz (known : Int)).bind fun u10 =>
  (bif (decide ((before : Int) ≤ (Int.tmod s4 (known : Int)))) then some (.rt true) else (nz (known : Int)).bind fun u12 =>
  some (.nx (w64 (Int.tdiv s4 (known : Int)))))) q (k : Int) (s : Int) = some o ∧ (o = .rt true ∨ ((∃ z, o = .br z) ∧ ∀ j, j < q → s / known ^ j % known < before)) := by
    simp only [hz, Option.bind_some]
    intro q
    induction q with
    | zero => intro k s hs; exact ⟨_, rfl, .inr ⟨⟨_, rfl⟩, fun j hj => by omega⟩⟩
    | succ q ih =>
      intro k s hs
      unfold forI
      rw [tmod_nat, dec_le]
      by_cases hb : before ≤ s % known
      · rw [decide_eq_true hb]; exact ⟨_, rfl, .inl rfl⟩
      · rw [decide_eq_false hb, cond_false, hw s hs]
        have hs2 : s / known ≤ 1000000 := Nat.le_trans (Nat.div_le_self _ _) hs
        obtain ⟨o, h1, h2⟩ := ih (k + 1) (s / known) hs2
        refine ⟨o, by rw [show (k : Int) + 1 = ((k + 1 : Nat) : Int) by omega]; exact h1, ?_⟩
        rcases h2 with h2 | ⟨h2, h3⟩
        · exact .inl h2
        · refine .inr ⟨h2, fun j hj => ?_⟩
          cases j with
          | zero => rw [Nat.pow_zero, Nat.div_one]; omega
          | succ j =>
            have := h3 j (by omega)
            rwa [Nat.div_div_eq_div_mul, Nat.mul_comm, ← Nat.pow_succ] at this
  obtain ⟨o, h1', h2⟩ := key K 0 i hi
  unfold forC
  rw [show decide (-9223372036854775808 ≤ (0 : Int)) = true by decide, show decide ((K : Int) ≤ 9223372036854775807) = true by simp; omega, Bool.and_true, cond_true, show ((K : Int) - 0).toNat = K by omega]
  rw [show ((0 : Nat) : Int) = 0 from rfl] at h1'
  rw [h1', Option.bind_some]
  rcases h2 with rfl | ⟨⟨z, rfl⟩, h3⟩
  · exact ⟨true, rfl, fun h => by cases h⟩
  · refine ⟨(before : Int) == 0, rfl, fun h => ⟨by simpa using h, fun d hd => ?_⟩⟩
    have hdm : ∀ (t j : Nat), ∀ d ∈ dig known t j, ∃ e, e < t ∧ d = j / known ^ e % known := by
      intro t
      induction t with
      | zero => intro j d hd; cases hd
      | succ t ih =>
        intro j d hd
        unfold dig at hd
        rcases List.mem_cons.1 hd with rfl | hd
        · exact ⟨t, by omega, rfl⟩
        · obtain ⟨e, he, h⟩ := ih j d hd
          exact ⟨e, by omega, h⟩
    obtain ⟨e, he, rfl⟩ := hdm K i d hd
    exact h3 e he

set_option linter.unusedVariables false

theorem compose_loop {R : Type} {N k S : Nat} (hN : 1 ≤ N) (hk : k < S) : ∀ (A : List (List Nat)) (s : Nat) (i : Int), (∀ t ∈ A, t.length = S ∧ ∀ x ∈ t, x < N) → (s + 1) * N ^ A.length ≤ 9223372036854775807 →
    forR (S := Int) (R := R) (fun _ x67 s63 =>
  (idx x67 (k : Int)).bind fun x73 =>
  some (.nx (w64 ((w64 (s63 * (N : Int))) + x73)))) i (NLL A) (s : Int) = some (.br ((ix N s (A.map fun t => ga t k) : Nat) : Int))
  | [], s, i, _, _ => rfl
  | t :: A, s, i, h, hb => by
    obtain ⟨htl, htx⟩ := h t (by simp)
    have hx : ga t k < N := htx _ (ga_mem (by omega))
    have hp : 1 ≤ N ^ A.length := Nat.pow_pos (by omega)
    rw [List.length_cons, Nat.pow_succ, Nat.mul_comm (N ^ A.length), ← Nat.mul_assoc] at hb
    have h1 : (s * N + ga t k + 1) * N ^ A.length ≤ (s + 1) * N * N ^ A.length := by
      apply Nat.mul_le_mul_right; rw [Nat.add_mul, Nat.one_mul]; omega
    have h2 : s * N + ga t k + 1 ≤ (s * N + ga t k + 1) * N ^ A.length := Nat.le_mul_of_pos_right _ hp
    rw [NLL_cons, forR_step (s' := ((s * N + ga t k : Nat) : Int)) (by rw [idx_NL (by omega), Option.bind_some, w64_mul (by omega), w64_add (by omega)])]
    exact compose_loop hN hk A (s * N + ga t k) (i + 1) (fun y hy => h y (by simp [hy])) (by omega)

theorem composeTables_eq {N K S : Nat} {T : List Nat} {tabs : List (List Nat)} {k : Int} (hN : 1 ≤ N) (h8 : N ≤ 8) (hK : K ≤ 3) (hT : T.length = N ^ K) (ht : tabs.length = K) (hl : ∀ t ∈ tabs, t.length = S ∧ ∀ x ∈ t, x < N) (hS : S ≤ 4294967296) :
    s_impl_composeTables (N : Int) (k, NL T) (NLL tabs) (S : Int) = some (NL ((List.range S).map (cmp N T tabs))) := by
  have h512 := pow_le_512 h8 hK
  unfold s_impl_composeTables
  rw [mks_ok rfl hS, Option.bind_some, forC0_set (fun i => ((cmp N T tabs i : Nat) : Int)) (z := 0) (n := S) (by simp) hS rfl]
  · simp [NL]
  · intro j s hj hs
    have hlt : ∀ x ∈ tabs.map (fun t => ga t j), x < N := by
      intro x hx'
      obtain ⟨t, ht', rfl⟩ := List.mem_map.1 hx'
      exact (hl t ht').2 _ (ga_mem (by rw [(hl t ht').1]; exact hj))
    have hc := compose_loop (R := List Int) (N := N) (k := j) (S := S) hN hj tabs 0 0 hl (by rw [ht]; omega)
    rw [show ((0 : Nat) : Int) = 0 from rfl] at hc
    rw [hc, Option.bind_some, after_br']
    simp only []
    rw [idx_NL (by rw [hT]; exact ix0_lt hlt (by simpa using ht)), Option.bind_some, idx_nat, List.getElem?_eq_getElem (by omega), Option.bind_some, Int.toNat_natCast]
    rfl

theorem set_all {α R : Type} {step : Int → List α → Option (Ctl (List α) R)} (v : Nat → α) {n : Nat} {hi : Int} {s : List α} (hn : hi = (n : Int)) (h1 : n ≤ 4294967296) (hs : s.length = n)
    (h : ∀ (j : Nat) (s : List α), j < n → s.length = n → step (j : Int) s = some (.nx (s.set j (v j)))) : forC step 0 hi s = some (.br ((List.range n).map v)) := by
  rw [forC0_fn (fun j => (List.range j).map v ++ s.drop j) hn (by omega) (by simp) (fun j hj => ?_)]
  · rw [List.drop_of_length_le (by omega), List.append_nil]
  · rw [h j _ hj (by simp; omega)]
    congr 2
    have e : s.drop j = s[j] :: s.drop (j + 1) := List.drop_eq_getElem_cons (by omega)
    rw [List.set_append_right _ _ (by simp), List.range_succ, List.map_append]
    simp only [List.length_map, List.length_range, Nat.sub_self, e, List.set_cons_zero, List.append_assoc, List.map_cons, List.map_nil, List.singleton_append]

theorem arg_tabs {L : List (List Nat)} {ds : List Nat} : (List.range ds.length).map (fun j => NL (gl L (ga ds j))) = NLL (ds.map (gl L)) := by
  unfold NLL
  rw [List.map_map]
  conv => rhs; rw [← map_ga ds]
  rw [List.map_map]
  rfl


theorem pre_gl {L0 E : List (List Nat)} {ds : List Nat} (hd : ∀ d ∈ ds, d < L0.length) : ds.map (gl (L0 ++ E)) = ds.map (gl L0) := List.map_congr_left fun d h => by
    have := hd d h
    simp [gl, List.getElem?_append_left this]

theorem known_bd {L0 : List (List Nat)} {K : Nat} (h60 : L0.length ≤ 60) (hK : K ≤ 3) : L0.length ^ K ≤ 216000 := Nat.le_trans (Nat.pow_le_pow_left h60 K) (Nat.le_trans (Nat.pow_le_pow_right (by omega) hK) (by decide))

theorem pow60 {L0 : List (List Nat)} {K : Nat} (h1 : 1 ≤ L0.length) (h60 : L0.length ≤ 60) (hK : K ≤ 3) : s_impl_power (L0.length : Int) (K : Int) = some ((L0.length ^ K : Nat) : Int) := power_eq rfl rfl h1 (by have := known_bd h60 hK; omega) (by omega)

theorem ad_good {N S : Nat} {L L' : List (List Nat)} {t : List Nat} (h : ad (some L) t = some L') (h60 : L.length ≤ 60) (hL : Tbl N S L) (ht : t.length = S ∧ ∀ x ∈ t, x < N) : (∃ E, L' = L ++ E) ∧ L'.length ≤ 60 ∧ Tbl N S L' := by
  obtain ⟨E, e1, e2, e3, e4⟩ := ad_pre h
  refine ⟨⟨E, e1⟩, e4 h60, fun u hu => ?_⟩
  rw [e1] at hu
  rcases List.mem_append.1 hu with hu | hu
  · exact hL u hu
  · rw [e2 u hu]; exact ht

theorem spec_round {N S K : Nat} {f : Int × List Int} {T : List Nat} (hN : 1 ≤ N) (h8 : N ≤ 8) (hS : S ≤ 1000) (ho : OpN N f K T) {L0 : List (List Nat)} (hk1 : 1 ≤ L0.length) (h60 : L0.length ≤ 60) {before : Nat}
    (hdone : before ≠ 0 → ∀ ds : List Nat, ds.length = K → (∀ d ∈ ds, d < before) → cmT N S T L0 ds ∈ L0) {L : List (List Nat)} (hL : ∃ E, L = L0 ++ E) (hL60 : L.length ≤ 60) (hT : Tbl N S L) {z : List (List Int) × Stp × Bool} (hz : SpR (some L) z) (number : Int) :
    ∃ z', s_spec_l12Round__take1 (N : Int) z f number (L0.length : Int) (before : Int) (S : Int) = some z' ∧ SpR ((cmL N S K T L0).foldl ad (some L)) z' := by
  have hK := ho.k3
  have hbd := known_bd h60 hK
  have hTl := ho.len
  obtain rfl : f = ((K : Int), NL T) := ho.eq
  have ep : s_spec_l2Pow (L0.length : Int) (K : Int) = some ((L0.length ^ K : Nat) : Int) := pow60 hk1 h60 hK
  unfold s_spec_l12Round__take1
  simp only [ep, Option.bind_some]
  have key : ∀ (q i m : Nat) (s : Option (List (List Nat))) (z : List (List Int) × Stp × Bool), i + q = L0.length ^ K → q < m → SpR s z → (∀ L, s = some L → (∃ E, L = L0 ++ E) ∧ L.length ≤ 60 ∧ Tbl N S L) →
      ∃ (i' : Int) (z' : List (List Int) × Stp × Bool), SpR (((List.range' i q).map fun i => cmT N S T L0 (dig L0.length K i)).foldl ad s) z' ∧ iter (S := Int × (List (List Int)) × (List (Int × (List Int))) × Bool) (R := ((List (List Int)) × (List (Int × (List Int))) × Bool)) (fun s174 =>
  ((bif (decide (s174.1 < ((L0.length ^ K : Nat) : Int))) then some (!s174.2.2.2) else some false) : Option Bool).bind fun s190 =>
  (bif s190 then (s_spec_l12Fresh (L0.length : Int) (K : Int) s174.1 (before : Int)).bind fun r198 =>
  (bif (!r198) then some (.nx (w64 (s174.1 + 1), s174.2.1, s174.2.2.1, s174.2.2.2)) else (s_spec_l2Args (L0.length : Int) (K : Int) s174.1).bind fun r201 =>
  (forC (S := (List (List Int))) (R := ((List (List Int)) × (List (Int × (List Int))) × Bool)) (fun k238 s236 =>
  (idx r201 k238).bind fun x249 =>
  (idx s174.2.1 x249).bind fun x251 =>
  (app s236 ([x251])).bind fun y258 =>
  some (.nx y258)) 0 (r201.length : Int) ([])).bind fun o240 => after o240 (fun r_ => some (.rt r_)) (fun s236 =>
  (s_spec_l12Compose (N : Int) ((K : Int), NL T) s236 (S : Int)).bind fun r262 =>
  (s_spec_l12Add__take02 (s174.2.1, s174.2.2.1, s174.2.2.2) r262 (number, r201)).bind fun r267 =>
  some (.nx (w64 (s174.1 + 1), r267.1, r267.2.1, r267.2.2)))) else some (.br (s174.1, s174.2.1, s174.2.2.1, s174.2.2.2)))) m ((i : Int), z.1, z.2.1, z.2.2) = some (.br (i', z'.1, z'.2.1, z'.2.2)) := by
    intro q
    induction q with
    | zero =>
      intro i m s z hi hm hz _
      obtain ⟨m, rfl⟩ : ∃ q, m = q + 1 := ⟨m - 1, by omega⟩
      refine ⟨(i : Int), z, hz, ?_⟩
      unfold iter
      simp only []
      rw [show decide ((i : Int) < ((L0.length ^ K : Nat) : Int)) = false from decide_eq_false (by omega)]
      rfl
    | succ q ih =>
      intro i m s z hi hm hz hs
      obtain ⟨m, rfl⟩ : ∃ q, m = q + 1 := ⟨m - 1, by omega⟩
      rw [List.range'_succ, List.map_cons, List.foldl_cons]
      unfold iter
      simp only []
      rw [show decide ((i : Int) < ((L0.length ^ K : Nat) : Int)) = true from decide_eq_true (by omega), cond_true, Option.bind_some]
      cases s with
      | none =>
        have hz : z.2.2 = true := hz
        have e : ad none (cmT N S T L0 (dig L0.length K i)) = none := rfl
        rw [e, ad_none, hz]
        exact ⟨(i : Int), z, hz, by rw [← hz]; simp [hz]⟩
      | some L =>
        obtain ⟨⟨E, hE⟩, hl, hTb⟩ := hs L rfl
        have hz' := hz
        obtain ⟨h1, h2, h3⟩ := hz
        rw [h3, Bool.not_false, cond_true]
        obtain ⟨b, eb, hb⟩ := fresh_ok (known := L0.length) (K := K) (i := i) (before := before) hk1 hK (by omega)
        have hdl : ∀ d ∈ dig L0.length K i, d < L0.length := dig_lt (by omega) K i
        have hdL : ∀ d ∈ dig L0.length K i, d < L.length := fun d hd => by have := hdl d hd; rw [hE, List.length_append]; omega
        rw [eb, Option.bind_some, w64_add1 (by omega)]
        cases b with
        | false =>
          obtain ⟨c1, c2⟩ := hb rfl
          have hin : cmT N S T L0 (dig L0.length K i) ∈ L := by rw [hE]; exact List.mem_append_left _ (hdone c1 _ (dig_len _ _ _) c2)
          rw [ad_old hin]
          simp only [Bool.not_false, cond_true]
          obtain ⟨i', z', g1, g2⟩ := ih (i + 1) m (some L) z (by omega) (by omega) hz' hs
          rw [h3] at g2
          exact ⟨i', z', g1, g2⟩
        | true =>
          simp only [Bool.not_true, cond_false]
          rw [l2ArgsN (by omega) hk1 (by omega), Option.bind_some]
          rw [forC0_app (fun j => NL (gl L (ga (dig L0.length K i) j))) (n := (dig L0.length K i).length) (by rw [NL_len]) (by rw [dig_len]; omega) (fun j s hj _ => by
            rw [idx_NL hj, Option.bind_some, h1, idx_NLL (hdL _ (ga_mem hj)), Option.bind_some])]
          rw [Option.bind_some, after_br', arg_tabs]
          have htb : ∀ t ∈ (dig L0.length K i).map (gl L), t.length = S ∧ ∀ x ∈ t, x < N := fun t ht => by
            obtain ⟨d, hd, rfl⟩ := List.mem_map.1 ht
            exact hTb _ (gl_mem (hdL d hd))
          rw [l12Compose_eq hN h8 hK hTl (by simp) (fun t ht => (htb t ht).1) (fun t ht => (htb t ht).2) (by omega), Option.bind_some]
          have ecm : (List.range S).map (cmp N T ((dig L0.length K i).map (gl L))) = cmT N S T L0 (dig L0.length K i) := by
            unfold cmT; rw [hE, pre_gl hdl]
          rw [ecm]
          have hzz : SpR (some L) (z.1, z.2.1, false) := ⟨h1, h2, rfl⟩
          obtain ⟨z2, a1, a2⟩ := spec_add hzz (fun L' e => by cases e; exact ⟨hl, hTb⟩) hS (cmT N S T L0 (dig L0.length K i)) (number, NL (dig L0.length K i))
          rw [a1, Option.bind_some]
          have hcm : (cmT N S T L0 (dig L0.length K i)).length = S ∧ ∀ x ∈ cmT N S T L0 (dig L0.length K i), x < N := by
            have := cmT_tbl (S := S) ho hTb (dig_len L0.length K i) hdL
            rwa [hE, cmT_app hdl] at this
          exact ih (i + 1) m (ad (some L) (cmT N S T L0 (dig L0.length K i))) z2 (by omega) (by omega) a2 (fun L' e => by
            obtain ⟨⟨E', e1⟩, e2, e3⟩ := ad_good e hl hTb hcm
            exact ⟨⟨E ++ E', by rw [e1, hE, List.append_assoc]⟩, e2, e3⟩)
  obtain ⟨i', z', g1, g2⟩ := key (L0.length ^ K) 0 FU (some L) z (by omega) (by unfold FU; omega) hz (fun L' e => by cases e; exact ⟨hL, hL60, hT⟩)
  rw [show ((0 : Nat) : Int) = 0 from rfl] at g2
  rw [g2, Option.bind_some, after_br']
  refine ⟨z', rfl, ?_⟩
  unfold cmL
  rw [List.range_eq_range']
  exact g1

abbrev IRT := (Option ((List (List Int)) × (List (Int × (List Int))) × (List (ByteArray × Bool)))) × Bool

/-- A round over the choices, as printed. -/
def stepC (n k : Int) (k3118 : Int) (f : Int × List Int) (known : Int) (s3409 : Int × (List (List Int)) × (List (Int × (List Int))) × (List (ByteArray × Bool)) × (List (List Int))) : Option (Ctl (Int × (List (List Int)) × (List (Int × (List Int))) × (List (ByteArray × Bool)) × (List (List Int))) IRT) :=
  (s_impl_power known f.1).bind fun r3432 =>
  (bif (decide (s3409.1 < r3432)) then (s_impl_argsAt s3409.1 f.1 known).bind fun r3435 =>
  (forC (S := (List (List Int))) (R := IRT) (fun k3458 s3456 =>
  (idx r3435 k3458).bind fun x3464 =>
  (idx s3409.2.1 x3464).bind fun x3466 =>
  (idx s3456 k3458).bind fun x3470 =>
  some (.nx (List.set s3456 (Int.toNat k3458) x3466))) 0 (r3435.length : Int) s3409.2.2.2.2).bind fun o3460 => after o3460 (fun r_ => some (.rt r_)) (fun s3456 =>
  (s_impl_power n k).bind fun r3489 =>
  (s_impl_composeTables n (f.1, f.2) s3456 r3489).bind fun r3491 =>
  (s_impl_found__add r3491 k3118 r3435 (s3409.2.1, s3409.2.2.1, s3409.2.2.2.1)).bind fun r3497 =>
  (bif (decide (60 < (r3497.1.length : Int))) then some (.rt (none, false)) else some (.nx (w64 (s3409.1 + 1), r3497.1, r3497.2.1, r3497.2.2, s3456)))) else some (.br (s3409.1, s3409.2.1, s3409.2.2.1, s3409.2.2.2.1, s3409.2.2.2.2)))

theorem impl_round {N S K : Nat} {k : Int} {f : Int × List Int} {T : List Nat} (hN : 1 ≤ N) (h8 : N ≤ 8) (hS : S ≤ 1000) (hpk : s_impl_power (N : Int) k = some (S : Int)) (ho : OpN N f K T) {L0 : List (List Nat)} (hk1 : 1 ≤ L0.length) (h60 : L0.length ≤ 60) (number : Int) :
    ∀ (q i m : Nat) (L : List (List Nat)) (z : List (List Int) × Stp × List (ByteArray × Bool)) (buf : List (List Int)), i + q = L0.length ^ K → q < m → ImR L z → (∃ E, L = L0 ++ E) → L.length ≤ 60 → Tbl N S L → buf.length = K →
      match ((List.range' i q).map fun i => cmT N S T L0 (dig L0.length K i)).foldl ad (some L) with
      | none => iter (stepC (N : Int) k number f (L0.length : Int)) m ((i : Int), z.1, z.2.1, z.2.2, buf) = some (.rt (none, false))
      | some L' => ∃ (z' : List (List Int) × Stp × List (ByteArray × Bool)) (buf' : List (List Int)), ImR L' z' ∧ iter (stepC (N : Int) k number f (L0.length : Int)) m ((i : Int), z.1, z.2.1, z.2.2, buf) = some (.br (((L0.length ^ K : Nat) : Int), z'.1, z'.2.1, z'.2.2, buf')) := by
  have hK := ho.k3
  have hbd := known_bd h60 hK
  have hTl := ho.len
  obtain rfl : f = ((K : Int), NL T) := ho.eq
  have ep := pow60 hk1 h60 hK
  intro q
  induction q with
  | zero =>
    intro i m L z buf hi hm hz hE hl hTb hbuf
    obtain ⟨m, rfl⟩ : ∃ q, m = q + 1 := ⟨m - 1, by omega⟩
    refine ⟨z, buf, hz, ?_⟩
    unfold iter
    simp only [stepC, ep, Option.bind_some]
    rw [show decide ((i : Int) < ((L0.length ^ K : Nat) : Int)) = false from decide_eq_false (by omega), cond_false, show i = L0.length ^ K by omega]
  | succ q ih =>
    intro i m L z buf hi hm hz hE hl hTb hbuf
    obtain ⟨m, rfl⟩ : ∃ q, m = q + 1 := ⟨m - 1, by omega⟩
    obtain ⟨E, hE⟩ := hE
    rw [List.range'_succ, List.map_cons, List.foldl_cons]
    have hdl : ∀ d ∈ dig L0.length K i, d < L0.length := dig_lt (by omega) K i
    have hdL : ∀ d ∈ dig L0.length K i, d < L.length := fun d hd => by have := hdl d hd; rw [hE, List.length_append]; omega
    have htb : ∀ t ∈ (dig L0.length K i).map (gl L), t.length = S ∧ ∀ x ∈ t, x < N := fun t ht => by
      obtain ⟨d, hd, rfl⟩ := List.mem_map.1 ht
      exact hTb _ (gl_mem (hdL d hd))
    have hcm : (cmT N S T L0 (dig L0.length K i)).length = S ∧ ∀ x ∈ cmT N S T L0 (dig L0.length K i), x < N := by
      have := cmT_tbl (S := S) ho hTb (dig_len L0.length K i) hdL
      rwa [hE, cmT_app hdl] at this
    have ecm : (List.range S).map (cmp N T ((dig L0.length K i).map (gl L))) = cmT N S T L0 (dig L0.length K i) := by
      unfold cmT; rw [hE, pre_gl hdl]
    obtain ⟨z2, a1, a2⟩ := impl_add hz hl h8 hS hcm.1 hcm.2 number (NL (dig L0.length K i)) (by rw [NL_len, dig_len]; omega)
    have hstep : stepC (N : Int) k number ((K : Int), NL T) (L0.length : Int) ((i : Int), z.1, z.2.1, z.2.2, buf) = (bif (decide (60 < (z2.1.length : Int))) then some (.rt (none, false)) else some (.nx (((i + 1 : Nat) : Int), z2.1, z2.2.1, z2.2.2, NLL ((dig L0.length K i).map (gl L))))) := by
      simp only [stepC, ep, Option.bind_some]
      rw [show decide ((i : Int) < ((L0.length ^ K : Nat) : Int)) = true from decide_eq_true (by omega), cond_true, argsN (by omega) hk1 (by omega), Option.bind_some]
      rw [set_all (fun j => NL (gl L (ga (dig L0.length K i) j))) (n := (dig L0.length K i).length) (by rw [NL_len]) (by rw [dig_len]; omega) (by rw [hbuf, dig_len]) (fun j s hj hs => by
        rw [idx_NL hj, Option.bind_some, hz.1, idx_NLL (hdL _ (ga_mem hj)), Option.bind_some, idx_nat, List.getElem?_eq_getElem (by omega), Option.bind_some, Int.toNat_natCast])]
      rw [Option.bind_some, after_br', arg_tabs]
      rw [hpk, Option.bind_some, composeTables_eq hN h8 hK hTl (by simp) htb (by omega), Option.bind_some, ecm]
      have a1 : s_impl_found__add (NL (cmT N S T L0 (dig L0.length K i))) number (NL (dig L0.length K i)) (z.1, z.2.1, z.2.2) = some z2 := a1
      rw [a1, Option.bind_some, w64_add1 (by omega)]
    have hlen : z2.1.length = (if cmT N S T L0 (dig L0.length K i) ∈ L then L else L ++ [cmT N S T L0 (dig L0.length K i)]).length := by rw [a2.1, NLL_len]
    unfold iter
    simp only [hstep]
    rw [show ad (some L) (cmT N S T L0 (dig L0.length K i)) = if cmT N S T L0 (dig L0.length K i) ∈ L then some L else if L.length = 60 then none else some (L ++ [cmT N S T L0 (dig L0.length K i)]) from rfl]
    by_cases hm : cmT N S T L0 (dig L0.length K i) ∈ L
    · rw [if_pos hm] at hlen a2 ⊢
      rw [show decide ((60 : Int) < (z2.1.length : Int)) = false from decide_eq_false (by omega)]
      simp only [cond_false]
      exact ih (i + 1) m L z2 _ (by omega) (by omega) a2 ⟨E, hE⟩ hl hTb (by simp)
    · rw [if_neg hm] at hlen a2 ⊢
      rw [List.length_append, List.length_singleton] at hlen
      by_cases hl60 : L.length = 60
      · rw [if_pos hl60, show decide ((60 : Int) < (z2.1.length : Int)) = true from decide_eq_true (by omega)]
        simp only [cond_true]
        have e0 := ad_none ((List.range' (i + 1) q).map fun i => cmT N S T L0 (dig L0.length K i))
        rw [e0]
        trivial
      · rw [if_neg hl60, show decide ((60 : Int) < (z2.1.length : Int)) = false from decide_eq_false (by omega)]
        simp only [cond_false]
        exact ih (i + 1) m _ z2 _ (by omega) (by omega) a2 ⟨E ++ [_], by rw [hE, List.append_assoc]⟩ (by simp; omega) (fun u hu => by
          rcases List.mem_append.1 hu with hu | hu
          · exact hTb u hu
          · rw [List.mem_singleton.1 hu]; exact hcm) (by simp)

set_option linter.unusedVariables false

def opS (N S : Nat) (L0 : List (List Nat)) (s : Option (List (List Nat))) (f : Int × List Int) : Option (List (List Nat)) := (cmL N S f.1.toNat (f.2.map Int.toNat) L0).foldl ad s

theorem opS_eq {N S K : Nat} {f : Int × List Int} {T : List Nat} (ho : OpN N f K T) (L0 : List (List Nat)) (s : Option (List (List Nat))) : opS N S L0 s f = (cmL N S K T L0).foldl ad s := by
  unfold opS
  rw [ho.eq]
  simp only [Int.toNat_natCast, NL_toNat]

theorem opS_none {N S : Nat} {L0 : List (List Nat)} : ∀ (ops : List (Int × List Int)), ops.foldl (opS N S L0) none = none
  | [] => rfl
  | f :: ops => by rw [List.foldl_cons]; unfold opS; rw [ad_none]; exact opS_none ops

/-- What a state of the search is. -/
def Gd (N S : Nat) (L0 L : List (List Nat)) : Prop := (∃ E, L = L0 ++ E) ∧ L.length ≤ 60 ∧ Tbl N S L

theorem opS_good {N S K : Nat} {f : Int × List Int} {T : List Nat} (ho : OpN N f K T) {L0 L L' : List (List Nat)} (hL : Gd N S L0 L) (h0 : 1 ≤ L0.length) (hT0 : Tbl N S L0) (h : opS N S L0 (some L) f = some L') : Gd N S L0 L' ∧ (∃ E, L' = L ++ E) ∧ ∀ ds : List Nat, ds.length = K → (∀ d ∈ ds, d < L0.length) → cmT N S T L0 ds ∈ L' := by
  rw [opS_eq ho] at h
  obtain ⟨⟨E0, e0⟩, hl, ht⟩ := hL
  obtain ⟨E, e1, e2, e3, e4⟩ := adF_pre _ h
  have hcm : ∀ t ∈ cmL N S K T L0, t.length = S ∧ ∀ x ∈ t, x < N := fun t htm => by
    unfold cmL at htm
    obtain ⟨i, hi, rfl⟩ := List.mem_map.1 htm
    exact cmT_tbl ho hT0 (dig_len _ _ _) (dig_lt (by omega) K i)
  refine ⟨⟨⟨E0 ++ E, by rw [e1, e0, List.append_assoc]⟩, e4 hl, fun t htm => ?_⟩, ⟨E, e1⟩, fun ds hds hd => ?_⟩
  · rw [e1] at htm
    rcases List.mem_append.1 htm with htm | htm
    · exact ht t htm
    · exact hcm t (e2 t htm)
  · refine e3 _ ?_
    unfold cmL
    refine List.mem_map.2 ⟨ix L0.length 0 ds, List.mem_range.2 (ix0_lt hd hds), ?_⟩
    rw [dig_ix h0 K ds hds hd]

theorem spec_ops {N S : Nat} (hN : 1 ≤ N) (h8 : N ≤ 8) (hS : S ≤ 1000) {ops : List (Int × List Int)} (hops : ∀ f ∈ ops, ∃ K T, OpN N f K T) (hol : ops.length ≤ 100) {L0 : List (List Nat)} (hk1 : 1 ≤ L0.length) (h60 : L0.length ≤ 60) (hT0 : Tbl N S L0) {before : Nat}
    (hdone : before ≠ 0 → ∀ f ∈ ops, ∀ K T, OpN N f K T → ∀ ds : List Nat, ds.length = K → (∀ d ∈ ds, d < before) → cmT N S T L0 ds ∈ L0) {first : List (List Int)} {x0 : List Int} (hf : idx first 0 = some x0) (hx0 : (x0.length : Int) = (S : Int)) :
    ∀ (q j m : Nat) (s : Option (List (List Nat))) (z : List (List Int) × Stp × Bool), j + q = ops.length → q < m → SpR s z → (∀ L, s = some L → Gd N S L0 L) →
      ∃ (j' : Int) (z' : List (List Int) × Stp × Bool), SpR ((ops.drop j).foldl (opS N S L0) s) z' ∧ iter (S := Int × (List (List Int)) × (List (Int × (List Int))) × Bool) (R := ((List (List Int)) × (List (Int × (List Int))) × Bool)) (fun s321 =>
  (bif ((decide (s321.1 < (ops.length : Int))) && (!s321.2.2.2)) then (idx ops s321.1).bind fun x343 =>
  (idx first 0).bind fun x347 =>
  (s_spec_l12Round__take1 (N : Int) (s321.2.1, s321.2.2.1, s321.2.2.2) (x343.1, x343.2) s321.1 (L0.length : Int) (before : Int) (x347.length : Int)).bind fun r352 =>
  some (.nx (w64 (s321.1 + 1), r352.1, r352.2.1, r352.2.2)) else some (.br (s321.1, s321.2.1, s321.2.2.1, s321.2.2.2)))) m ((j : Int), z.1, z.2.1, z.2.2) = some (.br (j', z'.1, z'.2.1, z'.2.2)) := by
  simp only [hf, Option.bind_some, hx0]
  intro q
  induction q with
  | zero =>
    intro j m s z hj hm hz _
    obtain ⟨m, rfl⟩ : ∃ q, m = q + 1 := ⟨m - 1, by omega⟩
    refine ⟨(j : Int), z, by rw [List.drop_of_length_le (by omega)]; exact hz, ?_⟩
    unfold iter
    simp only []
    rw [show decide ((j : Int) < (ops.length : Int)) = false from decide_eq_false (by omega), Bool.false_and, cond_false]
  | succ q ih =>
    intro j m s z hj hm hz hs
    obtain ⟨m, rfl⟩ : ∃ q, m = q + 1 := ⟨m - 1, by omega⟩
    have hjl : j < ops.length := by omega
    rw [List.drop_eq_getElem_cons hjl, List.foldl_cons]
    unfold iter
    simp only []
    rw [show decide ((j : Int) < (ops.length : Int)) = true from decide_eq_true (by omega), Bool.true_and]
    cases s with
    | none =>
      have hz : z.2.2 = true := hz
      have e : opS N S L0 none ops[j] = none := by unfold opS; exact ad_none _
      rw [e, opS_none, hz]
      exact ⟨(j : Int), z, hz, by rw [hz]; rfl⟩
    | some L =>
      have hz' := hz
      obtain ⟨h1, h2, h3⟩ := hz
      have hg := hs L rfl
      obtain ⟨K, T, ho⟩ := hops _ (List.getElem_mem hjl)
      obtain ⟨z2, a1, a2⟩ := spec_round (f := ops[j]) hN h8 hS ho hk1 h60 (fun hb ds hd hlt => hdone hb _ (List.getElem_mem hjl) K T ho ds hd hlt) hg.1 hg.2.1 hg.2.2 hz' (j : Int)
      rw [h3, Bool.not_false, cond_true, idx_nat, List.getElem?_eq_getElem hjl, Option.bind_some]
      have a1 : s_spec_l12Round__take1 (N : Int) (z.1, z.2.1, false) (ops[j].1, ops[j].2) (j : Int) (L0.length : Int) (before : Int) (S : Int) = some z2 := by rw [← h3]; exact a1
      rw [a1, Option.bind_some, w64_add1 (by omega)]
      rw [← opS_eq ho] at a2
      exact ih (j + 1) m _ z2 (by omega) (by omega) a2 (fun L' e => (opS_good ho hg hk1 hT0 e).1)

theorem impl_ops {N S : Nat} {k : Int} (hN : 1 ≤ N) (h8 : N ≤ 8) (hS : S ≤ 1000) (hpk : s_impl_power (N : Int) k = some (S : Int)) {ops : List (Int × List Int)} (hops : ∀ f ∈ ops, ∃ K T, OpN N f K T) {L0 : List (List Nat)} (hk1 : 1 ≤ L0.length) (h60 : L0.length ≤ 60) (hT0 : Tbl N S L0) :
    ∀ (q j : Nat) (L : List (List Nat)) (z : List (List Int) × Stp × List (ByteArray × Bool)), j + q = ops.length → ImR L z → Gd N S L0 L →
      match (ops.drop j).foldl (opS N S L0) (some L) with
      | none => forI (S := (List (List Int)) × (List (Int × (List Int))) × (List (ByteArray × Bool))) (R := IRT) (fun k3118 s3116 =>
  (idx ops k3118).bind fun x3136 =>
  (mks x3136.1 ([] : List Int)).bind fun y3143 =>
  (iter (stepC (N : Int) k k3118 x3136 (L0.length : Int)) FU (0, s3116.1, s3116.2.1, s3116.2.2, y3143)).bind fun o3413 => after o3413 (fun r_ => some (.rt r_)) (fun s3409 =>
  some (.nx (s3409.2.1, s3409.2.2.1, s3409.2.2.2.1)))) q (j : Int) z = some (.rt (none, false))
      | some L' => ∃ z', ImR L' z' ∧ Gd N S L0 L' ∧ forI (S := (List (List Int)) × (List (Int × (List Int))) × (List (ByteArray × Bool))) (R := IRT) (fun k3118 s3116 =>
  (idx ops k3118).bind fun x3136 =>
  (mks x3136.1 ([] : List Int)).bind fun y3143 =>
  (iter (stepC (N : Int) k k3118 x3136 (L0.length : Int)) FU (0, s3116.1, s3116.2.1, s3116.2.2, y3143)).bind fun o3413 => after o3413 (fun r_ => some (.rt r_)) (fun s3409 =>
  some (.nx (s3409.2.1, s3409.2.2.1, s3409.2.2.2.1)))) q (j : Int) z = some (.br z') := by
  intro q
  induction q with
  | zero =>
    intro j L z hj hz hg
    rw [List.drop_of_length_le (by omega)]
    exact ⟨z, hz, hg, rfl⟩
  | succ q ih =>
    intro j L z hj hz hg
    have hjl : j < ops.length := by omega
    rw [List.drop_eq_getElem_cons hjl, List.foldl_cons]
    obtain ⟨K, T, ho⟩ := hops _ (List.getElem_mem hjl)
    have hbd := known_bd h60 ho.k3
    have hK := ho.k3
    have hK1 : (ops[j]).1 = (K : Int) := by rw [ho.eq]
    have hr := impl_round (f := ops[j]) hN h8 hS hpk ho hk1 h60 (j : Int) (L0.length ^ K) 0 FU L z (List.replicate K []) (by omega) (by unfold FU; omega) hz hg.1 hg.2.1 hg.2.2 (by simp)
    have e : ((List.range' 0 (L0.length ^ K)).map fun i => cmT N S T L0 (dig L0.length K i)).foldl ad (some L) = opS N S L0 (some L) ops[j] := by
      rw [opS_eq ho]; unfold cmL; rw [List.range_eq_range']
    rw [e, show ((0 : Nat) : Int) = 0 from rfl] at hr
    unfold forI
    simp only [idx_nat, List.getElem?_eq_getElem hjl, Option.bind_some, mks_ok hK1 (show K ≤ 4294967296 by omega)]
    cases hop : opS N S L0 (some L) ops[j] with
    | none =>
      rw [hop] at hr
      have hr : iter (stepC (N : Int) k (j : Int) ops[j] (L0.length : Int)) FU (0, z.1, z.2.1, z.2.2, List.replicate K []) = some (.rt (none, false)) := hr
      rw [opS_none]
      show _ = _
      rw [hr]; rfl
    | some L1 =>
      rw [hop] at hr
      obtain ⟨z', buf', c1, c2⟩ := hr
      rw [c2]
      simp only [Option.bind_some, after_br']
      exact ih (j + 1) L1 z' (by omega) c1 (opS_good ho hg hk1 hT0 hop).1

set_option linter.unusedVariables false

theorem opsF_pre {N S : Nat} {L0 : List (List Nat)} (h0 : 1 ≤ L0.length) (hT0 : Tbl N S L0) : ∀ (l : List (Int × List Int)) {L L' : List (List Nat)}, (∀ f ∈ l, ∃ K T, OpN N f K T) → Gd N S L0 L → l.foldl (opS N S L0) (some L) = some L' →
    Gd N S L0 L' ∧ (∃ E, L' = L ++ E) ∧ ∀ f ∈ l, ∀ K T, OpN N f K T → ∀ ds : List Nat, ds.length = K → (∀ d ∈ ds, d < L0.length) → cmT N S T L0 ds ∈ L'
  | [], L, L', _, hg, h => by cases h; exact ⟨hg, ⟨[], by simp⟩, fun f hf => by cases hf⟩
  | f :: l, L, L', ho, hg, h => by
    rw [List.foldl_cons] at h
    cases h1 : opS N S L0 (some L) f with
    | none => rw [h1, opS_none] at h; cases h
    | some L1 =>
      rw [h1] at h
      obtain ⟨K, T, hf⟩ := ho f (by simp)
      obtain ⟨g1, ⟨E1, e1⟩, g3⟩ := opS_good hf hg h0 hT0 h1
      obtain ⟨k1, ⟨E2, e2⟩, k3⟩ := opsF_pre h0 hT0 l (fun x hx => ho x (by simp [hx])) g1 h
      refine ⟨k1, ⟨E1 ++ E2, by rw [e2, e1, List.append_assoc]⟩, fun x hx K' T' hx' ds hds hd => ?_⟩
      rcases List.mem_cons.1 hx with rfl | hx
      · obtain ⟨rfl, rfl⟩ := hf.uniq hx'
        rw [e2]; exact List.mem_append_left _ (g3 ds hds hd)
      · exact k3 x hx K' T' hx' ds hds hd

/-- A round of the reference. -/
def rndS (n : Int) (ops : List (Int × List Int)) (first : List (List Int)) (s257 : Int × (List (List Int)) × (List (Int × (List Int))) × Bool) : Option (Ctl (Int × (List (List Int)) × (List (Int × (List Int))) × Bool) ((List (List Int)) × (List (Int × (List Int))) × Bool)) :=
  (bif ((decide (s257.1 < (s257.2.1.length : Int))) && (!s257.2.2.2)) then (iter (S := Int × (List (List Int)) × (List (Int × (List Int))) × Bool) (R := ((List (List Int)) × (List (Int × (List Int))) × Bool)) (fun s321 =>
  (bif ((decide (s321.1 < (ops.length : Int))) && (!s321.2.2.2)) then (idx ops s321.1).bind fun x343 =>
  (idx first 0).bind fun x347 =>
  (s_spec_l12Round__take1 n (s321.2.1, s321.2.2.1, s321.2.2.2) (x343.1, x343.2) s321.1 (s257.2.1.length : Int) s257.1 (x347.length : Int)).bind fun r352 =>
  some (.nx (w64 (s321.1 + 1), r352.1, r352.2.1, r352.2.2)) else some (.br (s321.1, s321.2.1, s321.2.2.1, s321.2.2.2)))) FU (0, s257.2.1, s257.2.2.1, s257.2.2.2)).bind fun o325 => after o325 (fun r_ => some (.rt r_)) (fun s321 =>
  some (.nx ((s257.2.1.length : Int), s321.2.1, s321.2.2.1, s321.2.2.2))) else some (.br (s257.1, s257.2.1, s257.2.2.1, s257.2.2.2)))

/-- A round of the program. -/
def rndI (n k : Int) (ops : List (Int × List Int)) (s2356 : Int × (List (List Int)) × (List (Int × (List Int))) × (List (ByteArray × Bool))) : Option (Ctl (Int × (List (List Int)) × (List (Int × (List Int))) × (List (ByteArray × Bool))) IRT) :=
  (bif (decide (s2356.1 < (s2356.2.1.length : Int))) then (forC (S := (List (List Int)) × (List (Int × (List Int))) × (List (ByteArray × Bool))) (R := IRT) (fun k3118 s3116 =>
  (idx ops k3118).bind fun x3136 =>
  (mks x3136.1 ([] : List Int)).bind fun y3143 =>
  (iter (stepC n k k3118 x3136 (s2356.2.1.length : Int)) FU (0, s3116.1, s3116.2.1, s3116.2.2, y3143)).bind fun o3413 => after o3413 (fun r_ => some (.rt r_)) (fun s3409 =>
  some (.nx (s3409.2.1, s3409.2.2.1, s3409.2.2.2.1)))) 0 (ops.length : Int) (s2356.2.1, s2356.2.2.1, s2356.2.2.2)).bind fun o3120 => after o3120 (fun r_ => some (.rt r_)) (fun s3116 =>
  some (.nx ((s2356.2.1.length : Int), s3116.1, s3116.2.1, s3116.2.2))) else some (.br (s2356.1, s2356.2.1, s2356.2.2.1, s2356.2.2.2)))

theorem rounds {N S : Nat} {k : Int} (hN : 1 ≤ N) (h8 : N ≤ 8) (hS : S ≤ 1000) (hpk : s_impl_power (N : Int) k = some (S : Int)) {ops : List (Int × List Int)} (hops : ∀ f ∈ ops, ∃ K T, OpN N f K T) (hol : ops.length ≤ 100) {first : List (List Int)} {x0 : List Int} (hf : idx first 0 = some x0) (hx0 : (x0.length : Int) = (S : Int)) :
    ∀ (q before : Nat) (old : Int) (m m' : Nat) (L : List (List Nat)) (z : List (List Int) × Stp × Bool) (zi : List (List Int) × Stp × List (ByteArray × Bool)), 61 ≤ before + q → q + 1 < m → q + 1 < m' → SpR (some L) z → ImR L zi → L.length ≤ 60 → 1 ≤ L.length → Tbl N S L → before ≤ L.length → (old = (before : Int) ∨ (old = -1 ∧ before = 0)) →
      (before ≠ 0 → ∀ f ∈ ops, ∀ K T, OpN N f K T → ∀ ds : List Nat, ds.length = K → (∀ d ∈ ds, d < before) → cmT N S T L ds ∈ L) →
      (∃ (L' : List (List Nat)) (b o : Int) (z' : List (List Int) × Stp × Bool) (zi' : List (List Int) × Stp × List (ByteArray × Bool)), (∃ E, L' = L ++ E) ∧ L'.length ≤ 60 ∧ Tbl N S L' ∧ SpR (some L') z' ∧ ImR L' zi' ∧ iter (rndS (N : Int) ops first) m ((before : Int), z.1, z.2.1, z.2.2) = some (.br (b, z'.1, z'.2.1, z'.2.2)) ∧ iter (rndI (N : Int) k ops) m' (old, zi.1, zi.2.1, zi.2.2) = some (.br (o, zi'.1, zi'.2.1, zi'.2.2))) ∨
      (∃ (b : Int) (z' : List (List Int) × Stp × Bool), z'.2.2 = true ∧ iter (rndS (N : Int) ops first) m ((before : Int), z.1, z.2.1, z.2.2) = some (.br (b, z'.1, z'.2.1, z'.2.2)) ∧ iter (rndI (N : Int) k ops) m' (old, zi.1, zi.2.1, zi.2.2) = some (.rt (none, false))) := by
  intro q
  induction q with
  | zero => intro before old m m' L z zi hq _ _ _ _ hl _ _ hb; omega
  | succ q ih =>
    intro before old m m' L z zi hq hm hm' hz hzi hl h1 hT hb hold hdone
    obtain ⟨m, rfl⟩ : ∃ q, m = q + 1 := ⟨m - 1, by omega⟩
    obtain ⟨m', rfl⟩ : ∃ q, m' = q + 1 := ⟨m' - 1, by omega⟩
    have hz' := hz
    obtain ⟨z1, z2, z3⟩ := hz
    have hzl : z.1.length = L.length := by rw [z1, NLL_len]
    have hzil : zi.1.length = L.length := by rw [hzi.1, NLL_len]
    by_cases hlt : before < L.length
    case neg =>
      have e : before = L.length := by omega
      have ho : old = (L.length : Int) := by rcases hold with h | h; rw [h, e]; omega
      left
      refine ⟨L, (before : Int), old, z, zi, ⟨[], by simp⟩, hl, hT, hz', hzi, ?_, ?_⟩
      · unfold iter
        simp only [rndS, hzl]
        rw [show decide ((before : Int) < (L.length : Int)) = false from decide_eq_false (by omega), Bool.false_and, cond_false]
      · unfold iter
        simp only [rndI, hzil]
        rw [show decide (old < (L.length : Int)) = false from decide_eq_false (by omega), cond_false]
    have hg : Gd N S L L := ⟨⟨[], by simp⟩, hl, hT⟩
    obtain ⟨j', zs, s1, s2⟩ := spec_ops (before := before) hN h8 hS hops hol h1 hl hT hdone hf hx0 ops.length 0 FU (some L) z (by omega) (by unfold FU; omega) hz' (fun L' e => by cases e; exact hg)
    have i1 := impl_ops hN h8 hS hpk hops h1 hl hT ops.length 0 L zi (by omega) hzi hg
    rw [List.drop_zero] at s1 i1
    rw [show ((0 : Nat) : Int) = 0 from rfl] at s2 i1
    have hspec : rndS (N : Int) ops first ((before : Int), z.1, z.2.1, z.2.2) = some (.nx ((L.length : Int), zs.1, zs.2.1, zs.2.2)) := by
      simp only [rndS, hzl]
      rw [show decide ((before : Int) < (L.length : Int)) = true from decide_eq_true (by omega), z3, Bool.not_false, Bool.and_true, cond_true]
      rw [z3] at s2
      rw [s2]; rfl
    have hC : ∀ {A : Type} (f : Int → A → Option (Ctl A IRT)) (s : A), forC f 0 (ops.length : Int) s = forI f ops.length 0 s := fun f s => by
      unfold forC
      rw [show decide (-9223372036854775808 ≤ (0 : Int)) = true by decide, show decide ((ops.length : Int) ≤ 9223372036854775807) = true by simp; omega, Bool.and_true, cond_true, show ((ops.length : Int) - 0).toNat = ops.length by omega]
    cases hr : ops.foldl (opS N S L) (some L) with
    | none =>
      rw [hr] at s1 i1
      right
      obtain ⟨m, rfl⟩ : ∃ q, m = q + 1 := ⟨m - 1, by omega⟩
      have s1 : zs.2.2 = true := s1
      refine ⟨(L.length : Int), zs, s1, ?_, ?_⟩
      · unfold iter
        simp only [hspec]
        unfold iter
        simp only [rndS, s1, Bool.not_true, Bool.and_false, cond_false]
      · unfold iter
        simp only [rndI, hzil]
        rw [show decide (old < (L.length : Int)) = true from decide_eq_true (by omega), cond_true, hC]
        have i1 : forI _ ops.length 0 (zi.1, zi.2.1, zi.2.2) = some (.rt (none, false)) := i1
        rw [i1]; rfl
    | some L1 =>
      rw [hr] at s1 i1
      obtain ⟨zi', c1, c2, c3⟩ := i1
      obtain ⟨d1, ⟨E, d2⟩, d3⟩ := opsF_pre h1 hT ops hops hg hr
      have himpl : rndI (N : Int) k ops (old, zi.1, zi.2.1, zi.2.2) = some (.nx ((L.length : Int), zi'.1, zi'.2.1, zi'.2.2)) := by
        simp only [rndI, hzil]
        rw [show decide (old < (L.length : Int)) = true from decide_eq_true (by omega), cond_true, hC]
        have c3 : forI _ ops.length 0 (zi.1, zi.2.1, zi.2.2) = some (.br zi') := c3
        rw [c3]; rfl
      have hL1 : L.length ≤ L1.length := by rw [d2, List.length_append]; omega
      have := ih L.length (L.length : Int) m m' L1 zs zi' (by omega) (by omega) (by omega) s1 c1 d1.2.1 (by omega) d1.2.2 hL1 (.inl rfl) (fun _ f hf' K T ho ds hds hd => by
        rw [d2, cmT_app hd, ← d2]
        exact d3 f hf' K T ho ds hds hd)
      unfold iter
      simp only [hspec, himpl]
      rcases this with ⟨L', b, o, z', zi2, ⟨E', e'⟩, k2, k3, k4, k5, k6, k7⟩ | ⟨b, z', k1, k2, k3⟩
      · exact .inl ⟨L', b, o, z', zi2, ⟨E ++ E', by rw [e', d2, List.append_assoc]⟩, k2, k3, k4, k5, k6, k7⟩
      · exact .inr ⟨b, z', k1, k2, k3⟩

/-- The projections. -/
def prj (N K p : Nat) : List Nat := (List.range (N ^ K)).map fun i => ga (dig N K i) p

theorem prj_tbl {N K p : Nat} (hN : 1 ≤ N) (hp : p < K) : (prj N K p).length = N ^ K ∧ ∀ x ∈ prj N K p, x < N := by
  refine ⟨by simp [prj], fun x hx => ?_⟩
  obtain ⟨i, _, rfl⟩ := List.mem_map.1 hx
  exact dig_lt hN K i _ (ga_mem (by rw [dig_len]; exact hp))

def prjs (N K j : Nat) : List (List Nat) := (List.range j).map (prj N K)

theorem prjs_gl {N K j : Nat} (h : j < K) : gl (prjs N K K) j = prj N K j := by
  unfold gl prjs
  rw [List.getD_eq_getElem?_getD, List.getElem?_map, List.getElem?_range h]; rfl

theorem prjs_ad {N K : Nat} (hN : 1 ≤ N) : ∀ j, j ≤ K → K ≤ 3 → ∃ L, (prjs N K j).foldl ad (some []) = some L ∧ L.length ≤ j ∧ Tbl N (N ^ K) L ∧ (∀ p, p < j → prj N K p ∈ L) ∧ (1 ≤ j → 1 ≤ L.length)
  | 0, _, _ => ⟨[], rfl, by simp, (show Tbl N (N ^ K) [] from fun t ht => absurd ht (by simp)), fun p hp => by omega, fun h => by omega⟩
  | j + 1, hj, hK => by
    obtain ⟨L, e, e1, e2, e3, e4⟩ := prjs_ad hN j (by omega) hK
    have : prjs N K (j + 1) = prjs N K j ++ [prj N K j] := by unfold prjs; rw [List.range_succ, List.map_append]; rfl
    rw [this, List.foldl_append, e]
    show ∃ L', ad (some L) (prj N K j) = some L' ∧ _
    cases h : ad (some L) (prj N K j) with
    | none =>
      exfalso
      unfold ad at h
      rw [Option.bind_some] at h
      split at h
      · cases h
      · split at h
        · omega
        · cases h
    | some L' =>
      obtain ⟨⟨E, f1⟩, f2, f3⟩ := ad_good h (by omega) e2 (prj_tbl hN (by omega))
      obtain ⟨E2, g1, g2, g3, _⟩ := ad_pre h
      have hl : L'.length ≤ L.length + 1 := by
        unfold ad at h
        rw [Option.bind_some] at h
        split at h
        · cases h; omega
        · split at h
          · cases h
          · cases h; simp
      refine ⟨L', rfl, by omega, f3, fun p hp => ?_, fun _ => List.length_pos_of_mem g3⟩
      by_cases hpj : p = j
      · rw [hpj]; exact g3
      · rw [f1]; exact List.mem_append_left _ (e3 p (by omega))

theorem clone_both {a : Int × List (Int × List Int)} {N K : Nat} (ha : AlgN a N) (h1 : 1 ≤ K) (hK : K ≤ 3) :
    (∃ (L : List (List Nat)) (st : Stp) (zi : List (List Int) × Stp × List (ByteArray × Bool)), s_spec_l12Clone a (K : Int) = some (NLL L, st, false) ∧ s_impl_cloneOf a.1 a.2 (K : Int) = some (some (NLL L, zi.2.1, zi.2.2), true) ∧ st.length = L.length ∧ ImR L zi ∧ L.length ≤ 60 ∧ Tbl N (N ^ K) L ∧ ∀ p, p < K → prj N K p ∈ L) ∨
    (∃ (t : List (List Int)) (st : Stp), s_spec_l12Clone a (K : Int) = some (t, st, true) ∧ s_impl_cloneOf a.1 a.2 (K : Int) = some (none, false)) := by
  have hN := ha.n1
  have h8 := ha.n8
  have hS := pow_le_512 h8 hK
  have hpk : s_impl_power (N : Int) (K : Int) = some ((N ^ K : Nat) : Int) := power_eq rfl rfl hN (by omega) (by omega)
  have hst : ∀ j, j ≤ K → ∃ (z : List (List Int) × Stp × Bool) (zi : List (List Int) × Stp × List (ByteArray × Bool)), True := fun j _ => ⟨([], [], false), ([], [], []), trivial⟩
  -- the projections of the reference
  have p1 : ∀ (q j : Nat) (z : List (List Int) × Stp × Bool), j + q = K → SpR ((prjs N K j).foldl ad (some [])) z → ∃ z', SpR ((prjs N K K).foldl ad (some [])) z' ∧ forI (S := (List (List Int)) × (List (Int × (List Int))) × Bool) (R := ((List (List Int)) × (List (Int × (List Int))) × Bool)) (fun k60 s58 =>
  (idx (NLL (prjs N K K)) k60).bind fun x75 =>
  (s_spec_l12Add__take02 (s58.1, s58.2.1, s58.2.2) x75 ((-1), [k60])).bind fun r82 =>
  some (.nx (r82.1, r82.2.1, r82.2.2))) q (j : Int) z = some (.br z') := by
    intro q
    induction q with
    | zero => intro j z hj hz; obtain rfl : j = K := by omega
              exact ⟨z, hz, rfl⟩
    | succ q ih =>
      intro j z hj hz
      have hjk : j < (prjs N K K).length := by unfold prjs; simp; omega
      have hgj : gl (prjs N K K) j = prj N K j := prjs_gl (by omega)
      obtain ⟨L, e, e1, e2, _⟩ := prjs_ad (N := N) (K := K) hN j (by omega) hK
      obtain ⟨z2, a1, a2⟩ := spec_add (N := N) (S := N ^ K) hz (fun L' h => by rw [e] at h; cases h; exact ⟨by omega, e2⟩) (by omega) (prj N K j) ((-1), [(j : Int)])
      unfold forI
      simp only [idx_NLL hjk, hgj, Option.bind_some]
      have a1 : s_spec_l12Add__take02 (z.1, z.2.1, z.2.2) (NL (prj N K j)) ((-1), [(j : Int)]) = some z2 := a1
      rw [a1]
      simp only [Option.bind_some]
      have hp : prjs N K (j + 1) = prjs N K j ++ [prj N K j] := by unfold prjs; rw [List.range_succ, List.map_append]; rfl
      have := ih (j + 1) z2 (by omega) (by rw [hp, List.foldl_append]; exact a2)
      exact this
  have p2 : ∀ (q j : Nat) (L : List (List Nat)) (z : List (List Int) × Stp × List (ByteArray × Bool)), j + q = K → (prjs N K j).foldl ad (some []) = some L → ImR L z → ∃ (L' : List (List Nat)) (z' : List (List Int) × Stp × List (ByteArray × Bool)), (prjs N K K).foldl ad (some []) = some L' ∧ ImR L' z' ∧ forI (S := (List (List Int)) × (List (Int × (List Int))) × (List (ByteArray × Bool))) (R := IRT) (fun k66 s63 =>
  (s_impl_projection (N : Int) (K : Int) k66).bind fun r85 =>
  (s_impl_found__add r85 (-1) ([k66]) (s63.1, s63.2.1, s63.2.2)).bind fun r93 =>
  some (.nx (r93.1, r93.2.1, r93.2.2))) q (j : Int) z = some (.br z') := by
    intro q
    induction q with
    | zero => intro j L z hj hL hz; obtain rfl : j = K := by omega
              exact ⟨L, z, hL, hz, rfl⟩
    | succ q ih =>
      intro j L z hj hL hz
      obtain ⟨L2, e, e1, e2, _⟩ := prjs_ad (N := N) (K := K) hN j (by omega) hK
      rw [e] at hL
      obtain rfl := Option.some.inj hL
      have ht := prj_tbl (N := N) (K := K) (p := j) hN (by omega)
      obtain ⟨z2, a1, a2⟩ := impl_add (N := N) hz (by omega) h8 (by omega) ht.1 ht.2 (-1) [(j : Int)] (by simp)
      unfold forI
      have hpr : s_impl_projection (N : Int) (K : Int) (j : Int) = some (NL (prj N K j)) := projection_eq hN h8 hK (by omega)
      simp only [hpr, Option.bind_some]
      have a1 : s_impl_found__add (NL (prj N K j)) (-1) [(j : Int)] (z.1, z.2.1, z.2.2) = some z2 := a1
      rw [a1]
      simp only [Option.bind_some]
      have hp : prjs N K (j + 1) = prjs N K j ++ [prj N K j] := by unfold prjs; rw [List.range_succ, List.map_append]; rfl
      refine ih (j + 1) _ z2 (by omega) ?_ a2
      rw [hp, List.foldl_append, e]
      show ad (some L2) (prj N K j) = _
      unfold ad
      rw [Option.bind_some]
      by_cases hm : prj N K j ∈ L2
      · rw [if_pos hm, if_pos hm]
      · rw [if_neg hm, if_neg hm, if_neg (by omega)]
  obtain ⟨L0, q0, q1, q2, q3, q4⟩ := prjs_ad (N := N) (K := K) hN K (Nat.le_refl _) hK
  obtain ⟨zs, s1, s2⟩ := p1 K 0 ([], [], false) (by omega) ⟨rfl, rfl, rfl⟩
  obtain ⟨L1, zi, i0, i1, i2⟩ := p2 K 0 [] ([], [], []) (by omega) rfl ⟨rfl, rfl, fun T hT => by simp [mget]⟩
  rw [q0] at s1 i0
  obtain rfl := Option.some.inj i0
  have hC : ∀ {A R : Type} (f : Int → A → Option (Ctl A R)) (s : A), forC f 0 (K : Int) s = forI f K 0 s := fun f s => by
    unfold forC
    rw [show decide (-9223372036854775808 ≤ (0 : Int)) = true by decide, show decide ((K : Int) ≤ 9223372036854775807) = true by simp; omega, Bool.and_true, cond_true, show ((K : Int) - 0).toNat = K by omega]
  have hfl : (prjs N K K).length = K := by unfold prjs; simp
  have hf : idx (NLL (prjs N K K)) 0 = some (NL (prj N K 0)) := by
    rw [show (0 : Int) = ((0 : Nat) : Int) from rfl, idx_NLL (by omega), prjs_gl (by omega)]
  have hx0 : ((NL (prj N K 0)).length : Int) = ((N ^ K : Nat) : Int) := by rw [NL_len, (prj_tbl hN (by omega)).1]
  have hr := rounds (k := (K : Int)) hN h8 (by omega) hpk ha.ops (by have := ha.l4; omega) hf hx0 61 0 (-1) FU FU L0 zs zi (by omega) (by unfold FU; omega) (by unfold FU; omega) s1 i1 (by omega) (q4 h1) q2 (by omega) (.inr ⟨rfl, rfl⟩) (fun h => absurd rfl h)
  have hspec : s_spec_l12Clone a (K : Int) = (iter (rndS (N : Int) a.2 (NLL (prjs N K K))) FU (0, zs.1, zs.2.1, zs.2.2)).bind fun o261 => after o261 (fun r_ => some r_) (fun s257 => some (s257.2.1, s257.2.2.1, s257.2.2.2)) := by
    unfold s_spec_l12Clone
    rw [ha.eN, forC0_app (fun j => NL (prj N K j)) (n := K) rfl (by omega) (fun j s hj _ => by
      have hpr : s_spec_l12Projection (N : Int) (K : Int) (j : Int) = some (NL (prj N K j)) := l12Projection_eq hN h8 hK hj
      rw [hpr]; rfl)]
    rw [Option.bind_some, after_br']
    have e : (List.range K).map (fun j => NL (prj N K j)) = NLL (prjs N K K) := by unfold NLL prjs; rw [List.map_map]; rfl
    rw [e]
    unfold s_spec_l12Rounds
    rw [NLL_len, hfl, hC]
    rw [show ((0 : Nat) : Int) = 0 from rfl] at s2
    rw [s2, Option.bind_some, after_br']
    show Option.bind ((iter (rndS (N : Int) a.2 (NLL (prjs N K K))) FU (0, zs.1, zs.2.1, zs.2.2)).bind _) _ = _
    cases iter (rndS (N : Int) a.2 (NLL (prjs N K K))) FU (0, zs.1, zs.2.1, zs.2.2) with
    | none => rfl
    | some o => cases o <;> rfl
  have himpl : s_impl_cloneOf a.1 a.2 (K : Int) = (iter (rndI (N : Int) (K : Int) a.2) FU (-1, zi.1, zi.2.1, zi.2.2)).bind fun o2360 => after o2360 (fun r_ => some r_) (fun s2356 => some ((some (s2356.2.1, s2356.2.2.1, s2356.2.2.2)), true)) := by
    unfold s_impl_cloneOf
    rw [ha.eN, hC]
    rw [show ((0 : Nat) : Int) = 0 from rfl] at i2
    rw [i2, Option.bind_some, after_br']
    rfl
  rw [show ((0 : Nat) : Int) = 0 from rfl] at hr
  rcases hr with ⟨L', b, o, z', zi', ⟨E, e⟩, k2, k3, k4, k5, k6, k7⟩ | ⟨b, z', k1, k2, k3⟩
  · left
    obtain ⟨k41, k42, k43⟩ := k4
    refine ⟨L', z'.2.1, zi', ?_, ?_, k42, k5, k2, k3, fun p hp => by rw [e]; exact List.mem_append_left _ (q3 p hp)⟩
    · rw [hspec, k6, Option.bind_some, after_br', k41, k43]
    · rw [himpl, k7, Option.bind_some, after_br', k5.1]
  · right
    refine ⟨z'.1, z'.2.1, ?_, ?_⟩
    · rw [hspec, k2, Option.bind_some, after_br', k1]
    · rw [himpl, k3]; rfl

set_option linter.unusedVariables false

/-- The values of a table at a pattern. -/
def vp (N : Nat) (P t : List Nat) : List Nat := (List.range (N * N)).map (vat N t P)

def plc (L : List (List Nat)) (t : List Nat) : Int := match (List.range L.length).findSome? (fun j => if gl L j == t then some (j : Int) else none) with | none => -1 | some r => r

theorem pattern_eq (L : List (List Nat)) (t : List Nat) (hL : L.length ≤ 100000) (ht : t.length ≤ 100000) : s_impl_patternAt (NLL L) (NL t) = some (plc L t) := by
  unfold s_impl_patternAt plc
  rw [forC0_find (R := Int) (S := Unit) (s := ()) (fun j => if gl L j == t then some (j : Int) else none) (n := L.length) (hi := ((NLL L).length : Int)) (by rw [NLL_len]) (by omega) (fun j hj => by
    rw [idx_NLL hj, Option.bind_some, sameList_NL (by omega), Option.bind_some, show (t == gl L j) = (gl L j == t) by rw [Bool.eq_iff_iff, beq_iff_eq, beq_iff_eq]; exact eq_comm]
    cases (gl L j == t) <;> rfl)]
  cases (List.range L.length).findSome? (fun j => if gl L j == t then some (j : Int) else none) <;> rfl

/-- What the program notes of a table. -/
def fxd (N : Nat) (t : List Nat) : Bool := vp N [0, 1, 0] t == prj N 2 0

theorem firsts_prj {N : Nat} (h1 : 1 ≤ N) (h8 : N ≤ 8) : s_impl_firsts (N : Int) = some (NL (prj N 2 0)) := by
  rw [firsts_eq h1 h8]; unfold prj; rw [pow2]

theorem forR_app3 {α R A B C : Type} (f : α → A) (g : α → B) (h : α → C) {step : Int → α → List A × List B × List C → Option (Ctl (List A × List B × List C) R)} : ∀ (l : List α) (pre : List α) (i : Int), (∀ i, ∀ x ∈ l, ∀ s, step i x s = (app s.1 [f x]).bind fun y => (app s.2.1 [g x]).bind fun y2 => (app s.2.2 [h x]).bind fun y3 => some (.nx (y, y2, y3))) → pre.length + l.length ≤ 100000 →
    forR step i l (pre.map f, pre.map g, pre.map h) = some (.br ((pre ++ l).map f, (pre ++ l).map g, (pre ++ l).map h))
  | [], pre, i, _, _ => by rw [List.append_nil]; rfl
  | x :: l, pre, i, hs, hl => by
    rw [List.length_cons] at hl
    rw [forR_step (s' := ((pre ++ [x]).map f, (pre ++ [x]).map g, (pre ++ [x]).map h)) (by
      rw [hs i x (by simp)]
      simp only []
      rw [app_ok (by simp; omega), Option.bind_some, app_ok (by simp; omega), Option.bind_some, app_ok (by simp; omega), Option.bind_some]
      simp)]
    rw [forR_app3 f g h l (pre ++ [x]) (i + 1) (fun i y hy s => hs i y (by simp [hy]) s) (by simp; omega)]
    simp

/-- What a chainer is. -/
abbrev IRC := (Option (Int × (List (List Int)) × (List Bool) × (List (List Int)) × (List (List Int)) × Int × Int)) × Bool

def chn (N : Nat) (L : List (List Nat)) : Int × (List (List Int)) × (List Bool) × (List (List Int)) × (List (List Int)) × Int × Int :=
  ((N : Int), NLL L, L.map (fxd N), NLL (L.map (vp N [0, 0, 1])), NLL (L.map (vp N [0, 1, 1])), plc L (prj N 3 0), plc L (prj N 3 2))

theorem chain_cases (a : Int × List (Int × List Int)) (hb : BA a) : (∃ (N : Nat) (L : List (List Nat)), a.1 = (N : Int) ∧ 1 ≤ N ∧ N ≤ 3 ∧ L.length ≤ 60 ∧ Tbl N (N ^ 3) L ∧ prj N 3 0 ∈ L ∧ prj N 3 2 ∈ L ∧ s_spec_l17Clone (a.1, a.2) = some (NLL L, true) ∧ s_impl_newChainer (a.1, a.2) = some (some (chn N L), true)) ∨
    (∃ t, s_spec_l17Clone (a.1, a.2) = some (t, false) ∧ s_impl_newChainer (a.1, a.2) = some (none, false)) := by
  unfold s_spec_l17Clone s_impl_newChainer
  rcases alg_cases a hb with ⟨N, ha, g1, g2⟩ | ⟨_, g1, g2⟩
  case inr => rw [g1, g2]; exact .inr ⟨[], rfl, rfl⟩
  rw [g1, g2]
  simp only [Option.bind_some, Bool.not_true, cond_false]
  by_cases h3 : N ≤ 3
  case neg =>
    rw [ha.eN, show decide ((3 : Int) < (N : Int)) = true from decide_eq_true (by omega)]
    exact .inr ⟨[], rfl, rfl⟩
  have h1 := ha.n1
  have e3 : decide ((3 : Int) < a.1) = false := by rw [ha.eN]; exact decide_eq_false (by omega)
  have h27 : N ^ 3 ≤ 27 := Nat.le_trans (Nat.pow_le_pow_left h3 3) (by decide)
  have ep : s_impl_power a.1 3 = some ((N ^ 3 : Nat) : Int) := power_eq ha.eN rfl h1 (by omega) (by omega)
  have etf : s_impl_termFunctions (a.1, a.2) 3 = s_impl_cloneOf a.1 a.2 3 := by
    unfold s_impl_termFunctions s_impl_isCloneRange
    simp only [g2, Option.bind_some, Bool.not_true, cond_false, ep, show decide ((1 : Int) ≤ 3) = true from rfl, show decide ((3 : Int) ≤ 3) = true from rfl, cond_true]
    rw [show decide (((N ^ 3 : Nat) : Int) ≤ 27) = true from decide_eq_true (by omega)]
    simp only [Bool.not_true, cond_false]
    cases s_impl_cloneOf a.1 a.2 3 <;> rfl
  rw [e3, etf]
  simp only [cond_false]
  rcases clone_both ha (K := 3) (by omega) (by omega) with ⟨L, st, zi, c1, c2, c3, c4, c5, c6, c7⟩ | ⟨t, st, c1, c2⟩
  case inr =>
    have c1 : s_spec_l12Clone (a.1, a.2) 3 = _ := c1
    have c2 : s_impl_cloneOf a.1 a.2 3 = _ := c2
    rw [c1, c2]
    exact .inr ⟨t, rfl, rfl⟩
  left
  have c1 : s_spec_l12Clone (a.1, a.2) 3 = _ := c1
  have c2 : s_impl_cloneOf a.1 a.2 3 = _ := c2
  refine ⟨N, L, ha.eN, h1, h3, c5, c6, c7 0 (by omega), c7 2 (by omega), ?_, ?_⟩
  · rw [c1]; rfl
  · rw [c2, Option.bind_some]
    simp only [Bool.not_true, cond_false, Option.bind_some]
    rw [ha.eN, firsts_prj h1 (by omega)]
    have hva : ∀ t ∈ L, ∀ P : List Nat, P.length = 3 → (∀ x ∈ P, x < 2) → s_impl_valuesAt (N : Int) (NL t) (NL P) = some (NL (vp N P t)) := fun t ht P hP hx => valuesAt_eq h1 (by omega) (c6 t ht).1 hP hx
    have hl := forR_app3 (R := IRC) (fun u : List Int => fxd N (u.map Int.toNat)) (fun u : List Int => NL (vp N [0, 0, 1] (u.map Int.toNat))) (fun u : List Int => NL (vp N [0, 1, 1] (u.map Int.toNat))) (step := fun _ x195 s192 =>
  (s_impl_valuesAt (N : Int) x195 ([0, 1, 0])).bind fun r234 =>
  (some (NL (prj N 2 0)) : Option (List Int)).bind fun r237 =>
  (s_impl_sameList r234 r237).bind fun r240 =>
  (app s192.1 ([r240])).bind fun y244 =>
  (s_impl_valuesAt (N : Int) x195 ([0, 0, 1])).bind fun r263 =>
  (app s192.2.1 ([r263])).bind fun y268 =>
  (s_impl_valuesAt (N : Int) x195 ([0, 1, 1])).bind fun r275 =>
  (app s192.2.2 ([r275])).bind fun y280 =>
  some (.nx (y244, y268, y280))) (NLL L) [] 0 (fun i x hx s => by
      obtain ⟨t, ht, rfl⟩ := List.mem_map.1 hx
      have v1 : s_impl_valuesAt (N : Int) (NL t) [0, 1, 0] = _ := hva t ht [0, 1, 0] rfl (by decide)
      have v2 : s_impl_valuesAt (N : Int) (NL t) [0, 0, 1] = _ := hva t ht [0, 0, 1] rfl (by decide)
      have v3 : s_impl_valuesAt (N : Int) (NL t) [0, 1, 1] = _ := hva t ht [0, 1, 1] rfl (by decide)
      have h99 : N * N ≤ 9 := Nat.mul_le_mul h3 h3
      simp only [v1, v2, v3, Option.bind_some, NL_toNat]
      rw [sameList_NL (by simp [vp]; omega), Option.bind_some]
      rfl) (by simp; omega)
    simp only [List.map_nil, List.nil_append] at hl
    rw [hl, Option.bind_some, after_br']
    have hp0 : s_impl_projection (N : Int) 3 0 = some (NL (prj N 3 0)) := projection_eq (K := 3) (place := 0) h1 (by omega) (by omega) (by omega)
    have hp2 : s_impl_projection (N : Int) 3 2 = some (NL (prj N 3 2)) := projection_eq (K := 3) (place := 2) h1 (by omega) (by omega) (by omega)
    rw [hp0, Option.bind_some, pattern_eq L _ (by omega) (by simp [prj]; omega), Option.bind_some, hp2, Option.bind_some, pattern_eq L _ (by omega) (by simp [prj]; omega), Option.bind_some]
    unfold chn NLL
    simp only [List.map_map]
    congr 5
    refine Prod.ext ?_ (Prod.ext ?_ (Prod.ext ?_ rfl)) <;> exact List.map_congr_left fun t _ => by simp [Function.comp, NL_toNat]

theorem value_eq {N x y z : Nat} {t : List Nat} (h8 : N ≤ 8) (ht : t.length = N ^ 3) (hx : x < N) (hy : y < N) (hz : z < N) : s_spec_l17Value (N : Int) (NL t) (x : Int) (y : Int) (z : Int) = some ((t3 t N x y z : Nat) : Int) := by
  unfold s_spec_l17Value
  have a1 : x * N ≤ 8 * 8 := Nat.mul_le_mul (by omega) h8
  have a2 : x * N * N ≤ 64 * 8 := Nat.mul_le_mul a1 h8
  have a3 : y * N ≤ 8 * 8 := Nat.mul_le_mul (by omega) h8
  have hc : w64 ((w64 ((w64 ((w64 ((x : Int) * (N : Int))) * (N : Int))) + (w64 ((y : Int) * (N : Int))))) + (z : Int)) = (((x * N + y) * N + z : Nat) : Int) := by
    rw [w64_mul (by omega), w64_mul (by omega), w64_mul (by omega), ← Int.natCast_add, w64_nat (by omega), ← Int.natCast_add, w64_nat (by omega), Nat.add_mul]
  have hi : (x * N + y) * N + z < t.length := by
    rw [ht, Nat.pow_succ, Nat.pow_succ, Nat.pow_succ, Nat.pow_zero, Nat.one_mul]
    exact lin2 (lin2 hx hy) hz
  rw [hc, idx_NL hi]; rfl

/-- The patterns of the three ways. -/
def pat (w : Nat) : List Nat := if w = 0 then [0, 1, 0] else if w = 1 then [0, 0, 1] else [0, 1, 1]

theorem l17Part_eq {N w : Nat} {t : List Nat} (h8 : N ≤ 8) (ht : t.length = N ^ 3) (hw : w ≤ 2) : s_spec_l17Part (N : Int) (NL t) (w : Int) = some (NL (vp N (pat w) t)) := by
  unfold s_spec_l17Part
  have h64 := sq_le h8
  rw [forC0_fn (R := List Int) (F := fun x => NL ((List.range (x * N)).map (vat N t (pat w)))) (s := []) (n := N) rfl (by omega) (by simp) (fun x hx => by
    rw [forC0_fn (R := List Int) (F := fun y => NL ((List.range (x * N + y)).map (vat N t (pat w)))) (n := N) rfl (by omega) (by simp) (fun y hy => by
      have hxy : x * N + y < N * N := lin2 hx hy
      have hv : (bif ((w : Int) == 0) then (s_spec_l17Value (N : Int) (NL t) (x : Int) (y : Int) (x : Int)) else (bif ((w : Int) == 1) then (s_spec_l17Value (N : Int) (NL t) (x : Int) (x : Int) (y : Int)) else (s_spec_l17Value (N : Int) (NL t) (x : Int) (y : Int) (y : Int)))) = some ((vat N t (pat w) (x * N + y) : Nat) : Int) := by
        rcases (by omega : w = 0 ∨ w = 1 ∨ w = 2) with rfl | rfl | rfl
        · rw [show (((0 : Nat) : Int) == 0) = true from rfl, cond_true, value_eq h8 ht hx hy hx]
          show _ = some ((vat N t [0, 1, 0] (x * N + y) : Nat) : Int)
          rw [vat_at hx hy]; rfl
        · rw [show (((1 : Nat) : Int) == 0) = false from rfl, cond_false, show (((1 : Nat) : Int) == 1) = true from rfl, cond_true, value_eq h8 ht hx hx hy]
          show _ = some ((vat N t [0, 0, 1] (x * N + y) : Nat) : Int)
          rw [vat_at hx hy]; rfl
        · rw [show (((2 : Nat) : Int) == 0) = false from rfl, cond_false, show (((2 : Nat) : Int) == 1) = false from rfl, cond_false, value_eq h8 ht hx hy hy]
          show _ = some ((vat N t [0, 1, 1] (x * N + y) : Nat) : Int)
          rw [vat_at hx hy]; rfl
      have hgoal : ∀ s : List Int, (bif ((w : Int) == 0) then (s_spec_l17Value (N : Int) (NL t) (x : Int) (y : Int) (x : Int)).bind fun r111 =>
  (app s ([r111])).bind fun y115 => some (Ctl.nx (R := List Int) y115) else (bif ((w : Int) == 1) then (s_spec_l17Value (N : Int) (NL t) (x : Int) (x : Int) (y : Int)).bind fun r119 =>
  (app s ([r119])).bind fun y123 => some (.nx y123) else (s_spec_l17Value (N : Int) (NL t) (x : Int) (y : Int) (y : Int)).bind fun r126 =>
  (app s ([r126])).bind fun y130 => some (.nx y130))) = (bif ((w : Int) == 0) then (s_spec_l17Value (N : Int) (NL t) (x : Int) (y : Int) (x : Int)) else (bif ((w : Int) == 1) then (s_spec_l17Value (N : Int) (NL t) (x : Int) (x : Int) (y : Int)) else (s_spec_l17Value (N : Int) (NL t) (x : Int) (y : Int) (y : Int)))).bind fun r => (app s [r]).bind fun y => some (.nx y) := fun s => by
        cases ((w : Int) == 0) <;> cases ((w : Int) == 1) <;> rfl
      rw [hgoal, hv, Option.bind_some, app_ok (by simp; omega), Option.bind_some, ← Nat.add_assoc, List.range_succ, List.map_append, NL_app]
      rfl)]
    rw [Option.bind_some, after_br', Nat.succ_mul])]
  rfl

theorem xs_eq {N : Nat} (h1 : 1 ≤ N) (h8 : N ≤ 8) : s_spec_l17Xs (N : Int) = some (NL (prj N 2 0)) := by
  unfold s_spec_l17Xs
  have : s_spec_l12Projection (N : Int) 2 0 = some (NL (prj N 2 0)) := l12Projection_eq (K := 2) (place := 0) h1 h8 (by omega) (by omega)
  rw [this]; rfl

theorem fixed_eq {N : Nat} {t : List Nat} (h1 : 1 ≤ N) (h8 : N ≤ 8) (ht : t.length = N ^ 3) : s_spec_l17Fixed (N : Int) (NL t) = some (fxd N t) := by
  unfold s_spec_l17Fixed
  have h64 := sq_le h8
  have hp : s_spec_l17Part (N : Int) (NL t) 0 = some (NL (vp N [0, 1, 0] t)) := l17Part_eq (w := 0) h8 ht (by omega)
  rw [hp, Option.bind_some, xs_eq h1 h8, Option.bind_some, l1Same_NL (by simp [vp]; omega), Option.bind_some]
  rfl

set_option linter.unusedVariables false

def hdO (x : Int × List Int) (k : Int) : Option Int := if x.1 = k then (s_laws_heldIntS x.2 (k + 1)).bind fun q => if q < 0 then none else some q else none

theorem mkO_ok (x : Int × List Int) (hx : BO x) : MkOk mkOp1 hdO 1048577 x := by
  intro k h0 h1
  have hx' : x.2.length ≤ 1048576 := hx
  obtain ⟨k', t, m1, m2, m3, m4⟩ := markIntS_ok x.2 hx (k + 1) (by omega) (by omega)
  have e := markIntS_eq x.2 (k + 1) (by omega) (by omega) (by omega)
  rw [e] at m1
  cases m1
  refine ⟨k + 1 + (x.2.length : Int), (k, marks x.2.length (k + 1)), by unfold mkOp1; rw [e]; rfl, ?_, by omega, by omega⟩
  unfold hdO
  rw [if_pos rfl]
  simp only []
  rw [m2, Option.bind_some, if_neg (by omega)]

theorem opS_marks (a : List (Int × List Int)) (hl : a.length ≤ 1048576) (ha : ∀ f ∈ a, BO f) (k : Int) (h0 : 0 ≤ k) (h1 : k + 1099512676352 ≤ 4611686018427387904) :
    ∃ k' t, s_laws_markOpS a k = some (k', t) ∧ s_laws_heldOpS t k = some k' ∧ 0 ≤ k' := by
  have hC : a.length * 1048577 ≤ 1048576 * 1048577 := Nat.mul_le_mul_right _ hl
  have h := markS_loop mkOp1 hdO 1048577 a hl (fun x hx => mkO_ok x (ha x hx)) (step := fun s57 =>
  (bif (decide (s57.2.1 < (s57.2.2.length : Int))) then (idx s57.2.2 s57.2.1).bind fun x67 =>
  (idx (List.set s57.2.2 (Int.toNat s57.2.1) (s57.1, x67.2)) s57.2.1).bind fun x71 =>
  (s_laws_markIntS x71.2 (w64 (s57.1 + 1))).bind fun r77 =>
  some (.nx (r77.1, w64 (s57.2.1 + 1), List.set (List.set s57.2.2 (Int.toNat s57.2.1) (s57.1, x67.2)) (Int.toNat s57.2.1) (x71.1, r77.2))) else some (.br (s57.1, s57.2.1, s57.2.2))))
    (hstep := fun k16 s14 a_ => (idx a_ k16).bind fun x20 =>
  (bif (x20.1 != s14) then some (.rt (-1)) else (idx a_ k16).bind fun x24 =>
  (s_laws_heldIntS x24.2 (w64 (s14 + 1))).bind fun r30 =>
  (bif (decide (r30 < 0)) then some (.rt (-1)) else some (.nx r30)))) (fun k i l hi hl' hm h0 hk => by
      obtain ⟨z, hz⟩ := hm
      have hd : decide ((i : Int) < (l.length : Int)) = true := by simp; omega
      have hs : (l.set i (k, l[i].2))[i]? = some (k, l[i].2) := by rw [List.getElem?_set_self hi]
      simp only [hd, cond_true, idx_nat, List.getElem?_eq_getElem hi, Option.bind_some, Int.toNat_natCast, hs, w64_add1 (show i + 1 ≤ 9223372036854775807 by omega), w64_id (show -9223372036854775808 ≤ k + 1 by omega) (show k + 1 ≤ 9223372036854775807 by omega), List.set_set, mkOp1]
      rw [Option.bind_assoc]
      rfl) (fun k i l hi => by subst hi; simp) (fun k i l hi k' hh h0 h1 h2 hk => by
      unfold hdO at hh
      by_cases c2 : l[i].1 = k
      · rw [if_pos c2] at hh
        obtain ⟨q, hq, hh⟩ := bind_some hh
        by_cases c3 : q < 0
        · rw [if_pos c3] at hh; cases hh
        rw [if_neg c3] at hh
        cases hh
        have e2 : (l[i].1 != k) = false := by simp [c2]
        simp only [idx_nat, List.getElem?_eq_getElem hi, Option.bind_some, e2, cond_false, w64_id (show -9223372036854775808 ≤ k + 1 by omega) (show k + 1 ≤ 9223372036854775807 by omega), hq, show decide (k' < 0) = false by simpa using c3]
      · rw [if_neg c2] at hh; cases hh) k h0 (by omega)
  obtain ⟨k', t, g1, g2, g3, g4⟩ := h
  have g1' : s_laws_markOpS a k = some (k', t) := g1
  have g2' : s_laws_heldOpS t k = some k' := g2
  exact ⟨k', t, g1', g2', by omega⟩


theorem seconds_prj {N : Nat} (h1 : 1 ≤ N) (h8 : N ≤ 8) : s_impl_seconds (N : Int) = some (NL (prj N 2 1)) := by
  rw [seconds_eq h1 h8]; unfold prj; rw [pow2]

theorem ys_eq {N : Nat} (h1 : 1 ≤ N) (h8 : N ≤ 8) : s_spec_l17Ys (N : Int) = some (NL (prj N 2 1)) := by
  unfold s_spec_l17Ys
  have : s_spec_l12Projection (N : Int) 2 1 = some (NL (prj N 2 1)) := l12Projection_eq (K := 2) (place := 1) h1 h8 (by omega) (by omega)
  rw [this]; rfl

theorem chn_at {N : Nat} {L : List (List Nat)} {g : Nat} (hg : g < L.length) : idx (chn N L).2.2.1 (g : Int) = some (fxd N (gl L g)) ∧ idx (chn N L).2.2.2.1 (g : Int) = some (NL (vp N [0, 0, 1] (gl L g))) ∧ idx (chn N L).2.2.2.2.1 (g : Int) = some (NL (vp N [0, 1, 1] (gl L g))) := by
  have hl : ∀ (P : List Nat), idx (NLL (L.map (vp N P))) (g : Int) = some (NL (vp N P (gl L g))) := fun P => by
    rw [idx_NLL (by simpa using hg)]
    congr 2
    rw [gl_get (by simpa using hg), List.getElem_map, gl_get hg]
  refine ⟨?_, hl _, hl _⟩
  show idx (L.map (fxd N)) (g : Int) = _
  rw [idx_nat, List.getElem?_map, List.getElem?_eq_getElem hg, gl_get hg]; rfl

/-- The operations at places. -/
def opsA (L : List (List Nat)) (P : List Nat) : List (Int × List Int) := P.map fun g => (3, NL (gl L g))

theorem give_eq {N : Nat} {L : List (List Nat)} {P : List Nat} (hT : Tbl N (N ^ 3) L) (h27 : N ^ 3 ≤ 27) (hP : ∀ g ∈ P, g < L.length) (hl : P.length ≤ 60) : s_spec_l17Give (NLL L) (NL P) = some (opsA L P) := by
  unfold s_spec_l17Give
  rw [forC0_app (fun j => ((3 : Int), NL (gl L (ga P j)))) (n := P.length) (by rw [NL_len]) (by omega) (fun j s hj _ => by
    have hg := hP _ (ga_mem hj)
    rw [idx_NL hj, Option.bind_some, idx_NLL hg, Option.bind_some, l1Own_eq (by rw [NL_len, (hT _ (gl_mem hg)).1]; omega), Option.bind_some])]
  rw [Option.bind_some, after_br']
  congr 1
  unfold opsA
  conv => rhs; rw [← map_ga P, List.map_map]
  rfl

theorem chOps_eq {N : Nat} {L : List (List Nat)} {P : List Nat} (hT : Tbl N (N ^ 3) L) (h27 : N ^ 3 ≤ 27) (hP : ∀ g ∈ P, g < L.length) (hl : P.length ≤ 60) : s_impl_chainer__ops (NL P) (chn N L) = some (opsA L P) := by
  unfold s_impl_chainer__ops
  have c1 : (chn N L).2.1 = NLL L := rfl
  rw [c1]
  have key : ∀ (Q pre : List Nat) (i : Int), (∀ g ∈ Q, g < L.length) → pre.length + Q.length ≤ 60 → forR (S := (List (Int × (List Int)))) (R := (List (Int × (List Int)))) (fun _ x27 s24 =>
  (idx (NLL L) x27).bind fun x35 =>
  (s_impl_clone x35).bind fun r40 =>
  (app s24 ([(3, r40)])).bind fun y45 =>
  some (.nx y45)) i (NL Q) (opsA L pre) = some (.br (opsA L (pre ++ Q))) := by
    intro Q
    induction Q with
    | nil => intro pre i _ _; rw [List.append_nil]; rfl
    | cons g Q ih =>
      intro pre i hQ hl
      have hg := hQ g (by simp)
      rw [List.length_cons] at hl
      rw [NL_cons, forR_step (s' := opsA L (pre ++ [g])) (by
        rw [idx_NLL hg, Option.bind_some, clone_eq (by rw [NL_len, (hT _ (gl_mem hg)).1]; omega), Option.bind_some, app_ok (by simp [opsA]; omega), Option.bind_some]
        simp [opsA]), ih (pre ++ [g]) (i + 1) (fun x hx => hQ x (by simp [hx])) (by simp; omega)]
      simp
  have := key P [] 0 hP (by simpa using hl)
  have this : forR (S := (List (Int × (List Int)))) (R := (List (Int × (List Int)))) (fun _ x27 s24 =>
  (idx (NLL L) x27).bind fun x35 =>
  (s_impl_clone x35).bind fun r40 =>
  (app s24 ([(3, r40)])).bind fun y45 =>
  some (.nx y45)) 0 (NL P) [] = _ := this
  rw [this, Option.bind_some, after_br', List.nil_append]

theorem filter_succ (p : Nat → Bool) (j : Nat) : (List.range (j + 1)).filter p = (List.range j).filter p ++ if p j then [j] else [] := by
  rw [List.range_succ, List.filter_append]
  cases h : p j <;> simp [List.filter, h]

abbrev CHN := Int × (List (List Int)) × (List Bool) × (List (List Int)) × (List (List Int)) × Int × Int

theorem chn_eta (c : CHN) : (c.1, c.2.1, c.2.2.1, c.2.2.2.1, c.2.2.2.2.1, c.2.2.2.2.2.1, c.2.2.2.2.2.2) = c := rfl

theorem dir3_eq {N : Nat} {L : List (List Nat)} {f g : Nat} (h8 : N ≤ 8) (hf : f < L.length) (hg : g < L.length) (i : Int) : s_impl_chainer__direct_3__g i (f : Int) (g : Int) (chn N L) = some (fxd N (gl L f) && (fxd N (gl L g) && (vp N [0, 1, 1] (gl L f) == vp N [0, 0, 1] (gl L g)))) := by
  have h64 := sq_le h8
  unfold s_impl_chainer__direct_3__g
  rw [(chn_at (N := N) hf).1, Option.bind_some, (chn_at (N := N) hg).1, Option.bind_some, (chn_at (N := N) hf).2.2, Option.bind_some, (chn_at (N := N) hg).2.1, Option.bind_some, sameList_NL (by simp [vp]; omega)]
  cases fxd N (gl L f) <;> cases fxd N (gl L g) <;> rfl

theorem dir1_eq {N : Nat} {L : List (List Nat)} {f : Nat} (h1 : 1 ≤ N) (h8 : N ≤ 8) (hf : f < L.length) : s_impl_chainer__direct_1__g (f : Int) (chn N L) = some (fxd N (gl L f) && (vp N [0, 0, 1] (gl L f) == prj N 2 0)) := by
  have h64 := sq_le h8
  unfold s_impl_chainer__direct_1__g
  have c1 : (chn N L).1 = (N : Int) := rfl
  rw [(chn_at (N := N) hf).1, Option.bind_some, (chn_at (N := N) hf).2.1, Option.bind_some, c1, firsts_prj h1 h8, Option.bind_some, sameList_NL (by simp [vp]; omega)]
  cases fxd N (gl L f) <;> rfl

theorem dir2_eq {N : Nat} {L : List (List Nat)} {f : Nat} (h1 : 1 ≤ N) (h8 : N ≤ 8) (hf : f < L.length) : s_impl_chainer__direct_2__g (f : Int) (chn N L) = some (fxd N (gl L f) && (vp N [0, 1, 1] (gl L f) == prj N 2 1)) := by
  have h64 := sq_le h8
  unfold s_impl_chainer__direct_2__g
  have c1 : (chn N L).1 = (N : Int) := rfl
  rw [(chn_at (N := N) hf).1, Option.bind_some, (chn_at (N := N) hf).2.2, Option.bind_some, c1, seconds_prj h1 h8, Option.bind_some, sameList_NL (by simp [vp]; omega)]
  cases fxd N (gl L f) <;> rfl

theorem eqOpS_same (l : List (Int × List Int)) (hl : l.length ≤ 1048576) (h : ∀ f ∈ l, BO f) : s_laws_eqOpS l l = some true := eqS_refl s_laws_eqOp l (by omega) (fun x hx => eqOp_refl x (h x hx))

section
set_option linter.unusedVariables false

section
variable (m : Nat) (st : Nat → Nat → Bool) (tof : Nat → Bool)
/-- There is a walk of so many steps to an end. -/
def Wk : Nat → Nat → Bool
  | 0, f => tof f
  | d + 1, f => (List.range m).any fun g => st f g && Wk d g
/-- The distance up to a bound, or -1. -/
def fr (d f : Nat) : Int := match (List.range (d + 1)).find? (fun e => Wk m st tof e f) with | some e => (e : Int) | none => -1
variable {m st tof}
theorem fr_cases (d f : Nat) : (fr m st tof d f = -1 ∧ ∀ e, e ≤ d → Wk m st tof e f = false) ∨ (∃ e : Nat, fr m st tof d f = (e : Int) ∧ e ≤ d ∧ Wk m st tof e f = true ∧ ∀ e', e' < e → Wk m st tof e' f = false) := by
  unfold fr
  cases h : (List.range (d + 1)).find? (fun e => Wk m st tof e f) with
  | none =>
    left
    rw [List.find?_eq_none] at h
    exact ⟨rfl, fun e he => by simpa using h e (List.mem_range.2 (by omega))⟩
  | some e =>
    right
    obtain ⟨hp, us, bs, he, ha⟩ := List.find?_eq_some_iff_append.1 h
    have hlt : e < d + 1 := List.mem_range.1 (by rw [he]; simp)
    refine ⟨e, rfl, by omega, hp, fun e' he' => ?_⟩
    have hm : e' ∈ us ++ e :: bs := by rw [← he]; exact List.mem_range.2 (by omega)
    have hlen : us.length = e := by
      have hh := congrArg (fun l : List Nat => l[us.length]?) he
      simp only [List.getElem?_append_right (Nat.le_refl _), Nat.sub_self, List.getElem?_cons_zero] at hh
      have hl2 : us.length < d + 1 := by
        have := congrArg List.length he
        simp at this; omega
      rw [List.getElem?_range hl2] at hh
      exact Option.some.inj hh
    have hin : e' ∈ us := by
      have h1 : (us ++ e :: bs)[e']? = some e' := by rw [← he, List.getElem?_range (by omega)]
      rw [List.getElem?_append_left (by omega)] at h1
      exact List.mem_of_getElem? h1
    simpa using ha e' hin
theorem fr_ge (d f : Nat) : -1 ≤ fr m st tof d f ∧ fr m st tof d f ≤ (d : Int) := by
  rcases fr_cases (m := m) (st := st) (tof := tof) d f with ⟨e, _⟩ | ⟨e, h, h1, _⟩
  · rw [e]; omega
  · rw [h]; omega
theorem fr_neg {d f : Nat} (h : fr m st tof d f < 0) : ∀ e, e ≤ d → Wk m st tof e f = false := by
  rcases fr_cases (m := m) (st := st) (tof := tof) d f with ⟨_, h'⟩ | ⟨e, h', _⟩
  · exact h'
  · rw [h'] at h; omega
theorem fr_of {d f e : Nat} (he : e ≤ d) (hw : Wk m st tof e f = true) (hl : ∀ e', e' < e → Wk m st tof e' f = false) : fr m st tof d f = (e : Int) := by
  rcases fr_cases (m := m) (st := st) (tof := tof) d f with ⟨_, h'⟩ | ⟨e2, h', h1, h2, h3⟩
  · rw [h' e he] at hw; cases hw
  · have : e2 = e := by
      rcases Nat.lt_trichotomy e2 e with h | h | h
      · rw [hl e2 h] at h2; cases h2
      · exact h
      · rw [h3 e h] at hw; cases hw
    rw [h', this]
theorem fr_is {d f e : Nat} (h : fr m st tof d f = (e : Int)) : e ≤ d ∧ Wk m st tof e f = true ∧ ∀ e', e' < e → Wk m st tof e' f = false := by
  rcases fr_cases (m := m) (st := st) (tof := tof) d f with ⟨h', _⟩ | ⟨e2, h', h1, h2, h3⟩
  · rw [h'] at h; omega
  · have : e2 = e := by rw [h'] at h; omega
    subst this; exact ⟨h1, h2, h3⟩
theorem fr_keep {d f : Nat} (h : ¬ fr m st tof d f < 0) : fr m st tof (d + 1) f = fr m st tof d f := by
  obtain ⟨e, he⟩ : ∃ e : Nat, fr m st tof d f = (e : Int) := ⟨(fr m st tof d f).toNat, by omega⟩
  obtain ⟨h1, h2, h3⟩ := fr_is he
  rw [he]; exact fr_of (by omega) h2 h3
theorem fr_zero (f : Nat) : fr m st tof 0 f = if tof f then 0 else -1 := by
  cases h : tof f with
  | true => exact fr_of (e := 0) (Nat.le_refl _) h (fun e' he' => by omega)
  | false =>
    rcases fr_cases (m := m) (st := st) (tof := tof) 0 f with ⟨h', _⟩ | ⟨e2, h', h1, h2, h3⟩
    · simpa using h'
    · obtain rfl : e2 = 0 := by omega
      have : tof f = true := h2
      rw [h] at this; cases this
/-- The round for the distance d + 1. -/
theorem fr_any {d f : Nat} (h : fr m st tof d f < 0) : ((List.range m).any fun g => st f g && (fr m st tof d g == (d : Int))) = Wk m st tof (d + 1) f := by
  have hn := fr_neg h
  show _ = (List.range m).any fun g => st f g && Wk m st tof d g
  rw [Bool.eq_iff_iff]
  simp only [List.any_eq_true, List.mem_range, Bool.and_eq_true, beq_iff_eq]
  constructor
  · rintro ⟨g, hg, hs, he⟩; exact ⟨g, hg, hs, (fr_is he).2.1⟩
  · rintro ⟨g, hg, hs, hw⟩
    refine ⟨g, hg, hs, fr_of (Nat.le_refl _) hw (fun e' he' => ?_)⟩
    cases hw' : Wk m st tof e' g with
    | false => rfl
    | true =>
      have : Wk m st tof (e' + 1) f = true := by
        show ((List.range m).any fun g => st f g && Wk m st tof e' g) = true
        rw [List.any_eq_true]
        exact ⟨g, List.mem_range.2 hg, by rw [hs, hw']; rfl⟩
      rw [hn (e' + 1) (by omega)] at this; cases this
theorem fr_succ {d f : Nat} (h : fr m st tof d f < 0) : fr m st tof (d + 1) f = if ((List.range m).any fun g => st f g && (fr m st tof d g == (d : Int))) then ((d + 1 : Nat) : Int) else fr m st tof d f := by
  rw [fr_any h]
  have hn := fr_neg h
  cases hw : Wk m st tof (d + 1) f with
  | true => exact fr_of (Nat.le_refl _) hw (fun e' he' => hn e' (by omega))
  | false =>
    have hm1 : fr m st tof d f = -1 := by have := (fr_ge (m := m) (st := st) (tof := tof) d f).1; omega
    rcases fr_cases (m := m) (st := st) (tof := tof) (d + 1) f with ⟨h', _⟩ | ⟨e2, h', h1, h2, h3⟩
    · rw [h', hm1]; rfl
    · exfalso
      by_cases e : e2 = d + 1
      · subst e; rw [hw] at h2; cases h2
      · rw [hn e2 (by omega)] at h2; cases h2
/-- What a round in which some are done already asks. -/
theorem fr_eqd (d g : Nat) : (fr m st tof (d + 1) g == (d : Int)) = (fr m st tof d g == (d : Int)) := by
  by_cases h : fr m st tof d g < 0
  · rw [Bool.eq_iff_iff, beq_iff_eq, beq_iff_eq]
    constructor
    · intro h'
      obtain ⟨_, h2, _⟩ := fr_is h'
      rw [fr_neg h d (Nat.le_refl _)] at h2; cases h2
    · intro h'; omega
  · rw [fr_keep h]
end

def rowF {α : Type} (m : Nat) (φ : Nat → α) : List α := (List.range m).map φ
@[simp] theorem rowF_len {α : Type} (m : Nat) (φ : Nat → α) : (rowF m φ).length = m := by simp [rowF]
theorem rowF_get {α : Type} {m f : Nat} {φ : Nat → α} (h : f < m) : (rowF m φ)[f]? = some (φ f) := by simp [rowF, h]
theorem rowF_idx {α : Type} {m f : Nat} {φ : Nat → α} (h : f < m) : idx (rowF m φ) (f : Int) = some (φ f) := by rw [idx_nat, rowF_get h]
theorem rowF_ext {α : Type} {m : Nat} {φ ψ : Nat → α} (h : ∀ j, j < m → φ j = ψ j) : rowF m φ = rowF m ψ := List.map_congr_left fun j hj => h j (List.mem_range.1 hj)
theorem rowF_set {α : Type} {m f : Nat} {φ : Nat → α} {v : α} : (rowF m φ).set f v = rowF m (fun j => if j = f then v else φ j) := by
  apply List.ext_getElem?
  intro i
  by_cases hi : i < m
  · rw [rowF_get hi, List.getElem?_set]
    by_cases e : f = i
    · subst e; simp [hi]
    · rw [if_neg e, rowF_get hi, if_neg (fun h => e h.symm)]
  · rw [List.getElem?_eq_none (by simp; omega), List.getElem?_eq_none (by simp; omega)]
theorem rowF_rep {α : Type} (m : Nat) (z : α) : List.replicate m z = rowF m (fun _ => z) := by
  unfold rowF; rw [List.map_const', List.length_range]
def lst (m : Nat) (p : Nat → Bool) : Nat := ((List.range m).find? p).getD 0
theorem lst_spec {m : Nat} {p : Nat → Bool} (h : (List.range m).any p = true) : lst m p < m ∧ p (lst m p) = true ∧ ∀ j, j < lst m p → p j = false := by
  unfold lst
  cases hf : (List.range m).find? p with
  | none =>
    rw [List.find?_eq_none] at hf
    rw [List.any_eq_true] at h
    obtain ⟨x, hx, hp⟩ := h
    exact absurd hp (hf x hx)
  | some e =>
    obtain ⟨hp, us, bs, he, ha⟩ := List.find?_eq_some_iff_append.1 hf
    have hlt : e < m := List.mem_range.1 (by rw [he]; simp)
    refine ⟨hlt, hp, fun j hj => ?_⟩
    have hj : j < e := hj
    have hl2 : us.length < m := by have := congrArg List.length he; simp at this; omega
    have hlen : us.length = e := by
      have hh := congrArg (fun l : List Nat => l[us.length]?) he
      simp only [List.getElem?_append_right (Nat.le_refl _), Nat.sub_self, List.getElem?_cons_zero] at hh
      rw [List.getElem?_range hl2] at hh
      exact Option.some.inj hh
    have hin : j ∈ us := by
      have h1 : (us ++ e :: bs)[j]? = some j := by rw [← he, List.getElem?_range (by omega)]
      rw [List.getElem?_append_left (by omega)] at h1
      exact List.mem_of_getElem? h1
    simpa using ha j hin
theorem lst_uniq {m k : Nat} {p : Nat → Bool} (hk : k < m) (hp : p k = true) (hl : ∀ j, j < k → p j = false) : lst m p = k := by
  have h : (List.range m).any p = true := List.any_eq_true.2 ⟨k, List.mem_range.2 hk, hp⟩
  obtain ⟨h1, h2, h3⟩ := lst_spec h
  rcases Nat.lt_trichotomy (lst m p) k with e | e | e
  · rw [hl _ e] at h2; cases h2
  · exact e
  · rw [h3 _ e] at hp; cases hp
theorem lst_congr {m : Nat} {p q : Nat → Bool} (h : ∀ j, j < m → p j = q j) : lst m p = lst m q := by
  unfold lst
  congr 1
  have : ∀ (l : List Nat), (∀ j ∈ l, p j = q j) → l.find? p = l.find? q := by
    intro l
    induction l with
    | nil => intro _; rfl
    | cons x l ih => intro hl; rw [List.find?_cons, List.find?_cons, hl x (by simp), ih (fun j hj => hl j (by simp [hj]))]
  exact this _ fun j hj => h j (List.mem_range.1 hj)
section
variable (m : Nat) (st : Nat → Nat → Bool) (tof : Nat → Bool)
def cs (b c0 : Nat) : Nat → Nat
  | 0 => c0
  | j + 1 => lst m (fun g => st (cs b c0 j) g && Wk m st tof (b - (j + 1)) g)
variable {m st tof}
theorem cs_ok {b c0 : Nat} (h0 : c0 < m) (hw : Wk m st tof b c0 = true) : ∀ j, j ≤ b → cs m st tof b c0 j < m ∧ Wk m st tof (b - j) (cs m st tof b c0 j) = true
  | 0, _ => ⟨h0, hw⟩
  | j + 1, hj => by
    obtain ⟨h1, h2⟩ := cs_ok h0 hw j (by omega)
    have e : b - j = (b - (j + 1)) + 1 := by omega
    rw [e] at h2
    have h2 : ((List.range m).any fun g => st (cs m st tof b c0 j) g && Wk m st tof (b - (j + 1)) g) = true := h2
    obtain ⟨g1, g2, _⟩ := lst_spec h2
    rw [Bool.and_eq_true] at g2
    exact ⟨g1, g2.2⟩
theorem cs_any {b c0 : Nat} (h0 : c0 < m) (hw : Wk m st tof b c0 = true) {j : Nat} (hj : j < b) : ((List.range m).any fun g => st (cs m st tof b c0 j) g && Wk m st tof (b - (j + 1)) g) = true := by
  obtain ⟨h1, h2⟩ := cs_ok h0 hw j (by omega)
  have e : b - j = (b - (j + 1)) + 1 := by omega
  rw [e] at h2
  exact h2
/-- On a shortest walk the distances are those of the walk. -/
theorem cs_fr {b c0 D : Nat} (h0 : c0 < m) (hw : Wk m st tof b c0 = true) (hb : b ≤ D) (hmin : ∀ e, e < b → Wk m st tof e c0 = false) : ∀ j, j ≤ b → fr m st tof D (cs m st tof b c0 j) = ((b - j : Nat) : Int)
  | 0, _ => fr_of hb hw hmin
  | j + 1, hj => by
    have ih := fr_is (cs_fr h0 hw hb hmin j (by omega))
    obtain ⟨h1, h2⟩ := cs_ok h0 hw (j + 1) hj
    refine fr_of (by omega) h2 (fun e' he' => ?_)
    cases hw' : Wk m st tof e' (cs m st tof b c0 (j + 1)) with
    | false => rfl
    | true =>
      have hs : st (cs m st tof b c0 j) (cs m st tof b c0 (j + 1)) = true := by
        have := (lst_spec (cs_any h0 hw (show j < b by omega))).2.1
        rw [Bool.and_eq_true] at this; exact this.1
      have : Wk m st tof (e' + 1) (cs m st tof b c0 j) = true := by
        show ((List.range m).any fun g => st (cs m st tof b c0 j) g && Wk m st tof e' g) = true
        rw [List.any_eq_true]
        exact ⟨_, List.mem_range.2 h1, by rw [hs, hw']; rfl⟩
      rw [ih.2.2 (e' + 1) (by omega)] at this; cases this
/-- The next one, asked by distances. -/
theorem cs_next {b c0 D : Nat} (h0 : c0 < m) (hw : Wk m st tof b c0 = true) (hb : b ≤ D) (hmin : ∀ e, e < b → Wk m st tof e c0 = false) {j g : Nat} (hj : j < b) (hg : g < m) :
    (st (cs m st tof b c0 j) g && (fr m st tof D g == ((b - (j + 1) : Nat) : Int))) = (st (cs m st tof b c0 j) g && Wk m st tof (b - (j + 1)) g) := by
  have ih := fr_is (cs_fr h0 hw hb hmin j (by omega))
  cases hs : st (cs m st tof b c0 j) g with
  | false => rfl
  | true =>
    rw [Bool.true_and, Bool.true_and, Bool.eq_iff_iff, beq_iff_eq]
    constructor
    · intro h; exact (fr_is h).2.1
    · intro h
      refine fr_of (by omega) h (fun e' he' => ?_)
      cases hw' : Wk m st tof e' g with
      | false => rfl
      | true =>
        have : Wk m st tof (e' + 1) (cs m st tof b c0 j) = true := by
          show ((List.range m).any fun g => st (cs m st tof b c0 j) g && Wk m st tof e' g) = true
          rw [List.any_eq_true]
          exact ⟨_, List.mem_range.2 hg, by rw [hs, hw']; rfl⟩
        rw [ih.2.2 (e' + 1) (by omega)] at this; cases this
end

end

section
set_option linter.unusedVariables false

theorem set_same {α : Type} {s : List α} {i : Nat} {x : α} (h : s[i]? = some x) : s.set i x = s := by
  apply List.ext_getElem?
  intro k
  rw [List.getElem?_set]
  by_cases e : i = k
  · subst e
    have hl : i < s.length := (List.getElem?_eq_some_iff.1 h).1
    simp [hl, h] 
    exact (List.getElem?_eq_some_iff.1 h).2.symm
  · rw [if_neg e]
theorem getE_lt {α : Type} {s : List α} {i : Nat} {x : α} (h : s[i]? = some x) : i < s.length := (List.getElem?_eq_some_iff.1 h).1
theorem getE_set {α : Type} {s : List α} {i : Nat} {x y : α} (h : s[i]? = some x) : (s.set i y)[i]? = some y := List.getElem?_set_self (getE_lt h)
theorem getE_ne {α : Type} {s : List α} {i j : Nat} {y : α} (h : i ≠ j) : (s.set i y)[j]? = s[j]? := List.getElem?_set_ne h
abbrev upd1 {α : Type} (φ : Nat → α) (f : Nat) (v : α) : Nat → α := fun j => if j = f then v else φ j
theorem upd_same {α : Type} {m : Nat} (φ : Nat → α) (f : Nat) : rowF m (upd1 φ f (φ f)) = rowF m φ := rowF_ext fun j _ => by
  by_cases e : j = f
  · subst e; simp [upd1]
  · simp [upd1, e]
abbrev LRB := (List Int) × Bool
def initStep (to : List Bool) (f : Int) : Int → List (List Int) → Option (Ctl (List (List Int)) LRB) := fun k205 s203 =>
  (idx s203 k205).bind fun x211 =>
  (idx x211 f).bind fun x215 =>
  (idx to f).bind fun x218 =>
  (bif x218 then (idx (List.set s203 (Int.toNat k205) (List.set x211 (Int.toNat f) (-1))) k205).bind fun x221 =>
  (idx x221 f).bind fun x225 =>
  some (.nx (List.set (List.set s203 (Int.toNat k205) (List.set x211 (Int.toNat f) (-1))) (Int.toNat k205) (List.set x221 (Int.toNat f) 0))) else some (.nx (List.set s203 (Int.toNat k205) (List.set x211 (Int.toNat f) (-1)))))
theorem initStep_eq {m f i : Nat} {tof : Nat → Bool} {φ : Nat → Int} {s : List (List Int)} (hi : s[i]? = some (rowF m φ)) (hf : f < m) :
    initStep (rowF m tof) (f : Int) (i : Int) s = some (.nx (s.set i (rowF m (upd1 φ f (if tof f then 0 else -1))))) := by
  unfold initStep
  rw [idx_nat, hi, Option.bind_some, rowF_idx hf, Option.bind_some, rowF_idx hf, Option.bind_some, Int.toNat_natCast, Int.toNat_natCast, rowF_set]
  cases tof f with
  | false => rfl
  | true =>
    rw [cond_true, idx_nat, getE_set hi, Option.bind_some, rowF_idx hf, Option.bind_some, List.set_set, rowF_set]
    have hq : rowF m (fun j => if j = f then (0 : Int) else (if j = f then -1 else φ j)) = rowF m (upd1 φ f (if true = true then 0 else -1)) := rowF_ext fun j _ => by
      by_cases e : j = f <;> simp [upd1, e]
    rw [hq]
/-- A loop over two rows that are alike. -/
theorem two_rows {R : Type} {step : Int → List (List Int) → Option (Ctl (List (List Int)) R)} {A B : List Int} (h0 : step ((0 : Nat) : Int) [A, A] = some (.nx [B, A])) (h1 : step ((1 : Nat) : Int) [B, A] = some (.nx [B, B])) : forC step 0 2 [A, A] = some (.br [B, B]) := by
  have := forC0_fn (step := step) (fun j => [if 0 < j then B else A, if 1 < j then B else A]) (n := 2) (hi := 2) (s := [A, A]) rfl (by omega) rfl (fun j hj => by
    rcases (by omega : j = 0 ∨ j = 1) with rfl | rfl
    · exact h0
    · exact h1)
  simpa using this
theorem init_all {m : Nat} {st : Nat → Nat → Bool} {tof : Nat → Bool} (hm : m ≤ 1000000) : forC (S := List (List Int)) (R := LRB) (fun k162 s160 => (forC (S := List (List Int)) (R := LRB) (initStep (rowF m tof) k162) 0 2 s160).bind fun o207 => after o207 (fun r_ => some (.rt r_)) (fun s203 => some (.nx s203))) 0 (m : Int) [rowF m (fun _ => 0), rowF m (fun _ => 0)] =
    some (.br [rowF m (fr m st tof 0), rowF m (fr m st tof 0)]) := by
  let F : Nat → List Int := fun f => rowF m (fun j => if j < f then fr m st tof 0 j else 0)
  have e0 : F 0 = rowF m (fun _ => 0) := rowF_ext fun j _ => by simp
  have e1 : F m = rowF m (fr m st tof 0) := rowF_ext fun j hj => by simp [hj]
  rw [← e0, ← e1]
  refine forC0_fn (fun f => [F f, F f]) rfl (by omega) rfl (fun f hf => ?_)
  have eB : rowF m (upd1 (fun j => if j < f then fr m st tof 0 j else 0) f (if tof f then 0 else -1)) = F (f + 1) := rowF_ext fun j hj => by
    simp only [upd1]
    by_cases e : j = f
    · subst e; simp [fr_zero]
    · by_cases e' : j < f
      · simp [e, e', show j < f + 1 by omega]
      · simp [e, e', show ¬ j < f + 1 by omega]
  have s0 := initStep_eq (i := 0) (tof := tof) (s := [F f, F f]) rfl hf
  have s1 := initStep_eq (i := 1) (tof := tof) (s := [F (f + 1), F f]) rfl hf
  rw [eB] at s0 s1
  have := two_rows (step := initStep (rowF m tof) (f : Int)) (A := F f) (B := F (f + 1)) s0 s1
  rw [this]; rfl
def scanStep (to : List Bool) (may : List (List (List Bool))) (i f d : Int) : Int × List (List Int) → Option (Ctl (Int × List (List Int)) LRB) := fun s3703 =>
  ((bif (decide (s3703.1 < (to.length : Int))) then (idx s3703.2 i).bind fun x3715 =>
  (idx x3715 f).bind fun x3719 =>
  some (decide (x3719 < 0)) else some false)).bind fun s3711 =>
  (bif s3711 then ((idx may i).bind fun x3725 =>
  (idx x3725 f).bind fun x3729 =>
  (idx x3729 s3703.1).bind fun x3733 =>
  (bif x3733 then (idx s3703.2 (w64 (1 - i))).bind fun x3736 =>
  (idx x3736 s3703.1).bind fun x3740 =>
  some (x3740 == (w64 (d - 1))) else some false)).bind fun s3722 =>
  (bif s3722 then (idx s3703.2 i).bind fun x3743 =>
  (idx x3743 f).bind fun x3747 =>
  some (.nx (w64 (s3703.1 + 1), List.set s3703.2 (Int.toNat i) (List.set x3743 (Int.toNat f) d))) else some (.nx (w64 (s3703.1 + 1), s3703.2))) else some (.br (s3703.1, s3703.2)))
/-- The table of a relation, twice. -/
def mayT (m : Nat) (st : Nat → Nat → Bool) : List (List Bool) := rowF m (fun f => rowF m (st f))
section
variable {m : Nat} {st : Nat → Nat → Bool} {tof : Nat → Bool}
theorem scan_out {i f d j : Nat} {φ : Nat → Int} {s : List (List Int)} (hi : s[i]? = some (rowF m φ)) (hf : f < m) (h : m ≤ j ∨ ¬ φ f < 0) : scanStep (rowF m tof) [mayT m st, mayT m st] (i : Int) (f : Int) ((d + 1 : Nat) : Int) ((j : Int), s) = some (.br ((j : Int), s)) := by
  unfold scanStep
  simp only [rowF_len]
  by_cases hj : m ≤ j
  · rw [show decide ((j : Int) < (m : Int)) = false from decide_eq_false (by omega)]; rfl
  · rw [show decide ((j : Int) < (m : Int)) = true from decide_eq_true (by omega), cond_true, idx_nat, hi, Option.bind_some, rowF_idx hf, Option.bind_some, Option.bind_some, show decide (φ f < 0) = false from decide_eq_false (h.resolve_left hj)]; rfl
theorem scan_in {i f d j : Nat} {φ ψ : Nat → Int} {s : List (List Int)} (hi1 : i ≤ 1) (hi : s[i]? = some (rowF m φ)) (ho : s[1 - i]? = some (rowF m ψ)) (hf : f < m) (hj : j < m) (hm : m ≤ 1000000) (hd : d ≤ 1000000) (hn : φ f < 0) :
    scanStep (rowF m tof) [mayT m st, mayT m st] (i : Int) (f : Int) ((d + 1 : Nat) : Int) ((j : Int), s) = some (.nx (((j + 1 : Nat) : Int), if (st f j && (ψ j == (d : Int))) then s.set i (rowF m (upd1 φ f ((d + 1 : Nat) : Int))) else s)) := by
  unfold scanStep
  have hmay : idx [mayT m st, mayT m st] (i : Int) = some (mayT m st) := by rcases (by omega : i = 0 ∨ i = 1) with rfl | rfl <;> rfl
  have hw : w64 (1 - (i : Int)) = ((1 - i : Nat) : Int) := by rw [show (1 : Int) - (i : Int) = ((1 - i : Nat) : Int) by omega, w64_nat (by omega)]
  have hwd : w64 (((d + 1 : Nat) : Int) - 1) = (d : Int) := by rw [show ((d + 1 : Nat) : Int) - 1 = (d : Int) by omega, w64_nat (by omega)]
  simp only [rowF_len, hmay, hw, hwd]
  have e1 : idx s (i : Int) = some (rowF m φ) := by rw [idx_nat, hi]
  have e2 : idx s ((1 - i : Nat) : Int) = some (rowF m ψ) := by rw [idx_nat, ho]
  rw [show decide ((j : Int) < (m : Int)) = true from decide_eq_true (by omega), cond_true, e1, Option.bind_some, rowF_idx hf, Option.bind_some, Option.bind_some, show decide (φ f < 0) = true from decide_eq_true hn, cond_true, Option.bind_some]
  unfold mayT
  rw [rowF_idx hf, Option.bind_some, rowF_idx hj, Option.bind_some, e2, Option.bind_some, rowF_idx hj, Option.bind_some, w64_add1 (by omega), Int.toNat_natCast, Int.toNat_natCast, Option.bind_some, rowF_idx hf, Option.bind_some, rowF_set]
  cases st f j with
  | false => rfl
  | true =>
    cases (ψ j == (d : Int)) <;> rfl
theorem scan_eq {i f d : Nat} {φ ψ : Nat → Int} {s : List (List Int)} (hi1 : i ≤ 1) (hi : s[i]? = some (rowF m φ)) (ho : s[1 - i]? = some (rowF m ψ)) (hf : f < m) (hm : m ≤ 1000000) (hd : d ≤ 1000000) :
    ∃ g', iter (scanStep (rowF m tof) [mayT m st, mayT m st] (i : Int) (f : Int) ((d + 1 : Nat) : Int)) FU (0, s) = some (.br (g', s.set i (rowF m (upd1 φ f (if φ f < 0 then (if ((List.range m).any fun g => st f g && (ψ g == (d : Int))) then ((d + 1 : Nat) : Int) else φ f) else φ f))))) := by
  have hsame : s.set i (rowF m (upd1 φ f (φ f))) = s := by rw [upd_same]; exact set_same hi
  by_cases hn : φ f < 0
  case neg =>
    rw [if_neg hn, hsame]
    exact ⟨0, iter_br (fun j => ((j : Int), s)) 0 (by omega) rfl (fun j hj => by omega) (scan_out hi hf (.inr hn))⟩
  rw [if_pos hn]
  cases ha : ((List.range m).any fun g => st f g && (ψ g == (d : Int))) with
  | false =>
    rw [if_neg (by simp), hsame]
    rw [List.any_eq_false] at ha
    refine ⟨(m : Int), iter_br (fun j => ((j : Int), s)) m (by omega) rfl (fun j hj => ?_) (scan_out hi hf (.inl (Nat.le_refl _)))⟩
    rw [scan_in hi1 hi ho hf hj hm hd hn, if_neg (ha j (List.mem_range.2 hj))]
  | true =>
    rw [if_pos rfl]
    obtain ⟨g1, g2, g3⟩ := lst_spec ha
    generalize lst m (fun g => st f g && (ψ g == (d : Int))) = g0 at g1 g2 g3
    refine ⟨((g0 + 1 : Nat) : Int), iter_br (fun j => ((j : Int), if j ≤ g0 then s else s.set i (rowF m (upd1 φ f ((d + 1 : Nat) : Int))))) (g0 + 1) (by omega) (by simp) (fun j hj => ?_) ?_⟩
    · rw [if_pos (by omega), scan_in hi1 hi ho hf (by omega) hm hd hn]
      by_cases e : j = g0
      · subst e; rw [if_pos g2, if_neg (by omega)]
      · rw [if_neg (by rw [g3 j (by omega)]; simp), if_pos (by omega)]
    · rw [if_neg (by omega)]
      exact scan_out (φ := upd1 φ f ((d + 1 : Nat) : Int)) (getE_set hi) hf (.inr (by simp [upd1]; omega))
def roundStep (to : List Bool) (may : List (List (List Bool))) (d : Int) : Int → List (List Int) → Option (Ctl (List (List Int)) LRB) := fun k3357 s3355 =>
  (forC (S := (List (List Int))) (R := LRB) (fun k3618 s3616 =>
  (iter (S := Int × (List (List Int))) (R := LRB) (scanStep to may k3618 k3357 d) FU (0, s3616)).bind fun o3707 => after o3707 (fun r_ => some (.rt r_)) (fun s3703 =>
  some (.nx s3703.2))) 0 2 s3355).bind fun o3620 => after o3620 (fun r_ => some (.rt r_)) (fun s3616 =>
  some (.nx s3616))
theorem round_all {d : Nat} (hm : m ≤ 1000000) (hd : d ≤ 1000000) : forC (S := List (List Int)) (R := LRB) (roundStep (rowF m tof) [mayT m st, mayT m st] ((d + 1 : Nat) : Int)) 0 (m : Int) [rowF m (fr m st tof d), rowF m (fr m st tof d)] = some (.br [rowF m (fr m st tof (d + 1)), rowF m (fr m st tof (d + 1))]) := by
  let G : Nat → Nat → Int := fun f j => if j < f then fr m st tof (d + 1) j else fr m st tof d j
  let F : Nat → List Int := fun f => rowF m (G f)
  have e0 : F 0 = rowF m (fr m st tof d) := rowF_ext fun j _ => by simp [G]
  have e1 : F m = rowF m (fr m st tof (d + 1)) := rowF_ext fun j hj => by simp [G, hj]
  rw [← e0, ← e1]
  refine forC0_fn (fun f => [F f, F f]) rfl (by omega) rfl (fun f hf => ?_)
  have hG : ∀ f' g, (G f' g == (d : Int)) = (fr m st tof d g == (d : Int)) := fun f' g => by
    simp only [G]
    by_cases e : g < f'
    · rw [if_pos e]; exact fr_eqd d g
    · rw [if_neg e]
  have hv : ∀ f', (if G f f < 0 then (if ((List.range m).any fun g => st f g && (G f' g == (d : Int))) then ((d + 1 : Nat) : Int) else G f f) else G f f) = fr m st tof (d + 1) f := fun f' => by
    have e : G f f = fr m st tof d f := by simp [G]
    rw [e]
    simp only [hG]
    by_cases hn : fr m st tof d f < 0
    · rw [if_pos hn, fr_succ hn]
    · rw [if_neg hn, fr_keep hn]
  have eB : rowF m (upd1 (G f) f (fr m st tof (d + 1) f)) = F (f + 1) := rowF_ext fun j hj => by
    simp only [upd1, G]
    by_cases e : j = f
    · subst e; simp
    · by_cases e' : j < f
      · simp [e, e', show j < f + 1 by omega]
      · simp [e, e', show ¬ j < f + 1 by omega]
  unfold roundStep
  have s0 := scan_eq (st := st) (tof := tof) (i := 0) (f := f) (d := d) (φ := G f) (ψ := G f) (s := [F f, F f]) (by omega) rfl rfl hf hm hd
  have s1 := scan_eq (st := st) (tof := tof) (i := 1) (f := f) (d := d) (φ := G f) (ψ := G (f + 1)) (s := [F (f + 1), F f]) (by omega) rfl rfl hf hm hd
  rw [hv, eB] at s0 s1
  obtain ⟨u0, s0⟩ := s0
  obtain ⟨u1, s1⟩ := s1
  rw [two_rows (A := F f) (B := F (f + 1)) (by rw [s0]; rfl) (by rw [s1]; rfl)]
  rfl
def bst (xs : List Int) : Int := xs.foldl (fun s x => bif (decide (0 ≤ x)) && ((decide (s < 0)) || (decide (x < s))) then x else s) (-1)
theorem bst_snoc (xs : List Int) (x : Int) : bst (xs ++ [x]) = bif (decide (0 ≤ x)) && ((decide (bst xs < 0)) || (decide (x < bst xs))) then x else bst xs := by
  unfold bst; rw [List.foldl_append]; rfl
theorem bst_spec : ∀ (n : Nat) (xs : List Int), xs.length = n → (bst xs = -1 ∧ ∀ x ∈ xs, x < 0) ∨ (0 ≤ bst xs ∧ bst xs ∈ xs ∧ ∀ x ∈ xs, 0 ≤ x → bst xs ≤ x)
  | 0, xs, h => by
    obtain rfl := List.length_eq_zero_iff.1 h
    exact .inl ⟨rfl, by simp⟩
  | n + 1, xs, h => by
    obtain ⟨ys, y, rfl⟩ : ∃ ys y, xs = ys ++ [y] := ⟨xs.dropLast, xs.getLast (by intro e; simp [e] at h), (List.dropLast_concat_getLast _).symm⟩
    have ih := bst_spec n ys (by simpa using h)
    rw [bst_snoc]
    by_cases hy : 0 ≤ y
    · rw [show decide (0 ≤ y) = true from decide_eq_true hy, Bool.true_and]
      rcases ih with ⟨e, hn⟩ | ⟨h0, hm, hl⟩
      · rw [e, show decide ((-1 : Int) < 0) = true from rfl, Bool.true_or, cond_true]
        refine .inr ⟨hy, by simp, fun x hx hx0 => ?_⟩
        rcases List.mem_append.1 hx with hx | hx
        · have := hn x hx; omega
        · simp at hx; omega
      · rw [show decide (bst ys < 0) = false from decide_eq_false (by omega), Bool.false_or]
        by_cases hyl : y < bst ys
        · rw [show decide (y < bst ys) = true from decide_eq_true hyl, cond_true]
          refine .inr ⟨hy, by simp, fun x hx hx0 => ?_⟩
          rcases List.mem_append.1 hx with hx | hx
          · have := hl x hx hx0; omega
          · simp at hx; omega
        · rw [show decide (y < bst ys) = false from decide_eq_false hyl, cond_false]
          refine .inr ⟨h0, List.mem_append_left _ hm, fun x hx hx0 => ?_⟩
          rcases List.mem_append.1 hx with hx | hx
          · exact hl x hx hx0
          · simp at hx; omega
    · rw [show decide (0 ≤ y) = false from decide_eq_false hy, Bool.false_and, cond_false]
      rcases ih with ⟨e, hn⟩ | ⟨h0, hm, hl⟩
      · refine .inl ⟨e, fun x hx => ?_⟩
        rcases List.mem_append.1 hx with hx | hx
        · exact hn x hx
        · simp at hx; omega
      · refine .inr ⟨h0, List.mem_append_left _ hm, fun x hx hx0 => ?_⟩
        rcases List.mem_append.1 hx with hx | hx
        · exact hl x hx hx0
        · simp at hx; omega
/-- What the search gives. -/
inductive Found (m : Nat) (st : Nat → Nat → Bool) (tof : Nat → Bool) (D : Nat) (Fm : List Nat) : LRB → Prop
  | none : (∀ c ∈ Fm, ∀ e, e ≤ D → Wk m st tof e c = false) → Found m st tof D Fm ([], false)
  | some (b c0 : Nat) (pre post : List Nat) : Fm = pre ++ c0 :: post → b ≤ D → Wk m st tof b c0 = true → (∀ c ∈ Fm, ∀ e, e < b → Wk m st tof e c = false) → (∀ c ∈ pre, Wk m st tof b c = false) → Found m st tof D Fm (NL (rowF (b + 1) (cs m st tof b c0)), true)
theorem find_first {l : List Nat} {p : Nat → Bool} (h : ∃ c ∈ l, p c = true) : ∃ c pre post, l = pre ++ c :: post ∧ p c = true ∧ (∀ x ∈ pre, p x = false) ∧ l.find? p = some c := by
  cases hf : l.find? p with
  | none =>
    rw [List.find?_eq_none] at hf
    obtain ⟨c, hc, hp⟩ := h
    exact absurd hp (hf c hc)
  | some c =>
    obtain ⟨hp, us, bs, he, ha⟩ := List.find?_eq_some_iff_append.1 hf
    exact ⟨c, us, bs, he, hp, fun x hx => by simpa using ha x hx, rfl⟩
theorem rowF_snoc {α : Type} (n : Nat) (φ : Nat → α) : rowF (n + 1) φ = rowF n φ ++ [φ n] := by unfold rowF; rw [List.range_succ, List.map_append]; rfl
theorem l17Chain_eq {D : Nat} {Fm : List Nat} (hm : m ≤ 1000000) (hD : D ≤ 100) (hFl : Fm.length ≤ 1000000) (hF : ∀ c ∈ Fm, c < m) : ∃ z, s_spec_l17Chain (NL Fm) (rowF m tof) [mayT m st, mayT m st] (D : Int) = some z ∧ Found m st tof D Fm z := by
  unfold s_spec_l17Chain
  simp only [rowF_len]
  rw [mks_ok rfl (show m ≤ 4294967296 by omega), Option.bind_some, rowF_rep]
  have i1 := init_all (m := m) (st := st) (tof := tof) hm
  unfold initStep at i1
  rw [i1, Option.bind_some, after_br']
  rw [iter_br (R := LRB) (F := fun t => (((t + 1 : Nat) : Int), [rowF m (fr m st tof t), rowF m (fr m st tof t)])) (s := (1, [rowF m (fr m st tof 0), rowF m (fr m st tof 0)])) (t := (((D + 1 : Nat) : Int), [rowF m (fr m st tof D), rowF m (fr m st tof D)])) D (by omega) rfl (fun t ht => by
    simp only []
    have r1 := round_all (m := m) (st := st) (tof := tof) (d := t) hm (by omega)
    unfold roundStep scanStep at r1
    simp only [rowF_len] at r1
    rw [show decide (((t + 1 : Nat) : Int) ≤ (D : Int)) = true from decide_eq_true (by omega), cond_true, r1, Option.bind_some, after_br', w64_add1 (by omega)]) (by
    simp only []
    rw [show decide (((D + 1 : Nat) : Int) ≤ (D : Int)) = false from decide_eq_false (by omega), cond_false]), Option.bind_some, after_br']
  have i0 : idx [rowF m (fr m st tof D), rowF m (fr m st tof D)] 0 = some (rowF m (fr m st tof D)) := rfl
  simp only [i0, Option.bind_some, NL_len]
  have hFa : ∀ k, k < Fm.length → ga Fm k < m := fun k hk => hF _ (ga_mem hk)
  have htk : ∀ k, k < Fm.length → Fm.take (k + 1) = Fm.take k ++ [ga Fm k] := fun k hk => by rw [List.take_add_one, List.getElem?_eq_getElem hk]; simp [ga, List.getElem?_eq_getElem hk]
  rw [forC0_fn (R := LRB) (F := fun k => bst ((Fm.take k).map (fr m st tof D))) (s := -1) (n := Fm.length) rfl (by omega) (by simp [bst]) (fun k hk => by
    rw [idx_NL hk, Option.bind_some, rowF_idx (hFa k hk), Option.bind_some, htk k hk, List.map_append]
    show _ = some (Ctl.nx (bst (List.map (fr m st tof D) (Fm.take k) ++ [fr m st tof D (ga Fm k)])))
    rw [bst_snoc]
    cases ((decide (0 ≤ fr m st tof D (ga Fm k))) && ((decide (bst ((Fm.take k).map (fr m st tof D)) < 0)) || (decide (fr m st tof D (ga Fm k) < bst ((Fm.take k).map (fr m st tof D)))))) <;> rfl), Option.bind_some, after_br', List.take_length]
  rcases bst_spec _ (Fm.map (fr m st tof D)) rfl with ⟨e, hn⟩ | ⟨h0, hmm, hl⟩
  · rw [e]
    refine ⟨_, rfl, .none fun c hc e he => ?_⟩
    exact fr_neg (hn _ (List.mem_map.2 ⟨c, hc, rfl⟩)) e he
  obtain ⟨b, hb⟩ : ∃ b : Nat, bst (Fm.map (fr m st tof D)) = (b : Int) := ⟨(bst (Fm.map (fr m st tof D))).toNat, by omega⟩
  rw [hb] at hmm hl ⊢
  rw [show decide ((b : Int) < 0) = false from decide_eq_false (by omega), cond_false]
  obtain ⟨c1, hc1, hf1⟩ := List.mem_map.1 hmm
  obtain ⟨c0, pre, post, hFe, hp, hpre, hfind⟩ := find_first (l := Fm) (p := fun c => fr m st tof D c == (b : Int)) ⟨c1, hc1, by simp [hf1]⟩
  rw [forC0_fn (R := LRB) (F := fun k => match (Fm.take k).find? (fun c => fr m st tof D c == (b : Int)) with | none => [] | some c => [(c : Int)]) (s := []) (n := Fm.length) rfl (by omega) (by simp) (fun k hk => by
    rw [htk k hk, List.find?_append]
    cases hfk : (Fm.take k).find? (fun c => fr m st tof D c == (b : Int)) with
    | some c => simp
    | none =>
      simp only [List.length_nil, Int.natCast_zero, beq_self_eq_true, cond_true, Option.none_or]
      rw [idx_NL hk, Option.bind_some, rowF_idx (hFa k hk), Option.bind_some, Option.bind_some, List.find?_cons]
      cases (fr m st tof D (ga Fm k) == (b : Int)) with
      | false => rfl
      | true => simp only [cond_true]; rw [Option.bind_some, app_ok (by simp), Option.bind_some]; rfl), Option.bind_some, after_br', List.take_length, hfind]
  simp only []
  have hc0m : c0 < m := hF c0 (by rw [hFe]; simp)
  rw [beq_iff_eq] at hp
  obtain ⟨hbD, hw, hmin⟩ := fr_is hp
  have hmod : ∀ j : Nat, idx [rowF m (fr m st tof D), rowF m (fr m st tof D)] (Int.tmod (j : Int) 2) = some (rowF m (fr m st tof D)) := fun j => by
    rw [show (2 : Int) = ((2 : Nat) : Int) from rfl, tmod_nat]
    rcases Nat.mod_two_eq_zero_or_one j with e | e <;> rw [e] <;> rfl
  have hmod1 : ∀ j : Nat, idx [rowF m (fr m st tof D), rowF m (fr m st tof D)] (w64 (1 - Int.tmod (j : Int) 2)) = some (rowF m (fr m st tof D)) := fun j => by
    rw [show (2 : Int) = ((2 : Nat) : Int) from rfl, tmod_nat]
    rcases Nat.mod_two_eq_zero_or_one j with e | e <;> rw [e] <;> rfl
  have hmay : ∀ j : Nat, idx [mayT m st, mayT m st] (Int.tmod (j : Int) 2) = some (mayT m st) := fun j => by
    rw [show (2 : Int) = ((2 : Nat) : Int) from rfl, tmod_nat]
    rcases Nat.mod_two_eq_zero_or_one j with e | e <;> rw [e] <;> rfl
  have hcm : ∀ j, j ≤ b → cs m st tof b c0 j < m := fun j hj => (cs_ok hc0m hw j hj).1
  have hout : ∀ j : Nat, idx (NL (rowF (j + 1) (cs m st tof b c0))) (j : Int) = some ((cs m st tof b c0 j : Nat) : Int) := fun j => by
    rw [idx_NL (by simp)]
    congr 2
    unfold ga
    rw [List.getD_eq_getElem?_getD, rowF_get (by omega)]; rfl
  rw [iter_br (R := LRB) (F := fun j => (NL (rowF (j + 1) (cs m st tof b c0)), (j : Int))) (s := ([(c0 : Int)], 0)) (t := (NL (rowF (b + 1) (cs m st tof b c0)), (b : Int))) b (by omega) (by simp [rowF, cs, NL]) (fun j hj => by
    simp only [hmod, hout, Option.bind_some, rowF_idx (hcm j (by omega)), cs_fr hc0m hw hbD hmin j (by omega)]
    rw [show decide ((0 : Int) < ((b - j : Nat) : Int)) = true from decide_eq_true (by omega), cond_true]
    have hany := cs_any hc0m hw hj
    obtain ⟨g1, g2, g3⟩ := lst_spec hany
    have hwb : w64 (((b - j : Nat) : Int) - 1) = ((b - (j + 1) : Nat) : Int) := by rw [show ((b - j : Nat) : Int) - 1 = ((b - (j + 1) : Nat) : Int) by omega, w64_nat (by omega)]
    have hstep : ∀ g : Nat, g < m → ((idx [mayT m st, mayT m st] (Int.tmod (j : Int) 2)).bind fun x4018 =>
  (idx x4018 ((cs m st tof b c0 j : Nat) : Int)).bind fun x4024 =>
  (idx x4024 (g : Int)).bind fun x4028 =>
  (bif (!x4028) then some (Ctl.nx (R := LRB) (w64 ((g : Int) + 1))) else (idx [rowF m (fr m st tof D), rowF m (fr m st tof D)] (w64 (1 - (Int.tmod (j : Int) 2)))).bind fun x4031 =>
  (idx x4031 (g : Int)).bind fun x4035 =>
  (bif (x4035 != (w64 (((b - j : Nat) : Int) - 1))) then some (.nx (w64 ((g : Int) + 1))) else some (.br (g : Int))))) = some (if (st (cs m st tof b c0 j) g && Wk m st tof (b - (j + 1)) g) = true then .br (g : Int) else .nx ((g + 1 : Nat) : Int)) := fun g hg => by
      rw [hmay, Option.bind_some]
      unfold mayT
      rw [rowF_idx (hcm j (by omega)), Option.bind_some, rowF_idx hg, Option.bind_some, hmod1, Option.bind_some, rowF_idx hg, Option.bind_some, w64_add1 (by omega), hwb, ← cs_next hc0m hw hbD hmin hj hg]
      unfold bne
      cases st (cs m st tof b c0 j) g with
      | false => rfl
      | true => cases (fr m st tof D g == ((b - (j + 1) : Nat) : Int)) <;> rfl
    rw [iter_br (R := LRB) (F := fun g => (g : Int)) (s := 0) (t := ((cs m st tof b c0 (j + 1) : Nat) : Int)) (cs m st tof b c0 (j + 1)) (by have := hcm (j + 1) (by omega); omega) rfl (fun g hg => by
      rw [hstep g (Nat.lt_trans hg g1), if_neg (by rw [g3 g hg]; simp)]) (by
      have : cs m st tof b c0 (j + 1) = lst m (fun g => st (cs m st tof b c0 j) g && Wk m st tof (b - (j + 1)) g) := rfl
      rw [hstep _ (by rw [this]; exact g1), if_pos (by rw [this]; exact g2)]), Option.bind_some, after_br', app_ok (by simp; omega), Option.bind_some, w64_add1 (by omega), rowF_snoc (j + 1), NL_app]
    rfl) (by
    simp only [hmod, hout, Option.bind_some, rowF_idx (hcm b (by omega)), cs_fr hc0m hw hbD hmin b (by omega)]
    rw [show decide ((0 : Int) < ((b - b : Nat) : Int)) = false from decide_eq_false (by omega), cond_false]), Option.bind_some, after_br']
  refine ⟨_, rfl, .some b c0 pre post hFe hbD hw (fun c hc e he => ?_) (fun c hc => ?_)⟩
  · by_cases hn : fr m st tof D c < 0
    · exact fr_neg hn e (by omega)
    · have := hl _ (List.mem_map.2 ⟨c, hc, rfl⟩) (by omega)
      obtain ⟨e2, he2⟩ : ∃ e2 : Nat, fr m st tof D c = (e2 : Int) := ⟨(fr m st tof D c).toNat, by omega⟩
      exact (fr_is he2).2.2 e (by omega)
  · cases hwc : Wk m st tof b c with
    | false => rfl
    | true =>
      have hcF : c ∈ Fm := by rw [hFe]; simp [hc]
      have hlow : ∀ e, e < b → Wk m st tof e c = false := fun e he => by
        by_cases hn : fr m st tof D c < 0
        · exact fr_neg hn e (by omega)
        · have := hl _ (List.mem_map.2 ⟨c, hcF, rfl⟩) (by omega)
          obtain ⟨e2, he2⟩ : ∃ e2 : Nat, fr m st tof D c = (e2 : Int) := ⟨(fr m st tof D c).toNat, by omega⟩
          exact (fr_is he2).2.2 e (by omega)
      have := fr_of (d := D) hbD hwc hlow
      have h2 := hpre c hc
      rw [this] at h2; simp at h2
end

end

end Go.Proofs
