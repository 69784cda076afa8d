/- Plain lemmas on what the functions compute, up to: the law gives true. No conditions. -/
import Derived.Test.YtbicnacclhhlkaaF3
import Derived.Test.YtbicnacclhhlkaaGPure
import Derived.Test.YtbicnacclhhlkaaGOpen
import Derived.Test.YtbicnacclhhlkaaGLoop
set_option linter.unusedVariables false
namespace Go.Proofs
open Go.G
set_option maxRecDepth 100000


/-- The last t digits of i, base n. -/
def digs (n : Int) : Nat → Int → List Int
  | 0, _ => []
  | t + 1, i => (i / n ^ t % n) :: digs n t i

theorem digs_loop {i k n : Int} {K : Nat} (hk : k = (K : Int)) (hK : K ≤ 4294967296) (hn : 1 ≤ n) (hi : 0 ≤ i) (hi' : i ≤ 9223372036854775807) : (
  (mks k (0 : Int)).bind fun y2 =>
  (iter (S := Int × Int × (List Int)) (R := (List Int)) (fun s17 =>
  (bif (decide (0 ≤ s17.2.1)) then (nz n).bind fun u26 =>
  (idx s17.2.2 s17.2.1).bind fun x27 =>
  (nz n).bind fun u30 =>
  some (.nx (w64 (Int.tdiv s17.1 n), w64 (s17.2.1 - 1), List.set s17.2.2 (Int.toNat s17.2.1) (Int.tmod s17.1 n))) else some (.br (s17.1, s17.2.1, s17.2.2)))) FU (i, w64 (k - 1), y2)).bind fun o21 => after o21 (fun r_ => some r_) (fun s17 =>
  some s17.2.2)) = some (digs n K i) := by
  subst hk
  rw [mks_ok rfl hK, Option.bind_some]
  have hp : ∀ t : Nat, 0 ≤ i / n ^ t ∧ i / n ^ t ≤ i := fun t => ⟨Int.ediv_nonneg hi (by exact Int.pow_nonneg (by omega)), ediv_le hi (by exact Int.pow_nonneg (by omega))⟩
  rw [iter_br (fun t => (i / n ^ t, (K : Int) - 1 - t, List.replicate (K - t) 0 ++ digs n t i)) (t := (i / n ^ K, -1, digs n K i)) K (by omega)]
  · rfl
  · rw [w64_id (by omega) (by omega)]; simp [digs]
  · intro j hj
    have e2 : List.replicate (K - j) (0 : Int) ++ digs n j i = List.replicate (K - (j + 1)) 0 ++ (0 :: digs n j i) := by
      rw [show K - j = (K - (j + 1)) + 1 by omega, List.replicate_succ', List.append_assoc]; rfl
    have hp1 := hp j
    have e3 : (K : Int) - 1 - j = ((K - (j + 1) : Nat) : Int) := by omega
    simp only [decide_true, show (0 : Int) ≤ (K : Int) - 1 - j by omega, cond_true, nz_ok (show n ≠ 0 by omega), Option.bind_some, tdiv_nn hp1.1, tmod_nn hp1.1]
    rw [w64_id (x := i / n ^ j / n) (by have := Int.ediv_nonneg hp1.1 (show 0 ≤ n by omega); omega) (by have := ediv_le hp1.1 (show 0 ≤ n by omega); omega), w64_id (by omega) (by omega), e2, e3, idx_nat, Int.toNat_natCast]
    simp only [List.getElem?_append, List.length_replicate, Nat.lt_irrefl, if_false, Nat.sub_self, List.getElem?_cons_zero, Option.bind_some, List.set_append, List.set_cons_zero, Option.some.injEq, Ctl.nx.injEq, Prod.mk.injEq]
    refine ⟨?_, by omega, by rw [digs]⟩
    rw [Int.pow_succ, Int.ediv_ediv_of_nonneg (Int.pow_nonneg (by omega))]
  · have : decide ((0 : Int) ≤ (K : Int) - 1 - K) = false := by simp; omega
    simp only [this, cond_false, Nat.sub_self, List.replicate_zero, List.nil_append]
    rw [show (K : Int) - 1 - K = -1 by omega]

theorem l2Args_eq {i k n : Int} {K : Nat} (hk : k = (K : Int)) (hK : K ≤ 4294967296) (hn : 1 ≤ n) (hi : 0 ≤ i) (hi' : i ≤ 9223372036854775807) : s_spec_l2Args n k i = some (digs n K i) :=
  digs_loop hk hK hn hi hi'

theorem argsAt_eq {i k n : Int} {K : Nat} (hk : k = (K : Int)) (hK : K ≤ 4294967296) (hn : 1 ≤ n) (hi : 0 ≤ i) (hi' : i ≤ 9223372036854775807) : s_impl_argsAt i k n = some (digs n K i) :=
  digs_loop hk hK hn hi hi'


theorem eqIntS_eq (a b : List Int) (ha : a.length ≤ 4294967296) : s_laws_eqIntS a b = some (a == b) := by
  unfold s_laws_eqIntS
  by_cases hl : a.length = b.length
  · rw [hl]
    simp only [bne_self_eq_false, cond_false]
    rw [forC0_chk (n := b.length) (fun j => a[j]? == b[j]?) false rfl (by omega)]
    · have : (a == b) = (List.range b.length).all (fun j => a[j]? == b[j]?) := by
        rw [Bool.eq_iff_iff]
        simp only [beq_iff_eq, List.all_eq_true, List.mem_range]
        constructor
        · rintro rfl j _; rfl
        · intro h; apply List.ext_getElem?; intro j
          by_cases hj : j < b.length
          · exact h j hj
          · rw [List.getElem?_eq_none (by omega), List.getElem?_eq_none (by omega)]
      rw [← this]
      cases a == b <;> rfl
    · intro j hj
      have hj' : j < a.length := by omega
      simp only [idx_nat, List.getElem?_eq_getElem hj, List.getElem?_eq_getElem hj', Option.bind_some]
      by_cases h : a[j] = b[j]
      · simp [h]
      · simp [bne, beq_eq_false_iff_ne.2 h]
  · have h1 : (a == b) = false := by
      rw [Bool.eq_false_iff]; intro h; exact hl (by rw [beq_iff_eq.1 h])
    have h2 : ((a.length : Int) != (b.length : Int)) = true := by simp; omega
    rw [h1, h2]; rfl

theorem toIntS_eq (a : List Int) (ha : a.length ≤ 4294967296) : s_laws_toIntS a = some a := by
  unfold s_laws_toIntS
  rw [mks_ok rfl ha, Option.bind_some, forC0_set (fun j => a[j]?.getD 0) (z := 0) (n := a.length) rfl ha rfl]
  · rw [Option.bind_some, after_br', map_range_getElem]
  · intro j s hj hs
    simp [List.getElem?_eq_getElem hj, List.getElem?_eq_getElem (show j < s.length by omega)]

/-- The marks k, k + 1, .. -/
def marks (n : Nat) (k : Int) : List Int := (List.range n).map fun j : Nat => k + (j : Int)

theorem markIntS_eq (a : List Int) (k : Int) (ha : a.length ≤ 4294967296) (h0 : 0 ≤ k) (h1 : k ≤ 4611686018427387904) : s_laws_markIntS a k = some (k + (a.length : Int), marks a.length k) := by
  unfold s_laws_markIntS
  rw [iter_br (fun t => (k + (t : Int), (t : Int), marks t k ++ a.drop t)) (t := (k + (a.length : Int), (a.length : Int), marks a.length k)) a.length (by omega)]
  · rfl
  · simp [marks]
  · intro j hj
    have hm : (marks j k).length = j := by simp [marks]
    have hl : (marks j k ++ a.drop j).length = a.length := by simp [hm]; omega
    have e2 : a.drop j = a[j] :: a.drop (j + 1) := by rw [List.drop_eq_getElem_cons hj]
    have hd : decide ((j : Int) < (a.length : Int)) = true := by simp; omega
    simp only [hl, hd, cond_true, idx_nat]
    rw [w64_id (by omega) (by omega), w64_id (by omega) (by omega), e2, List.getElem?_append_right (by omega), hm, Nat.sub_self, List.getElem?_cons_zero, Option.bind_some, Int.toNat_natCast, List.set_append_right _ _ (by omega), hm, Nat.sub_self, List.set_cons_zero]
    have e3 : marks (j + 1) k = marks j k ++ [k + (j : Int)] := by simp [marks, List.range_succ]
    rw [e3]; simp [Int.add_assoc]
  · have hl : (marks a.length k ++ a.drop a.length).length = a.length := by simp [marks]
    simp only [hl]
    simp

theorem heldIntS_eq (n : Nat) (k : Int) (ha : n ≤ 4294967296) (h0 : 0 ≤ k) (h1 : k ≤ 4611686018427387904) : s_laws_heldIntS (marks n k) k = some (k + (n : Int)) := by
  unfold s_laws_heldIntS
  rw [forC0_fn (fun j => k + (j : Int)) (n := n) (by simp [marks]) (by omega) (by simp)]
  · rfl
  · intro j hj
    have : (marks n k)[j]? = some (k + (j : Int)) := by simp [marks, hj]
    simp only [idx_nat, this, Option.bind_some, bne_self_eq_false, cond_false]
    rw [w64_id (by omega) (by omega)]; simp [Int.add_assoc]


theorem pow_loop {n k : Int} {N K : Nat} (hn : n = (N : Int)) (hk : k = (K : Int)) (hN : 1 ≤ N) (hK : N ^ K ≤ 9223372036854775807) (hK2 : K ≤ 4294967296) : (
  (iter (S := Int × Int) (R := Int) (fun s2 =>
  (bif (decide (0 < s2.1)) then some (.nx (w64 (s2.1 - 1), w64 (s2.2 * n))) else some (.br (s2.1, s2.2)))) FU (k, 1)).bind fun o6 => after o6 (fun r_ => some r_) (fun s2 =>
  some s2.2)) = some ((N ^ K : Nat) : Int) := by
  subst hn hk
  rw [iter_br (fun t => ((K : Int) - t, ((N ^ t : Nat) : Int))) (t := (0, ((N ^ K : Nat) : Int))) K (by omega)]
  · rfl
  · simp
  · intro j hj
    have hd : decide ((0 : Int) < (K : Int) - j) = true := by simp; omega
    have hp : N ^ (j + 1) ≤ N ^ K := Nat.pow_le_pow_right hN (by omega)
    simp only [hd, cond_true]
    rw [w64_id (by omega) (by omega), show ((N ^ j : Nat) : Int) * (N : Int) = ((N ^ (j + 1) : Nat) : Int) by rw [Nat.pow_succ]; simp, w64_nat (by omega)]
    simp; omega
  · simp

theorem power_eq {n k : Int} {N K : Nat} (hn : n = (N : Int)) (hk : k = (K : Int)) (hN : 1 ≤ N) (hK : N ^ K ≤ 9223372036854775807) (hK2 : K ≤ 4294967296) : s_impl_power n k = some ((N ^ K : Nat) : Int) := pow_loop hn hk hN hK hK2

theorem l2Pow_eq {n k : Int} {N K : Nat} (hn : n = (N : Int)) (hk : k = (K : Int)) (hN : 1 ≤ N) (hK : N ^ K ≤ 9223372036854775807) (hK2 : K ≤ 4294967296) : s_spec_l2Pow n k = some ((N ^ K : Nat) : Int) := pow_loop hn hk hN hK hK2


theorem inSize_eq (l : List Int) (n : Int) : s_impl_inSize l n = some (l.all fun x => decide (0 ≤ x) && decide (x < n)) := by
  unfold s_impl_inSize
  rw [forR_chk (fun x => decide (0 ≤ x) && decide (x < n)) false]
  · cases l.all fun x => decide (0 ≤ x) && decide (x < n) <;> rfl
  · intro i x _
    by_cases h : x < 0
    · simp [h]; simp [show ¬ 0 ≤ x by omega]
    · by_cases h' : n ≤ x
      · simp [h, h']; simp [show ¬ x < n by omega]
      · simp [h, h', show 0 ≤ x by omega, show x < n by omega]


theorem l1In_eq (x a b : Int) : s_spec_l1In x a b = some (decide (a ≤ x) && decide (x ≤ b)) := by
  unfold s_spec_l1In
  by_cases h : a ≤ x <;> simp [h]


theorem all_range {α : Type} (l : List α) (p : α → Bool) (d : α) : (List.range l.length).all (fun j => p (l[j]?.getD d)) = l.all p := by
  rw [Bool.eq_iff_iff]
  simp only [List.all_eq_true, List.mem_range]
  constructor
  · intro h x hx
    obtain ⟨i, hi, rfl⟩ := List.mem_iff_getElem.1 hx
    have := h i hi
    simpa [List.getElem?_eq_getElem hi] using this
  · intro h j hj
    rw [List.getElem?_eq_getElem hj]
    exact h _ (List.getElem_mem hj)


theorem pow_small {N K : Nat} (hN8 : N ≤ 8) (hK : K ≤ 3) : N ^ K ≤ 512 := by
  have h1 : N ^ K ≤ 8 ^ K := Nat.pow_le_pow_left hN8 K
  have h2 : 8 ^ K ≤ 8 ^ 3 := Nat.pow_le_pow_right (by omega) hK
  omega

theorem szIntS_eq (a : List Int) (left : Int) (ha : a.length ≤ 9223372036854775807) (h0 : 0 ≤ left) (h1 : left ≤ 4611686018427387904) : s_laws_szIntS a left = some (if left < a.length then -1 else left - a.length) := by
  unfold s_laws_szIntS
  rw [w64_id (by omega) (by omega)]
  by_cases h : left < a.length
  · rw [if_pos h]; simp [show left - (a.length : Int) < 0 by omega]
  · rw [if_neg h]; simp [show ¬ left - (a.length : Int) < 0 by omega]

theorem same_loop (a b : List Int) (ha : a.length ≤ 4294967296) : (
  (bif ((a.length : Int) != (b.length : Int)) then some false else (forC (S := Unit) (R := Bool) (fun k12 s10 =>
  (idx a k12).bind fun x17 =>
  (idx b k12).bind fun x19 =>
  (bif (x17 != x19) then some (.rt false) else some (.nx ()))) 0 (a.length : Int) ()).bind fun o14 => after o14 (fun r_ => some r_) (fun s10 =>
  some true))) = some (a == b) := eqIntS_eq a b ha

theorem l1Same_eq (a b : List Int) (ha : a.length ≤ 4294967296) : s_spec_l1Same a b = some (a == b) := by
  unfold s_spec_l1Same; exact same_loop a b ha

theorem sameList_eq (a b : List Int) (ha : a.length ≤ 4294967296) : s_impl_sameList a b = some (a == b) := by
  rw [← same_loop a b ha]
  unfold s_impl_sameList
  congr 1
  congr 1
  · congr 1
    funext k s
    cases idx a k with
    | none => rfl
    | some x => cases idx b k with
      | none => rfl
      | some y =>
        simp only [Option.bind_some]
        by_cases h : x = y
        · subst h; rfl
        · simp [bne, beq_eq_false_iff_ne.2 h, beq_eq_false_iff_ne.2 (Ne.symm h)]


def NL (T : List Nat) : List Int := T.map fun x : Nat => (x : Int)

@[simp] theorem NL_len (T : List Nat) : (NL T).length = T.length := by simp [NL]

@[simp] theorem NL_nil : NL [] = [] := rfl

@[simp] theorem NL_cons (x : Nat) (T : List Nat) : NL (x :: T) = (x : Int) :: NL T := rfl

theorem NL_inj {S T : List Nat} (h : NL S = NL T) : S = T := by
  induction S generalizing T with
  | nil => cases T with
    | nil => rfl
    | cons y T => cases h
  | cons x S ih => cases T with
    | nil => cases h
    | cons y T =>
      simp only [NL_cons, List.cons.injEq] at h
      rw [ih h.2, show x = y by omega]

def ga (T : List Nat) (k : Nat) : Nat := T.getD k 0

theorem ga_get {T : List Nat} {k : Nat} (h : k < T.length) : ga T k = T[k] := by simp [ga, List.getElem?_eq_getElem h]

theorem ga_mem {T : List Nat} {k : Nat} (h : k < T.length) : ga T k ∈ T := by rw [ga_get h]; exact List.getElem_mem h

theorem idx_NL {T : List Nat} {k : Nat} (h : k < T.length) : idx (NL T) (k : Int) = some ((ga T k : Nat) : Int) := by
  rw [idx_nat, ga_get h]; simp [NL, List.getElem?_eq_getElem h]

theorem NL_of {t : List Int} (h : ∀ x ∈ t, 0 ≤ x) : ∃ T : List Nat, t = NL T := by
  refine ⟨t.map Int.toNat, ?_⟩
  unfold NL
  rw [List.map_map]
  conv => lhs; rw [← List.map_id t]
  refine List.map_congr_left fun x hx => ?_
  have := h x hx
  simp; omega

theorem w64_add1 {a : Nat} (h : a + 1 ≤ 9223372036854775807) : w64 ((a : Int) + 1) = ((a + 1 : Nat) : Int) := by
  rw [w64_id (by omega) (by omega)]; omega

theorem w64_mul {a b : Nat} (h : a * b ≤ 9223372036854775807) : w64 ((a : Int) * (b : Int)) = ((a * b : Nat) : Int) := by
  rw [← Int.natCast_mul, w64_nat h]

theorem dec_lt (a b : Nat) : decide ((a : Int) < (b : Int)) = decide (a < b) := by rw [decide_eq_decide]; omega

theorem dec_le (a b : Nat) : decide ((a : Int) ≤ (b : Int)) = decide (a ≤ b) := by rw [decide_eq_decide]; omega

def dig (N : Nat) : Nat → Nat → List Nat
  | 0, _ => []
  | t + 1, i => (i / N ^ t % N) :: dig N t i

@[simp] theorem dig_len (N : Nat) : ∀ (t i : Nat), (dig N t i).length = t
  | 0, _ => rfl
  | t + 1, i => by simp [dig, dig_len N t i]

theorem digs_NL (N : Nat) : ∀ (t i : Nat), digs (N : Int) t (i : Int) = NL (dig N t i)
  | 0, _ => rfl
  | t + 1, i => by
    simp only [digs, dig, NL_cons, digs_NL N t i]
    congr 1

theorem dig_lt {N : Nat} (h : 0 < N) : ∀ (t i : Nat), ∀ x ∈ dig N t i, x < N
  | 0, _, _, h => by cases h
  | t + 1, i, x, hx => by
    rcases List.mem_cons.1 hx with rfl | hx
    · exact Nat.mod_lt _ h
    · exact dig_lt h t i x hx

theorem argsN {i K N : Nat} (hK : K ≤ 4294967296) (hN : 1 ≤ N) (hi : i ≤ 9223372036854775807) : s_impl_argsAt (i : Int) (K : Int) (N : Int) = some (NL (dig N K i)) := by
  rw [argsAt_eq (K := K) rfl hK (by omega) (by omega) (by omega), digs_NL]

theorem l2ArgsN {i K N : Nat} (hK : K ≤ 4294967296) (hN : 1 ≤ N) (hi : i ≤ 9223372036854775807) : s_spec_l2Args (N : Int) (K : Int) (i : Int) = some (NL (dig N K i)) := by
  rw [l2Args_eq (K := K) rfl hK (by omega) (by omega) (by omega), digs_NL]



def ix (N : Nat) (s : Nat) (A : List Nat) : Nat := A.foldl (fun s x => s * N + x) s

theorem ix_lt {N : Nat} : ∀ (A : List Nat) (s : Nat), (∀ x ∈ A, x < N) → ix N s A < (s + 1) * N ^ A.length
  | [], s, _ => by simp [ix]
  | x :: A, s, h => by
    have h1 := ix_lt A (s * N + x) (fun y hy => h y (by simp [hy]))
    have hx := h x (by simp)
    have : (s * N + x + 1) * N ^ A.length ≤ (s + 1) * N * N ^ A.length := by
      apply Nat.mul_le_mul_right; rw [Nat.add_mul, Nat.one_mul]; omega
    show ix N (s * N + x) A < _
    rw [List.length_cons, Nat.pow_succ, Nat.mul_comm (N ^ A.length), ← Nat.mul_assoc]
    omega

theorem ix0_lt {N K : Nat} {A : List Nat} (h : ∀ x ∈ A, x < N) (hl : A.length = K) : ix N 0 A < N ^ K := by
  have := ix_lt A 0 h; rw [hl] at this; simpa using this

theorem pow_le_512 {N K : Nat} (h8 : N ≤ 8) (hK : K ≤ 3) : N ^ K ≤ 512 := pow_small h8 hK

theorem NL_toNat (T : List Nat) : (NL T).map Int.toNat = T := by
  unfold NL; rw [List.map_map]; exact (List.map_congr_left (fun x _ => by simp)).trans (List.map_id T)

theorem bne_nat (a b : Nat) : ((a : Int) != (b : Int)) = !(a == b) := by rw [bne, beq_nat]


def NLL (L : List (List Nat)) : List (List Int) := L.map NL

@[simp] theorem NLL_len (L : List (List Nat)) : (NLL L).length = L.length := by simp [NLL]

@[simp] theorem NLL_nil : NLL [] = [] := rfl

@[simp] theorem NLL_cons (x : List Nat) (L : List (List Nat)) : NLL (x :: L) = NL x :: NLL L := rfl

def gl (L : List (List Nat)) (k : Nat) : List Nat := L.getD k []

theorem gl_get {L : List (List Nat)} {k : Nat} (h : k < L.length) : gl L k = L[k] := by simp [gl, List.getElem?_eq_getElem h]

theorem gl_mem {L : List (List Nat)} {k : Nat} (h : k < L.length) : gl L k ∈ L := by rw [gl_get h]; exact List.getElem_mem h

def lexLt : List Nat → List Nat → Bool
  | x :: a, y :: b => if x = y then lexLt a b else decide (x < y)
  | _, _ => false

theorem lexLt_irrefl : ∀ a : List Nat, lexLt a a = false
  | [] => rfl
  | x :: a => by simp [lexLt, lexLt_irrefl a]

theorem lexLt_trans : ∀ {a b c : List Nat}, lexLt a b = true → lexLt b c = true → lexLt a c = true
  | [], _, _, h, _ => by simp [lexLt] at h
  | _ :: _, [], _, h, _ => by simp [lexLt] at h
  | _ :: _, _ :: _, [], _, h => by simp [lexLt] at h
  | x :: a, y :: b, z :: c, h, h' => by
    simp only [lexLt] at h h' ⊢
    by_cases h1 : x = y
    · subst h1
      rw [if_pos rfl] at h
      by_cases h2 : x = z
      · subst h2
        rw [if_pos rfl] at h' ⊢
        exact lexLt_trans h h'
      · rw [if_neg h2] at h' ⊢; exact h'
    · rw [if_neg h1, decide_eq_true_eq] at h
      by_cases h2 : y = z
      · subst h2
        rw [if_neg h1]; simp [h]
      · rw [if_neg h2, decide_eq_true_eq] at h'
        rw [if_neg (by omega)]; simp; omega

theorem lexLt_asymm {a b : List Nat} (h : lexLt a b = true) : lexLt b a = false := by
  cases h' : lexLt b a with
  | false => rfl
  | true => have := lexLt_trans h h'; rw [lexLt_irrefl] at this; cases this


theorem lexLt_find : ∀ (a b : List Nat), a.length ≤ b.length → lexLt a b = (match (List.range a.length).findSome? (fun j => if ga a j = ga b j then none else some (decide (ga a j < ga b j))) with | none => false | some r => r)
  | [], b, _ => by simp [lexLt]
  | x :: a, [], h => by simp at h
  | x :: a, y :: b, h => by
    have ih := lexLt_find a b (by simpa using h)
    simp only [lexLt, List.length_cons, List.range_succ_eq_map, List.findSome?_cons]
    by_cases e : x = y
    · subst e
      rw [if_pos rfl, ih, if_pos (by simp [ga]), List.findSome?_map]
      have : ((fun j => if ga (x :: a) j = ga (x :: b) j then none else some (decide (ga (x :: a) j < ga (x :: b) j))) ∘ Nat.succ) = fun j => if ga a j = ga b j then none else some (decide (ga a j < ga b j)) := by
        funext j; simp [ga]
      rw [this]
    · rw [if_neg e, if_neg (by simpa [ga] using e)]
      simp [ga]

theorem l3Less_eq {a b : List Nat} (h : a.length ≤ b.length) (hl : a.length ≤ 9223372036854775807) : s_spec_l3Less (NL a) (NL b) = some (lexLt a b) := by
  unfold s_spec_l3Less
  rw [forC0_find (n := a.length) (fun j => if ga a j = ga b j then none else some (decide (ga a j < ga b j))) (by simp) hl]
  · rw [Option.bind_some, lexLt_find a b h]
    cases (List.range a.length).findSome? _ <;> rfl
  · intro j hj
    rw [idx_NL hj, idx_NL (show j < b.length by omega)]
    simp only [Option.bind_some, bne_nat]
    by_cases e : ga a j = ga b j
    · rw [if_pos e, e]; simp
    · rw [if_neg e, beq_eq_false_iff_ne.2 e]
      simp only [Bool.not_false, cond_true]
      rw [dec_lt]


def Sorted (L : List (List Nat)) : Prop := L.Pairwise fun a b => lexLt a b = true

theorem Sorted.get {L : List (List Nat)} (h : Sorted L) {i j : Nat} (hij : i < j) (hj : j < L.length) : lexLt (gl L i) (gl L j) = true := by
  rw [gl_get (by omega), gl_get hj]
  exact List.pairwise_iff_getElem.1 h i j (by omega) hj hij

/-- A relation: its tuples, of one length, in order. -/
structure Rel (k : Nat) (L : List (List Nat)) : Prop where
  srt : Sorted L
  len : ∀ u ∈ L, u.length = k


theorem eqS_refl {α : Type} (eq : α → α → Option Bool) (a : List α) (ha : a.length ≤ 9223372036854775807) (h : ∀ x ∈ a, eq x x = some true) :
    (bif ((a.length : Int) != (a.length : Int)) then some false else (forC (S := Unit) (R := Bool) (fun k s => (idx a k).bind fun x => (idx a k).bind fun y => (eq x y).bind fun r => (bif (!r) then some (.rt false) else some (.nx ()))) 0 (a.length : Int) ()).bind fun o => after o (fun r_ => some r_) (fun s => some true)) = some true := by
  rw [bne_self_eq_false, cond_false, forC0_chk (n := a.length) (fun _ => true) false rfl ha]
  · rw [show ((List.range a.length).all fun _ => true) = true by simp]; rfl
  · intro j hj
    simp only [idx_nat, List.getElem?_eq_getElem hj, Option.bind_some, h _ (List.getElem_mem hj)]
    rfl

theorem toS_loop {α : Type} (f : α → Option α) (z : α) (a : List α) (ha : a.length ≤ 4294967296) (h : ∀ x ∈ a, f x = some x) :
    ((mks (a.length : Int) z).bind fun y3 => (forC (S := List α) (R := List α) (fun k s => (idx a k).bind fun x => (f x).bind fun r => (idx s k).bind fun _ => some (.nx (List.set s (Int.toNat k) r))) 0 (a.length : Int) y3).bind fun o => after o (fun r_ => some r_) (fun s => some s)) = some a := by
  rw [mks_ok rfl ha, Option.bind_some, forC0_set (fun j => a[j]?.getD z) (z := z) (n := a.length) rfl ha rfl]
  · rw [Option.bind_some, after_br', map_range_getElem]
  · intro j s hj hs
    simp only [idx_nat, List.getElem?_eq_getElem hj, List.getElem?_eq_getElem (show j < s.length by omega), Option.bind_some, h _ (List.getElem_mem hj), Option.getD_some, Int.toNat_natCast]

/-- Sizes: what is counted is bounded. -/
def SzOk {α : Type} (sz : α → Int → Option Int) (Bd : α → Prop) (a : α) : Prop := ∀ l : Int, 0 ≤ l → l ≤ 1048576 → ∃ v, sz a l = some v ∧ (v < 0 ∨ (Bd a ∧ 0 ≤ v ∧ v ≤ l))

theorem szS_loop {α : Type} (sz : α → Int → Option Int) (Bd : α → Prop) (a : List α) (ha : a.length ≤ 9223372036854775807) (h : ∀ x ∈ a, SzOk sz Bd x) (l : Int) (h0 : 0 ≤ l) (h1 : l ≤ 1048576) :
    ∃ v, (bif (decide ((w64 (l - (a.length : Int))) < 0)) then some (-1) else (forC (S := Int) (R := Int) (fun k s => (idx a k).bind fun x => (sz x s).bind fun r => (bif (decide (r < 0)) then some (.rt (-1)) else some (.nx r))) 0 (a.length : Int) (w64 (l - (a.length : Int)))).bind fun o => after o (fun r_ => some r_) (fun s => some s)) = some v ∧
      (v < 0 ∨ ((a.length ≤ 1048576 ∧ ∀ x ∈ a, Bd x) ∧ 0 ≤ v ∧ v ≤ l)) := by
  rw [w64_id (by omega) (by omega)]
  by_cases hl : l - (a.length : Int) < 0
  · rw [show decide (l - (a.length : Int) < 0) = true by simpa using hl]
    exact ⟨-1, rfl, .inl (by omega)⟩
  · rw [show decide (l - (a.length : Int) < 0) = false by simpa using hl, cond_false]
    rcases forC0_hoare (step := fun k s => (idx a k).bind fun x => (sz x s).bind fun r => (bif (decide (r < 0)) then some (Ctl.rt (S := Int) (-1 : Int)) else some (.nx r))) (fun j s => 0 ≤ s ∧ s ≤ l ∧ ∀ i, i < j → ∀ x, a[i]? = some x → Bd x) (fun _ => False) (fun r => r = -1) (n := a.length) rfl (by omega) (s := l - (a.length : Int)) ⟨by omega, by omega, fun i hi => by omega⟩ (by
      rintro j s hj ⟨hs0, hs1, hb⟩
      obtain ⟨v, hv, hv'⟩ := h a[j] (List.getElem_mem hj) s hs0 (by omega)
      simp only [idx_nat, List.getElem?_eq_getElem hj, Option.bind_some, hv]
      rcases hv' with hv' | ⟨hB, hv0, hv1⟩
      · right; right
        rw [show decide (v < 0) = true by simpa using hv']
        exact ⟨_, rfl, rfl⟩
      · left
        rw [show decide (v < 0) = false by simp; omega]
        refine ⟨_, rfl, hv0, by omega, fun i hi x hx => ?_⟩
        by_cases e : i = j
        · subst e
          rw [List.getElem?_eq_getElem hj] at hx
          cases hx; exact hB
        · exact hb i (by omega) x hx) with ⟨s', e, ⟨a1, a2, a3⟩ | hF⟩ | ⟨r, e, rfl⟩
    · rw [e]
      refine ⟨s', rfl, .inr ⟨⟨by omega, fun x hx => ?_⟩, a1, a2⟩⟩
      obtain ⟨i, hi, rfl⟩ := List.mem_iff_getElem.1 hx
      exact a3 i hi _ (List.getElem?_eq_getElem hi)
    · exact hF.elim
    · rw [e]
      exact ⟨-1, rfl, .inl (by omega)⟩

/-- Marks are found again. -/
def MkOk {α β : Type} (mk : α → Int → Option (Int × β)) (hd : β → Int → Option Int) (C : Nat) (a : α) : Prop :=
  ∀ k : Int, 0 ≤ k → k + C ≤ 4611686018427387904 → ∃ k' a', mk a k = some (k', a') ∧ hd a' k = some k' ∧ k ≤ k' ∧ k' ≤ k + C

theorem markS_loop {α : Type} (mk : α → Int → Option (Int × α)) (hd : α → Int → Option Int) (C : Nat) (a : List α) (ha : a.length ≤ 1048576) (h : ∀ x ∈ a, MkOk mk hd C x) {step : Int × Int × List α → Option (Ctl (Int × Int × List α) (Int × List α))}
    {hstep : Int → Int → List α → Option (Ctl Int Int)}
    (h1 : ∀ (k : Int) (i : Nat) (l : List α) (hi : i < l.length), l.length = a.length → (∃ z, mk l[i] k = some z) → 0 ≤ k → k + C ≤ 4611686018427387904 → step (k, (i : Int), l) = (mk l[i] k).bind fun r => some (.nx (r.1, ((i + 1 : Nat) : Int), l.set i r.2)))
    (h2 : ∀ (k : Int) (i : Nat) (l : List α), i = l.length → step (k, (i : Int), l) = some (.br (k, (i : Int), l)))
    (h3 : ∀ (k : Int) (i : Nat) (l : List α) (hi : i < l.length) (k' : Int), hd l[i] k = some k' → 0 ≤ k → k ≤ k' → k' ≤ k + C → k + C ≤ 4611686018427387904 → hstep (i : Int) k l = some (.nx k')) :
    ∀ k : Int, 0 ≤ k → k + ((a.length * C : Nat) : Int) ≤ 4611686018427387904 → ∃ k' a', ((iter (S := Int × Int × List α) (R := Int × List α) step FU (k, 0, a)).bind fun o => after o (fun r_ => some r_) (fun s => some (s.1, s.2.2))) = some (k', a') ∧
      ((forC (S := Int) (R := Int) (fun i s => hstep i s a') 0 (a'.length : Int) k).bind fun o => after o (fun r_ => some r_) (fun s => some s)) = some k' ∧ k ≤ k' ∧ k' ≤ k + ((a.length * C : Nat) : Int) := by
  intro k hk0 hk1
  -- the marked part, and where each begins
  have main : ∀ m, m ≤ a.length → ∃ (ks : Nat → Int) (l : List α), ks 0 = k ∧ l.length = a.length ∧ (∀ j, j < m → ks j ≤ ks (j + 1) ∧ ks (j + 1) ≤ ks j + C ∧ ∃ x, l[j]? = some x ∧ hd x (ks j) = some (ks (j + 1))) ∧ (∀ j, m ≤ j → l[j]? = a[j]?) ∧
      ∀ fu, iter (S := Int × Int × List α) (R := Int × List α) step (fu + m) (k, 0, a) = iter step fu (ks m, (m : Int), l) := by
    intro m
    induction m with
    | zero => intro _; exact ⟨fun _ => k, a, rfl, rfl, fun j hj => by omega, fun j _ => rfl, fun fu => rfl⟩
    | succ m ih =>
      intro hm
      obtain ⟨ks, l, e0, el, e1, e2, e3⟩ := ih (by omega)
      have hks : ∀ j, j ≤ m → k ≤ ks j ∧ ks j ≤ k + ((j * C : Nat) : Int) := by
        intro j
        induction j with
        | zero => intro _; rw [e0]; omega
        | succ j ihj =>
          intro hj
          have := ihj (by omega)
          have h4 := e1 j (by omega)
          rw [Nat.add_mul, Nat.one_mul]; omega
      have hmC : (m + 1) * C ≤ a.length * C := Nat.mul_le_mul_right C hm
      have hkm := hks m (Nat.le_refl _)
      rw [Nat.add_mul, Nat.one_mul] at hmC
      have hml : m < l.length := by omega
      have hxm : l[m] = a[m]'(by omega) := by
        have := e2 m (Nat.le_refl _)
        rw [List.getElem?_eq_getElem hml, List.getElem?_eq_getElem (by omega)] at this
        exact Option.some.inj this
      obtain ⟨k', x', g1, g2, g3, g4⟩ := h (a[m]'(by omega)) (List.getElem_mem _) (ks m) (by omega) (by omega)
      refine ⟨fun j => if j ≤ m then ks j else k', l.set m x', by simp [e0], by simpa using el, fun j hj => ?_, fun j hj => ?_, fun fu => ?_⟩
      · by_cases e : j = m
        · subst e
          simp only [Nat.le_refl, if_true, show ¬ j + 1 ≤ j by omega, if_false]
          exact ⟨g3, g4, x', by rw [List.getElem?_set_self hml], g2⟩
        · have := e1 j (by omega)
          simp only [show j ≤ m by omega, show j + 1 ≤ m by omega, if_true]
          refine ⟨this.1, this.2.1, ?_⟩
          rw [List.getElem?_set_ne (by omega)]
          exact this.2.2
      · rw [List.getElem?_set_ne (by omega)]; exact e2 j (by omega)
      · have := e3 (fu + 1)
        rw [show fu + (m + 1) = fu + 1 + m by omega, this]
        rw [iter_nx (s' := (k', ((m + 1 : Nat) : Int), l.set m x'))]
        · simp only [show ¬ m + 1 ≤ m by omega, if_false]
        · rw [h1 _ m l hml el ⟨_, by rw [hxm]; exact g1⟩ (by omega) (by omega), hxm, g1]
          simp only [Option.bind_some]
  obtain ⟨ks, l, e0, el, e1, e2, e3⟩ := main a.length (Nat.le_refl _)
  have hks : ∀ j, j ≤ a.length → k ≤ ks j ∧ ks j ≤ k + ((j * C : Nat) : Int) := by
    intro j
    induction j with
    | zero => intro _; rw [e0]; omega
    | succ j ihj =>
      intro hj
      have := ihj (by omega)
      have h4 := e1 j (by omega)
      rw [Nat.add_mul, Nat.one_mul]; omega
  refine ⟨ks a.length, l, ?_, ?_, (hks _ (Nat.le_refl _)).1, (hks _ (Nat.le_refl _)).2⟩
  · have := e3 (FU - a.length)
    rw [show FU - a.length + a.length = FU by unfold FU; omega] at this
    rw [this]
    obtain ⟨n, hn⟩ : ∃ n, FU - a.length = n + 1 := ⟨FU - a.length - 1, by unfold FU; omega⟩
    rw [hn]
    rw [iter_out (h2 _ _ _ (by omega)) (by intro s; simp)]
    rfl
  · rw [forC0_fn ks (n := a.length) (by rw [el]) (by omega) e0.symm]
    · rfl
    · intro j hj
      obtain ⟨g3, g4, x, hx, g2⟩ := e1 j hj
      have hjl : j < l.length := by omega
      rw [List.getElem?_eq_getElem hjl] at hx
      have hkj := hks j (by omega)
      have hC : (j + 1) * C ≤ a.length * C := Nat.mul_le_mul_right C hj
      rw [Nat.add_mul, Nat.one_mul] at hC
      exact h3 _ j l hjl _ (by rw [Option.some.inj hx]; exact g2) (by omega) g3 g4 (by omega)


def B1 (l : List Int) : Prop := l.length ≤ 1048576

def B2 (l : List (List Int)) : Prop := l.length ≤ 1048576 ∧ ∀ x ∈ l, B1 x

theorem markIntS_ok (a : List Int) (ha : B1 a) : MkOk s_laws_markIntS s_laws_heldIntS 1048576 a := by
  intro k h0 h1
  unfold B1 at ha
  refine ⟨_, _, markIntS_eq a k (by omega) h0 (by omega), heldIntS_eq a.length k (by omega) h0 (by omega), by omega, by omega⟩

theorem szIntS_ok (a : List Int) (ha : a.length ≤ maxLen) : SzOk s_laws_szIntS B1 a := by
  intro l h0 h1
  unfold maxLen at ha
  rw [szIntS_eq a l (by omega) h0 (by omega)]
  by_cases h : l < a.length
  · rw [if_pos h]; exact ⟨-1, rfl, .inl (by omega)⟩
  · rw [if_neg h]; exact ⟨_, rfl, .inr ⟨by unfold B1; omega, by omega, by omega⟩⟩

theorem eqIntS_refl (a : List Int) (ha : B1 a) : s_laws_eqIntS a a = some true := by
  unfold B1 at ha; rw [eqIntS_eq a a (by omega)]; simp

theorem toIntS_ok (a : List Int) (ha : B1 a) : s_laws_toIntS a = some a := by
  unfold B1 at ha; exact toIntS_eq a (by omega)


theorem szIntSS_ok (a : List (List Int)) (ha : a.length ≤ maxLen) (h : ∀ x ∈ a, x.length ≤ maxLen) : SzOk s_laws_szIntSS B2 a := by
  intro l h0 h1
  unfold s_laws_szIntSS
  exact szS_loop s_laws_szIntS B1 a (by unfold maxLen at ha; omega) (fun x hx => szIntS_ok x (h x hx)) l h0 h1

theorem eqIntSS_refl (a : List (List Int)) (ha : B2 a) : s_laws_eqIntSS a a = some true := by
  unfold s_laws_eqIntSS
  exact eqS_refl s_laws_eqIntS a (by have := ha.1; omega) (fun x hx => eqIntS_refl x (ha.2 x hx))

theorem toIntSS_ok (a : List (List Int)) (ha : B2 a) : s_laws_toIntSS a = some a := by
  unfold s_laws_toIntSS
  exact toS_loop s_laws_toIntS [] a (by have := ha.1; omega) (fun x hx => toIntS_ok x (ha.2 x hx))

theorem MkOk.le {α β : Type} {mk : α → Int → Option (Int × β)} {hd : β → Int → Option Int} {C C' : Nat} {a : α} (h : MkOk mk hd C a) (hC : C ≤ C') : MkOk mk hd C' a := fun k h0 h1 => by
  obtain ⟨k', a', g1, g2, g3, g4⟩ := h k h0 (by omega)
  exact ⟨k', a', g1, g2, g3, by omega⟩

theorem neg_dec' {k : Int} (h : 0 ≤ k) : decide (k < 0) = false := by simp; omega

theorem markIntSS_ok (a : List (List Int)) (ha : B2 a) : MkOk s_laws_markIntSS s_laws_heldIntSS 1099511627776 a := by
  have hl := ha.1
  have h : MkOk s_laws_markIntSS s_laws_heldIntSS (a.length * 1048576) a := by
    unfold MkOk s_laws_markIntSS s_laws_heldIntSS
    refine markS_loop s_laws_markIntS s_laws_heldIntS 1048576 a hl (fun x hx => markIntS_ok x (ha.2 x hx)) (hstep := fun k11 s9 a_ => (idx a_ k11).bind fun x15 =>
  (s_laws_heldIntS x15 s9).bind fun r20 =>
  (bif (decide (r20 < 0)) then some (.rt (-1)) else some (.nx r20))) (fun k i l hi hl' hm h0 hk => ?_) (fun k i l hi => ?_) (fun k i l hi k' hh h0 h1 h2 hk => ?_)
    · obtain ⟨z, hz⟩ := hm
      have hd : decide ((i : Int) < (l.length : Int)) = true := by simp; omega
      simp only [hd, cond_true, idx_nat, List.getElem?_eq_getElem hi, Option.bind_some, hz, w64_add1 (show i + 1 ≤ 9223372036854775807 by omega), Int.toNat_natCast]
    · subst hi; simp
    · simp only [idx_nat, List.getElem?_eq_getElem hi, Option.bind_some, hh, neg_dec' (show 0 ≤ k' by omega), cond_false]
  exact h.le (by have : a.length * 1048576 ≤ 1048576 * 1048576 := Nat.mul_le_mul_right _ hl; omega)


def BR (r : Int × List (List Int)) : Prop := B2 r.2

theorem neg_bif {k : Int} (h : 0 ≤ k) {α : Type} (x y : α) : (bif decide (k < 0) then x else y) = y := by rw [neg_dec' h]; rfl

theorem szRelation_ok (a : Int × List (List Int)) (ha : a.2.length ≤ maxLen) (h : ∀ x ∈ a.2, x.length ≤ maxLen) : SzOk s_laws_szRelation BR a := by
  intro l h0 h1
  obtain ⟨v, hv, h2⟩ := szIntSS_ok a.2 ha h l h0 h1
  unfold s_laws_szRelation
  rw [hv, Option.bind_some]
  by_cases hn : v < 0
  · rw [show decide (v < 0) = true by simpa using hn]; exact ⟨-1, rfl, .inl (by omega)⟩
  · rw [show decide (v < 0) = false by simpa using hn]; exact ⟨v, rfl, h2⟩

theorem eqRelation_refl (a : Int × List (List Int)) (ha : BR a) : s_laws_eqRelation a a = some true := by
  unfold s_laws_eqRelation
  rw [bne_self_eq_false, cond_false, eqIntSS_refl a.2 ha]; rfl

theorem toRelation_ok (a : Int × List (List Int)) (ha : BR a) : s_laws_toRelation a = some a := by
  unfold s_laws_toRelation; rw [toIntSS_ok a.2 ha]; rfl

abbrev Con := List Int × (Int × List (List Int))

abbrev Net := Int × Int × List Con

def BC (c : Con) : Prop := B1 c.1 ∧ BR c.2

def BN (n : Net) : Prop := n.2.2.length ≤ 1048576 ∧ ∀ c ∈ n.2.2, BC c

theorem eqConstraint_refl (a : Con) (ha : BC a) : s_laws_eqConstraint a a = some true := by
  have e : s_laws_eqRelation (a.2.1, a.2.2) (a.2.1, a.2.2) = some true := eqRelation_refl a.2 ha.2
  unfold s_laws_eqConstraint
  rw [eqIntS_refl a.1 ha.1, Option.bind_some, Bool.not_true, cond_false, e]; rfl

theorem eqNetwork_refl (a : Net) (ha : BN a) : s_laws_eqNetwork a a = some true := by
  have e : s_laws_eqConstraintS a.2.2 a.2.2 = some true := eqS_refl s_laws_eqConstraint a.2.2 (by have := ha.1; omega) (fun x hx => eqConstraint_refl x (ha.2 x hx))
  unfold s_laws_eqNetwork
  rw [bne_self_eq_false, cond_false, bne_self_eq_false, cond_false, e]; rfl

def mkCon1 (x : Con) (k : Int) : Option (Int × Con) := (s_laws_markIntS x.1 k).bind fun r => if r.1 < 0 ∨ 4611686018427387904 < r.1 then none else (s_laws_markIntSS x.2.2 (r.1 + 1)).bind fun q => some (q.1, (r.2, (r.1, q.2)))

def hdCon1 (x : Con) (k : Int) : Option Int := (s_laws_heldIntS x.1 k).bind fun r => if r < 0 ∨ 4611686018427387904 < r then none else if x.2.1 = r then (s_laws_heldIntSS x.2.2 (r + 1)).bind fun q => if q < 0 then none else some q else none

theorem mkCon1_ok (x : Con) (hx : BC x) : MkOk mkCon1 hdCon1 1099512676353 x := by
  intro k h0 h1
  obtain ⟨k', t, g1, g2, g3, g4⟩ := markIntS_ok x.1 hx.1 k (by omega) (by omega)
  obtain ⟨k2, t2, g5, g6, g7, g8⟩ := markIntSS_ok x.2.2 hx.2 (k' + 1) (by omega) (by omega)
  refine ⟨k2, (t, (k', t2)), by unfold mkCon1; simp only [g1, Option.bind_some, show ¬ (k' < 0 ∨ 4611686018427387904 < k') by omega, if_false, g5], ?_, by omega, by omega⟩
  unfold hdCon1
  simp only [g2, Option.bind_some, show ¬ (k' < 0 ∨ 4611686018427387904 < k') by omega, if_false, if_true, g6, show ¬ k2 < 0 by omega]

theorem markNetwork_ok (a : Net) (ha : BN a) (k : Int) (h0 : 0 ≤ k) (h1 : k + 1152922604119523328 ≤ 4611686018427387904) :
    ∃ k' t, s_laws_markNetwork a k = some (k', t) ∧ (∀ x y, s_laws_heldNetwork (x, y, t) k = some k') ∧ 0 ≤ k' ∧ k' ≤ k + 1152922604119523328 := by
  have hl := ha.1
  have hC : a.2.2.length * 1099512676353 ≤ 1048576 * 1099512676353 := Nat.mul_le_mul_right _ hl
  have h := markS_loop mkCon1 hdCon1 1099512676353 a.2.2 hl (fun x hx => mkCon1_ok x (ha.2 x hx)) (step := fun s101 =>
  (bif (decide (s101.2.1 < (s101.2.2.length : Int))) then (idx s101.2.2 s101.2.1).bind fun x110 =>
  (s_laws_markIntS x110.1 s101.1).bind fun r117 =>
  (idx (List.set s101.2.2 (Int.toNat s101.2.1) (r117.2, (x110.2.1, x110.2.2))) s101.2.1).bind fun x118 =>
  (idx (List.set (List.set s101.2.2 (Int.toNat s101.2.1) (r117.2, (x110.2.1, x110.2.2))) (Int.toNat s101.2.1) (x118.1, (r117.1, x118.2.2))) s101.2.1).bind fun x123 =>
  (s_laws_markIntSS x123.2.2 (w64 (r117.1 + 1))).bind fun r131 =>
  some (.nx (r131.1, w64 (s101.2.1 + 1), List.set (List.set (List.set s101.2.2 (Int.toNat s101.2.1) (r117.2, (x110.2.1, x110.2.2))) (Int.toNat s101.2.1) (x118.1, (r117.1, x118.2.2))) (Int.toNat s101.2.1) (x123.1, (x123.2.1, r131.2)))) else some (.br (s101.1, s101.2.1, s101.2.2))))
    (hstep := fun k26 s24 a_ => (idx a_ k26).bind fun x30 =>
  (s_laws_heldIntS x30.1 s24).bind fun r36 =>
  (bif (decide (r36 < 0)) then some (.rt (-1)) else (idx a_ k26).bind fun x38 =>
  (bif (x38.2.1 != r36) then some (.rt (-1)) else (idx a_ k26).bind fun x43 =>
  (s_laws_heldIntSS x43.2.2 (w64 (r36 + 1))).bind fun r50 =>
  (bif (decide (r50 < 0)) then some (.rt (-1)) else some (.nx r50))))) (fun k i l hi hl' hm h0 hk => by
      obtain ⟨z, hz⟩ := hm
      have hd : decide ((i : Int) < (l.length : Int)) = true := by simp; omega
      unfold mkCon1 at hz
      obtain ⟨r, hr, hz⟩ := bind_some hz
      by_cases hr0 : r.1 < 0 ∨ 4611686018427387904 < r.1
      · rw [if_pos hr0] at hz; cases hz
      rw [if_neg hr0] at hz
      obtain ⟨q, hq, hz⟩ := bind_some hz
      have hs : ∀ y, (l.set i y)[i]? = some y := fun y => by rw [List.getElem?_set_self hi]
      have hs2 : ∀ y y', ((l.set i y).set i y')[i]? = some y' := fun y y' => by rw [List.set_set, hs]
      simp only [hd, cond_true, idx_nat, List.getElem?_eq_getElem hi, Option.bind_some, Int.toNat_natCast, hs, w64_add1 (show i + 1 ≤ 9223372036854775807 by omega), List.set_set, mkCon1, hr, if_neg hr0, hq, w64_id (show -9223372036854775808 ≤ r.1 + 1 by omega) (show r.1 + 1 ≤ 9223372036854775807 by omega)]) (fun k i l hi => by subst hi; simp) (fun k i l hi k' hh h0 h1 h2 hk => by
      unfold hdCon1 at hh
      obtain ⟨r, hr, hh⟩ := bind_some hh
      by_cases c1 : r < 0 ∨ 4611686018427387904 < r
      · rw [if_pos c1] at hh; cases hh
      rw [if_neg c1] at hh
      by_cases c2 : l[i].2.1 = r
      · rw [if_pos c2] at hh
        obtain ⟨q, hq, hh⟩ := bind_some hh
        by_cases c3 : q < 0
        · rw [if_pos c3] at hh; cases hh
        rw [if_neg c3] at hh
        cases hh
        have hr1 : r + 1 ≤ 9223372036854775807 := by omega
        have c4 : ¬ r < 0 := by omega
        have e2 : (l[i].2.1 != r) = false := by simp [c2]
        simp only [idx_nat, List.getElem?_eq_getElem hi, Option.bind_some, hr, show decide (r < 0) = false by simpa using c4, cond_false, e2, w64_id (show -9223372036854775808 ≤ r + 1 by omega) hr1, hq, show decide (k' < 0) = false by simpa using c3]
      · rw [if_neg c2] at hh; cases hh) k h0 (by omega)
  obtain ⟨k', t, g1, g2, g3, g4⟩ := h
  have g1' : s_laws_markConstraintS a.2.2 k = some (k', t) := g1
  have g2' : s_laws_heldConstraintS t k = some k' := g2
  refine ⟨k', t, by unfold s_laws_markNetwork; rw [g1']; rfl, fun x y => ?_, by omega, by omega⟩
  unfold s_laws_heldNetwork
  simp only [g2', Option.bind_some]
  rw [neg_bif (by omega)]


/-- A test, and what it says. -/
def Says (o : Option Bool) (P : Prop) : Prop := ∃ b, o = some b ∧ (b = true ↔ P)

theorem Says.cases {o : Option Bool} {P : Prop} (h : Says o P) : (o = some true ∧ P) ∨ (o = some false ∧ ¬ P) := by
  obtain ⟨b, rfl, hb⟩ := h
  cases b with
  | true => exact .inl ⟨rfl, hb.1 rfl⟩
  | false => exact .inr ⟨rfl, fun hp => by cases hb.2 hp⟩

theorem Says.yes {o : Option Bool} {P : Prop} (h : o = some true) (hp : P) : Says o P := ⟨true, h, by simp [hp]⟩

theorem Says.no {o : Option Bool} {P : Prop} (h : o = some false) (hp : ¬ P) : Says o P := ⟨false, h, by simp [hp]⟩

def cmpL (a b : List Nat) : Int := if lexLt a b then -1 else if lexLt b a then 1 else if a.length < b.length then -1 else if b.length < a.length then 1 else 0

theorem lexLt_same {a b : List Nat} (h : ∀ i, i < a.length → i < b.length → ga a i = ga b i) : lexLt a b = false := by
  induction a generalizing b with
  | nil => cases b <;> rfl
  | cons x a ih =>
    cases b with
    | nil => rfl
    | cons y b =>
      have h0 := h 0 (by simp) (by simp)
      have h0 : x = y := by simpa [ga] using h0
      simp only [lexLt, h0, if_true]
      exact ih fun i h1 h2 => by
        have := h (i + 1) (by simp; omega) (by simp; omega)
        simpa [ga] using this

theorem lexLt_at {a b : List Nat} {j : Nat} (ha : j < a.length) (hb : j < b.length) (h : ∀ i, i < j → ga a i = ga b i) (hj : ga a j < ga b j) : lexLt a b = true := by
  induction j generalizing a b with
  | zero =>
    cases a with
    | nil => simp at ha
    | cons x a => cases b with
      | nil => simp at hb
      | cons y b =>
        simp only [ga, List.getD_cons_zero] at hj
        simp only [lexLt]
        rw [if_neg (by omega)]; simpa using hj
  | succ j ih =>
    cases a with
    | nil => simp at ha
    | cons x a => cases b with
      | nil => simp at hb
      | cons y b =>
        have h0 : x = y := by simpa [ga] using h 0 (by omega)
        simp only [lexLt, h0, if_true]
        refine ih (by simpa using ha) (by simpa using hb) (fun i hi => ?_) (by simpa [ga] using hj)
        have := h (i + 1) (by omega)
        simpa [ga] using this

theorem compareLists_eq {a b : List Nat} (ha : a.length ≤ 4294967296) : s_impl_compareLists (NL a) (NL b) = some (cmpL a b) := by
  unfold s_impl_compareLists
  obtain ⟨c, hc, hq, _⟩ := iter_inv (R := Int) (step := fun s20 =>
  (bif ((decide (s20 < ((NL a).length : Int))) && (decide (s20 < ((NL b).length : Int)))) then (idx (NL a) s20).bind fun x32 =>
  (idx (NL b) s20).bind fun x34 =>
  (bif (x32 != x34) then (idx (NL a) s20).bind fun x38 =>
  (idx (NL b) s20).bind fun x40 =>
  (bif (decide (x38 < x40)) then some (.rt (-1)) else some (.rt 1)) else some (.nx (w64 (s20 + 1)))) else some (.br s20))) (fun s => ∃ j : Nat, s = (j : Int) ∧ j ≤ a.length ∧ ∀ i, i < j → ga a i = ga b i) (fun s => a.length - s.toNat)
    (fun c => (∃ s, c = .br s ∧ lexLt a b = false ∧ lexLt b a = false) ∨ (∃ r, c = .rt r ∧ r = cmpL a b)) FU 0 ⟨0, rfl, by omega, fun i h => by omega⟩ (by simp [FU]; omega) (by
    rintro s ⟨j, rfl, h1, h2⟩
    simp only [NL_len, dec_lt]
    by_cases hl : j < a.length ∧ j < b.length
    · simp only [hl.1, hl.2, decide_true, Bool.and_true, cond_true]
      rw [idx_NL hl.1, idx_NL hl.2]
      simp only [Option.bind_some, bne_nat]
      by_cases he : ga a j = ga b j
      · left
        refine ⟨_, by rw [he, beq_self_eq_true]; rfl, ⟨j + 1, w64_add1 (by omega), by omega, fun i hi => ?_⟩, by rw [w64_add1 (by omega)]; simp; omega⟩
        by_cases e : i = j
        · rw [e]; exact he
        · exact h2 i (by omega)
      · right
        rw [beq_eq_false_iff_ne.2 he]
        simp only [Bool.not_false, cond_true, dec_lt]
        by_cases hlt : ga a j < ga b j
        · rw [show decide (ga a j < ga b j) = true by simpa using hlt]
          refine ⟨_, rfl, by intro s; simp, .inr ⟨_, rfl, ?_⟩⟩
          unfold cmpL; rw [lexLt_at hl.1 hl.2 h2 hlt]; rfl
        · rw [show decide (ga a j < ga b j) = false by simpa using hlt]
          refine ⟨_, rfl, by intro s; simp, .inr ⟨_, rfl, ?_⟩⟩
          have := lexLt_at hl.2 hl.1 (fun i hi => (h2 i hi).symm) (show ga b j < ga a j by omega)
          unfold cmpL; rw [lexLt_asymm this, this]; rfl
    · right
      have : (decide (j < a.length) && decide (j < b.length)) = false := by
        rw [Bool.eq_false_iff]; simpa using hl
      rw [this, cond_false]
      refine ⟨_, rfl, by intro s; simp, .inl ⟨_, rfl, lexLt_same fun i g1 g2 => h2 i (by omega), lexLt_same fun i g1 g2 => (h2 i (by omega)).symm⟩⟩)
  rw [hc]
  rcases hq with ⟨s, rfl, e1, e2⟩ | ⟨r, rfl, rfl⟩
  · simp only [Option.bind_some, after_br', NL_len, dec_lt]
    unfold cmpL
    rw [e1, e2]
    by_cases h1 : a.length < b.length
    · simp [h1]
    · by_cases h2 : b.length < a.length
      · simp [h1, h2]
      · simp [h1, h2]
  · rfl

theorem cmpL_lt {a b : List Nat} (h : a.length = b.length) : cmpL a b < 0 ↔ lexLt a b = true := by
  unfold cmpL
  cases h1 : lexLt a b with
  | true => simp
  | false =>
    simp only [Bool.false_eq_true, if_false, iff_false]
    split
    · omega
    · rw [if_neg (by omega), if_neg (by omega)]; omega


theorem ix_ge (N : Nat) : ∀ (A : List Nat) (s : Nat), s * N ^ A.length ≤ ix N s A
  | [], s => by simp [ix]
  | x :: A, s => by
    have h1 := ix_ge N A (s * N + x)
    show _ ≤ ix N (s * N + x) A
    have : s * N * N ^ A.length ≤ (s * N + x) * N ^ A.length := Nat.mul_le_mul_right _ (by omega)
    rw [List.length_cons, Nat.pow_succ, Nat.mul_comm (N ^ A.length), ← Nat.mul_assoc]
    omega

theorem ix_mono {N : Nat} {a b : List Nat} (hl : a.length = b.length) (ha : ∀ x ∈ a, x < N) {s s' : Nat} (h : s < s') : ix N s a < ix N s' b := by
  have h1 := ix_lt a s ha
  have h2 := ix_ge N b s'
  have h3 : (s + 1) * N ^ a.length ≤ s' * N ^ a.length := Nat.mul_le_mul_right _ h
  rw [hl] at h3 h1
  omega

theorem lex_ix {N : Nat} : ∀ {a b : List Nat} (s : Nat), a.length = b.length → (∀ x ∈ a, x < N) → lexLt a b = true → ix N s a < ix N s b
  | [], [], _, _, _, h => by simp [lexLt] at h
  | [], _ :: _, _, h, _, _ => by simp at h
  | _ :: _, [], _, h, _, _ => by simp at h
  | x :: a, y :: b, s, hl, ha, h => by
    simp only [lexLt] at h
    show ix N (s * N + x) a < ix N (s * N + y) b
    by_cases e : x = y
    · subst e
      rw [if_pos rfl] at h
      exact lex_ix _ (by simpa using hl) (fun z hz => ha z (by simp [hz])) h
    · rw [if_neg e, decide_eq_true_eq] at h
      exact ix_mono (by simpa using hl) (fun z hz => ha z (by simp [hz])) (by omega)

theorem sorted_len {N k : Nat} {L : List (List Nat)} (hR : Rel k L) (hx : ∀ t ∈ L, ∀ x ∈ t, x < N) : L.length ≤ N ^ k := by
  have main : ∀ i, i < L.length → i ≤ ix N 0 (gl L i) := by
    intro i
    induction i with
    | zero => intro _; omega
    | succ i ih =>
      intro hi
      have h1 := ih (by omega)
      have h2 := hR.srt.get (show i < i + 1 by omega) hi
      have h3 := lex_ix (N := N) 0 ((hR.len _ (gl_mem (show i < L.length by omega))).trans (hR.len _ (gl_mem hi)).symm) (hx _ (gl_mem (show i < L.length by omega))) h2
      omega
  rcases Nat.eq_zero_or_pos L.length with h | h
  · omega
  · have h1 := main (L.length - 1) (by omega)
    have h2 := ix0_lt (hx _ (gl_mem (show L.length - 1 < L.length by omega))) (hR.len _ (gl_mem (show L.length - 1 < L.length by omega)))
    omega

theorem sorted_of_steps {L : List (List Nat)} (h : ∀ i, i + 1 < L.length → lexLt (gl L i) (gl L (i + 1)) = true) : Sorted L := by
  unfold Sorted
  rw [List.pairwise_iff_getElem]
  intro i j hi hj hij
  rw [← gl_get hi, ← gl_get hj]
  clear hi
  induction j with
  | zero => omega
  | succ j ih =>
    by_cases e : i = j
    · rw [e]; exact h j hj
    · exact lexLt_trans (ih (by omega) (by omega)) (h j hj)


/-- A relation of the arity k on N elements. -/
structure RelN (N k : Nat) (r : Int × List (List Int)) (L : List (List Nat)) : Prop where
  eq : r = ((k : Int), NLL L)
  k1 : 1 ≤ k
  k3 : k ≤ 3
  rel : Rel k L
  lt : ∀ t ∈ L, ∀ x ∈ t, x < N

def IsRel (N : Nat) (r : Int × List (List Int)) : Prop := ∃ k L, RelN N k r L

/-- The row i of a relation, as its test sees it. -/
def RowOk (N : Nat) (r : Int × List (List Int)) (i : Nat) : Prop := ∃ t : List Nat, r.2[i]? = some (NL t) ∧ ((t.length : Int) = r.1) ∧ (∀ x ∈ t, x < N) ∧ ∀ j, i = j + 1 → ∀ u : List Nat, r.2[j]? = some (NL u) → u.length = t.length → lexLt u t = true

theorem isRel_iff {N : Nat} {r : Int × List (List Int)} : IsRel N r ↔ (1 ≤ r.1 ∧ r.1 ≤ 3) ∧ ∀ i, i < r.2.length → RowOk N r i := by
  constructor
  · rintro ⟨k, L, rfl, k1, k3, hR, hx⟩
    refine ⟨⟨by simp; omega, by simp; omega⟩, fun i hi => ?_⟩
    simp only [NLL_len] at hi
    refine ⟨gl L i, by rw [gl_get hi]; simp [NLL, List.getElem?_eq_getElem hi], by rw [hR.len _ (gl_mem hi)], hx _ (gl_mem hi), fun j e u hu _ => ?_⟩
    subst e
    have hj : j < L.length := by omega
    have : u = gl L j := by
      rw [gl_get hj]
      simp only [NLL, List.getElem?_map, List.getElem?_eq_getElem hj, Option.map_some, Option.some.injEq] at hu
      exact (NL_inj hu).symm
    subst this
    exact hR.srt.get (by omega) hi
  · rintro ⟨⟨h1, h3⟩, h⟩
    let L := r.2.map fun t => t.map Int.toNat
    have hL : r.2 = NLL L := by
      apply List.ext_getElem?
      intro i
      by_cases hi : i < r.2.length
      · obtain ⟨t, ht, _⟩ := h i hi
        rw [ht]
        simp only [L, NLL, List.getElem?_map, ht, Option.map_some, NL_toNat]
      · rw [List.getElem?_eq_none (by omega), List.getElem?_eq_none (by simp [L]; omega)]
    have hll : L.length = r.2.length := by simp [L]
    have hg : ∀ i, i < L.length → ∃ t, gl L i = t ∧ r.2[i]? = some (NL t) := fun i hi => ⟨_, rfl, by rw [hL]; simp [NLL, List.getElem?_eq_getElem hi, gl_get hi]⟩
    have hrow : ∀ i, i < L.length → ((gl L i).length : Int) = r.1 ∧ (∀ x ∈ gl L i, x < N) := fun i hi => by
      obtain ⟨t, ht, e1, e2, _⟩ := h i (by omega)
      obtain ⟨u, rfl, hu⟩ := hg i hi
      rw [hu] at ht
      rw [NL_inj (Option.some.inj ht)]
      exact ⟨e1, e2⟩
    refine ⟨r.1.toNat, L, ⟨?_, by omega, by omega, ⟨?_, fun u hu => ?_⟩, fun t ht => ?_⟩⟩
    · obtain ⟨a, b⟩ := r
      simp only at hL h1
      rw [hL]; simp only [Prod.mk.injEq, and_true]; omega
    · refine sorted_of_steps fun i hi => ?_
      obtain ⟨t, ht, e1, e2, e3⟩ := h (i + 1) (by omega)
      obtain ⟨u, rfl, hu⟩ := hg (i + 1) hi
      obtain ⟨v, hv, hv'⟩ := hg i (by omega)
      rw [hu] at ht
      have : gl L (i + 1) = t := NL_inj (Option.some.inj ht)
      rw [this]
      have a := (hrow i (by omega)).1
      rw [hv] at a ⊢
      exact e3 i rfl v hv' (by omega)
    · obtain ⟨i, hi, rfl⟩ := List.mem_iff_getElem.1 hu
      have := (hrow i hi).1
      rw [gl_get hi] at this; omega
    · obtain ⟨i, hi, rfl⟩ := List.mem_iff_getElem.1 ht
      have := (hrow i hi).2
      rw [gl_get hi] at this; exact this

theorem allIn_NL {N : Nat} {t : List Int} : (t.all fun x => decide (0 ≤ x) && decide (x < (N : Int))) = true ↔ ∃ T : List Nat, t = NL T ∧ ∀ x ∈ T, x < N := by
  simp only [List.all_eq_true, Bool.and_eq_true, decide_eq_true_eq]
  constructor
  · intro h
    obtain ⟨T, rfl⟩ := NL_of fun x hx => (h x hx).1
    refine ⟨T, rfl, fun x hx => ?_⟩
    have := (h (x : Int) (List.mem_map.2 ⟨x, hx, rfl⟩)).2
    omega
  · rintro ⟨T, rfl, h⟩ x hx
    obtain ⟨y, hy, rfl⟩ := List.mem_map.1 hx
    have := h y hy
    omega

theorem isRelation_says {N : Nat} {n : Int} (hn : n = (N : Int)) (r : Int × List (List Int)) (hl : r.2.length ≤ 4294967296) : Says (s_impl_isRelation n r) (IsRel N r) := by
  subst hn
  unfold s_impl_isRelation
  by_cases hk : 1 ≤ r.1 ∧ r.1 ≤ 3
  · rw [show ((decide (r.1 < 1)) || (decide (3 < r.1))) = false by simp; omega, cond_false]
    rcases forC0_hoare (R := Bool) (step := fun k26 s24 =>
  (idx r.2 k26).bind fun x30 =>
  (bif ((x30.length : Int) != r.1) then some (.rt false) else (s_impl_inSize x30 (N : Int)).bind fun r36 =>
  (bif (!r36) then some (.rt false) else (bif (decide (0 < k26)) then (idx r.2 (w64 (k26 - 1))).bind fun x39 =>
  (s_impl_compareLists x39 x30).bind fun r44 =>
  (bif (decide (0 ≤ r44)) then some (.rt false) else some (.nx ())) else some (.nx ()))))) (fun j (_ : Unit) => ∀ i, i < j → RowOk N r i) (fun _ => False) (fun b => b = false ∧ ¬ ∀ i, i < r.2.length → RowOk N r i) (n := r.2.length) rfl (by omega) (s := ()) (fun i hi => by omega) (by
      rintro j ⟨⟩ hj hI
      rw [idx_nat, List.getElem?_eq_getElem hj, Option.bind_some]
      have bad : ¬ RowOk N r j → ∃ b : Bool, (some (Ctl.rt (S := Unit) false) = some (Ctl.rt b)) ∧ (b = false ∧ ¬ ∀ i, i < r.2.length → RowOk N r i) := fun h => ⟨false, rfl, rfl, fun H => h (H j hj)⟩
      have rowAt : ∀ t : List Nat, r.2[j]? = some (NL t) → r.2[j] = NL t := fun t ht => by rw [List.getElem?_eq_getElem hj] at ht; exact Option.some.inj ht
      by_cases h1 : ((r.2[j]).length : Int) = r.1
      · rw [show (((r.2[j]).length : Int) != r.1) = false by simp [h1], cond_false, inSize_eq, Option.bind_some]
        by_cases h2 : ((r.2[j]).all fun x => decide (0 ≤ x) && decide (x < (N : Int))) = true
        · obtain ⟨T, hT, hTx⟩ := allIn_NL.1 h2
          rw [h2]
          simp only [Bool.not_true, cond_false]
          have hrj : r.2[j]? = some (NL T) := by rw [List.getElem?_eq_getElem hj, hT]
          have hTl : (T.length : Int) = r.1 := by rw [hT, NL_len] at h1; exact h1
          cases j with
          | zero =>
            left
            refine ⟨(), rfl, fun i hi => ?_⟩
            obtain rfl : i = 0 := by omega
            exact ⟨T, hrj, hTl, hTx, fun j e => by omega⟩
          | succ j =>
            obtain ⟨u, hu, hul, hux, _⟩ := hI j (by omega)
            rw [show decide ((0 : Int) < ((j + 1 : Nat) : Int)) = true by simp, cond_true, show w64 (((j + 1 : Nat) : Int) - 1) = (j : Int) by rw [w64_id (by omega) (by omega)]; omega, idx_nat, hu, Option.bind_some, hT, compareLists_eq (by omega), Option.bind_some]
            have hsame : u.length = T.length := by omega
            have hc := cmpL_lt (a := u) (b := T) hsame
            cases hlt : lexLt u T with
            | true =>
              left
              rw [hlt] at hc
              have := hc.2 rfl
              rw [show decide (0 ≤ cmpL u T) = false by simp; omega]
              refine ⟨(), rfl, fun i hi => ?_⟩
              by_cases e : i = j + 1
              · subst e
                refine ⟨T, hrj, hTl, hTx, fun j' e' u' hu' _ => ?_⟩
                obtain rfl : j' = j := by omega
                rw [hu] at hu'
                rw [← NL_inj (Option.some.inj hu')]; exact hlt
              · exact hI i (by omega)
            | false =>
              right; right
              rw [hlt] at hc
              have : 0 ≤ cmpL u T := by
                rcases Int.lt_or_le (cmpL u T) 0 with h | h
                · have := hc.1 h; cases this
                · exact h
              rw [show decide (0 ≤ cmpL u T) = true by simpa using this, cond_true]
              refine bad ?_
              rintro ⟨t, ht, _, _, h4⟩
              rw [hrj] at ht
              obtain rfl := NL_inj (Option.some.inj ht)
              have := h4 j rfl u hu hsame
              rw [hlt] at this; cases this
        · right; right
          rw [Bool.not_eq_true] at h2
          rw [h2]
          refine bad ?_
          rintro ⟨t, ht, _, h3, _⟩
          rw [rowAt t ht] at h2
          have := (allIn_NL (t := NL t)).2 ⟨t, rfl, h3⟩
          rw [h2] at this; cases this
      · right; right
        rw [show (((r.2[j]).length : Int) != r.1) = true by simp [h1], cond_true]
        refine bad ?_
        rintro ⟨t, ht, h3, _⟩
        rw [rowAt t ht, NL_len] at h1
        exact h1 h3) with ⟨s', e, h | h⟩ | ⟨b, e, rfl, h⟩
    · exact .yes (by rw [e]; rfl) (isRel_iff.2 ⟨hk, h⟩)
    · exact h.elim
    · exact .no (by rw [e]; rfl) (fun H => h (isRel_iff.1 H).2)
  · rw [show ((decide (r.1 < 1)) || (decide (3 < r.1))) = true by simp; omega]
    exact .no rfl (fun H => hk (isRel_iff.1 H).1)


theorem l2Elements_eq {n : Int} (hn : -9223372036854775807 ≤ n) (hn' : n ≤ 9223372036854775807) (l : List Int) (hl : l.length ≤ 9223372036854775807) : s_spec_l2Elements n l = some (l.all fun x => decide (0 ≤ x) && decide (x < n)) := by
  unfold s_spec_l2Elements
  rw [w64_id (by omega) (by omega), forC0_chk (n := l.length) (fun j => decide (0 ≤ l[j]?.getD 0) && decide (l[j]?.getD 0 < n)) false rfl hl]
  · rw [all_range l (fun x => decide (0 ≤ x) && decide (x < n)) 0]
    cases l.all fun x => decide (0 ≤ x) && decide (x < n) <;> rfl
  · intro j hj
    simp only [idx_nat, List.getElem?_eq_getElem hj, Option.bind_some, Option.getD_some, l1In_eq]
    have : decide (l[j] ≤ n - 1) = decide (l[j] < n) := by rw [decide_eq_decide]; omega
    rw [this]
    cases decide (0 ≤ l[j]) && decide (l[j] < n) <;> rfl

theorem l13Good_says {N : Nat} {n : Int} (hn : n = (N : Int)) (h1 : 1 ≤ N) (h8 : N ≤ 8) (r : Int × List (List Int)) (hl : r.2.length ≤ 4294967296) (hr : ∀ t ∈ r.2, t.length ≤ 4294967296) : Says (s_spec_l13Good n r) (IsRel N r) := by
  subst hn
  unfold s_spec_l13Good
  rw [l1In_eq, Option.bind_some]
  by_cases hk : 1 ≤ r.1 ∧ r.1 ≤ 3
  · obtain ⟨K, hK⟩ : ∃ K : Nat, r.1 = (K : Int) := ⟨r.1.toNat, by omega⟩
    have h512 := pow_le_512 h8 (show K ≤ 3 by omega)
    rw [show (decide (1 ≤ r.1) && decide (r.1 ≤ 3)) = true by simp [hk], Bool.not_true, cond_false, l2Pow_eq (N := N) (K := K) rfl hK h1 (by omega) (by omega), Option.bind_some, Option.bind_some, dec_lt]
    by_cases hlen : r.2.length ≤ N ^ K
    · rw [show decide (N ^ K < r.2.length) = false by simpa using hlen, cond_false]
      rcases forC0_hoare (R := Bool) (step := fun k82 s80 =>
  (idx r.2 k82).bind fun x87 =>
  (s_spec_l8Tuple (N : Int) r.1 x87).bind fun r92 =>
  (bif (!r92) then some (.rt false) else (bif (decide (0 < k82)) then (idx r.2 (w64 (k82 - 1))).bind fun x95 =>
  (idx r.2 k82).bind fun x99 =>
  (s_spec_l3Less x95 x99).bind fun r104 =>
  (bif (!r104) then some (.rt false) else some (.nx ())) else some (.nx ())))) (fun j (_ : Unit) => ∀ i, i < j → RowOk N r i) (fun _ => False) (fun b => b = false ∧ ¬ ∀ i, i < r.2.length → RowOk N r i) (n := r.2.length) rfl (by omega) (s := ()) (fun i hi => by omega) (by
      rintro j ⟨⟩ hj hI
      rw [idx_nat, List.getElem?_eq_getElem hj, Option.bind_some]
      have bad : ¬ RowOk N r j → ∃ b : Bool, (some (Ctl.rt (S := Unit) false) = some (Ctl.rt b)) ∧ (b = false ∧ ¬ ∀ i, i < r.2.length → RowOk N r i) := fun h => ⟨false, rfl, rfl, fun H => h (H j hj)⟩
      have rowAt : ∀ t : List Nat, r.2[j]? = some (NL t) → r.2[j] = NL t := fun t ht => by rw [List.getElem?_eq_getElem hj] at ht; exact Option.some.inj ht
      have e : s_spec_l8Tuple (N : Int) r.1 r.2[j] = some (((r.2[j].length : Int) == r.1) && (r.2[j].all fun x => decide (0 ≤ x) && decide (x < (N : Int)))) := by
        unfold s_spec_l8Tuple
        rw [l2Elements_eq (by omega) (by omega) _ (by have := hr _ (List.getElem_mem hj); omega)]
        cases (r.2[j].length : Int) == r.1 <;> rfl
      rw [e, Option.bind_some]
      by_cases h1 : ((r.2[j]).length : Int) = r.1
      · rw [show (((r.2[j]).length : Int) == r.1) = true by simp [h1], Bool.true_and]
        by_cases h2 : ((r.2[j]).all fun x => decide (0 ≤ x) && decide (x < (N : Int))) = true
        · obtain ⟨T, hT, hTx⟩ := allIn_NL.1 h2
          rw [h2]
          simp only [Bool.not_true, cond_false]
          have hrj : r.2[j]? = some (NL T) := by rw [List.getElem?_eq_getElem hj, hT]
          have hTl : (T.length : Int) = r.1 := by rw [hT, NL_len] at h1; exact h1
          cases j with
          | zero =>
            left
            refine ⟨(), rfl, fun i hi => ?_⟩
            obtain rfl : i = 0 := by omega
            exact ⟨T, hrj, hTl, hTx, fun j e => by omega⟩
          | succ j =>
            obtain ⟨u, hu, hul, hux, _⟩ := hI j (by omega)
            rw [show decide ((0 : Int) < ((j + 1 : Nat) : Int)) = true by simp, cond_true, show w64 (((j + 1 : Nat) : Int) - 1) = (j : Int) by rw [w64_id (by omega) (by omega)]; omega, idx_nat, hu, Option.bind_some, hT, Option.bind_some, l3Less_eq (by omega) (by omega), Option.bind_some]
            have hsame : u.length = T.length := by omega
            cases hlt : lexLt u T with
            | true =>
              left
              refine ⟨(), rfl, fun i hi => ?_⟩
              by_cases e : i = j + 1
              · subst e
                refine ⟨T, hrj, hTl, hTx, fun j' e' u' hu' _ => ?_⟩
                obtain rfl : j' = j := by omega
                rw [hu] at hu'
                rw [← NL_inj (Option.some.inj hu')]; exact hlt
              · exact hI i (by omega)
            | false =>
              right; right
              refine bad ?_
              rintro ⟨t, ht, _, _, h4⟩
              rw [hrj] at ht
              obtain rfl := NL_inj (Option.some.inj ht)
              have := h4 j rfl u hu hsame
              rw [hlt] at this; cases this
        · right; right
          rw [Bool.not_eq_true] at h2
          rw [h2]
          refine bad ?_
          rintro ⟨t, ht, _, h3, _⟩
          rw [rowAt t ht] at h2
          have := (allIn_NL (t := NL t)).2 ⟨t, rfl, h3⟩
          rw [h2] at this; cases this
      · right; right
        rw [show (((r.2[j]).length : Int) == r.1) = false by simp [h1]]
        refine bad ?_
        rintro ⟨t, ht, h3, _⟩
        rw [rowAt t ht, NL_len] at h1
        exact h1 h3) with ⟨s', e, h | h⟩ | ⟨b, e, rfl, h⟩
      · exact .yes (by rw [e]; rfl) (isRel_iff.2 ⟨hk, h⟩)
      · exact h.elim
      · exact .no (by rw [e]; rfl) (fun H => h (isRel_iff.1 H).2)
    · rw [show decide (N ^ K < r.2.length) = true by simp; omega]
      refine .no rfl ?_
      rintro ⟨k, L, rfl, _, _, hR, hx⟩
      have := sorted_len hR hx
      simp only [NLL_len] at hlen
      obtain rfl : k = K := by simp at hK; omega
      omega
  · rw [show (decide (1 ≤ r.1) && decide (r.1 ≤ 3)) = false by rw [Bool.eq_false_iff]; simp; omega]
    exact .no rfl (fun H => hk (isRel_iff.1 H).1)



theorem clone_eq {l : List Int} (h : l.length ≤ 4294967296) : s_impl_clone l = some l := by
  unfold s_impl_clone; rw [app_ok (by simpa using h)]; rfl

theorem l1Own_eq {l : List Int} (h : l.length ≤ 4294967296) : s_spec_l1Own l = some l := by
  unfold s_spec_l1Own; rw [app_ok (by simpa using h)]; rfl

theorem flat_self {α : Type} (l : List α) : (l.flatMap fun x => [x]) = l := by
  induction l with
  | nil => rfl
  | cons x l ih => rw [List.flatMap_cons, ih]; rfl

theorem cloneRows_eq {L : List (List Int)} (h : B2 L) : s_impl_cloneRows L = some L := by
  have hl := h.1
  unfold s_impl_cloneRows
  rw [forR_flat (fun x => [x]) 0 L []]
  · rw [Option.bind_some, after_br', List.nil_append, flat_self]
  · intro i pre post x e
    have hx : x.length ≤ 1048576 := h.2 x (by rw [e]; simp)
    have hp : pre.length + 1 ≤ L.length := by rw [e]; simp
    rw [clone_eq (by omega), Option.bind_some, flat_self, List.nil_append, app_ok (by simp; omega)]; rfl

theorem l19Copy_eq {L : List Con} (hl : L.length ≤ 1048576) (h : ∀ c ∈ L, BC c) : s_spec_l19Copy L = some L := by
  unfold s_spec_l19Copy
  rw [forC0_flat (fun j => (L[j]?).toList) [] rfl (by omega)]
  · rw [Option.bind_some, after_br', List.nil_append]
    congr 1
    have : ∀ n, n ≤ L.length → (List.range n).flatMap (fun j => (L[j]?).toList) = L.take n := by
      intro n
      induction n with
      | zero => intro _; rfl
      | succ n ih => intro hn; rw [List.range_succ, List.flatMap_append, ih (by omega), List.take_succ_eq_append_getElem (by omega)]; simp [List.getElem?_eq_getElem (show n < L.length by omega)]
    rw [this _ (Nat.le_refl _), List.take_length]
  · intro j hj
    have hx := h _ (List.getElem_mem hj)
    have h1 : (L[j]).1.length ≤ 1048576 := hx.1
    have h2 : (L[j]).2.2.length ≤ 1048576 := hx.2.1
    simp only [idx_nat, List.getElem?_eq_getElem hj, Option.bind_some]
    rw [l1Own_eq (by omega), Option.bind_some]
    rw [iter_br (s := ((0 : Int), ([] : List (List Int)))) (fun i => ((i : Int), (L[j]).2.2.take i)) (t := (((L[j]).2.2.length : Int), (L[j]).2.2)) (L[j]).2.2.length (by omega) (by rfl)]
    · rw [Option.bind_some, after_br', app_ok]
      · simp
      · have : ((List.range j).flatMap fun j => (L[j]?).toList).length ≤ j := by
          rw [List.length_flatMap]
          have : ∀ l : List Nat, (l.map fun a => ((L[a]?).toList).length).sum ≤ l.length := by
            intro l
            induction l with
            | nil => simp
            | cons b l ih =>
              simp only [List.map_cons, List.sum_cons, List.length_cons]
              have : ((L[b]?).toList).length ≤ 1 := by cases L[b]? <;> simp
              omega
          simpa using this (List.range j)
        simp only [List.nil_append, List.length_cons, List.length_nil]
        omega
    · intro i hi
      have hr : ((L[j]).2.2[i]).length ≤ 1048576 := hx.2.2 _ (List.getElem_mem hi)
      simp only [dec_lt, show decide (i < (L[j]).2.2.length) = true by simpa using hi, cond_true, idx_nat, List.getElem?_eq_getElem hi, Option.bind_some]
      rw [l1Own_eq (by omega), Option.bind_some, app_ok (by simp; omega), Option.bind_some, w64_add1 (by omega), List.take_succ_eq_append_getElem hi]
    · simp

def finB (N : Nat) (P Q : List Nat) : Bool := (List.range N).all fun x => ga Q (ga P x) == ga Q x

def hk1 (N : Nat) (S : List (List Nat)) (L : List Nat) (k i : Nat) : Nat := (List.range i).foldl (fun m i => if finB N (gl S i) (gl S k) then max m (ga L i + 1) else m) 0

set_option linter.unusedVariables false
def bt (H : List Bool) (c : Nat) : Bool := H.getD c false

def mk (H : List Bool) : List Nat := (List.range H.length).filter (bt H)

theorem power0 {K : Nat} (hK : K ≤ 3) : s_impl_power ((0 : Nat) : Int) (K : Int) = some ((0 ^ K : Nat) : Int) := by
  unfold s_impl_power
  rw [iter_br (R := Int) (F := fun j => (((K - j : Nat) : Int), ((0 ^ j : Nat) : Int))) (s := ((K : Int), (1 : Int))) (t := ((0 : Int), ((0 ^ K : Nat) : Int))) K (by omega) (by simp) (fun j hj => by
    rw [show decide ((0 : Int) < ((K - j : Nat) : Int)) = true by simp; omega, cond_true]
    rw [show ((K - j : Nat) : Int) - 1 = ((K - (j + 1) : Nat) : Int) by omega, w64_nat (by omega), w64_mul (by simp), Nat.pow_succ]) (by
    rw [Nat.sub_self]; rfl)]
  rfl

theorem powerA {L K : Nat} (hK : K ≤ 3) (hL : L ≤ 1000) : s_impl_power (L : Int) (K : Int) = some ((L ^ K : Nat) : Int) := by
  rcases Nat.eq_zero_or_pos L with e | e
  · subst e; exact power0 hK
  · refine power_eq rfl rfl e ?_ (by omega)
    have h1 : L ^ K ≤ 1000 ^ K := Nat.pow_le_pow_left hL K
    have h2 : (1000 : Nat) ^ K ≤ 1000 ^ 3 := Nat.pow_le_pow_right (by omega) hK
    omega

theorem forR_step {α S R : Type} {step : Int → α → S → Option (Ctl S R)} {i : Int} {x : α} {l : List α} {s s' : S} (h : step i x s = some (.nx s')) : forR step i (x :: l) s = forR step (i + 1) l s' := by
  conv => lhs; unfold forR
  rw [h]

set_option linter.unusedVariables false
abbrev RelI := Int × List (List Int)

def BRS (l : List RelI) : Prop := l.length ≤ 1048576 ∧ ∀ x ∈ l, BR x

theorem eqRelationS_refl (a : List RelI) (ha : BRS a) : s_laws_eqRelationS a a = some true := by
  unfold s_laws_eqRelationS
  exact eqS_refl s_laws_eqRelation a (by have := ha.1; omega) (fun x hx => eqRelation_refl x (ha.2 x hx))

def mkR1 (x : RelI) (k : Int) : Option (Int × RelI) := (s_laws_markIntSS x.2 (k + 1)).bind fun r => some (r.1, (k, r.2))

def hdR1 (x : RelI) (k : Int) : Option Int := if x.1 = k then (s_laws_heldIntSS x.2 (k + 1)).bind fun q => if q < 0 then none else some q else none

theorem mkR1_ok (x : RelI) (hx : BR x) : MkOk mkR1 hdR1 1099511627777 x := by
  intro k h0 h1
  obtain ⟨k', t, g1, g2, g3, g4⟩ := markIntSS_ok x.2 hx (k + 1) (by omega) (by omega)
  refine ⟨k', (k, t), by unfold mkR1; rw [g1]; rfl, ?_, by omega, by omega⟩
  unfold hdR1
  rw [if_pos rfl, g2, Option.bind_some, if_neg (by omega)]

set_option linter.unusedVariables false
def foldO {S α : Type} (go : S → α → Option S) : S → List α → Option S
  | s, [] => some s
  | s, x :: l => match go s x with | some s' => foldO go s' l | none => none

theorem foldO_inv {S α : Type} {go : S → α → Option S} (I : S → Prop) : ∀ (l : List α) (s s' : S), I s → (∀ s x s', x ∈ l → I s → go s x = some s' → I s') → foldO go s l = some s' → I s'
  | [], s, s', h, _, e => by cases e; exact h
  | x :: l, s, s', h, hg, e => by
    unfold foldO at e
    cases hx : go s x with
    | none => rw [hx] at e; cases e
    | some t =>
      rw [hx] at e
      exact foldO_inv I l t s' (hg s x t (by simp) h hx) (fun s y s' hy => hg s y s' (by simp [hy])) e

theorem foldO_map {S α β : Type} (go : S → β → Option S) (f : α → β) : ∀ (l : List α) (s : S), foldO go s (l.map f) = foldO (fun s x => go s (f x)) s l
  | [], s => rfl
  | x :: l, s => by
    rw [List.map_cons]; unfold foldO
    cases go s (f x) with
    | none => rfl
    | some t => exact foldO_map go f l t

def outI {S R : Type} (P : Nat) (bad : R) : Option S → Ctl (Int × S) R
  | some s' => .br ((P : Int), s')
  | none => .rt bad

theorem iter_foldO {S R : Type} {step : Int × S → Option (Ctl (Int × S) R)} (go : S → Nat → Option S) (bad : R) (I : S → Prop) {P : Nat} (hI : ∀ s i s', i < P → I s → go s i = some s' → I s')
    (hst : ∀ (i : Nat) s, i < P → I s → step ((i : Int), s) = some (match go s i with | some s' => .nx (((i + 1 : Nat) : Int), s') | none => .rt bad)) (hbr : ∀ s, I s → step ((P : Int), s) = some (.br ((P : Int), s))) :
    ∀ (m i fu : Nat) (s : S), i + m = P → m < fu → I s → iter step fu ((i : Int), s) = some (outI P bad (foldO go s (List.range' i m)))
  | 0, i, fu, s, e, hf, h => by
    obtain ⟨fu, rfl⟩ : ∃ k, fu = k + 1 := ⟨fu - 1, by omega⟩
    obtain rfl : i = P := by omega
    rw [iter_out (hbr s h) (by intro s; simp)]; rfl
  | m + 1, i, fu, s, e, hf, h => by
    obtain ⟨fu, rfl⟩ : ∃ k, fu = k + 1 := ⟨fu - 1, by omega⟩
    have h0 := hst i s (by omega) h
    rw [List.range'_succ]
    unfold foldO
    cases hg : go s i with
    | some s' =>
      rw [hg] at h0
      rw [iter_nx h0]
      exact iter_foldO go bad I hI hst hbr m (i + 1) fu s' (by omega) (by omega) (hI s i s' (by omega) h hg)
    | none =>
      rw [hg] at h0
      rw [iter_out h0 (by intro s; simp)]; rfl

theorem forR_foldO {S R α : Type} {step : Int → α → S → Option (Ctl S R)} (go : S → α → Option S) (bad : R) (I : S → Prop) : ∀ (l : List α) (i : Int) (s : S), I s → (∀ s x s', x ∈ l → I s → go s x = some s' → I s') →
    (∀ i x s, x ∈ l → I s → step i x s = some (match go s x with | some s' => .nx s' | none => .rt bad)) → forR step i l s = some (match foldO go s l with | some s' => .br s' | none => .rt bad)
  | [], i, s, _, _, _ => rfl
  | x :: l, i, s, h, hI, hst => by
    have h0 := hst i x s (by simp) h
    unfold foldO
    cases hg : go s x with
    | some s' =>
      rw [hg] at h0
      rw [forR_step h0]
      exact forR_foldO go bad I l (i + 1) s' (hI s x s' (by simp) h hg) (fun s y s' hy => hI s y s' (by simp [hy])) (fun i y s hy => hst i y s (by simp [hy]))
    | none =>
      rw [hg] at h0
      unfold forR; rw [h0]

theorem forI_foldO {S R : Type} {step : Int → S → Option (Ctl S R)} (go : S → Nat → Option S) (bad : R) (I : S → Prop) : ∀ (n j : Nat) (s : S), I s → (∀ s x s', x < j + n → I s → go s x = some s' → I s') →
    (∀ (x : Nat) s, x < j + n → I s → step (x : Int) s = some (match go s x with | some s' => .nx s' | none => .rt bad)) → forI step n (j : Int) s = some (match foldO go s (List.range' j n) with | some s' => .br s' | none => .rt bad)
  | 0, j, s, _, _, _ => rfl
  | n + 1, j, s, h, hI, hst => by
    have h0 := hst j s (by omega) h
    rw [List.range'_succ]
    unfold foldO forI
    cases hg : go s j with
    | some s' =>
      rw [hg] at h0
      rw [h0]
      have := forI_foldO go bad I n (j + 1) s' (hI s j s' (by omega) h hg) (fun s x s' hx => hI s x s' (by omega)) (fun x s hx => hst x s (by omega))
      simpa using this
    | none =>
      rw [hg] at h0
      rw [h0]

theorem forC0_foldO {S R : Type} {step : Int → S → Option (Ctl S R)} (go : S → Nat → Option S) (bad : R) (I : S → Prop) {n : Nat} {hi : Int} {s : S} (hn : hi = (n : Int)) (h1 : n ≤ 9223372036854775807) (h : I s) (hI : ∀ s x s', x < n → I s → go s x = some s' → I s')
    (hst : ∀ (x : Nat) s, x < n → I s → step (x : Int) s = some (match go s x with | some s' => .nx s' | none => .rt bad)) : forC step 0 hi s = some (match foldO go s (List.range n) with | some s' => .br s' | none => .rt bad) := by
  subst hn
  have := forI_foldO (step := step) go bad I n 0 s h (fun s x s' hx => hI s x s' (by omega)) (fun x s hx => hst x s (by omega))
  unfold forC
  simp only [show decide (-9223372036854775808 ≤ (0 : Int)) = true by decide, show decide ((n : Int) ≤ 9223372036854775807) = true by simp; omega, Bool.and_true, cond_true, Int.sub_zero, Int.toNat_natCast]
  rw [List.range_eq_range']
  simpa using this

theorem rel_beq (r s : RelI) : (r == s) = (decide (r.1 = s.1) && (r.2 == s.2)) := by
  obtain ⟨a, b⟩ := r; obtain ⟨c, d⟩ := s
  show (a == c && b == d) = _
  rfl

theorem rows_all {L M : List (List Int)} (h : L.length = M.length) : ((List.range L.length).all fun i => (L.getD i [] == M.getD i [])) = (L == M) := by
  rw [Bool.eq_iff_iff]
  simp only [List.all_eq_true, List.mem_range, beq_iff_eq]
  constructor
  · intro H
    apply List.ext_getElem h
    intro i h1 h2
    have := H i h1
    simpa [List.getD_eq_getElem?_getD, List.getElem?_eq_getElem h1, List.getElem?_eq_getElem h2] using this
  · intro e i _; rw [e]

theorem idx_getD {L : List (List Int)} {i : Nat} (h : i < L.length) : idx L (i : Int) = some (L.getD i []) := by
  rw [idx_nat, List.getElem?_eq_getElem h]; simp [List.getD_eq_getElem?_getD, List.getElem?_eq_getElem h]

theorem sameRel_head (r s : RelI) : ((r.1 != s.1) || ((r.2.length : Int) != (s.2.length : Int))) = !(decide (r.1 = s.1) && decide (r.2.length = s.2.length)) := by
  by_cases h1 : r.1 = s.1 <;> by_cases h2 : r.2.length = s.2.length <;> simp [h1, h2] <;> omega

theorem l19SameRel_eq (r s : RelI) (hr : BR r) : s_spec_l19SameRel r s = some (r == s) := by
  unfold s_spec_l19SameRel
  rw [sameRel_head, rel_beq]
  by_cases h1 : r.1 = s.1
  · by_cases h2 : r.2.length = s.2.length
    · rw [show decide (r.1 = s.1) = true by simpa using h1, show decide (r.2.length = s.2.length) = true by simpa using h2, Bool.and_self, Bool.not_true, cond_false, Bool.true_and, ← rows_all h2]
      rw [forC0_chk (fun i => r.2.getD i [] == s.2.getD i []) false (s := ()) (n := r.2.length) rfl (by have := hr.1; omega) (fun j hj => by
        have hb : (r.2.getD j []).length ≤ 4294967296 := by
          have : r.2.getD j [] ∈ r.2 := by simp [List.getD_eq_getElem?_getD, List.getElem?_eq_getElem hj]
          have := hr.2 _ this
          unfold B1 at this; omega
        rw [idx_getD hj, Option.bind_some, idx_getD (by omega), Option.bind_some, l1Same_eq _ _ hb, Option.bind_some]
        cases (r.2.getD j [] == s.2.getD j []) <;> rfl)]
      cases (List.range r.2.length).all fun i => r.2.getD i [] == s.2.getD i [] <;> rfl
    · rw [show decide (r.2.length = s.2.length) = false by simpa using h2, Bool.and_false, Bool.not_false, cond_true, show (r.2 == s.2) = false by simpa using fun e => h2 (by rw [e]), Bool.and_false]
  · rw [show decide (r.1 = s.1) = false by simpa using h1, Bool.false_and, Bool.not_false, cond_true, Bool.false_and]

theorem sameRelation_eq (r s : RelI) (hr : BR r) : s_impl_sameRelation r s = some (r == s) := by
  unfold s_impl_sameRelation
  rw [sameRel_head, rel_beq]
  by_cases h1 : r.1 = s.1
  · by_cases h2 : r.2.length = s.2.length
    · rw [show decide (r.1 = s.1) = true by simpa using h1, show decide (r.2.length = s.2.length) = true by simpa using h2, Bool.and_self, Bool.not_true, cond_false, Bool.true_and, ← rows_all h2]
      rw [forC0_chk (fun i => r.2.getD i [] == s.2.getD i []) false (s := ()) (n := r.2.length) rfl (by have := hr.1; omega) (fun j hj => by
        have hb : (r.2.getD j []).length ≤ 4294967296 := by
          have : r.2.getD j [] ∈ r.2 := by simp [List.getD_eq_getElem?_getD, List.getElem?_eq_getElem hj]
          have := hr.2 _ this
          unfold B1 at this; omega
        rw [idx_getD hj, Option.bind_some, idx_getD (by omega), Option.bind_some, sameList_eq _ _ hb, Option.bind_some]
        cases (r.2.getD j [] == s.2.getD j []) <;> rfl)]
      cases (List.range r.2.length).all fun i => r.2.getD i [] == s.2.getD i [] <;> rfl
    · rw [show decide (r.2.length = s.2.length) = false by simpa using h2, Bool.and_false, Bool.not_false, cond_true, show (r.2 == s.2) = false by simpa using fun e => h2 (by rw [e]), Bool.and_false]
  · rw [show decide (r.1 = s.1) = false by simpa using h1, Bool.false_and, Bool.not_false, cond_true, Bool.false_and]

set_option linter.unusedVariables false
/-- A template of which polymorphisms of the arity K can be asked for, few enough. -/
structure Tmp (n : Int) (rels : List RelI) (k : Int) (N K : Nat) : Prop where
  eN : n = (N : Int)
  eK : k = (K : Int)
  n1 : 1 ≤ N
  n4 : N ≤ 4
  k1 : 1 ≤ K
  k3 : K ≤ 3
  l4 : rels.length ≤ 4
  rel : ∀ r ∈ rels, IsRel N r
  pw : N ^ K ≤ 9
  tw : K = 3 → ∀ r ∈ rels, r.2.length ≤ 12

theorem powS_eq (n k : Int) : s_spec_l2Pow n k = s_impl_power n k := rfl

theorem few12_spec (rels : List RelI) (k : Int) (hl : rels.length ≤ 1000) : (forC (S := Unit) (R := Bool) (fun k23 s21 =>
  (bif (k == 3) then (idx rels k23).bind fun x28 =>
  (bif (decide (12 < (x28.2.length : Int))) then some (.rt false) else some (.nx ())) else some (.nx ()))) 0 (rels.length : Int) ()) = some (bif rels.all (fun r => !(k == 3 && decide (12 < r.2.length))) then .br () else .rt false) := by
  have e : rels.all (fun r => !(k == 3 && decide (12 < r.2.length))) = (List.range rels.length).all fun j => !(k == 3 && decide (12 < (rels.getD j (0, [])).2.length)) := by
    have : rels = (List.range rels.length).map fun j => rels.getD j (0, []) := by
      apply List.ext_getElem
      · simp
      · intro i h1 h2; simp [List.getD_eq_getElem?_getD, List.getElem?_eq_getElem h1]
    conv => lhs; rw [this, List.all_map]
    rfl
  rw [e, forC0_chk (fun j => !(k == 3 && decide (12 < (rels.getD j (0, [])).2.length))) false (s := ()) (n := rels.length) rfl (by omega) (fun j hj => by
    cases hk : (k == 3) with
    | false => rfl
    | true =>
      rw [cond_true, idx_nat, List.getElem?_eq_getElem hj, Option.bind_some]
      have : rels.getD j (0, []) = rels[j] := by simp [List.getD_eq_getElem?_getD, List.getElem?_eq_getElem hj]
      rw [this, show decide ((12 : Int) < ((rels[j]).2.length : Int)) = decide (12 < (rels[j]).2.length) from dec_lt 12 _]
      cases decide (12 < (rels[j]).2.length) <;> rfl)]

theorem few12_impl (rels : List RelI) (k : Int) : (forR (S := Unit) (R := Bool) (fun _ x21 s18 =>
  (bif (k == 3) then (bif (decide (12 < (x21.2.length : Int))) then some (.rt false) else some (.nx ())) else some (.nx ()))) 0 rels ()) = some (bif rels.all (fun r => !(k == 3 && decide (12 < r.2.length))) then .br () else .rt false) := by
  rw [forR_chk (fun r => !(k == 3 && decide (12 < r.2.length))) false () 0 rels (fun i r _ => by
    rw [show decide ((12 : Int) < (r.2.length : Int)) = decide (12 < r.2.length) from dec_lt 12 _]
    cases (k == 3) <;> cases decide (12 < r.2.length) <;> rfl)]

theorem rels_spec {n : Int} {N : Nat} (hn : n = (N : Int)) (h1 : 1 ≤ N) (h8 : N ≤ 8) (rels : List RelI) (hb : BRS rels) : Says (s_spec_l14Rels n rels) (rels.length ≤ 4 ∧ ∀ r ∈ rels, IsRel N r) := by
  unfold s_spec_l14Rels
  by_cases h4 : rels.length ≤ 4
  · rw [show decide ((4 : Int) < (rels.length : Int)) = false by simp; omega, cond_false]
    have hg : ∀ r ∈ rels, Says (s_spec_l13Good n r) (IsRel N r) := fun r hr => by
      have := hb.2 r hr
      exact l13Good_says hn h1 h8 r (by have := this.1; omega) (fun t ht => by have := this.2 t ht; unfold B1 at this; omega)
    rcases forC0_hoare (S := Unit) (R := Bool) (step := fun k12 s10 =>
  (idx rels k12).bind fun x16 =>
  (s_spec_l13Good n (x16.1, x16.2)).bind fun r21 =>
  (bif (!r21) then some (.rt false) else some (.nx ()))) (n := rels.length) (hi := (rels.length : Int)) (s := ()) (fun j _ => ∀ i (h : i < rels.length), i < j → IsRel N rels[i]) (fun _ => False) (fun r => r = false ∧ ¬ ∀ r ∈ rels, IsRel N r) rfl (by omega) (fun i _ h => by omega) (fun j s hj hI => by
      rw [idx_nat, List.getElem?_eq_getElem hj, Option.bind_some]
      rcases (hg _ (List.getElem_mem hj)).cases with ⟨e, h⟩ | ⟨e, h⟩
      · have e : s_spec_l13Good n ((rels[j]).1, (rels[j]).2) = some true := e
        rw [e]
        exact .inl ⟨(), rfl, fun i hi hij => by
          by_cases e : i = j
          · subst e; exact h
          · exact hI i hi (by omega)⟩
      · have e : s_spec_l13Good n ((rels[j]).1, (rels[j]).2) = some false := e
        rw [e]
        exact .inr (.inr ⟨false, rfl, rfl, fun H => h (H _ (List.getElem_mem hj))⟩)) with ⟨s', e, h | h⟩ | ⟨r, e, rfl, h⟩
    · rw [e]
      exact ⟨true, rfl, ⟨fun _ => ⟨h4, fun r hr => by obtain ⟨i, hi, rfl⟩ := List.mem_iff_getElem.1 hr; exact h i hi hi⟩, fun _ => rfl⟩⟩
    · exact h.elim
    · rw [e]
      exact ⟨false, rfl, ⟨fun h => (by cases h), fun H => absurd H.2 h⟩⟩
  · rw [show decide ((4 : Int) < (rels.length : Int)) = true by simp; omega, cond_true]
    exact ⟨false, rfl, ⟨fun h => (by cases h), fun H => absurd H.1 h4⟩⟩

theorem rels_impl {n : Int} {N : Nat} (hn : n = (N : Int)) (rels : List RelI) (hb : BRS rels) : Says (s_impl_isTemplate n rels) (rels.length ≤ 4 ∧ ∀ r ∈ rels, IsRel N r) := by
  unfold s_impl_isTemplate
  by_cases h4 : rels.length ≤ 4
  · rw [show decide ((4 : Int) < (rels.length : Int)) = false by simp; omega, cond_false]
    have hg : ∀ r ∈ rels, Says (s_impl_isRelation n r) (IsRel N r) := fun r hr => by
      have := hb.2 r hr
      exact isRelation_says hn r (by have := this.1; omega)
    rcases forR_hoare (S := Unit) (R := Bool) (step := fun _ x14 s11 =>
  (s_impl_isRelation n (x14.1, x14.2)).bind fun r23 =>
  (bif (!r23) then some (.rt false) else some (.nx ()))) (fun pre _ => ∀ r ∈ pre, IsRel N r) (fun _ => False) (fun r => r = false ∧ ¬ ∀ r ∈ rels, IsRel N r) rels [] 0 () (List.forall_mem_nil _) (fun i pre x post s e hI => by
      have hx : x ∈ rels := by rw [e]; simp
      rcases (hg x hx).cases with ⟨e, h⟩ | ⟨e, h⟩
      · have e : s_impl_isRelation n (x.1, x.2) = some true := e
        rw [e]
        exact .inl ⟨(), rfl, fun r hr => by
          simp only [List.nil_append, List.mem_append, List.mem_singleton] at hr
          rcases hr with hr | rfl
          · exact hI r (by simpa using hr)
          · exact h⟩
      · have e : s_impl_isRelation n (x.1, x.2) = some false := e
        rw [e]
        exact .inr (.inr ⟨false, rfl, rfl, fun H => h (H x hx)⟩)) with ⟨s', e, h | h⟩ | ⟨r, e, rfl, h⟩
    · rw [e]
      exact ⟨true, rfl, ⟨fun _ => ⟨h4, fun r hr => h r (by simpa using hr)⟩, fun _ => rfl⟩⟩
    · exact h.elim
    · rw [e]
      exact ⟨false, rfl, ⟨fun h => (by cases h), fun H => absurd H.2 h⟩⟩
  · rw [show decide ((4 : Int) < (rels.length : Int)) = true by simp; omega, cond_true]
    exact ⟨false, rfl, ⟨fun h => (by cases h), fun H => absurd H.1 h4⟩⟩

theorem guards (n : Int) (rels : List RelI) (k : Int) (hb : BRS rels) :
    (∃ N K, Tmp n rels k N K ∧ s_spec_l14Small n rels k = some true ∧ ((s_impl_canAsk n rels k).bind fun r7 =>
  (bif (!r7) then some true else (s_impl_isPolyRange n k).bind fun r10 =>
  some (!r10))) = some false) ∨ (s_spec_l14Small n rels k = some false ∧ ((s_impl_canAsk n rels k).bind fun r7 =>
  (bif (!r7) then some true else (s_impl_isPolyRange n k).bind fun r10 =>
  some (!r10))) = some true) := by
  unfold s_spec_l14Small s_spec_l14Takes s_spec_l14Size s_impl_canAsk s_impl_isTemplateSize
  have eA : (bif (decide (1 ≤ n)) then some (decide (n ≤ 4)) else some false) = some (decide (1 ≤ n) && decide (n ≤ 4)) := by
    cases decide (1 ≤ n) <;> rfl
  rw [l1In_eq, eA]
  simp only [Option.bind_some]
  by_cases h1 : 1 ≤ n ∧ n ≤ 4
  case neg =>
    rw [show (decide (1 ≤ n) && decide (n ≤ 4)) = false by rw [Bool.and_eq_false_iff]; simp only [decide_eq_false_iff_not]; omega]
    exact .inr ⟨rfl, rfl⟩
  rw [show (decide (1 ≤ n) && decide (n ≤ 4)) = true by simp [h1]]
  simp only [Bool.not_true, cond_false]
  obtain ⟨N, rfl⟩ : ∃ N : Nat, n = (N : Int) := ⟨n.toNat, by omega⟩
  rcases (rels_spec (n := (N : Int)) (N := N) rfl (by omega) (by omega) rels hb).cases with ⟨e, hr⟩ | ⟨e, hr⟩
  case inr =>
    rcases (rels_impl (n := (N : Int)) (N := N) rfl rels hb).cases with ⟨_, hr'⟩ | ⟨e', _⟩
    · exact absurd hr' hr
    · rw [e, e']; exact .inr ⟨rfl, rfl⟩
  rcases (rels_impl (n := (N : Int)) (N := N) rfl rels hb).cases with ⟨e', _⟩ | ⟨_, hr'⟩
  case inr => exact absurd hr hr'
  rw [e, e', l1In_eq]
  simp only [Option.bind_some, Bool.not_true, cond_false]
  have q1 := few12_spec rels k (by omega)
  have q2 := few12_impl rels k
  rw [q2]
  by_cases hk : 1 ≤ k ∧ k ≤ 3
  case neg =>
    rw [show (decide (1 ≤ k) && decide (k ≤ 3)) = false by rw [Bool.and_eq_false_iff]; simp only [decide_eq_false_iff_not]; omega]
    refine .inr ⟨rfl, ?_⟩
    cases rels.all (fun r => !(k == 3 && decide (12 < r.2.length))) with
    | false => rfl
    | true =>
      show ((s_impl_isPolyRange (N : Int) k).bind _) = _
      have : s_impl_isPolyRange (N : Int) k = some false := by
        unfold s_impl_isPolyRange
        by_cases h : 1 ≤ k
        · rw [show decide (1 ≤ k) = true by simpa using h, cond_true, show decide (k ≤ 3) = false by simp; omega, cond_false]
        · rw [show decide (1 ≤ k) = false by simpa using h, cond_false]
      rw [this]; rfl
  rw [show (decide (1 ≤ k) && decide (k ≤ 3)) = true by simp [hk]]
  simp only [Bool.not_true, cond_false]
  rw [q1]
  obtain ⟨K, rfl⟩ : ∃ K : Nat, k = (K : Int) := ⟨k.toNat, by omega⟩
  have hpow : N ^ K ≤ 64 := Nat.le_trans (Nat.pow_le_pow_left (show N ≤ 4 by omega) K) (Nat.le_trans (Nat.pow_le_pow_right (by omega) (show K ≤ 3 by omega)) (by decide))
  have ep : s_impl_power (N : Int) (K : Int) = some ((N ^ K : Nat) : Int) := power_eq rfl rfl (by omega) (by omega) (by omega)
  have er : s_impl_isPolyRange (N : Int) (K : Int) = some (decide (N ^ K ≤ 9)) := by
    unfold s_impl_isPolyRange
    rw [show decide ((1 : Int) ≤ (K : Int)) = true by simp; omega, cond_true, show decide ((K : Int) ≤ 3) = true by simp; omega, cond_true, ep, Option.bind_some, show decide (((N ^ K : Nat) : Int) ≤ 9) = decide (N ^ K ≤ 9) from dec_le _ 9]
  cases hall : rels.all (fun r => !((K : Int) == 3 && decide (12 < r.2.length))) with
  | false => exact .inr ⟨rfl, rfl⟩
  | true =>
    simp only [cond_true, Option.bind_some, after_br', powS_eq, ep, er, Bool.not_true, cond_false, show decide (((N ^ K : Nat) : Int) ≤ 9) = decide (N ^ K ≤ 9) from dec_le _ 9]
    by_cases h9 : N ^ K ≤ 9
    · left
      refine ⟨N, K, ⟨rfl, rfl, by omega, by omega, by omega, by omega, hr.1, hr.2, h9, fun h r hr => ?_⟩, by simp [h9], by simp [h9]⟩
      rw [List.all_eq_true] at hall
      have := hall r hr
      subst h
      simpa using this
    · right
      exact ⟨by simp; omega, by simp; omega⟩

set_option linter.unusedVariables false
def scpI (n : Int) (rows : List (List Int)) (ds : List Nat) (p : Nat) : Int := ds.foldl (fun acc d => w64 (w64 (acc * n) + ((rows.getD d []).getD p 0))) 0

def scope (n : Int) (r : RelI) (ds : List Nat) : List Int := (List.range r.1.toNat).map (scpI n r.2 ds)

def kn (cs : List Con) (c : Con) : Bool := cs.any fun d => d.1 == c.1 && d.2 == c.2

def goC (n : Int) (K : Nat) (r : RelI) (cs : List Con) (i : Nat) : Option (List Con) :=
  bif kn cs (scope n r (dig r.2.length K i), r) then some cs else bif cs.length == 40 then none else some (cs ++ [(scope n r (dig r.2.length K i), r)])

def InvC (cs : List Con) : Prop := cs.length ≤ 40 ∧ ∀ c ∈ cs, BC c

theorem scpI_snoc (n : Int) (rows : List (List Int)) (ds : List Nat) (d p : Nat) : scpI n rows (ds ++ [d]) p = w64 (w64 (scpI n rows ds p * n) + ((rows.getD d []).getD p 0)) := by
  unfold scpI; rw [List.foldl_append]; rfl

theorem rel_row {N : Nat} {r : RelI} {K : Nat} {L : List (List Nat)} (h : RelN N K r L) {d p : Nat} (hd : d < r.2.length) (hp : p < K) : idx r.2 (d : Int) = some (r.2.getD d []) ∧ idx (r.2.getD d []) (p : Int) = some ((r.2.getD d []).getD p 0) := by
  refine ⟨idx_getD hd, ?_⟩
  have e2 : r.2 = NLL L := by rw [h.eq]
  rw [e2] at hd ⊢
  simp only [NLL_len] at hd
  have e3 : (NLL L).getD d [] = NL L[d] := by
    unfold NLL; rw [List.getD_eq_getElem?_getD, List.getElem?_map, List.getElem?_eq_getElem hd]; rfl
  have hl := h.rel.len _ (List.getElem_mem hd)
  rw [e3, idx_nat]
  have hp' : p < (NL L[d]).length := by rw [NL_len]; omega
  rw [List.getElem?_eq_getElem hp', List.getD_eq_getElem?_getD, List.getElem?_eq_getElem hp']; rfl

theorem goC_inv {n : Int} {K : Nat} {r : RelI} (hr : BR r) (hr3 : r.1.toNat ≤ 3) {cs cs' : List Con} {i : Nat} (h : InvC cs) (e : goC n K r cs i = some cs') : InvC cs' := by
  unfold goC at e
  cases h1 : kn cs (scope n r (dig r.2.length K i), r) with
  | true => rw [h1] at e; cases e; exact h
  | false =>
    rw [h1, cond_false] at e
    cases h2 : cs.length == 40 with
    | true => rw [h2] at e; cases e
    | false =>
      rw [h2] at e; cases e
      have h40 : cs.length ≠ 40 := by simpa using h2
      refine ⟨by have := h.1; simp; omega, fun c hc => ?_⟩
      rcases List.mem_append.1 hc with hc | hc
      · exact h.2 c hc
      · simp at hc; subst hc
        exact ⟨by unfold B1 scope; simp; omega, hr⟩

theorem known_spec {R : Type} {n : Int} {rels : List RelI} {jr : Nat} (hj : jr < rels.length) {cs : List Con} (hc : InvC cs) (sc : List Int) : forC (S := Bool) (R := R) (fun k3030 s3028 =>
  (bif s3028 then some (.nx true) else (idx cs k3030).bind fun x3036 =>
  (s_spec_l1Same x3036.1 sc).bind fun r3042 =>
  (bif r3042 then (idx rels (jr : Int)).bind fun x3044 =>
  (idx cs k3030).bind fun x3046 =>
  (s_spec_l19SameRel (x3046.2.1, x3046.2.2) (x3044.1, x3044.2)).bind fun r3054 =>
  some (.nx r3054) else some (.nx false)))) 0 (cs.length : Int) false = some (.br (kn cs (sc, rels[jr]))) := by
  have h40 := hc.1
  rw [forC0_fn (R := R) (s := false) (F := fun m => (cs.take m).any fun d => d.1 == sc && d.2 == rels[jr]) (n := cs.length) rfl (by omega) (by simp) (fun m hm => by
    have hb := hc.2 _ (List.getElem_mem hm)
    rw [List.take_add_one, List.getElem?_eq_getElem hm, List.any_append]
    cases hk : (cs.take m).any fun d => d.1 == sc && d.2 == rels[jr] with
    | true => rfl
    | false =>
      rw [cond_false, idx_nat, List.getElem?_eq_getElem hm, Option.bind_some, l1Same_eq _ _ (by have := hb.1; unfold B1 at this; omega), Option.bind_some]
      cases hs : ((cs[m]).1 == sc) with
      | false => simp [hs]
      | true =>
        have e := l19SameRel_eq (cs[m]).2 (rels[jr]) hb.2
        have e : s_spec_l19SameRel ((cs[m]).2.1, (cs[m]).2.2) ((rels[jr]).1, (rels[jr]).2) = some ((cs[m]).2 == rels[jr]) := e
        rw [cond_true, idx_nat, List.getElem?_eq_getElem hj, Option.bind_some, Option.bind_some, e]
        simp [hs])]
  rw [List.take_length]; rfl

theorem known_impl {cs : List Con} (hc : InvC cs) (c : Con) (hb : BC c) : s_impl_hasConstraint cs c = some (kn cs c) := by
  unfold s_impl_hasConstraint
  rw [forR_chk (fun d => !(d.1 == c.1 && d.2 == c.2)) true () 0 cs (fun i d hd => by
    rw [sameList_eq _ _ (by have := hb.1; unfold B1 at this; omega), Option.bind_some, show (c.1 == d.1) = (d.1 == c.1) by rw [Bool.eq_iff_iff]; simp only [beq_iff_eq]; exact eq_comm]
    cases hs : (d.1 == c.1) with
    | false => rfl
    | true =>
      have e : s_impl_sameRelation (c.2.1, c.2.2) (d.2.1, d.2.2) = some (c.2 == d.2) := sameRelation_eq c.2 d.2 hb.2
      rw [cond_true, e, Option.bind_some, show (c.2 == d.2) = (d.2 == c.2) by rw [Bool.eq_iff_iff]; simp only [beq_iff_eq]; exact eq_comm]
      cases (d.2 == c.2) <;> rfl)]
  have : cs.all (fun d => !(d.1 == c.1 && d.2 == c.2)) = !kn cs c := by
    unfold kn; rw [List.not_any_eq_all_not]
  rw [this]
  cases kn cs c <;> rfl

set_option linter.unusedVariables false
theorem scope_spec {R : Type} {n : Int} {N K : Nat} {rels : List RelI} {jr kk : Nat} {L : List (List Nat)} {ds : List Nat} (hj : jr < rels.length) (hr : RelN N kk rels[jr] L) (hds : ds.length = K) (hK : K ≤ 3) (hd : ∀ d ∈ ds, d < (rels[jr]).2.length) : ∃ z, iter (S := (List Int) × Int) (R := R) (fun s2939 =>
  (idx rels (jr : Int)).bind fun x2949 =>
  (bif (decide (s2939.2 < x2949.1)) then (forC (S := Int) (R := R) (fun k2969 s2967 =>
  (idx rels (jr : Int)).bind fun x2974 =>
  (idx (NL ds) k2969).bind fun x2979 =>
  (idx x2974.2 x2979).bind fun x2981 =>
  (idx x2981 s2939.2).bind fun x2985 =>
  some (.nx (w64 ((w64 (s2967 * n)) + x2985)))) 0 (K : Int) 0).bind fun o2971 => after o2971 (fun r_ => some (.rt r_)) (fun s2967 =>
  (app s2939.1 ([s2967])).bind fun y2990 =>
  some (.nx (y2990, w64 (s2939.2 + 1)))) else some (.br (s2939.1, s2939.2)))) FU ([], 0) = some (.br (scope n rels[jr] ds, z)) := by
  have ei : idx rels (jr : Int) = some rels[jr] := by rw [idx_nat, List.getElem?_eq_getElem hj]
  have hkk : (rels[jr]).1 = (kk : Int) := by rw [hr.eq]
  have hk3 := hr.k3
  refine ⟨(kk : Int), ?_⟩
  rw [iter_br (R := R) (F := fun j => ((List.range j).map (scpI n (rels[jr]).2 ds), (j : Int))) (s := ([], 0)) (t := (scope n rels[jr] ds, (kk : Int))) kk (by omega) rfl (fun j hj => by
    rw [ei, Option.bind_some, hkk, dec_lt, show decide (j < kk) = true by simpa using hj, cond_true]
    rw [forC0_fn (R := R) (s := (0 : Int)) (F := fun m => scpI n (rels[jr]).2 (ds.take m) j) (n := K) rfl (by omega) rfl (fun m hm => by
      have hml : m < ds.length := by omega
      obtain ⟨r1, r2⟩ := rel_row hr (hd _ (ga_mem hml)) hj
      rw [Option.bind_some, idx_NL hml, Option.bind_some, r1, Option.bind_some, r2, Option.bind_some, List.take_add_one, List.getElem?_eq_getElem hml, ← ga_get hml]
      show _ = some (Ctl.nx (scpI n (rels[jr]).2 (ds.take m ++ [ga ds m]) j))
      rw [scpI_snoc])]
    rw [Option.bind_some, after_br', show ds.take K = ds from List.take_of_length_le (by omega), app_ok (by simp; omega), Option.bind_some, w64_add1 (by omega), List.range_succ, List.map_append]; rfl) (by
    rw [ei, Option.bind_some, hkk, dec_lt, show decide (kk < kk) = false by simp, cond_false]
    unfold scope
    rw [hkk, Int.toNat_natCast])]

theorem scope_impl {R : Type} {n : Int} {N kk : Nat} {r : RelI} {L : List (List Nat)} {ds : List Nat} (hr : RelN N kk r L) (hd : ∀ d ∈ ds, d < r.2.length) : forR (S := (List Int)) (R := R) (fun _ x2256 s2253 =>
  (forC (S := (List Int)) (R := R) (fun k2289 s2287 =>
  (idx s2287 k2289).bind fun x2296 =>
  (idx r.2 x2256).bind fun x2298 =>
  (idx x2298 k2289).bind fun x2302 =>
  (idx s2287 k2289).bind fun x2304 =>
  some (.nx (List.set s2287 (Int.toNat k2289) (w64 ((w64 (x2296 * n)) + x2302))))) 0 (s2253.length : Int) s2253).bind fun o2291 => after o2291 (fun r_ => some (.rt r_)) (fun s2287 =>
  some (.nx s2287))) 0 (NL ds) (List.replicate kk 0) = some (.br (scope n r ds)) := by
  have hkk : r.1 = (kk : Int) := by rw [hr.eq]
  have hk3 := hr.k3
  have key : ∀ (ds pre : List Nat) (i : Int), (∀ d ∈ ds, d < r.2.length) → forR (S := (List Int)) (R := R) (fun _ x2256 s2253 =>
  (forC (S := (List Int)) (R := R) (fun k2289 s2287 =>
  (idx s2287 k2289).bind fun x2296 =>
  (idx r.2 x2256).bind fun x2298 =>
  (idx x2298 k2289).bind fun x2302 =>
  (idx s2287 k2289).bind fun x2304 =>
  some (.nx (List.set s2287 (Int.toNat k2289) (w64 ((w64 (x2296 * n)) + x2302))))) 0 (s2253.length : Int) s2253).bind fun o2291 => after o2291 (fun r_ => some (.rt r_)) (fun s2287 =>
  some (.nx s2287))) i (NL ds) ((List.range kk).map (scpI n r.2 pre)) = some (.br ((List.range kk).map (scpI n r.2 (pre ++ ds)))) := by
    intro ds
    induction ds with
    | nil => intro pre i _; rw [List.append_nil]; rfl
    | cons d ds ih =>
      intro pre i hd
      have hdl := hd d (by simp)
      rw [NL_cons, forR_step (s' := (List.range kk).map (scpI n r.2 (pre ++ [d]))) (by
        rw [forC0_fn (R := R) (s := (List.range kk).map (scpI n r.2 pre)) (F := fun m => (List.range kk).map fun p => if p < m then scpI n r.2 (pre ++ [d]) p else scpI n r.2 pre p) (n := kk) (by simp) (by omega) (by simp) (fun m hm => by
          obtain ⟨r1, r2⟩ := rel_row hr hdl hm
          have e1 : idx ((List.range kk).map fun p => if p < m then scpI n r.2 (pre ++ [d]) p else scpI n r.2 pre p) (m : Int) = some (scpI n r.2 pre m) := by
            rw [idx_nat, List.getElem?_map, List.getElem?_range hm]; simp
          simp only [e1, Option.bind_some, r1, r2, Int.toNat_natCast, ← scpI_snoc]
          congr 2
          apply List.ext_getElem
          · simp
          · intro q h1 h2
            simp only [List.length_set, List.length_map, List.length_range] at h1
            rw [List.getElem_set]
            simp only [List.getElem_map, List.getElem_range]
            by_cases e : m = q
            · subst e; rw [if_pos rfl, if_pos (by omega)]
            · rw [if_neg e]
              by_cases h : q < m
              · rw [if_pos h, if_pos (by omega)]
              · rw [if_neg h, if_neg (by omega)])]
        rw [Option.bind_some, after_br']
        congr 2
        apply List.map_congr_left
        intro p hp
        rw [if_pos (by simpa using hp)]), ih (pre ++ [d]) (i + 1) (fun x hx => hd x (by simp [hx]))]
      simp
  have := key ds [] 0 hd
  have e0 : (List.range kk).map (scpI n r.2 []) = List.replicate kk 0 := by
    apply List.ext_getElem
    · simp
    · intro i h1 h2; simp [scpI]
  rw [e0, List.nil_append] at this
  rw [this]
  unfold scope
  rw [hkk, Int.toNat_natCast]

set_option linter.unusedVariables false
theorem rel_len64 {N kk : Nat} {r : RelI} {L : List (List Nat)} (h4 : N ≤ 4) (hr : RelN N kk r L) : r.2.length ≤ 64 := by
  have e2 : r.2 = NLL L := by rw [hr.eq]
  have h := sorted_len hr.rel hr.lt
  have : N ^ kk ≤ 64 := Nat.le_trans (Nat.pow_le_pow_left h4 kk) (Nat.le_trans (Nat.pow_le_pow_right (by omega) hr.k3) (by decide))
  rw [e2, NLL_len]; omega

theorem cnt_pos {L K i : Nat} (hK : 1 ≤ K) (h : i < L ^ K) : 1 ≤ L := by
  rcases Nat.eq_zero_or_pos L with e | e
  · rw [e, Nat.zero_pow (by omega)] at h; omega
  · exact e

def goR (n : Int) (K : Nat) (cs : List Con) (r : RelI) : Option (List Con) := foldO (goC n K r) cs (List.range (r.2.length ^ K))

theorem isRel_3 {N : Nat} {r : RelI} (h : IsRel N r) : r.1.toNat ≤ 3 := by
  obtain ⟨k, L, h⟩ := h
  have := h.k3
  rw [h.eq]; simpa using this

theorem goR_inv {n : Int} {K N : Nat} {r : RelI} (hb : BR r) (hr : IsRel N r) {cs cs' : List Con} (h : InvC cs) (e : goR n K cs r = some cs') : InvC cs' :=
  foldO_inv InvC _ cs cs' h (fun s x s' _ hs he => goC_inv hb (isRel_3 hr) hs he) e

theorem spec_rel {n : Int} {rels : List RelI} {k : Int} {N K : Nat} (h : Tmp n rels k N K) (hb : BRS rels) {jr : Nat} (hj : jr < rels.length) {cs : List Con} (hc : InvC cs) :
    iter (S := Int × (List Con)) (R := (Int × Int × (List Con)) × Bool) (fun s2874 =>
  (s_spec_l2Pow ((rels[jr]).2.length : Int) k).bind fun r2887 =>
  (bif (decide (s2874.1 < r2887)) then (s_spec_l2Args ((rels[jr]).2.length : Int) k s2874.1).bind fun r2890 =>
  (iter (S := (List Int) × Int) (R := (Int × Int × (List ((List Int) × (Int × (List (List Int)))))) × Bool) (fun s2939 =>
  (idx rels (jr : Int)).bind fun x2949 =>
  (bif (decide (s2939.2 < x2949.1)) then (forC (S := Int) (R := (Int × Int × (List ((List Int) × (Int × (List (List Int)))))) × Bool) (fun k2969 s2967 =>
  (idx rels (jr : Int)).bind fun x2974 =>
  (idx r2890 k2969).bind fun x2979 =>
  (idx x2974.2 x2979).bind fun x2981 =>
  (idx x2981 s2939.2).bind fun x2985 =>
  some (.nx (w64 ((w64 (s2967 * n)) + x2985)))) 0 k 0).bind fun o2971 => after o2971 (fun r_ => some (.rt r_)) (fun s2967 =>
  (app s2939.1 ([s2967])).bind fun y2990 =>
  some (.nx (y2990, w64 (s2939.2 + 1)))) else some (.br (s2939.1, s2939.2)))) FU ([], 0)).bind fun o2943 => after o2943 (fun r_ => some (.rt r_)) (fun s2939 =>
  (forC (S := Bool) (R := (Int × Int × (List ((List Int) × (Int × (List (List Int)))))) × Bool) (fun k3030 s3028 =>
  (bif s3028 then some (.nx true) else (idx s2874.2 k3030).bind fun x3036 =>
  (s_spec_l1Same x3036.1 s2939.1).bind fun r3042 =>
  (bif r3042 then (idx rels (jr : Int)).bind fun x3044 =>
  (idx s2874.2 k3030).bind fun x3046 =>
  (s_spec_l19SameRel (x3046.2.1, x3046.2.2) (x3044.1, x3044.2)).bind fun r3054 =>
  some (.nx r3054) else some (.nx false)))) 0 (s2874.2.length : Int) false).bind fun o3032 => after o3032 (fun r_ => some (.rt r_)) (fun s3028 =>
  (bif s3028 then some (.nx (w64 (s2874.1 + 1), s2874.2)) else (bif ((s2874.2.length : Int) == 40) then some (.rt ((0, 0, []), false)) else (idx rels (jr : Int)).bind fun x3074 =>
  (s_spec_l19Copy ([(s2939.1, (x3074.1, x3074.2))])).bind fun r3082 =>
  (idx r3082 0).bind fun x3084 =>
  (app s2874.2 ([(x3084.1, (x3084.2.1, x3084.2.2))])).bind fun y3093 =>
  some (.nx (w64 (s2874.1 + 1), y3093)))))) else some (.br (s2874.1, s2874.2)))) FU (0, cs) = some (outI ((rels[jr]).2.length ^ K) ((0, 0, []), false) (goR n K cs rels[jr])) := by
  have hmem := List.getElem_mem hj
  obtain ⟨kk, L, hr⟩ := h.rel _ hmem
  have hbr := hb.2 _ hmem
  have hr3 := isRel_3 (h.rel _ hmem)
  have h64 := rel_len64 h.n4 hr
  have hP : (rels[jr]).2.length ^ K ≤ 64 ^ 3 := Nat.le_trans (Nat.pow_le_pow_left h64 K) (Nat.pow_le_pow_right (by omega) h.k3)
  have ek := h.eK
  have k3 := h.k3
  have ei : idx rels (jr : Int) = some rels[jr] := by rw [idx_nat, List.getElem?_eq_getElem hj]
  have ep : s_spec_l2Pow ((rels[jr]).2.length : Int) k = some (((rels[jr]).2.length ^ K : Nat) : Int) := by rw [powS_eq, ek]; exact powerA h.k3 (by omega)
  unfold goR
  rw [List.range_eq_range']
  show iter _ FU (((0 : Nat) : Int), cs) = _
  refine iter_foldO (goC n K rels[jr]) ((0, 0, []), false) InvC (fun s i s' _ hs e => goC_inv hbr hr3 hs e) (fun i s hi hs => ?_) (fun s hs => ?_) ((rels[jr]).2.length ^ K) 0 FU cs (Nat.zero_add _) (by unfold FU; omega) hc
  · have hL := cnt_pos h.k1 hi
    have hdl : ∀ d ∈ dig (rels[jr]).2.length K i, d < (rels[jr]).2.length := fun d hd => dig_lt hL K i d hd
    obtain ⟨z, es⟩ := scope_spec (R := (Int × Int × (List Con)) × Bool) (n := n) hj hr (dig_len (rels[jr]).2.length K i) h.k3 hdl
    have hbc : BC (scope n rels[jr] (dig (rels[jr]).2.length K i), rels[jr]) := ⟨by unfold B1 scope; simp; omega, hbr⟩
    have h40 := hs.1
    rw [ep, Option.bind_some, dec_lt, show decide (i < (rels[jr]).2.length ^ K) = true by simpa using hi, cond_true, ek, l2ArgsN (by omega) hL (by omega), Option.bind_some, es, Option.bind_some, after_br', known_spec (n := n) hj hs, Option.bind_some, after_br']
    unfold goC
    cases hk : kn s (scope n rels[jr] (dig (rels[jr]).2.length K i), rels[jr]) with
    | true => rw [cond_true, cond_true, w64_add1 (by omega)]
    | false =>
      rw [cond_false, cond_false, show (((s.length : Nat) : Int) == 40) = (s.length == 40) from beq_nat s.length 40]
      cases h40' : (s.length == 40) with
      | true => rfl
      | false =>
        have ec : s_spec_l19Copy [(scope n rels[jr] (dig (rels[jr]).2.length K i), ((rels[jr]).1, (rels[jr]).2))] = some [(scope n rels[jr] (dig (rels[jr]).2.length K i), ((rels[jr]).1, (rels[jr]).2))] := l19Copy_eq (by simp) (fun c hc => by simp at hc; subst hc; exact hbc)
        rw [cond_false, cond_false, ei, Option.bind_some, ec, Option.bind_some]
        show ((app s [(scope n rels[jr] (dig (rels[jr]).2.length K i), ((rels[jr]).1, (rels[jr]).2))]).bind _) = _
        rw [app_ok (by simp; omega), Option.bind_some, w64_add1 (by omega)]
  · rw [ep, Option.bind_some, dec_lt, show decide ((rels[jr]).2.length ^ K < (rels[jr]).2.length ^ K) = false by simp, cond_false]

theorem impl_rel {n : Int} {rels : List RelI} {k : Int} {N K : Nat} (h : Tmp n rels k N K) (hb : BRS rels) {r : RelI} (hmem : r ∈ rels) {cs : List Con} (hc : InvC cs) :
    iter (S := Int × (List Con)) (R := (Int × Int × (List Con)) × Bool) (fun s2060 =>
  (s_impl_power (r.2.length : Int) k).bind fun r2071 =>
  (bif (decide (s2060.1 < r2071)) then (mks r.1 (0 : Int)).bind fun y2075 =>
  (s_impl_cloneRelation (r.1, r.2)).bind fun r2078 =>
  (s_impl_argsAt s2060.1 k (r.2.length : Int)).bind fun r2158 =>
  (forR (S := (List Int)) (R := (Int × Int × (List ((List Int) × (Int × (List (List Int)))))) × Bool) (fun _ x2256 s2253 =>
  (forC (S := (List Int)) (R := (Int × Int × (List ((List Int) × (Int × (List (List Int)))))) × Bool) (fun k2289 s2287 =>
  (idx s2287 k2289).bind fun x2296 =>
  (idx r.2 x2256).bind fun x2298 =>
  (idx x2298 k2289).bind fun x2302 =>
  (idx s2287 k2289).bind fun x2304 =>
  some (.nx (List.set s2287 (Int.toNat k2289) (w64 ((w64 (x2296 * n)) + x2302))))) 0 (s2253.length : Int) s2253).bind fun o2291 => after o2291 (fun r_ => some (.rt r_)) (fun s2287 =>
  some (.nx s2287))) 0 r2158 y2075).bind fun o2257 => after o2257 (fun r_ => some (.rt r_)) (fun s2253 =>
  (s_impl_hasConstraint s2060.2 (s2253, (r2078.1, r2078.2))).bind fun r2308 =>
  (bif r2308 then some (.nx (w64 (s2060.1 + 1), s2060.2)) else (bif ((s2060.2.length : Int) == 40) then some (.rt ((0, 0, []), false)) else (app s2060.2 ([(s2253, (r2078.1, r2078.2))])).bind fun y2315 =>
  some (.nx (w64 (s2060.1 + 1), y2315))))) else some (.br (s2060.1, s2060.2)))) FU (0, cs) = some (outI (r.2.length ^ K) ((0, 0, []), false) (goR n K cs r)) := by
  obtain ⟨kk, L, hr⟩ := h.rel _ hmem
  have hbr := hb.2 _ hmem
  have hr3 := isRel_3 (h.rel _ hmem)
  have h64 := rel_len64 h.n4 hr
  have hP : r.2.length ^ K ≤ 64 ^ 3 := Nat.le_trans (Nat.pow_le_pow_left h64 K) (Nat.pow_le_pow_right (by omega) h.k3)
  have ek := h.eK
  have k3 := h.k3
  have hk3 := hr.k3
  have hkk : r.1 = (kk : Int) := by rw [hr.eq]
  have ep : s_impl_power (r.2.length : Int) k = some ((r.2.length ^ K : Nat) : Int) := by rw [ek]; exact powerA h.k3 (by omega)
  have ecl : s_impl_cloneRelation (r.1, r.2) = some (r.1, r.2) := by
    unfold s_impl_cloneRelation; rw [cloneRows_eq hbr]; rfl
  unfold goR
  rw [List.range_eq_range']
  show iter _ FU (((0 : Nat) : Int), cs) = _
  refine iter_foldO (goC n K r) ((0, 0, []), false) InvC (fun s i s' _ hs e => goC_inv hbr hr3 hs e) (fun i s hi hs => ?_) (fun s hs => ?_) (r.2.length ^ K) 0 FU cs (Nat.zero_add _) (by unfold FU; omega) hc
  · have hL := cnt_pos h.k1 hi
    have hdl : ∀ d ∈ dig r.2.length K i, d < r.2.length := fun d hd => dig_lt hL K i d hd
    have es := scope_impl (R := (Int × Int × (List Con)) × Bool) (n := n) hr hdl
    have hbc : BC (scope n r (dig r.2.length K i), r) := ⟨by unfold B1 scope; simp; omega, hbr⟩
    have h40 := hs.1
    have eh : s_impl_hasConstraint s (scope n r (dig r.2.length K i), (r.1, r.2)) = some (kn s (scope n r (dig r.2.length K i), r)) := known_impl hs _ hbc
    rw [ep, Option.bind_some, dec_lt, show decide (i < r.2.length ^ K) = true by simpa using hi, cond_true, mks_ok hkk (by omega), Option.bind_some, ecl, Option.bind_some, ek, argsN (by omega) hL (by omega), Option.bind_some, es, Option.bind_some, after_br', eh, Option.bind_some]
    unfold goC
    cases hk : kn s (scope n r (dig r.2.length K i), r) with
    | true => rw [cond_true, cond_true, w64_add1 (by omega)]
    | false =>
      rw [cond_false, cond_false, show (((s.length : Nat) : Int) == 40) = (s.length == 40) from beq_nat s.length 40]
      cases h40' : (s.length == 40) with
      | true => rfl
      | false =>
        rw [cond_false, cond_false, app_ok (by simp; omega), Option.bind_some, w64_add1 (by omega)]
  · rw [ep, Option.bind_some, dec_lt, show decide (r.2.length ^ K < r.2.length ^ K) = false by simp, cond_false]

set_option linter.unusedVariables false
theorem foldO_idx {S α : Type} (go : S → α → Option S) (l : List α) (s : S) (d : α) : foldO (fun s j => go s (l.getD j d)) s (List.range l.length) = foldO go s l := by
  have e : l = (List.range l.length).map fun j => l.getD j d := by
    apply List.ext_getElem
    · simp
    · intro i h1 h2; simp [List.getD_eq_getElem?_getD, List.getElem?_eq_getElem h1]
  conv => rhs; rw [e]
  rw [foldO_map]

theorem NetPoly_same (n : Int) (rels : List RelI) (k : Int) (hb : BRS rels) : ∃ z, s_spec_NetworkOfPolymorphisms n rels k = some z ∧ s_impl_NetworkOfPolymorphisms n rels k = some z ∧ BN z.1 := by
  have hnil : BN ((0, 0, []) : Net) := ⟨by simp, List.forall_mem_nil _⟩
  unfold s_spec_NetworkOfPolymorphisms s_impl_NetworkOfPolymorphisms
  rcases guards n rels k hb with ⟨N, K, h, g1, g2⟩ | ⟨g1, g2⟩
  case inr =>
    rw [g1, g2]
    exact ⟨((0, 0, []), false), rfl, rfl, hnil⟩
  rw [g1, g2]
  simp only [Option.bind_some, Bool.not_true, cond_false]
  have ep : s_impl_power n k = some ((N ^ K : Nat) : Int) := by
    rw [h.eN, h.eK]; exact power_eq rfl rfl h.n1 (by have := h.pw; omega) (by have := h.k3; omega)
  rw [powS_eq, ep]
  simp only [Option.bind_some]
  have hI0 : InvC ([] : List Con) := ⟨by simp, List.forall_mem_nil _⟩
  have l4 := h.l4
  have s1 := forC0_foldO (S := List Con) (R := (Int × Int × (List Con)) × Bool) (step := fun k2436 s2434 =>
  (idx rels k2436).bind fun x2446 =>
  (iter (S := Int × (List ((List Int) × (Int × (List (List Int)))))) (R := (Int × Int × (List ((List Int) × (Int × (List (List Int)))))) × Bool) (fun s2874 =>
  (s_spec_l2Pow (x2446.2.length : Int) k).bind fun r2887 =>
  (bif (decide (s2874.1 < r2887)) then (s_spec_l2Args (x2446.2.length : Int) k s2874.1).bind fun r2890 =>
  (iter (S := (List Int) × Int) (R := (Int × Int × (List ((List Int) × (Int × (List (List Int)))))) × Bool) (fun s2939 =>
  (idx rels k2436).bind fun x2949 =>
  (bif (decide (s2939.2 < x2949.1)) then (forC (S := Int) (R := (Int × Int × (List ((List Int) × (Int × (List (List Int)))))) × Bool) (fun k2969 s2967 =>
  (idx rels k2436).bind fun x2974 =>
  (idx r2890 k2969).bind fun x2979 =>
  (idx x2974.2 x2979).bind fun x2981 =>
  (idx x2981 s2939.2).bind fun x2985 =>
  some (.nx (w64 ((w64 (s2967 * n)) + x2985)))) 0 k 0).bind fun o2971 => after o2971 (fun r_ => some (.rt r_)) (fun s2967 =>
  (app s2939.1 ([s2967])).bind fun y2990 =>
  some (.nx (y2990, w64 (s2939.2 + 1)))) else some (.br (s2939.1, s2939.2)))) FU ([], 0)).bind fun o2943 => after o2943 (fun r_ => some (.rt r_)) (fun s2939 =>
  (forC (S := Bool) (R := (Int × Int × (List ((List Int) × (Int × (List (List Int)))))) × Bool) (fun k3030 s3028 =>
  (bif s3028 then some (.nx true) else (idx s2874.2 k3030).bind fun x3036 =>
  (s_spec_l1Same x3036.1 s2939.1).bind fun r3042 =>
  (bif r3042 then (idx rels k2436).bind fun x3044 =>
  (idx s2874.2 k3030).bind fun x3046 =>
  (s_spec_l19SameRel (x3046.2.1, x3046.2.2) (x3044.1, x3044.2)).bind fun r3054 =>
  some (.nx r3054) else some (.nx false)))) 0 (s2874.2.length : Int) false).bind fun o3032 => after o3032 (fun r_ => some (.rt r_)) (fun s3028 =>
  (bif s3028 then some (.nx (w64 (s2874.1 + 1), s2874.2)) else (bif ((s2874.2.length : Int) == 40) then some (.rt ((0, 0, []), false)) else (idx rels k2436).bind fun x3074 =>
  (s_spec_l19Copy ([(s2939.1, (x3074.1, x3074.2))])).bind fun r3082 =>
  (idx r3082 0).bind fun x3084 =>
  (app s2874.2 ([(x3084.1, (x3084.2.1, x3084.2.2))])).bind fun y3093 =>
  some (.nx (w64 (s2874.1 + 1), y3093)))))) else some (.br (s2874.1, s2874.2)))) FU (0, s2434)).bind fun o2878 => after o2878 (fun r_ => some (.rt r_)) (fun s2874 =>
  some (.nx s2874.2))) (fun s j => goR n K s (rels.getD j (0, []))) ((0, 0, []), false) InvC (n := rels.length) (hi := (rels.length : Int)) (s := []) rfl (by omega) hI0 (fun s j s' hj hs e => by
    have ed : rels.getD j (0, []) = rels[j] := by simp [List.getD_eq_getElem?_getD, List.getElem?_eq_getElem hj]
    rw [ed] at e
    exact goR_inv (hb.2 _ (List.getElem_mem hj)) (h.rel _ (List.getElem_mem hj)) hs e) (fun j s hj hs => by
    have ed : rels.getD j (0, []) = rels[j] := by simp [List.getD_eq_getElem?_getD, List.getElem?_eq_getElem hj]
    have es := spec_rel h hb hj hs
    have ei : idx rels (j : Int) = some rels[j] := by rw [idx_nat, List.getElem?_eq_getElem hj]
    rw [ed]
    refine Eq.trans (congrArg (fun o : Option RelI => o.bind _) ei) ?_
    have es2 := congrArg (fun o : Option (Ctl (Int × List Con) ((Int × Int × List Con) × Bool)) => o.bind fun o2878 => after o2878 (fun r_ => some (Ctl.rt (S := List Con) r_)) (fun s2874 => some (.nx s2874.2))) es
    refine Eq.trans es2 ?_
    cases goR n K s rels[j] <;> rfl)
  have s2 := forR_foldO (S := List Con) (R := (Int × Int × (List Con)) × Bool) (step := fun _ x1550 s1547 =>
  (iter (S := Int × (List ((List Int) × (Int × (List (List Int)))))) (R := (Int × Int × (List ((List Int) × (Int × (List (List Int)))))) × Bool) (fun s2060 =>
  (s_impl_power (x1550.2.length : Int) k).bind fun r2071 =>
  (bif (decide (s2060.1 < r2071)) then (mks x1550.1 (0 : Int)).bind fun y2075 =>
  (s_impl_cloneRelation (x1550.1, x1550.2)).bind fun r2078 =>
  (s_impl_argsAt s2060.1 k (x1550.2.length : Int)).bind fun r2158 =>
  (forR (S := (List Int)) (R := (Int × Int × (List ((List Int) × (Int × (List (List Int)))))) × Bool) (fun _ x2256 s2253 =>
  (forC (S := (List Int)) (R := (Int × Int × (List ((List Int) × (Int × (List (List Int)))))) × Bool) (fun k2289 s2287 =>
  (idx s2287 k2289).bind fun x2296 =>
  (idx x1550.2 x2256).bind fun x2298 =>
  (idx x2298 k2289).bind fun x2302 =>
  (idx s2287 k2289).bind fun x2304 =>
  some (.nx (List.set s2287 (Int.toNat k2289) (w64 ((w64 (x2296 * n)) + x2302))))) 0 (s2253.length : Int) s2253).bind fun o2291 => after o2291 (fun r_ => some (.rt r_)) (fun s2287 =>
  some (.nx s2287))) 0 r2158 y2075).bind fun o2257 => after o2257 (fun r_ => some (.rt r_)) (fun s2253 =>
  (s_impl_hasConstraint s2060.2 (s2253, (r2078.1, r2078.2))).bind fun r2308 =>
  (bif r2308 then some (.nx (w64 (s2060.1 + 1), s2060.2)) else (bif ((s2060.2.length : Int) == 40) then some (.rt ((0, 0, []), false)) else (app s2060.2 ([(s2253, (r2078.1, r2078.2))])).bind fun y2315 =>
  some (.nx (w64 (s2060.1 + 1), y2315))))) else some (.br (s2060.1, s2060.2)))) FU (0, s1547)).bind fun o2064 => after o2064 (fun r_ => some (.rt r_)) (fun s2060 =>
  some (.nx s2060.2))) (goR n K) ((0, 0, []), false) InvC rels 0 [] hI0 (fun s r s' hr hs e => goR_inv (hb.2 _ hr) (h.rel _ hr) hs e) (fun i r s hr hs => by
    have es := impl_rel h hb hr hs
    have es2 := congrArg (fun o : Option (Ctl (Int × List Con) ((Int × Int × List Con) × Bool)) => o.bind fun o2878 => after o2878 (fun r_ => some (Ctl.rt (S := List Con) r_)) (fun s2874 => some (.nx s2874.2))) es
    refine Eq.trans es2 ?_
    cases goR n K s r <;> rfl)
  rw [foldO_idx (goR n K) rels [] (0, [])] at s1
  rw [s1, s2]
  cases hf : foldO (goR n K) [] rels with
  | none => exact ⟨((0, 0, []), false), rfl, rfl, hnil⟩
  | some cs =>
    have hi : InvC cs := foldO_inv InvC rels [] cs hI0 (fun s r s' hr hs e => goR_inv (hb.2 _ hr) (h.rel _ hr) hs e) hf
    exact ⟨((((N ^ K : Nat) : Int), n, cs), true), rfl, rfl, ⟨by have := hi.1; show cs.length ≤ 1048576; omega, hi.2⟩⟩

set_option linter.unusedVariables false
theorem szRelationS_ok (a : List RelI) (ha : a.length ≤ maxLen) (h : ∀ r ∈ a, r.2.length ≤ maxLen ∧ ∀ x ∈ r.2, x.length ≤ maxLen) : SzOk s_laws_szRelationS BRS a := by
  intro l h0 h1
  unfold s_laws_szRelationS
  exact szS_loop s_laws_szRelation BR a (by unfold maxLen at ha; omega) (fun x hx => szRelation_ok x (h x hx).1 (h x hx).2) l h0 h1

theorem toRelationS_ok (a : List RelI) (ha : BRS a) : s_laws_toRelationS a = some a := by
  unfold s_laws_toRelationS
  exact toS_loop s_laws_toRelation (0, []) a (by have := ha.1; omega) (fun x hx => toRelation_ok x (ha.2 x hx))

theorem markRelationS_mk (a : List RelI) (ha : BRS a) (k : Int) (h0 : 0 ≤ k) (h1 : k + 1152921504608944128 ≤ 4611686018427387904) :
    ∃ k' t, s_laws_markRelationS a k = some (k', t) ∧ 0 ≤ k' ∧ k' ≤ k + 1152921504608944128 := by
  have hl := ha.1
  have hC : a.length * 1099511627777 ≤ 1048576 * 1099511627777 := Nat.mul_le_mul_right _ hl
  have h := markS_loop mkR1 hdR1 1099511627777 a hl (fun x hx => mkR1_ok x (ha.2 x hx)) (step := fun s57 =>
  (bif (decide (s57.2.1 < (s57.2.2.length : Int))) then (idx s57.2.2 s57.2.1).bind fun x67 =>
  (idx (List.set s57.2.2 (Int.toNat s57.2.1) (s57.1, x67.2)) s57.2.1).bind fun x71 =>
  (s_laws_markIntSS x71.2 (w64 (s57.1 + 1))).bind fun r77 =>
  some (.nx (r77.1, w64 (s57.2.1 + 1), List.set (List.set s57.2.2 (Int.toNat s57.2.1) (s57.1, x67.2)) (Int.toNat s57.2.1) (x71.1, r77.2))) else some (.br (s57.1, s57.2.1, s57.2.2))))
    (hstep := fun k16 s14 a_ => (idx a_ k16).bind fun x20 =>
  (bif (x20.1 != s14) then some (.rt (-1)) else (idx a_ k16).bind fun x24 =>
  (s_laws_heldIntSS x24.2 (w64 (s14 + 1))).bind fun r30 =>
  (bif (decide (r30 < 0)) then some (.rt (-1)) else some (.nx r30)))) (fun k i l hi hl' hm h0 hk => by
      obtain ⟨z, hz⟩ := hm
      have hd : decide ((i : Int) < (l.length : Int)) = true := by simp; omega
      have hs : (l.set i (k, l[i].2))[i]? = some (k, l[i].2) := by rw [List.getElem?_set_self hi]
      simp only [hd, cond_true, idx_nat, List.getElem?_eq_getElem hi, Option.bind_some, Int.toNat_natCast, hs, w64_add1 (show i + 1 ≤ 9223372036854775807 by omega), w64_id (show -9223372036854775808 ≤ k + 1 by omega) (show k + 1 ≤ 9223372036854775807 by omega), List.set_set, mkR1]
      rw [Option.bind_assoc]
      rfl) (fun k i l hi => by subst hi; simp) (fun k i l hi k' hh h0 h1 h2 hk => by
      unfold hdR1 at hh
      by_cases c2 : l[i].1 = k
      · rw [if_pos c2] at hh
        obtain ⟨q, hq, hh⟩ := bind_some hh
        by_cases c3 : q < 0
        · rw [if_pos c3] at hh; cases hh
        rw [if_neg c3] at hh
        cases hh
        have e2 : (l[i].1 != k) = false := by simp [c2]
        simp only [idx_nat, List.getElem?_eq_getElem hi, Option.bind_some, e2, cond_false, w64_id (show -9223372036854775808 ≤ k + 1 by omega) (show k + 1 ≤ 9223372036854775807 by omega), hq, show decide (k' < 0) = false by simpa using c3]
      · rw [if_neg c2] at hh; cases hh) k h0 (by omega)
  obtain ⟨k', t, g1, g2, g3, g4⟩ := h
  have g1' : s_laws_markRelationS a k = some (k', t) := g1
  exact ⟨k', t, g1', by omega, by omega⟩

theorem s_laws_FnExactNetworkOfPolymorphisms_ok (n : Int) (rels : List RelI) (k : Int) (_ : OkI n) (hr : OkL (OkP OkI (OkL (OkL OkI))) rels) (_ : OkI k) : s_laws_FnExactNetworkOfPolymorphisms n rels k = some true := by
  unfold s_laws_FnExactNetworkOfPolymorphisms
  obtain ⟨u, hu, hb⟩ := szRelationS_ok rels hr.1 (fun r h => ⟨(hr.2 r h).2.1, fun x hx => ((hr.2 r h).2.2 x hx).1⟩) 1048576 (by omega) (by omega)
  rw [hu, Option.bind_some]
  by_cases hneg : u < 0
  · rw [show decide (u < 0) = true by simpa using hneg]; rfl
  rcases hb with hb | ⟨hb, _, _⟩
  · exact absurd hb hneg
  rw [show decide (u < 0) = false by simpa using hneg, cond_false]
  obtain ⟨⟨g, b⟩, z1, z2, hg⟩ := NetPoly_same n rels k hb
  have hg : BN g := hg
  obtain ⟨k1, t1, m1, m2, m3⟩ := markRelationS_mk rels hb 1 (by omega) (by omega)
  obtain ⟨k2, t2, m4, m5, m6, _⟩ := markNetwork_ok g hg 1 (by omega) (by omega)
  have m4 : s_laws_markNetwork (g.1, g.2.1, g.2.2) 1 = some (k2, t2) := m4
  have e5 : s_laws_eqNetwork (g.1, g.2.1, g.2.2) (g.1, g.2.1, g.2.2) = some true := eqNetwork_refl g hg
  simp only [toRelationS_ok rels hb, eqRelationS_refl rels hb, e5, Option.bind_some, z1, z2, m1, m4, m5, neg_dec' m2, neg_dec' m6, beq_self_eq_true, bne_self_eq_false, Bool.not_true, cond_false]

end Go.Proofs
