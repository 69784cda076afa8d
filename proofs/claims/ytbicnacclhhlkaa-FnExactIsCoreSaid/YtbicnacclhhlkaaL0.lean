/- Plain lemmas on what the functions compute, up to: the law gives true. No conditions. -/
import Derived.Test.YtbicnacclhhlkaaF3
import Derived.Test.YtbicnacclhhlkaaGPure
import Derived.Test.YtbicnacclhhlkaaGOpen
import Derived.Test.YtbicnacclhhlkaaGLoop
set_option linter.unusedVariables false
namespace Go.Proofs
open Go.G
set_option maxRecDepth 100000


/-- The last t digits of i, base n. -/
def digs (n : Int) : Nat → Int → List Int
  | 0, _ => []
  | t + 1, i => (i / n ^ t % n) :: digs n t i

theorem digs_loop {i k n : Int} {K : Nat} (hk : k = (K : Int)) (hK : K ≤ 4294967296) (hn : 1 ≤ n) (hi : 0 ≤ i) (hi' : i ≤ 9223372036854775807) : (
  (mks k (0 : Int)).bind fun y2 =>
  (iter (S := Int × Int × (List Int)) (R := (List Int)) (fun s17 =>
  (bif (decide (0 ≤ s17.2.1)) then (nz n).bind fun u26 =>
  (idx s17.2.2 s17.2.1).bind fun x27 =>
  (nz n).bind fun u30 =>
  some (.nx (w64 (Int.tdiv s17.1 n), w64 (s17.2.1 - 1), List.set s17.2.2 (Int.toNat s17.2.1) (Int.tmod s17.1 n))) else some (.br (s17.1, s17.2.1, s17.2.2)))) FU (i, w64 (k - 1), y2)).bind fun o21 => after o21 (fun r_ => some r_) (fun s17 =>
  some s17.2.2)) = some (digs n K i) := by
  subst hk
  rw [mks_ok rfl hK, Option.bind_some]
  have hp : ∀ t : Nat, 0 ≤ i / n ^ t ∧ i / n ^ t ≤ i := fun t => ⟨Int.ediv_nonneg hi (by exact Int.pow_nonneg (by omega)), ediv_le hi (by exact Int.pow_nonneg (by omega))⟩
  rw [iter_br (fun t => (i / n ^ t, (K : Int) - 1 - t, List.replicate (K - t) 0 ++ digs n t i)) (t := (i / n ^ K, -1, digs n K i)) K (by omega)]
  · rfl
  · rw [w64_id (by omega) (by omega)]; simp [digs]
  · intro j hj
    have e2 : List.replicate (K - j) (0 : Int) ++ digs n j i = List.replicate (K - (j + 1)) 0 ++ (0 :: digs n j i) := by
      rw [show K - j = (K - (j + 1)) + 1 by omega, List.replicate_succ', List.append_assoc]; rfl
    have hp1 := hp j
    have e3 : (K : Int) - 1 - j = ((K - (j + 1) : Nat) : Int) := by omega
    simp only [decide_true, show (0 : Int) ≤ (K : Int) - 1 - j by omega, cond_true, nz_ok (show n ≠ 0 by omega), Option.bind_some, tdiv_nn hp1.1, tmod_nn hp1.1]
    rw [w64_id (x := i / n ^ j / n) (by have := Int.ediv_nonneg hp1.1 (show 0 ≤ n by omega); omega) (by have := ediv_le hp1.1 (show 0 ≤ n by omega); omega), w64_id (by omega) (by omega), e2, e3, idx_nat, Int.toNat_natCast]
    simp only [List.getElem?_append, List.length_replicate, Nat.lt_irrefl, if_false, Nat.sub_self, List.getElem?_cons_zero, Option.bind_some, List.set_append, List.set_cons_zero, Option.some.injEq, Ctl.nx.injEq, Prod.mk.injEq]
    refine ⟨?_, by omega, by rw [digs]⟩
    rw [Int.pow_succ, Int.ediv_ediv_of_nonneg (Int.pow_nonneg (by omega))]
  · have : decide ((0 : Int) ≤ (K : Int) - 1 - K) = false := by simp; omega
    simp only [this, cond_false, Nat.sub_self, List.replicate_zero, List.nil_append]
    rw [show (K : Int) - 1 - K = -1 by omega]

theorem l2Args_eq {i k n : Int} {K : Nat} (hk : k = (K : Int)) (hK : K ≤ 4294967296) (hn : 1 ≤ n) (hi : 0 ≤ i) (hi' : i ≤ 9223372036854775807) : s_spec_l2Args n k i = some (digs n K i) :=
  digs_loop hk hK hn hi hi'

theorem argsAt_eq {i k n : Int} {K : Nat} (hk : k = (K : Int)) (hK : K ≤ 4294967296) (hn : 1 ≤ n) (hi : 0 ≤ i) (hi' : i ≤ 9223372036854775807) : s_impl_argsAt i k n = some (digs n K i) :=
  digs_loop hk hK hn hi hi'


theorem eqIntS_eq (a b : List Int) (ha : a.length ≤ 4294967296) : s_laws_eqIntS a b = some (a == b) := by
  unfold s_laws_eqIntS
  by_cases hl : a.length = b.length
  · rw [hl]
    simp only [bne_self_eq_false, cond_false]
    rw [forC0_chk (n := b.length) (fun j => a[j]? == b[j]?) false rfl (by omega)]
    · have : (a == b) = (List.range b.length).all (fun j => a[j]? == b[j]?) := by
        rw [Bool.eq_iff_iff]
        simp only [beq_iff_eq, List.all_eq_true, List.mem_range]
        constructor
        · rintro rfl j _; rfl
        · intro h; apply List.ext_getElem?; intro j
          by_cases hj : j < b.length
          · exact h j hj
          · rw [List.getElem?_eq_none (by omega), List.getElem?_eq_none (by omega)]
      rw [← this]
      cases a == b <;> rfl
    · intro j hj
      have hj' : j < a.length := by omega
      simp only [idx_nat, List.getElem?_eq_getElem hj, List.getElem?_eq_getElem hj', Option.bind_some]
      by_cases h : a[j] = b[j]
      · simp [h]
      · simp [bne, beq_eq_false_iff_ne.2 h]
  · have h1 : (a == b) = false := by
      rw [Bool.eq_false_iff]; intro h; exact hl (by rw [beq_iff_eq.1 h])
    have h2 : ((a.length : Int) != (b.length : Int)) = true := by simp; omega
    rw [h1, h2]; rfl

theorem toIntS_eq (a : List Int) (ha : a.length ≤ 4294967296) : s_laws_toIntS a = some a := by
  unfold s_laws_toIntS
  rw [mks_ok rfl ha, Option.bind_some, forC0_set (fun j => a[j]?.getD 0) (z := 0) (n := a.length) rfl ha rfl]
  · rw [Option.bind_some, after_br', map_range_getElem]
  · intro j s hj hs
    simp [List.getElem?_eq_getElem hj, List.getElem?_eq_getElem (show j < s.length by omega)]


theorem pow_loop {n k : Int} {N K : Nat} (hn : n = (N : Int)) (hk : k = (K : Int)) (hN : 1 ≤ N) (hK : N ^ K ≤ 9223372036854775807) (hK2 : K ≤ 4294967296) : (
  (iter (S := Int × Int) (R := Int) (fun s2 =>
  (bif (decide (0 < s2.1)) then some (.nx (w64 (s2.1 - 1), w64 (s2.2 * n))) else some (.br (s2.1, s2.2)))) FU (k, 1)).bind fun o6 => after o6 (fun r_ => some r_) (fun s2 =>
  some s2.2)) = some ((N ^ K : Nat) : Int) := by
  subst hn hk
  rw [iter_br (fun t => ((K : Int) - t, ((N ^ t : Nat) : Int))) (t := (0, ((N ^ K : Nat) : Int))) K (by omega)]
  · rfl
  · simp
  · intro j hj
    have hd : decide ((0 : Int) < (K : Int) - j) = true := by simp; omega
    have hp : N ^ (j + 1) ≤ N ^ K := Nat.pow_le_pow_right hN (by omega)
    simp only [hd, cond_true]
    rw [w64_id (by omega) (by omega), show ((N ^ j : Nat) : Int) * (N : Int) = ((N ^ (j + 1) : Nat) : Int) by rw [Nat.pow_succ]; simp, w64_nat (by omega)]
    simp; omega
  · simp

theorem power_eq {n k : Int} {N K : Nat} (hn : n = (N : Int)) (hk : k = (K : Int)) (hN : 1 ≤ N) (hK : N ^ K ≤ 9223372036854775807) (hK2 : K ≤ 4294967296) : s_impl_power n k = some ((N ^ K : Nat) : Int) := pow_loop hn hk hN hK hK2

theorem l2Pow_eq {n k : Int} {N K : Nat} (hn : n = (N : Int)) (hk : k = (K : Int)) (hN : 1 ≤ N) (hK : N ^ K ≤ 9223372036854775807) (hK2 : K ≤ 4294967296) : s_spec_l2Pow n k = some ((N ^ K : Nat) : Int) := pow_loop hn hk hN hK hK2


theorem inSize_eq (l : List Int) (n : Int) : s_impl_inSize l n = some (l.all fun x => decide (0 ≤ x) && decide (x < n)) := by
  unfold s_impl_inSize
  rw [forR_chk (fun x => decide (0 ≤ x) && decide (x < n)) false]
  · cases l.all fun x => decide (0 ≤ x) && decide (x < n) <;> rfl
  · intro i x _
    by_cases h : x < 0
    · simp [h]; simp [show ¬ 0 ≤ x by omega]
    · by_cases h' : n ≤ x
      · simp [h, h']; simp [show ¬ x < n by omega]
      · simp [h, h', show 0 ≤ x by omega, show x < n by omega]


theorem l1In_eq (x a b : Int) : s_spec_l1In x a b = some (decide (a ≤ x) && decide (x ≤ b)) := by
  unfold s_spec_l1In
  by_cases h : a ≤ x <;> simp [h]


theorem all_range {α : Type} (l : List α) (p : α → Bool) (d : α) : (List.range l.length).all (fun j => p (l[j]?.getD d)) = l.all p := by
  rw [Bool.eq_iff_iff]
  simp only [List.all_eq_true, List.mem_range]
  constructor
  · intro h x hx
    obtain ⟨i, hi, rfl⟩ := List.mem_iff_getElem.1 hx
    have := h i hi
    simpa [List.getElem?_eq_getElem hi] using this
  · intro h j hj
    rw [List.getElem?_eq_getElem hj]
    exact h _ (List.getElem_mem hj)


theorem pow_small {N K : Nat} (hN8 : N ≤ 8) (hK : K ≤ 3) : N ^ K ≤ 512 := by
  have h1 : N ^ K ≤ 8 ^ K := Nat.pow_le_pow_left hN8 K
  have h2 : 8 ^ K ≤ 8 ^ 3 := Nat.pow_le_pow_right (by omega) hK
  omega

theorem szIntS_eq (a : List Int) (left : Int) (ha : a.length ≤ 9223372036854775807) (h0 : 0 ≤ left) (h1 : left ≤ 4611686018427387904) : s_laws_szIntS a left = some (if left < a.length then -1 else left - a.length) := by
  unfold s_laws_szIntS
  rw [w64_id (by omega) (by omega)]
  by_cases h : left < a.length
  · rw [if_pos h]; simp [show left - (a.length : Int) < 0 by omega]
  · rw [if_neg h]; simp [show ¬ left - (a.length : Int) < 0 by omega]

theorem same_loop (a b : List Int) (ha : a.length ≤ 4294967296) : (
  (bif ((a.length : Int) != (b.length : Int)) then some false else (forC (S := Unit) (R := Bool) (fun k12 s10 =>
  (idx a k12).bind fun x17 =>
  (idx b k12).bind fun x19 =>
  (bif (x17 != x19) then some (.rt false) else some (.nx ()))) 0 (a.length : Int) ()).bind fun o14 => after o14 (fun r_ => some r_) (fun s10 =>
  some true))) = some (a == b) := by
  by_cases hl : a.length = b.length
  · rw [hl]
    simp only [bne_self_eq_false, cond_false]
    rw [forC0_chk (n := b.length) (fun j => a[j]? == b[j]?) false rfl (by omega)]
    · have : (a == b) = (List.range b.length).all (fun j => a[j]? == b[j]?) := by
        rw [Bool.eq_iff_iff]
        simp only [beq_iff_eq, List.all_eq_true, List.mem_range]
        constructor
        · rintro rfl j _; rfl
        · intro h; apply List.ext_getElem?; intro j
          by_cases hj : j < b.length
          · exact h j hj
          · rw [List.getElem?_eq_none (by omega), List.getElem?_eq_none (by omega)]
      rw [← this]
      cases a == b <;> rfl
    · intro j hj
      have hj' : j < a.length := by omega
      simp only [idx_nat, List.getElem?_eq_getElem hj, List.getElem?_eq_getElem hj', Option.bind_some]
      by_cases h : a[j] = b[j]
      · simp [h]
      · simp [bne, beq_eq_false_iff_ne.2 h]
  · have h1 : (a == b) = false := by
      rw [Bool.eq_false_iff]; intro h; exact hl (by rw [beq_iff_eq.1 h])
    have h2 : ((a.length : Int) != (b.length : Int)) = true := by simp; omega
    rw [h1, h2]; rfl

theorem l1Same_eq (a b : List Int) (ha : a.length ≤ 4294967296) : s_spec_l1Same a b = some (a == b) := by
  unfold s_spec_l1Same; exact same_loop a b ha


def NL (T : List Nat) : List Int := T.map fun x : Nat => (x : Int)

@[simp] theorem NL_len (T : List Nat) : (NL T).length = T.length := by simp [NL]

@[simp] theorem NL_nil : NL [] = [] := rfl

@[simp] theorem NL_cons (x : Nat) (T : List Nat) : NL (x :: T) = (x : Int) :: NL T := rfl

theorem NL_app (S T : List Nat) : NL (S ++ T) = NL S ++ NL T := by simp [NL]

theorem NL_inj {S T : List Nat} (h : NL S = NL T) : S = T := by
  induction S generalizing T with
  | nil => cases T with
    | nil => rfl
    | cons y T => cases h
  | cons x S ih => cases T with
    | nil => cases h
    | cons y T =>
      simp only [NL_cons, List.cons.injEq] at h
      rw [ih h.2, show x = y by omega]

theorem NL_beq (S T : List Nat) : (NL S == NL T) = (S == T) := by
  rw [Bool.eq_iff_iff, beq_iff_eq, beq_iff_eq]; exact ⟨NL_inj, fun h => by rw [h]⟩

def ga (T : List Nat) (k : Nat) : Nat := T.getD k 0

theorem ga_get {T : List Nat} {k : Nat} (h : k < T.length) : ga T k = T[k] := by simp [ga, List.getElem?_eq_getElem h]

theorem ga_mem {T : List Nat} {k : Nat} (h : k < T.length) : ga T k ∈ T := by rw [ga_get h]; exact List.getElem_mem h

theorem idx_NL {T : List Nat} {k : Nat} (h : k < T.length) : idx (NL T) (k : Int) = some ((ga T k : Nat) : Int) := by
  rw [idx_nat, ga_get h]; simp [NL, List.getElem?_eq_getElem h]

theorem NL_of {t : List Int} (h : ∀ x ∈ t, 0 ≤ x) : ∃ T : List Nat, t = NL T := by
  refine ⟨t.map Int.toNat, ?_⟩
  unfold NL
  rw [List.map_map]
  conv => lhs; rw [← List.map_id t]
  refine List.map_congr_left fun x hx => ?_
  have := h x hx
  simp; omega

theorem map_ga (T : List Nat) : (List.range T.length).map (ga T) = T := by
  apply List.ext_getElem
  · simp
  · intro i h1 h2
    simp only [List.getElem_map, List.getElem_range]
    exact ga_get h2

theorem w64_add {a b : Nat} (h : a + b ≤ 9223372036854775807) : w64 ((a : Int) + (b : Int)) = ((a + b : Nat) : Int) := by
  rw [w64_id (by omega) (by omega)]; omega

theorem w64_add1 {a : Nat} (h : a + 1 ≤ 9223372036854775807) : w64 ((a : Int) + 1) = ((a + 1 : Nat) : Int) := by
  rw [w64_id (by omega) (by omega)]; omega

theorem w64_mul {a b : Nat} (h : a * b ≤ 9223372036854775807) : w64 ((a : Int) * (b : Int)) = ((a * b : Nat) : Int) := by
  rw [← Int.natCast_mul, w64_nat h]

theorem w64_div {a b : Nat} (h : a ≤ 9223372036854775807) : w64 (Int.tdiv (a : Int) (b : Int)) = ((a / b : Nat) : Int) := by
  rw [tdiv_nat, w64_nat (Nat.le_trans (Nat.div_le_self _ _) h)]

theorem dec_lt (a b : Nat) : decide ((a : Int) < (b : Int)) = decide (a < b) := by rw [decide_eq_decide]; omega

theorem lin2 {x y N M : Nat} (hx : x < N) (hy : y < M) : x * M + y < N * M := by
  calc x * M + y < x * M + M := by omega
    _ = (x + 1) * M := by rw [Nat.add_mul, Nat.one_mul]
    _ ≤ N * M := Nat.mul_le_mul_right M hx

def dig (N : Nat) : Nat → Nat → List Nat
  | 0, _ => []
  | t + 1, i => (i / N ^ t % N) :: dig N t i

@[simp] theorem dig_len (N : Nat) : ∀ (t i : Nat), (dig N t i).length = t
  | 0, _ => rfl
  | t + 1, i => by simp [dig, dig_len N t i]

theorem digs_NL (N : Nat) : ∀ (t i : Nat), digs (N : Int) t (i : Int) = NL (dig N t i)
  | 0, _ => rfl
  | t + 1, i => by
    simp only [digs, dig, NL_cons, digs_NL N t i]
    congr 1

theorem dig_lt {N : Nat} (h : 0 < N) : ∀ (t i : Nat), ∀ x ∈ dig N t i, x < N
  | 0, _, _, h => by cases h
  | t + 1, i, x, hx => by
    rcases List.mem_cons.1 hx with rfl | hx
    · exact Nat.mod_lt _ h
    · exact dig_lt h t i x hx

theorem argsN {i K N : Nat} (hK : K ≤ 4294967296) (hN : 1 ≤ N) (hi : i ≤ 9223372036854775807) : s_impl_argsAt (i : Int) (K : Int) (N : Int) = some (NL (dig N K i)) := by
  rw [argsAt_eq (K := K) rfl hK (by omega) (by omega) (by omega), digs_NL]

theorem l2ArgsN {i K N : Nat} (hK : K ≤ 4294967296) (hN : 1 ≤ N) (hi : i ≤ 9223372036854775807) : s_spec_l2Args (N : Int) (K : Int) (i : Int) = some (NL (dig N K i)) := by
  rw [l2Args_eq (K := K) rfl hK (by omega) (by omega) (by omega), digs_NL]



def ix (N : Nat) (s : Nat) (A : List Nat) : Nat := A.foldl (fun s x => s * N + x) s

theorem ix_lt {N : Nat} : ∀ (A : List Nat) (s : Nat), (∀ x ∈ A, x < N) → ix N s A < (s + 1) * N ^ A.length
  | [], s, _ => by simp [ix]
  | x :: A, s, h => by
    have h1 := ix_lt A (s * N + x) (fun y hy => h y (by simp [hy]))
    have hx := h x (by simp)
    have : (s * N + x + 1) * N ^ A.length ≤ (s + 1) * N * N ^ A.length := by
      apply Nat.mul_le_mul_right; rw [Nat.add_mul, Nat.one_mul]; omega
    show ix N (s * N + x) A < _
    rw [List.length_cons, Nat.pow_succ, Nat.mul_comm (N ^ A.length), ← Nat.mul_assoc]
    omega

theorem ix0_lt {N K : Nat} {A : List Nat} (h : ∀ x ∈ A, x < N) (hl : A.length = K) : ix N 0 A < N ^ K := by
  have := ix_lt A 0 h; rw [hl] at this; simpa using this

theorem compose_eq {F G : List Nat} (h : ∀ x ∈ F, x < G.length) (hl : F.length ≤ 4294967296) : s_impl_compose (NL F) (NL G) = some (NL (F.map (ga G))) := by
  unfold s_impl_compose
  rw [mks_ok rfl (by simpa using hl), Option.bind_some, forC0_set (fun j => ((ga G (ga F j) : Nat) : Int)) (z := 0) (n := F.length) (by simp) (by omega) (by simp)]
  · rw [Option.bind_some, after_br']
    congr 1
    conv => rhs; rw [← map_ga F]
    unfold NL; simp
  · intro j s hj hs
    rw [idx_NL hj, Option.bind_some, idx_NL (h _ (ga_mem hj)), Option.bind_some]
    simp [List.getElem?_eq_getElem (show j < s.length by omega)]

theorem pow_le_512 {N K : Nat} (h8 : N ≤ 8) (hK : K ≤ 3) : N ^ K ≤ 512 := pow_small h8 hK

theorem NL_toNat (T : List Nat) : (NL T).map Int.toNat = T := by
  unfold NL; rw [List.map_map]; exact (List.map_congr_left (fun x _ => by simp)).trans (List.map_id T)

theorem bne_nat (a b : Nat) : ((a : Int) != (b : Int)) = !(a == b) := by rw [bne, beq_nat]


def NLL (L : List (List Nat)) : List (List Int) := L.map NL

@[simp] theorem NLL_len (L : List (List Nat)) : (NLL L).length = L.length := by simp [NLL]

@[simp] theorem NLL_nil : NLL [] = [] := rfl

@[simp] theorem NLL_cons (x : List Nat) (L : List (List Nat)) : NLL (x :: L) = NL x :: NLL L := rfl

def gl (L : List (List Nat)) (k : Nat) : List Nat := L.getD k []

theorem gl_get {L : List (List Nat)} {k : Nat} (h : k < L.length) : gl L k = L[k] := by simp [gl, List.getElem?_eq_getElem h]

theorem gl_mem {L : List (List Nat)} {k : Nat} (h : k < L.length) : gl L k ∈ L := by rw [gl_get h]; exact List.getElem_mem h

theorem idx_NLL {L : List (List Nat)} {k : Nat} (h : k < L.length) : idx (NLL L) (k : Int) = some (NL (gl L k)) := by
  rw [idx_nat, gl_get h]; simp [NLL, List.getElem?_eq_getElem h]

def lexLt : List Nat → List Nat → Bool
  | x :: a, y :: b => if x = y then lexLt a b else decide (x < y)
  | _, _ => false

theorem lexLt_irrefl : ∀ a : List Nat, lexLt a a = false
  | [] => rfl
  | x :: a => by simp [lexLt, lexLt_irrefl a]

theorem lexLt_trans : ∀ {a b c : List Nat}, lexLt a b = true → lexLt b c = true → lexLt a c = true
  | [], _, _, h, _ => by simp [lexLt] at h
  | _ :: _, [], _, h, _ => by simp [lexLt] at h
  | _ :: _, _ :: _, [], _, h => by simp [lexLt] at h
  | x :: a, y :: b, z :: c, h, h' => by
    simp only [lexLt] at h h' ⊢
    by_cases h1 : x = y
    · subst h1
      rw [if_pos rfl] at h
      by_cases h2 : x = z
      · subst h2
        rw [if_pos rfl] at h' ⊢
        exact lexLt_trans h h'
      · rw [if_neg h2] at h' ⊢; exact h'
    · rw [if_neg h1, decide_eq_true_eq] at h
      by_cases h2 : y = z
      · subst h2
        rw [if_neg h1]; simp [h]
      · rw [if_neg h2, decide_eq_true_eq] at h'
        rw [if_neg (by omega)]; simp; omega

theorem lexLt_asymm {a b : List Nat} (h : lexLt a b = true) : lexLt b a = false := by
  cases h' : lexLt b a with
  | false => rfl
  | true => have := lexLt_trans h h'; rw [lexLt_irrefl] at this; cases this


theorem lexLt_find : ∀ (a b : List Nat), a.length ≤ b.length → lexLt a b = (match (List.range a.length).findSome? (fun j => if ga a j = ga b j then none else some (decide (ga a j < ga b j))) with | none => false | some r => r)
  | [], b, _ => by simp [lexLt]
  | x :: a, [], h => by simp at h
  | x :: a, y :: b, h => by
    have ih := lexLt_find a b (by simpa using h)
    simp only [lexLt, List.length_cons, List.range_succ_eq_map, List.findSome?_cons]
    by_cases e : x = y
    · subst e
      rw [if_pos rfl, ih, if_pos (by simp [ga]), List.findSome?_map]
      have : ((fun j => if ga (x :: a) j = ga (x :: b) j then none else some (decide (ga (x :: a) j < ga (x :: b) j))) ∘ Nat.succ) = fun j => if ga a j = ga b j then none else some (decide (ga a j < ga b j)) := by
        funext j; simp [ga]
      rw [this]
    · rw [if_neg e, if_neg (by simpa [ga] using e)]
      simp [ga]

theorem l3Less_eq {a b : List Nat} (h : a.length ≤ b.length) (hl : a.length ≤ 9223372036854775807) : s_spec_l3Less (NL a) (NL b) = some (lexLt a b) := by
  unfold s_spec_l3Less
  rw [forC0_find (n := a.length) (fun j => if ga a j = ga b j then none else some (decide (ga a j < ga b j))) (by simp) hl]
  · rw [Option.bind_some, lexLt_find a b h]
    cases (List.range a.length).findSome? _ <;> rfl
  · intro j hj
    rw [idx_NL hj, idx_NL (show j < b.length by omega)]
    simp only [Option.bind_some, bne_nat]
    by_cases e : ga a j = ga b j
    · rw [if_pos e, e]; simp
    · rw [if_neg e, beq_eq_false_iff_ne.2 e]
      simp only [Bool.not_false, cond_true]
      rw [dec_lt]


theorem l1Same_NL {a b : List Nat} (h : a.length ≤ 4294967296) : s_spec_l1Same (NL a) (NL b) = some (a == b) := by
  rw [l1Same_eq _ _ (by simpa using h), NL_beq]

def Sorted (L : List (List Nat)) : Prop := L.Pairwise fun a b => lexLt a b = true

theorem Sorted.get {L : List (List Nat)} (h : Sorted L) {i j : Nat} (hij : i < j) (hj : j < L.length) : lexLt (gl L i) (gl L j) = true := by
  rw [gl_get (by omega), gl_get hj]
  exact List.pairwise_iff_getElem.1 h i j (by omega) hj hij

def findPos (L : List (List Nat)) (t : List Nat) : Nat := L.countP fun u => lexLt u t

theorem findPos_of {L : List (List Nat)} {t : List Nat} {k : Nat} (hk : k ≤ L.length) (h1 : ∀ i, i < k → lexLt (gl L i) t = true) (h2 : ∀ i, k ≤ i → i < L.length → lexLt (gl L i) t = false) : findPos L t = k := by
  unfold findPos
  conv => lhs; rw [← List.take_append_drop k L, List.countP_append]
  have e1 : (L.take k).countP (fun u => lexLt u t) = (L.take k).length := by
    rw [List.countP_eq_length]
    intro u hu
    obtain ⟨i, hi, rfl⟩ := List.mem_iff_getElem.1 hu
    simp only [List.length_take] at hi
    have := h1 i (by omega)
    rw [gl_get (by omega)] at this
    simpa using this
  have e2 : (L.drop k).countP (fun u => lexLt u t) = 0 := by
    rw [List.countP_eq_zero]
    intro u hu
    obtain ⟨i, hi, rfl⟩ := List.mem_iff_getElem.1 hu
    simp only [List.length_drop] at hi
    have := h2 (k + i) (by omega) (by omega)
    rw [gl_get (by omega)] at this
    simpa using this
  rw [e1, e2, List.length_take]; omega

theorem mem_at {L : List (List Nat)} {t : List Nat} {k : Nat} (hs : Sorted L) (hk : k ≤ L.length) (h1 : ∀ i, i < k → lexLt (gl L i) t = true) (h2 : ∀ i, k ≤ i → i < L.length → lexLt (gl L i) t = false) :
    L.contains t = (decide (k < L.length) && (gl L k == t)) := by
  rw [Bool.eq_iff_iff]
  simp only [List.contains_iff_mem, Bool.and_eq_true, decide_eq_true_eq, beq_iff_eq]
  constructor
  · intro hm
    obtain ⟨i, hi, rfl⟩ := List.mem_iff_getElem.1 hm
    have hik : k ≤ i := by
      rcases Nat.lt_or_ge i k with h | h
      · have := h1 i h; rw [gl_get hi, lexLt_irrefl] at this; cases this
      · exact h
    have : i = k := by
      rcases Nat.lt_or_ge k i with h | h
      · have a := hs.get h hi
        have b := h2 k (Nat.le_refl _) (by omega)
        rw [gl_get hi] at a; rw [b] at a; cases a
      · omega
    subst this
    exact ⟨hi, gl_get hi⟩
  · rintro ⟨h, rfl⟩
    exact gl_mem h

theorem l8Find_eq {L : List (List Nat)} {t : List Nat} (hs : Sorted L) (hk : ∀ u ∈ L, u.length = t.length) (hL : L.length ≤ 4294967296) (ht : t.length ≤ 4294967296) :
    s_spec_l8Find (NLL L) (NL t) = some (((findPos L t : Nat) : Int), L.contains t) := by
  unfold s_spec_l8Find
  have key := iter_inv (step := fun s11 =>
  (bif (decide (s11.1 < s11.2)) then (idx (NLL L) (w64 (Int.tdiv (w64 (s11.1 + s11.2)) 2))).bind fun x18 =>
  (s_spec_l3Less x18 (NL t)).bind fun r23 =>
  (bif r23 then some (.nx (w64 ((w64 (Int.tdiv (w64 (s11.1 + s11.2)) 2)) + 1), s11.2)) else some (.nx (s11.1, w64 (Int.tdiv (w64 (s11.1 + s11.2)) 2)))) else some (Ctl.br (R := Int × Bool) (s11.1, s11.2))))
    (fun s => ∃ f u : Nat, s = ((f : Int), (u : Int)) ∧ f ≤ u ∧ u ≤ L.length ∧ (∀ i, i < f → lexLt (gl L i) t = true) ∧ (∀ i, u ≤ i → i < L.length → lexLt (gl L i) t = false))
    (fun s => (s.2 - s.1).toNat) (fun c => ∃ k : Nat, c = .br ((k : Int), (k : Int)) ∧ k ≤ L.length ∧ (∀ i, i < k → lexLt (gl L i) t = true) ∧ (∀ i, k ≤ i → i < L.length → lexLt (gl L i) t = false))
    FU ((0 : Int), ((NLL L).length : Int)) ⟨0, L.length, by simp, by omega, by omega, fun i h => by omega, fun i h h' => by omega⟩ (by simp [FU]; omega)
  have key := key (by
      rintro s ⟨f, u, rfl, hfu, hu, h1, h2⟩
      simp only [dec_lt]
      by_cases h : f < u
      · left
        have hm : (f + u) / 2 < L.length := by omega
        have e : w64 (Int.tdiv (w64 ((f : Int) + (u : Int))) 2) = (((f + u) / 2 : Nat) : Int) := by
          rw [w64_add (by omega), show (2 : Int) = ((2 : Nat) : Int) from rfl, w64_div (by omega)]
        have hgl := hk _ (gl_mem hm)
        simp only [h, decide_true, cond_true, e]
        rw [idx_NLL hm, Option.bind_some, l3Less_eq (by omega) (by omega), Option.bind_some]
        cases hlt : lexLt (gl L ((f + u) / 2)) t with
        | true =>
          refine ⟨_, rfl, ⟨(f + u) / 2 + 1, u, by rw [w64_add1 (by omega)], by omega, hu, fun i hi => ?_, h2⟩, by rw [w64_add1 (by omega)]; simp; omega⟩
          by_cases hi' : i = (f + u) / 2
          · rw [hi']; exact hlt
          · exact lexLt_trans (hs.get (show i < (f + u) / 2 by omega) hm) hlt
        | false =>
          refine ⟨_, rfl, ⟨f, (f + u) / 2, rfl, by omega, by omega, h1, fun i hi hi2 => ?_⟩, by simp; omega⟩
          by_cases hi' : i = (f + u) / 2
          · rw [hi']; exact hlt
          · cases hx : lexLt (gl L i) t with
            | false => rfl
            | true => have := lexLt_trans (hs.get (show (f + u) / 2 < i by omega) hi2) hx; rw [hlt] at this; cases this
      · right
        have : f = u := by omega
        subst this
        simp only [h, decide_false, cond_false]
        exact ⟨_, rfl, by intro s; simp, f, rfl, hu, h1, h2⟩)
  obtain ⟨c, hc, ⟨k, rfl, hkl, h1, h2⟩, _⟩ := key
  rw [hc, Option.bind_some, after_br']
  rw [findPos_of hkl h1 h2, mem_at hs hkl h1 h2]
  simp only [NLL_len, dec_lt]
  by_cases h : k < L.length
  · simp only [h, decide_true, cond_true, Bool.true_and]
    rw [idx_NLL h, Option.bind_some, l1Same_NL (by rw [hk _ (gl_mem h)]; exact ht), Option.bind_some]
  · simp only [h, decide_false, cond_false, Bool.false_and]

/-- A relation: its tuples, of one length, in order. -/
structure Rel (k : Nat) (L : List (List Nat)) : Prop where
  srt : Sorted L
  len : ∀ u ∈ L, u.length = k

theorem l13Has_eq {k : Nat} {L : List (List Nat)} {t : List Nat} (hR : Rel k L) (hL : L.length ≤ 4294967296) (hk : k ≤ 4294967296) : s_spec_l13Has ((k : Int), NLL L) (NL t) = some (L.contains t) := by
  unfold s_spec_l13Has
  simp only [NL_len, bne_nat]
  by_cases h : t.length = k
  · simp only [h, beq_self_eq_true, Bool.not_true, cond_false]
    rw [l8Find_eq hR.srt (fun u hu => by rw [hR.len u hu, h]) hL (by omega)]; rfl
  · rw [beq_eq_false_iff_ne.2 h]
    simp only [Bool.not_false, cond_true]
    congr 1
    symm
    rw [← Bool.not_eq_true, List.contains_iff_mem]
    intro hm
    exact h (hR.len t hm)



theorem eqS_refl {α : Type} (eq : α → α → Option Bool) (a : List α) (ha : a.length ≤ 9223372036854775807) (h : ∀ x ∈ a, eq x x = some true) :
    (bif ((a.length : Int) != (a.length : Int)) then some false else (forC (S := Unit) (R := Bool) (fun k s => (idx a k).bind fun x => (idx a k).bind fun y => (eq x y).bind fun r => (bif (!r) then some (.rt false) else some (.nx ()))) 0 (a.length : Int) ()).bind fun o => after o (fun r_ => some r_) (fun s => some true)) = some true := by
  rw [bne_self_eq_false, cond_false, forC0_chk (n := a.length) (fun _ => true) false rfl ha]
  · rw [show ((List.range a.length).all fun _ => true) = true by simp]; rfl
  · intro j hj
    simp only [idx_nat, List.getElem?_eq_getElem hj, Option.bind_some, h _ (List.getElem_mem hj)]
    rfl

theorem toS_loop {α : Type} (f : α → Option α) (z : α) (a : List α) (ha : a.length ≤ 4294967296) (h : ∀ x ∈ a, f x = some x) :
    ((mks (a.length : Int) z).bind fun y3 => (forC (S := List α) (R := List α) (fun k s => (idx a k).bind fun x => (f x).bind fun r => (idx s k).bind fun _ => some (.nx (List.set s (Int.toNat k) r))) 0 (a.length : Int) y3).bind fun o => after o (fun r_ => some r_) (fun s => some s)) = some a := by
  rw [mks_ok rfl ha, Option.bind_some, forC0_set (fun j => a[j]?.getD z) (z := z) (n := a.length) rfl ha rfl]
  · rw [Option.bind_some, after_br', map_range_getElem]
  · intro j s hj hs
    simp only [idx_nat, List.getElem?_eq_getElem hj, List.getElem?_eq_getElem (show j < s.length by omega), Option.bind_some, h _ (List.getElem_mem hj), Option.getD_some, Int.toNat_natCast]

/-- Sizes: what is counted is bounded. -/
def SzOk {α : Type} (sz : α → Int → Option Int) (Bd : α → Prop) (a : α) : Prop := ∀ l : Int, 0 ≤ l → l ≤ 1048576 → ∃ v, sz a l = some v ∧ (v < 0 ∨ (Bd a ∧ 0 ≤ v ∧ v ≤ l))

theorem szS_loop {α : Type} (sz : α → Int → Option Int) (Bd : α → Prop) (a : List α) (ha : a.length ≤ 9223372036854775807) (h : ∀ x ∈ a, SzOk sz Bd x) (l : Int) (h0 : 0 ≤ l) (h1 : l ≤ 1048576) :
    ∃ v, (bif (decide ((w64 (l - (a.length : Int))) < 0)) then some (-1) else (forC (S := Int) (R := Int) (fun k s => (idx a k).bind fun x => (sz x s).bind fun r => (bif (decide (r < 0)) then some (.rt (-1)) else some (.nx r))) 0 (a.length : Int) (w64 (l - (a.length : Int)))).bind fun o => after o (fun r_ => some r_) (fun s => some s)) = some v ∧
      (v < 0 ∨ ((a.length ≤ 1048576 ∧ ∀ x ∈ a, Bd x) ∧ 0 ≤ v ∧ v ≤ l)) := by
  rw [w64_id (by omega) (by omega)]
  by_cases hl : l - (a.length : Int) < 0
  · rw [show decide (l - (a.length : Int) < 0) = true by simpa using hl]
    exact ⟨-1, rfl, .inl (by omega)⟩
  · rw [show decide (l - (a.length : Int) < 0) = false by simpa using hl, cond_false]
    rcases forC0_hoare (step := fun k s => (idx a k).bind fun x => (sz x s).bind fun r => (bif (decide (r < 0)) then some (Ctl.rt (S := Int) (-1 : Int)) else some (.nx r))) (fun j s => 0 ≤ s ∧ s ≤ l ∧ ∀ i, i < j → ∀ x, a[i]? = some x → Bd x) (fun _ => False) (fun r => r = -1) (n := a.length) rfl (by omega) (s := l - (a.length : Int)) ⟨by omega, by omega, fun i hi => by omega⟩ (by
      rintro j s hj ⟨hs0, hs1, hb⟩
      obtain ⟨v, hv, hv'⟩ := h a[j] (List.getElem_mem hj) s hs0 (by omega)
      simp only [idx_nat, List.getElem?_eq_getElem hj, Option.bind_some, hv]
      rcases hv' with hv' | ⟨hB, hv0, hv1⟩
      · right; right
        rw [show decide (v < 0) = true by simpa using hv']
        exact ⟨_, rfl, rfl⟩
      · left
        rw [show decide (v < 0) = false by simp; omega]
        refine ⟨_, rfl, hv0, by omega, fun i hi x hx => ?_⟩
        by_cases e : i = j
        · subst e
          rw [List.getElem?_eq_getElem hj] at hx
          cases hx; exact hB
        · exact hb i (by omega) x hx) with ⟨s', e, ⟨a1, a2, a3⟩ | hF⟩ | ⟨r, e, rfl⟩
    · rw [e]
      refine ⟨s', rfl, .inr ⟨⟨by omega, fun x hx => ?_⟩, a1, a2⟩⟩
      obtain ⟨i, hi, rfl⟩ := List.mem_iff_getElem.1 hx
      exact a3 i hi _ (List.getElem?_eq_getElem hi)
    · exact hF.elim
    · rw [e]
      exact ⟨-1, rfl, .inl (by omega)⟩

def B1 (l : List Int) : Prop := l.length ≤ 1048576

def B2 (l : List (List Int)) : Prop := l.length ≤ 1048576 ∧ ∀ x ∈ l, B1 x

theorem szIntS_ok (a : List Int) (ha : a.length ≤ maxLen) : SzOk s_laws_szIntS B1 a := by
  intro l h0 h1
  unfold maxLen at ha
  rw [szIntS_eq a l (by omega) h0 (by omega)]
  by_cases h : l < a.length
  · rw [if_pos h]; exact ⟨-1, rfl, .inl (by omega)⟩
  · rw [if_neg h]; exact ⟨_, rfl, .inr ⟨by unfold B1; omega, by omega, by omega⟩⟩

theorem eqIntS_refl (a : List Int) (ha : B1 a) : s_laws_eqIntS a a = some true := by
  unfold B1 at ha; rw [eqIntS_eq a a (by omega)]; simp

theorem toIntS_ok (a : List Int) (ha : B1 a) : s_laws_toIntS a = some a := by
  unfold B1 at ha; exact toIntS_eq a (by omega)


theorem szIntSS_ok (a : List (List Int)) (ha : a.length ≤ maxLen) (h : ∀ x ∈ a, x.length ≤ maxLen) : SzOk s_laws_szIntSS B2 a := by
  intro l h0 h1
  unfold s_laws_szIntSS
  exact szS_loop s_laws_szIntS B1 a (by unfold maxLen at ha; omega) (fun x hx => szIntS_ok x (h x hx)) l h0 h1

theorem eqIntSS_refl (a : List (List Int)) (ha : B2 a) : s_laws_eqIntSS a a = some true := by
  unfold s_laws_eqIntSS
  exact eqS_refl s_laws_eqIntS a (by have := ha.1; omega) (fun x hx => eqIntS_refl x (ha.2 x hx))

theorem toIntSS_ok (a : List (List Int)) (ha : B2 a) : s_laws_toIntSS a = some a := by
  unfold s_laws_toIntSS
  exact toS_loop s_laws_toIntS [] a (by have := ha.1; omega) (fun x hx => toIntS_ok x (ha.2 x hx))

def BR (r : Int × List (List Int)) : Prop := B2 r.2

theorem szRelation_ok (a : Int × List (List Int)) (ha : a.2.length ≤ maxLen) (h : ∀ x ∈ a.2, x.length ≤ maxLen) : SzOk s_laws_szRelation BR a := by
  intro l h0 h1
  obtain ⟨v, hv, h2⟩ := szIntSS_ok a.2 ha h l h0 h1
  unfold s_laws_szRelation
  rw [hv, Option.bind_some]
  by_cases hn : v < 0
  · rw [show decide (v < 0) = true by simpa using hn]; exact ⟨-1, rfl, .inl (by omega)⟩
  · rw [show decide (v < 0) = false by simpa using hn]; exact ⟨v, rfl, h2⟩

theorem eqRelation_refl (a : Int × List (List Int)) (ha : BR a) : s_laws_eqRelation a a = some true := by
  unfold s_laws_eqRelation
  rw [bne_self_eq_false, cond_false, eqIntSS_refl a.2 ha]; rfl

theorem toRelation_ok (a : Int × List (List Int)) (ha : BR a) : s_laws_toRelation a = some a := by
  unfold s_laws_toRelation; rw [toIntSS_ok a.2 ha]; rfl

abbrev Con := List Int × (Int × List (List Int))


/-- A test, and what it says. -/
def Says (o : Option Bool) (P : Prop) : Prop := ∃ b, o = some b ∧ (b = true ↔ P)

theorem Says.cases {o : Option Bool} {P : Prop} (h : Says o P) : (o = some true ∧ P) ∨ (o = some false ∧ ¬ P) := by
  obtain ⟨b, rfl, hb⟩ := h
  cases b with
  | true => exact .inl ⟨rfl, hb.1 rfl⟩
  | false => exact .inr ⟨rfl, fun hp => by cases hb.2 hp⟩

theorem Says.yes {o : Option Bool} {P : Prop} (h : o = some true) (hp : P) : Says o P := ⟨true, h, by simp [hp]⟩

theorem Says.no {o : Option Bool} {P : Prop} (h : o = some false) (hp : ¬ P) : Says o P := ⟨false, h, by simp [hp]⟩

def cmpL (a b : List Nat) : Int := if lexLt a b then -1 else if lexLt b a then 1 else if a.length < b.length then -1 else if b.length < a.length then 1 else 0

theorem lexLt_same {a b : List Nat} (h : ∀ i, i < a.length → i < b.length → ga a i = ga b i) : lexLt a b = false := by
  induction a generalizing b with
  | nil => cases b <;> rfl
  | cons x a ih =>
    cases b with
    | nil => rfl
    | cons y b =>
      have h0 := h 0 (by simp) (by simp)
      have h0 : x = y := by simpa [ga] using h0
      simp only [lexLt, h0, if_true]
      exact ih fun i h1 h2 => by
        have := h (i + 1) (by simp; omega) (by simp; omega)
        simpa [ga] using this

theorem lexLt_at {a b : List Nat} {j : Nat} (ha : j < a.length) (hb : j < b.length) (h : ∀ i, i < j → ga a i = ga b i) (hj : ga a j < ga b j) : lexLt a b = true := by
  induction j generalizing a b with
  | zero =>
    cases a with
    | nil => simp at ha
    | cons x a => cases b with
      | nil => simp at hb
      | cons y b =>
        simp only [ga, List.getD_cons_zero] at hj
        simp only [lexLt]
        rw [if_neg (by omega)]; simpa using hj
  | succ j ih =>
    cases a with
    | nil => simp at ha
    | cons x a => cases b with
      | nil => simp at hb
      | cons y b =>
        have h0 : x = y := by simpa [ga] using h 0 (by omega)
        simp only [lexLt, h0, if_true]
        refine ih (by simpa using ha) (by simpa using hb) (fun i hi => ?_) (by simpa [ga] using hj)
        have := h (i + 1) (by omega)
        simpa [ga] using this

theorem compareLists_eq {a b : List Nat} (ha : a.length ≤ 4294967296) : s_impl_compareLists (NL a) (NL b) = some (cmpL a b) := by
  unfold s_impl_compareLists
  obtain ⟨c, hc, hq, _⟩ := iter_inv (R := Int) (step := fun s20 =>
  (bif ((decide (s20 < ((NL a).length : Int))) && (decide (s20 < ((NL b).length : Int)))) then (idx (NL a) s20).bind fun x32 =>
  (idx (NL b) s20).bind fun x34 =>
  (bif (x32 != x34) then (idx (NL a) s20).bind fun x38 =>
  (idx (NL b) s20).bind fun x40 =>
  (bif (decide (x38 < x40)) then some (.rt (-1)) else some (.rt 1)) else some (.nx (w64 (s20 + 1)))) else some (.br s20))) (fun s => ∃ j : Nat, s = (j : Int) ∧ j ≤ a.length ∧ ∀ i, i < j → ga a i = ga b i) (fun s => a.length - s.toNat)
    (fun c => (∃ s, c = .br s ∧ lexLt a b = false ∧ lexLt b a = false) ∨ (∃ r, c = .rt r ∧ r = cmpL a b)) FU 0 ⟨0, rfl, by omega, fun i h => by omega⟩ (by simp [FU]; omega) (by
    rintro s ⟨j, rfl, h1, h2⟩
    simp only [NL_len, dec_lt]
    by_cases hl : j < a.length ∧ j < b.length
    · simp only [hl.1, hl.2, decide_true, Bool.and_true, cond_true]
      rw [idx_NL hl.1, idx_NL hl.2]
      simp only [Option.bind_some, bne_nat]
      by_cases he : ga a j = ga b j
      · left
        refine ⟨_, by rw [he, beq_self_eq_true]; rfl, ⟨j + 1, w64_add1 (by omega), by omega, fun i hi => ?_⟩, by rw [w64_add1 (by omega)]; simp; omega⟩
        by_cases e : i = j
        · rw [e]; exact he
        · exact h2 i (by omega)
      · right
        rw [beq_eq_false_iff_ne.2 he]
        simp only [Bool.not_false, cond_true, dec_lt]
        by_cases hlt : ga a j < ga b j
        · rw [show decide (ga a j < ga b j) = true by simpa using hlt]
          refine ⟨_, rfl, by intro s; simp, .inr ⟨_, rfl, ?_⟩⟩
          unfold cmpL; rw [lexLt_at hl.1 hl.2 h2 hlt]; rfl
        · rw [show decide (ga a j < ga b j) = false by simpa using hlt]
          refine ⟨_, rfl, by intro s; simp, .inr ⟨_, rfl, ?_⟩⟩
          have := lexLt_at hl.2 hl.1 (fun i hi => (h2 i hi).symm) (show ga b j < ga a j by omega)
          unfold cmpL; rw [lexLt_asymm this, this]; rfl
    · right
      have : (decide (j < a.length) && decide (j < b.length)) = false := by
        rw [Bool.eq_false_iff]; simpa using hl
      rw [this, cond_false]
      refine ⟨_, rfl, by intro s; simp, .inl ⟨_, rfl, lexLt_same fun i g1 g2 => h2 i (by omega), lexLt_same fun i g1 g2 => (h2 i (by omega)).symm⟩⟩)
  rw [hc]
  rcases hq with ⟨s, rfl, e1, e2⟩ | ⟨r, rfl, rfl⟩
  · simp only [Option.bind_some, after_br', NL_len, dec_lt]
    unfold cmpL
    rw [e1, e2]
    by_cases h1 : a.length < b.length
    · simp [h1]
    · by_cases h2 : b.length < a.length
      · simp [h1, h2]
      · simp [h1, h2]
  · rfl

theorem cmpL_lt {a b : List Nat} (h : a.length = b.length) : cmpL a b < 0 ↔ lexLt a b = true := by
  unfold cmpL
  cases h1 : lexLt a b with
  | true => simp
  | false =>
    simp only [Bool.false_eq_true, if_false, iff_false]
    split
    · omega
    · rw [if_neg (by omega), if_neg (by omega)]; omega


theorem ix_ge (N : Nat) : ∀ (A : List Nat) (s : Nat), s * N ^ A.length ≤ ix N s A
  | [], s => by simp [ix]
  | x :: A, s => by
    have h1 := ix_ge N A (s * N + x)
    show _ ≤ ix N (s * N + x) A
    have : s * N * N ^ A.length ≤ (s * N + x) * N ^ A.length := Nat.mul_le_mul_right _ (by omega)
    rw [List.length_cons, Nat.pow_succ, Nat.mul_comm (N ^ A.length), ← Nat.mul_assoc]
    omega

theorem ix_mono {N : Nat} {a b : List Nat} (hl : a.length = b.length) (ha : ∀ x ∈ a, x < N) {s s' : Nat} (h : s < s') : ix N s a < ix N s' b := by
  have h1 := ix_lt a s ha
  have h2 := ix_ge N b s'
  have h3 : (s + 1) * N ^ a.length ≤ s' * N ^ a.length := Nat.mul_le_mul_right _ h
  rw [hl] at h3 h1
  omega

theorem lex_ix {N : Nat} : ∀ {a b : List Nat} (s : Nat), a.length = b.length → (∀ x ∈ a, x < N) → lexLt a b = true → ix N s a < ix N s b
  | [], [], _, _, _, h => by simp [lexLt] at h
  | [], _ :: _, _, h, _, _ => by simp at h
  | _ :: _, [], _, h, _, _ => by simp at h
  | x :: a, y :: b, s, hl, ha, h => by
    simp only [lexLt] at h
    show ix N (s * N + x) a < ix N (s * N + y) b
    by_cases e : x = y
    · subst e
      rw [if_pos rfl] at h
      exact lex_ix _ (by simpa using hl) (fun z hz => ha z (by simp [hz])) h
    · rw [if_neg e, decide_eq_true_eq] at h
      exact ix_mono (by simpa using hl) (fun z hz => ha z (by simp [hz])) (by omega)

theorem sorted_len {N k : Nat} {L : List (List Nat)} (hR : Rel k L) (hx : ∀ t ∈ L, ∀ x ∈ t, x < N) : L.length ≤ N ^ k := by
  have main : ∀ i, i < L.length → i ≤ ix N 0 (gl L i) := by
    intro i
    induction i with
    | zero => intro _; omega
    | succ i ih =>
      intro hi
      have h1 := ih (by omega)
      have h2 := hR.srt.get (show i < i + 1 by omega) hi
      have h3 := lex_ix (N := N) 0 ((hR.len _ (gl_mem (show i < L.length by omega))).trans (hR.len _ (gl_mem hi)).symm) (hx _ (gl_mem (show i < L.length by omega))) h2
      omega
  rcases Nat.eq_zero_or_pos L.length with h | h
  · omega
  · have h1 := main (L.length - 1) (by omega)
    have h2 := ix0_lt (hx _ (gl_mem (show L.length - 1 < L.length by omega))) (hR.len _ (gl_mem (show L.length - 1 < L.length by omega)))
    omega

theorem sorted_of_steps {L : List (List Nat)} (h : ∀ i, i + 1 < L.length → lexLt (gl L i) (gl L (i + 1)) = true) : Sorted L := by
  unfold Sorted
  rw [List.pairwise_iff_getElem]
  intro i j hi hj hij
  rw [← gl_get hi, ← gl_get hj]
  clear hi
  induction j with
  | zero => omega
  | succ j ih =>
    by_cases e : i = j
    · rw [e]; exact h j hj
    · exact lexLt_trans (ih (by omega) (by omega)) (h j hj)


/-- A relation of the arity k on N elements. -/
structure RelN (N k : Nat) (r : Int × List (List Int)) (L : List (List Nat)) : Prop where
  eq : r = ((k : Int), NLL L)
  k1 : 1 ≤ k
  k3 : k ≤ 3
  rel : Rel k L
  lt : ∀ t ∈ L, ∀ x ∈ t, x < N

def IsRel (N : Nat) (r : Int × List (List Int)) : Prop := ∃ k L, RelN N k r L

/-- The row i of a relation, as its test sees it. -/
def RowOk (N : Nat) (r : Int × List (List Int)) (i : Nat) : Prop := ∃ t : List Nat, r.2[i]? = some (NL t) ∧ ((t.length : Int) = r.1) ∧ (∀ x ∈ t, x < N) ∧ ∀ j, i = j + 1 → ∀ u : List Nat, r.2[j]? = some (NL u) → u.length = t.length → lexLt u t = true

theorem isRel_iff {N : Nat} {r : Int × List (List Int)} : IsRel N r ↔ (1 ≤ r.1 ∧ r.1 ≤ 3) ∧ ∀ i, i < r.2.length → RowOk N r i := by
  constructor
  · rintro ⟨k, L, rfl, k1, k3, hR, hx⟩
    refine ⟨⟨by simp; omega, by simp; omega⟩, fun i hi => ?_⟩
    simp only [NLL_len] at hi
    refine ⟨gl L i, by rw [gl_get hi]; simp [NLL, List.getElem?_eq_getElem hi], by rw [hR.len _ (gl_mem hi)], hx _ (gl_mem hi), fun j e u hu _ => ?_⟩
    subst e
    have hj : j < L.length := by omega
    have : u = gl L j := by
      rw [gl_get hj]
      simp only [NLL, List.getElem?_map, List.getElem?_eq_getElem hj, Option.map_some, Option.some.injEq] at hu
      exact (NL_inj hu).symm
    subst this
    exact hR.srt.get (by omega) hi
  · rintro ⟨⟨h1, h3⟩, h⟩
    let L := r.2.map fun t => t.map Int.toNat
    have hL : r.2 = NLL L := by
      apply List.ext_getElem?
      intro i
      by_cases hi : i < r.2.length
      · obtain ⟨t, ht, _⟩ := h i hi
        rw [ht]
        simp only [L, NLL, List.getElem?_map, ht, Option.map_some, NL_toNat]
      · rw [List.getElem?_eq_none (by omega), List.getElem?_eq_none (by simp [L]; omega)]
    have hll : L.length = r.2.length := by simp [L]
    have hg : ∀ i, i < L.length → ∃ t, gl L i = t ∧ r.2[i]? = some (NL t) := fun i hi => ⟨_, rfl, by rw [hL]; simp [NLL, List.getElem?_eq_getElem hi, gl_get hi]⟩
    have hrow : ∀ i, i < L.length → ((gl L i).length : Int) = r.1 ∧ (∀ x ∈ gl L i, x < N) := fun i hi => by
      obtain ⟨t, ht, e1, e2, _⟩ := h i (by omega)
      obtain ⟨u, rfl, hu⟩ := hg i hi
      rw [hu] at ht
      rw [NL_inj (Option.some.inj ht)]
      exact ⟨e1, e2⟩
    refine ⟨r.1.toNat, L, ⟨?_, by omega, by omega, ⟨?_, fun u hu => ?_⟩, fun t ht => ?_⟩⟩
    · obtain ⟨a, b⟩ := r
      simp only at hL h1
      rw [hL]; simp only [Prod.mk.injEq, and_true]; omega
    · refine sorted_of_steps fun i hi => ?_
      obtain ⟨t, ht, e1, e2, e3⟩ := h (i + 1) (by omega)
      obtain ⟨u, rfl, hu⟩ := hg (i + 1) hi
      obtain ⟨v, hv, hv'⟩ := hg i (by omega)
      rw [hu] at ht
      have : gl L (i + 1) = t := NL_inj (Option.some.inj ht)
      rw [this]
      have a := (hrow i (by omega)).1
      rw [hv] at a ⊢
      exact e3 i rfl v hv' (by omega)
    · obtain ⟨i, hi, rfl⟩ := List.mem_iff_getElem.1 hu
      have := (hrow i hi).1
      rw [gl_get hi] at this; omega
    · obtain ⟨i, hi, rfl⟩ := List.mem_iff_getElem.1 ht
      have := (hrow i hi).2
      rw [gl_get hi] at this; exact this

theorem allIn_NL {N : Nat} {t : List Int} : (t.all fun x => decide (0 ≤ x) && decide (x < (N : Int))) = true ↔ ∃ T : List Nat, t = NL T ∧ ∀ x ∈ T, x < N := by
  simp only [List.all_eq_true, Bool.and_eq_true, decide_eq_true_eq]
  constructor
  · intro h
    obtain ⟨T, rfl⟩ := NL_of fun x hx => (h x hx).1
    refine ⟨T, rfl, fun x hx => ?_⟩
    have := (h (x : Int) (List.mem_map.2 ⟨x, hx, rfl⟩)).2
    omega
  · rintro ⟨T, rfl, h⟩ x hx
    obtain ⟨y, hy, rfl⟩ := List.mem_map.1 hx
    have := h y hy
    omega

theorem isRelation_says {N : Nat} {n : Int} (hn : n = (N : Int)) (r : Int × List (List Int)) (hl : r.2.length ≤ 4294967296) : Says (s_impl_isRelation n r) (IsRel N r) := by
  subst hn
  unfold s_impl_isRelation
  by_cases hk : 1 ≤ r.1 ∧ r.1 ≤ 3
  · rw [show ((decide (r.1 < 1)) || (decide (3 < r.1))) = false by simp; omega, cond_false]
    rcases forC0_hoare (R := Bool) (step := fun k26 s24 =>
  (idx r.2 k26).bind fun x30 =>
  (bif ((x30.length : Int) != r.1) then some (.rt false) else (s_impl_inSize x30 (N : Int)).bind fun r36 =>
  (bif (!r36) then some (.rt false) else (bif (decide (0 < k26)) then (idx r.2 (w64 (k26 - 1))).bind fun x39 =>
  (s_impl_compareLists x39 x30).bind fun r44 =>
  (bif (decide (0 ≤ r44)) then some (.rt false) else some (.nx ())) else some (.nx ()))))) (fun j (_ : Unit) => ∀ i, i < j → RowOk N r i) (fun _ => False) (fun b => b = false ∧ ¬ ∀ i, i < r.2.length → RowOk N r i) (n := r.2.length) rfl (by omega) (s := ()) (fun i hi => by omega) (by
      rintro j ⟨⟩ hj hI
      rw [idx_nat, List.getElem?_eq_getElem hj, Option.bind_some]
      have bad : ¬ RowOk N r j → ∃ b : Bool, (some (Ctl.rt (S := Unit) false) = some (Ctl.rt b)) ∧ (b = false ∧ ¬ ∀ i, i < r.2.length → RowOk N r i) := fun h => ⟨false, rfl, rfl, fun H => h (H j hj)⟩
      have rowAt : ∀ t : List Nat, r.2[j]? = some (NL t) → r.2[j] = NL t := fun t ht => by rw [List.getElem?_eq_getElem hj] at ht; exact Option.some.inj ht
      by_cases h1 : ((r.2[j]).length : Int) = r.1
      · rw [show (((r.2[j]).length : Int) != r.1) = false by simp [h1], cond_false, inSize_eq, Option.bind_some]
        by_cases h2 : ((r.2[j]).all fun x => decide (0 ≤ x) && decide (x < (N : Int))) = true
        · obtain ⟨T, hT, hTx⟩ := allIn_NL.1 h2
          rw [h2]
          simp only [Bool.not_true, cond_false]
          have hrj : r.2[j]? = some (NL T) := by rw [List.getElem?_eq_getElem hj, hT]
          have hTl : (T.length : Int) = r.1 := by rw [hT, NL_len] at h1; exact h1
          cases j with
          | zero =>
            left
            refine ⟨(), rfl, fun i hi => ?_⟩
            obtain rfl : i = 0 := by omega
            exact ⟨T, hrj, hTl, hTx, fun j e => by omega⟩
          | succ j =>
            obtain ⟨u, hu, hul, hux, _⟩ := hI j (by omega)
            rw [show decide ((0 : Int) < ((j + 1 : Nat) : Int)) = true by simp, cond_true, show w64 (((j + 1 : Nat) : Int) - 1) = (j : Int) by rw [w64_id (by omega) (by omega)]; omega, idx_nat, hu, Option.bind_some, hT, compareLists_eq (by omega), Option.bind_some]
            have hsame : u.length = T.length := by omega
            have hc := cmpL_lt (a := u) (b := T) hsame
            cases hlt : lexLt u T with
            | true =>
              left
              rw [hlt] at hc
              have := hc.2 rfl
              rw [show decide (0 ≤ cmpL u T) = false by simp; omega]
              refine ⟨(), rfl, fun i hi => ?_⟩
              by_cases e : i = j + 1
              · subst e
                refine ⟨T, hrj, hTl, hTx, fun j' e' u' hu' _ => ?_⟩
                obtain rfl : j' = j := by omega
                rw [hu] at hu'
                rw [← NL_inj (Option.some.inj hu')]; exact hlt
              · exact hI i (by omega)
            | false =>
              right; right
              rw [hlt] at hc
              have : 0 ≤ cmpL u T := by
                rcases Int.lt_or_le (cmpL u T) 0 with h | h
                · have := hc.1 h; cases this
                · exact h
              rw [show decide (0 ≤ cmpL u T) = true by simpa using this, cond_true]
              refine bad ?_
              rintro ⟨t, ht, _, _, h4⟩
              rw [hrj] at ht
              obtain rfl := NL_inj (Option.some.inj ht)
              have := h4 j rfl u hu hsame
              rw [hlt] at this; cases this
        · right; right
          rw [Bool.not_eq_true] at h2
          rw [h2]
          refine bad ?_
          rintro ⟨t, ht, _, h3, _⟩
          rw [rowAt t ht] at h2
          have := (allIn_NL (t := NL t)).2 ⟨t, rfl, h3⟩
          rw [h2] at this; cases this
      · right; right
        rw [show (((r.2[j]).length : Int) != r.1) = true by simp [h1], cond_true]
        refine bad ?_
        rintro ⟨t, ht, h3, _⟩
        rw [rowAt t ht, NL_len] at h1
        exact h1 h3) with ⟨s', e, h | h⟩ | ⟨b, e, rfl, h⟩
    · exact .yes (by rw [e]; rfl) (isRel_iff.2 ⟨hk, h⟩)
    · exact h.elim
    · exact .no (by rw [e]; rfl) (fun H => h (isRel_iff.1 H).2)
  · rw [show ((decide (r.1 < 1)) || (decide (3 < r.1))) = true by simp; omega]
    exact .no rfl (fun H => hk (isRel_iff.1 H).1)


theorem l2Elements_eq {n : Int} (hn : -9223372036854775807 ≤ n) (hn' : n ≤ 9223372036854775807) (l : List Int) (hl : l.length ≤ 9223372036854775807) : s_spec_l2Elements n l = some (l.all fun x => decide (0 ≤ x) && decide (x < n)) := by
  unfold s_spec_l2Elements
  rw [w64_id (by omega) (by omega), forC0_chk (n := l.length) (fun j => decide (0 ≤ l[j]?.getD 0) && decide (l[j]?.getD 0 < n)) false rfl hl]
  · rw [all_range l (fun x => decide (0 ≤ x) && decide (x < n)) 0]
    cases l.all fun x => decide (0 ≤ x) && decide (x < n) <;> rfl
  · intro j hj
    simp only [idx_nat, List.getElem?_eq_getElem hj, Option.bind_some, Option.getD_some, l1In_eq]
    have : decide (l[j] ≤ n - 1) = decide (l[j] < n) := by rw [decide_eq_decide]; omega
    rw [this]
    cases decide (0 ≤ l[j]) && decide (l[j] < n) <;> rfl

theorem l13Good_says {N : Nat} {n : Int} (hn : n = (N : Int)) (h1 : 1 ≤ N) (h8 : N ≤ 8) (r : Int × List (List Int)) (hl : r.2.length ≤ 4294967296) (hr : ∀ t ∈ r.2, t.length ≤ 4294967296) : Says (s_spec_l13Good n r) (IsRel N r) := by
  subst hn
  unfold s_spec_l13Good
  rw [l1In_eq, Option.bind_some]
  by_cases hk : 1 ≤ r.1 ∧ r.1 ≤ 3
  · obtain ⟨K, hK⟩ : ∃ K : Nat, r.1 = (K : Int) := ⟨r.1.toNat, by omega⟩
    have h512 := pow_le_512 h8 (show K ≤ 3 by omega)
    rw [show (decide (1 ≤ r.1) && decide (r.1 ≤ 3)) = true by simp [hk], Bool.not_true, cond_false, l2Pow_eq (N := N) (K := K) rfl hK h1 (by omega) (by omega), Option.bind_some, Option.bind_some, dec_lt]
    by_cases hlen : r.2.length ≤ N ^ K
    · rw [show decide (N ^ K < r.2.length) = false by simpa using hlen, cond_false]
      rcases forC0_hoare (R := Bool) (step := fun k82 s80 =>
  (idx r.2 k82).bind fun x87 =>
  (s_spec_l8Tuple (N : Int) r.1 x87).bind fun r92 =>
  (bif (!r92) then some (.rt false) else (bif (decide (0 < k82)) then (idx r.2 (w64 (k82 - 1))).bind fun x95 =>
  (idx r.2 k82).bind fun x99 =>
  (s_spec_l3Less x95 x99).bind fun r104 =>
  (bif (!r104) then some (.rt false) else some (.nx ())) else some (.nx ())))) (fun j (_ : Unit) => ∀ i, i < j → RowOk N r i) (fun _ => False) (fun b => b = false ∧ ¬ ∀ i, i < r.2.length → RowOk N r i) (n := r.2.length) rfl (by omega) (s := ()) (fun i hi => by omega) (by
      rintro j ⟨⟩ hj hI
      rw [idx_nat, List.getElem?_eq_getElem hj, Option.bind_some]
      have bad : ¬ RowOk N r j → ∃ b : Bool, (some (Ctl.rt (S := Unit) false) = some (Ctl.rt b)) ∧ (b = false ∧ ¬ ∀ i, i < r.2.length → RowOk N r i) := fun h => ⟨false, rfl, rfl, fun H => h (H j hj)⟩
      have rowAt : ∀ t : List Nat, r.2[j]? = some (NL t) → r.2[j] = NL t := fun t ht => by rw [List.getElem?_eq_getElem hj] at ht; exact Option.some.inj ht
      have e : s_spec_l8Tuple (N : Int) r.1 r.2[j] = some (((r.2[j].length : Int) == r.1) && (r.2[j].all fun x => decide (0 ≤ x) && decide (x < (N : Int)))) := by
        unfold s_spec_l8Tuple
        rw [l2Elements_eq (by omega) (by omega) _ (by have := hr _ (List.getElem_mem hj); omega)]
        cases (r.2[j].length : Int) == r.1 <;> rfl
      rw [e, Option.bind_some]
      by_cases h1 : ((r.2[j]).length : Int) = r.1
      · rw [show (((r.2[j]).length : Int) == r.1) = true by simp [h1], Bool.true_and]
        by_cases h2 : ((r.2[j]).all fun x => decide (0 ≤ x) && decide (x < (N : Int))) = true
        · obtain ⟨T, hT, hTx⟩ := allIn_NL.1 h2
          rw [h2]
          simp only [Bool.not_true, cond_false]
          have hrj : r.2[j]? = some (NL T) := by rw [List.getElem?_eq_getElem hj, hT]
          have hTl : (T.length : Int) = r.1 := by rw [hT, NL_len] at h1; exact h1
          cases j with
          | zero =>
            left
            refine ⟨(), rfl, fun i hi => ?_⟩
            obtain rfl : i = 0 := by omega
            exact ⟨T, hrj, hTl, hTx, fun j e => by omega⟩
          | succ j =>
            obtain ⟨u, hu, hul, hux, _⟩ := hI j (by omega)
            rw [show decide ((0 : Int) < ((j + 1 : Nat) : Int)) = true by simp, cond_true, show w64 (((j + 1 : Nat) : Int) - 1) = (j : Int) by rw [w64_id (by omega) (by omega)]; omega, idx_nat, hu, Option.bind_some, hT, Option.bind_some, l3Less_eq (by omega) (by omega), Option.bind_some]
            have hsame : u.length = T.length := by omega
            cases hlt : lexLt u T with
            | true =>
              left
              refine ⟨(), rfl, fun i hi => ?_⟩
              by_cases e : i = j + 1
              · subst e
                refine ⟨T, hrj, hTl, hTx, fun j' e' u' hu' _ => ?_⟩
                obtain rfl : j' = j := by omega
                rw [hu] at hu'
                rw [← NL_inj (Option.some.inj hu')]; exact hlt
              · exact hI i (by omega)
            | false =>
              right; right
              refine bad ?_
              rintro ⟨t, ht, _, _, h4⟩
              rw [hrj] at ht
              obtain rfl := NL_inj (Option.some.inj ht)
              have := h4 j rfl u hu hsame
              rw [hlt] at this; cases this
        · right; right
          rw [Bool.not_eq_true] at h2
          rw [h2]
          refine bad ?_
          rintro ⟨t, ht, _, h3, _⟩
          rw [rowAt t ht] at h2
          have := (allIn_NL (t := NL t)).2 ⟨t, rfl, h3⟩
          rw [h2] at this; cases this
      · right; right
        rw [show (((r.2[j]).length : Int) == r.1) = false by simp [h1]]
        refine bad ?_
        rintro ⟨t, ht, h3, _⟩
        rw [rowAt t ht, NL_len] at h1
        exact h1 h3) with ⟨s', e, h | h⟩ | ⟨b, e, rfl, h⟩
      · exact .yes (by rw [e]; rfl) (isRel_iff.2 ⟨hk, h⟩)
      · exact h.elim
      · exact .no (by rw [e]; rfl) (fun H => h (isRel_iff.1 H).2)
    · rw [show decide (N ^ K < r.2.length) = true by simp; omega]
      refine .no rfl ?_
      rintro ⟨k, L, rfl, _, _, hR, hx⟩
      have := sorted_len hR hx
      simp only [NLL_len] at hlen
      obtain rfl : k = K := by simp at hK; omega
      omega
  · rw [show (decide (1 ≤ r.1) && decide (r.1 ≤ 3)) = false by rw [Bool.eq_false_iff]; simp; omega]
    exact .no rfl (fun H => hk (isRel_iff.1 H).1)



def NLo (L : List (List Int)) : List (List Nat) := L.map fun t => t.map Int.toNat

theorem NLo_NLL (L : List (List Nat)) : NLo (NLL L) = L := by
  unfold NLo NLL
  rw [List.map_map]
  exact (List.map_congr_left fun x _ => by simp [NL_toNat]).trans (List.map_id L)

def cS (c : Con) : List Nat := c.1.map Int.toNat

def cL (c : Con) : List (List Nat) := NLo c.2.2

/-- A constraint on V variables with N values. -/
structure ConN (V N : Nat) (c : Con) : Prop where
  rel : RelN N (cS c).length c.2 (cL c)
  scope : c.1 = NL (cS c)
  lt : ∀ x ∈ cS c, x < V

theorem conN_of {V N k : Nat} {S : List Nat} {L : List (List Nat)} {c : Con} (h : RelN N k c.2 L) (hS : c.1 = NL S) (hk : S.length = k) (hV : ∀ x ∈ S, x < V) : ConN V N c := by
  have e1 : cS c = S := by unfold cS; rw [hS, NL_toNat]
  have e2 : cL c = L := by unfold cL; rw [h.eq]; exact NLo_NLL L
  exact ⟨by rw [e1, e2, hk]; exact h, by rw [e1, hS], by rw [e1]; exact hV⟩

def sat (c : Con) (W : List Nat) : Bool := (cL c).contains ((cS c).map (ga W))


theorem clone_eq {l : List Int} (h : l.length ≤ 4294967296) : s_impl_clone l = some l := by
  unfold s_impl_clone; rw [app_ok (by simpa using h)]; rfl

theorem l1Own_eq {l : List Int} (h : l.length ≤ 4294967296) : s_spec_l1Own l = some l := by
  unfold s_spec_l1Own; rw [app_ok (by simpa using h)]; rfl

section
set_option linter.unusedVariables false
section
variable {α : Type}
inductive Reach (I : List α) (nx : α → List α) : α → Prop
  | init {x : α} : x ∈ I → Reach I nx x
  | step {x y : α} : Reach I nx x → y ∈ nx x → Reach I nx y
/-- The list has been closed at its first i elements, and at the next one for the first k of its steps. -/
structure Wl (I : List α) (nx : α → List α) (L : List α) (i k : Nat) : Prop where
  nd : L.Nodup
  reach : ∀ x ∈ L, Reach I nx x
  sub : ∀ x ∈ I, x ∈ L
  done : ∀ j (h : j < L.length), j < i → ∀ y ∈ nx L[j], y ∈ L
  part : ∀ (h : i < L.length), ∀ y ∈ (nx L[i]).take k, y ∈ L
theorem Wl.start {I : List α} {nx : α → List α} (h : I.Nodup) : Wl I nx I 0 0 := ⟨h, fun x hx => .init hx, fun _ h => h, fun _ _ h => (by omega), fun h y hy => by simp at hy⟩
theorem Wl.next {I : List α} {nx : α → List α} {L : List α} {i k : Nat} (h : Wl I nx L i k) (hi : i < L.length) (hk : (nx L[i]).length ≤ k) : Wl I nx L (i + 1) 0 := by
  refine ⟨h.nd, h.reach, h.sub, fun j hj hji y hy => ?_, fun h y hy => by simp at hy⟩
  by_cases e : j = i
  · subst e
    exact h.part hj y (by rw [List.take_of_length_le hk]; exact hy)
  · exact h.done j hj (by omega) y hy
theorem Wl.old {I : List α} {nx : α → List α} {L : List α} {i k : Nat} (h : Wl I nx L i k) (hi : i < L.length) (hk : k < (nx L[i]).length) (hy : (nx L[i])[k] ∈ L) : Wl I nx L i (k + 1) :=
  ⟨h.nd, h.reach, h.sub, h.done, fun _ y hz => by
    rw [List.take_add_one, List.getElem?_eq_getElem hk] at hz
    rcases List.mem_append.1 hz with hz | hz
    · exact h.part hi y hz
    · simp at hz; rw [hz]; exact hy⟩
theorem Wl.new {I : List α} {nx : α → List α} {L : List α} {i k : Nat} (h : Wl I nx L i k) (hi : i < L.length) (hk : k < (nx L[i]).length) (hy : (nx L[i])[k] ∉ L) : Wl I nx (L ++ [(nx L[i])[k]]) i (k + 1) := by
  have hr : Reach I nx (nx L[i])[k] := .step (h.reach _ (List.getElem_mem hi)) (List.getElem_mem hk)
  have hg : ∀ j (hj : j < L.length) (hj' : j < (L ++ [(nx L[i])[k]]).length), (L ++ [(nx L[i])[k]])[j] = L[j] := fun j hj hj' => List.getElem_append_left hj
  refine ⟨?_, fun x hx => ?_, fun x hx => List.mem_append.2 (.inl (h.sub x hx)), fun j hj hji y hz => ?_, fun hi' y hz => ?_⟩
  · rw [List.nodup_append]
    exact ⟨h.nd, by simp, fun a ha b hb e => by simp at hb; subst hb; subst e; exact hy ha⟩
  · rcases List.mem_append.1 hx with hx | hx
    · exact h.reach x hx
    · simp at hx; rw [hx]; exact hr
  · rw [hg j (by omega)] at hz
    exact List.mem_append.2 (.inl (h.done j (by omega) hji y hz))
  · rw [hg i hi, List.take_add_one, List.getElem?_eq_getElem hk] at hz
    rcases List.mem_append.1 hz with hz | hz
    · exact List.mem_append.2 (.inl (h.part hi y hz))
    · exact List.mem_append.2 (.inr hz)
theorem Wl.whole {I : List α} {nx : α → List α} {L : List α} {i k : Nat} (h : Wl I nx L i k) (hi : L.length ≤ i) : ∀ x, Reach I nx x ↔ x ∈ L := by
  intro x
  refine ⟨fun hx => ?_, h.reach x⟩
  induction hx with
  | init hx => exact h.sub _ hx
  | step _ hy ih =>
    obtain ⟨j, hj, rfl⟩ := List.mem_iff_getElem.1 ih
    exact h.done j hj (by omega) _ hy
theorem Reach.congr {I I' : List α} {nx nx' : α → List α} (hI : ∀ x ∈ I, x ∈ I') (hn : ∀ x, Reach I' nx' x → ∀ y ∈ nx x, y ∈ nx' x) {x : α} (h : Reach I nx x) : Reach I' nx' x := by
  induction h with
  | init h => exact .init (hI _ h)
  | step _ hy ih => exact .step ih (hn _ ih _ hy)
/-- Two lists of the same elements, each once. -/
theorem perm_of_mem [DecidableEq α] {L M : List α} (h : L.Nodup) (h' : M.Nodup) (he : ∀ x, x ∈ L ↔ x ∈ M) : L.Perm M := (List.perm_ext_iff_of_nodup h h').2 he
theorem length_of_sub [DecidableEq α] : ∀ {L M : List α}, L.Nodup → (∀ x ∈ L, x ∈ M) → L.length ≤ M.length
  | [], _, _, _ => Nat.zero_le _
  | x :: L, M, h, hs => by
    rw [List.nodup_cons] at h
    have hx : x ∈ M := hs x (by simp)
    have := length_of_sub (L := L) (M := M.erase x) h.2 (fun y hy => (List.mem_erase_of_ne (fun e => h.1 (by rw [← e]; exact hy))).2 (hs y (by simp [hy])))
    rw [List.length_erase_of_mem hx] at this
    have := List.length_pos_of_mem hx
    simp only [List.length_cons]; omega
end

end

section
set_option linter.unusedVariables false
section
variable {α : Type}
theorem sorted_unique {le : α → α → Prop} (hant : ∀ x y, le x y → le y x → x = y) : ∀ {L M : List α}, L.Perm M → L.Pairwise le → M.Pairwise le → L = M
  | [], M, h, _, _ => (List.nil_perm.1 h).symm
  | x :: L, [], h, _, _ => by simp at h
  | x :: L, y :: M, h, h1, h2 => by
    rw [List.pairwise_cons] at h1 h2
    have e : x = y := by
      rcases List.mem_cons.1 (h.mem_iff.1 (List.mem_cons_self)) with e | hx
      · exact e
      · rcases List.mem_cons.1 (h.mem_iff.2 (List.mem_cons_self)) with e | hy
        · exact e.symm
        · exact hant x y (h1.1 y hy) (h2.1 x hx)
    subst e
    rw [sorted_unique hant (List.Perm.cons_inv h) h1.2 h2.2]
/-- Put into an ascending list, once. -/
def putS [DecidableEq α] (lt : α → α → Bool) (L : List α) (x : α) : List α :=
  match L with
  | [] => [x]
  | y :: L => if lt y x then y :: putS lt L x else if y = x then y :: L else x :: y :: L
variable [DecidableEq α] {lt : α → α → Bool}
theorem putS_mem (L : List α) (x z : α) : z ∈ putS lt L x ↔ z ∈ L ∨ z = x := by
  induction L with
  | nil => simp [putS]
  | cons y L ih =>
    unfold putS
    by_cases h : lt y x = true
    · rw [if_pos h, List.mem_cons, ih, List.mem_cons, or_assoc]
    · rw [if_neg h]
      by_cases e : y = x
      · rw [if_pos e, List.mem_cons]; subst e
        exact ⟨.inl, fun h => h.elim id .inl⟩
      · rw [if_neg e, List.mem_cons]; exact ⟨fun h => h.elim .inr .inl, fun h => h.elim .inr .inl⟩
theorem putS_sorted (tr : ∀ {x y z}, lt x y = true → lt y z = true → lt x z = true) (tot : ∀ {x y}, lt x y = false → x ≠ y → lt y x = true) {L : List α} (h : L.Pairwise fun a b => lt a b = true) (x : α) : (putS lt L x).Pairwise fun a b => lt a b = true := by
  induction L with
  | nil => simp [putS]
  | cons y L ih =>
    rw [List.pairwise_cons] at h
    unfold putS
    by_cases h1 : lt y x = true
    · rw [if_pos h1, List.pairwise_cons]
      refine ⟨fun z hz => ?_, ih h.2⟩
      rcases (putS_mem L x z).1 hz with hz | rfl
      · exact h.1 z hz
      · exact h1
    · rw [if_neg h1]
      by_cases e : y = x
      · rw [if_pos e, List.pairwise_cons]; exact h
      · rw [if_neg e, List.pairwise_cons]
        have hx : lt x y = true := tot (by simpa using h1) e
        refine ⟨fun z hz => ?_, List.pairwise_cons.2 h⟩
        rcases List.mem_cons.1 hz with rfl | hz
        · exact hx
        · exact tr hx (h.1 z hz)
theorem putS_old (irr : ∀ x, lt x x = false) (tr : ∀ {x y z}, lt x y = true → lt y z = true → lt x z = true) {L : List α} (h : L.Pairwise fun a b => lt a b = true) {x : α} (hx : x ∈ L) : putS lt L x = L := by
  induction L with
  | nil => cases hx
  | cons y L ih =>
    rw [List.pairwise_cons] at h
    unfold putS
    by_cases e : y = x
    · subst e
      rw [if_neg (by rw [irr]; decide), if_pos rfl]
    · have hx' : x ∈ L := (List.mem_cons.1 hx).resolve_left (fun h => e h.symm)
      rw [if_pos (h.1 x hx'), ih h.2 hx']
theorem putS_new {L : List α} {x : α} (hx : x ∉ L) : (putS lt L x).length = L.length + 1 := by
  induction L with
  | nil => rfl
  | cons y L ih =>
    unfold putS
    have h1 : y ≠ x := fun e => hx (by simp [e])
    by_cases h : lt y x = true
    · rw [if_pos h, List.length_cons, ih (fun h => hx (by simp [h]))]; rfl
    · rw [if_neg h, if_neg h1]; rfl
theorem sorted_nodup {β : Type} {lt : β → β → Bool} (irr : ∀ x, lt x x = false) {L : List β} (h : L.Pairwise fun a b => lt a b = true) : L.Nodup :=
  h.imp fun {a b} hab e => by subst e; rw [irr] at hab; cases hab
/-- By the place: what is less goes ahead. -/
theorem putS_at {L : List α} (x : α) : ∃ k, k ≤ L.length ∧ (∀ j (h : j < L.length), j < k → lt L[j] x = true) ∧ (∀ h : k < L.length, lt L[k] x = false) ∧ putS lt L x = if h : k < L.length then (if L[k] = x then L else L.take k ++ x :: L.drop k) else L.take k ++ x :: L.drop k := by
  induction L with
  | nil => exact ⟨0, Nat.le_refl _, fun j h _ => by simp at h, fun h => by simp at h, by simp [putS]⟩
  | cons y L ih =>
    obtain ⟨k, h1, h2, h3, h4⟩ := ih
    by_cases h : lt y x = true
    · refine ⟨k + 1, by simp; exact h1, fun j hj hjk => ?_, fun hk => by simpa using h3 (by simpa using hk), ?_⟩
      · cases j with
        | zero => exact h
        | succ j => simpa using h2 j (by simpa using hj) (by omega)
      · unfold putS
        rw [if_pos h, h4]
        by_cases hk : k < L.length
        · rw [dif_pos hk, dif_pos (by simp; exact hk)]
          by_cases e : L[k] = x
          · rw [if_pos e, if_pos (by simpa using e)]
          · rw [if_neg e, if_neg (by simpa using e)]; simp
        · rw [dif_neg hk, dif_neg (by simp; omega)]; simp
    · refine ⟨0, Nat.zero_le _, fun j _ hj => by omega, fun _ => by simpa using h, ?_⟩
      unfold putS
      rw [if_neg h, dif_pos (by simp)]
      by_cases e : y = x
      · rw [if_pos e, if_pos (by simpa using e)]
      · rw [if_neg e, if_neg (by simpa using e)]; simp
end

end

section
set_option linter.unusedVariables false
theorem ba_beq {a b : ByteArray} : (a == b) = decide (a = b) := by
  by_cases h : a = b
  · rw [(ba_iff (a := a) (b := b)).2 h]; simp [h]
  · cases hc : (a == b) with
    | false => simp [h]
    | true => exact absurd (ba_iff.1 hc) h
theorem mget_put {β : Type} (m : List (ByteArray × β)) (k k' : ByteArray) (x : β) : mget (mput m k x) k' = if k' = k then some x else mget m k' := by
  induction m with
  | nil => simp only [mput, mget, ba_beq, decide_eq_true_eq]
  | cons p m ih =>
    obtain ⟨q, v⟩ := p
    simp only [mput]
    by_cases h : k = q
    · rw [if_pos (by rw [ba_beq]; simpa using h)]
      subst h
      simp only [mget, ba_beq, decide_eq_true_eq]
      by_cases h2 : k' = k
      · rw [if_pos h2]; simp [h2]
      · simp [h2]
    · rw [if_neg (by rw [ba_beq]; simpa using h)]
      simp only [mget, ba_beq, decide_eq_true_eq, ih]
      by_cases h2 : k' = q
      · rw [if_pos h2, if_pos h2, if_neg (fun e => h (by rw [← e, h2]))]
      · rw [if_neg h2, if_neg h2]
theorem bstr_data (ns : List Int) : (bstr ns).data = (ns.map fun n => UInt8.ofNat n.toNat).toArray := by
  have : ∀ (ns : List Int) (r : ByteArray), (ns.foldl (fun r n => r.push (UInt8.ofNat n.toNat)) r).data = r.data ++ (ns.map fun n => UInt8.ofNat n.toNat).toArray := by
    intro ns
    induction ns with
    | nil => intro r; simp
    | cons n ns ih =>
      intro r
      rw [List.foldl_cons, ih]
      show (r.data.push _) ++ _ = _
      apply Array.ext'
      simp
  have h := this ns ByteArray.empty
  unfold bstr
  rw [h]
  apply Array.ext'
  show ([] : List UInt8) ++ _ = _
  simp
theorem bstr_inj {a b : List Int} (ha : ∀ x ∈ a, 0 ≤ x ∧ x < 256) (hb : ∀ x ∈ b, 0 ≤ x ∧ x < 256) (h : bstr a = bstr b) : a = b := by
  have h := congrArg (fun s => s.data.toList) h
  simp only [bstr_data] at h
  have key : ∀ {a b : List Int}, (∀ x ∈ a, 0 ≤ x ∧ x < 256) → (∀ x ∈ b, 0 ≤ x ∧ x < 256) → (a.map fun n => UInt8.ofNat n.toNat) = (b.map fun n => UInt8.ofNat n.toNat) → a = b := by
    intro a
    induction a with
    | nil => intro b _ _ h; cases b with
      | nil => rfl
      | cons _ _ => cases h
    | cons x a ih =>
      intro b ha hb h
      cases b with
      | nil => cases h
      | cons y b =>
        rw [List.map_cons, List.map_cons, List.cons.injEq] at h
        have h1 := congrArg UInt8.toNat h.1
        have hx := ha x (by simp); have hy := hb y (by simp)
        have e1 : (UInt8.ofNat x.toNat).toNat = x.toNat := by
          rw [UInt8.toNat_ofNat']; exact Nat.mod_eq_of_lt (by omega)
        have e2 : (UInt8.ofNat y.toNat).toNat = y.toNat := by
          rw [UInt8.toNat_ofNat']; exact Nat.mod_eq_of_lt (by omega)
        rw [e1, e2] at h1
        rw [ih (fun z hz => ha z (by simp [hz])) (fun z hz => hb z (by simp [hz])) h.2, show x = y by omega]
  exact key ha hb (by simpa using h)
/-- The key of a list of small numbers. -/
def kb (x : Nat) : List Int := [((x / 256 % 256 : Nat) : Int), ((x % 256 : Nat) : Int)]
def kkey (T : List Nat) : ByteArray := bstr (T.flatMap kb)
theorem kkey_inj {S T : List Nat} (hS : ∀ x ∈ S, x < 65536) (hT : ∀ x ∈ T, x < 65536) : kkey S = kkey T ↔ S = T := by
  refine ⟨fun h => ?_, fun h => by rw [h]⟩
  have bd : ∀ T : List Nat, ∀ y ∈ T.flatMap kb, 0 ≤ y ∧ y < 256 := by
    intro T y hy
    obtain ⟨x, _, hx⟩ := List.mem_flatMap.1 hy
    simp only [kb, List.mem_cons, List.not_mem_nil, or_false] at hx
    rcases hx with rfl | rfl <;> omega
  have h := bstr_inj (bd S) (bd T) h
  induction S generalizing T with
  | nil => cases T with
    | nil => rfl
    | cons y T => simp [kb] at h
  | cons x S ih =>
    cases T with
    | nil => simp [kb] at h
    | cons y T =>
      simp only [List.flatMap_cons, kb, List.cons_append, List.nil_append, List.cons.injEq] at h
      have hx := hS x (by simp); have hy := hT y (by simp)
      rw [ih (fun z hz => hS z (by simp [hz])) (fun z hz => hT z (by simp [hz])) (by unfold kkey; rw [h.2.2]) h.2.2, show x = y by omega]

end

def finB (N : Nat) (P Q : List Nat) : Bool := (List.range N).all fun x => ga Q (ga P x) == ga Q x

set_option linter.unusedVariables false
theorem u8_wrap (x : Nat) : IntKind.u8.wrap (x : Int) = ((x % 256 : Nat) : Int) := by
  have : IntKind.u8.wrap (x : Int) = (x : Int) % 256 := by
    unfold IntKind.wrap
    rw [if_neg (by simp [IntKind.signed])]; rfl
  rw [this]; omega

theorem shr8 (x : Nat) : ishr .i64 (x : Int) 8 = ((x / 256 : Nat) : Int) := by
  unfold ishr
  show Int.fdiv (x : Int) (2 ^ 8) = _
  rw [Int.fdiv_eq_ediv_of_nonneg _ (by decide)]
  omega

theorem keyOf_eq {T : List Nat} (hl : T.length ≤ 1000000000) : s_impl_keyOf (NL T) = some (kkey T) := by
  unfold s_impl_keyOf
  have e0 : mkc 0 (w64 (2 * ((NL T).length : Int))) = some () := by
    rw [show (2 * ((NL T).length : Int)) = ((2 * T.length : Nat) : Int) by simp, w64_nat (by omega)]
    unfold mkc; rw [if_pos ⟨by omega, by omega, by omega⟩]
  rw [e0, Option.bind_some]
  have key : ∀ (T S : List Nat) (i : Int), S.length + T.length ≤ 1000000000 → forR (S := (List Int)) (R := ByteArray) (fun _ x16 s13 =>
  (app s13 ([IntKind.u8.wrap (ishr .i64 x16 8), IntKind.u8.wrap x16])).bind fun y27 =>
  some (.nx y27)) i (NL T) (S.flatMap kb) = some (.br ((S ++ T).flatMap kb)) := by
    intro T
    induction T with
    | nil => intro S i _; rw [List.append_nil]; rfl
    | cons x T ih =>
      intro S i h
      have hk : (S.flatMap kb).length = 2 * S.length := by
        clear h
        induction S with
        | nil => rfl
        | cons y S ih => simp [List.flatMap_cons, kb, ih]; omega
      simp only [List.length_cons] at h
      show forR _ i ((x : Int) :: NL T) _ = _
      unfold forR
      simp only [shr8, u8_wrap]
      rw [app_ok (by rw [hk]; simp; omega), Option.bind_some]
      have := ih (S ++ [x]) (i + 1) (by simp; omega)
      simp only [List.flatMap_append, List.flatMap_cons, List.flatMap_nil, List.append_nil, kb] at this ⊢
      simp only [List.append_assoc] at this ⊢
      rw [this]
  have := key T [] 0 (by simpa using hl)
  simp only [List.flatMap_nil, List.nil_append] at this
  rw [show List.replicate (Int.toNat 0) (0 : Int) = [] from rfl, this]
  rfl


theorem slc_take {α : Type} {l : List α} {k : Nat} (h : k ≤ l.length) : slc l 0 (k : Int) = some (l.take k) := by
  unfold slc
  rw [if_pos ⟨by omega, by omega, by omega⟩]
  simp

theorem slc_drop {α : Type} {l : List α} {k : Nat} (h : k ≤ l.length) : slc l (k : Int) (l.length : Int) = some (l.drop k) := by
  unfold slc
  rw [if_pos ⟨by omega, by omega, by omega⟩, Int.toNat_natCast, show ((l.length : Int) - (k : Int)).toNat = l.length - k by omega]
  rw [List.take_of_length_le (by simp)]

def SeenOk (seen : List (ByteArray × Bool)) (L : List (List Nat)) : Prop := ∀ T : List Nat, (∀ x ∈ T, x < 65536) → (mget seen (kkey T)).getD false = decide (T ∈ L)

theorem SeenOk.add {seen : List (ByteArray × Bool)} {L : List (List Nat)} (h : SeenOk seen L) {T : List Nat} (hT : ∀ x ∈ T, x < 65536) : SeenOk (mput seen (kkey T) true) (L ++ [T]) := fun S hS => by
  rw [mget_put]
  by_cases e : S = T
  · subst e; simp
  · rw [if_neg (fun h' => e ((kkey_inj hS hT).1 h')), h S hS]
    simp [e]

def hk1 (N : Nat) (S : List (List Nat)) (L : List Nat) (k i : Nat) : Nat := (List.range i).foldl (fun m i => if finB N (gl S i) (gl S k) then max m (ga L i + 1) else m) 0

def hts (N : Nat) (S : List (List Nat)) : Nat → List Nat
  | 0 => []
  | k + 1 => hts N S k ++ [hk1 N S (hts N S k) k k]

set_option linter.unusedVariables false
def bt (H : List Bool) (c : Nat) : Bool := H.getD c false

def mk (H : List Bool) : List Nat := (List.range H.length).filter (bt H)

theorem idx_bt {H : List Bool} {c : Nat} (h : c < H.length) : idx H (c : Int) = some (bt H c) := by
  rw [idx_nat, List.getElem?_eq_getElem h]; simp [bt, List.getElem?_eq_getElem h]

theorem bt_set {H : List Bool} {c d : Nat} (hc : c < H.length) : bt (H.set c true) d = (decide (d = c) || bt H d) := by
  unfold bt
  by_cases e : d = c
  · subst e; simp [hc]
  · simp [e, Ne.symm e]

theorem marked_eq {H : List Bool} (h : H.length ≤ 100000) : s_impl_marked H = some (NL (mk H)) := by
  unfold s_impl_marked
  rw [forC0_fn (R := List Int) (s := []) (F := fun j => NL ((List.range j).filter (bt H))) (n := H.length) rfl (by omega) rfl (fun j hj => by
    rw [idx_bt hj, Option.bind_some, List.range_succ, List.filter_append]
    cases hb : bt H j with
    | true =>
      have hlen : ((List.range j).filter (bt H)).length ≤ j := by have := List.length_filter_le (bt H) (List.range j); simpa using this
      rw [cond_true, app_ok (by simp; omega), Option.bind_some]
      simp [List.filter, hb, NL]
    | false => simp [List.filter, hb])]
  rfl

theorem power0 {K : Nat} (hK : K ≤ 3) : s_impl_power ((0 : Nat) : Int) (K : Int) = some ((0 ^ K : Nat) : Int) := by
  unfold s_impl_power
  rw [iter_br (R := Int) (F := fun j => (((K - j : Nat) : Int), ((0 ^ j : Nat) : Int))) (s := ((K : Int), (1 : Int))) (t := ((0 : Int), ((0 ^ K : Nat) : Int))) K (by omega) (by simp) (fun j hj => by
    rw [show decide ((0 : Int) < ((K - j : Nat) : Int)) = true by simp; omega, cond_true]
    rw [show ((K - j : Nat) : Int) - 1 = ((K - (j + 1) : Nat) : Int) by omega, w64_nat (by omega), w64_mul (by simp), Nat.pow_succ]) (by
    rw [Nat.sub_self]; rfl)]
  rfl

theorem powerA {L K : Nat} (hK : K ≤ 3) (hL : L ≤ 1000) : s_impl_power (L : Int) (K : Int) = some ((L ^ K : Nat) : Int) := by
  rcases Nat.eq_zero_or_pos L with e | e
  · subst e; exact power0 hK
  · refine power_eq rfl rfl e ?_ (by omega)
    have h1 : L ^ K ≤ 1000 ^ K := Nat.pow_le_pow_left hL K
    have h2 : (1000 : Nat) ^ K ≤ 1000 ^ 3 := Nat.pow_le_pow_right (by omega) hK
    omega

theorem forR_step {α S R : Type} {step : Int → α → S → Option (Ctl S R)} {i : Int} {x : α} {l : List α} {s s' : S} (h : step i x s = some (.nx s')) : forR step i (x :: l) s = forR step (i + 1) l s' := by
  conv => lhs; unfold forR
  rw [h]

theorem marks_eq {X : List Nat} {M : Nat} (hX : ∀ x ∈ X, x < M) (hM : M ≤ 100000) : ∃ H, s_impl_marks (NL X) (M : Int) = some H ∧ H.length = M ∧ ∀ c, bt H c = decide (c ∈ X) := by
  unfold s_impl_marks
  rw [mks_ok rfl (by omega), Option.bind_some]
  have key : ∀ (X : List Nat) (H : List Bool) (i : Int), (∀ x ∈ X, x < H.length) → forR (S := (List Bool)) (R := (List Bool)) (fun _ x17 s14 =>
  (idx s14 x17).bind fun x23 =>
  some (.nx (List.set s14 (Int.toNat x17) true))) i (NL X) H = some (.br (X.foldl (fun H x => H.set x true) H)) := by
    intro X
    induction X with
    | nil => intro H i _; rfl
    | cons x X ih =>
      intro H i hx
      rw [NL_cons, forR_step (s' := H.set x true) (by rw [idx_bt (hx x (by simp)), Option.bind_some]; rfl), ih _ _ (fun y hy => by simpa using hx y (by simp [hy]))]; rfl
  rw [key X _ 0 (by simpa using hX), Option.bind_some, after_br']
  refine ⟨_, rfl, ?_, ?_⟩
  · have : ∀ (X : List Nat) (H : List Bool), (X.foldl (fun H x => H.set x true) H).length = H.length := by
      intro X; induction X with
      | nil => intro H; rfl
      | cons x X ih => intro H; rw [List.foldl_cons, ih]; simp
    rw [this]; simp
  · intro c
    have : ∀ (X : List Nat) (H : List Bool), (∀ x ∈ X, x < H.length) → bt (X.foldl (fun H x => H.set x true) H) c = (decide (c ∈ X) || bt H c) := by
      intro X; induction X with
      | nil => intro H _; simp
      | cons x X ih =>
        intro H hx
        rw [List.foldl_cons, ih _ (fun y hy => by simpa using hx y (by simp [hy])), bt_set (hx x (by simp))]
        rw [Bool.eq_iff_iff]; simp only [Bool.or_eq_true, decide_eq_true_eq, List.mem_cons]
        exact ⟨fun h => h.elim (fun h => .inl (.inr h)) (fun h => h.elim (fun h => .inl (.inl h)) .inr), fun h => h.elim (fun h => h.elim (fun h => .inr (.inl h)) .inl) (fun h => .inr (.inr h))⟩
    rw [this X _ (by simpa using hX)]
    have : bt (List.replicate M false) c = false := by
      unfold bt; rw [List.getD_eq_getElem?_getD, List.getElem?_replicate]; split <;> rfl
    rw [this, Bool.or_false]

set_option linter.unusedVariables false
abbrev RelI := Int × List (List Int)

def BRS (l : List RelI) : Prop := l.length ≤ 1048576 ∧ ∀ x ∈ l, BR x

theorem eqRelationS_refl (a : List RelI) (ha : BRS a) : s_laws_eqRelationS a a = some true := by
  unfold s_laws_eqRelationS
  exact eqS_refl s_laws_eqRelation a (by have := ha.1; omega) (fun x hx => eqRelation_refl x (ha.2 x hx))

theorem idx_getD {L : List (List Int)} {i : Nat} (h : i < L.length) : idx L (i : Int) = some (L.getD i []) := by
  rw [idx_nat, List.getElem?_eq_getElem h]; simp [List.getD_eq_getElem?_getD, List.getElem?_eq_getElem h]

set_option linter.unusedVariables false
/-- A template of which polymorphisms of the arity K can be asked for, few enough. -/
structure Tmp (n : Int) (rels : List RelI) (k : Int) (N K : Nat) : Prop where
  eN : n = (N : Int)
  eK : k = (K : Int)
  n1 : 1 ≤ N
  n4 : N ≤ 4
  k1 : 1 ≤ K
  k3 : K ≤ 3
  l4 : rels.length ≤ 4
  rel : ∀ r ∈ rels, IsRel N r
  pw : N ^ K ≤ 9
  tw : K = 3 → ∀ r ∈ rels, r.2.length ≤ 12

theorem powS_eq (n k : Int) : s_spec_l2Pow n k = s_impl_power n k := rfl

theorem few12_spec (rels : List RelI) (k : Int) (hl : rels.length ≤ 1000) : (forC (S := Unit) (R := Bool) (fun k23 s21 =>
  (bif (k == 3) then (idx rels k23).bind fun x28 =>
  (bif (decide (12 < (x28.2.length : Int))) then some (.rt false) else some (.nx ())) else some (.nx ()))) 0 (rels.length : Int) ()) = some (bif rels.all (fun r => !(k == 3 && decide (12 < r.2.length))) then .br () else .rt false) := by
  have e : rels.all (fun r => !(k == 3 && decide (12 < r.2.length))) = (List.range rels.length).all fun j => !(k == 3 && decide (12 < (rels.getD j (0, [])).2.length)) := by
    have : rels = (List.range rels.length).map fun j => rels.getD j (0, []) := by
      apply List.ext_getElem
      · simp
      · intro i h1 h2; simp [List.getD_eq_getElem?_getD, List.getElem?_eq_getElem h1]
    conv => lhs; rw [this, List.all_map]
    rfl
  rw [e, forC0_chk (fun j => !(k == 3 && decide (12 < (rels.getD j (0, [])).2.length))) false (s := ()) (n := rels.length) rfl (by omega) (fun j hj => by
    cases hk : (k == 3) with
    | false => rfl
    | true =>
      rw [cond_true, idx_nat, List.getElem?_eq_getElem hj, Option.bind_some]
      have : rels.getD j (0, []) = rels[j] := by simp [List.getD_eq_getElem?_getD, List.getElem?_eq_getElem hj]
      rw [this, show decide ((12 : Int) < ((rels[j]).2.length : Int)) = decide (12 < (rels[j]).2.length) from dec_lt 12 _]
      cases decide (12 < (rels[j]).2.length) <;> rfl)]

theorem few12_impl (rels : List RelI) (k : Int) : (forR (S := Unit) (R := Bool) (fun _ x21 s18 =>
  (bif (k == 3) then (bif (decide (12 < (x21.2.length : Int))) then some (.rt false) else some (.nx ())) else some (.nx ()))) 0 rels ()) = some (bif rels.all (fun r => !(k == 3 && decide (12 < r.2.length))) then .br () else .rt false) := by
  rw [forR_chk (fun r => !(k == 3 && decide (12 < r.2.length))) false () 0 rels (fun i r _ => by
    rw [show decide ((12 : Int) < (r.2.length : Int)) = decide (12 < r.2.length) from dec_lt 12 _]
    cases (k == 3) <;> cases decide (12 < r.2.length) <;> rfl)]

theorem rels_spec {n : Int} {N : Nat} (hn : n = (N : Int)) (h1 : 1 ≤ N) (h8 : N ≤ 8) (rels : List RelI) (hb : BRS rels) : Says (s_spec_l14Rels n rels) (rels.length ≤ 4 ∧ ∀ r ∈ rels, IsRel N r) := by
  unfold s_spec_l14Rels
  by_cases h4 : rels.length ≤ 4
  · rw [show decide ((4 : Int) < (rels.length : Int)) = false by simp; omega, cond_false]
    have hg : ∀ r ∈ rels, Says (s_spec_l13Good n r) (IsRel N r) := fun r hr => by
      have := hb.2 r hr
      exact l13Good_says hn h1 h8 r (by have := this.1; omega) (fun t ht => by have := this.2 t ht; unfold B1 at this; omega)
    rcases forC0_hoare (S := Unit) (R := Bool) (step := fun k12 s10 =>
  (idx rels k12).bind fun x16 =>
  (s_spec_l13Good n (x16.1, x16.2)).bind fun r21 =>
  (bif (!r21) then some (.rt false) else some (.nx ()))) (n := rels.length) (hi := (rels.length : Int)) (s := ()) (fun j _ => ∀ i (h : i < rels.length), i < j → IsRel N rels[i]) (fun _ => False) (fun r => r = false ∧ ¬ ∀ r ∈ rels, IsRel N r) rfl (by omega) (fun i _ h => by omega) (fun j s hj hI => by
      rw [idx_nat, List.getElem?_eq_getElem hj, Option.bind_some]
      rcases (hg _ (List.getElem_mem hj)).cases with ⟨e, h⟩ | ⟨e, h⟩
      · have e : s_spec_l13Good n ((rels[j]).1, (rels[j]).2) = some true := e
        rw [e]
        exact .inl ⟨(), rfl, fun i hi hij => by
          by_cases e : i = j
          · subst e; exact h
          · exact hI i hi (by omega)⟩
      · have e : s_spec_l13Good n ((rels[j]).1, (rels[j]).2) = some false := e
        rw [e]
        exact .inr (.inr ⟨false, rfl, rfl, fun H => h (H _ (List.getElem_mem hj))⟩)) with ⟨s', e, h | h⟩ | ⟨r, e, rfl, h⟩
    · rw [e]
      exact ⟨true, rfl, ⟨fun _ => ⟨h4, fun r hr => by obtain ⟨i, hi, rfl⟩ := List.mem_iff_getElem.1 hr; exact h i hi hi⟩, fun _ => rfl⟩⟩
    · exact h.elim
    · rw [e]
      exact ⟨false, rfl, ⟨fun h => (by cases h), fun H => absurd H.2 h⟩⟩
  · rw [show decide ((4 : Int) < (rels.length : Int)) = true by simp; omega, cond_true]
    exact ⟨false, rfl, ⟨fun h => (by cases h), fun H => absurd H.1 h4⟩⟩

theorem rels_impl {n : Int} {N : Nat} (hn : n = (N : Int)) (rels : List RelI) (hb : BRS rels) : Says (s_impl_isTemplate n rels) (rels.length ≤ 4 ∧ ∀ r ∈ rels, IsRel N r) := by
  unfold s_impl_isTemplate
  by_cases h4 : rels.length ≤ 4
  · rw [show decide ((4 : Int) < (rels.length : Int)) = false by simp; omega, cond_false]
    have hg : ∀ r ∈ rels, Says (s_impl_isRelation n r) (IsRel N r) := fun r hr => by
      have := hb.2 r hr
      exact isRelation_says hn r (by have := this.1; omega)
    rcases forR_hoare (S := Unit) (R := Bool) (step := fun _ x14 s11 =>
  (s_impl_isRelation n (x14.1, x14.2)).bind fun r23 =>
  (bif (!r23) then some (.rt false) else some (.nx ()))) (fun pre _ => ∀ r ∈ pre, IsRel N r) (fun _ => False) (fun r => r = false ∧ ¬ ∀ r ∈ rels, IsRel N r) rels [] 0 () (List.forall_mem_nil _) (fun i pre x post s e hI => by
      have hx : x ∈ rels := by rw [e]; simp
      rcases (hg x hx).cases with ⟨e, h⟩ | ⟨e, h⟩
      · have e : s_impl_isRelation n (x.1, x.2) = some true := e
        rw [e]
        exact .inl ⟨(), rfl, fun r hr => by
          simp only [List.nil_append, List.mem_append, List.mem_singleton] at hr
          rcases hr with hr | rfl
          · exact hI r (by simpa using hr)
          · exact h⟩
      · have e : s_impl_isRelation n (x.1, x.2) = some false := e
        rw [e]
        exact .inr (.inr ⟨false, rfl, rfl, fun H => h (H x hx)⟩)) with ⟨s', e, h | h⟩ | ⟨r, e, rfl, h⟩
    · rw [e]
      exact ⟨true, rfl, ⟨fun _ => ⟨h4, fun r hr => h r (by simpa using hr)⟩, fun _ => rfl⟩⟩
    · exact h.elim
    · rw [e]
      exact ⟨false, rfl, ⟨fun h => (by cases h), fun H => absurd H.2 h⟩⟩
  · rw [show decide ((4 : Int) < (rels.length : Int)) = true by simp; omega, cond_true]
    exact ⟨false, rfl, ⟨fun h => (by cases h), fun H => absurd H.1 h4⟩⟩

set_option linter.unusedVariables false
def scpI (n : Int) (rows : List (List Int)) (ds : List Nat) (p : Nat) : Int := ds.foldl (fun acc d => w64 (w64 (acc * n) + ((rows.getD d []).getD p 0))) 0

def scope (n : Int) (r : RelI) (ds : List Nat) : List Int := (List.range r.1.toNat).map (scpI n r.2 ds)

theorem scpI_snoc (n : Int) (rows : List (List Int)) (ds : List Nat) (d p : Nat) : scpI n rows (ds ++ [d]) p = w64 (w64 (scpI n rows ds p * n) + ((rows.getD d []).getD p 0)) := by
  unfold scpI; rw [List.foldl_append]; rfl

theorem rel_row {N : Nat} {r : RelI} {K : Nat} {L : List (List Nat)} (h : RelN N K r L) {d p : Nat} (hd : d < r.2.length) (hp : p < K) : idx r.2 (d : Int) = some (r.2.getD d []) ∧ idx (r.2.getD d []) (p : Int) = some ((r.2.getD d []).getD p 0) := by
  refine ⟨idx_getD hd, ?_⟩
  have e2 : r.2 = NLL L := by rw [h.eq]
  rw [e2] at hd ⊢
  simp only [NLL_len] at hd
  have e3 : (NLL L).getD d [] = NL L[d] := by
    unfold NLL; rw [List.getD_eq_getElem?_getD, List.getElem?_map, List.getElem?_eq_getElem hd]; rfl
  have hl := h.rel.len _ (List.getElem_mem hd)
  rw [e3, idx_nat]
  have hp' : p < (NL L[d]).length := by rw [NL_len]; omega
  rw [List.getElem?_eq_getElem hp', List.getD_eq_getElem?_getD, List.getElem?_eq_getElem hp']; rfl

set_option linter.unusedVariables false
theorem rel_len64 {N kk : Nat} {r : RelI} {L : List (List Nat)} (h4 : N ≤ 4) (hr : RelN N kk r L) : r.2.length ≤ 64 := by
  have e2 : r.2 = NLL L := by rw [hr.eq]
  have h := sorted_len hr.rel hr.lt
  have : N ^ kk ≤ 64 := Nat.le_trans (Nat.pow_le_pow_left h4 kk) (Nat.le_trans (Nat.pow_le_pow_right (by omega) hr.k3) (by decide))
  rw [e2, NLL_len]; omega

theorem cnt_pos {L K i : Nat} (hK : 1 ≤ K) (h : i < L ^ K) : 1 ≤ L := by
  rcases Nat.eq_zero_or_pos L with e | e
  · rw [e, Nat.zero_pow (by omega)] at h; omega
  · exact e

theorem isRel_3 {N : Nat} {r : RelI} (h : IsRel N r) : r.1.toNat ≤ 3 := by
  obtain ⟨k, L, h⟩ := h
  have := h.k3
  rw [h.eq]; simpa using this

set_option linter.unusedVariables false
theorem szRelationS_ok (a : List RelI) (ha : a.length ≤ maxLen) (h : ∀ r ∈ a, r.2.length ≤ maxLen ∧ ∀ x ∈ r.2, x.length ≤ maxLen) : SzOk s_laws_szRelationS BRS a := by
  intro l h0 h1
  unfold s_laws_szRelationS
  exact szS_loop s_laws_szRelation BR a (by unfold maxLen at ha; omega) (fun x hx => szRelation_ok x (h x hx).1 (h x hx).2) l h0 h1

theorem toRelationS_ok (a : List RelI) (ha : BRS a) : s_laws_toRelationS a = some a := by
  unfold s_laws_toRelationS
  exact toS_loop s_laws_toRelation (0, []) a (by have := ha.1; omega) (fun x hx => toRelation_ok x (ha.2 x hx))


section
variable {β : Type}
/-- One after the other, until one says no. -/
def foldB (cb : List Nat → β → Bool × β) : List (List Nat) → β → Bool × β
  | [], b => (true, b)
  | x :: xs, b => bif (cb x b).1 then foldB cb xs (cb x b).2 else (false, (cb x b).2)

theorem foldB_app (cb : List Nat → β → Bool × β) : ∀ (l m : List (List Nat)) (b : β), foldB cb (l ++ m) b = bif (foldB cb l b).1 then foldB cb m (foldB cb l b).2 else (false, (foldB cb l b).2)
  | [], m, b => rfl
  | x :: l, m, b => by
    rw [List.cons_append]
    simp only [foldB]
    cases h : (cb x b).1 with
    | true => simp only [cond_true]; exact foldB_app cb l m _
    | false => rfl

/-- May the value x stand at the place v? -/
def allow (par : List Int) (v x : Nat) : Bool := !(decide (0 ≤ gi par (v : Int)) && (gi par (v : Int) != (x : Int)))

/-- All lists with k more values, as told by good for each beginning. -/
def exts (N : Nat) (par : List Int) (good : List Nat → Bool) : Nat → List Nat → List (List Nat)
  | 0, pre => [pre]
  | k + 1, pre => (List.range N).flatMap fun x => bif allow par pre.length x && good (pre ++ [x]) then exts N par good k (pre ++ [x]) else []

theorem exts_len {N : Nat} {par : List Int} {good : List Nat → Bool} : ∀ (k : Nat) (pre W : List Nat), W ∈ exts N par good k pre → W.length = pre.length + k
  | 0, pre, W, h => by simp [exts] at h; simp [h]
  | k + 1, pre, W, h => by
    simp only [exts, List.mem_flatMap] at h
    obtain ⟨x, _, h⟩ := h
    cases hb : (allow par pre.length x && good (pre ++ [x])) with
    | false => rw [hb] at h; simp at h
    | true =>
      rw [hb] at h
      have := exts_len k _ W h
      simp at this; omega

theorem exts_lt {N : Nat} {par : List Int} {good : List Nat → Bool} : ∀ (k : Nat) (pre W : List Nat), (∀ x ∈ pre, x < N) → W ∈ exts N par good k pre → ∀ x ∈ W, x < N
  | 0, pre, W, hp, h => by simp [exts] at h; rw [h]; exact hp
  | k + 1, pre, W, hp, h => by
    simp only [exts, List.mem_flatMap] at h
    obtain ⟨x, hx, h⟩ := h
    cases hb : (allow par pre.length x && good (pre ++ [x])) with
    | false => rw [hb] at h; simp at h
    | true =>
      rw [hb] at h
      exact exts_lt k _ W (fun y hy => by
        rcases List.mem_append.1 hy with hy | hy
        · exact hp y hy
        · rw [List.mem_singleton.1 hy]; exact List.mem_range.1 hx) h

theorem exts_count {N : Nat} {par : List Int} {good : List Nat → Bool} : ∀ (k : Nat) (pre : List Nat), (exts N par good k pre).length ≤ N ^ k
  | 0, pre => by simp [exts]
  | k + 1, pre => by
    have key : ∀ l : List Nat, (l.flatMap fun x => bif allow par pre.length x && good (pre ++ [x]) then exts N par good k (pre ++ [x]) else []).length ≤ l.length * N ^ k := by
      intro l
      induction l with
      | nil => simp
      | cons x l ih =>
        rw [List.flatMap_cons, List.length_append, List.length_cons, Nat.add_mul, Nat.one_mul, Nat.add_comm]
        refine Nat.add_le_add ih ?_
        cases (allow par pre.length x && good (pre ++ [x])) with
        | true => exact exts_count k _
        | false => exact Nat.zero_le _
    have := key (List.range N)
    rw [List.length_range, Nat.mul_comm, ← Nat.pow_succ] at this
    exact this


/-- A round of the search as it is written. -/
def stepG (ok : List Int → Int → Option Bool) (par : List Int) (go : Int → List Int → β → Option (Bool × List Int × β)) (v : Int) (k : Int) (s : List Int × β) : Option (Ctl (List Int × β) (Bool × List Int × β)) :=
  ((idx par v).bind fun x => (bif (decide (0 ≤ x)) then (idx par v).bind fun x => some (x != k) else some false)).bind fun t =>
  (bif t then some (.nx (s.1, s.2)) else (idx s.1 v).bind fun _ => (ok (List.set s.1 (Int.toNat v) k) v).bind fun g =>
  (bif g then (go (w64 (v + 1)) (List.set s.1 (Int.toNat v) k) s.2).bind fun r =>
  (bif (!r.1) then some (.rt (false, r.2.1, r.2.2)) else some (.nx (r.2.1, r.2.2))) else some (.nx (List.set s.1 (Int.toNat v) k, s.2))))

/-- The search as it is written: the body of the closure, for any check and any end. -/
def eachG (ok : List Int → Int → Option Bool) (cb : List Int → β → Option (Bool × β)) (n : Int) (par : List Int) : Nat → Int → List Int → β → Option (Bool × List Int × β)
  | 0, _, _, _ => none
  | fu + 1, v, vals, b =>
    (bif (v == (vals.length : Int)) then (cb vals b).bind fun r => some (r.1, vals, r.2) else (forC (S := (List Int) × β) (R := Bool × (List Int) × β) (stepG ok par (eachG ok cb n par fu) v) 0 n (vals, b)).bind fun o => after o (fun r_ => some r_) (fun s => some (true, s.1, s.2)))


theorem set_take {W : List Nat} {v j : Nat} (h : v < W.length) : (W.set v j).take (v + 1) = W.take v ++ [j] := by
  rw [List.take_add_one, List.take_set_of_le (Nat.le_refl v), List.getElem?_set_self h]; rfl

theorem NL_set (W : List Nat) (v j : Nat) : List.set (NL W) v (j : Int) = NL (W.set v j) := by
  unfold NL; rw [List.map_set]

theorem all_bytes {V : Nat} (h : V ≤ 100) {v : Nat} (hv : v < V) : w64 ((v : Int) + 1) = ((v + 1 : Nat) : Int) := w64_add1 (by omega)


theorem eachG_eq {ok : List Int → Int → Option Bool} {cb : List Int → β → Option (Bool × β)} {cb' : List Nat → β → Bool × β} {N V : Nat} {par : List Int} {good : List Nat → Bool} (I : β → Prop) (hV : V ≤ 100) (hN : N ≤ 100) (hp : par.length = V)
    (hok : ∀ (W : List Nat) (v : Nat), W.length = V → v < V → (∀ x ∈ W.take (v + 1), x < N) → ok (NL W) (v : Int) = some (good (W.take (v + 1))))
    (hcb : ∀ (W : List Nat) (b : β), W.length = V → (∀ x ∈ W, x < N) → I b → cb (NL W) b = some (cb' W b) ∧ ((cb' W b).1 = true → I (cb' W b).2)) :
    ∀ (k v fu : Nat) (W : List Nat) (b : β), v + k = V → k < fu → W.length = V → (∀ x ∈ W.take v, x < N) → I b →
      ∃ W', W'.length = V ∧ W'.take v = W.take v ∧ eachG ok cb (N : Int) par fu (v : Int) (NL W) b = some ((foldB cb' (exts N par good k (W.take v)) b).1, NL W', (foldB cb' (exts N par good k (W.take v)) b).2) ∧
        ((foldB cb' (exts N par good k (W.take v)) b).1 = true → I (foldB cb' (exts N par good k (W.take v)) b).2) := by
  intro k
  induction k with
  | zero =>
    intro v fu W b hv hfu hW hx hI
    obtain ⟨fu, rfl⟩ : ∃ f, fu = f + 1 := ⟨fu - 1, by omega⟩
    have hvl : W.take v = W := List.take_of_length_le (by omega)
    rw [hvl] at hx ⊢
    obtain ⟨h1, h2⟩ := hcb W b hW hx hI
    refine ⟨W, hW, hvl, ?_, ?_⟩
    · unfold eachG
      rw [NL_len, hW, show ((v : Int) == (V : Int)) = true by simp; omega, cond_true, h1]
      simp only [exts, foldB, Option.bind_some]
      cases hc : (cb' W b).1 <;> simp
    · simp only [exts, foldB]
      cases hc : (cb' W b).1 with
      | true => intro _; exact h2 hc
      | false => intro h; cases h
  | succ k ih =>
    intro v fu W b hv hfu hW hx hI
    obtain ⟨fu, rfl⟩ : ∃ f, fu = f + 1 := ⟨fu - 1, by omega⟩
    have hvV : v < V := by omega
    have hpl : (W.take v).length = v := by rw [List.length_take]; omega
    unfold eachG
    rw [NL_len, hW, show ((v : Int) == (V : Int)) = false by simp; omega, cond_false]
    have key : ∀ (n j : Nat) (W1 : List Nat) (b1 : β), j + n = N → W1.length = V → W1.take v = W.take v → I b1 →
        ∃ W', W'.length = V ∧ W'.take v = W.take v ∧ forI (S := (List Int) × β) (R := Bool × (List Int) × β) (stepG ok par (eachG ok cb (N : Int) par fu) (v : Int)) n (j : Int) (NL W1, b1) =
          some (bif (foldB cb' ((List.range' j n).flatMap fun x => bif allow par v x && good (W.take v ++ [x]) then exts N par good k (W.take v ++ [x]) else []) b1).1
            then .br (NL W', (foldB cb' ((List.range' j n).flatMap fun x => bif allow par v x && good (W.take v ++ [x]) then exts N par good k (W.take v ++ [x]) else []) b1).2)
            else .rt (false, NL W', (foldB cb' ((List.range' j n).flatMap fun x => bif allow par v x && good (W.take v ++ [x]) then exts N par good k (W.take v ++ [x]) else []) b1).2)) ∧
          ((foldB cb' ((List.range' j n).flatMap fun x => bif allow par v x && good (W.take v ++ [x]) then exts N par good k (W.take v ++ [x]) else []) b1).1 = true →
            I (foldB cb' ((List.range' j n).flatMap fun x => bif allow par v x && good (W.take v ++ [x]) then exts N par good k (W.take v ++ [x]) else []) b1).2) := by
      intro n
      induction n with
      | zero => intro j W1 b1 hj h1 h2 h3; exact ⟨W1, h1, h2, rfl, fun _ => h3⟩
      | succ n ihn =>
        intro j W1 b1 hj h1 h2 h3
        have hjN : j < N := by omega
        unfold forI
        have hidx : idx par (v : Int) = some (gi par (v : Int)) := idx_gi (by omega) (by omega)
        have hcast : (j : Int) + 1 = ((j + 1 : Nat) : Int) := by omega
        simp only [stepG, hidx, Option.bind_some]
        have htest : (bif (decide (0 ≤ gi par (v : Int))) then (some (gi par (v : Int) != (j : Int)) : Option Bool) else some false) = some (!allow par v j) := by
          unfold allow
          cases decide (0 ≤ gi par (v : Int)) <;> simp
        rw [htest, Option.bind_some, List.range'_succ, List.flatMap_cons]
        cases hal : allow par v j with
        | false =>
          simp only [Bool.not_false, cond_true, Bool.false_and, cond_false, List.nil_append]
          rw [hcast]
          exact ihn (j + 1) W1 b1 (by omega) h1 h2 h3
        | true =>
          simp only [Bool.not_true, cond_false, Bool.true_and]
          have e1 : idx (NL W1) (v : Int) = some ((ga W1 v : Nat) : Int) := idx_NL (by omega)
          rw [e1, Option.bind_some, Int.toNat_natCast, NL_set]
          have ht : (W1.set v j).take (v + 1) = W.take v ++ [j] := by rw [set_take (by omega), h2]
          have htx : ∀ x ∈ (W1.set v j).take (v + 1), x < N := by
            rw [ht]
            intro x hxx
            rcases List.mem_append.1 hxx with hxx | hxx
            · exact hx x hxx
            · rw [List.mem_singleton.1 hxx]; exact hjN
          rw [hok (W1.set v j) v (by simp [h1]) hvV htx, Option.bind_some, ht]
          have h2' : (W1.set v j).take v = W.take v := by rw [List.take_set_of_le (Nat.le_refl v)]; exact h2
          cases hg : good (W.take v ++ [j]) with
          | false =>
            simp only [cond_false, List.nil_append]
            rw [hcast]
            exact ihn (j + 1) (W1.set v j) b1 (by omega) (by simp [h1]) h2' h3
          | true =>
            simp only [cond_true]
            rw [all_bytes hV hvV]
            obtain ⟨W2, g1, g2, g3, g4⟩ := ih (v + 1) fu (W1.set v j) b1 (by omega) (by omega) (by simp [h1]) htx h3
            rw [ht] at g2 g3 g4
            rw [g3, Option.bind_some]
            simp only []
            have g2' : W2.take v = W.take v := by
              have := congrArg (List.take v) g2
              rw [List.take_take, Nat.min_eq_left (by omega)] at this
              rw [this, List.take_append_of_le_length (by omega), List.take_take, Nat.min_self]
            rw [foldB_app]
            cases hf : (foldB cb' (exts N par good k (W.take v ++ [j])) b1).1 with
            | true =>
              simp only [Bool.not_true, cond_false, cond_true]
              rw [hcast]
              exact ihn (j + 1) W2 _ (by omega) g1 g2' (g4 hf)
            | false =>
              simp only [Bool.not_false, cond_true, cond_false]
              exact ⟨W2, g1, g2', rfl, fun h => by cases h⟩
    obtain ⟨W', a1, a2, a3, a4⟩ := key N 0 W b (by omega) hW rfl hI
    have ex : exts N par good (k + 1) (W.take v) = (List.range' 0 N).flatMap fun x => bif allow par v x && good (W.take v ++ [x]) then exts N par good k (W.take v ++ [x]) else [] := by
      rw [exts, hpl, List.range_eq_range']
    rw [← ex] at a3 a4
    refine ⟨W', a1, a2, ?_, a4⟩
    unfold forC
    rw [show decide (-9223372036854775808 ≤ (0 : Int)) = true by decide, show decide ((N : Int) ≤ 9223372036854775807) = true by simp; omega, Bool.and_true, cond_true, show ((N : Int) - 0).toNat = N by omega]
    rw [show (0 : Int) = ((0 : Nat) : Int) from rfl, a3]
    cases hf : (foldB cb' (exts N par good (k + 1) (W.take v)) b).1 <;> rfl
end


abbrev SS := List (List Int) × Int × Int × Bool

/-- A solution is found. -/
def lfS (s : SS) (W : List Nat) : SS := bif s.2.2.2 && decide (0 < s.2.1) then s else (bif decide ((s.1.length : Int) < s.2.2.1) then s.1 ++ [NL W] else s.1, s.2.1 + 1, s.2.2.1, s.2.2.2)

theorem lfS_keep (s : SS) (W : List Nat) : (lfS s W).2.2 = s.2.2 := by
  unfold lfS; cases s.2.2.2 && decide (0 < s.2.1) <;> rfl

theorem lfS_up (s : SS) (W : List Nat) : s.2.1 ≤ (lfS s W).2.1 ∧ (lfS s W).2.1 ≤ s.2.1 + 1 := by
  unfold lfS; cases s.2.2.2 && decide (0 < s.2.1)
  · exact ⟨by simp only [cond_false]; omega, Int.le_refl _⟩
  · exact ⟨Int.le_refl _, by simp only [cond_true]; omega⟩

theorem lfF_keep : ∀ (l : List (List Nat)) (s : SS), (l.foldl lfS s).2.2 = s.2.2
  | [], _ => rfl
  | x :: l, s => by rw [List.foldl_cons, lfF_keep l, lfS_keep]

theorem lfF_up : ∀ (l : List (List Nat)) (s : SS), s.2.1 ≤ (l.foldl lfS s).2.1 ∧ (l.foldl lfS s).2.1 ≤ s.2.1 + l.length
  | [], s => by simp
  | x :: l, s => by
    have h1 := lfS_up s x
    have h2 := lfF_up l (lfS s x)
    rw [List.foldl_cons, List.length_cons]
    omega

theorem lfF_stop {s : SS} (h : (s.2.2.2 && decide (0 < s.2.1)) = true) : ∀ l : List (List Nat), l.foldl lfS s = s
  | [] => rfl
  | x :: l => by
    rw [List.foldl_cons]
    have : lfS s x = s := by unfold lfS; rw [h]; rfl
    rw [this]; exact lfF_stop h l


/-- The constraints of a place, for a beginning that ends there. -/
def goodA (at_ : List (List Con)) (W : List Nat) : Bool := (at_.getD (W.length - 1) []).all fun c => sat c W


def mx (c : Con) : Nat := (cS c).foldl max 0

def byMax (cs : List Con) (v : Nat) : List Con := cs.filter fun c => mx c == v

def atM (V : Nat) (cs : List Con) : List (List Con) := (List.range V).map (byMax cs)

theorem foldl_max_le (l : List Nat) : ∀ a : Nat, a ≤ l.foldl max a ∧ (∀ x ∈ l, x ≤ l.foldl max a) := by
  induction l with
  | nil => intro a; exact ⟨Nat.le_refl _, by simp⟩
  | cons y l ih =>
    intro a
    obtain ⟨h1, h2⟩ := ih (max a y)
    refine ⟨by rw [List.foldl_cons]; omega, fun x hx => ?_⟩
    rw [List.foldl_cons]
    rcases List.mem_cons.1 hx with rfl | hx
    · omega
    · exact h2 x hx

theorem foldl_max_lt {V : Nat} (l : List Nat) : ∀ a : Nat, a < V → (∀ x ∈ l, x < V) → l.foldl max a < V := by
  induction l with
  | nil => intro a h _; exact h
  | cons y l ih =>
    intro a h hx
    rw [List.foldl_cons]
    exact ih _ (by have := hx y (by simp); omega) (fun x h => hx x (by simp [h]))

theorem mx_lt {V N : Nat} {c : Con} (h : ConN V N c) : mx c < V := by
  have hk := h.rel.k1
  obtain ⟨x, hx⟩ : ∃ x, x ∈ cS c := ⟨(cS c)[0]'(by omega), List.getElem_mem _⟩
  have := h.lt x hx
  exact foldl_max_lt _ 0 (by omega) h.lt

theorem con_mx {V N : Nat} {c : Con} (h : ConN V N c) : ConN (mx c + 1) N c := ⟨h.rel, h.scope, fun x hx => by have := (foldl_max_le (cS c) 0).2 x hx; unfold mx; omega⟩

theorem set_range_map {α : Type} (V m : Nat) (f : Nat → α) (x : α) : ((List.range V).map f).set m x = (List.range V).map fun v => if v = m then x else f v := by
  apply List.ext_getElem
  · simp
  · intro i h1 h2
    simp only [List.length_map, List.length_range] at h2
    rw [List.getElem_set]
    simp only [List.getElem_map, List.getElem_range]
    by_cases h : m = i
    · subst h; simp
    · rw [if_neg h, if_neg (fun e => h e.symm)]

theorem byMax_snoc (cs : List Con) (c : Con) (v : Nat) : byMax (cs ++ [c]) v = if v = mx c then byMax cs v ++ [c] else byMax cs v := by
  unfold byMax
  rw [List.filter_append]
  by_cases h : v = mx c
  · rw [if_pos h]; simp [h]
  · rw [if_neg h]
    have : (mx c == v) = false := by simp; exact fun e => h e.symm
    simp [List.filter, this]

theorem l1Most_eq (a b : Int) : s_spec_l1Most a b = some (max a b) := by
  unfold s_spec_l1Most
  by_cases h : b < a
  · rw [show decide (b < a) = true by simp [h], cond_true, Int.max_eq_left (by omega)]
  · rw [show decide (b < a) = false by simp [h], cond_false, Int.max_eq_right (by omega)]

theorem max_cast (a b : Nat) : max (a : Int) (b : Int) = ((max a b : Nat) : Int) := by omega



theorem relSet_eq {N k : Nat} {r : RelI} {L : List (List Nat)} (h8 : N ≤ 8) (h : RelN N k r L) : ∃ m, s_impl_tupleSet r = some m ∧ ∀ t : List Nat, (∀ x ∈ t, x < 65536) → (mget m (kkey t)).getD false = L.contains t := by
  have hk := h.k3
  have key : ∀ (X pre : List (List Nat)) (m : List (ByteArray × Bool)) (i : Int), (∀ t ∈ X, t.length = k ∧ ∀ x ∈ t, x < N) → SeenOk m pre → ∃ m', forR (S := (List (ByteArray × Bool))) (R := (List (ByteArray × Bool))) (fun _ x21 s18 =>
  (s_impl_keyOf x21).bind fun r30 =>
  some (.nx (mput s18 r30 true))) i (NLL X) m = some (.br m') ∧ SeenOk m' (pre ++ X) := by
    intro X
    induction X with
    | nil => intro pre m i _ h; exact ⟨m, rfl, by rw [List.append_nil]; exact h⟩
    | cons x X ih =>
      intro pre m i hx h
      obtain ⟨hxl, hxv⟩ := hx x (by simp)
      obtain ⟨m', e, h'⟩ := ih (pre ++ [x]) (mput m (kkey x) true) (i + 1) (fun y hy => hx y (by simp [hy])) (h.add (fun y hy => by have := hxv y hy; omega))
      refine ⟨m', ?_, by simpa using h'⟩
      rw [NLL_cons, forR_step (s' := mput m (kkey x) true) (by rw [keyOf_eq (by omega)]; rfl), e]
  obtain ⟨m, e, hs⟩ := key L [] [] 0 (fun t ht => ⟨h.rel.len t ht, h.lt t ht⟩) (fun T hT => by simp [mget])
  refine ⟨m, ?_, fun t ht => ?_⟩
  · rw [h.eq]
    unfold s_impl_tupleSet
    simp only
    rw [e]; rfl
  · rw [hs t ht]; simp

/-- The map of a constraint's tuples. -/
def tsC (c : Con) : List (ByteArray × Bool) := (s_impl_tupleSet c.2).getD []

theorem tsC_ok {V N : Nat} {c : Con} (h8 : N ≤ 8) (h : ConN V N c) : s_impl_tupleSet c.2 = some (tsC c) ∧ ∀ t : List Nat, (∀ x ∈ t, x < 65536) → (mget (tsC c) (kkey t)).getD false = (cL c).contains t := by
  obtain ⟨m, e, hm⟩ := relSet_eq h8 h.rel
  have : tsC c = m := by unfold tsC; rw [e]; rfl
  rw [this]; exact ⟨e, hm⟩


theorem atM_get {V v : Nat} {cs : List Con} (h : v < V) : (atM V cs)[v]? = some (byMax cs v) := by unfold atM; simp [h]

theorem atM_snoc {V : Nat} {cs : List Con} {c : Con} (h : mx c < V) : atM V (cs ++ [c]) = (atM V cs).set (mx c) (byMax cs (mx c) ++ [c]) := by
  unfold atM
  rw [set_range_map]
  congr 1
  funext v
  rw [byMax_snoc]
  by_cases h : v = mx c
  · rw [if_pos h, if_pos h, h]
  · rw [if_neg h, if_neg h]

theorem byMax_len (cs : List Con) (v : Nat) : (byMax cs v).length ≤ cs.length := List.length_filter_le _ _


theorem sat_take {N n : Nat} {c : Con} {W : List Nat} (h : ConN n N c) : sat c (W.take n) = sat c W := by
  unfold sat
  congr 1
  refine List.map_congr_left fun x hx => ?_
  have := h.lt x hx
  unfold ga
  rw [List.getD_eq_getElem?_getD, List.getD_eq_getElem?_getD, List.getElem?_take, if_pos this]



theorem freeTable_eq {V : Nat} (hV : V ≤ 1000) : s_impl_freeTable (V : Int) = some (List.replicate V (-1)) := by
  unfold s_impl_freeTable
  rw [mks_ok rfl (by omega), Option.bind_some, forC0_set (fun _ => (-1 : Int)) (z := 0) (n := V) (by simp) (by omega) rfl]
  · rw [Option.bind_some, after_br']
    congr 1
    apply List.ext_getElem
    · simp
    · intro i h1 h2; simp
  · intro j s hj hs
    rw [idx_nat, List.getElem?_eq_getElem (by omega), Option.bind_some, Int.toNat_natCast]

theorem l14Free_eq {V : Nat} (hV : V ≤ 1000) : s_spec_l14Free (V : Int) = some (List.replicate V (-1)) := by
  unfold s_spec_l14Free
  rw [forC0_app (fun _ => (-1 : Int)) (n := V) rfl (by omega)]
  · rw [Option.bind_some, after_br']
    congr 1
    apply List.ext_getElem
    · simp
    · intro i h1 h2; simp
  · intro j s hj hs; rfl

theorem pow_net {N V : Nat} (hN : N ≤ 4) (hV : V ≤ 9) : N ^ V ≤ 262144 := by
  calc N ^ V ≤ 4 ^ V := Nat.pow_le_pow_left hN V
    _ ≤ 4 ^ 9 := Nat.pow_le_pow_right (by omega) hV
    _ = 262144 := by decide

/-- The solutions, in order. -/
def sols (V N : Nat) (cs : List Con) (par : List Int) : List (List Nat) := exts N par (goodA (atM V cs)) V []

theorem sols_count {V N : Nat} {cs : List Con} {par : List Int} (hN : N ≤ 4) (hV : V ≤ 9) : (sols V N cs par).length ≤ 262144 := Nat.le_trans (exts_count _ _) (pow_net hN hV)

theorem sols_len {V N : Nat} {cs : List Con} {par : List Int} {W : List Nat} (h : W ∈ sols V N cs par) : W.length = V := by have := exts_len _ _ _ h; simpa using this

theorem sols_lt {V N : Nat} {cs : List Con} {par : List Int} {W : List Nat} (h : W ∈ sols V N cs par) : ∀ x ∈ W, x < N := exts_lt _ _ _ (by simp) h

theorem lf_found {l : List (List Nat)} : ∀ {s : SS}, s.2.2.2 = false → (l.foldl lfS s).1 = s.1 ++ NLL (l.take (s.2.2.1 - s.1.length).toNat) := by
  induction l with
  | nil => intro s _; simp
  | cons x l ih =>
    intro s h
    rw [List.foldl_cons, ih (by rw [lfS_keep]; exact h)]
    have hk : (lfS s x).2.2.1 = s.2.2.1 := by rw [lfS_keep]
    rw [hk]
    have hx : (lfS s x).1 = bif decide ((s.1.length : Int) < s.2.2.1) then s.1 ++ [NL x] else s.1 := by unfold lfS; rw [h, Bool.false_and, cond_false]
    rw [hx]
    by_cases hd : (s.1.length : Int) < s.2.2.1
    · rw [show decide ((s.1.length : Int) < s.2.2.1) = true by simpa using hd, cond_true, List.append_assoc]
      congr 1
      rw [List.length_append, List.length_singleton, show (s.2.2.1 - (s.1.length : Int)).toNat = (s.2.2.1 - ((s.1.length + 1 : Nat) : Int)).toNat + 1 by omega, List.take_succ_cons]
      rfl
    · rw [show decide ((s.1.length : Int) < s.2.2.1) = false by simpa using hd, cond_false, show (s.2.2.1 - (s.1.length : Int)).toNat = 0 by omega, List.take_zero, List.take_zero]


theorem mem_exts {N : Nat} {par : List Int} {good : List Nat → Bool} : ∀ (k : Nat) (pre W : List Nat), W ∈ exts N par good k pre ↔
    W.length = pre.length + k ∧ W.take pre.length = pre ∧ ∀ v, pre.length ≤ v → v < W.length → ga W v < N ∧ allow par v (ga W v) = true ∧ good (W.take (v + 1)) = true
  | 0, pre, W => by
    simp only [exts, List.mem_singleton]
    constructor
    · rintro rfl; exact ⟨by simp, by simp, fun v h1 h2 => by omega⟩
    · rintro ⟨h1, h2, _⟩
      rw [← h2, List.take_of_length_le (by omega)]
  | k + 1, pre, W => by
    simp only [exts, List.mem_flatMap, List.mem_range]
    constructor
    · rintro ⟨x, hx, h⟩
      cases hb : (allow par pre.length x && good (pre ++ [x])) with
      | false => rw [hb] at h; simp at h
      | true =>
        rw [hb] at h
        obtain ⟨h1, h2, h3⟩ := (mem_exts k (pre ++ [x]) W).1 h
        rw [Bool.and_eq_true] at hb
        rw [List.length_append, List.length_singleton] at h1 h2 h3
        have e1 : W.take pre.length = pre := by
          have := congrArg (List.take pre.length) h2
          rwa [List.take_take, Nat.min_eq_left (by omega), List.take_append_of_le_length (Nat.le_refl _), List.take_length] at this
        have e2 : ga W pre.length = x := by
          have h5 : pre.length < W.length := by omega
          rw [List.take_add_one, List.getElem?_eq_getElem h5, e1] at h2
          rw [ga_get h5]
          simpa using h2
        refine ⟨by omega, e1, fun v hv1 hv2 => ?_⟩
        by_cases hv : v = pre.length
        · subst hv; rw [e2, h2]; exact ⟨hx, hb⟩
        · exact h3 v (by omega) hv2
    · rintro ⟨h1, h2, h3⟩
      have h5 : pre.length < W.length := by omega
      obtain ⟨g1, g2, g3⟩ := h3 pre.length (Nat.le_refl _) h5
      have e : W.take (pre.length + 1) = pre ++ [ga W pre.length] := by
        rw [List.take_add_one, List.getElem?_eq_getElem h5, h2, ga_get h5]; rfl
      refine ⟨ga W pre.length, g1, ?_⟩
      rw [g2, ← e, g3, Bool.true_and, cond_true, e]
      refine (mem_exts k _ W).2 ⟨by simp; omega, ?_, fun v hv1 hv2 => h3 v (by simp at hv1; omega) hv2⟩
      rw [List.length_append, List.length_singleton]; exact e

theorem mem_sols {V N : Nat} {cs : List Con} {par : List Int} {W : List Nat} : W ∈ sols V N cs par ↔ W.length = V ∧ ∀ v, v < V → ga W v < N ∧ allow par v (ga W v) = true ∧ goodA (atM V cs) (W.take (v + 1)) = true := by
  unfold sols
  rw [mem_exts]
  constructor
  · rintro ⟨h1, _, h3⟩
    simp only [List.length_nil, Nat.zero_add] at h1
    exact ⟨h1, fun v hv => h3 v (Nat.zero_le _) (by omega)⟩
  · rintro ⟨h1, h3⟩
    exact ⟨by simp [h1], by simp, fun v _ hv => h3 v (by omega)⟩

theorem gi_rep {V v : Nat} (h : v < V) : gi (List.replicate V (-1 : Int)) (v : Int) = -1 := by
  rw [gi_nat, List.getD_eq_getElem?_getD, List.getElem?_replicate, if_pos h]; rfl

theorem allow_free {V v x : Nat} (h : v < V) : allow (List.replicate V (-1)) v x = true := by
  unfold allow; rw [gi_rep h]; rfl


def hd? : List (List Nat) → Option (List Int)
  | [] => none
  | x :: _ => some (NL x)

set_option linter.unusedVariables false

theorem snoc_ind {α : Type} {P : List α → Prop} (nil : P []) (snoc : ∀ l x, P l → P (l ++ [x])) (l : List α) : P l := by
  have h : ∀ n, ∀ l : List α, l.length = n → P l := by
    intro n
    induction n with
    | zero => intro l hl; rw [List.length_eq_zero_iff.1 hl]; exact nil
    | succ n ih =>
      intro l hl
      have hne : l ≠ [] := fun e => by rw [e] at hl; simp at hl
      rw [← List.dropLast_concat_getLast hne]
      exact snoc _ _ (ih _ (by rw [List.length_dropLast]; omega))
  exact h _ l rfl

/-- The place of a column, as a number. -/
def plN (N : Nat) (L : List (List Nat)) (ds : List Nat) (p : Nat) : Nat := ds.foldl (fun acc d => acc * N + ga (gl L d) p) 0

theorem plN_snoc (N : Nat) (L : List (List Nat)) (ds : List Nat) (d p : Nat) : plN N L (ds ++ [d]) p = plN N L ds p * N + ga (gl L d) p := by
  unfold plN; rw [List.foldl_append]; rfl

theorem plN_lt {N k : Nat} {r : RelI} {L : List (List Nat)} (hr : RelN N k r L) {p : Nat} (hp : p < k) : ∀ (ds : List Nat), (∀ d ∈ ds, d < L.length) → plN N L ds p < N ^ ds.length := by
  intro ds
  induction ds using snoc_ind with
  | nil => intro _; simp [plN]
  | snoc ds d ih =>
    intro h
    have h1 := ih (fun x hx => h x (by simp [hx]))
    have hd : d < L.length := h d (by simp)
    have h2 : ga (gl L d) p < N := by
      have hm : gl L d ∈ L := by rw [gl_get hd]; exact List.getElem_mem hd
      exact hr.lt _ hm _ (ga_mem (by rw [hr.rel.len _ hm]; exact hp))
    rw [plN_snoc, List.length_append, List.length_singleton, Nat.pow_succ]
    exact lin2 h1 h2

theorem scpI_eq {N k : Nat} {r : RelI} {L : List (List Nat)} (h4 : N ≤ 4) (hr : RelN N k r L) {p : Nat} (hp : p < k) : ∀ (ds : List Nat), ds.length ≤ 3 → (∀ d ∈ ds, d < L.length) → scpI (N : Int) r.2 ds p = ((plN N L ds p : Nat) : Int) := by
  intro ds
  induction ds using snoc_ind with
  | nil => intro _ _; rfl
  | snoc ds d ih =>
    intro hl h
    have hds : ∀ x ∈ ds, x < L.length := fun x hx => h x (by simp [hx])
    rw [List.length_append, List.length_singleton] at hl
    have hd : d < L.length := h d (by simp)
    have h1 := plN_lt hr hp ds hds
    have hm : gl L d ∈ L := by rw [gl_get hd]; exact List.getElem_mem hd
    have h2 : ga (gl L d) p < N := hr.lt _ hm _ (ga_mem (by rw [hr.rel.len _ hm]; exact hp))
    have hpw : N ^ ds.length ≤ 64 := Nat.le_trans (Nat.pow_le_pow_left h4 _) (Nat.le_trans (Nat.pow_le_pow_right (by omega) (show ds.length ≤ 3 by omega)) (by decide))
    have hmul : plN N L ds p * N ≤ 64 * 4 := Nat.mul_le_mul (by omega) h4
    have e2 : (r.2.getD d []).getD p 0 = ((ga (gl L d) p : Nat) : Int) := by
      rw [hr.eq]
      show ((NLL L).getD d []).getD p 0 = _
      have : (NLL L).getD d [] = NL (gl L d) := by
        unfold NLL; rw [List.getD_eq_getElem?_getD, List.getElem?_map, List.getElem?_eq_getElem hd, gl_get hd]; rfl
      rw [this]
      have hpl : p < (gl L d).length := by rw [hr.rel.len _ hm]; exact hp
      unfold NL
      rw [List.getD_eq_getElem?_getD, List.getElem?_map, List.getElem?_eq_getElem hpl, ga_get hpl]; rfl
    rw [scpI_snoc, ih (by omega) hds, e2, w64_mul (by omega), plN_snoc]
    rw [← Int.natCast_add, w64_nat (by omega)]

/-- The demand of a choice of rows. -/
def conI (n : Int) (K : Nat) (r : RelI) (i : Nat) : Con := (scope n r (dig r.2.length K i), r)

def consR (n : Int) (K : Nat) (r : RelI) : List Con := (List.range (r.2.length ^ K)).map (conI n K r)

def consA (n : Int) (K : Nat) (rels : List RelI) : List Con := rels.flatMap (consR n K)

theorem scope_NL {N K kk : Nat} {r : RelI} {L : List (List Nat)} (h4 : N ≤ 4) (hr : RelN N kk r L) {ds : List Nat} (hl : ds.length ≤ 3) (hd : ∀ d ∈ ds, d < L.length) : scope (N : Int) r ds = NL ((List.range kk).map (plN N L ds)) := by
  have hkk : r.1 = (kk : Int) := by rw [hr.eq]
  unfold scope NL
  rw [hkk, Int.toNat_natCast, List.map_map]
  refine List.map_congr_left fun p hp => ?_
  exact scpI_eq h4 hr (List.mem_range.1 hp) ds hl hd

theorem rel_L {N kk : Nat} {r : RelI} {L : List (List Nat)} (hr : RelN N kk r L) : r.2.length = L.length := by rw [hr.eq]; simp

theorem conI_ok {n : Int} {rels : List RelI} {k : Int} {N K : Nat} (h : Tmp n rels k N K) {r : RelI} (hmem : r ∈ rels) {i : Nat} (hi : i < r.2.length ^ K) : ConN (N ^ K) N (conI n K r i) := by
  obtain ⟨kk, L, hr⟩ := h.rel _ hmem
  have hL := cnt_pos h.k1 hi
  have e := rel_L hr
  have hdl : ∀ d ∈ dig r.2.length K i, d < L.length := fun d hd => by rw [← e]; exact dig_lt hL K i d hd
  have hlen : (dig r.2.length K i).length = K := dig_len _ _ _
  refine conN_of (k := kk) (S := (List.range kk).map (plN N L (dig r.2.length K i))) (L := L) hr ?_ (by simp) (fun x hx => ?_)
  · show scope n r _ = _
    rw [h.eN]
    exact scope_NL (K := K) h.n4 hr (by have := h.k3; omega) hdl
  · obtain ⟨p, hp, rfl⟩ := List.mem_map.1 hx
    have := plN_lt hr (List.mem_range.1 hp) _ hdl
    rwa [hlen] at this

theorem consR_ok {n : Int} {rels : List RelI} {k : Int} {N K : Nat} (h : Tmp n rels k N K) {r : RelI} (hmem : r ∈ rels) : ∀ c ∈ consR n K r, ConN (N ^ K) N c := by
  intro c hc
  unfold consR at hc
  obtain ⟨i, hi, rfl⟩ := List.mem_map.1 hc
  exact conI_ok h hmem (List.mem_range.1 hi)

theorem consA_ok {n : Int} {rels : List RelI} {k : Int} {N K : Nat} (h : Tmp n rels k N K) : ∀ c ∈ consA n K rels, ConN (N ^ K) N c := by
  intro c hc
  unfold consA at hc
  obtain ⟨r, hr, hc⟩ := List.mem_flatMap.1 hc
  exact consR_ok h hr c hc

theorem consR_len {n : Int} {rels : List RelI} {k : Int} {N K : Nat} (h : Tmp n rels k N K) {r : RelI} (hmem : r ∈ rels) : (consR n K r).length ≤ 262144 := by
  obtain ⟨kk, L, hr⟩ := h.rel _ hmem
  have h64 := rel_len64 h.n4 hr
  unfold consR
  rw [List.length_map, List.length_range]
  exact Nat.le_trans (Nat.pow_le_pow_left h64 K) (Nat.le_trans (Nat.pow_le_pow_right (by omega) h.k3) (by decide))

theorem flat_len {n : Int} {K : Nat} : ∀ (l : List RelI), (∀ r ∈ l, (consR n K r).length ≤ 262144) → (consA n K l).length ≤ l.length * 262144
  | [], _ => by simp [consA]
  | r :: l, h => by
    have h1 := flat_len l (fun x hx => h x (by simp [hx]))
    have h2 := h r (by simp)
    unfold consA at h1 ⊢
    rw [List.flatMap_cons, List.length_append, List.length_cons]
    omega

theorem consA_len {n : Int} {rels : List RelI} {k : Int} {N K : Nat} (h : Tmp n rels k N K) : (consA n K rels).length ≤ 1048576 := by
  have h1 := flat_len (n := n) (K := K) rels (fun r hr => consR_len h hr)
  have := h.l4
  omega

theorem mx_map {c : Con} {l : List Nat} (h : c.1 = NL l) : mx c = l.foldl max 0 := by
  unfold mx cS; rw [h, NL_toNat]


/-- The reference's lists of demands. -/
theorem l14Needs_eq {n : Int} {rels : List RelI} {k : Int} {N K : Nat} (h : Tmp n rels k N K) : s_spec_l14Needs n rels k = some (atM (N ^ K) (consA n K rels)) := by
  have hV := h.pw
  have k3 := h.k3
  have n4 := h.n4
  have l4 := h.l4
  have ek := h.eK
  unfold s_spec_l14Needs
  have ep0 : s_spec_l2Pow n k = some ((N ^ K : Nat) : Int) := by rw [powS_eq, h.eN, ek]; exact powerA h.k3 (by omega)
  rw [iter_br (R := (List (List ((List Int) × (Int × (List (List Int))))))) (F := fun j => ((List.replicate j ([] : List Con)), (j : Int))) (s := ([], 0)) (t := (List.replicate (N ^ K) [], ((N ^ K : Nat) : Int))) (N ^ K) (by omega) rfl (fun j hj => by
    rw [ep0, Option.bind_some]
    try simp only []
    rw [dec_lt, show decide (j < N ^ K) = true by simpa using hj, cond_true]
    show ((app (List.replicate j ([] : List Con)) [[]]).bind _) = _
    rw [app_ok (by simp; omega), Option.bind_some, w64_add1 (by omega), List.replicate_succ']) (by
    rw [ep0, Option.bind_some]
    try simp only []
    rw [dec_lt, show decide (N ^ K < N ^ K) = false by simp, cond_false])]
  rw [Option.bind_some, after_br']
  try simp only []
  have e0 : List.replicate (N ^ K) ([] : List Con) = atM (N ^ K) (consA n K (rels.take 0)) := by
    unfold atM byMax consA
    apply List.ext_getElem
    · simp
    · intro i h1 h2; simp
  rw [forC0_fn (R := (List (List Con))) (s := List.replicate (N ^ K) ([] : List Con)) (F := fun j => atM (N ^ K) (consA n K (rels.take j))) (n := rels.length) rfl (by omega) e0 (fun jr hj => by
    have hmem := List.getElem_mem hj
    obtain ⟨kk, L, hr⟩ := h.rel _ hmem
    have hr3 := isRel_3 (h.rel _ hmem)
    have h64 := rel_len64 h.n4 hr
    have hk3 := hr.k3
    have hkk : (rels[jr]).1 = (kk : Int) := by rw [hr.eq]
    have hP : (rels[jr]).2.length ^ K ≤ 64 ^ 3 := Nat.le_trans (Nat.pow_le_pow_left h64 K) (Nat.pow_le_pow_right (by omega) h.k3)
    have ei : idx rels (jr : Int) = some rels[jr] := by rw [idx_nat, List.getElem?_eq_getElem hj]
    have ep : s_spec_l2Pow ((rels[jr]).2.length : Int) k = some (((rels[jr]).2.length ^ K : Nat) : Int) := by rw [powS_eq, ek]; exact powerA h.k3 (by omega)
    have hpl : (consA n K (rels.take jr)).length ≤ 786432 := by
      have h1 := flat_len (n := n) (K := K) (rels.take jr) (fun r hr => consR_len h (List.mem_of_mem_take hr))
      rw [List.length_take] at h1
      omega
    rw [ei, Option.bind_some]
    try simp only []
    rw [iter_br (R := (List (List Con))) (F := fun i => ((i : Int), atM (N ^ K) (consA n K (rels.take jr) ++ (List.range i).map (conI n K rels[jr])))) (s := (0, atM (N ^ K) (consA n K (rels.take jr)))) (t := ((((rels[jr]).2.length ^ K : Nat) : Int), atM (N ^ K) (consA n K (rels.take (jr + 1))))) ((rels[jr]).2.length ^ K) (by omega) (by simp) (fun i hi => by
      have hL := cnt_pos h.k1 hi
      have hdl : ∀ d ∈ dig (rels[jr]).2.length K i, d < (rels[jr]).2.length := fun d hd => dig_lt hL K i d hd
      have hds : (dig (rels[jr]).2.length K i).length = K := dig_len _ _ _
      have hcon := conI_ok h hmem hi
      have hmx := mx_lt hcon
      have hsc : scope n rels[jr] (dig (rels[jr]).2.length K i) = NL ((List.range kk).map (plN N L (dig (rels[jr]).2.length K i))) := by
        rw [h.eN]; exact scope_NL (K := K) h.n4 hr (by omega) (fun d hd => by rw [← rel_L hr]; exact hdl d hd)
      rw [ep, Option.bind_some]
      try simp only []
      rw [dec_lt, show decide (i < (rels[jr]).2.length ^ K) = true by simpa using hi, cond_true, ek, l2ArgsN (by omega) hL (by omega), Option.bind_some, Option.bind_some]
      rw [iter_br (R := (List (List Con))) (F := fun j => ((((((List.range j).map (plN N L (dig (rels[jr]).2.length K i))).foldl max 0 : Nat) : Int)), (j : Int), (List.range j).map (scpI n (rels[jr]).2 (dig (rels[jr]).2.length K i)))) (s := (0, 0, [])) (t := (((mx (conI n K rels[jr] i) : Nat) : Int), (kk : Int), scope n rels[jr] (dig (rels[jr]).2.length K i))) kk (by omega) rfl (fun j hjk => by
        rw [Option.bind_some]
        try simp only []
        rw [hkk, dec_lt, show decide (j < kk) = true by simpa using hjk, cond_true]
        rw [forC0_fn (R := (List (List Con))) (s := (0 : Int)) (F := fun m => scpI n (rels[jr]).2 ((dig (rels[jr]).2.length K i).take m) j) (n := K) rfl (by omega) rfl (fun m hm => by
          have hml : m < (dig (rels[jr]).2.length K i).length := by omega
          obtain ⟨r1, r2⟩ := rel_row hr (hdl _ (ga_mem hml)) hjk
          rw [Option.bind_some, idx_NL hml, Option.bind_some, r1, Option.bind_some, r2, Option.bind_some, List.take_add_one, List.getElem?_eq_getElem hml, ← ga_get hml]
          show _ = some (Ctl.nx (scpI n (rels[jr]).2 ((dig (rels[jr]).2.length K i).take m ++ [ga (dig (rels[jr]).2.length K i) m]) j))
          rw [scpI_snoc])]
        rw [Option.bind_some, after_br', show (dig (rels[jr]).2.length K i).take K = dig (rels[jr]).2.length K i from List.take_of_length_le (by omega)]
        rw [app_ok (by simp; omega), Option.bind_some, l1Most_eq, Option.bind_some, w64_add1 (by omega)]
        have es : scpI n (rels[jr]).2 (dig (rels[jr]).2.length K i) j = ((plN N L (dig (rels[jr]).2.length K i) j : Nat) : Int) := by
          rw [h.eN]; exact scpI_eq h.n4 hr hjk _ (by omega) (fun d hd => by rw [← rel_L hr]; exact hdl d hd)
        rw [List.range_succ, List.map_append, List.map_append, List.foldl_append]
        congr 2
        rw [es, max_cast]
        simp only [List.map_cons, List.map_nil, es, List.foldl_cons, List.foldl_nil]) (by
        rw [Option.bind_some]
        try simp only []
        rw [hkk, dec_lt, show decide (kk < kk) = false by simp, cond_false]
        have e2 : (List.range kk).map (scpI n (rels[jr]).2 (dig (rels[jr]).2.length K i)) = scope n rels[jr] (dig (rels[jr]).2.length K i) := by unfold scope; rw [hkk, Int.toNat_natCast]
        rw [e2, mx_map (c := conI n K rels[jr] i) hsc])]
      rw [Option.bind_some, after_br']
      try simp only []
      have e1 : idx (atM (N ^ K) (consA n K (rels.take jr) ++ (List.range i).map (conI n K rels[jr]))) ((mx (conI n K rels[jr] i) : Nat) : Int) = some (byMax (consA n K (rels.take jr) ++ (List.range i).map (conI n K rels[jr])) (mx (conI n K rels[jr] i))) := by
        rw [idx_nat]; exact atM_get hmx
      have hbl := byMax_len (consA n K (rels.take jr) ++ (List.range i).map (conI n K rels[jr])) (mx (conI n K rels[jr] i))
      rw [List.length_append, List.length_map, List.length_range] at hbl
      rw [e1, Option.bind_some, app_ok (by simp; omega), Option.bind_some, w64_add1 (by omega), Int.toNat_natCast, List.range_succ, List.map_append, ← List.append_assoc]
      congr 2
      show _ = ((((i + 1 : Nat)) : Int), atM (N ^ K) ((consA n K (rels.take jr) ++ (List.range i).map (conI n K rels[jr])) ++ [conI n K rels[jr] i]))
      rw [atM_snoc hmx]
      rfl) (by
      rw [ep, Option.bind_some]
      try simp only []
      rw [dec_lt, show decide ((rels[jr]).2.length ^ K < (rels[jr]).2.length ^ K) = false by simp, cond_false]
      congr 3
      unfold consA
      rw [List.take_add_one, List.getElem?_eq_getElem hj, List.flatMap_append]
      simp [consR])]
    rw [Option.bind_some, after_br'])]
  rw [Option.bind_some, after_br', List.take_length]

set_option linter.unusedVariables false

theorem l14Holds_eq {N : Nat} {cs : List Con} {W : List Nat} (h8 : N ≤ 8) (hl : cs.length ≤ 1048576) (hc : ∀ c ∈ cs, ConN W.length N c) : s_spec_l14Holds cs (NL W) = some (cs.all fun c => sat c W) := by
  unfold s_spec_l14Holds
  have e : (cs.all fun c => sat c W) = (List.range cs.length).all fun j => sat (cs.getD j ([], 0, [])) W := by
    have : cs = (List.range cs.length).map fun j => cs.getD j ([], 0, []) := by
      apply List.ext_getElem
      · simp
      · intro i h1 h2; simp [List.getD_eq_getElem?_getD, List.getElem?_eq_getElem h1]
    conv => lhs; rw [this, List.all_map]
    rfl
  rw [e, forC0_chk (fun j => sat (cs.getD j ([], 0, [])) W) false (s := ()) (n := cs.length) rfl (by omega) (fun j hj => by
    have hcj := hc _ (List.getElem_mem hj)
    have hk := hcj.rel.k3
    have h1 := sorted_len hcj.rel.rel hcj.rel.lt
    have h2 : N ^ (cS cs[j]).length ≤ 8 ^ 3 := Nat.le_trans (Nat.pow_le_pow_left h8 _) (Nat.pow_le_pow_right (by omega) hk)
    have hd : cs.getD j ([], 0, []) = cs[j] := by simp [List.getD_eq_getElem?_getD, List.getElem?_eq_getElem hj]
    have hix : idx cs (j : Int) = some cs[j] := by rw [idx_nat, List.getElem?_eq_getElem hj]
    rw [hd]
    simp only [hix, Option.bind_some]
    rw [iter_br (R := Bool) (F := fun t => (NL (((cS cs[j]).take t).map (ga W)), (t : Int))) (s := ([], 0)) (t := (NL ((cS cs[j]).map (ga W)), ((cS cs[j]).length : Int))) (cS cs[j]).length (by omega) rfl (fun t ht => by
      have hgt : ga (cS cs[j]) t < W.length := hcj.lt _ (ga_mem ht)
      simp only []
      rw [hcj.scope, NL_len, dec_lt, show decide (t < (cS cs[j]).length) = true by simpa using ht, cond_true, idx_NL ht, Option.bind_some, idx_NL hgt, Option.bind_some, app_ok (by simp; omega), Option.bind_some, w64_add1 (by omega)]
      rw [List.take_add_one, List.getElem?_eq_getElem ht, ← ga_get ht]
      simp [NL]) (by
      simp only []
      rw [hcj.scope, NL_len, dec_lt, show decide ((cS cs[j]).length < (cS cs[j]).length) = false by simp, cond_false, List.take_length])]
    rw [Option.bind_some, after_br']
    simp only []
    have e2 : cs[j].2 = (((cS cs[j]).length : Int), NLL (cL cs[j])) := hcj.rel.eq
    rw [e2]
    simp only []
    rw [l13Has_eq hcj.rel.rel (by omega) (by omega), Option.bind_some]
    show _ = some (bif sat cs[j] W then _ else _)
    unfold sat
    cases (cL cs[j]).contains ((cS cs[j]).map (ga W)) <;> rfl)]
  cases (List.range cs.length).all fun j => sat (cs.getD j ([], 0, [])) W <;> rfl


abbrev PS := List (List Int) × Int × Int

def upS (s : PS) : SS := (s.1, s.2.1, s.2.2, s.2.2 == 1)

def dnS (t : SS) : PS := (t.1, t.2.1, t.2.2.1)

theorem upS_dn {t : SS} (h : t.2.2.2 = (t.2.2.1 == 1)) : upS (dnS t) = t := by unfold upS dnS; simp only []; rw [← h]

/-- A round over the values, as printed. -/
def stepP (go : Int → List (List Con) → List Int → List Int → PS → Option PS) (n : Int) (needs : List (List Con)) (fixed table : List Int) (k145 : Int) (s143 : PS) : Option (Ctl ((List (List Int)) × Int × Int) ((List (List Int)) × Int × Int)) :=
  ((idx fixed (table.length : Int)).bind fun x156 =>
  (bif (decide (0 ≤ x156)) then (idx fixed (table.length : Int)).bind fun x159 =>
  some (x159 != k145) else some false)).bind fun s153 =>
  (bif s153 then some (.nx (s143.1, s143.2.1, s143.2.2)) else (s_spec_l1Own table).bind fun r163 =>
  (app r163 ([k145])).bind fun y168 =>
  (idx needs (table.length : Int)).bind fun x170 =>
  (s_spec_l14Holds x170 y168).bind fun r175 =>
  (bif r175 then (go n needs fixed y168 (s143.1, s143.2.1, s143.2.2)).bind fun r191 =>
  some (r191.1, r191.2.1, r191.2.2) else some (s143.1, s143.2.1, s143.2.2)).bind fun s184 =>
  (bif ((s184.2.2 == 1) && (decide (0 < s184.2.1))) then some (.rt (s184.1, s184.2.1, s184.2.2)) else some (.nx (s184.1, s184.2.1, s184.2.2))))

theorem l14Go_unf (fu : Nat) (n : Int) (needs : List (List Con)) (fixed table : List Int) (s : PS) : s_spec_l14Go__take4 (fu + 1) n needs fixed table s =
    (bif ((table.length : Int) == (needs.length : Int)) then (bif (decide ((s.1.length : Int) < s.2.2)) then (s_spec_l1Own table).bind fun r37 =>
      (app s.1 ([r37])).bind fun y42 => some y42 else some s.1).bind fun s29 => some (s29, w64 (s.2.1 + 1), s.2.2)
    else (forC (S := (List (List Int)) × Int × Int) (R := ((List (List Int)) × Int × Int)) (stepP (s_spec_l14Go__take4 fu) n needs fixed table) 0 n (s.1, s.2.1, s.2.2)).bind fun o147 => after o147 (fun r_ => some r_) (fun s143 => some (s143.1, s143.2.1, s143.2.2))) := rfl


theorem l14Go_eq {N V : Nat} {at_ : List (List Con)} {par : List Int} (hV : V ≤ 9) (hN : N ≤ 4) (hat : at_.length = V) (hp : par.length = V)
    (hc : ∀ v cs, at_[v]? = some cs → cs.length ≤ 1048576 ∧ ∀ c ∈ cs, ConN (v + 1) N c) :
    ∀ (k fu : Nat) (pre : List Nat) (s : PS), pre.length + k = V → k < fu → ((s.2.2 == 1) && decide (0 < s.2.1)) = false → 0 ≤ s.2.1 → s.2.1 + (exts N par (goodA at_) k pre).length ≤ 4611686018427387904 → s.2.2 ≤ 1000 →
      s_spec_l14Go__take4 fu (N : Int) at_ par (NL pre) s = some (dnS ((exts N par (goodA at_) k pre).foldl lfS (upS s))) := by
  intro k
  induction k with
  | zero =>
    intro fu pre s hk hfu hs h0 hb hm
    obtain ⟨fu, rfl⟩ : ∃ f, fu = f + 1 := ⟨fu - 1, by omega⟩
    rw [l14Go_unf, NL_len, show ((pre.length : Int) == (at_.length : Int)) = true by simp; omega, cond_true, l1Own_eq (by simp; omega)]
    have hs' : ((upS s).2.2.2 && decide (0 < (upS s).2.1)) = false := hs
    simp only [exts, List.foldl_cons, List.foldl_nil, lfS, hs', cond_false]
    simp only [exts, List.length_cons, List.length_nil] at hb
    rw [w64_id (by omega) (by omega)]
    show _ = some (dnS (bif decide ((s.1.length : Int) < s.2.2) then s.1 ++ [NL pre] else s.1, s.2.1 + 1, s.2.2, s.2.2 == 1))
    cases hd : decide ((s.1.length : Int) < s.2.2) with
    | false => rfl
    | true =>
      simp only [decide_eq_true_eq] at hd
      simp only [cond_true, Option.bind_some]
      rw [app_ok (by simp; omega)]; rfl
  | succ k ih =>
    intro fu pre s hk hfu hs h0 hb hm
    obtain ⟨fu, rfl⟩ : ∃ f, fu = f + 1 := ⟨fu - 1, by omega⟩
    rw [l14Go_unf, NL_len, show ((pre.length : Int) == (at_.length : Int)) = false by simp; omega, cond_false]
    have hvV : pre.length < V := by omega
    have hidx : idx par (pre.length : Int) = some (gi par (pre.length : Int)) := idx_gi (by omega) (by omega)
    obtain ⟨cs, hcs⟩ : ∃ cs, at_[pre.length]? = some cs := ⟨at_[pre.length]'(by omega), by rw [List.getElem?_eq_getElem]⟩
    have hcs' : idx at_ (pre.length : Int) = some cs := by rw [idx_nat]; exact hcs
    obtain ⟨hcl, hcc⟩ := hc _ _ hcs
    have key : ∀ (n j : Nat) (s1 : PS), j + n = N → ((s1.2.2 == 1) && decide (0 < s1.2.1)) = false → 0 ≤ s1.2.1 → s1.2.1 + ((List.range' j n).flatMap fun x => bif allow par pre.length x && goodA at_ (pre ++ [x]) then exts N par (goodA at_) k (pre ++ [x]) else []).length ≤ 4611686018427387904 → s1.2.2 ≤ 1000 →
        ∃ o, forI (stepP (s_spec_l14Go__take4 fu) (N : Int) at_ par (NL pre)) n (j : Int) s1 = some o ∧ (o = .br (dnS (((List.range' j n).flatMap fun x => bif allow par pre.length x && goodA at_ (pre ++ [x]) then exts N par (goodA at_) k (pre ++ [x]) else []).foldl lfS (upS s1))) ∨
          o = .rt (dnS (((List.range' j n).flatMap fun x => bif allow par pre.length x && goodA at_ (pre ++ [x]) then exts N par (goodA at_) k (pre ++ [x]) else []).foldl lfS (upS s1)))) := by
      intro n
      induction n with
      | zero => intro j s1 hj _ _ _ _; exact ⟨_, rfl, .inl rfl⟩
      | succ n ihn =>
        intro j s1 hj hst h1 h2 h3
        have hjN : j < N := by omega
        have hcast : (j : Int) + 1 = ((j + 1 : Nat) : Int) := by omega
        rw [List.range'_succ, List.flatMap_cons] at h2 ⊢
        rw [List.length_append] at h2
        unfold forI
        simp only [stepP]
        rw [NL_len, hidx]
        simp only [Option.bind_some]
        have htest : (bif (decide (0 ≤ gi par (pre.length : Int))) then (some (gi par (pre.length : Int) != (j : Int)) : Option Bool) else some false) = some (!allow par pre.length j) := by
          unfold allow
          cases decide (0 ≤ gi par (pre.length : Int)) <;> simp
        rw [htest, Option.bind_some, hcast]
        cases hal : allow par pre.length j with
        | false =>
          rw [hal] at h2
          simp only [Bool.not_false, cond_true, Bool.false_and, cond_false, List.nil_append] at h2 ⊢
          exact ihn (j + 1) s1 (by omega) hst h1 (by simpa using h2) h3
        | true =>
          rw [hal] at h2
          simp only [Bool.not_true, cond_false, Bool.true_and] at h2 ⊢
          rw [l1Own_eq (by simp; omega), Option.bind_some, app_ok (by simp; omega), Option.bind_some, show NL pre ++ [(j : Int)] = NL (pre ++ [j]) by rw [NL_app]; rfl, hcs', Option.bind_some]
          rw [l14Holds_eq (W := pre ++ [j]) (N := N) (by omega) hcl (fun c hc1 => by
            have := hcc c hc1
            rwa [show (pre ++ [j]).length = pre.length + 1 by simp]), Option.bind_some]
          have hga : (cs.all fun c => sat c (pre ++ [j])) = goodA at_ (pre ++ [j]) := by
            unfold goodA
            rw [show (pre ++ [j]).length - 1 = pre.length by simp, List.getD_eq_getElem?_getD, hcs]; rfl
          simp only [hga]
          cases hg : goodA at_ (pre ++ [j]) with
          | false =>
            rw [hg] at h2
            simp only [cond_false, List.nil_append, Option.bind_some] at h2 ⊢
            rw [hst]
            simp only [cond_false]
            exact ihn (j + 1) s1 (by omega) hst h1 (by simpa using h2) h3
          | true =>
            rw [hg] at h2
            simp only [cond_true] at h2 ⊢
            have e1 : s_spec_l14Go__take4 fu (N : Int) at_ par (NL (pre ++ [j])) (s1.1, s1.2.1, s1.2.2) = _ := ih fu (pre ++ [j]) s1 (by simp; omega) (by omega) hst h1 (by omega) h3
            rw [e1, Option.bind_some, Option.bind_some, List.foldl_append]
            have hup := lfF_up (exts N par (goodA at_) k (pre ++ [j])) (upS s1)
            have hke := lfF_keep (exts N par (goodA at_) k (pre ++ [j])) (upS s1)
            generalize hT : List.foldl lfS (upS s1) (exts N par (goodA at_) k (pre ++ [j])) = T at hup hke ⊢
            have hk1 : T.2.2.1 = s1.2.2 := by rw [hke]; rfl
            have hk2 : T.2.2.2 = (T.2.2.1 == 1) := by rw [hke]; rfl
            have hud : upS (dnS T) = T := upS_dn hk2
            cases hs2 : ((dnS T).2.2 == 1) && decide (0 < (dnS T).2.1) with
            | true =>
              have hs3 : (T.2.2.2 && decide (0 < T.2.1)) = true := by rw [hk2]; exact hs2
              rw [lfF_stop hs3]
              exact ⟨_, rfl, .inr rfl⟩
            | false =>
              simp only [cond_false]
              have hu1 : (upS s1).2.1 = s1.2.1 := rfl
              have := ihn (j + 1) (dnS T) (by omega) hs2 (by show 0 ≤ T.2.1; omega) (by show T.2.1 + _ ≤ _; omega) (by show T.2.2.1 ≤ 1000; omega)
              rw [hud] at this
              exact this
    have ex : exts N par (goodA at_) (k + 1) pre = (List.range' 0 N).flatMap fun x => bif allow par pre.length x && goodA at_ (pre ++ [x]) then exts N par (goodA at_) k (pre ++ [x]) else [] := by
      rw [exts, List.range_eq_range']
    obtain ⟨o, ho, hoo⟩ := key N 0 s (by omega) hs h0 (by rw [← ex]; exact hb) hm
    rw [← ex] at hoo
    unfold forC
    rw [show decide (-9223372036854775808 ≤ (0 : Int)) = true by decide, show decide ((N : Int) ≤ 9223372036854775807) = true by simp; omega, Bool.and_true, cond_true, show ((N : Int) - 0).toNat = N by omega]
    rw [show ((0 : Nat) : Int) = 0 from rfl] at ho
    have ho : forI (stepP (s_spec_l14Go__take4 fu) (N : Int) at_ par (NL pre)) N 0 (s.1, s.2.1, s.2.2) = some o := ho
    rw [ho]
    rcases hoo with rfl | rfl <;> rfl

theorem findP {n : Int} {rels : List RelI} {k : Int} {N K : Nat} (h : Tmp n rels k N K) {par : List Int} {most : Int} (hp : par.length = N ^ K) (hm : most ≤ 1000) :
    s_spec_l14All n rels k par most = some (dnS ((sols (N ^ K) N (consA n K rels) par).foldl lfS ([], 0, most, most == 1))) := by
  unfold s_spec_l14All
  rw [l14Needs_eq h, Option.bind_some]
  have hcnt := sols_count (cs := consA n K rels) (par := par) h.n4 h.pw
  have e : s_spec_l14Go__take4 FU (N : Int) (atM (N ^ K) (consA n K rels)) par (NL []) ([], 0, most) = _ := l14Go_eq (N := N) (V := N ^ K) (at_ := atM (N ^ K) (consA n K rels)) (par := par) h.pw h.n4 (by unfold atM; simp) hp (fun v cs' hv => by
    have hvV : v < N ^ K := by
      have := (List.getElem?_eq_some_iff.1 hv).1
      unfold atM at this; simpa using this
    rw [atM_get hvV] at hv
    obtain rfl := Option.some.inj hv
    refine ⟨Nat.le_trans (byMax_len _ _) (consA_len h), fun c hc' => ?_⟩
    unfold byMax at hc'
    rw [List.mem_filter] at hc'
    have h1 := con_mx (consA_ok h c hc'.1)
    have e : mx c = v := by simpa using hc'.2
    rwa [e] at h1) (N ^ K) FU [] ([], 0, most) (by simp) (by have := h.pw; unfold FU; omega) (by simp) (by simp) (by show (0 : Int) + ((sols (N ^ K) N (consA n K rels) par).length : Int) ≤ _; omega) hm
  have e2 : s_spec_l14Go__take4 FU n (atM (N ^ K) (consA n K rels)) par [] ([], 0, most) = s_spec_l14Go__take4 FU (N : Int) (atM (N ^ K) (consA n K rels)) par (NL []) ([], 0, most) := by rw [← h.eN]; rfl
  rw [e2, e, Option.bind_some]
  rfl

set_option linter.unusedVariables false

/-- A column is summed up. -/
theorem col_impl {R : Type} {n : Int} {N kk : Nat} {r : RelI} {L : List (List Nat)} {m : Nat} (hr : RelN N kk r L) (hm : m < kk) (base : List Int) (hb : base.length = kk) : ∀ (ds pre : List Nat) (i : Int), (∀ d ∈ ds, d < r.2.length) →
    forR (S := (List Int)) (R := R) (fun _ x2490 s2487 =>
  (idx s2487 (m : Int)).bind fun x2497 =>
  (idx r.2 x2490).bind fun x2499 =>
  (idx x2499 (m : Int)).bind fun x2503 =>
  (idx s2487 (m : Int)).bind fun x2505 =>
  some (.nx (List.set s2487 (Int.toNat (m : Int)) (w64 ((w64 (x2497 * n)) + x2503))))) i (NL ds) (base.set m (scpI n r.2 pre m)) = some (.br (base.set m (scpI n r.2 (pre ++ ds) m))) := by
  intro ds
  induction ds with
  | nil => intro pre i _; rw [List.append_nil]; rfl
  | cons d ds ih =>
    intro pre i hd
    have hdl := hd d (by simp)
    obtain ⟨r1, r2⟩ := rel_row hr hdl hm
    have e1 : idx (base.set m (scpI n r.2 pre m)) (m : Int) = some (scpI n r.2 pre m) := by
      rw [idx_nat, List.getElem?_set_self (by omega)]
    rw [NL_cons, forR_step (s' := base.set m (scpI n r.2 (pre ++ [d]) m)) (by
      simp only [e1, Option.bind_some, r1, r2, Int.toNat_natCast, ← scpI_snoc, List.set_set]), ih (pre ++ [d]) (i + 1) (fun x hx => hd x (by simp [hx]))]
    simp

theorem cols_impl {R : Type} {n : Int} {N kk : Nat} {r : RelI} {L : List (List Nat)} {ds : List Nat} (hn : n = (N : Int)) (h4 : N ≤ 4) (hr : RelN N kk r L) (hl : ds.length ≤ 3) (hd : ∀ d ∈ ds, d < r.2.length) :
    forC (S := Int × (List Int)) (R := R) (fun k2454 s2452 =>
  (forR (S := (List Int)) (R := R) (fun _ x2490 s2487 =>
  (idx s2487 k2454).bind fun x2497 =>
  (idx r.2 x2490).bind fun x2499 =>
  (idx x2499 k2454).bind fun x2503 =>
  (idx s2487 k2454).bind fun x2505 =>
  some (.nx (List.set s2487 (Int.toNat k2454) (w64 ((w64 (x2497 * n)) + x2503))))) 0 (NL ds) s2452.2).bind fun o2491 => after o2491 (fun r_ => some (.rt r_)) (fun s2487 =>
  (idx s2487 k2454).bind fun x2508 =>
  some (.nx (max s2452.1 x2508, s2487)))) 0 (((List.replicate kk (0 : Int)).length : Nat) : Int) (0, List.replicate kk 0) = some (.br (((((List.range kk).map (plN N L ds)).foldl max 0 : Nat) : Int), scope n r ds)) := by
  have hkk : r.1 = (kk : Int) := by rw [hr.eq]
  have hk3 := hr.k3
  have hpl : ∀ p, p < kk → scpI n r.2 ds p = ((plN N L ds p : Nat) : Int) := fun p hp => by
    rw [hn]; exact scpI_eq h4 hr hp ds hl (fun d hdd => by rw [← rel_L hr]; exact hd d hdd)
  rw [forC0_fn (R := R) (F := fun m => (((((List.range m).map (plN N L ds)).foldl max 0 : Nat) : Int), (List.range kk).map fun p => if p < m then scpI n r.2 ds p else 0)) (n := kk) (by simp) (by omega) (by
    congr 1
    apply List.ext_getElem
    · simp
    · intro i h1 h2; simp) (fun m hm => by
    have e0 : ((List.range kk).map fun p => if p < m then scpI n r.2 ds p else 0) = (((List.range kk).map fun p => if p < m then scpI n r.2 ds p else 0).set m (scpI n r.2 [] m)) := by
      apply List.ext_getElem
      · simp
      · intro q h1 h2
        rw [List.getElem_set]
        simp only [List.getElem_map, List.getElem_range]
        by_cases e : m = q
        · subst e; rw [if_pos rfl, if_neg (by omega)]; rfl
        · rw [if_neg e]
    have hc := col_impl (R := R) (n := n) hr hm ((List.range kk).map fun p => if p < m then scpI n r.2 ds p else 0) (by simp) ds [] 0 hd
    rw [← e0, List.nil_append] at hc
    simp only []
    rw [hc, Option.bind_some, after_br']
    have e1 : idx (((List.range kk).map fun p => if p < m then scpI n r.2 ds p else 0).set m (scpI n r.2 ds m)) (m : Int) = some (scpI n r.2 ds m) := by
      rw [idx_nat, List.getElem?_set_self (by simp; omega)]
    rw [e1, Option.bind_some, hpl m hm, max_cast, List.range_succ, List.map_append, List.foldl_append]
    congr 3
    apply List.ext_getElem
    · simp
    · intro q h1 h2
      simp only [List.length_set, List.length_map, List.length_range] at h1
      rw [List.getElem_set]
      simp only [List.getElem_map, List.getElem_range]
      by_cases e : m = q
      · subst e; rw [if_pos rfl, if_pos (by omega), hpl _ hm]
      · rw [if_neg e]
        by_cases h : q < m
        · rw [if_pos h, if_pos (by omega)]
        · rw [if_neg h, if_neg (by omega)])]
  congr 3
  unfold scope
  rw [hkk, Int.toNat_natCast]
  refine List.map_congr_left fun p hp => ?_
  rw [if_pos (List.mem_range.1 hp)]


def impL (V : Nat) (cs : List Con) : List (List (List Int × List (ByteArray × Bool))) := (atM V cs).map fun l => l.map fun c => (c.1, tsC c)

theorem impL_get {V v : Nat} {cs : List Con} (h : v < V) : idx (impL V cs) (v : Int) = some ((byMax cs v).map fun c => (c.1, tsC c)) := by
  rw [idx_nat]; unfold impL; rw [List.getElem?_map, atM_get h]; rfl

/-- A round over the choices of rows, as printed. -/
def stepD (n k : Int) (r : RelI) (s2328 : Int × (List (List ((List Int) × (List (ByteArray × Bool))))) × (List (ByteArray × Bool)) × (List (ByteArray × Bool))) : Option (Ctl (Int × (List (List ((List Int) × (List (ByteArray × Bool))))) × (List (ByteArray × Bool)) × (List (ByteArray × Bool))) (Option (Int × Int × (List (List ((List Int) × (List (ByteArray × Bool)))))))) :=
  (s_impl_power (r.2.length : Int) k).bind fun r2343 =>
  (bif (decide (s2328.1 < r2343)) then (s_impl_argsAt s2328.1 k (r.2.length : Int)).bind fun r2346 =>
  (mks r.1 (0 : Int)).bind fun y2349 =>
  (forC (S := Int × (List Int)) (R := (Option (Int × Int × (List (List ((List Int) × (List (ByteArray × Bool)))))))) (fun k2454 s2452 =>
  (forR (S := (List Int)) (R := (Option (Int × Int × (List (List ((List Int) × (List (ByteArray × Bool)))))))) (fun _ x2490 s2487 =>
  (idx s2487 k2454).bind fun x2497 =>
  (idx r.2 x2490).bind fun x2499 =>
  (idx x2499 k2454).bind fun x2503 =>
  (idx s2487 k2454).bind fun x2505 =>
  some (.nx (List.set s2487 (Int.toNat k2454) (w64 ((w64 (x2497 * n)) + x2503))))) 0 r2346 s2452.2).bind fun o2491 => after o2491 (fun r_ => some (.rt r_)) (fun s2487 =>
  (idx s2487 k2454).bind fun x2508 =>
  some (.nx (max s2452.1 x2508, s2487)))) 0 (y2349.length : Int) (0, y2349)).bind fun o2456 => after o2456 (fun r_ => some (.rt r_)) (fun s2452 =>
  (s_impl_keyOf s2452.2).bind fun r2511 =>
  (bif (!((mget s2328.2.2.2 r2511).getD false)) then (idx s2328.2.1 s2452.1).bind fun x2515 =>
  (app x2515 ([(s2452.2, s2328.2.2.1)])).bind fun y2524 =>
  some (.nx (w64 (s2328.1 + 1), List.set s2328.2.1 (Int.toNat s2452.1) y2524, s2328.2.2.1, mput s2328.2.2.2 r2511 true)) else some (.nx (w64 (s2328.1 + 1), s2328.2.1, s2328.2.2.1, s2328.2.2.2)))) else some (.br (s2328.1, s2328.2.1, s2328.2.2.1, s2328.2.2.2)))

theorem newPoly_eq {n : Int} {rels : List RelI} {k : Int} {N K : Nat} (h : Tmp n rels k N K) : ∃ dd : List Con, (∀ c, c ∈ dd ↔ c ∈ consA n K rels) ∧ dd.length ≤ 1048576 ∧ s_impl_newPolySearch n rels k = some (some (n, k, impL (N ^ K) dd)) := by
  have hV := h.pw
  have k3 := h.k3
  have n4 := h.n4
  have l4 := h.l4
  have ek := h.eK
  have ep0 : s_impl_power n k = some ((N ^ K : Nat) : Int) := by rw [h.eN, ek]; exact powerA h.k3 (by omega)
  unfold s_impl_newPolySearch
  rw [ep0, Option.bind_some, mks_ok rfl (by omega), Option.bind_some]
  have key : ∀ (l pre : List RelI) (dd : List Con) (i : Int), pre ++ l = rels → (∀ c, c ∈ dd ↔ c ∈ consA n K pre) → dd.length ≤ pre.length * 262144 → ∃ dd', (∀ c, c ∈ dd' ↔ c ∈ consA n K rels) ∧ dd'.length ≤ rels.length * 262144 ∧
      forR (S := (List (List ((List Int) × (List (ByteArray × Bool)))))) (R := (Option (Int × Int × (List (List ((List Int) × (List (ByteArray × Bool)))))))) (fun _ x1695 s1692 =>
  (s_impl_tupleSet (x1695.1, x1695.2)).bind fun r1708 =>
  (iter (S := Int × (List (List ((List Int) × (List (ByteArray × Bool))))) × (List (ByteArray × Bool)) × (List (ByteArray × Bool))) (R := (Option (Int × Int × (List (List ((List Int) × (List (ByteArray × Bool)))))))) (fun s2328 =>
  (s_impl_power (x1695.2.length : Int) k).bind fun r2343 =>
  (bif (decide (s2328.1 < r2343)) then (s_impl_argsAt s2328.1 k (x1695.2.length : Int)).bind fun r2346 =>
  (mks x1695.1 (0 : Int)).bind fun y2349 =>
  (forC (S := Int × (List Int)) (R := (Option (Int × Int × (List (List ((List Int) × (List (ByteArray × Bool)))))))) (fun k2454 s2452 =>
  (forR (S := (List Int)) (R := (Option (Int × Int × (List (List ((List Int) × (List (ByteArray × Bool)))))))) (fun _ x2490 s2487 =>
  (idx s2487 k2454).bind fun x2497 =>
  (idx x1695.2 x2490).bind fun x2499 =>
  (idx x2499 k2454).bind fun x2503 =>
  (idx s2487 k2454).bind fun x2505 =>
  some (.nx (List.set s2487 (Int.toNat k2454) (w64 ((w64 (x2497 * n)) + x2503))))) 0 r2346 s2452.2).bind fun o2491 => after o2491 (fun r_ => some (.rt r_)) (fun s2487 =>
  (idx s2487 k2454).bind fun x2508 =>
  some (.nx (max s2452.1 x2508, s2487)))) 0 (y2349.length : Int) (0, y2349)).bind fun o2456 => after o2456 (fun r_ => some (.rt r_)) (fun s2452 =>
  (s_impl_keyOf s2452.2).bind fun r2511 =>
  (bif (!((mget s2328.2.2.2 r2511).getD false)) then (idx s2328.2.1 s2452.1).bind fun x2515 =>
  (app x2515 ([(s2452.2, s2328.2.2.1)])).bind fun y2524 =>
  some (.nx (w64 (s2328.1 + 1), List.set s2328.2.1 (Int.toNat s2452.1) y2524, s2328.2.2.1, mput s2328.2.2.2 r2511 true)) else some (.nx (w64 (s2328.1 + 1), s2328.2.1, s2328.2.2.1, s2328.2.2.2)))) else some (.br (s2328.1, s2328.2.1, s2328.2.2.1, s2328.2.2.2)))) FU (0, s1692, r1708, [])).bind fun o2332 => after o2332 (fun r_ => some (.rt r_)) (fun s2328 =>
  some (.nx s2328.2.1))) i l (impL (N ^ K) dd) = some (.br (impL (N ^ K) dd')) := by
    intro l
    induction l with
    | nil => intro pre dd i hpre h1 h2; rw [List.append_nil] at hpre; subst hpre; exact ⟨dd, h1, h2, rfl⟩
    | cons r l ih =>
      intro pre dd i hpre hd1 hd2
      have hmem : r ∈ rels := by rw [← hpre]; simp
      have hpl4 : pre.length < rels.length := by rw [← hpre]; simp
      obtain ⟨kk, L, hr⟩ := h.rel _ hmem
      have hr3 := isRel_3 (h.rel _ hmem)
      have h64 := rel_len64 h.n4 hr
      have hk3 := hr.k3
      have hkk : r.1 = (kk : Int) := by rw [hr.eq]
      have hP : r.2.length ^ K ≤ 262144 := Nat.le_trans (Nat.pow_le_pow_left h64 K) (Nat.le_trans (Nat.pow_le_pow_right (by omega) h.k3) (by decide))
      have ep : s_impl_power (r.2.length : Int) k = some ((r.2.length ^ K : Nat) : Int) := by rw [ek]; exact powerA h.k3 (by omega)
      obtain ⟨ts, ets, _⟩ := relSet_eq (by omega : N ≤ 8) hr
      have ets' : s_impl_tupleSet (r.1, r.2) = some ts := ets
      have hts : ∀ x : List Int, tsC (x, r) = ts := fun x => by unfold tsC; rw [ets]; rfl
      have key2 : ∀ (q j m : Nat) (ee : List Con) (seen : List (ByteArray × Bool)), j + q = r.2.length ^ K → q < m → (∀ c, c ∈ ee ↔ c ∈ consA n K pre ∨ c ∈ (List.range j).map (conI n K r)) → ee.length ≤ pre.length * 262144 + j → SeenOk seen ((List.range j).map fun t => (List.range kk).map (plN N L (dig r.2.length K t))) →
          ∃ ee' seen', (∀ c, c ∈ ee' ↔ c ∈ consA n K pre ∨ c ∈ consR n K r) ∧ ee'.length ≤ pre.length * 262144 + 262144 ∧
          iter (stepD n k r) m ((j : Int), impL (N ^ K) ee, ts, seen) = some (.br (((r.2.length ^ K : Nat) : Int), impL (N ^ K) ee', ts, seen')) := by
        intro q
        induction q with
        | zero =>
          intro j m ee seen hj hm e1 e2 e3
          obtain ⟨m, rfl⟩ : ∃ q, m = q + 1 := ⟨m - 1, by omega⟩
          obtain rfl : j = r.2.length ^ K := by omega
          refine ⟨ee, seen, e1, by omega, ?_⟩
          unfold iter
          simp only [stepD, ep, Option.bind_some]
          rw [dec_lt, show decide (r.2.length ^ K < r.2.length ^ K) = false by simp, cond_false]
        | succ q ihq =>
          intro j m ee seen hj hm e1 e2 e3
          obtain ⟨m, rfl⟩ : ∃ q, m = q + 1 := ⟨m - 1, by omega⟩
          have hjP : j < r.2.length ^ K := by omega
          have hL := cnt_pos h.k1 hjP
          have hdl : ∀ d ∈ dig r.2.length K j, d < r.2.length := fun d hd => dig_lt hL K j d hd
          have hds : (dig r.2.length K j).length = K := dig_len _ _ _
          have hcon := conI_ok h hmem hjP
          have hmx := mx_lt hcon
          have hsc : ∀ t, t < r.2.length ^ K → scope n r (dig r.2.length K t) = NL ((List.range kk).map (plN N L (dig r.2.length K t))) := fun t ht => by
            rw [h.eN]; exact scope_NL (K := K) h.n4 hr (by rw [dig_len]; omega) (fun d hd => by rw [← rel_L hr]; exact dig_lt hL K t d hd)
          have hsmall : ∀ x ∈ (List.range kk).map (plN N L (dig r.2.length K j)), x < 65536 := fun x hx => by
            obtain ⟨p, hp, rfl⟩ := List.mem_map.1 hx
            have := plN_lt hr (List.mem_range.1 hp) _ (fun d hd => by rw [← rel_L hr]; exact hdl d hd)
            rw [hds] at this
            omega
          have hmxe : mx (conI n K r j) = ((List.range kk).map (plN N L (dig r.2.length K j))).foldl max 0 := mx_map (c := conI n K r j) (hsc j hjP)
          unfold iter
          simp only [stepD, ep, Option.bind_some]
          rw [dec_lt, show decide (j < r.2.length ^ K) = true by simpa using hjP, cond_true, ek, argsN (by omega) hL (by omega), Option.bind_some, mks_ok hkk (by omega), Option.bind_some]
          rw [cols_impl (n := n) h.eN h.n4 hr (by omega) hdl, Option.bind_some, after_br']
          simp only []
          rw [hsc j hjP, keyOf_eq (by simp; omega), Option.bind_some, e3 _ hsmall, ← hmxe]
          rw [← ek]
          by_cases hin : (List.range kk).map (plN N L (dig r.2.length K j)) ∈ (List.range j).map fun t => (List.range kk).map (plN N L (dig r.2.length K t))
          · rw [show decide ((List.range kk).map (plN N L (dig r.2.length K j)) ∈ (List.range j).map fun t => (List.range kk).map (plN N L (dig r.2.length K t))) = true by simpa only [decide_eq_true_eq] using hin]
            simp only [Bool.not_true, cond_false]
            rw [w64_add1 (by omega)]
            refine ihq (j + 1) m ee seen (by omega) (by omega) (fun c => ?_) (by omega) (fun T hT => ?_)
            · rw [e1, List.range_succ, List.map_append, List.mem_append, List.map_singleton, List.mem_singleton]
              constructor
              · rintro (h1 | h1)
                · exact .inl h1
                · exact .inr (.inl h1)
              · rintro (h1 | h1 | h1)
                · exact .inl h1
                · exact .inr h1
                · obtain ⟨t, ht, he⟩ := List.mem_map.1 hin
                  refine .inr (List.mem_map.2 ⟨t, ht, ?_⟩)
                  rw [h1]
                  unfold conI
                  rw [hsc j hjP, hsc t (by have := List.mem_range.1 ht; omega), he]
            · rw [e3 T hT, List.range_succ, List.map_append, List.map_singleton]
              by_cases hT1 : T ∈ (List.range j).map fun t => (List.range kk).map (plN N L (dig r.2.length K t))
              · simp only [List.mem_append, hT1, true_or]
              · have : ¬ T = (List.range kk).map (plN N L (dig r.2.length K j)) := fun e => hT1 (by rw [e]; exact hin)
                simp only [List.mem_append, hT1, List.mem_singleton, this, or_false]
          · rw [show decide ((List.range kk).map (plN N L (dig r.2.length K j)) ∈ (List.range j).map fun t => (List.range kk).map (plN N L (dig r.2.length K t))) = false by simpa only [decide_eq_false_iff_not] using hin]
            simp only [Bool.not_false, cond_true]
            have hbl := byMax_len ee (mx (conI n K r j))
            rw [impL_get hmx, Option.bind_some, app_ok (by simp; omega), Option.bind_some, w64_add1 (by omega), Int.toNat_natCast]
            have e4 : List.set (impL (N ^ K) ee) (mx (conI n K r j)) (((byMax ee (mx (conI n K r j))).map fun c => (c.1, tsC c)) ++ [(NL ((List.range kk).map (plN N L (dig r.2.length K j))), ts)]) = impL (N ^ K) (ee ++ [conI n K r j]) := by
              unfold impL
              rw [atM_snoc hmx, List.map_set, List.map_append]
              congr 2
              unfold conI
              rw [List.map_singleton, hsc j hjP, hts]
            rw [e4]
            refine ihq (j + 1) m (ee ++ [conI n K r j]) _ (by omega) (by omega) (fun c => ?_) (by simp; omega) ?_
            · rw [List.mem_append, e1, List.mem_singleton, List.range_succ, List.map_append, List.mem_append, List.map_singleton, List.mem_singleton, or_assoc]
            · rw [List.range_succ, List.map_append, List.map_singleton]
              exact e3.add hsmall
      obtain ⟨ee, seen', g1, g2, g3⟩ := key2 (r.2.length ^ K) 0 FU dd [] (by omega) (by unfold FU; omega) (fun c => by rw [hd1]; simp) (Nat.le_trans hd2 (Nat.le_add_right _ _)) (fun T hT => by simp [mget])
      have hpl : (pre ++ [r]).length = pre.length + 1 := by simp
      obtain ⟨dd', f1, f2, f3⟩ := ih (pre ++ [r]) ee (i + 1) (by rw [← hpre]; simp) (fun c => by rw [g1]; unfold consA; simp) (by rw [hpl, Nat.add_mul, Nat.one_mul]; exact g2)
      refine ⟨dd', f1, f2, ?_⟩
      rw [forR_step (s' := impL (N ^ K) ee)]
      · exact f3
      · rw [ets', Option.bind_some]
        rw [show ((0 : Nat) : Int) = 0 from rfl] at g3
        show ((iter (stepD n k r) FU (0, impL (N ^ K) dd, ts, [])).bind _) = _
        rw [g3, Option.bind_some, after_br']
  have e0 : List.replicate (N ^ K) ([] : List (List Int × List (ByteArray × Bool))) = impL (N ^ K) [] := by
    unfold impL atM byMax
    apply List.ext_getElem
    · simp
    · intro i h1 h2; simp
  obtain ⟨dd, a1, a2, a3⟩ := key rels [] [] 0 rfl (fun c => by simp [consA]) (by simp)
  refine ⟨dd, a1, by omega, ?_⟩
  rw [e0, a3, Option.bind_some, after_br']

theorem fits_eq {n : Int} {rels : List RelI} {k : Int} {N K : Nat} (h : Tmp n rels k N K) {dd : List Con} (hd : ∀ c, c ∈ dd ↔ c ∈ consA n K rels) {W : List Nat} {v : Nat} (hW : W.length = N ^ K) (hv : v < N ^ K) (hx : ∀ x ∈ W.take (v + 1), x < N) :
    s_impl_polySearch__fits (NL W) (v : Int) (n, k, impL (N ^ K) dd) = some (goodA (atM (N ^ K) (consA n K rels)) (W.take (v + 1))) := by
  have h4 := h.n4
  have hV := h.pw
  have hcc : ∀ c ∈ byMax dd v, ConN (v + 1) N c := fun c hc => by
    unfold byMax at hc
    rw [List.mem_filter] at hc
    have := con_mx (consA_ok h c ((hd c).1 hc.1))
    have e : mx c = v := by simpa using hc.2
    rwa [e] at this
  have hlen : (W.take (v + 1)).length = v + 1 := by rw [List.length_take]; omega
  have hg : goodA (atM (N ^ K) (consA n K rels)) (W.take (v + 1)) = (byMax dd v).all fun c => sat c W := by
    unfold goodA
    rw [hlen, show v + 1 - 1 = v by omega, List.getD_eq_getElem?_getD, atM_get hv]
    show ((byMax (consA n K rels) v).all fun c => sat c (W.take (v + 1))) = _
    have hm : ∀ c, c ∈ byMax dd v ↔ c ∈ byMax (consA n K rels) v := fun c => by unfold byMax; rw [List.mem_filter, List.mem_filter, hd]
    rw [Bool.eq_iff_iff, List.all_eq_true, List.all_eq_true]
    exact ⟨fun H c hc => by rw [← sat_take (hcc c hc)]; exact H c ((hm c).1 hc), fun H c hc => by rw [sat_take (hcc c ((hm c).2 hc))]; exact H c ((hm c).2 hc)⟩
  rw [hg]
  unfold s_impl_polySearch__fits
  simp only []
  rw [impL_get hv, Option.bind_some]
  rw [forR_chk (fun x : List Int × List (ByteArray × Bool) => (mget x.2 (kkey ((x.1.map Int.toNat).map (ga W)))).getD false) false () 0 _ (fun i x hxm => by
    obtain ⟨c, hc, rfl⟩ := List.mem_map.1 hxm
    have hcj := hcc c hc
    have hk := hcj.rel.k3
    simp only []
    rw [hcj.scope, compose_eq (fun x hx => by have := hcj.lt x hx; omega) (by omega), Option.bind_some, keyOf_eq (by simp; omega), Option.bind_some, NL_toNat]
    cases (mget (tsC c) (kkey ((cS c).map (ga W)))).getD false <;> rfl)]
  have e : (((byMax dd v).map fun c => (c.1, tsC c)).all fun x : List Int × List (ByteArray × Bool) => (mget x.2 (kkey ((x.1.map Int.toNat).map (ga W)))).getD false) = (byMax dd v).all fun c => sat c W := by
    rw [List.all_map, Bool.eq_iff_iff, List.all_eq_true, List.all_eq_true]
    have : ∀ c ∈ byMax dd v, (mget (tsC c) (kkey ((c.1.map Int.toNat).map (ga W)))).getD false = sat c W := fun c hc => by
      have hcj := hcc c hc
      show (mget (tsC c) (kkey ((cS c).map (ga W)))).getD false = _
      rw [(tsC_ok (by omega) hcj).2 _ (fun y hy => by
        obtain ⟨x, hx', rfl⟩ := List.mem_map.1 hy
        have h1 := hcj.lt x hx'
        have h2 : ga W x = ga (W.take (v + 1)) x := by
          unfold ga
          rw [List.getD_eq_getElem?_getD, List.getD_eq_getElem?_getD, List.getElem?_take, if_pos h1]
        have := hx _ (ga_mem (T := W.take (v + 1)) (k := x) (by omega))
        rw [h2]; omega)]
      rfl
    exact ⟨fun H c hc => by rw [← this c hc]; exact H c hc, fun H c hc => by show _ = true; rw [Function.comp, this c hc]; exact H c hc⟩
  rw [e]
  cases (byMax dd v).all fun c => sat c W <;> rfl

/-- The program's search, for an end that is known. -/
theorem eachP {β : Type} {n : Int} {rels : List RelI} {k : Int} {N K : Nat} (h : Tmp n rels k N K) {dd : List Con} (hd : ∀ c, c ∈ dd ↔ c ∈ consA n K rels) {par : List Int} (hp : par.length = N ^ K) (I : β → Prop) {cb : List Int → β → Option (Bool × β)} {cb' : List Nat → β → Bool × β}
    (hcb : ∀ (W : List Nat) (b : β), W.length = N ^ K → (∀ x ∈ W, x < N) → I b → cb (NL W) b = some (cb' W b) ∧ ((cb' W b).1 = true → I (cb' W b).2)) {b : β} (hb : I b) :
    ∃ W', eachG (fun t a => s_impl_polySearch__fits t a (n, k, impL (N ^ K) dd)) cb n par FU 0 (List.replicate (N ^ K) 0) b = some ((foldB cb' (sols (N ^ K) N (consA n K rels) par) b).1, W', (foldB cb' (sols (N ^ K) N (consA n K rels) par) b).2) := by
  have h9 := h.pw
  have h4 := h.n4
  obtain ⟨W', _, _, e, _⟩ := eachG_eq (ok := fun t a => s_impl_polySearch__fits t a (n, k, impL (N ^ K) dd)) (cb := cb) (cb' := cb') (N := N) (V := N ^ K) (par := par) (good := goodA (atM (N ^ K) (consA n K rels))) I (by omega) (by omega) hp
    (fun W v hW hv hx => fits_eq h hd hW hv hx) hcb (N ^ K) 0 FU (List.replicate (N ^ K) 0) b (by omega) (by unfold FU; omega) (by simp) (by simp) hb
  refine ⟨NL W', ?_⟩
  have e0 : NL (List.replicate (N ^ K) 0) = List.replicate (N ^ K) (0 : Int) := by unfold NL; simp
  rw [e0, ← h.eN] at e
  exact e

def ltN (a b : Nat) : Bool := decide (a < b)

theorem l1Put_eq {L : List Nat} {x : Nat} (hl : L.length ≤ 1000000000) : s_spec_l1Put (NL L) (x : Int) = some (NL (putS ltN L x)) := by
  unfold s_spec_l1Put
  obtain ⟨k, h1, h2, h3, h4⟩ := putS_at (lt := ltN) (L := L) x
  have hlt : ∀ j (h : j < L.length), decide (((ga L j : Nat) : Int) < (x : Int)) = ltN L[j] x := fun j h => by rw [dec_lt, ga_get h]; rfl
  rw [iter_br (R := List Int) (F := fun j : Nat => (j : Int)) (s := (0 : Int)) (t := (k : Int)) k (by omega) rfl (fun j hj => by
    have hjl : j < L.length := by omega
    rw [NL_len, dec_lt, show decide (j < L.length) = true by simpa using hjl, cond_true, idx_NL hjl, Option.bind_some, hlt j hjl, h2 j hjl hj, cond_true, w64_add1 (by omega)]) (by
    rw [NL_len, dec_lt]
    by_cases hk : k < L.length
    · rw [show decide (k < L.length) = true by simpa using hk, cond_true, idx_NL hk, Option.bind_some, hlt k hk, h3 hk, cond_false]
    · rw [show decide (k < L.length) = false by simpa using hk, cond_false])]
  simp only [Option.bind_some, after_br', NL_len, dec_lt]
  have fin : (slc (NL L) 0 (k : Int)).bind (fun y74 =>
  (slc (NL L) (k : Int) (L.length : Int)).bind fun y77 =>
  (app ([]) y74).bind fun y83 =>
  (app y83 ([(x : Int)])).bind fun y88 =>
  (app y88 y77).bind fun y91 =>
  some y91) = some (NL (L.take k ++ x :: L.drop k)) := by
    have e : (L.length : Int) = ((NL L).length : Int) := by rw [NL_len]
    rw [slc_take (by rw [NL_len]; exact h1), Option.bind_some, e, slc_drop (by rw [NL_len]; exact h1), Option.bind_some]
    have el := NL_len L
    rw [app_ok (by simp; omega), Option.bind_some, app_ok (by simp; omega), Option.bind_some, app_ok (by simp; omega), Option.bind_some]
    simp [NL]
  by_cases hk : k < L.length
  · rw [show decide (k < L.length) = true by simpa using hk, cond_true, idx_NL hk, Option.bind_some, Option.bind_some]
    rw [h4, dif_pos hk, ga_get hk]
    by_cases e : L[k] = x
    · rw [if_pos e, show (((L[k] : Nat) : Int) == (x : Int)) = true by simp [e], cond_true]
    · rw [if_neg e, show (((L[k] : Nat) : Int) == (x : Int)) = false by rw [beq_nat]; simpa using e, cond_false, fin]
  · rw [show decide (k < L.length) = false by simpa using hk, cond_false, Option.bind_some, cond_false, fin, h4, dif_neg hk]

/-- The values of a table, in order. -/
def img (N : Nat) (W : List Nat) : List Nat := (List.range N).filter fun x => decide (x ∈ W)

theorem img_len (N : Nat) (W : List Nat) : (img N W).length ≤ N := by
  have := List.length_filter_le (fun x => decide (x ∈ W)) (List.range N)
  rwa [List.length_range] at this

def putF (W : List Nat) : List Nat := W.foldl (putS ltN) []

theorem putF_ok (W : List Nat) : (∀ x, x ∈ putF W ↔ x ∈ W) ∧ (putF W).Pairwise fun a b => ltN a b = true := by
  unfold putF
  induction W using snoc_ind with
  | nil => exact ⟨fun x => Iff.rfl, List.Pairwise.nil⟩
  | snoc W y ih =>
    rw [List.foldl_append]
    obtain ⟨h1, h2⟩ := ih
    refine ⟨fun x => ?_, ?_⟩
    · show x ∈ putS ltN _ y ↔ _
      rw [putS_mem, h1]; simp
    · show (putS ltN _ y).Pairwise _
      refine putS_sorted (lt := ltN) (fun {x y z} a b => ?_) (fun {x y} a b => ?_) h2 y
      · unfold ltN at *; simp only [decide_eq_true_eq] at *; omega
      · unfold ltN at *; simp only [decide_eq_true_eq, decide_eq_false_iff_not] at *; omega

theorem putF_img {N : Nat} {W : List Nat} (h : ∀ x ∈ W, x < N) : putF W = img N W := by
  obtain ⟨h1, h2⟩ := putF_ok W
  have irr : ∀ x, ltN x x = false := fun x => by unfold ltN; simp
  have h3 : (img N W).Pairwise fun a b => ltN a b = true := by
    refine List.Pairwise.filter _ ?_
    exact List.pairwise_lt_range.imp fun {a b} hab => by unfold ltN; simpa using hab
  refine sorted_unique (le := fun a b => ltN a b = true) (fun x y a b => ?_) (perm_of_mem (sorted_nodup irr h2) (sorted_nodup irr h3) (fun x => ?_)) h2 h3
  · unfold ltN at *; simp only [decide_eq_true_eq] at *; omega
  · rw [h1]; unfold img; simp only [List.mem_filter, List.mem_range, decide_eq_true_eq]
    exact ⟨fun hx => ⟨h x hx, hx⟩, fun hx => hx.2⟩

theorem l14Values_eq {N : Nat} {W : List Nat} (h : ∀ x ∈ W, x < N) (hl : W.length ≤ 1000) (hN : N ≤ 1000) : s_spec_l14Values (NL W) = some (NL (img N W)) := by
  unfold s_spec_l14Values
  rw [forC0_fn (R := List Int) (F := fun j => NL (putF (W.take j))) (s := []) (n := W.length) (by simp) (by omega) rfl (fun j hj => by
    have hp : (putF (W.take j)).length ≤ N := by rw [putF_img (N := N) (fun x hx => h x (List.mem_of_mem_take hx))]; exact img_len _ _
    rw [idx_NL hj, Option.bind_some, l1Put_eq (by omega), Option.bind_some]
    congr 3
    unfold putF
    rw [List.take_add_one, List.getElem?_eq_getElem hj, List.foldl_append, ga_get hj]; rfl)]
  rw [Option.bind_some, after_br', List.take_length, putF_img h]

theorem imagesOf_eq {N : Nat} {W : List Nat} (h : ∀ x ∈ W, x < N) (hN : N ≤ 1000) : s_impl_imagesOf (NL W) (N : Int) = some (NL (img N W)) := by
  unfold s_impl_imagesOf
  obtain ⟨H, e, hl, hb⟩ := marks_eq h (by omega : N ≤ 100000)
  rw [e, Option.bind_some, marked_eq (by omega), Option.bind_some]
  congr 2
  unfold mk img
  rw [hl]
  exact List.filter_congr fun x _ => hb x

theorem guards1 (n : Int) (rels : List RelI) (hb : BRS rels) : (∃ N, Tmp n rels 1 N 1 ∧ s_spec_l14Takes n rels 1 = some true ∧ s_impl_canAsk n rels 1 = some true) ∨ (s_spec_l14Takes n rels 1 = some false ∧ s_impl_canAsk n rels 1 = some false) := by
  unfold s_spec_l14Takes s_spec_l14Size s_impl_canAsk s_impl_isTemplateSize
  have eA : (bif (decide (1 ≤ n)) then some (decide (n ≤ 4)) else some false) = some (decide (1 ≤ n) && decide (n ≤ 4)) := by
    cases decide (1 ≤ n) <;> rfl
  rw [l1In_eq, eA]
  simp only [Option.bind_some]
  by_cases h1 : 1 ≤ n ∧ n ≤ 4
  case neg =>
    rw [show (decide (1 ≤ n) && decide (n ≤ 4)) = false by rw [Bool.and_eq_false_iff]; simp only [decide_eq_false_iff_not]; omega]
    exact .inr ⟨rfl, rfl⟩
  rw [show (decide (1 ≤ n) && decide (n ≤ 4)) = true by simp [h1]]
  simp only [Bool.not_true, cond_false]
  obtain ⟨N, rfl⟩ : ∃ N : Nat, n = (N : Int) := ⟨n.toNat, by omega⟩
  rcases (rels_spec (n := (N : Int)) (N := N) rfl (by omega) (by omega) rels hb).cases with ⟨e, hr⟩ | ⟨e, hr⟩
  case inr =>
    rcases (rels_impl (n := (N : Int)) (N := N) rfl rels hb).cases with ⟨_, hr'⟩ | ⟨e', _⟩
    · exact absurd hr' hr
    · rw [e, e']; exact .inr ⟨rfl, rfl⟩
  rcases (rels_impl (n := (N : Int)) (N := N) rfl rels hb).cases with ⟨e', _⟩ | ⟨_, hr'⟩
  case inr => exact absurd hr hr'
  rw [e, e', l1In_eq]
  simp only [Option.bind_some, Bool.not_true, cond_false]
  have hall : rels.all (fun r => !((1 : Int) == 3 && decide (12 < r.2.length))) = true := by rw [List.all_eq_true]; intro r _; rfl
  have q1 := few12_spec rels 1 (by omega)
  have q2 := few12_impl rels 1
  rw [hall] at q1 q2
  rw [q2, show (decide ((1 : Int) ≤ 1) && decide ((1 : Int) ≤ 3)) = true from rfl]
  simp only [Bool.not_true, cond_false]
  rw [q1]
  exact .inl ⟨N, ⟨rfl, rfl, by omega, by omega, by omega, by omega, hr.1, hr.2, by rw [Nat.pow_one]; omega, fun h => by omega⟩, rfl, rfl⟩

/-- The identity is a polymorphism. -/
theorem id_sol {n : Int} {rels : List RelI} {N : Nat} (h : Tmp n rels 1 N 1) : List.range N ∈ sols N N (consA n 1 rels) (List.replicate N (-1)) := by
  rw [mem_sols]
  refine ⟨by simp, fun v hv => ?_⟩
  have hg : ga (List.range N) v = v := by rw [ga_get (by simpa using hv)]; simp
  refine ⟨by rw [hg]; exact hv, allow_free hv, ?_⟩
  unfold goodA
  rw [List.length_take, List.length_range, Nat.min_eq_left (by omega), Nat.add_sub_cancel, List.getD_eq_getElem?_getD, atM_get hv]
  show ((byMax (consA n 1 rels) v).all fun c => sat c _) = true
  rw [List.all_eq_true]
  intro c hc
  unfold byMax at hc
  rw [List.mem_filter] at hc
  have hcon := consA_ok h c hc.1
  have hcv := con_mx hcon
  have e : mx c = v := by simpa using hc.2
  rw [e] at hcv
  rw [sat_take hcv]
  obtain ⟨r, hr, hcr⟩ := List.mem_flatMap.1 hc.1
  unfold consR at hcr
  obtain ⟨i, hi, rfl⟩ := List.mem_map.1 hcr
  rw [Nat.pow_one] at hi
  have hi := List.mem_range.1 hi
  obtain ⟨kk, L, hrel⟩ := h.rel _ hr
  have eL := rel_L hrel
  have hdig : dig r.2.length 1 i = [i] := by
    unfold dig
    rw [Nat.pow_zero, Nat.div_one, Nat.mod_eq_of_lt hi]; rfl
  have hsc : (conI n 1 r i).1 = NL ((List.range kk).map (plN N L [i])) := by
    show scope n r _ = _
    rw [h.eN, hdig]
    exact scope_NL (K := 1) h.n4 hrel (by simp) (fun d hd => by rw [List.mem_singleton] at hd; subst hd; rw [← eL]; exact hi)
  have hcS : cS (conI n 1 r i) = (List.range kk).map (plN N L [i]) := by unfold cS; rw [hsc, NL_toNat]
  have hcL : cL (conI n 1 r i) = L := by
    unfold cL
    show NLo r.2 = L
    rw [hrel.eq]; exact NLo_NLL L
  unfold sat
  rw [hcS, hcL, List.map_map]
  have hm : gl L i ∈ L := by rw [gl_get (by omega)]; exact List.getElem_mem _
  have hl := hrel.rel.len _ hm
  have : (List.range kk).map (ga (List.range N) ∘ plN N L [i]) = gl L i := by
    conv => rhs; rw [← map_ga (gl L i), hl]
    refine List.map_congr_left fun p hp => ?_
    have hp := List.mem_range.1 hp
    have e1 : plN N L [i] p = ga (gl L i) p := by unfold plN; simp
    have e2 : ga (gl L i) p < N := hrel.lt _ hm _ (ga_mem (by omega))
    rw [Function.comp, e1, ga_get (by simpa using e2)]; simp
  rw [this]
  simpa using hm

/-- The better of two: fewer values. -/
def bet (N : Nat) (b W : List Nat) : List Nat := if (img N W).length < (img N b).length then W else b

theorem bet_fold (N : Nat) : ∀ (l : List (List Nat)) (b : List Nat), (l.foldl (bet N) b = b ∨ l.foldl (bet N) b ∈ l) ∧ (img N (l.foldl (bet N) b)).length ≤ (img N b).length ∧ ∀ W ∈ l, (img N (l.foldl (bet N) b)).length ≤ (img N W).length
  | [], b => ⟨.inl rfl, Nat.le_refl _, by simp⟩
  | x :: l, b => by
    obtain ⟨h1, h2, h3⟩ := bet_fold N l (bet N b x)
    rw [List.foldl_cons]
    have hb : bet N b x = x ∨ bet N b x = b := by unfold bet; split <;> simp
    have hb1 : (img N (bet N b x)).length ≤ (img N b).length ∧ (img N (bet N b x)).length ≤ (img N x).length := by
      unfold bet; split <;> omega
    refine ⟨?_, by omega, fun W hW => ?_⟩
    · rcases h1 with h1 | h1
      · rcases hb with hb | hb
        · right; rw [h1, hb]; simp
        · left; rw [h1, hb]
      · right; simp [h1]
    · rcases List.mem_cons.1 hW with rfl | hW
      · omega
      · exact h3 W hW

theorem sols_bound {N : Nat} {cs : List Con} {par : List Int} (h : N ≤ 4) : (sols N N cs par).length ≤ 256 := by
  have h1 : (sols N N cs par).length ≤ N ^ N := exts_count _ _
  have h2 : N ^ N ≤ 4 ^ 4 := Nat.le_trans (Nat.pow_le_pow_left h N) (Nat.pow_le_pow_right (by omega) h)
  omega

theorem each_core (n k c : Int) (st : List (List (List Int × List (ByteArray × Bool)))) (par : List Int) : ∀ (fu : Nat) (v : Int) (vals : List Int) (b : Int × List Int × Bool),
    s_impl_polySearch__each_1__firstPoly_1_IsCore_1 fu v vals c k (b.1, b.2.1) b.2.2 (n, k, st) par = eachG (fun t a => s_impl_polySearch__fits t a (n, k, st)) (fun vals b => s_impl_firstPoly_1__IsCore_1 vals c k (b.1, b.2.1) b.2.2) n par fu v vals b := by
  intro fu
  induction fu with
  | zero => intro v vals b; rfl
  | succ fu ih =>
    intro v vals b
    simp only [s_impl_polySearch__each_1__firstPoly_1_IsCore_1, eachG, ih]
    rfl

def cbC (N : Nat) (W : List Nat) (b : Int × List Int × Bool) : Bool × Int × List Int × Bool := bif decide ((img N W).length < N) then (false, 1, NL W, true) else (!b.2.2, b.1, b.2.1, b.2.2)

theorem foldB_core (N : Nat) : ∀ (l : List (List Nat)) (b : Int × List Int × Bool), b.2.2 = false → (foldB (cbC N) l b).2.2.2 = l.any fun W => decide ((img N W).length < N)
  | [], b, h => by simpa [foldB] using h
  | x :: l, b, h => by
    simp only [foldB, List.any_cons]
    cases hd : decide ((img N x).length < N) with
    | true =>
      have : cbC N x b = (false, 1, NL x, true) := by unfold cbC; rw [hd]; rfl
      rw [this]; rfl
    | false =>
      have : cbC N x b = (!b.2.2, b.1, b.2.1, b.2.2) := by unfold cbC; rw [hd]; rfl
      rw [this, h]
      simp only [Bool.not_false, cond_true, Bool.false_or]
      exact foldB_core N l _ rfl

theorem IsCore_same (n : Int) (rels : List RelI) (hb : BRS rels) : ∃ z, s_spec_IsCore n rels = some z ∧ s_impl_IsCore n rels = some z := by
  unfold s_spec_IsCore s_impl_IsCore
  rcases guards1 n rels hb with ⟨N, h, g1, g2⟩ | ⟨g1, g2⟩
  case inr => rw [g1, g2]; exact ⟨_, rfl, rfl⟩
  rw [g1, g2]
  have h4 := h.n4
  obtain rfl : n = (N : Int) := h.eN
  have hS := id_sol h
  have hbd := sols_bound (cs := consA (N : Int) 1 rels) (par := List.replicate N (-1)) h4
  have hlen : ∀ W ∈ sols N N (consA (N : Int) 1 rels) (List.replicate N (-1)), W.length = N := fun W hW => sols_len hW
  have hlt : ∀ W ∈ sols N N (consA (N : Int) 1 rels) (List.replicate N (-1)), ∀ x ∈ W, x < N := fun W hW => sols_lt hW
  -- the reference
  have f1 := findP h (par := List.replicate N (-1)) (most := 300) (by simp) (by omega)
  rw [Nat.pow_one] at f1
  have f2 : dnS ((sols N N (consA (N : Int) 1 rels) (List.replicate N (-1))).foldl lfS ([], 0, 300, (300 : Int) == 1)) = (NLL (sols N N (consA (N : Int) 1 rels) (List.replicate N (-1))), (dnS ((sols N N (consA (N : Int) 1 rels) (List.replicate N (-1))).foldl lfS ([], 0, 300, (300 : Int) == 1))).2) := by
    refine Prod.ext ?_ rfl
    show ((sols N N (consA (N : Int) 1 rels) (List.replicate N (-1))).foldl lfS ([], 0, 300, (300 : Int) == 1)).1 = _
    rw [lf_found (by decide), List.take_of_length_le (by simp; omega)]; rfl
  rw [f2] at f1
  -- the program
  obtain ⟨dd, d1, d2, d3⟩ := newPoly_eq h
  rw [Nat.pow_one] at d3
  have f3 := eachP (β := Int × List Int × Bool) h d1 (par := List.replicate N (-1)) (by simp) (fun _ => True) (cb := fun vals b => s_impl_firstPoly_1__IsCore_1 vals (N : Int) 1 (b.1, b.2.1) b.2.2) (cb' := cbC N) (fun W b hW hx _ => by
    refine ⟨?_, fun _ => trivial⟩
    rw [Nat.pow_one] at hW
    unfold s_impl_firstPoly_1__IsCore_1 s_impl_IsCore_1__g cbC
    rw [imagesOf_eq hx (by omega), Option.bind_some, Option.bind_some, NL_len, dec_lt, clone_eq (by simp; omega)]
    cases decide ((img N W).length < N) <;> rfl) (b := (0, [], false)) trivial
  rw [Nat.pow_one] at f3
  obtain ⟨W', f3⟩ := f3
  have f4 := foldB_core N (sols N N (consA (N : Int) 1 rels) (List.replicate N (-1))) (0, [], false) rfl
  generalize hSS : sols N N (consA (N : Int) 1 rels) (List.replicate N (-1)) = S at *
  have i1 : s_impl_firstPoly__IsCore_1 (N : Int) rels 1 (List.replicate N (-1)) (N : Int) = some (((foldB (cbC N) S (0, [], false)).2.1, (foldB (cbC N) S (0, [], false)).2.2.1), S.any fun W => decide ((img N W).length < N)) := by
    unfold s_impl_firstPoly__IsCore_1 s_impl_polySearch__each__firstPoly_1_IsCore_1
    rw [d3, Option.bind_some, Option.bind_some]
    simp only []
    rw [mks_ok (k := N) (n := ((List.replicate N (-1 : Int)).length : Int)) (by simp) (by omega), Option.bind_some]
    have e := each_core (N : Int) 1 (N : Int) (impL N dd) (List.replicate N (-1)) FU 0 (List.replicate N 0) (0, [], false)
    simp only [] at e
    rw [e, f3, ← f4]; rfl
  obtain ⟨W0, S', rfl⟩ : ∃ W0 S', S = W0 :: S' := by cases S with
    | nil => simp at hS
    | cons a b => exact ⟨a, b, rfl⟩
  obtain ⟨b1, b2, b3⟩ := bet_fold N S' W0
  have hbm : ∀ j, (S'.take j).foldl (bet N) W0 ∈ W0 :: S' := fun j => by
    rcases (bet_fold N (S'.take j) W0).1 with h | h
    · rw [h]; simp
    · exact List.mem_cons_of_mem _ (List.mem_of_mem_take h)
  have s1 : s_spec_l14Core (N : Int) rels = some (NL (S'.foldl (bet N) W0)) := by
    unfold s_spec_l14Core
    rw [l14Free_eq (by omega), Option.bind_some, f1, Option.bind_some]
    simp only []
    rw [show idx (NLL (W0 :: S')) 0 = some (NL W0) from rfl, Option.bind_some]
    rw [iter_br (R := List Int) (F := fun j => (NL ((S'.take j).foldl (bet N) W0), ((j + 1 : Nat) : Int))) (s := (NL W0, 1)) (t := (NL (S'.foldl (bet N) W0), ((S'.length + 1 : Nat) : Int))) S'.length (by simp at hbd; omega) rfl (fun j hj => by
      have hin : S'[j] ∈ W0 :: S' := List.mem_cons_of_mem _ (List.getElem_mem hj)
      have hidx : idx (NLL (W0 :: S')) ((j + 1 : Nat) : Int) = some (NL S'[j]) := by
        rw [idx_NLL (by simp; omega), gl_get (by simp; omega)]; simp
      simp only []
      rw [NLL_len, List.length_cons, dec_lt, show decide (j + 1 < S'.length + 1) = true by simp; omega, cond_true, hidx]
      simp only [Option.bind_some]
      rw [l14Values_eq (hlt _ hin) (by rw [hlen _ hin]; omega) (by omega), Option.bind_some, l14Values_eq (hlt _ (hbm j)) (by rw [hlen _ (hbm j)]; omega) (by omega), Option.bind_some, NL_len, NL_len, dec_lt, w64_add1 (by simp at hbd; omega)]
      rw [List.take_add_one, List.getElem?_eq_getElem hj, List.foldl_append]
      show _ = some (Ctl.nx (NL (bet N ((S'.take j).foldl (bet N) W0) S'[j]), _))
      unfold bet
      by_cases hc : (img N S'[j]).length < (img N ((S'.take j).foldl (bet N) W0)).length
      · have hc' := hc
        unfold bet at hc'
        rw [if_pos hc', show decide _ = true from decide_eq_true hc']; rfl
      · have hc' := hc
        unfold bet at hc'
        rw [if_neg hc', show decide _ = false from decide_eq_false hc']; rfl) (by
      simp only []
      rw [NLL_len, List.length_cons, dec_lt, show decide (S'.length + 1 < S'.length + 1) = false by simp, cond_false, List.take_length])]
    rfl
  have hin : S'.foldl (bet N) W0 ∈ W0 :: S' := by have := hbm S'.length; rwa [List.take_length] at this
  simp only [Option.bind_some, Bool.not_true, cond_false, freeTable_eq (V := N) (by omega), i1, s1]
  rw [l14Values_eq (hlt _ hin) (by rw [hlen _ hin]; omega) (by omega), Option.bind_some, NL_len]
  refine ⟨_, rfl, ?_⟩
  congr 2
  rw [Bool.eq_iff_iff, Bool.not_eq_true', List.any_eq_false]
  simp only [beq_iff_eq, decide_eq_true_eq]
  constructor
  · intro H
    have h1 := H _ hin
    have h2 := img_len N (S'.foldl (bet N) W0)
    omega
  · intro H W hW
    have h1 : (img N (S'.foldl (bet N) W0)).length ≤ (img N W).length := by
      rcases List.mem_cons.1 hW with rfl | hW
      · exact b2
      · exact b3 W hW
    omega

theorem s_laws_FnExactIsCore_ok (n : Int) (rels : List RelI) (_ : OkI n) (hr : OkL (OkP OkI (OkL (OkL OkI))) rels) : s_laws_FnExactIsCore n rels = some true := by
  unfold s_laws_FnExactIsCore
  obtain ⟨u, hu, hb⟩ := szRelationS_ok rels hr.1 (fun r h => ⟨(hr.2 r h).2.1, fun x hx => ((hr.2 r h).2.2 x hx).1⟩) 1048576 (by omega) (by omega)
  rw [hu, Option.bind_some]
  by_cases hneg : u < 0
  · rw [show decide (u < 0) = true by simpa using hneg]; rfl
  rcases hb with hb | ⟨hb, _, _⟩
  · exact absurd hb hneg
  rw [show decide (u < 0) = false by simpa using hneg, cond_false]
  obtain ⟨z, z1, z2⟩ := IsCore_same n rels hb
  simp only [toRelationS_ok rels hb, eqRelationS_refl rels hb, Option.bind_some, z1, z2, beq_self_eq_true, Bool.not_true, cond_false, Bool.or_false]

end Go.Proofs
