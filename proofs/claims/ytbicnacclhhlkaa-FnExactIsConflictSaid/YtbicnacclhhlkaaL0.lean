/- Plain lemmas on what the functions compute, up to: the law gives true. No conditions. -/
import Derived.Test.YtbicnacclhhlkaaF3
import Derived.Test.YtbicnacclhhlkaaGPure
import Derived.Test.YtbicnacclhhlkaaGOpen
import Derived.Test.YtbicnacclhhlkaaGLoop
set_option linter.unusedVariables false
namespace Go.Proofs
open Go.G
set_option maxRecDepth 100000

theorem eqIntS_eq (a b : List Int) (ha : a.length ≤ 4294967296) : s_laws_eqIntS a b = some (a == b) := by
  unfold s_laws_eqIntS
  by_cases hl : a.length = b.length
  · rw [hl]
    simp only [bne_self_eq_false, cond_false]
    rw [forC0_chk (n := b.length) (fun j => a[j]? == b[j]?) false rfl (by omega)]
    · have : (a == b) = (List.range b.length).all (fun j => a[j]? == b[j]?) := by
        rw [Bool.eq_iff_iff]
        simp only [beq_iff_eq, List.all_eq_true, List.mem_range]
        constructor
        · rintro rfl j _; rfl
        · intro h; apply List.ext_getElem?; intro j
          by_cases hj : j < b.length
          · exact h j hj
          · rw [List.getElem?_eq_none (by omega), List.getElem?_eq_none (by omega)]
      rw [← this]
      cases a == b <;> rfl
    · intro j hj
      have hj' : j < a.length := by omega
      simp only [idx_nat, List.getElem?_eq_getElem hj, List.getElem?_eq_getElem hj', Option.bind_some]
      by_cases h : a[j] = b[j]
      · simp [h]
      · simp [bne, beq_eq_false_iff_ne.2 h]
  · have h1 : (a == b) = false := by
      rw [Bool.eq_false_iff]; intro h; exact hl (by rw [beq_iff_eq.1 h])
    have h2 : ((a.length : Int) != (b.length : Int)) = true := by simp; omega
    rw [h1, h2]; rfl

theorem toIntS_eq (a : List Int) (ha : a.length ≤ 4294967296) : s_laws_toIntS a = some a := by
  unfold s_laws_toIntS
  rw [mks_ok rfl ha, Option.bind_some, forC0_set (fun j => a[j]?.getD 0) (z := 0) (n := a.length) rfl ha rfl]
  · rw [Option.bind_some, after_br', map_range_getElem]
  · intro j s hj hs
    simp [List.getElem?_eq_getElem hj, List.getElem?_eq_getElem (show j < s.length by omega)]


theorem pow_loop {n k : Int} {N K : Nat} (hn : n = (N : Int)) (hk : k = (K : Int)) (hN : 1 ≤ N) (hK : N ^ K ≤ 9223372036854775807) (hK2 : K ≤ 4294967296) : (
  (iter (S := Int × Int) (R := Int) (fun s2 =>
  (bif (decide (0 < s2.1)) then some (.nx (w64 (s2.1 - 1), w64 (s2.2 * n))) else some (.br (s2.1, s2.2)))) FU (k, 1)).bind fun o6 => after o6 (fun r_ => some r_) (fun s2 =>
  some s2.2)) = some ((N ^ K : Nat) : Int) := by
  subst hn hk
  rw [iter_br (fun t => ((K : Int) - t, ((N ^ t : Nat) : Int))) (t := (0, ((N ^ K : Nat) : Int))) K (by omega)]
  · rfl
  · simp
  · intro j hj
    have hd : decide ((0 : Int) < (K : Int) - j) = true := by simp; omega
    have hp : N ^ (j + 1) ≤ N ^ K := Nat.pow_le_pow_right hN (by omega)
    simp only [hd, cond_true]
    rw [w64_id (by omega) (by omega), show ((N ^ j : Nat) : Int) * (N : Int) = ((N ^ (j + 1) : Nat) : Int) by rw [Nat.pow_succ]; simp, w64_nat (by omega)]
    simp; omega
  · simp

theorem l2Pow_eq {n k : Int} {N K : Nat} (hn : n = (N : Int)) (hk : k = (K : Int)) (hN : 1 ≤ N) (hK : N ^ K ≤ 9223372036854775807) (hK2 : K ≤ 4294967296) : s_spec_l2Pow n k = some ((N ^ K : Nat) : Int) := pow_loop hn hk hN hK hK2


theorem inSize_eq (l : List Int) (n : Int) : s_impl_inSize l n = some (l.all fun x => decide (0 ≤ x) && decide (x < n)) := by
  unfold s_impl_inSize
  rw [forR_chk (fun x => decide (0 ≤ x) && decide (x < n)) false]
  · cases l.all fun x => decide (0 ≤ x) && decide (x < n) <;> rfl
  · intro i x _
    by_cases h : x < 0
    · simp [h]; simp [show ¬ 0 ≤ x by omega]
    · by_cases h' : n ≤ x
      · simp [h, h']; simp [show ¬ x < n by omega]
      · simp [h, h', show 0 ≤ x by omega, show x < n by omega]


theorem l1In_eq (x a b : Int) : s_spec_l1In x a b = some (decide (a ≤ x) && decide (x ≤ b)) := by
  unfold s_spec_l1In
  by_cases h : a ≤ x <;> simp [h]


theorem all_range {α : Type} (l : List α) (p : α → Bool) (d : α) : (List.range l.length).all (fun j => p (l[j]?.getD d)) = l.all p := by
  rw [Bool.eq_iff_iff]
  simp only [List.all_eq_true, List.mem_range]
  constructor
  · intro h x hx
    obtain ⟨i, hi, rfl⟩ := List.mem_iff_getElem.1 hx
    have := h i hi
    simpa [List.getElem?_eq_getElem hi] using this
  · intro h j hj
    rw [List.getElem?_eq_getElem hj]
    exact h _ (List.getElem_mem hj)


theorem pow_small {N K : Nat} (hN8 : N ≤ 8) (hK : K ≤ 3) : N ^ K ≤ 512 := by
  have h1 : N ^ K ≤ 8 ^ K := Nat.pow_le_pow_left hN8 K
  have h2 : 8 ^ K ≤ 8 ^ 3 := Nat.pow_le_pow_right (by omega) hK
  omega

theorem szIntS_eq (a : List Int) (left : Int) (ha : a.length ≤ 9223372036854775807) (h0 : 0 ≤ left) (h1 : left ≤ 4611686018427387904) : s_laws_szIntS a left = some (if left < a.length then -1 else left - a.length) := by
  unfold s_laws_szIntS
  rw [w64_id (by omega) (by omega)]
  by_cases h : left < a.length
  · rw [if_pos h]; simp [show left - (a.length : Int) < 0 by omega]
  · rw [if_neg h]; simp [show ¬ left - (a.length : Int) < 0 by omega]

theorem same_loop (a b : List Int) (ha : a.length ≤ 4294967296) : (
  (bif ((a.length : Int) != (b.length : Int)) then some false else (forC (S := Unit) (R := Bool) (fun k12 s10 =>
  (idx a k12).bind fun x17 =>
  (idx b k12).bind fun x19 =>
  (bif (x17 != x19) then some (.rt false) else some (.nx ()))) 0 (a.length : Int) ()).bind fun o14 => after o14 (fun r_ => some r_) (fun s10 =>
  some true))) = some (a == b) := eqIntS_eq a b ha

theorem l1Same_eq (a b : List Int) (ha : a.length ≤ 4294967296) : s_spec_l1Same a b = some (a == b) := by
  unfold s_spec_l1Same; exact same_loop a b ha


def NL (T : List Nat) : List Int := T.map fun x : Nat => (x : Int)

@[simp] theorem NL_len (T : List Nat) : (NL T).length = T.length := by simp [NL]

@[simp] theorem NL_nil : NL [] = [] := rfl

@[simp] theorem NL_cons (x : Nat) (T : List Nat) : NL (x :: T) = (x : Int) :: NL T := rfl

theorem NL_app (S T : List Nat) : NL (S ++ T) = NL S ++ NL T := by simp [NL]

theorem NL_inj {S T : List Nat} (h : NL S = NL T) : S = T := by
  induction S generalizing T with
  | nil => cases T with
    | nil => rfl
    | cons y T => cases h
  | cons x S ih => cases T with
    | nil => cases h
    | cons y T =>
      simp only [NL_cons, List.cons.injEq] at h
      rw [ih h.2, show x = y by omega]

theorem NL_beq (S T : List Nat) : (NL S == NL T) = (S == T) := by
  rw [Bool.eq_iff_iff, beq_iff_eq, beq_iff_eq]; exact ⟨NL_inj, fun h => by rw [h]⟩

def ga (T : List Nat) (k : Nat) : Nat := T.getD k 0

theorem ga_get {T : List Nat} {k : Nat} (h : k < T.length) : ga T k = T[k] := by simp [ga, List.getElem?_eq_getElem h]

theorem ga_mem {T : List Nat} {k : Nat} (h : k < T.length) : ga T k ∈ T := by rw [ga_get h]; exact List.getElem_mem h

theorem idx_NL {T : List Nat} {k : Nat} (h : k < T.length) : idx (NL T) (k : Int) = some ((ga T k : Nat) : Int) := by
  rw [idx_nat, ga_get h]; simp [NL, List.getElem?_eq_getElem h]

theorem NL_of {t : List Int} (h : ∀ x ∈ t, 0 ≤ x) : ∃ T : List Nat, t = NL T := by
  refine ⟨t.map Int.toNat, ?_⟩
  unfold NL
  rw [List.map_map]
  conv => lhs; rw [← List.map_id t]
  refine List.map_congr_left fun x hx => ?_
  have := h x hx
  simp; omega

theorem map_ga (T : List Nat) : (List.range T.length).map (ga T) = T := by
  apply List.ext_getElem
  · simp
  · intro i h1 h2
    simp only [List.getElem_map, List.getElem_range]
    exact ga_get h2

theorem w64_add {a b : Nat} (h : a + b ≤ 9223372036854775807) : w64 ((a : Int) + (b : Int)) = ((a + b : Nat) : Int) := by
  rw [w64_id (by omega) (by omega)]; omega

theorem w64_add1 {a : Nat} (h : a + 1 ≤ 9223372036854775807) : w64 ((a : Int) + 1) = ((a + 1 : Nat) : Int) := by
  rw [w64_id (by omega) (by omega)]; omega

theorem w64_div {a b : Nat} (h : a ≤ 9223372036854775807) : w64 (Int.tdiv (a : Int) (b : Int)) = ((a / b : Nat) : Int) := by
  rw [tdiv_nat, w64_nat (Nat.le_trans (Nat.div_le_self _ _) h)]

theorem dec_lt (a b : Nat) : decide ((a : Int) < (b : Int)) = decide (a < b) := by rw [decide_eq_decide]; omega


def ix (N : Nat) (s : Nat) (A : List Nat) : Nat := A.foldl (fun s x => s * N + x) s

theorem ix_lt {N : Nat} : ∀ (A : List Nat) (s : Nat), (∀ x ∈ A, x < N) → ix N s A < (s + 1) * N ^ A.length
  | [], s, _ => by simp [ix]
  | x :: A, s, h => by
    have h1 := ix_lt A (s * N + x) (fun y hy => h y (by simp [hy]))
    have hx := h x (by simp)
    have : (s * N + x + 1) * N ^ A.length ≤ (s + 1) * N * N ^ A.length := by
      apply Nat.mul_le_mul_right; rw [Nat.add_mul, Nat.one_mul]; omega
    show ix N (s * N + x) A < _
    rw [List.length_cons, Nat.pow_succ, Nat.mul_comm (N ^ A.length), ← Nat.mul_assoc]
    omega

theorem ix0_lt {N K : Nat} {A : List Nat} (h : ∀ x ∈ A, x < N) (hl : A.length = K) : ix N 0 A < N ^ K := by
  have := ix_lt A 0 h; rw [hl] at this; simpa using this

theorem compose_eq {F G : List Nat} (h : ∀ x ∈ F, x < G.length) (hl : F.length ≤ 4294967296) : s_impl_compose (NL F) (NL G) = some (NL (F.map (ga G))) := by
  unfold s_impl_compose
  rw [mks_ok rfl (by simpa using hl), Option.bind_some, forC0_set (fun j => ((ga G (ga F j) : Nat) : Int)) (z := 0) (n := F.length) (by simp) (by omega) (by simp)]
  · rw [Option.bind_some, after_br']
    congr 1
    conv => rhs; rw [← map_ga F]
    unfold NL; simp
  · intro j s hj hs
    rw [idx_NL hj, Option.bind_some, idx_NL (h _ (ga_mem hj)), Option.bind_some]
    simp [List.getElem?_eq_getElem (show j < s.length by omega)]

theorem pow_le_512 {N K : Nat} (h8 : N ≤ 8) (hK : K ≤ 3) : N ^ K ≤ 512 := pow_small h8 hK

theorem NL_toNat (T : List Nat) : (NL T).map Int.toNat = T := by
  unfold NL; rw [List.map_map]; exact (List.map_congr_left (fun x _ => by simp)).trans (List.map_id T)

theorem bne_nat (a b : Nat) : ((a : Int) != (b : Int)) = !(a == b) := by rw [bne, beq_nat]


def NLL (L : List (List Nat)) : List (List Int) := L.map NL

@[simp] theorem NLL_len (L : List (List Nat)) : (NLL L).length = L.length := by simp [NLL]

@[simp] theorem NLL_nil : NLL [] = [] := rfl

@[simp] theorem NLL_cons (x : List Nat) (L : List (List Nat)) : NLL (x :: L) = NL x :: NLL L := rfl

def gl (L : List (List Nat)) (k : Nat) : List Nat := L.getD k []

theorem gl_get {L : List (List Nat)} {k : Nat} (h : k < L.length) : gl L k = L[k] := by simp [gl, List.getElem?_eq_getElem h]

theorem gl_mem {L : List (List Nat)} {k : Nat} (h : k < L.length) : gl L k ∈ L := by rw [gl_get h]; exact List.getElem_mem h

theorem idx_NLL {L : List (List Nat)} {k : Nat} (h : k < L.length) : idx (NLL L) (k : Int) = some (NL (gl L k)) := by
  rw [idx_nat, gl_get h]; simp [NLL, List.getElem?_eq_getElem h]

def lexLt : List Nat → List Nat → Bool
  | x :: a, y :: b => if x = y then lexLt a b else decide (x < y)
  | _, _ => false

theorem lexLt_irrefl : ∀ a : List Nat, lexLt a a = false
  | [] => rfl
  | x :: a => by simp [lexLt, lexLt_irrefl a]

theorem lexLt_trans : ∀ {a b c : List Nat}, lexLt a b = true → lexLt b c = true → lexLt a c = true
  | [], _, _, h, _ => by simp [lexLt] at h
  | _ :: _, [], _, h, _ => by simp [lexLt] at h
  | _ :: _, _ :: _, [], _, h => by simp [lexLt] at h
  | x :: a, y :: b, z :: c, h, h' => by
    simp only [lexLt] at h h' ⊢
    by_cases h1 : x = y
    · subst h1
      rw [if_pos rfl] at h
      by_cases h2 : x = z
      · subst h2
        rw [if_pos rfl] at h' ⊢
        exact lexLt_trans h h'
      · rw [if_neg h2] at h' ⊢; exact h'
    · rw [if_neg h1, decide_eq_true_eq] at h
      by_cases h2 : y = z
      · subst h2
        rw [if_neg h1]; simp [h]
      · rw [if_neg h2, decide_eq_true_eq] at h'
        rw [if_neg (by omega)]; simp; omega

theorem lexLt_asymm {a b : List Nat} (h : lexLt a b = true) : lexLt b a = false := by
  cases h' : lexLt b a with
  | false => rfl
  | true => have := lexLt_trans h h'; rw [lexLt_irrefl] at this; cases this


theorem lexLt_find : ∀ (a b : List Nat), a.length ≤ b.length → lexLt a b = (match (List.range a.length).findSome? (fun j => if ga a j = ga b j then none else some (decide (ga a j < ga b j))) with | none => false | some r => r)
  | [], b, _ => by simp [lexLt]
  | x :: a, [], h => by simp at h
  | x :: a, y :: b, h => by
    have ih := lexLt_find a b (by simpa using h)
    simp only [lexLt, List.length_cons, List.range_succ_eq_map, List.findSome?_cons]
    by_cases e : x = y
    · subst e
      rw [if_pos rfl, ih, if_pos (by simp [ga]), List.findSome?_map]
      have : ((fun j => if ga (x :: a) j = ga (x :: b) j then none else some (decide (ga (x :: a) j < ga (x :: b) j))) ∘ Nat.succ) = fun j => if ga a j = ga b j then none else some (decide (ga a j < ga b j)) := by
        funext j; simp [ga]
      rw [this]
    · rw [if_neg e, if_neg (by simpa [ga] using e)]
      simp [ga]

theorem l3Less_eq {a b : List Nat} (h : a.length ≤ b.length) (hl : a.length ≤ 9223372036854775807) : s_spec_l3Less (NL a) (NL b) = some (lexLt a b) := by
  unfold s_spec_l3Less
  rw [forC0_find (n := a.length) (fun j => if ga a j = ga b j then none else some (decide (ga a j < ga b j))) (by simp) hl]
  · rw [Option.bind_some, lexLt_find a b h]
    cases (List.range a.length).findSome? _ <;> rfl
  · intro j hj
    rw [idx_NL hj, idx_NL (show j < b.length by omega)]
    simp only [Option.bind_some, bne_nat]
    by_cases e : ga a j = ga b j
    · rw [if_pos e, e]; simp
    · rw [if_neg e, beq_eq_false_iff_ne.2 e]
      simp only [Bool.not_false, cond_true]
      rw [dec_lt]


theorem l1Same_NL {a b : List Nat} (h : a.length ≤ 4294967296) : s_spec_l1Same (NL a) (NL b) = some (a == b) := by
  rw [l1Same_eq _ _ (by simpa using h), NL_beq]

def Sorted (L : List (List Nat)) : Prop := L.Pairwise fun a b => lexLt a b = true

theorem Sorted.get {L : List (List Nat)} (h : Sorted L) {i j : Nat} (hij : i < j) (hj : j < L.length) : lexLt (gl L i) (gl L j) = true := by
  rw [gl_get (by omega), gl_get hj]
  exact List.pairwise_iff_getElem.1 h i j (by omega) hj hij

def findPos (L : List (List Nat)) (t : List Nat) : Nat := L.countP fun u => lexLt u t

theorem findPos_of {L : List (List Nat)} {t : List Nat} {k : Nat} (hk : k ≤ L.length) (h1 : ∀ i, i < k → lexLt (gl L i) t = true) (h2 : ∀ i, k ≤ i → i < L.length → lexLt (gl L i) t = false) : findPos L t = k := by
  unfold findPos
  conv => lhs; rw [← List.take_append_drop k L, List.countP_append]
  have e1 : (L.take k).countP (fun u => lexLt u t) = (L.take k).length := by
    rw [List.countP_eq_length]
    intro u hu
    obtain ⟨i, hi, rfl⟩ := List.mem_iff_getElem.1 hu
    simp only [List.length_take] at hi
    have := h1 i (by omega)
    rw [gl_get (by omega)] at this
    simpa using this
  have e2 : (L.drop k).countP (fun u => lexLt u t) = 0 := by
    rw [List.countP_eq_zero]
    intro u hu
    obtain ⟨i, hi, rfl⟩ := List.mem_iff_getElem.1 hu
    simp only [List.length_drop] at hi
    have := h2 (k + i) (by omega) (by omega)
    rw [gl_get (by omega)] at this
    simpa using this
  rw [e1, e2, List.length_take]; omega

theorem mem_at {L : List (List Nat)} {t : List Nat} {k : Nat} (hs : Sorted L) (hk : k ≤ L.length) (h1 : ∀ i, i < k → lexLt (gl L i) t = true) (h2 : ∀ i, k ≤ i → i < L.length → lexLt (gl L i) t = false) :
    L.contains t = (decide (k < L.length) && (gl L k == t)) := by
  rw [Bool.eq_iff_iff]
  simp only [List.contains_iff_mem, Bool.and_eq_true, decide_eq_true_eq, beq_iff_eq]
  constructor
  · intro hm
    obtain ⟨i, hi, rfl⟩ := List.mem_iff_getElem.1 hm
    have hik : k ≤ i := by
      rcases Nat.lt_or_ge i k with h | h
      · have := h1 i h; rw [gl_get hi, lexLt_irrefl] at this; cases this
      · exact h
    have : i = k := by
      rcases Nat.lt_or_ge k i with h | h
      · have a := hs.get h hi
        have b := h2 k (Nat.le_refl _) (by omega)
        rw [gl_get hi] at a; rw [b] at a; cases a
      · omega
    subst this
    exact ⟨hi, gl_get hi⟩
  · rintro ⟨h, rfl⟩
    exact gl_mem h

theorem l8Find_eq {L : List (List Nat)} {t : List Nat} (hs : Sorted L) (hk : ∀ u ∈ L, u.length = t.length) (hL : L.length ≤ 4294967296) (ht : t.length ≤ 4294967296) :
    s_spec_l8Find (NLL L) (NL t) = some (((findPos L t : Nat) : Int), L.contains t) := by
  unfold s_spec_l8Find
  have key := iter_inv (step := fun s11 =>
  (bif (decide (s11.1 < s11.2)) then (idx (NLL L) (w64 (Int.tdiv (w64 (s11.1 + s11.2)) 2))).bind fun x18 =>
  (s_spec_l3Less x18 (NL t)).bind fun r23 =>
  (bif r23 then some (.nx (w64 ((w64 (Int.tdiv (w64 (s11.1 + s11.2)) 2)) + 1), s11.2)) else some (.nx (s11.1, w64 (Int.tdiv (w64 (s11.1 + s11.2)) 2)))) else some (Ctl.br (R := Int × Bool) (s11.1, s11.2))))
    (fun s => ∃ f u : Nat, s = ((f : Int), (u : Int)) ∧ f ≤ u ∧ u ≤ L.length ∧ (∀ i, i < f → lexLt (gl L i) t = true) ∧ (∀ i, u ≤ i → i < L.length → lexLt (gl L i) t = false))
    (fun s => (s.2 - s.1).toNat) (fun c => ∃ k : Nat, c = .br ((k : Int), (k : Int)) ∧ k ≤ L.length ∧ (∀ i, i < k → lexLt (gl L i) t = true) ∧ (∀ i, k ≤ i → i < L.length → lexLt (gl L i) t = false))
    FU ((0 : Int), ((NLL L).length : Int)) ⟨0, L.length, by simp, by omega, by omega, fun i h => by omega, fun i h h' => by omega⟩ (by simp [FU]; omega)
  have key := key (by
      rintro s ⟨f, u, rfl, hfu, hu, h1, h2⟩
      simp only [dec_lt]
      by_cases h : f < u
      · left
        have hm : (f + u) / 2 < L.length := by omega
        have e : w64 (Int.tdiv (w64 ((f : Int) + (u : Int))) 2) = (((f + u) / 2 : Nat) : Int) := by
          rw [w64_add (by omega), show (2 : Int) = ((2 : Nat) : Int) from rfl, w64_div (by omega)]
        have hgl := hk _ (gl_mem hm)
        simp only [h, decide_true, cond_true, e]
        rw [idx_NLL hm, Option.bind_some, l3Less_eq (by omega) (by omega), Option.bind_some]
        cases hlt : lexLt (gl L ((f + u) / 2)) t with
        | true =>
          refine ⟨_, rfl, ⟨(f + u) / 2 + 1, u, by rw [w64_add1 (by omega)], by omega, hu, fun i hi => ?_, h2⟩, by rw [w64_add1 (by omega)]; simp; omega⟩
          by_cases hi' : i = (f + u) / 2
          · rw [hi']; exact hlt
          · exact lexLt_trans (hs.get (show i < (f + u) / 2 by omega) hm) hlt
        | false =>
          refine ⟨_, rfl, ⟨f, (f + u) / 2, rfl, by omega, by omega, h1, fun i hi hi2 => ?_⟩, by simp; omega⟩
          by_cases hi' : i = (f + u) / 2
          · rw [hi']; exact hlt
          · cases hx : lexLt (gl L i) t with
            | false => rfl
            | true => have := lexLt_trans (hs.get (show (f + u) / 2 < i by omega) hi2) hx; rw [hlt] at this; cases this
      · right
        have : f = u := by omega
        subst this
        simp only [h, decide_false, cond_false]
        exact ⟨_, rfl, by intro s; simp, f, rfl, hu, h1, h2⟩)
  obtain ⟨c, hc, ⟨k, rfl, hkl, h1, h2⟩, _⟩ := key
  rw [hc, Option.bind_some, after_br']
  rw [findPos_of hkl h1 h2, mem_at hs hkl h1 h2]
  simp only [NLL_len, dec_lt]
  by_cases h : k < L.length
  · simp only [h, decide_true, cond_true, Bool.true_and]
    rw [idx_NLL h, Option.bind_some, l1Same_NL (by rw [hk _ (gl_mem h)]; exact ht), Option.bind_some]
  · simp only [h, decide_false, cond_false, Bool.false_and]

/-- A relation: its tuples, of one length, in order. -/
structure Rel (k : Nat) (L : List (List Nat)) : Prop where
  srt : Sorted L
  len : ∀ u ∈ L, u.length = k

theorem l13Has_eq {k : Nat} {L : List (List Nat)} {t : List Nat} (hR : Rel k L) (hL : L.length ≤ 4294967296) (hk : k ≤ 4294967296) : s_spec_l13Has ((k : Int), NLL L) (NL t) = some (L.contains t) := by
  unfold s_spec_l13Has
  simp only [NL_len, bne_nat]
  by_cases h : t.length = k
  · simp only [h, beq_self_eq_true, Bool.not_true, cond_false]
    rw [l8Find_eq hR.srt (fun u hu => by rw [hR.len u hu, h]) hL (by omega)]; rfl
  · rw [beq_eq_false_iff_ne.2 h]
    simp only [Bool.not_false, cond_true]
    congr 1
    symm
    rw [← Bool.not_eq_true, List.contains_iff_mem]
    intro hm
    exact h (hR.len t hm)



theorem eqS_refl {α : Type} (eq : α → α → Option Bool) (a : List α) (ha : a.length ≤ 9223372036854775807) (h : ∀ x ∈ a, eq x x = some true) :
    (bif ((a.length : Int) != (a.length : Int)) then some false else (forC (S := Unit) (R := Bool) (fun k s => (idx a k).bind fun x => (idx a k).bind fun y => (eq x y).bind fun r => (bif (!r) then some (.rt false) else some (.nx ()))) 0 (a.length : Int) ()).bind fun o => after o (fun r_ => some r_) (fun s => some true)) = some true := by
  rw [bne_self_eq_false, cond_false, forC0_chk (n := a.length) (fun _ => true) false rfl ha]
  · rw [show ((List.range a.length).all fun _ => true) = true by simp]; rfl
  · intro j hj
    simp only [idx_nat, List.getElem?_eq_getElem hj, Option.bind_some, h _ (List.getElem_mem hj)]
    rfl

theorem toS_loop {α : Type} (f : α → Option α) (z : α) (a : List α) (ha : a.length ≤ 4294967296) (h : ∀ x ∈ a, f x = some x) :
    ((mks (a.length : Int) z).bind fun y3 => (forC (S := List α) (R := List α) (fun k s => (idx a k).bind fun x => (f x).bind fun r => (idx s k).bind fun _ => some (.nx (List.set s (Int.toNat k) r))) 0 (a.length : Int) y3).bind fun o => after o (fun r_ => some r_) (fun s => some s)) = some a := by
  rw [mks_ok rfl ha, Option.bind_some, forC0_set (fun j => a[j]?.getD z) (z := z) (n := a.length) rfl ha rfl]
  · rw [Option.bind_some, after_br', map_range_getElem]
  · intro j s hj hs
    simp only [idx_nat, List.getElem?_eq_getElem hj, List.getElem?_eq_getElem (show j < s.length by omega), Option.bind_some, h _ (List.getElem_mem hj), Option.getD_some, Int.toNat_natCast]

/-- Sizes: what is counted is bounded. -/
def SzOk {α : Type} (sz : α → Int → Option Int) (Bd : α → Prop) (a : α) : Prop := ∀ l : Int, 0 ≤ l → l ≤ 1048576 → ∃ v, sz a l = some v ∧ (v < 0 ∨ (Bd a ∧ 0 ≤ v ∧ v ≤ l))

theorem szS_loop {α : Type} (sz : α → Int → Option Int) (Bd : α → Prop) (a : List α) (ha : a.length ≤ 9223372036854775807) (h : ∀ x ∈ a, SzOk sz Bd x) (l : Int) (h0 : 0 ≤ l) (h1 : l ≤ 1048576) :
    ∃ v, (bif (decide ((w64 (l - (a.length : Int))) < 0)) then some (-1) else (forC (S := Int) (R := Int) (fun k s => (idx a k).bind fun x => (sz x s).bind fun r => (bif (decide (r < 0)) then some (.rt (-1)) else some (.nx r))) 0 (a.length : Int) (w64 (l - (a.length : Int)))).bind fun o => after o (fun r_ => some r_) (fun s => some s)) = some v ∧
      (v < 0 ∨ ((a.length ≤ 1048576 ∧ ∀ x ∈ a, Bd x) ∧ 0 ≤ v ∧ v ≤ l)) := by
  rw [w64_id (by omega) (by omega)]
  by_cases hl : l - (a.length : Int) < 0
  · rw [show decide (l - (a.length : Int) < 0) = true by simpa using hl]
    exact ⟨-1, rfl, .inl (by omega)⟩
  · rw [show decide (l - (a.length : Int) < 0) = false by simpa using hl, cond_false]
    rcases forC0_hoare (step := fun k s => (idx a k).bind fun x => (sz x s).bind fun r => (bif (decide (r < 0)) then some (Ctl.rt (S := Int) (-1 : Int)) else some (.nx r))) (fun j s => 0 ≤ s ∧ s ≤ l ∧ ∀ i, i < j → ∀ x, a[i]? = some x → Bd x) (fun _ => False) (fun r => r = -1) (n := a.length) rfl (by omega) (s := l - (a.length : Int)) ⟨by omega, by omega, fun i hi => by omega⟩ (by
      rintro j s hj ⟨hs0, hs1, hb⟩
      obtain ⟨v, hv, hv'⟩ := h a[j] (List.getElem_mem hj) s hs0 (by omega)
      simp only [idx_nat, List.getElem?_eq_getElem hj, Option.bind_some, hv]
      rcases hv' with hv' | ⟨hB, hv0, hv1⟩
      · right; right
        rw [show decide (v < 0) = true by simpa using hv']
        exact ⟨_, rfl, rfl⟩
      · left
        rw [show decide (v < 0) = false by simp; omega]
        refine ⟨_, rfl, hv0, by omega, fun i hi x hx => ?_⟩
        by_cases e : i = j
        · subst e
          rw [List.getElem?_eq_getElem hj] at hx
          cases hx; exact hB
        · exact hb i (by omega) x hx) with ⟨s', e, ⟨a1, a2, a3⟩ | hF⟩ | ⟨r, e, rfl⟩
    · rw [e]
      refine ⟨s', rfl, .inr ⟨⟨by omega, fun x hx => ?_⟩, a1, a2⟩⟩
      obtain ⟨i, hi, rfl⟩ := List.mem_iff_getElem.1 hx
      exact a3 i hi _ (List.getElem?_eq_getElem hi)
    · exact hF.elim
    · rw [e]
      exact ⟨-1, rfl, .inl (by omega)⟩

def B1 (l : List Int) : Prop := l.length ≤ 1048576

def B2 (l : List (List Int)) : Prop := l.length ≤ 1048576 ∧ ∀ x ∈ l, B1 x

theorem szIntS_ok (a : List Int) (ha : a.length ≤ maxLen) : SzOk s_laws_szIntS B1 a := by
  intro l h0 h1
  unfold maxLen at ha
  rw [szIntS_eq a l (by omega) h0 (by omega)]
  by_cases h : l < a.length
  · rw [if_pos h]; exact ⟨-1, rfl, .inl (by omega)⟩
  · rw [if_neg h]; exact ⟨_, rfl, .inr ⟨by unfold B1; omega, by omega, by omega⟩⟩

theorem eqIntS_refl (a : List Int) (ha : B1 a) : s_laws_eqIntS a a = some true := by
  unfold B1 at ha; rw [eqIntS_eq a a (by omega)]; simp

theorem toIntS_ok (a : List Int) (ha : B1 a) : s_laws_toIntS a = some a := by
  unfold B1 at ha; exact toIntS_eq a (by omega)


theorem szIntSS_ok (a : List (List Int)) (ha : a.length ≤ maxLen) (h : ∀ x ∈ a, x.length ≤ maxLen) : SzOk s_laws_szIntSS B2 a := by
  intro l h0 h1
  unfold s_laws_szIntSS
  exact szS_loop s_laws_szIntS B1 a (by unfold maxLen at ha; omega) (fun x hx => szIntS_ok x (h x hx)) l h0 h1

theorem eqIntSS_refl (a : List (List Int)) (ha : B2 a) : s_laws_eqIntSS a a = some true := by
  unfold s_laws_eqIntSS
  exact eqS_refl s_laws_eqIntS a (by have := ha.1; omega) (fun x hx => eqIntS_refl x (ha.2 x hx))

theorem toIntSS_ok (a : List (List Int)) (ha : B2 a) : s_laws_toIntSS a = some a := by
  unfold s_laws_toIntSS
  exact toS_loop s_laws_toIntS [] a (by have := ha.1; omega) (fun x hx => toIntS_ok x (ha.2 x hx))

def BR (r : Int × List (List Int)) : Prop := B2 r.2

theorem szRelation_ok (a : Int × List (List Int)) (ha : a.2.length ≤ maxLen) (h : ∀ x ∈ a.2, x.length ≤ maxLen) : SzOk s_laws_szRelation BR a := by
  intro l h0 h1
  obtain ⟨v, hv, h2⟩ := szIntSS_ok a.2 ha h l h0 h1
  unfold s_laws_szRelation
  rw [hv, Option.bind_some]
  by_cases hn : v < 0
  · rw [show decide (v < 0) = true by simpa using hn]; exact ⟨-1, rfl, .inl (by omega)⟩
  · rw [show decide (v < 0) = false by simpa using hn]; exact ⟨v, rfl, h2⟩

theorem eqRelation_refl (a : Int × List (List Int)) (ha : BR a) : s_laws_eqRelation a a = some true := by
  unfold s_laws_eqRelation
  rw [bne_self_eq_false, cond_false, eqIntSS_refl a.2 ha]; rfl

theorem toRelation_ok (a : Int × List (List Int)) (ha : BR a) : s_laws_toRelation a = some a := by
  unfold s_laws_toRelation; rw [toIntSS_ok a.2 ha]; rfl

abbrev Con := List Int × (Int × List (List Int))

abbrev Net := Int × Int × List Con

def BC (c : Con) : Prop := B1 c.1 ∧ BR c.2

def BN (n : Net) : Prop := n.2.2.length ≤ 1048576 ∧ ∀ c ∈ n.2.2, BC c

theorem szConstraint_ok (a : Con) (h1 : a.1.length ≤ maxLen) (h2 : a.2.2.length ≤ maxLen) (h3 : ∀ x ∈ a.2.2, x.length ≤ maxLen) : SzOk s_laws_szConstraint BC a := by
  intro l h0 hl
  obtain ⟨v, hv, h4⟩ := szIntS_ok a.1 h1 l h0 hl
  unfold s_laws_szConstraint
  rw [hv, Option.bind_some]
  by_cases hn : v < 0
  · rw [show decide (v < 0) = true by simpa using hn]; exact ⟨-1, rfl, .inl (by omega)⟩
  · rw [show decide (v < 0) = false by simpa using hn, cond_false]
    rcases h4 with h4 | ⟨hb, h5, h6⟩
    · exact absurd h4 hn
    obtain ⟨u, hu, h7⟩ := szRelation_ok a.2 h2 h3 v h5 (by omega)
    have hu : s_laws_szRelation (a.2.1, a.2.2) v = some u := hu
    rw [hu, Option.bind_some]
    by_cases hn' : u < 0
    · rw [show decide (u < 0) = true by simpa using hn']; exact ⟨-1, rfl, .inl (by omega)⟩
    · rw [show decide (u < 0) = false by simpa using hn']
      rcases h7 with h7 | ⟨hb', h8, h9⟩
      · exact absurd h7 hn'
      exact ⟨u, rfl, .inr ⟨⟨hb, hb'⟩, h8, by omega⟩⟩

theorem szNetwork_ok (a : Net) (h1 : a.2.2.length ≤ maxLen) (h2 : ∀ c ∈ a.2.2, c.1.length ≤ maxLen ∧ c.2.2.length ≤ maxLen ∧ ∀ x ∈ c.2.2, x.length ≤ maxLen) : SzOk s_laws_szNetwork BN a := by
  intro l h0 hl
  obtain ⟨v, hv, h3⟩ := szS_loop s_laws_szConstraint BC a.2.2 (by unfold maxLen at h1; omega) (fun x hx => szConstraint_ok x (h2 x hx).1 (h2 x hx).2.1 (h2 x hx).2.2) l h0 hl
  have hv : s_laws_szConstraintS a.2.2 l = some v := hv
  unfold s_laws_szNetwork
  rw [hv, Option.bind_some]
  by_cases hn : v < 0
  · rw [show decide (v < 0) = true by simpa using hn]; exact ⟨-1, rfl, .inl (by omega)⟩
  · rw [show decide (v < 0) = false by simpa using hn]; exact ⟨v, rfl, h3⟩

theorem eqConstraint_refl (a : Con) (ha : BC a) : s_laws_eqConstraint a a = some true := by
  have e : s_laws_eqRelation (a.2.1, a.2.2) (a.2.1, a.2.2) = some true := eqRelation_refl a.2 ha.2
  unfold s_laws_eqConstraint
  rw [eqIntS_refl a.1 ha.1, Option.bind_some, Bool.not_true, cond_false, e]; rfl

theorem toConstraint_ok (a : Con) (ha : BC a) : s_laws_toConstraint a = some a := by
  have e : s_laws_toRelation (a.2.1, a.2.2) = some a.2 := toRelation_ok a.2 ha.2
  unfold s_laws_toConstraint; rw [toIntS_ok a.1 ha.1, Option.bind_some, e]; rfl

theorem eqNetwork_refl (a : Net) (ha : BN a) : s_laws_eqNetwork a a = some true := by
  have e : s_laws_eqConstraintS a.2.2 a.2.2 = some true := eqS_refl s_laws_eqConstraint a.2.2 (by have := ha.1; omega) (fun x hx => eqConstraint_refl x (ha.2 x hx))
  unfold s_laws_eqNetwork
  rw [bne_self_eq_false, cond_false, bne_self_eq_false, cond_false, e]; rfl

theorem toNetwork_ok (a : Net) (ha : BN a) : s_laws_toNetwork a = some a := by
  have e : s_laws_toConstraintS a.2.2 = some a.2.2 := toS_loop s_laws_toConstraint ([], (0, [])) a.2.2 (by have := ha.1; omega) (fun x hx => toConstraint_ok x (ha.2 x hx))
  unfold s_laws_toNetwork; rw [e]; rfl


/-- A test, and what it says. -/
def Says (o : Option Bool) (P : Prop) : Prop := ∃ b, o = some b ∧ (b = true ↔ P)

theorem Says.cases {o : Option Bool} {P : Prop} (h : Says o P) : (o = some true ∧ P) ∨ (o = some false ∧ ¬ P) := by
  obtain ⟨b, rfl, hb⟩ := h
  cases b with
  | true => exact .inl ⟨rfl, hb.1 rfl⟩
  | false => exact .inr ⟨rfl, fun hp => by cases hb.2 hp⟩

theorem Says.yes {o : Option Bool} {P : Prop} (h : o = some true) (hp : P) : Says o P := ⟨true, h, by simp [hp]⟩

theorem Says.no {o : Option Bool} {P : Prop} (h : o = some false) (hp : ¬ P) : Says o P := ⟨false, h, by simp [hp]⟩

theorem Says.iff {o : Option Bool} {P Q : Prop} (h : Says o P) (hq : P ↔ Q) : Says o Q := by
  obtain ⟨b, rfl, hb⟩ := h; exact ⟨b, rfl, hb.trans hq⟩

def cmpL (a b : List Nat) : Int := if lexLt a b then -1 else if lexLt b a then 1 else if a.length < b.length then -1 else if b.length < a.length then 1 else 0

theorem lexLt_same {a b : List Nat} (h : ∀ i, i < a.length → i < b.length → ga a i = ga b i) : lexLt a b = false := by
  induction a generalizing b with
  | nil => cases b <;> rfl
  | cons x a ih =>
    cases b with
    | nil => rfl
    | cons y b =>
      have h0 := h 0 (by simp) (by simp)
      have h0 : x = y := by simpa [ga] using h0
      simp only [lexLt, h0, if_true]
      exact ih fun i h1 h2 => by
        have := h (i + 1) (by simp; omega) (by simp; omega)
        simpa [ga] using this

theorem lexLt_at {a b : List Nat} {j : Nat} (ha : j < a.length) (hb : j < b.length) (h : ∀ i, i < j → ga a i = ga b i) (hj : ga a j < ga b j) : lexLt a b = true := by
  induction j generalizing a b with
  | zero =>
    cases a with
    | nil => simp at ha
    | cons x a => cases b with
      | nil => simp at hb
      | cons y b =>
        simp only [ga, List.getD_cons_zero] at hj
        simp only [lexLt]
        rw [if_neg (by omega)]; simpa using hj
  | succ j ih =>
    cases a with
    | nil => simp at ha
    | cons x a => cases b with
      | nil => simp at hb
      | cons y b =>
        have h0 : x = y := by simpa [ga] using h 0 (by omega)
        simp only [lexLt, h0, if_true]
        refine ih (by simpa using ha) (by simpa using hb) (fun i hi => ?_) (by simpa [ga] using hj)
        have := h (i + 1) (by omega)
        simpa [ga] using this

theorem compareLists_eq {a b : List Nat} (ha : a.length ≤ 4294967296) : s_impl_compareLists (NL a) (NL b) = some (cmpL a b) := by
  unfold s_impl_compareLists
  obtain ⟨c, hc, hq, _⟩ := iter_inv (R := Int) (step := fun s20 =>
  (bif ((decide (s20 < ((NL a).length : Int))) && (decide (s20 < ((NL b).length : Int)))) then (idx (NL a) s20).bind fun x32 =>
  (idx (NL b) s20).bind fun x34 =>
  (bif (x32 != x34) then (idx (NL a) s20).bind fun x38 =>
  (idx (NL b) s20).bind fun x40 =>
  (bif (decide (x38 < x40)) then some (.rt (-1)) else some (.rt 1)) else some (.nx (w64 (s20 + 1)))) else some (.br s20))) (fun s => ∃ j : Nat, s = (j : Int) ∧ j ≤ a.length ∧ ∀ i, i < j → ga a i = ga b i) (fun s => a.length - s.toNat)
    (fun c => (∃ s, c = .br s ∧ lexLt a b = false ∧ lexLt b a = false) ∨ (∃ r, c = .rt r ∧ r = cmpL a b)) FU 0 ⟨0, rfl, by omega, fun i h => by omega⟩ (by simp [FU]; omega) (by
    rintro s ⟨j, rfl, h1, h2⟩
    simp only [NL_len, dec_lt]
    by_cases hl : j < a.length ∧ j < b.length
    · simp only [hl.1, hl.2, decide_true, Bool.and_true, cond_true]
      rw [idx_NL hl.1, idx_NL hl.2]
      simp only [Option.bind_some, bne_nat]
      by_cases he : ga a j = ga b j
      · left
        refine ⟨_, by rw [he, beq_self_eq_true]; rfl, ⟨j + 1, w64_add1 (by omega), by omega, fun i hi => ?_⟩, by rw [w64_add1 (by omega)]; simp; omega⟩
        by_cases e : i = j
        · rw [e]; exact he
        · exact h2 i (by omega)
      · right
        rw [beq_eq_false_iff_ne.2 he]
        simp only [Bool.not_false, cond_true, dec_lt]
        by_cases hlt : ga a j < ga b j
        · rw [show decide (ga a j < ga b j) = true by simpa using hlt]
          refine ⟨_, rfl, by intro s; simp, .inr ⟨_, rfl, ?_⟩⟩
          unfold cmpL; rw [lexLt_at hl.1 hl.2 h2 hlt]; rfl
        · rw [show decide (ga a j < ga b j) = false by simpa using hlt]
          refine ⟨_, rfl, by intro s; simp, .inr ⟨_, rfl, ?_⟩⟩
          have := lexLt_at hl.2 hl.1 (fun i hi => (h2 i hi).symm) (show ga b j < ga a j by omega)
          unfold cmpL; rw [lexLt_asymm this, this]; rfl
    · right
      have : (decide (j < a.length) && decide (j < b.length)) = false := by
        rw [Bool.eq_false_iff]; simpa using hl
      rw [this, cond_false]
      refine ⟨_, rfl, by intro s; simp, .inl ⟨_, rfl, lexLt_same fun i g1 g2 => h2 i (by omega), lexLt_same fun i g1 g2 => (h2 i (by omega)).symm⟩⟩)
  rw [hc]
  rcases hq with ⟨s, rfl, e1, e2⟩ | ⟨r, rfl, rfl⟩
  · simp only [Option.bind_some, after_br', NL_len, dec_lt]
    unfold cmpL
    rw [e1, e2]
    by_cases h1 : a.length < b.length
    · simp [h1]
    · by_cases h2 : b.length < a.length
      · simp [h1, h2]
      · simp [h1, h2]
  · rfl

theorem cmpL_lt {a b : List Nat} (h : a.length = b.length) : cmpL a b < 0 ↔ lexLt a b = true := by
  unfold cmpL
  cases h1 : lexLt a b with
  | true => simp
  | false =>
    simp only [Bool.false_eq_true, if_false, iff_false]
    split
    · omega
    · rw [if_neg (by omega), if_neg (by omega)]; omega


theorem ix_ge (N : Nat) : ∀ (A : List Nat) (s : Nat), s * N ^ A.length ≤ ix N s A
  | [], s => by simp [ix]
  | x :: A, s => by
    have h1 := ix_ge N A (s * N + x)
    show _ ≤ ix N (s * N + x) A
    have : s * N * N ^ A.length ≤ (s * N + x) * N ^ A.length := Nat.mul_le_mul_right _ (by omega)
    rw [List.length_cons, Nat.pow_succ, Nat.mul_comm (N ^ A.length), ← Nat.mul_assoc]
    omega

theorem ix_mono {N : Nat} {a b : List Nat} (hl : a.length = b.length) (ha : ∀ x ∈ a, x < N) {s s' : Nat} (h : s < s') : ix N s a < ix N s' b := by
  have h1 := ix_lt a s ha
  have h2 := ix_ge N b s'
  have h3 : (s + 1) * N ^ a.length ≤ s' * N ^ a.length := Nat.mul_le_mul_right _ h
  rw [hl] at h3 h1
  omega

theorem lex_ix {N : Nat} : ∀ {a b : List Nat} (s : Nat), a.length = b.length → (∀ x ∈ a, x < N) → lexLt a b = true → ix N s a < ix N s b
  | [], [], _, _, _, h => by simp [lexLt] at h
  | [], _ :: _, _, h, _, _ => by simp at h
  | _ :: _, [], _, h, _, _ => by simp at h
  | x :: a, y :: b, s, hl, ha, h => by
    simp only [lexLt] at h
    show ix N (s * N + x) a < ix N (s * N + y) b
    by_cases e : x = y
    · subst e
      rw [if_pos rfl] at h
      exact lex_ix _ (by simpa using hl) (fun z hz => ha z (by simp [hz])) h
    · rw [if_neg e, decide_eq_true_eq] at h
      exact ix_mono (by simpa using hl) (fun z hz => ha z (by simp [hz])) (by omega)

theorem sorted_len {N k : Nat} {L : List (List Nat)} (hR : Rel k L) (hx : ∀ t ∈ L, ∀ x ∈ t, x < N) : L.length ≤ N ^ k := by
  have main : ∀ i, i < L.length → i ≤ ix N 0 (gl L i) := by
    intro i
    induction i with
    | zero => intro _; omega
    | succ i ih =>
      intro hi
      have h1 := ih (by omega)
      have h2 := hR.srt.get (show i < i + 1 by omega) hi
      have h3 := lex_ix (N := N) 0 ((hR.len _ (gl_mem (show i < L.length by omega))).trans (hR.len _ (gl_mem hi)).symm) (hx _ (gl_mem (show i < L.length by omega))) h2
      omega
  rcases Nat.eq_zero_or_pos L.length with h | h
  · omega
  · have h1 := main (L.length - 1) (by omega)
    have h2 := ix0_lt (hx _ (gl_mem (show L.length - 1 < L.length by omega))) (hR.len _ (gl_mem (show L.length - 1 < L.length by omega)))
    omega

theorem sorted_of_steps {L : List (List Nat)} (h : ∀ i, i + 1 < L.length → lexLt (gl L i) (gl L (i + 1)) = true) : Sorted L := by
  unfold Sorted
  rw [List.pairwise_iff_getElem]
  intro i j hi hj hij
  rw [← gl_get hi, ← gl_get hj]
  clear hi
  induction j with
  | zero => omega
  | succ j ih =>
    by_cases e : i = j
    · rw [e]; exact h j hj
    · exact lexLt_trans (ih (by omega) (by omega)) (h j hj)


/-- A relation of the arity k on N elements. -/
structure RelN (N k : Nat) (r : Int × List (List Int)) (L : List (List Nat)) : Prop where
  eq : r = ((k : Int), NLL L)
  k1 : 1 ≤ k
  k3 : k ≤ 3
  rel : Rel k L
  lt : ∀ t ∈ L, ∀ x ∈ t, x < N

def IsRel (N : Nat) (r : Int × List (List Int)) : Prop := ∃ k L, RelN N k r L

/-- The row i of a relation, as its test sees it. -/
def RowOk (N : Nat) (r : Int × List (List Int)) (i : Nat) : Prop := ∃ t : List Nat, r.2[i]? = some (NL t) ∧ ((t.length : Int) = r.1) ∧ (∀ x ∈ t, x < N) ∧ ∀ j, i = j + 1 → ∀ u : List Nat, r.2[j]? = some (NL u) → u.length = t.length → lexLt u t = true

theorem isRel_iff {N : Nat} {r : Int × List (List Int)} : IsRel N r ↔ (1 ≤ r.1 ∧ r.1 ≤ 3) ∧ ∀ i, i < r.2.length → RowOk N r i := by
  constructor
  · rintro ⟨k, L, rfl, k1, k3, hR, hx⟩
    refine ⟨⟨by simp; omega, by simp; omega⟩, fun i hi => ?_⟩
    simp only [NLL_len] at hi
    refine ⟨gl L i, by rw [gl_get hi]; simp [NLL, List.getElem?_eq_getElem hi], by rw [hR.len _ (gl_mem hi)], hx _ (gl_mem hi), fun j e u hu _ => ?_⟩
    subst e
    have hj : j < L.length := by omega
    have : u = gl L j := by
      rw [gl_get hj]
      simp only [NLL, List.getElem?_map, List.getElem?_eq_getElem hj, Option.map_some, Option.some.injEq] at hu
      exact (NL_inj hu).symm
    subst this
    exact hR.srt.get (by omega) hi
  · rintro ⟨⟨h1, h3⟩, h⟩
    let L := r.2.map fun t => t.map Int.toNat
    have hL : r.2 = NLL L := by
      apply List.ext_getElem?
      intro i
      by_cases hi : i < r.2.length
      · obtain ⟨t, ht, _⟩ := h i hi
        rw [ht]
        simp only [L, NLL, List.getElem?_map, ht, Option.map_some, NL_toNat]
      · rw [List.getElem?_eq_none (by omega), List.getElem?_eq_none (by simp [L]; omega)]
    have hll : L.length = r.2.length := by simp [L]
    have hg : ∀ i, i < L.length → ∃ t, gl L i = t ∧ r.2[i]? = some (NL t) := fun i hi => ⟨_, rfl, by rw [hL]; simp [NLL, List.getElem?_eq_getElem hi, gl_get hi]⟩
    have hrow : ∀ i, i < L.length → ((gl L i).length : Int) = r.1 ∧ (∀ x ∈ gl L i, x < N) := fun i hi => by
      obtain ⟨t, ht, e1, e2, _⟩ := h i (by omega)
      obtain ⟨u, rfl, hu⟩ := hg i hi
      rw [hu] at ht
      rw [NL_inj (Option.some.inj ht)]
      exact ⟨e1, e2⟩
    refine ⟨r.1.toNat, L, ⟨?_, by omega, by omega, ⟨?_, fun u hu => ?_⟩, fun t ht => ?_⟩⟩
    · obtain ⟨a, b⟩ := r
      simp only at hL h1
      rw [hL]; simp only [Prod.mk.injEq, and_true]; omega
    · refine sorted_of_steps fun i hi => ?_
      obtain ⟨t, ht, e1, e2, e3⟩ := h (i + 1) (by omega)
      obtain ⟨u, rfl, hu⟩ := hg (i + 1) hi
      obtain ⟨v, hv, hv'⟩ := hg i (by omega)
      rw [hu] at ht
      have : gl L (i + 1) = t := NL_inj (Option.some.inj ht)
      rw [this]
      have a := (hrow i (by omega)).1
      rw [hv] at a ⊢
      exact e3 i rfl v hv' (by omega)
    · obtain ⟨i, hi, rfl⟩ := List.mem_iff_getElem.1 hu
      have := (hrow i hi).1
      rw [gl_get hi] at this; omega
    · obtain ⟨i, hi, rfl⟩ := List.mem_iff_getElem.1 ht
      have := (hrow i hi).2
      rw [gl_get hi] at this; exact this

theorem allIn_NL {N : Nat} {t : List Int} : (t.all fun x => decide (0 ≤ x) && decide (x < (N : Int))) = true ↔ ∃ T : List Nat, t = NL T ∧ ∀ x ∈ T, x < N := by
  simp only [List.all_eq_true, Bool.and_eq_true, decide_eq_true_eq]
  constructor
  · intro h
    obtain ⟨T, rfl⟩ := NL_of fun x hx => (h x hx).1
    refine ⟨T, rfl, fun x hx => ?_⟩
    have := (h (x : Int) (List.mem_map.2 ⟨x, hx, rfl⟩)).2
    omega
  · rintro ⟨T, rfl, h⟩ x hx
    obtain ⟨y, hy, rfl⟩ := List.mem_map.1 hx
    have := h y hy
    omega

theorem isRelation_says {N : Nat} {n : Int} (hn : n = (N : Int)) (r : Int × List (List Int)) (hl : r.2.length ≤ 4294967296) : Says (s_impl_isRelation n r) (IsRel N r) := by
  subst hn
  unfold s_impl_isRelation
  by_cases hk : 1 ≤ r.1 ∧ r.1 ≤ 3
  · rw [show ((decide (r.1 < 1)) || (decide (3 < r.1))) = false by simp; omega, cond_false]
    rcases forC0_hoare (R := Bool) (step := fun k26 s24 =>
  (idx r.2 k26).bind fun x30 =>
  (bif ((x30.length : Int) != r.1) then some (.rt false) else (s_impl_inSize x30 (N : Int)).bind fun r36 =>
  (bif (!r36) then some (.rt false) else (bif (decide (0 < k26)) then (idx r.2 (w64 (k26 - 1))).bind fun x39 =>
  (s_impl_compareLists x39 x30).bind fun r44 =>
  (bif (decide (0 ≤ r44)) then some (.rt false) else some (.nx ())) else some (.nx ()))))) (fun j (_ : Unit) => ∀ i, i < j → RowOk N r i) (fun _ => False) (fun b => b = false ∧ ¬ ∀ i, i < r.2.length → RowOk N r i) (n := r.2.length) rfl (by omega) (s := ()) (fun i hi => by omega) (by
      rintro j ⟨⟩ hj hI
      rw [idx_nat, List.getElem?_eq_getElem hj, Option.bind_some]
      have bad : ¬ RowOk N r j → ∃ b : Bool, (some (Ctl.rt (S := Unit) false) = some (Ctl.rt b)) ∧ (b = false ∧ ¬ ∀ i, i < r.2.length → RowOk N r i) := fun h => ⟨false, rfl, rfl, fun H => h (H j hj)⟩
      have rowAt : ∀ t : List Nat, r.2[j]? = some (NL t) → r.2[j] = NL t := fun t ht => by rw [List.getElem?_eq_getElem hj] at ht; exact Option.some.inj ht
      by_cases h1 : ((r.2[j]).length : Int) = r.1
      · rw [show (((r.2[j]).length : Int) != r.1) = false by simp [h1], cond_false, inSize_eq, Option.bind_some]
        by_cases h2 : ((r.2[j]).all fun x => decide (0 ≤ x) && decide (x < (N : Int))) = true
        · obtain ⟨T, hT, hTx⟩ := allIn_NL.1 h2
          rw [h2]
          simp only [Bool.not_true, cond_false]
          have hrj : r.2[j]? = some (NL T) := by rw [List.getElem?_eq_getElem hj, hT]
          have hTl : (T.length : Int) = r.1 := by rw [hT, NL_len] at h1; exact h1
          cases j with
          | zero =>
            left
            refine ⟨(), rfl, fun i hi => ?_⟩
            obtain rfl : i = 0 := by omega
            exact ⟨T, hrj, hTl, hTx, fun j e => by omega⟩
          | succ j =>
            obtain ⟨u, hu, hul, hux, _⟩ := hI j (by omega)
            rw [show decide ((0 : Int) < ((j + 1 : Nat) : Int)) = true by simp, cond_true, show w64 (((j + 1 : Nat) : Int) - 1) = (j : Int) by rw [w64_id (by omega) (by omega)]; omega, idx_nat, hu, Option.bind_some, hT, compareLists_eq (by omega), Option.bind_some]
            have hsame : u.length = T.length := by omega
            have hc := cmpL_lt (a := u) (b := T) hsame
            cases hlt : lexLt u T with
            | true =>
              left
              rw [hlt] at hc
              have := hc.2 rfl
              rw [show decide (0 ≤ cmpL u T) = false by simp; omega]
              refine ⟨(), rfl, fun i hi => ?_⟩
              by_cases e : i = j + 1
              · subst e
                refine ⟨T, hrj, hTl, hTx, fun j' e' u' hu' _ => ?_⟩
                obtain rfl : j' = j := by omega
                rw [hu] at hu'
                rw [← NL_inj (Option.some.inj hu')]; exact hlt
              · exact hI i (by omega)
            | false =>
              right; right
              rw [hlt] at hc
              have : 0 ≤ cmpL u T := by
                rcases Int.lt_or_le (cmpL u T) 0 with h | h
                · have := hc.1 h; cases this
                · exact h
              rw [show decide (0 ≤ cmpL u T) = true by simpa using this, cond_true]
              refine bad ?_
              rintro ⟨t, ht, _, _, h4⟩
              rw [hrj] at ht
              obtain rfl := NL_inj (Option.some.inj ht)
              have := h4 j rfl u hu hsame
              rw [hlt] at this; cases this
        · right; right
          rw [Bool.not_eq_true] at h2
          rw [h2]
          refine bad ?_
          rintro ⟨t, ht, _, h3, _⟩
          rw [rowAt t ht] at h2
          have := (allIn_NL (t := NL t)).2 ⟨t, rfl, h3⟩
          rw [h2] at this; cases this
      · right; right
        rw [show (((r.2[j]).length : Int) != r.1) = true by simp [h1], cond_true]
        refine bad ?_
        rintro ⟨t, ht, h3, _⟩
        rw [rowAt t ht, NL_len] at h1
        exact h1 h3) with ⟨s', e, h | h⟩ | ⟨b, e, rfl, h⟩
    · exact .yes (by rw [e]; rfl) (isRel_iff.2 ⟨hk, h⟩)
    · exact h.elim
    · exact .no (by rw [e]; rfl) (fun H => h (isRel_iff.1 H).2)
  · rw [show ((decide (r.1 < 1)) || (decide (3 < r.1))) = true by simp; omega]
    exact .no rfl (fun H => hk (isRel_iff.1 H).1)


theorem l2Elements_eq {n : Int} (hn : -9223372036854775807 ≤ n) (hn' : n ≤ 9223372036854775807) (l : List Int) (hl : l.length ≤ 9223372036854775807) : s_spec_l2Elements n l = some (l.all fun x => decide (0 ≤ x) && decide (x < n)) := by
  unfold s_spec_l2Elements
  rw [w64_id (by omega) (by omega), forC0_chk (n := l.length) (fun j => decide (0 ≤ l[j]?.getD 0) && decide (l[j]?.getD 0 < n)) false rfl hl]
  · rw [all_range l (fun x => decide (0 ≤ x) && decide (x < n)) 0]
    cases l.all fun x => decide (0 ≤ x) && decide (x < n) <;> rfl
  · intro j hj
    simp only [idx_nat, List.getElem?_eq_getElem hj, Option.bind_some, Option.getD_some, l1In_eq]
    have : decide (l[j] ≤ n - 1) = decide (l[j] < n) := by rw [decide_eq_decide]; omega
    rw [this]
    cases decide (0 ≤ l[j]) && decide (l[j] < n) <;> rfl

theorem l13Good_says {N : Nat} {n : Int} (hn : n = (N : Int)) (h1 : 1 ≤ N) (h8 : N ≤ 8) (r : Int × List (List Int)) (hl : r.2.length ≤ 4294967296) (hr : ∀ t ∈ r.2, t.length ≤ 4294967296) : Says (s_spec_l13Good n r) (IsRel N r) := by
  subst hn
  unfold s_spec_l13Good
  rw [l1In_eq, Option.bind_some]
  by_cases hk : 1 ≤ r.1 ∧ r.1 ≤ 3
  · obtain ⟨K, hK⟩ : ∃ K : Nat, r.1 = (K : Int) := ⟨r.1.toNat, by omega⟩
    have h512 := pow_le_512 h8 (show K ≤ 3 by omega)
    rw [show (decide (1 ≤ r.1) && decide (r.1 ≤ 3)) = true by simp [hk], Bool.not_true, cond_false, l2Pow_eq (N := N) (K := K) rfl hK h1 (by omega) (by omega), Option.bind_some, Option.bind_some, dec_lt]
    by_cases hlen : r.2.length ≤ N ^ K
    · rw [show decide (N ^ K < r.2.length) = false by simpa using hlen, cond_false]
      rcases forC0_hoare (R := Bool) (step := fun k82 s80 =>
  (idx r.2 k82).bind fun x87 =>
  (s_spec_l8Tuple (N : Int) r.1 x87).bind fun r92 =>
  (bif (!r92) then some (.rt false) else (bif (decide (0 < k82)) then (idx r.2 (w64 (k82 - 1))).bind fun x95 =>
  (idx r.2 k82).bind fun x99 =>
  (s_spec_l3Less x95 x99).bind fun r104 =>
  (bif (!r104) then some (.rt false) else some (.nx ())) else some (.nx ())))) (fun j (_ : Unit) => ∀ i, i < j → RowOk N r i) (fun _ => False) (fun b => b = false ∧ ¬ ∀ i, i < r.2.length → RowOk N r i) (n := r.2.length) rfl (by omega) (s := ()) (fun i hi => by omega) (by
      rintro j ⟨⟩ hj hI
      rw [idx_nat, List.getElem?_eq_getElem hj, Option.bind_some]
      have bad : ¬ RowOk N r j → ∃ b : Bool, (some (Ctl.rt (S := Unit) false) = some (Ctl.rt b)) ∧ (b = false ∧ ¬ ∀ i, i < r.2.length → RowOk N r i) := fun h => ⟨false, rfl, rfl, fun H => h (H j hj)⟩
      have rowAt : ∀ t : List Nat, r.2[j]? = some (NL t) → r.2[j] = NL t := fun t ht => by rw [List.getElem?_eq_getElem hj] at ht; exact Option.some.inj ht
      have e : s_spec_l8Tuple (N : Int) r.1 r.2[j] = some (((r.2[j].length : Int) == r.1) && (r.2[j].all fun x => decide (0 ≤ x) && decide (x < (N : Int)))) := by
        unfold s_spec_l8Tuple
        rw [l2Elements_eq (by omega) (by omega) _ (by have := hr _ (List.getElem_mem hj); omega)]
        cases (r.2[j].length : Int) == r.1 <;> rfl
      rw [e, Option.bind_some]
      by_cases h1 : ((r.2[j]).length : Int) = r.1
      · rw [show (((r.2[j]).length : Int) == r.1) = true by simp [h1], Bool.true_and]
        by_cases h2 : ((r.2[j]).all fun x => decide (0 ≤ x) && decide (x < (N : Int))) = true
        · obtain ⟨T, hT, hTx⟩ := allIn_NL.1 h2
          rw [h2]
          simp only [Bool.not_true, cond_false]
          have hrj : r.2[j]? = some (NL T) := by rw [List.getElem?_eq_getElem hj, hT]
          have hTl : (T.length : Int) = r.1 := by rw [hT, NL_len] at h1; exact h1
          cases j with
          | zero =>
            left
            refine ⟨(), rfl, fun i hi => ?_⟩
            obtain rfl : i = 0 := by omega
            exact ⟨T, hrj, hTl, hTx, fun j e => by omega⟩
          | succ j =>
            obtain ⟨u, hu, hul, hux, _⟩ := hI j (by omega)
            rw [show decide ((0 : Int) < ((j + 1 : Nat) : Int)) = true by simp, cond_true, show w64 (((j + 1 : Nat) : Int) - 1) = (j : Int) by rw [w64_id (by omega) (by omega)]; omega, idx_nat, hu, Option.bind_some, hT, Option.bind_some, l3Less_eq (by omega) (by omega), Option.bind_some]
            have hsame : u.length = T.length := by omega
            cases hlt : lexLt u T with
            | true =>
              left
              refine ⟨(), rfl, fun i hi => ?_⟩
              by_cases e : i = j + 1
              · subst e
                refine ⟨T, hrj, hTl, hTx, fun j' e' u' hu' _ => ?_⟩
                obtain rfl : j' = j := by omega
                rw [hu] at hu'
                rw [← NL_inj (Option.some.inj hu')]; exact hlt
              · exact hI i (by omega)
            | false =>
              right; right
              refine bad ?_
              rintro ⟨t, ht, _, _, h4⟩
              rw [hrj] at ht
              obtain rfl := NL_inj (Option.some.inj ht)
              have := h4 j rfl u hu hsame
              rw [hlt] at this; cases this
        · right; right
          rw [Bool.not_eq_true] at h2
          rw [h2]
          refine bad ?_
          rintro ⟨t, ht, _, h3, _⟩
          rw [rowAt t ht] at h2
          have := (allIn_NL (t := NL t)).2 ⟨t, rfl, h3⟩
          rw [h2] at this; cases this
      · right; right
        rw [show (((r.2[j]).length : Int) == r.1) = false by simp [h1]]
        refine bad ?_
        rintro ⟨t, ht, h3, _⟩
        rw [rowAt t ht, NL_len] at h1
        exact h1 h3) with ⟨s', e, h | h⟩ | ⟨b, e, rfl, h⟩
      · exact .yes (by rw [e]; rfl) (isRel_iff.2 ⟨hk, h⟩)
      · exact h.elim
      · exact .no (by rw [e]; rfl) (fun H => h (isRel_iff.1 H).2)
    · rw [show decide (N ^ K < r.2.length) = true by simp; omega]
      refine .no rfl ?_
      rintro ⟨k, L, rfl, _, _, hR, hx⟩
      have := sorted_len hR hx
      simp only [NLL_len] at hlen
      obtain rfl : k = K := by simp at hK; omega
      omega
  · rw [show (decide (1 ≤ r.1) && decide (r.1 ≤ 3)) = false by rw [Bool.eq_false_iff]; simp; omega]
    exact .no rfl (fun H => hk (isRel_iff.1 H).1)



def NLo (L : List (List Int)) : List (List Nat) := L.map fun t => t.map Int.toNat

theorem NLo_NLL (L : List (List Nat)) : NLo (NLL L) = L := by
  unfold NLo NLL
  rw [List.map_map]
  exact (List.map_congr_left fun x _ => by simp [NL_toNat]).trans (List.map_id L)

def cS (c : Con) : List Nat := c.1.map Int.toNat

def cL (c : Con) : List (List Nat) := NLo c.2.2

/-- A constraint on V variables with N values. -/
structure ConN (V N : Nat) (c : Con) : Prop where
  rel : RelN N (cS c).length c.2 (cL c)
  scope : c.1 = NL (cS c)
  lt : ∀ x ∈ cS c, x < V

theorem conN_of {V N k : Nat} {S : List Nat} {L : List (List Nat)} {c : Con} (h : RelN N k c.2 L) (hS : c.1 = NL S) (hk : S.length = k) (hV : ∀ x ∈ S, x < V) : ConN V N c := by
  have e1 : cS c = S := by unfold cS; rw [hS, NL_toNat]
  have e2 : cL c = L := by unfold cL; rw [h.eq]; exact NLo_NLL L
  exact ⟨by rw [e1, e2, hk]; exact h, by rw [e1, hS], by rw [e1]; exact hV⟩

theorem con_iff {V N : Nat} {c : Con} : ConN V N c ↔ IsRel N c.2 ∧ (c.1.length : Int) = c.2.1 ∧ (c.1.all fun x => decide (0 ≤ x) && decide (x < (V : Int))) = true := by
  constructor
  · rintro ⟨h1, h2, h3⟩
    refine ⟨⟨_, _, h1⟩, by rw [h2, NL_len, h1.eq], ?_⟩
    rw [h2]; exact allIn_NL.2 ⟨_, rfl, h3⟩
  · rintro ⟨⟨k, L, h⟩, hl, ha⟩
    obtain ⟨S, hS, hV⟩ := allIn_NL.1 ha
    exact conN_of h hS (by rw [hS, NL_len, h.eq] at hl; simp at hl; omega) hV

theorem isConstraint_says {V N : Nat} (c : Con) (hl : c.2.2.length ≤ 4294967296) : Says (s_impl_isConstraint (V : Int) (N : Int) c) (ConN V N c) := by
  refine Says.iff ?_ con_iff.symm
  unfold s_impl_isConstraint
  rcases (isRelation_says (N := N) rfl c.2 hl).cases with ⟨e, h⟩ | ⟨e, h⟩
  · have e : s_impl_isRelation (N : Int) (c.2.1, c.2.2) = some true := e
    rw [e, Option.bind_some, cond_true, inSize_eq]
    by_cases h2 : (c.1.length : Int) = c.2.1
    · rw [show ((c.1.length : Int) == c.2.1) = true by simp [h2], cond_true, Option.bind_some]
      exact ⟨_, rfl, ⟨fun x => ⟨h, h2, x⟩, fun x => x.2.2⟩⟩
    · rw [show ((c.1.length : Int) == c.2.1) = false by simp [h2]]
      exact .no rfl (fun H => h2 H.2.1)
  · have e : s_impl_isRelation (N : Int) (c.2.1, c.2.2) = some false := e
    rw [e]
    exact .no rfl (fun H => h H.1)

theorem l19Is_says {V N : Nat} (hV : V ≤ 4294967296) (h1 : 1 ≤ N) (h8 : N ≤ 8) (c : Con) (hc : BC c) : Says (s_spec_l19Is (V : Int) (N : Int) c) (ConN V N c) := by
  refine Says.iff ?_ con_iff.symm
  have b1 : c.1.length ≤ 1048576 := hc.1
  have b2 : c.2.2.length ≤ 1048576 := hc.2.1
  unfold s_spec_l19Is
  rcases (l13Good_says (N := N) rfl h1 h8 c.2 (by omega) (fun t ht => by have := hc.2.2 t ht; unfold B1 at this; omega)).cases with ⟨e, h⟩ | ⟨e, h⟩
  · have e : s_spec_l13Good (N : Int) (c.2.1, c.2.2) = some true := e
    rw [e, Option.bind_some, cond_true, l2Elements_eq (by omega) (by omega) _ (by omega)]
    by_cases h2 : (c.1.length : Int) = c.2.1
    · rw [show ((c.1.length : Int) == c.2.1) = true by simp [h2], cond_true, Option.bind_some]
      exact ⟨_, rfl, ⟨fun x => ⟨h, h2, x⟩, fun x => x.2.2⟩⟩
    · rw [show ((c.1.length : Int) == c.2.1) = false by simp [h2]]
      exact .no rfl (fun H => h2 H.2.1)
  · have e : s_spec_l13Good (N : Int) (c.2.1, c.2.2) = some false := e
    rw [e]
    exact .no rfl (fun H => h H.1)


structure NetN (net : Net) (V N : Nat) : Prop where
  eV : net.1 = (V : Int)
  eN : net.2.1 = (N : Int)
  v9 : V ≤ 9
  n1 : 1 ≤ N
  n4 : N ≤ 4
  l40 : net.2.2.length ≤ 40
  con : ∀ c ∈ net.2.2, ConN V N c

def IsNet (net : Net) : Prop := ∃ V N, NetN net V N

/-- A test of all elements of a row. -/
theorem range_says {α : Type} (l : List α) (P : α → Prop) (f : α → Option Bool) (h : ∀ x ∈ l, Says (f x) (P x)) : ∀ i : Int, Says ((forR (S := Unit) (R := Bool) (fun _ x s => (f x).bind fun r => (bif (!r) then some (.rt false) else some (.nx ()))) i l ()).bind fun o => after o (fun r_ => some r_) (fun _ => some true)) (∀ x ∈ l, P x) := by
  induction l with
  | nil => intro i; exact .yes rfl (by simp)
  | cons x l ih =>
    intro i
    have := ih (fun y hy => h y (by simp [hy])) (i + 1)
    unfold forR
    rcases (h x (by simp)).cases with ⟨e, hp⟩ | ⟨e, hp⟩
    · rw [e]
      refine Says.iff this ?_
      simp [hp]
    · rw [e]
      exact .no rfl (fun H => hp (H x (by simp)))

theorem count_says {α : Type} (l : List α) (P : α → Prop) (f : α → Option Bool) (hl : l.length ≤ 9223372036854775807) (h : ∀ x ∈ l, Says (f x) (P x)) : Says ((forC (S := Unit) (R := Bool) (fun k s => (idx l k).bind fun x => (f x).bind fun r => (bif (!r) then some (.rt false) else some (.nx ()))) 0 (l.length : Int) ()).bind fun o => after o (fun r_ => some r_) (fun _ => some true)) (∀ x ∈ l, P x) := by
  rcases forC0_hoare (R := Bool) (step := fun k (s : Unit) => (idx l k).bind fun x => (f x).bind fun r => (bif (!r) then some (.rt false) else some (.nx ()))) (fun j _ => ∀ i, i < j → ∀ x, l[i]? = some x → P x) (fun _ => False) (fun b => b = false ∧ ¬ ∀ x ∈ l, P x) (n := l.length) rfl hl (s := ()) (fun i hi => by omega) (by
    rintro j ⟨⟩ hj hI
    rw [idx_nat, List.getElem?_eq_getElem hj, Option.bind_some]
    rcases (h _ (List.getElem_mem hj)).cases with ⟨e, hp⟩ | ⟨e, hp⟩
    · left
      refine ⟨(), by rw [e]; rfl, fun i hi x hx => ?_⟩
      by_cases e' : i = j
      · subst e'
        rw [List.getElem?_eq_getElem hj] at hx
        cases hx; exact hp
      · exact hI i (by omega) x hx
    · right; right
      exact ⟨false, by rw [e]; rfl, rfl, fun H => hp (H _ (List.getElem_mem hj))⟩) with ⟨s', e, h' | h'⟩ | ⟨b, e, rfl, h'⟩
  · refine .yes (by rw [e]; rfl) (fun x hx => ?_)
    obtain ⟨i, hi, rfl⟩ := List.mem_iff_getElem.1 hx
    exact h' i hi _ (List.getElem?_eq_getElem hi)
  · exact h'.elim
  · exact .no (by rw [e]; rfl) h'

def NetHead (net : Net) : Prop := 0 ≤ net.1 ∧ net.1 ≤ 9 ∧ 1 ≤ net.2.1 ∧ net.2.1 ≤ 4 ∧ net.2.2.length ≤ 40

theorem isNet_iff {net : Net} (h : NetHead net) : IsNet net ↔ ∀ c ∈ net.2.2, ConN net.1.toNat net.2.1.toNat c := by
  obtain ⟨h0, h9, h1, h4, hl⟩ := h
  constructor
  · rintro ⟨V, N, hn⟩
    have a := hn.eV
    have b := hn.eN
    rw [show net.1.toNat = V by omega, show net.2.1.toNat = N by omega]
    exact hn.con
  · intro h
    exact ⟨net.1.toNat, net.2.1.toNat, by omega, by omega, by omega, by omega, by omega, hl, h⟩

theorem head_of {net : Net} (h : IsNet net) : NetHead net := by
  obtain ⟨V, N, hn⟩ := h
  have a := hn.eV
  have b := hn.eN
  have := hn.v9
  have := hn.n1
  have := hn.n4
  exact ⟨by omega, by omega, by omega, by omega, hn.l40⟩

theorem impl_IsNetwork_says (net : Net) (hb : BN net) : Says (s_impl_IsNetwork net) (IsNet net) := by
  unfold s_impl_IsNetwork s_impl_isTemplateSize
  by_cases h : NetHead net
  · obtain ⟨h0, h9, h1, h4, hl⟩ := id h
    simp only [show decide (net.1 < 0) = false by simp; omega, show decide (9 < net.1) = false by simp; omega, show decide (1 ≤ net.2.1) = true by simpa using h1, show decide (net.2.1 ≤ 4) = true by simpa using h4, cond_false, cond_true, Option.bind_some, Bool.not_true, show decide (40 < (net.2.2.length : Int)) = false by simp; omega]
    refine Says.iff (range_says net.2.2 (ConN net.1.toNat net.2.1.toNat) (fun x24 => s_impl_isConstraint net.1 net.2.1 (x24.1, (x24.2.1, x24.2.2))) (fun c hc => ?_) 0) (isNet_iff h).symm
    have := isConstraint_says (V := net.1.toNat) (N := net.2.1.toNat) c (by have := (hb.2 c hc).2.1; omega)
    rw [show ((net.1.toNat : Nat) : Int) = net.1 by omega, show ((net.2.1.toNat : Nat) : Int) = net.2.1 by omega] at this
    exact this
  · refine .no ?_ (fun H => h (head_of H))
    unfold NetHead at h
    by_cases h0 : net.1 < 0
    · simp [h0]
    by_cases h9 : 9 < net.1
    · simp [h9]
    by_cases h1 : 1 ≤ net.2.1
    · by_cases h4 : net.2.1 ≤ 4
      · simp [h0, h9, h1, h4, show (40 : Int) < (net.2.2.length : Int) by omega]
      · simp [h0, h9, h1, h4]
    · simp [h0, h9, h1]

theorem spec_l19Good_says (net : Net) (hb : BN net) : Says (s_spec_l19Good net) (IsNet net) := by
  unfold s_spec_l19Good
  simp only [l1In_eq, Option.bind_some]
  by_cases h : NetHead net
  · obtain ⟨h0, h9, h1, h4, hl⟩ := id h
    simp only [show decide (0 ≤ net.1) = true by simpa using h0, show decide (net.1 ≤ 9) = true by simpa using h9, show decide (1 ≤ net.2.1) = true by simpa using h1, show decide (net.2.1 ≤ 4) = true by simpa using h4, Bool.and_self, cond_false, Bool.not_true, Option.bind_some, show decide (40 < (net.2.2.length : Int)) = false by simp; omega]
    refine Says.iff (count_says net.2.2 (ConN net.1.toNat net.2.1.toNat) (fun x29 => s_spec_l19Is net.1 net.2.1 (x29.1, (x29.2.1, x29.2.2))) (by omega) (fun c hc => ?_)) (isNet_iff h).symm
    have := l19Is_says (V := net.1.toNat) (N := net.2.1.toNat) (by omega) (by omega) (by omega) c (hb.2 c hc)
    rw [show ((net.1.toNat : Nat) : Int) = net.1 by omega, show ((net.2.1.toNat : Nat) : Int) = net.2.1 by omega] at this
    exact this
  · refine .no ?_ (fun H => h (head_of H))
    unfold NetHead at h
    by_cases h0 : 0 ≤ net.1
    · by_cases h9 : net.1 ≤ 9
      · by_cases h1 : 1 ≤ net.2.1
        · by_cases h4 : net.2.1 ≤ 4
          · simp [h0, h9, h1, h4, show (40 : Int) < (net.2.2.length : Int) by omega]
          · simp [h0, h9, h1, h4]
        · simp [h0, h9, h1]
      · simp [h0, h9]
    · simp [h0]

def OkNet (net : Net) : Prop := OkP OkI (OkP OkI (OkL (OkP (OkL OkI) (OkP OkI (OkL (OkL OkI)))))) net

theorem OkNet.sz {net : Net} (h : OkNet net) : SzOk s_laws_szNetwork BN net :=
  szNetwork_ok net h.2.2.1 (fun c hc => by
    have := h.2.2.2 c hc
    exact ⟨this.1.1, this.2.2.1, fun x hx => (this.2.2.2 x hx).1⟩)

def sat (c : Con) (W : List Nat) : Bool := (cL c).contains ((cS c).map (ga W))

theorem l19Satisfies_eq {V N : Nat} (h8 : N ≤ 8) {c : Con} {W : List Nat} (hc : ConN V N c) (hW : V ≤ W.length) : s_spec_l19Satisfies c (NL W) = some (sat c W) := by
  have hk := hc.rel.k3
  have h1 := sorted_len hc.rel.rel hc.rel.lt
  unfold s_spec_l19Satisfies
  rw [hc.scope, forC0_app (fun j => ((ga W (ga (cS c) j) : Nat) : Int)) (n := (cS c).length) (by simp) (by omega)]
  · rw [Option.bind_some, after_br']
    have e : (List.range (cS c).length).map (fun j => ((ga W (ga (cS c) j) : Nat) : Int)) = NL ((cS c).map (ga W)) := by
      conv => rhs; rw [← map_ga (cS c)]
      unfold NL; simp
    rw [e]
    have hl : (cL c).length ≤ 4294967296 := by have := pow_le_512 h8 hk; omega
    have := l13Has_eq (t := (cS c).map (ga W)) hc.rel.rel hl (by omega)
    have e3 : s_spec_l13Has (c.2.1, c.2.2) (NL ((cS c).map (ga W))) = some (sat c W) := by rw [show (c.2.1, c.2.2) = c.2 from rfl, hc.rel.eq]; exact this
    rw [e3]; rfl
  · intro j s hj hs
    rw [idx_NL hj, Option.bind_some, idx_NL (by have := hc.lt _ (ga_mem hj); omega), Option.bind_some]


theorem clone_eq {l : List Int} (h : l.length ≤ 4294967296) : s_impl_clone l = some l := by
  unfold s_impl_clone; rw [app_ok (by simpa using h)]; rfl

theorem l1Own_eq {l : List Int} (h : l.length ≤ 4294967296) : s_spec_l1Own l = some l := by
  unfold s_spec_l1Own; rw [app_ok (by simpa using h)]; rfl

theorem net_cases (net : Net) (hb : BN net) : (∃ V N, NetN net V N ∧ s_spec_l19Good (net.1, net.2.1, net.2.2) = some true ∧ s_impl_IsNetwork (net.1, net.2.1, net.2.2) = some true) ∨
    (¬ IsNet net ∧ s_spec_l19Good (net.1, net.2.1, net.2.2) = some false ∧ s_impl_IsNetwork (net.1, net.2.1, net.2.2) = some false) := by
  rcases (spec_l19Good_says net hb).cases with ⟨e, h⟩ | ⟨e, h⟩
  · rcases (impl_IsNetwork_says net hb).cases with ⟨e', _⟩ | ⟨_, h'⟩
    · obtain ⟨V, N, hn⟩ := h; exact .inl ⟨V, N, hn, e, e'⟩
    · exact absurd h h'
  · rcases (impl_IsNetwork_says net hb).cases with ⟨_, h'⟩ | ⟨e', _⟩
    · exact absurd h' h
    · exact .inr ⟨h, e, e'⟩

section
set_option linter.unusedVariables false
theorem ba_beq {a b : ByteArray} : (a == b) = decide (a = b) := by
  by_cases h : a = b
  · rw [(ba_iff (a := a) (b := b)).2 h]; simp [h]
  · cases hc : (a == b) with
    | false => simp [h]
    | true => exact absurd (ba_iff.1 hc) h
theorem mget_put {β : Type} (m : List (ByteArray × β)) (k k' : ByteArray) (x : β) : mget (mput m k x) k' = if k' = k then some x else mget m k' := by
  induction m with
  | nil => simp only [mput, mget, ba_beq, decide_eq_true_eq]
  | cons p m ih =>
    obtain ⟨q, v⟩ := p
    simp only [mput]
    by_cases h : k = q
    · rw [if_pos (by rw [ba_beq]; simpa using h)]
      subst h
      simp only [mget, ba_beq, decide_eq_true_eq]
      by_cases h2 : k' = k
      · rw [if_pos h2]; simp [h2]
      · simp [h2]
    · rw [if_neg (by rw [ba_beq]; simpa using h)]
      simp only [mget, ba_beq, decide_eq_true_eq, ih]
      by_cases h2 : k' = q
      · rw [if_pos h2, if_pos h2, if_neg (fun e => h (by rw [← e, h2]))]
      · rw [if_neg h2, if_neg h2]
theorem bstr_data (ns : List Int) : (bstr ns).data = (ns.map fun n => UInt8.ofNat n.toNat).toArray := by
  have : ∀ (ns : List Int) (r : ByteArray), (ns.foldl (fun r n => r.push (UInt8.ofNat n.toNat)) r).data = r.data ++ (ns.map fun n => UInt8.ofNat n.toNat).toArray := by
    intro ns
    induction ns with
    | nil => intro r; simp
    | cons n ns ih =>
      intro r
      rw [List.foldl_cons, ih]
      show (r.data.push _) ++ _ = _
      apply Array.ext'
      simp
  have h := this ns ByteArray.empty
  unfold bstr
  rw [h]
  apply Array.ext'
  show ([] : List UInt8) ++ _ = _
  simp
theorem bstr_inj {a b : List Int} (ha : ∀ x ∈ a, 0 ≤ x ∧ x < 256) (hb : ∀ x ∈ b, 0 ≤ x ∧ x < 256) (h : bstr a = bstr b) : a = b := by
  have h := congrArg (fun s => s.data.toList) h
  simp only [bstr_data] at h
  have key : ∀ {a b : List Int}, (∀ x ∈ a, 0 ≤ x ∧ x < 256) → (∀ x ∈ b, 0 ≤ x ∧ x < 256) → (a.map fun n => UInt8.ofNat n.toNat) = (b.map fun n => UInt8.ofNat n.toNat) → a = b := by
    intro a
    induction a with
    | nil => intro b _ _ h; cases b with
      | nil => rfl
      | cons _ _ => cases h
    | cons x a ih =>
      intro b ha hb h
      cases b with
      | nil => cases h
      | cons y b =>
        rw [List.map_cons, List.map_cons, List.cons.injEq] at h
        have h1 := congrArg UInt8.toNat h.1
        have hx := ha x (by simp); have hy := hb y (by simp)
        have e1 : (UInt8.ofNat x.toNat).toNat = x.toNat := by
          rw [UInt8.toNat_ofNat']; exact Nat.mod_eq_of_lt (by omega)
        have e2 : (UInt8.ofNat y.toNat).toNat = y.toNat := by
          rw [UInt8.toNat_ofNat']; exact Nat.mod_eq_of_lt (by omega)
        rw [e1, e2] at h1
        rw [ih (fun z hz => ha z (by simp [hz])) (fun z hz => hb z (by simp [hz])) h.2, show x = y by omega]
  exact key ha hb (by simpa using h)
/-- The key of a list of small numbers. -/
def kb (x : Nat) : List Int := [((x / 256 % 256 : Nat) : Int), ((x % 256 : Nat) : Int)]
def kkey (T : List Nat) : ByteArray := bstr (T.flatMap kb)
theorem kkey_inj {S T : List Nat} (hS : ∀ x ∈ S, x < 65536) (hT : ∀ x ∈ T, x < 65536) : kkey S = kkey T ↔ S = T := by
  refine ⟨fun h => ?_, fun h => by rw [h]⟩
  have bd : ∀ T : List Nat, ∀ y ∈ T.flatMap kb, 0 ≤ y ∧ y < 256 := by
    intro T y hy
    obtain ⟨x, _, hx⟩ := List.mem_flatMap.1 hy
    simp only [kb, List.mem_cons, List.not_mem_nil, or_false] at hx
    rcases hx with rfl | rfl <;> omega
  have h := bstr_inj (bd S) (bd T) h
  induction S generalizing T with
  | nil => cases T with
    | nil => rfl
    | cons y T => simp [kb] at h
  | cons x S ih =>
    cases T with
    | nil => simp [kb] at h
    | cons y T =>
      simp only [List.flatMap_cons, kb, List.cons_append, List.nil_append, List.cons.injEq] at h
      have hx := hS x (by simp); have hy := hT y (by simp)
      rw [ih (fun z hz => hS z (by simp [hz])) (fun z hz => hT z (by simp [hz])) (by unfold kkey; rw [h.2.2]) h.2.2, show x = y by omega]

end

set_option linter.unusedVariables false
theorem u8_wrap (x : Nat) : IntKind.u8.wrap (x : Int) = ((x % 256 : Nat) : Int) := by
  have : IntKind.u8.wrap (x : Int) = (x : Int) % 256 := by
    unfold IntKind.wrap
    rw [if_neg (by simp [IntKind.signed])]; rfl
  rw [this]; omega

theorem shr8 (x : Nat) : ishr .i64 (x : Int) 8 = ((x / 256 : Nat) : Int) := by
  unfold ishr
  show Int.fdiv (x : Int) (2 ^ 8) = _
  rw [Int.fdiv_eq_ediv_of_nonneg _ (by decide)]
  omega

theorem keyOf_eq {T : List Nat} (hl : T.length ≤ 1000000000) : s_impl_keyOf (NL T) = some (kkey T) := by
  unfold s_impl_keyOf
  have e0 : mkc 0 (w64 (2 * ((NL T).length : Int))) = some () := by
    rw [show (2 * ((NL T).length : Int)) = ((2 * T.length : Nat) : Int) by simp, w64_nat (by omega)]
    unfold mkc; rw [if_pos ⟨by omega, by omega, by omega⟩]
  rw [e0, Option.bind_some]
  have key : ∀ (T S : List Nat) (i : Int), S.length + T.length ≤ 1000000000 → forR (S := (List Int)) (R := ByteArray) (fun _ x16 s13 =>
  (app s13 ([IntKind.u8.wrap (ishr .i64 x16 8), IntKind.u8.wrap x16])).bind fun y27 =>
  some (.nx y27)) i (NL T) (S.flatMap kb) = some (.br ((S ++ T).flatMap kb)) := by
    intro T
    induction T with
    | nil => intro S i _; rw [List.append_nil]; rfl
    | cons x T ih =>
      intro S i h
      have hk : (S.flatMap kb).length = 2 * S.length := by
        clear h
        induction S with
        | nil => rfl
        | cons y S ih => simp [List.flatMap_cons, kb, ih]; omega
      simp only [List.length_cons] at h
      show forR _ i ((x : Int) :: NL T) _ = _
      unfold forR
      simp only [shr8, u8_wrap]
      rw [app_ok (by rw [hk]; simp; omega), Option.bind_some]
      have := ih (S ++ [x]) (i + 1) (by simp; omega)
      simp only [List.flatMap_append, List.flatMap_cons, List.flatMap_nil, List.append_nil, kb] at this ⊢
      simp only [List.append_assoc] at this ⊢
      rw [this]
  have := key T [] 0 (by simpa using hl)
  simp only [List.flatMap_nil, List.nil_append] at this
  rw [show List.replicate (Int.toNat 0) (0 : Int) = [] from rfl, this]
  rfl


def SeenOk (seen : List (ByteArray × Bool)) (L : List (List Nat)) : Prop := ∀ T : List Nat, (∀ x ∈ T, x < 65536) → (mget seen (kkey T)).getD false = decide (T ∈ L)

theorem SeenOk.add {seen : List (ByteArray × Bool)} {L : List (List Nat)} (h : SeenOk seen L) {T : List Nat} (hT : ∀ x ∈ T, x < 65536) : SeenOk (mput seen (kkey T) true) (L ++ [T]) := fun S hS => by
  rw [mget_put]
  by_cases e : S = T
  · subst e; simp
  · rw [if_neg (fun h' => e ((kkey_inj hS hT).1 h')), h S hS]
    simp [e]

theorem forR_step {α S R : Type} {step : Int → α → S → Option (Ctl S R)} {i : Int} {x : α} {l : List α} {s s' : S} (h : step i x s = some (.nx s')) : forR step i (x :: l) s = forR step (i + 1) l s' := by
  conv => lhs; unfold forR
  rw [h]

set_option linter.unusedVariables false
abbrev RelI := Int × List (List Int)

set_option linter.unusedVariables false
def scpI (n : Int) (rows : List (List Int)) (ds : List Nat) (p : Nat) : Int := ds.foldl (fun acc d => w64 (w64 (acc * n) + ((rows.getD d []).getD p 0))) 0

def scope (n : Int) (r : RelI) (ds : List Nat) : List Int := (List.range r.1.toNat).map (scpI n r.2 ds)


section
variable {β : Type}
/-- One after the other, until one says no. -/
def foldB (cb : List Nat → β → Bool × β) : List (List Nat) → β → Bool × β
  | [], b => (true, b)
  | x :: xs, b => bif (cb x b).1 then foldB cb xs (cb x b).2 else (false, (cb x b).2)

theorem foldB_app (cb : List Nat → β → Bool × β) : ∀ (l m : List (List Nat)) (b : β), foldB cb (l ++ m) b = bif (foldB cb l b).1 then foldB cb m (foldB cb l b).2 else (false, (foldB cb l b).2)
  | [], m, b => rfl
  | x :: l, m, b => by
    rw [List.cons_append]
    simp only [foldB]
    cases h : (cb x b).1 with
    | true => simp only [cond_true]; exact foldB_app cb l m _
    | false => rfl

/-- May the value x stand at the place v? -/
def allow (par : List Int) (v x : Nat) : Bool := !(decide (0 ≤ gi par (v : Int)) && (gi par (v : Int) != (x : Int)))

/-- All lists with k more values, as told by good for each beginning. -/
def exts (N : Nat) (par : List Int) (good : List Nat → Bool) : Nat → List Nat → List (List Nat)
  | 0, pre => [pre]
  | k + 1, pre => (List.range N).flatMap fun x => bif allow par pre.length x && good (pre ++ [x]) then exts N par good k (pre ++ [x]) else []

theorem exts_count {N : Nat} {par : List Int} {good : List Nat → Bool} : ∀ (k : Nat) (pre : List Nat), (exts N par good k pre).length ≤ N ^ k
  | 0, pre => by simp [exts]
  | k + 1, pre => by
    have key : ∀ l : List Nat, (l.flatMap fun x => bif allow par pre.length x && good (pre ++ [x]) then exts N par good k (pre ++ [x]) else []).length ≤ l.length * N ^ k := by
      intro l
      induction l with
      | nil => simp
      | cons x l ih =>
        rw [List.flatMap_cons, List.length_append, List.length_cons, Nat.add_mul, Nat.one_mul, Nat.add_comm]
        refine Nat.add_le_add ih ?_
        cases (allow par pre.length x && good (pre ++ [x])) with
        | true => exact exts_count k _
        | false => exact Nat.zero_le _
    have := key (List.range N)
    rw [List.length_range, Nat.mul_comm, ← Nat.pow_succ] at this
    exact this


/-- A round of the search as it is written. -/
def stepG (ok : List Int → Int → Option Bool) (par : List Int) (go : Int → List Int → β → Option (Bool × List Int × β)) (v : Int) (k : Int) (s : List Int × β) : Option (Ctl (List Int × β) (Bool × List Int × β)) :=
  ((idx par v).bind fun x => (bif (decide (0 ≤ x)) then (idx par v).bind fun x => some (x != k) else some false)).bind fun t =>
  (bif t then some (.nx (s.1, s.2)) else (idx s.1 v).bind fun _ => (ok (List.set s.1 (Int.toNat v) k) v).bind fun g =>
  (bif g then (go (w64 (v + 1)) (List.set s.1 (Int.toNat v) k) s.2).bind fun r =>
  (bif (!r.1) then some (.rt (false, r.2.1, r.2.2)) else some (.nx (r.2.1, r.2.2))) else some (.nx (List.set s.1 (Int.toNat v) k, s.2))))

/-- The search as it is written: the body of the closure, for any check and any end. -/
def eachG (ok : List Int → Int → Option Bool) (cb : List Int → β → Option (Bool × β)) (n : Int) (par : List Int) : Nat → Int → List Int → β → Option (Bool × List Int × β)
  | 0, _, _, _ => none
  | fu + 1, v, vals, b =>
    (bif (v == (vals.length : Int)) then (cb vals b).bind fun r => some (r.1, vals, r.2) else (forC (S := (List Int) × β) (R := Bool × (List Int) × β) (stepG ok par (eachG ok cb n par fu) v) 0 n (vals, b)).bind fun o => after o (fun r_ => some r_) (fun s => some (true, s.1, s.2)))


theorem set_take {W : List Nat} {v j : Nat} (h : v < W.length) : (W.set v j).take (v + 1) = W.take v ++ [j] := by
  rw [List.take_add_one, List.take_set_of_le (Nat.le_refl v), List.getElem?_set_self h]; rfl

theorem NL_set (W : List Nat) (v j : Nat) : List.set (NL W) v (j : Int) = NL (W.set v j) := by
  unfold NL; rw [List.map_set]

theorem all_bytes {V : Nat} (h : V ≤ 100) {v : Nat} (hv : v < V) : w64 ((v : Int) + 1) = ((v + 1 : Nat) : Int) := w64_add1 (by omega)


theorem eachG_eq {ok : List Int → Int → Option Bool} {cb : List Int → β → Option (Bool × β)} {cb' : List Nat → β → Bool × β} {N V : Nat} {par : List Int} {good : List Nat → Bool} (I : β → Prop) (hV : V ≤ 100) (hN : N ≤ 100) (hp : par.length = V)
    (hok : ∀ (W : List Nat) (v : Nat), W.length = V → v < V → (∀ x ∈ W.take (v + 1), x < N) → ok (NL W) (v : Int) = some (good (W.take (v + 1))))
    (hcb : ∀ (W : List Nat) (b : β), W.length = V → (∀ x ∈ W, x < N) → I b → cb (NL W) b = some (cb' W b) ∧ ((cb' W b).1 = true → I (cb' W b).2)) :
    ∀ (k v fu : Nat) (W : List Nat) (b : β), v + k = V → k < fu → W.length = V → (∀ x ∈ W.take v, x < N) → I b →
      ∃ W', W'.length = V ∧ W'.take v = W.take v ∧ eachG ok cb (N : Int) par fu (v : Int) (NL W) b = some ((foldB cb' (exts N par good k (W.take v)) b).1, NL W', (foldB cb' (exts N par good k (W.take v)) b).2) ∧
        ((foldB cb' (exts N par good k (W.take v)) b).1 = true → I (foldB cb' (exts N par good k (W.take v)) b).2) := by
  intro k
  induction k with
  | zero =>
    intro v fu W b hv hfu hW hx hI
    obtain ⟨fu, rfl⟩ : ∃ f, fu = f + 1 := ⟨fu - 1, by omega⟩
    have hvl : W.take v = W := List.take_of_length_le (by omega)
    rw [hvl] at hx ⊢
    obtain ⟨h1, h2⟩ := hcb W b hW hx hI
    refine ⟨W, hW, hvl, ?_, ?_⟩
    · unfold eachG
      rw [NL_len, hW, show ((v : Int) == (V : Int)) = true by simp; omega, cond_true, h1]
      simp only [exts, foldB, Option.bind_some]
      cases hc : (cb' W b).1 <;> simp
    · simp only [exts, foldB]
      cases hc : (cb' W b).1 with
      | true => intro _; exact h2 hc
      | false => intro h; cases h
  | succ k ih =>
    intro v fu W b hv hfu hW hx hI
    obtain ⟨fu, rfl⟩ : ∃ f, fu = f + 1 := ⟨fu - 1, by omega⟩
    have hvV : v < V := by omega
    have hpl : (W.take v).length = v := by rw [List.length_take]; omega
    unfold eachG
    rw [NL_len, hW, show ((v : Int) == (V : Int)) = false by simp; omega, cond_false]
    have key : ∀ (n j : Nat) (W1 : List Nat) (b1 : β), j + n = N → W1.length = V → W1.take v = W.take v → I b1 →
        ∃ W', W'.length = V ∧ W'.take v = W.take v ∧ forI (S := (List Int) × β) (R := Bool × (List Int) × β) (stepG ok par (eachG ok cb (N : Int) par fu) (v : Int)) n (j : Int) (NL W1, b1) =
          some (bif (foldB cb' ((List.range' j n).flatMap fun x => bif allow par v x && good (W.take v ++ [x]) then exts N par good k (W.take v ++ [x]) else []) b1).1
            then .br (NL W', (foldB cb' ((List.range' j n).flatMap fun x => bif allow par v x && good (W.take v ++ [x]) then exts N par good k (W.take v ++ [x]) else []) b1).2)
            else .rt (false, NL W', (foldB cb' ((List.range' j n).flatMap fun x => bif allow par v x && good (W.take v ++ [x]) then exts N par good k (W.take v ++ [x]) else []) b1).2)) ∧
          ((foldB cb' ((List.range' j n).flatMap fun x => bif allow par v x && good (W.take v ++ [x]) then exts N par good k (W.take v ++ [x]) else []) b1).1 = true →
            I (foldB cb' ((List.range' j n).flatMap fun x => bif allow par v x && good (W.take v ++ [x]) then exts N par good k (W.take v ++ [x]) else []) b1).2) := by
      intro n
      induction n with
      | zero => intro j W1 b1 hj h1 h2 h3; exact ⟨W1, h1, h2, rfl, fun _ => h3⟩
      | succ n ihn =>
        intro j W1 b1 hj h1 h2 h3
        have hjN : j < N := by omega
        unfold forI
        have hidx : idx par (v : Int) = some (gi par (v : Int)) := idx_gi (by omega) (by omega)
        have hcast : (j : Int) + 1 = ((j + 1 : Nat) : Int) := by omega
        simp only [stepG, hidx, Option.bind_some]
        have htest : (bif (decide (0 ≤ gi par (v : Int))) then (some (gi par (v : Int) != (j : Int)) : Option Bool) else some false) = some (!allow par v j) := by
          unfold allow
          cases decide (0 ≤ gi par (v : Int)) <;> simp
        rw [htest, Option.bind_some, List.range'_succ, List.flatMap_cons]
        cases hal : allow par v j with
        | false =>
          simp only [Bool.not_false, cond_true, Bool.false_and, cond_false, List.nil_append]
          rw [hcast]
          exact ihn (j + 1) W1 b1 (by omega) h1 h2 h3
        | true =>
          simp only [Bool.not_true, cond_false, Bool.true_and]
          have e1 : idx (NL W1) (v : Int) = some ((ga W1 v : Nat) : Int) := idx_NL (by omega)
          rw [e1, Option.bind_some, Int.toNat_natCast, NL_set]
          have ht : (W1.set v j).take (v + 1) = W.take v ++ [j] := by rw [set_take (by omega), h2]
          have htx : ∀ x ∈ (W1.set v j).take (v + 1), x < N := by
            rw [ht]
            intro x hxx
            rcases List.mem_append.1 hxx with hxx | hxx
            · exact hx x hxx
            · rw [List.mem_singleton.1 hxx]; exact hjN
          rw [hok (W1.set v j) v (by simp [h1]) hvV htx, Option.bind_some, ht]
          have h2' : (W1.set v j).take v = W.take v := by rw [List.take_set_of_le (Nat.le_refl v)]; exact h2
          cases hg : good (W.take v ++ [j]) with
          | false =>
            simp only [cond_false, List.nil_append]
            rw [hcast]
            exact ihn (j + 1) (W1.set v j) b1 (by omega) (by simp [h1]) h2' h3
          | true =>
            simp only [cond_true]
            rw [all_bytes hV hvV]
            obtain ⟨W2, g1, g2, g3, g4⟩ := ih (v + 1) fu (W1.set v j) b1 (by omega) (by omega) (by simp [h1]) htx h3
            rw [ht] at g2 g3 g4
            rw [g3, Option.bind_some]
            simp only []
            have g2' : W2.take v = W.take v := by
              have := congrArg (List.take v) g2
              rw [List.take_take, Nat.min_eq_left (by omega)] at this
              rw [this, List.take_append_of_le_length (by omega), List.take_take, Nat.min_self]
            rw [foldB_app]
            cases hf : (foldB cb' (exts N par good k (W.take v ++ [j])) b1).1 with
            | true =>
              simp only [Bool.not_true, cond_false, cond_true]
              rw [hcast]
              exact ihn (j + 1) W2 _ (by omega) g1 g2' (g4 hf)
            | false =>
              simp only [Bool.not_false, cond_true, cond_false]
              exact ⟨W2, g1, g2', rfl, fun h => by cases h⟩
    obtain ⟨W', a1, a2, a3, a4⟩ := key N 0 W b (by omega) hW rfl hI
    have ex : exts N par good (k + 1) (W.take v) = (List.range' 0 N).flatMap fun x => bif allow par v x && good (W.take v ++ [x]) then exts N par good k (W.take v ++ [x]) else [] := by
      rw [exts, hpl, List.range_eq_range']
    rw [← ex] at a3 a4
    refine ⟨W', a1, a2, ?_, a4⟩
    unfold forC
    rw [show decide (-9223372036854775808 ≤ (0 : Int)) = true by decide, show decide ((N : Int) ≤ 9223372036854775807) = true by simp; omega, Bool.and_true, cond_true, show ((N : Int) - 0).toNat = N by omega]
    rw [show (0 : Int) = ((0 : Nat) : Int) from rfl, a3]
    cases hf : (foldB cb' (exts N par good (k + 1) (W.take v)) b).1 <;> rfl
end


abbrev SS := List (List Int) × Int × Int × Bool

/-- A solution is found. -/
def lfS (s : SS) (W : List Nat) : SS := bif s.2.2.2 && decide (0 < s.2.1) then s else (bif decide ((s.1.length : Int) < s.2.2.1) then s.1 ++ [NL W] else s.1, s.2.1 + 1, s.2.2.1, s.2.2.2)

theorem lfS_keep (s : SS) (W : List Nat) : (lfS s W).2.2 = s.2.2 := by
  unfold lfS; cases s.2.2.2 && decide (0 < s.2.1) <;> rfl

theorem lfS_up (s : SS) (W : List Nat) : s.2.1 ≤ (lfS s W).2.1 ∧ (lfS s W).2.1 ≤ s.2.1 + 1 := by
  unfold lfS; cases s.2.2.2 && decide (0 < s.2.1)
  · exact ⟨by simp only [cond_false]; omega, Int.le_refl _⟩
  · exact ⟨Int.le_refl _, by simp only [cond_true]; omega⟩

theorem lfF_keep : ∀ (l : List (List Nat)) (s : SS), (l.foldl lfS s).2.2 = s.2.2
  | [], _ => rfl
  | x :: l, s => by rw [List.foldl_cons, lfF_keep l, lfS_keep]

theorem lfF_up : ∀ (l : List (List Nat)) (s : SS), s.2.1 ≤ (l.foldl lfS s).2.1 ∧ (l.foldl lfS s).2.1 ≤ s.2.1 + l.length
  | [], s => by simp
  | x :: l, s => by
    have h1 := lfS_up s x
    have h2 := lfF_up l (lfS s x)
    rw [List.foldl_cons, List.length_cons]
    omega

theorem lfF_stop {s : SS} (h : (s.2.2.2 && decide (0 < s.2.1)) = true) : ∀ l : List (List Nat), l.foldl lfS s = s
  | [] => rfl
  | x :: l => by
    rw [List.foldl_cons]
    have : lfS s x = s := by unfold lfS; rw [h]; rfl
    rw [this]; exact lfF_stop h l


/-- A round over the values, as printed. -/
def stepL (go : Int → List (List Con) → List Int → List Int → SS → Option SS) (size : Int) (at_ : List (List Con)) (partial_ begun : List Int) (s197 : Int × SS) : Option (Ctl (Int × (List (List Int)) × Int × Int × Bool) ((List (List Int)) × Int × Int × Bool)) :=
  (bif ((decide (s197.1 < size)) && (!(s197.2.2.2.2 && (decide (0 < s197.2.2.1))))) then ((idx partial_ (begun.length : Int)).bind fun x216 =>
  (bif (decide (0 ≤ x216)) then (idx partial_ (begun.length : Int)).bind fun x219 =>
  some (x219 != s197.1) else some false)).bind fun s213 =>
  (bif s213 then some (.nx (w64 (s197.1 + 1), s197.2.1, s197.2.2.1, s197.2.2.2.1, s197.2.2.2.2)) else (s_spec_l1Own begun).bind fun r223 =>
  (app r223 ([s197.1])).bind fun y228 =>
  (iter (S := Bool × Int) (R := ((List (List Int)) × Int × Int × Bool)) (fun s250 =>
  ((idx at_ (begun.length : Int)).bind fun x259 =>
  (bif (decide (s250.2 < (x259.length : Int))) then some s250.1 else some false)).bind fun s256 =>
  (bif s256 then (idx at_ (begun.length : Int)).bind fun x265 =>
  (idx x265 s250.2).bind fun x269 =>
  (s_spec_l19Satisfies (x269.1, (x269.2.1, x269.2.2)) y228).bind fun r275 =>
  some (.nx (r275, w64 (s250.2 + 1))) else some (.br (s250.1, s250.2)))) FU (true, 0)).bind fun o254 => after o254 (fun r_ => some (.rt r_)) (fun s250 =>
  (bif s250.1 then (go size at_ partial_ y228 (s197.2.1, s197.2.2.1, s197.2.2.2.1, s197.2.2.2.2)).bind fun r278 =>
  some (.nx (w64 (s197.1 + 1), r278.1, r278.2.1, r278.2.2.1, r278.2.2.2)) else some (.nx (w64 (s197.1 + 1), s197.2.1, s197.2.2.1, s197.2.2.2.1, s197.2.2.2.2))))) else some (.br (s197.1, s197.2.1, s197.2.2.1, s197.2.2.2.1, s197.2.2.2.2)))

theorem l19Go_unf (fu : Nat) (size : Int) (at_ : List (List Con)) (par begun : List Int) (s : SS) : s_spec_l19Go__take4 (fu + 1) size at_ par begun s =
    (bif ((begun.length : Int) == (at_.length : Int)) then (bif (decide ((s.1.length : Int) < s.2.2.1)) then (s_spec_l1Own begun).bind fun r37 =>
      (app s.1 ([r37])).bind fun y42 => some y42 else some s.1).bind fun s29 => some (s29, w64 (s.2.1 + 1), s.2.2.1, s.2.2.2)
    else (iter (stepL (s_spec_l19Go__take4 fu) size at_ par begun) FU (0, s.1, s.2.1, s.2.2.1, s.2.2.2)).bind fun o201 => after o201 (fun r_ => some r_) (fun s197 => some (s197.2.1, s197.2.2.1, s197.2.2.2.1, s197.2.2.2.2))) := rfl


/-- The constraints of a place, for a beginning that ends there. -/
def goodA (at_ : List (List Con)) (W : List Nat) : Bool := (at_.getD (W.length - 1) []).all fun c => sat c W

theorem check_at {R : Type} {N v : Nat} {at_ : List (List Con)} {cs : List Con} {W : List Nat} (h8 : N ≤ 8) (hv : idx at_ (v : Int) = some cs) (hl : cs.length ≤ 1000) (hc : ∀ c ∈ cs, ConN W.length N c) : ∃ z, iter (S := Bool × Int) (R := R) (fun s250 =>
  ((idx at_ (v : Int)).bind fun x259 =>
  (bif (decide (s250.2 < (x259.length : Int))) then some s250.1 else some false)).bind fun s256 =>
  (bif s256 then (idx at_ (v : Int)).bind fun x265 =>
  (idx x265 s250.2).bind fun x269 =>
  (s_spec_l19Satisfies (x269.1, (x269.2.1, x269.2.2)) (NL W)).bind fun r275 =>
  some (.nx (r275, w64 (s250.2 + 1))) else some (.br (s250.1, s250.2)))) FU (true, 0) = some (.br (cs.all fun c => sat c W, z)) := by
  simp only [hv, Option.bind_some]
  have key : ∀ (n j m : Nat), j + n = cs.length → n < m → ∀ b : Bool, ∃ z, iter (S := Bool × Int) (R := R) (fun s250 =>
  ((bif (decide (s250.2 < (cs.length : Int))) then some s250.1 else some false) : Option Bool).bind fun s256 =>
  (bif s256 then (idx cs s250.2).bind fun x269 =>
  (s_spec_l19Satisfies (x269.1, (x269.2.1, x269.2.2)) (NL W)).bind fun r275 =>
  some (.nx (r275, w64 (s250.2 + 1))) else some (.br (s250.1, s250.2)))) m (b, (j : Int)) = some (.br (b && (cs.drop j).all fun c => sat c W, z)) := by
    intro n
    induction n with
    | zero =>
      intro j m hj hm b
      obtain ⟨m, rfl⟩ : ∃ q, m = q + 1 := ⟨m - 1, by omega⟩
      refine ⟨(j : Int), ?_⟩
      unfold iter
      simp only []
      rw [show decide ((j : Int) < (cs.length : Int)) = false by simp; omega, cond_false, Option.bind_some, cond_false, List.drop_of_length_le (by omega)]
      simp
    | succ n ih =>
      intro j m hj hm b
      obtain ⟨m, rfl⟩ : ∃ q, m = q + 1 := ⟨m - 1, by omega⟩
      unfold iter
      simp only []
      rw [show decide ((j : Int) < (cs.length : Int)) = true by simp; omega, cond_true, Option.bind_some]
      cases b with
      | false => exact ⟨(j : Int), by simp⟩
      | true =>
        simp only [cond_true]
        have hjl : j < cs.length := by omega
        rw [idx_ok (by omega) (by omega), Option.bind_some]
        simp only [Int.toNat_natCast]
        have e := l19Satisfies_eq (W := W) h8 (hc _ (List.getElem_mem hjl)) (Nat.le_refl _)
        have e : s_spec_l19Satisfies (cs[j].1, (cs[j].2.1, cs[j].2.2)) (NL W) = some (sat cs[j] W) := e
        rw [e, Option.bind_some, w64_add1 (by omega)]
        obtain ⟨z, hz⟩ := ih (j + 1) m (by omega) (by omega) (sat cs[j] W)
        refine ⟨z, ?_⟩
        simp only []
        rw [hz, List.drop_eq_getElem_cons hjl, List.all_cons, Bool.true_and]
  obtain ⟨z, hz⟩ := key cs.length 0 FU (by omega) (by unfold FU; omega) true
  exact ⟨z, by rw [show ((0 : Nat) : Int) = 0 from rfl] at hz; rw [hz, List.drop_zero, Bool.true_and]⟩


theorem l19Go_eq {N V : Nat} {at_ : List (List Con)} {par : List Int} (hV : V ≤ 9) (hN : N ≤ 4) (hat : at_.length = V) (hp : par.length = V)
    (hc : ∀ v cs, at_[v]? = some cs → cs.length ≤ 1000 ∧ ∀ c ∈ cs, ConN (v + 1) N c) :
    ∀ (k fu : Nat) (pre : List Nat) (s : SS), pre.length + k = V → k < fu → (s.2.2.2 && decide (0 < s.2.1)) = false → 0 ≤ s.2.1 → s.2.1 + (exts N par (goodA at_) k pre).length ≤ 4611686018427387904 → s.2.2.1 ≤ 1000 →
      s_spec_l19Go__take4 fu (N : Int) at_ par (NL pre) s = some ((exts N par (goodA at_) k pre).foldl lfS s) := by
  intro k
  induction k with
  | zero =>
    intro fu pre s hk hfu hs h0 hb hm
    obtain ⟨fu, rfl⟩ : ∃ f, fu = f + 1 := ⟨fu - 1, by omega⟩
    rw [l19Go_unf, NL_len, show ((pre.length : Int) == (at_.length : Int)) = true by simp; omega, cond_true, l1Own_eq (by simp; omega)]
    simp only [exts, List.foldl_cons, List.foldl_nil, lfS, hs, cond_false]
    simp only [exts, List.length_cons, List.length_nil] at hb
    rw [w64_id (by omega) (by omega)]
    cases hd : decide ((s.1.length : Int) < s.2.2.1) with
    | false => rfl
    | true =>
      simp only [decide_eq_true_eq] at hd
      simp only [cond_true, Option.bind_some]
      rw [app_ok (by simp; omega)]; rfl
  | succ k ih =>
    intro fu pre s hk hfu hs h0 hb hm
    obtain ⟨fu, rfl⟩ : ∃ f, fu = f + 1 := ⟨fu - 1, by omega⟩
    rw [l19Go_unf, NL_len, show ((pre.length : Int) == (at_.length : Int)) = false by simp; omega, cond_false]
    have hvV : pre.length < V := by omega
    have hidx : idx par (pre.length : Int) = some (gi par (pre.length : Int)) := idx_gi (by omega) (by omega)
    obtain ⟨cs, hcs⟩ : ∃ cs, at_[pre.length]? = some cs := ⟨at_[pre.length]'(by omega), by rw [List.getElem?_eq_getElem]⟩
    have hcs' : idx at_ (pre.length : Int) = some cs := by rw [idx_nat]; exact hcs
    obtain ⟨hcl, hcc⟩ := hc _ _ hcs
    have key : ∀ (n j m : Nat) (s1 : SS), j + n = N → n < m → 0 ≤ s1.2.1 → s1.2.1 + ((List.range' j n).flatMap fun x => bif allow par pre.length x && goodA at_ (pre ++ [x]) then exts N par (goodA at_) k (pre ++ [x]) else []).length ≤ 4611686018427387904 → s1.2.2.1 ≤ 1000 →
        ∃ z, iter (stepL (s_spec_l19Go__take4 fu) (N : Int) at_ par (NL pre)) m ((j : Int), s1.1, s1.2.1, s1.2.2.1, s1.2.2.2) =
          some (.br (z, ((List.range' j n).flatMap fun x => bif allow par pre.length x && goodA at_ (pre ++ [x]) then exts N par (goodA at_) k (pre ++ [x]) else []).foldl lfS s1)) := by
      intro n
      induction n with
      | zero =>
        intro j m s1 hj hm _ _ _
        obtain ⟨m, rfl⟩ : ∃ q, m = q + 1 := ⟨m - 1, by omega⟩
        refine ⟨(j : Int), ?_⟩
        unfold iter
        simp only [stepL]
        rw [show decide ((j : Int) < (N : Int)) = false by simp; omega, Bool.false_and, cond_false]
        rfl
      | succ n ihn =>
        intro j m s1 hj hm h1 h2 h3
        obtain ⟨m, rfl⟩ : ∃ q, m = q + 1 := ⟨m - 1, by omega⟩
        have hjN : j < N := by omega
        rw [List.range'_succ, List.flatMap_cons] at h2 ⊢
        rw [List.length_append] at h2
        unfold iter
        simp only [stepL]
        rw [show decide ((j : Int) < (N : Int)) = true by simp; omega, Bool.true_and]
        cases hst : (s1.2.2.2 && decide (0 < s1.2.1)) with
        | true =>
          simp only [Bool.not_true, cond_false]
          exact ⟨(j : Int), by rw [lfF_stop hst]⟩
        | false =>
          simp only [Bool.not_false, cond_true]
          rw [NL_len, hidx]
          simp only [Option.bind_some]
          have htest : (bif (decide (0 ≤ gi par (pre.length : Int))) then (some (gi par (pre.length : Int) != (j : Int)) : Option Bool) else some false) = some (!allow par pre.length j) := by
            unfold allow
            cases decide (0 ≤ gi par (pre.length : Int)) <;> simp
          rw [htest, Option.bind_some, w64_add1 (by omega)]
          cases hal : allow par pre.length j with
          | false =>
            rw [hal] at h2
            simp only [Bool.not_false, cond_true, Bool.false_and, cond_false, List.nil_append] at h2 ⊢
            exact ihn (j + 1) m s1 (by omega) (by omega) h1 (by simpa using h2) h3
          | true =>
            rw [hal] at h2
            simp only [Bool.not_true, cond_false, Bool.true_and] at h2 ⊢
            rw [l1Own_eq (by simp; omega), Option.bind_some, app_ok (by simp; omega), Option.bind_some, show NL pre ++ [(j : Int)] = NL (pre ++ [j]) by rw [NL_app]; rfl]
            obtain ⟨z, hz⟩ := check_at (R := ((List (List Int)) × Int × Int × Bool)) (W := pre ++ [j]) (v := pre.length) (N := N) (by omega) hcs' hcl (fun c hc1 => by
              have := hcc c hc1
              rwa [show (pre ++ [j]).length = pre.length + 1 by simp])
            rw [hz, Option.bind_some, after_br']
            have hga : (cs.all fun c => sat c (pre ++ [j])) = goodA at_ (pre ++ [j]) := by
              unfold goodA
              rw [show (pre ++ [j]).length - 1 = pre.length by simp, List.getD_eq_getElem?_getD, hcs]; rfl
            simp only [hga]
            cases hg : goodA at_ (pre ++ [j]) with
            | false =>
              rw [hg] at h2
              simp only [cond_false, List.nil_append] at h2 ⊢
              exact ihn (j + 1) m s1 (by omega) (by omega) h1 (by simpa using h2) h3
            | true =>
              rw [hg] at h2
              simp only [cond_true] at h2 ⊢
              have e1 : s_spec_l19Go__take4 fu (N : Int) at_ par (NL (pre ++ [j])) (s1.1, s1.2.1, s1.2.2.1, s1.2.2.2) = _ := ih fu (pre ++ [j]) s1 (by simp; omega) (by omega) hst h1 (by omega) h3
              rw [e1, Option.bind_some, List.foldl_append]
              have hup := lfF_up (exts N par (goodA at_) k (pre ++ [j])) s1
              have hke := lfF_keep (exts N par (goodA at_) k (pre ++ [j])) s1
              exact ihn (j + 1) m (List.foldl lfS s1 (exts N par (goodA at_) k (pre ++ [j]))) (by omega) (by omega) (by omega) (by omega) (by rw [hke]; exact h3)
    have ex : exts N par (goodA at_) (k + 1) pre = (List.range' 0 N).flatMap fun x => bif allow par pre.length x && goodA at_ (pre ++ [x]) then exts N par (goodA at_) k (pre ++ [x]) else [] := by
      rw [exts, List.range_eq_range']
    obtain ⟨z, hz⟩ := key N 0 FU s (by omega) (by unfold FU; omega) h0 (by rw [← ex]; exact hb) hm
    rw [show ((0 : Nat) : Int) = 0 from rfl] at hz
    rw [hz, ← ex]
    rfl


def mx (c : Con) : Nat := (cS c).foldl max 0

def byMax (cs : List Con) (v : Nat) : List Con := cs.filter fun c => mx c == v

def atM (V : Nat) (cs : List Con) : List (List Con) := (List.range V).map (byMax cs)

theorem foldl_max_le (l : List Nat) : ∀ a : Nat, a ≤ l.foldl max a ∧ (∀ x ∈ l, x ≤ l.foldl max a) := by
  induction l with
  | nil => intro a; exact ⟨Nat.le_refl _, by simp⟩
  | cons y l ih =>
    intro a
    obtain ⟨h1, h2⟩ := ih (max a y)
    refine ⟨by rw [List.foldl_cons]; omega, fun x hx => ?_⟩
    rw [List.foldl_cons]
    rcases List.mem_cons.1 hx with rfl | hx
    · omega
    · exact h2 x hx

theorem foldl_max_lt {V : Nat} (l : List Nat) : ∀ a : Nat, a < V → (∀ x ∈ l, x < V) → l.foldl max a < V := by
  induction l with
  | nil => intro a h _; exact h
  | cons y l ih =>
    intro a h hx
    rw [List.foldl_cons]
    exact ih _ (by have := hx y (by simp); omega) (fun x h => hx x (by simp [h]))

theorem mx_lt {V N : Nat} {c : Con} (h : ConN V N c) : mx c < V := by
  have hk := h.rel.k1
  obtain ⟨x, hx⟩ : ∃ x, x ∈ cS c := ⟨(cS c)[0]'(by omega), List.getElem_mem _⟩
  have := h.lt x hx
  exact foldl_max_lt _ 0 (by omega) h.lt

theorem con_mx {V N : Nat} {c : Con} (h : ConN V N c) : ConN (mx c + 1) N c := ⟨h.rel, h.scope, fun x hx => by have := (foldl_max_le (cS c) 0).2 x hx; unfold mx; omega⟩

theorem set_range_map {α : Type} (V m : Nat) (f : Nat → α) (x : α) : ((List.range V).map f).set m x = (List.range V).map fun v => if v = m then x else f v := by
  apply List.ext_getElem
  · simp
  · intro i h1 h2
    simp only [List.length_map, List.length_range] at h2
    rw [List.getElem_set]
    simp only [List.getElem_map, List.getElem_range]
    by_cases h : m = i
    · subst h; simp
    · rw [if_neg h, if_neg (fun e => h e.symm)]

theorem byMax_snoc (cs : List Con) (c : Con) (v : Nat) : byMax (cs ++ [c]) v = if v = mx c then byMax cs v ++ [c] else byMax cs v := by
  unfold byMax
  rw [List.filter_append]
  by_cases h : v = mx c
  · rw [if_pos h]; simp [h]
  · rw [if_neg h]
    have : (mx c == v) = false := by simp; exact fun e => h e.symm
    simp [List.filter, this]

theorem l1Most_eq (a b : Int) : s_spec_l1Most a b = some (max a b) := by
  unfold s_spec_l1Most
  by_cases h : b < a
  · rw [show decide (b < a) = true by simp [h], cond_true, Int.max_eq_left (by omega)]
  · rw [show decide (b < a) = false by simp [h], cond_false, Int.max_eq_right (by omega)]

theorem max_cast (a b : Nat) : max (a : Int) (b : Int) = ((max a b : Nat) : Int) := by omega


theorem l19Most_eq {V N : Nat} {cs : List Con} (hV : V ≤ 9) (hl : cs.length ≤ 40) (hc : ∀ c ∈ cs, ConN V N c) : s_spec_l19Most (V : Int) cs = some (atM V cs) := by
  unfold s_spec_l19Most
  rw [mks_ok rfl (by omega), Option.bind_some]
  have hF := forC0_fn (R := List (List Con)) (step := fun k116 s114 =>
  (iter (S := Int × Int) (R := (List (List ((List Int) × (Int × (List (List Int))))))) (fun s137 =>
  (idx cs k116).bind fun x143 =>
  (bif (decide (s137.2 < (x143.1.length : Int))) then (idx cs k116).bind fun x149 =>
  (idx x149.1 s137.2).bind fun x154 =>
  (s_spec_l1Most s137.1 x154).bind fun r157 =>
  some (.nx (r157, w64 (s137.2 + 1))) else some (.br (s137.1, s137.2)))) FU (0, 0)).bind fun o141 => after o141 (fun r_ => some (.rt r_)) (fun s137 =>
  (idx s114 s137.1).bind fun x159 =>
  (idx cs k116).bind fun x163 =>
  (app x159 ([(x163.1, (x163.2.1, x163.2.2))])).bind fun y172 =>
  some (.nx (List.set s114 (Int.toNat s137.1) y172)))) (fun j => atM V (cs.take j)) (n := cs.length) (hi := (cs.length : Int)) (s := List.replicate V ([] : List Con)) rfl (by omega) ?_ ?_
  · rw [hF, Option.bind_some, after_br', List.take_length]
  · unfold atM byMax
    apply List.ext_getElem
    · simp
    · intro i h1 h2; simp
  · intro j hj
    have hcj := hc _ (List.getElem_mem hj)
    have hix : idx cs (j : Int) = some cs[j] := by rw [idx_nat, List.getElem?_eq_getElem]
    have hS : (cS cs[j]).length ≤ 3 := hcj.rel.k3
    have hm := mx_lt hcj
    simp only [hix, Option.bind_some]
    rw [iter_br (R := (List (List Con))) (fun t : Nat => (((((cS cs[j]).take t).foldl max 0 : Nat) : Int), (t : Int))) (t := (((mx cs[j] : Nat) : Int), ((cS cs[j]).length : Int))) (cS cs[j]).length (by omega)]
    · rw [Option.bind_some, after_br']
      simp only []
      have e1 : idx (atM V (cs.take j)) ((mx cs[j] : Nat) : Int) = some (byMax (cs.take j) (mx cs[j])) := by
        rw [idx_nat]; unfold atM; simp [hm]
      have hbl : (byMax (cs.take j) (mx cs[j])).length ≤ 40 := by
        unfold byMax
        refine Nat.le_trans (List.length_filter_le _ _) ?_
        rw [List.length_take]; omega
      rw [e1, Option.bind_some, app_ok (by simp; omega), Option.bind_some, Int.toNat_natCast]
      congr 2
      unfold atM
      rw [set_range_map, List.take_add_one, List.getElem?_eq_getElem hj]
      congr 1
      funext v
      show _ = byMax (cs.take j ++ [cs[j]]) v
      rw [byMax_snoc]
      by_cases h : v = mx cs[j]
      · rw [if_pos h, if_pos h, h]
      · rw [if_neg h, if_neg h]
    · rfl
    · intro t ht
      simp only []
      rw [hcj.scope, NL_len, show decide ((t : Int) < ((cS cs[j]).length : Int)) = true by simp; omega, cond_true, idx_NL ht, Option.bind_some, l1Most_eq, Option.bind_some, w64_add1 (by omega), max_cast]
      have e : ((cS cs[j]).take (t + 1)).foldl max 0 = max (((cS cs[j]).take t).foldl max 0) (ga (cS cs[j]) t) := by
        rw [List.take_add_one, List.getElem?_eq_getElem ht, ga_get ht, List.foldl_append]; rfl
      rw [e]
    · simp only []
      rw [hcj.scope, NL_len, show decide (((cS cs[j]).length : Int) < ((cS cs[j]).length : Int)) = false by simp, cond_false, List.take_length]; rfl


theorem relSet_eq {N k : Nat} {r : RelI} {L : List (List Nat)} (h8 : N ≤ 8) (h : RelN N k r L) : ∃ m, s_impl_tupleSet r = some m ∧ ∀ t : List Nat, (∀ x ∈ t, x < 65536) → (mget m (kkey t)).getD false = L.contains t := by
  have hk := h.k3
  have key : ∀ (X pre : List (List Nat)) (m : List (ByteArray × Bool)) (i : Int), (∀ t ∈ X, t.length = k ∧ ∀ x ∈ t, x < N) → SeenOk m pre → ∃ m', forR (S := (List (ByteArray × Bool))) (R := (List (ByteArray × Bool))) (fun _ x21 s18 =>
  (s_impl_keyOf x21).bind fun r30 =>
  some (.nx (mput s18 r30 true))) i (NLL X) m = some (.br m') ∧ SeenOk m' (pre ++ X) := by
    intro X
    induction X with
    | nil => intro pre m i _ h; exact ⟨m, rfl, by rw [List.append_nil]; exact h⟩
    | cons x X ih =>
      intro pre m i hx h
      obtain ⟨hxl, hxv⟩ := hx x (by simp)
      obtain ⟨m', e, h'⟩ := ih (pre ++ [x]) (mput m (kkey x) true) (i + 1) (fun y hy => hx y (by simp [hy])) (h.add (fun y hy => by have := hxv y hy; omega))
      refine ⟨m', ?_, by simpa using h'⟩
      rw [NLL_cons, forR_step (s' := mput m (kkey x) true) (by rw [keyOf_eq (by omega)]; rfl), e]
  obtain ⟨m, e, hs⟩ := key L [] [] 0 (fun t ht => ⟨h.rel.len t ht, h.lt t ht⟩) (fun T hT => by simp [mget])
  refine ⟨m, ?_, fun t ht => ?_⟩
  · rw [h.eq]
    unfold s_impl_tupleSet
    simp only
    rw [e]; rfl
  · rw [hs t ht]; simp

/-- The map of a constraint's tuples. -/
def tsC (c : Con) : List (ByteArray × Bool) := (s_impl_tupleSet c.2).getD []

theorem tsC_ok {V N : Nat} {c : Con} (h8 : N ≤ 8) (h : ConN V N c) : s_impl_tupleSet c.2 = some (tsC c) ∧ ∀ t : List Nat, (∀ x ∈ t, x < 65536) → (mget (tsC c) (kkey t)).getD false = (cL c).contains t := by
  obtain ⟨m, e, hm⟩ := relSet_eq h8 h.rel
  have : tsC c = m := by unfold tsC; rw [e]; rfl
  rw [this]; exact ⟨e, hm⟩


def scM (V : Nat) (cs : List Con) : List (List (List Int)) := (atM V cs).map fun l => l.map (·.1)

def stM (V : Nat) (cs : List Con) : List (List (List (ByteArray × Bool))) := (atM V cs).map fun l => l.map tsC

theorem atM_get {V v : Nat} {cs : List Con} (h : v < V) : (atM V cs)[v]? = some (byMax cs v) := by unfold atM; simp [h]

theorem atM_snoc {V : Nat} {cs : List Con} {c : Con} (h : mx c < V) : atM V (cs ++ [c]) = (atM V cs).set (mx c) (byMax cs (mx c) ++ [c]) := by
  unfold atM
  rw [set_range_map]
  congr 1
  funext v
  rw [byMax_snoc]
  by_cases h : v = mx c
  · rw [if_pos h, if_pos h, h]
  · rw [if_neg h, if_neg h]

theorem byMax_len (cs : List Con) (v : Nat) : (byMax cs v).length ≤ cs.length := List.length_filter_le _ _


theorem newNet_eq {net : Net} {V N : Nat} (h : NetN net V N) : s_impl_newNetSearch net = some (some ((N : Int), scM V net.2.2, stM V net.2.2)) := by
  have hV := h.v9
  have h40 := h.l40
  have h4 := h.n4
  unfold s_impl_newNetSearch
  rw [h.eV, mks_ok rfl (by omega), Option.bind_some, mks_ok rfl (by omega), Option.bind_some]
  have key : ∀ (l pre : List Con) (i : Int), pre ++ l = net.2.2 → forR (S := (List (List (List Int))) × (List (List (List (ByteArray × Bool))))) (R := (Option (Int × (List (List (List Int))) × (List (List (List (ByteArray × Bool))))))) (fun _ x256 s253 =>
  (forR (S := Int) (R := (Option (Int × (List (List (List Int))) × (List (List (List (ByteArray × Bool))))))) (fun _ x273 s270 =>
  some (.nx (max s270 x273))) 0 x256.1 0).bind fun o274 => after o274 (fun r_ => some (.rt r_)) (fun s270 =>
  (idx s253.1 s270).bind fun x278 =>
  (app x278 ([x256.1])).bind fun y286 =>
  (idx s253.2 s270).bind fun x332 =>
  (s_impl_tupleSet (x256.2.1, x256.2.2)).bind fun r337 =>
  (app x332 ([r337])).bind fun y343 =>
  some (.nx (List.set s253.1 (Int.toNat s270) y286, List.set s253.2 (Int.toNat s270) y343)))) i l (scM V pre, stM V pre) = some (.br (scM V (pre ++ l), stM V (pre ++ l))) := by
    intro l
    induction l with
    | nil => intro pre i _; rw [List.append_nil]; rfl
    | cons c l ih =>
      intro pre i hpre
      have hc : ConN V N c := h.con c (by rw [← hpre]; simp)
      have hm := mx_lt hc
      have hpl : pre.length ≤ 40 := by have := congrArg List.length hpre; simp at this; omega
      rw [forR_step (s' := (scM V (pre ++ [c]), stM V (pre ++ [c])))]
      · rw [ih (pre ++ [c]) (i + 1) (by rw [← hpre]; simp)]; simp
      · have hmx : forR (S := Int) (R := (Option (Int × (List (List (List Int))) × (List (List (List (ByteArray × Bool))))))) (fun _ x273 s270 => some (.nx (max s270 x273))) 0 c.1 0 = some (.br ((mx c : Nat) : Int)) := by
          rw [hc.scope, forR_fold (fun s x => max s x) 0 _ _ (fun _ _ _ _ => rfl)]
          have : ∀ (S : List Nat) (a : Nat), (NL S).foldl (fun s x => max s x) (a : Int) = ((S.foldl max a : Nat) : Int) := by
            intro S
            induction S with
            | nil => intro a; rfl
            | cons y S ihS => intro a; rw [List.foldl_cons, ← ihS]; show List.foldl _ (max (a : Int) (y : Int)) (NL S) = _; rw [max_cast]
          have e := this (cS c) 0
          rw [show ((0 : Nat) : Int) = 0 from rfl] at e
          rw [e]; rfl
        have e1 : idx (scM V pre) ((mx c : Nat) : Int) = some ((byMax pre (mx c)).map (·.1)) := by
          rw [idx_nat]; unfold scM; rw [List.getElem?_map, atM_get hm]; rfl
        have e2 : idx (stM V pre) ((mx c : Nat) : Int) = some ((byMax pre (mx c)).map tsC) := by
          rw [idx_nat]; unfold stM; rw [List.getElem?_map, atM_get hm]; rfl
        have hbl := byMax_len pre (mx c)
        have e3 : s_impl_tupleSet (c.2.1, c.2.2) = some (tsC c) := (tsC_ok (by omega) hc).1
        rw [hmx, Option.bind_some, after_br']
        simp only []
        rw [e1, Option.bind_some, app_ok (by simp; omega), Option.bind_some, e2, Option.bind_some, e3, Option.bind_some, app_ok (by simp; omega), Option.bind_some, Int.toNat_natCast]
        congr 2
        unfold scM stM
        rw [atM_snoc hm, List.map_set, List.map_set]
        simp
  have h0 := key net.2.2 [] 0 rfl
  have i1 : scM V [] = List.replicate V [] := by
    unfold scM atM byMax
    apply List.ext_getElem
    · simp
    · intro i h1 h2; simp
  have i2 : stM V [] = List.replicate V [] := by
    unfold stM atM byMax
    apply List.ext_getElem
    · simp
    · intro i h1 h2; simp
  rw [i1, i2, List.nil_append] at h0
  rw [h0, Option.bind_some, after_br', h.eN]


/-- The check of the program. -/
def okN {β : Type} (sc : List (List (List Int))) (st : List (List (List (ByteArray × Bool)))) (vals : List Int) (v : Int) : Option Bool :=
  (idx sc v).bind fun x170 =>
  (forC (S := Bool) (R := Bool × (List Int) × β) (fun k195 s193 =>
  (idx x170 k195).bind fun x199 =>
  (bif s193 then (idx st v).bind fun x205 =>
  (idx x205 k195).bind fun x209 =>
  (s_impl_compose x199 vals).bind fun r214 =>
  (s_impl_keyOf r214).bind fun r217 =>
  some (.nx ((mget x209 r217).getD false)) else some (.nx false))) 0 (x170.length : Int) true).bind fun o => after o (fun _ => none) (fun s => some s)

theorem forI_nx {S R : Type} {step : Int → S → Option (Ctl S R)} (h : ∀ k s o, step k s = some o → ∃ s', o = .nx s') : ∀ (n : Nat) (i : Int) (s : S), forI step n i s = none ∨ ∃ s', forI step n i s = some (.br s')
  | 0, i, s => .inr ⟨s, rfl⟩
  | n + 1, i, s => by
    unfold forI
    cases e : step i s with
    | none => exact .inl rfl
    | some o =>
      obtain ⟨s', rfl⟩ := h _ _ _ e
      exact forI_nx h n (i + 1) s'

theorem forC_nx {S R : Type} {step : Int → S → Option (Ctl S R)} (h : ∀ k s o, step k s = some o → ∃ s', o = .nx s') (lo hi : Int) (s : S) : forC step lo hi s = none ∨ ∃ s', forC step lo hi s = some (.br s') := by
  unfold forC
  cases (decide (-9223372036854775808 ≤ lo) && decide (hi ≤ 9223372036854775807)) with
  | false => exact .inl rfl
  | true => exact forI_nx h _ _ _

theorem okN_bind {β γ : Type} (sc : List (List (List Int))) (st : List (List (List (ByteArray × Bool)))) (vals : List Int) (v : Int) (K : Bool → Option γ) (kr : Bool × (List Int) × β → Option γ) :
    ((idx sc v).bind fun x170 =>
  (forC (S := Bool) (R := Bool × (List Int) × β) (fun k195 s193 =>
  (idx x170 k195).bind fun x199 =>
  (bif s193 then (idx st v).bind fun x205 =>
  (idx x205 k195).bind fun x209 =>
  (s_impl_compose x199 vals).bind fun r214 =>
  (s_impl_keyOf r214).bind fun r217 =>
  some (.nx ((mget x209 r217).getD false)) else some (.nx false))) 0 (x170.length : Int) true).bind fun o => after o kr K) = (okN (β := β) sc st vals v).bind K := by
  unfold okN
  cases idx sc v with
  | none => rfl
  | some x170 =>
    simp only [Option.bind_some]
    rcases forC_nx (S := Bool) (R := Bool × (List Int) × β) (step := fun k195 s193 =>
  (idx x170 k195).bind fun x199 =>
  (bif s193 then (idx st v).bind fun x205 =>
  (idx x205 k195).bind fun x209 =>
  (s_impl_compose x199 vals).bind fun r214 =>
  (s_impl_keyOf r214).bind fun r217 =>
  some (.nx ((mget x209 r217).getD false)) else some (.nx false))) (by
      intro k s o ho
      cases s with
      | false =>
        obtain ⟨x, _, ho⟩ := bind_some ho
        simp only [cond_false] at ho; cases ho; exact ⟨_, rfl⟩
      | true =>
        obtain ⟨x, _, ho⟩ := bind_some ho
        simp only [cond_true] at ho
        obtain ⟨x, _, ho⟩ := bind_some ho
        obtain ⟨x, _, ho⟩ := bind_some ho
        obtain ⟨x, _, ho⟩ := bind_some ho
        obtain ⟨x, _, ho⟩ := bind_some ho
        cases ho; exact ⟨_, rfl⟩) 0 (x170.length : Int) true with h | ⟨s', h⟩ <;> rw [h] <;> rfl


theorem sat_take {N n : Nat} {c : Con} {W : List Nat} (h : ConN n N c) : sat c (W.take n) = sat c W := by
  unfold sat
  congr 1
  refine List.map_congr_left fun x hx => ?_
  have := h.lt x hx
  unfold ga
  rw [List.getD_eq_getElem?_getD, List.getD_eq_getElem?_getD, List.getElem?_take, if_pos this]


theorem okN_eq {β : Type} {net : Net} {V N : Nat} (h : NetN net V N) {W : List Nat} {v : Nat} (hW : W.length = V) (hv : v < V) (hx : ∀ x ∈ W.take (v + 1), x < N) :
    okN (β := β) (scM V net.2.2) (stM V net.2.2) (NL W) (v : Int) = some (goodA (atM V net.2.2) (W.take (v + 1))) := by
  have h4 := h.n4
  have h40 := h.l40
  have h9 := h.v9
  unfold okN
  have e1 : idx (scM V net.2.2) (v : Int) = some ((byMax net.2.2 v).map (·.1)) := by
    rw [idx_nat]; unfold scM; rw [List.getElem?_map, atM_get hv]; rfl
  have e2 : idx (stM V net.2.2) (v : Int) = some ((byMax net.2.2 v).map tsC) := by
    rw [idx_nat]; unfold stM; rw [List.getElem?_map, atM_get hv]; rfl
  rw [e1, Option.bind_some]
  simp only [e2, Option.bind_some]
  generalize hcs : byMax net.2.2 v = cs
  have hcc : ∀ c ∈ cs, ConN (v + 1) N c := fun c hc => by
    rw [← hcs] at hc
    unfold byMax at hc
    rw [List.mem_filter] at hc
    have := con_mx (h.con c hc.1)
    have e : mx c = v := by simpa using hc.2
    rwa [e] at this
  have hcl : cs.length ≤ 40 := by have := byMax_len net.2.2 v; rw [hcs] at this; omega
  have hlen : (W.take (v + 1)).length = v + 1 := by rw [List.length_take]; omega
  have hg : goodA (atM V net.2.2) (W.take (v + 1)) = cs.all fun c => sat c W := by
    unfold goodA
    rw [hlen, show v + 1 - 1 = v by omega, List.getD_eq_getElem?_getD, atM_get hv, hcs]
    show (cs.all fun c => sat c (W.take (v + 1))) = _
    rw [Bool.eq_iff_iff, List.all_eq_true, List.all_eq_true]
    exact ⟨fun H c hc => by rw [← sat_take (hcc c hc)]; exact H c hc, fun H c hc => by rw [sat_take (hcc c hc)]; exact H c hc⟩
  rw [hg]
  have hF := forC0_fn (R := Bool × (List Int) × β) (step := fun k195 s193 =>
  (idx (cs.map (·.1)) k195).bind fun x199 =>
  (bif s193 then (idx (cs.map tsC) k195).bind fun x209 =>
  (s_impl_compose x199 (NL W)).bind fun r214 =>
  (s_impl_keyOf r214).bind fun r217 =>
  some (.nx ((mget x209 r217).getD false)) else some (.nx false))) (fun j => (cs.take j).all fun c => sat c W) (n := cs.length) (hi := ((cs.map (·.1)).length : Int)) (s := true) (by simp) (by omega) rfl ?_
  · rw [hF, Option.bind_some, after_br', List.take_length]
  · intro j hj
    have hcj := hcc _ (List.getElem_mem hj)
    have hk := hcj.rel.k3
    rw [idx_nat, List.getElem?_map, List.getElem?_eq_getElem hj]
    simp only [Option.map_some, Option.bind_some]
    have hsn : ((cs.take (j + 1)).all fun c => sat c W) = (((cs.take j).all fun c => sat c W) && sat cs[j] W) := by
      rw [List.take_add_one, List.getElem?_eq_getElem hj, List.all_append]; simp
    rw [hsn]
    cases (cs.take j).all fun c => sat c W with
    | false => simp
    | true =>
      simp only [cond_true, Bool.true_and]
      rw [idx_nat, List.getElem?_map, List.getElem?_eq_getElem hj]
      simp only [Option.map_some, Option.bind_some]
      rw [hcj.scope, compose_eq (fun x hx => by have := hcj.lt x hx; omega) (by omega), Option.bind_some, keyOf_eq (by simp; omega), Option.bind_some]
      rw [(tsC_ok (by omega) hcj).2 _ (fun y hy => by
        obtain ⟨x, hx', rfl⟩ := List.mem_map.1 hy
        have h1 := hcj.lt x hx'
        have h2 : ga W x = ga (W.take (v + 1)) x := by
          unfold ga
          rw [List.getD_eq_getElem?_getD, List.getD_eq_getElem?_getD, List.getElem?_take, if_pos h1]
        have := hx _ (ga_mem (T := W.take (v + 1)) (k := x) (by omega))
        rw [h2]; omega)]
      rfl


theorem freeTable_eq {V : Nat} (hV : V ≤ 1000) : s_impl_freeTable (V : Int) = some (List.replicate V (-1)) := by
  unfold s_impl_freeTable
  rw [mks_ok rfl (by omega), Option.bind_some, forC0_set (fun _ => (-1 : Int)) (z := 0) (n := V) (by simp) (by omega) rfl]
  · rw [Option.bind_some, after_br']
    congr 1
    apply List.ext_getElem
    · simp
    · intro i h1 h2; simp
  · intro j s hj hs
    rw [idx_nat, List.getElem?_eq_getElem (by omega), Option.bind_some, Int.toNat_natCast]

theorem l14Free_eq {V : Nat} (hV : V ≤ 1000) : s_spec_l14Free (V : Int) = some (List.replicate V (-1)) := by
  unfold s_spec_l14Free
  rw [forC0_app (fun _ => (-1 : Int)) (n := V) rfl (by omega)]
  · rw [Option.bind_some, after_br']
    congr 1
    apply List.ext_getElem
    · simp
    · intro i h1 h2; simp
  · intro j s hj hs; rfl

theorem pow_net {N V : Nat} (hN : N ≤ 4) (hV : V ≤ 9) : N ^ V ≤ 262144 := by
  calc N ^ V ≤ 4 ^ V := Nat.pow_le_pow_left hN V
    _ ≤ 4 ^ 9 := Nat.pow_le_pow_right (by omega) hV
    _ = 262144 := by decide

/-- The solutions, in order. -/
def sols (V N : Nat) (cs : List Con) (par : List Int) : List (List Nat) := exts N par (goodA (atM V cs)) V []

theorem sols_count {V N : Nat} {cs : List Con} {par : List Int} (hN : N ≤ 4) (hV : V ≤ 9) : (sols V N cs par).length ≤ 262144 := Nat.le_trans (exts_count _ _) (pow_net hN hV)

theorem findS {V N : Nat} {net : Net} {cs : List Con} {par : List Int} {most : Int} {one : Bool} (eV : net.1 = (V : Int)) (eN : net.2.1 = (N : Int)) (hV : V ≤ 9) (hN : N ≤ 4) (hl : cs.length ≤ 40) (hc : ∀ c ∈ cs, ConN V N c) (hp : par.length = V) (hm : most ≤ 1000) :
    s_spec_l19Find (net.1, net.2.1, net.2.2) cs par most one = some ((sols V N cs par).foldl lfS ([], 0, most, one)) := by
  unfold s_spec_l19Find
  rw [eV, l19Most_eq hV hl hc, Option.bind_some]
  simp only [eN]
  have hcnt := sols_count (cs := cs) (par := par) hN hV
  have := l19Go_eq (N := N) (V := V) (at_ := atM V cs) (par := par) hV hN (by unfold atM; simp) hp (fun v cs' hv => by
    have hvV : v < V := by
      have := (List.getElem?_eq_some_iff.1 hv).1
      unfold atM at this; simpa using this
    rw [atM_get hvV] at hv
    obtain rfl := Option.some.inj hv
    refine ⟨by have := byMax_len cs v; omega, fun c hc' => ?_⟩
    unfold byMax at hc'
    rw [List.mem_filter] at hc'
    have h1 := con_mx (hc c hc'.1)
    have e : mx c = v := by simpa using hc'.2
    rwa [e] at h1) V FU [] ([], 0, most, one) (by simp) (by unfold FU; omega) (by simp) (by simp) (by show (0 : Int) + ((sols V N cs par).length : Int) ≤ _; omega) (by simpa using hm)
  have e : s_spec_l19Go__take4 FU (N : Int) (atM V cs) par [] ([], 0, most, one) = some ((sols V N cs par).foldl lfS ([], 0, most, one)) := this
  rw [e]; rfl

theorem lf_one {l : List (List Nat)} : (l.foldl lfS ([], 0, 1, true)) = match l with | [] => ([], 0, 1, true) | x :: _ => ([NL x], 1, 1, true) := by
  cases l with
  | nil => rfl
  | cons x l =>
    rw [List.foldl_cons]
    have : lfS ([], 0, 1, true) x = ([NL x], 1, 1, true) := rfl
    rw [this]
    exact lfF_stop rfl l


/-- The program's search, for an end that is known. -/
theorem eachN {β : Type} {net : Net} {V N : Nat} (h : NetN net V N) {par : List Int} (hp : par.length = V) (I : β → Prop) {cb : List Int → β → Option (Bool × β)} {cb' : List Nat → β → Bool × β}
    (hcb : ∀ (W : List Nat) (b : β), W.length = V → (∀ x ∈ W, x < N) → I b → cb (NL W) b = some (cb' W b) ∧ ((cb' W b).1 = true → I (cb' W b).2)) {b : β} (hb : I b) :
    ∃ W', eachG (okN (β := β) (scM V net.2.2) (stM V net.2.2)) cb (N : Int) par FU 0 (List.replicate V 0) b = some ((foldB cb' (sols V N net.2.2 par) b).1, W', (foldB cb' (sols V N net.2.2 par) b).2) := by
  have h9 := h.v9
  have h4 := h.n4
  obtain ⟨W', _, _, e, _⟩ := eachG_eq (ok := okN (β := β) (scM V net.2.2) (stM V net.2.2)) (cb := cb) (cb' := cb') (N := N) (V := V) (par := par) (good := goodA (atM V net.2.2)) I (by omega) (by omega) hp
    (fun W v hW hv hx => okN_eq h hW hv hx) hcb V 0 FU (List.replicate V 0) b (by omega) (by unfold FU; omega) (by simp) (by simp) hb
  refine ⟨NL W', ?_⟩
  have e0 : NL (List.replicate V 0) = List.replicate V (0 : Int) := by unfold NL; simp
  rw [e0] at e
  exact e


/-- Both guards of a network; a network that passes them, by its parts. -/
theorem net_two (net : Net) (hb : BN net) : (∃ (V N : Nat) (cs : List Con), net = ((V : Int), (N : Int), cs) ∧ NetN ((V : Int), (N : Int), cs) V N ∧ s_spec_l19Good ((V : Int), (N : Int), cs) = some true ∧ s_impl_IsNetwork ((V : Int), (N : Int), cs) = some true) ∨
    (s_spec_l19Good (net.1, net.2.1, net.2.2) = some false ∧ s_impl_IsNetwork (net.1, net.2.1, net.2.2) = some false) := by
  rcases net_cases net hb with ⟨V, N, hn, e1, e2⟩ | ⟨_, e1, e2⟩
  · obtain ⟨n1, n2, cs⟩ := net
    obtain rfl : n1 = (V : Int) := hn.eV
    obtain rfl : n2 = (N : Int) := hn.eN
    exact .inl ⟨V, N, cs, rfl, hn, e1, e2⟩
  · exact .inr ⟨e1, e2⟩

theorem one_some {V N : Nat} {cs : List Con} {par : List Int} : decide (0 < ((sols V N cs par).foldl lfS ([], 0, 1, true)).2.1) = !(sols V N cs par).isEmpty := by
  rw [lf_one]
  cases sols V N cs par <;> rfl



theorem each_first (n : Int) (sc : List (List (List Int))) (st : List (List (List (ByteArray × Bool)))) (par : List Int) : ∀ (fu : Nat) (v : Int) (vals : List Int) (b : Option (List Int)),
    s_impl_netSearch__each_1__firstSolution_1 fu v vals b (n, sc, st) par = eachG (okN (β := Option (List Int)) sc st) s_impl_firstSolution_1__g n par fu v vals b := by
  intro fu
  induction fu with
  | zero => intro v vals b; rfl
  | succ fu ih =>
    intro v vals b
    simp only [s_impl_netSearch__each_1__firstSolution_1, eachG, ih, okN_bind]
    rfl

def hd? : List (List Nat) → Option (List Int)
  | [] => none
  | x :: _ => some (NL x)

theorem firstSolution_eq {V N : Nat} {cs : List Con} {par : List Int} (hn : NetN ((V : Int), (N : Int), cs) V N) (hp : par.length = V) : s_impl_firstSolution ((V : Int), (N : Int), cs) par = some (hd? (sols V N cs par)) := by
  have h9 := hn.v9
  have f2 := newNet_eq hn
  obtain ⟨W', f3⟩ := eachN (β := Option (List Int)) hn (par := par) hp (fun _ => True) (cb := s_impl_firstSolution_1__g) (cb' := fun W _ => (false, some (NL W))) (fun W b hW _ _ => ⟨by
    unfold s_impl_firstSolution_1__g
    rw [clone_eq (by simp; omega)]; rfl, fun h => by cases h⟩) (b := none) trivial
  simp only [] at f3
  unfold s_impl_firstSolution s_impl_netSearch__each__firstSolution_1
  simp only [f2, Option.bind_some, mks_ok (k := V) (n := (par.length : Int)) (by rw [hp]) (by omega), each_first, f3]
  cases sols V N cs par <;> rfl

theorem all_gi {par : List Int} {p : Int → Bool} : ((List.range par.length).all fun j : Nat => p (gi par (j : Int))) = par.all p := by
  rw [Bool.eq_iff_iff, List.all_eq_true, List.all_eq_true]
  constructor
  · intro h x hx
    obtain ⟨j, hj, rfl⟩ := List.mem_iff_getElem.1 hx
    have := h j (List.mem_range.2 hj)
    rwa [gi_getElem hj] at this
  · intro h j hj
    have hj := List.mem_range.1 hj
    exact h _ (gi_mem (by omega) (by omega))

def steps (l : List Int) : Bool := (List.range (l.length - 1)).all fun j : Nat => decide (gi l (j : Int) < gi l ((j + 1 : Nat) : Int))

theorem rises_eq (l : List Int) (hl : l.length ≤ 1048576) : s_impl_rises l = some (steps l) := by
  unfold s_impl_rises steps
  have hst : ∀ j : Nat, 0 ≤ j → j < 0 + (l.length - 1) → ((fun (k10 : Int) (s8 : Unit) => (idx l (w64 (k10 - 1))).bind fun x15 => (idx l k10).bind fun x17 => (bif (decide (x17 ≤ x15)) then some (Ctl.rt (S := Unit) false) else some (.nx ()))) (1 + (j : Int)) ()) = some (bif decide (gi l (j : Int) < gi l ((j + 1 : Nat) : Int)) then .nx () else .rt false) := by
    intro j _ hj
    simp only []
    rw [show (1 : Int) + (j : Int) - 1 = (j : Int) by omega, w64_id (by omega) (by omega), idx_gi (by omega) (by omega), Option.bind_some, show (1 : Int) + (j : Int) = ((j + 1 : Nat) : Int) by omega, idx_gi (by omega) (by omega), Option.bind_some]
    by_cases h : gi l (j : Int) < gi l ((j + 1 : Nat) : Int)
    · rw [decide_eq_false (show ¬ gi l ((j + 1 : Nat) : Int) ≤ gi l (j : Int) by omega), decide_eq_true h]; rfl
    · rw [decide_eq_true (show gi l ((j + 1 : Nat) : Int) ≤ gi l (j : Int) by omega), decide_eq_false h]; rfl
  have := forI_chk (S := Unit) (R := Bool) (step := fun k10 s8 => (idx l (w64 (k10 - 1))).bind fun x15 => (idx l k10).bind fun x17 => (bif (decide (x17 ≤ x15)) then some (.rt false) else some (.nx ()))) (fun j : Nat => decide (gi l (j : Int) < gi l ((j + 1 : Nat) : Int))) false () 1 (l.length - 1) 0 hst
  unfold forC
  rw [show decide (-9223372036854775808 ≤ (1 : Int)) = true by decide, show decide ((l.length : Int) ≤ 9223372036854775807) = true by simp; omega, Bool.and_true, cond_true, show ((l.length : Int) - 1).toNat = l.length - 1 by omega]
  rw [show (1 : Int) + ((0 : Nat) : Int) = 1 by omega] at this
  rw [this, List.range_eq_range']
  cases (List.range' 0 (l.length - 1)).all fun j : Nat => decide (gi l (j : Int) < gi l ((j + 1 : Nat) : Int)) <;> rfl

def rsng (n : Int) (l : List Int) : Bool := (List.range l.length).all fun j : Nat => (decide (0 ≤ gi l (j : Int)) && decide (gi l (j : Int) ≤ n - 1)) && (decide (j = 0) || decide (gi l ((j - 1 : Nat) : Int) < gi l (j : Int)))

theorem l1Rising_eq (l : List Int) {n : Int} (hl : l.length ≤ 1048576) : s_spec_l1Rising l 0 (n - 1) = some (rsng n l) := by
  unfold s_spec_l1Rising rsng
  rw [forC0_chk (fun j : Nat => (decide (0 ≤ gi l (j : Int)) && decide (gi l (j : Int) ≤ n - 1)) && (decide (j = 0) || decide (gi l ((j - 1 : Nat) : Int) < gi l (j : Int)))) false (n := l.length) rfl (by omega)]
  · cases (List.range l.length).all _ <;> rfl
  · intro j hj
    rw [idx_gi (by omega) (by omega), Option.bind_some, l1In_eq, Option.bind_some]
    cases (decide (0 ≤ gi l (j : Int)) && decide (gi l (j : Int) ≤ n - 1)) with
    | false => rfl
    | true =>
      simp only [Bool.not_true, cond_false, Bool.true_and]
      by_cases h0 : j = 0
      · subst h0; simp
      · rw [show decide ((0 : Int) < (j : Int)) = true by simp; omega, cond_true, show decide (j = 0) = false by simpa using h0, Bool.false_or, show ((j : Int) - 1) = ((j - 1 : Nat) : Int) by omega, w64_id (by omega) (by omega), idx_gi (by omega) (by omega), Option.bind_some, Option.bind_some]
        by_cases h : gi l ((j - 1 : Nat) : Int) < gi l (j : Int)
        · rw [show decide (gi l (j : Int) ≤ gi l ((j - 1 : Nat) : Int)) = false by simp; omega, show decide (gi l ((j - 1 : Nat) : Int) < gi l (j : Int)) = true by simpa using h]; rfl
        · rw [show decide (gi l (j : Int) ≤ gi l ((j - 1 : Nat) : Int)) = true by simp; omega, show decide (gi l ((j - 1 : Nat) : Int) < gi l (j : Int)) = false by simpa using h]; rfl

theorem rsng_eq (n : Int) (l : List Int) : rsng n l = (steps l && l.all fun x => decide (0 ≤ x) && decide (x < n)) := by
  rw [← all_gi, Bool.eq_iff_iff]
  unfold rsng steps
  simp only [List.all_eq_true, List.mem_range, Bool.and_eq_true, Bool.or_eq_true, decide_eq_true_eq]
  constructor
  · intro h
    refine ⟨fun j hj => ?_, fun j hj => ?_⟩
    · have := (h (j + 1) (by omega)).2
      rcases this with h1 | h1
      · omega
      · simpa using h1
    · have := (h j hj).1; omega
  · rintro ⟨h1, h2⟩ j hj
    have := h2 j hj
    refine ⟨by omega, ?_⟩
    by_cases h0 : j = 0
    · exact .inl h0
    · right
      have := h1 (j - 1) (by omega)
      rwa [show j - 1 + 1 = j by omega] at this

theorem rsng_len {n : Nat} {l : List Int} (h : rsng (n : Int) l = true) : l.length ≤ n := by
  unfold rsng at h
  simp only [List.all_eq_true, List.mem_range, Bool.and_eq_true, Bool.or_eq_true, decide_eq_true_eq] at h
  have key : ∀ j, j < l.length → (j : Int) ≤ gi l (j : Int) := by
    intro j
    induction j with
    | zero => intro hj; have := (h 0 hj).1; omega
    | succ j ih =>
      intro hj
      have h1 := ih (by omega)
      have h2 := (h (j + 1) hj).2
      rcases h2 with h2 | h2
      · omega
      · rw [show j + 1 - 1 = j by omega] at h2; omega
  cases hc : l.length with
  | zero => omega
  | succ k =>
    have h1 := key k (by omega)
    have h2 := (h k (by omega)).1
    omega

theorem IsConflict_same (net : Net) (v : List Int) (hb : BN net) (hv : B1 v) : ∃ z, s_spec_IsConflict (net.1, net.2.1, net.2.2) v = some z ∧ s_impl_IsConflict (net.1, net.2.1, net.2.2) v = some z := by
  have hv' : v.length ≤ 1048576 := hv
  unfold s_spec_IsConflict s_impl_IsConflict
  rcases net_two net hb with ⟨V, N, cs, rfl, hn, e1, e2⟩ | ⟨e1, e2⟩
  · have h9 := hn.v9
    have h4 := hn.n4
    have h40 : cs.length ≤ 40 := hn.l40
    have f0 : s_spec_l1Rising v 0 (w64 ((cs.length : Int) - 1)) = some (rsng (cs.length : Int) v) := by
      rw [w64_id (by omega) (by omega)]; exact l1Rising_eq v hv'
    simp only [e1, e2, Option.bind_some, Bool.not_true, cond_false, f0, rises_eq v hv', inSize_eq]
    have hg : (bif !steps v then some true else some (!(v.all fun x => decide (0 ≤ x) && decide (x < (cs.length : Int)))) : Option Bool) = some (!rsng (cs.length : Int) v) := by
      rw [rsng_eq]
      cases steps v <;> simp
    simp only [hg, Option.bind_some]
    cases hr : rsng (cs.length : Int) v with
    | false => exact ⟨_, rfl, rfl⟩
    | true =>
      simp only [Bool.not_true, cond_false]
      have hvl := rsng_len hr
      rw [rsng_eq, Bool.and_eq_true] at hr
      have hin := List.all_eq_true.1 hr.2
      have hix : ∀ x ∈ v, idx cs x = some (gi cs x) ∧ gi cs x ∈ cs := fun x hx => by
        have := hin x hx
        simp only [Bool.and_eq_true, decide_eq_true_eq] at this
        exact ⟨idx_gi this.1 this.2, gi_mem this.1 this.2⟩
      have p1 : forC (S := (List ((List Int) × (Int × (List (List Int)))))) (R := Bool × Bool) (fun k50 s48 =>
          (idx v k50).bind fun x61 =>
          (idx cs x61).bind fun x63 =>
          (app s48 ([(x63.1, (x63.2.1, x63.2.2))])).bind fun y72 =>
          some (.nx y72)) 0 (v.length : Int) [] = some (.br (v.map (gi cs))) := by
        rw [forC0_app (fun j => gi cs (gi v (j : Int))) (n := v.length) rfl (by omega)]
        · congr 2
          apply List.ext_getElem
          · simp
          · intro i h1 h2
            simp only [List.length_map, List.length_range] at h1
            simp [gi_getElem h1]
        · intro j s hj hs
          rw [idx_gi (by omega) (by omega), Option.bind_some, (hix _ (gi_mem (by omega) (by omega))).1, Option.bind_some]
      have ef : ∀ l : List Int, (l.flatMap fun x => [gi cs x]) = l.map (gi cs) := by
        intro l
        induction l with
        | nil => rfl
        | cons x l ih => rw [List.flatMap_cons, ih]; rfl
      have p2 : s_impl_partOf ((V : Int), (N : Int), cs) v = some ((V : Int), (N : Int), v.map (gi cs)) := by
        unfold s_impl_partOf
        rw [forR_flat (fun x => [gi cs x]) 0 v [] (fun i pre post x e => by
          have hx : x ∈ v := by rw [e]; simp
          have hpl : pre.length ≤ v.length := by rw [e]; simp
          simp only []
          rw [(hix x hx).1, Option.bind_some, ef, List.nil_append, app_ok (by simp; omega), Option.bind_some])]
        rw [ef, Option.bind_some, after_br', List.nil_append]
      have hn' : NetN ((V : Int), (N : Int), v.map (gi cs)) V N := ⟨rfl, rfl, h9, hn.n1, h4, by simp; omega, fun c hc => by
        obtain ⟨x, hx, rfl⟩ := List.mem_map.1 hc
        exact hn.con _ (hix x hx).2⟩
      have f1 : s_spec_l19Find ((V : Int), (N : Int), cs) (v.map (gi cs)) (List.replicate V (-1)) 1 true = _ := findS (net := ((V : Int), (N : Int), cs)) rfl rfl h9 h4 hn'.l40 hn'.con (by simp) (by omega)
      have f2 := firstSolution_eq hn' (par := List.replicate V (-1)) (by simp)
      unfold s_spec_l19Can s_impl_solvable
      simp only [p1, p2, Option.bind_some, after_br', l14Free_eq (V := V) (by omega), freeTable_eq (V := V) (by omega), f1, f2, one_some]
      refine ⟨_, rfl, ?_⟩
      cases sols V N (v.map (gi cs)) (List.replicate V (-1)) <;> rfl
  · simp only [e1, e2, Option.bind_some, Bool.not_false, cond_true]
    exact ⟨_, rfl, rfl⟩

theorem s_laws_FnExactIsConflict_ok (net : Net) (v : List Int) (hn : OkP OkI (OkP OkI (OkL (OkP (OkL OkI) (OkP OkI (OkL (OkL OkI)))))) net) (_ : OkL OkI v) : s_laws_FnExactIsConflict net v = some true := by
  unfold s_laws_FnExactIsConflict
  by_cases hl : (1048576 : Int) < v.length
  · simp [hl]
  have hv1 : B1 v := by unfold B1; omega
  rw [show decide ((1048576 : Int) < v.length) = false by simpa using hl, cond_false]
  obtain ⟨u, hu, hb⟩ := OkNet.sz hn 1048576 (by omega) (by omega)
  have hu : s_laws_szNetwork (net.1, net.2.1, net.2.2) 1048576 = some u := hu
  rw [hu, Option.bind_some]
  by_cases hneg : u < 0
  · rw [show decide (u < 0) = true by simpa using hneg]; rfl
  rcases hb with hb | ⟨hb, _, _⟩
  · exact absurd hb hneg
  have e1 : s_laws_toNetwork (net.1, net.2.1, net.2.2) = some net := toNetwork_ok net hb
  have e2 : s_laws_eqNetwork (net.1, net.2.1, net.2.2) (net.1, net.2.1, net.2.2) = some true := eqNetwork_refl net hb
  obtain ⟨z, z1, z2⟩ := IsConflict_same net v hb hv1
  simp only [show decide (u < 0) = false by simpa using hneg, cond_false, e1, e2, toIntS_ok v hv1, eqIntS_refl v hv1, Option.bind_some, z1, z2, beq_self_eq_true, bne_self_eq_false, Bool.not_true, Bool.or_false]

end Go.Proofs
