/- Plain lemmas on what the functions compute, up to: the law gives true. No conditions. -/
import Derived.Test.YtceenhnjdnggjaaF3
import Derived.Test.YtceenhnjdnggjaaGPure
import Derived.Test.YtceenhnjdnggjaaGOpen
import Derived.Test.YtceenhnjdnggjaaGLoop
set_option linter.unusedVariables false
namespace Go.Proofs
open Go.G
set_option maxRecDepth 100000

theorem eqIntS_eq (a b : List Int) (ha : a.length ≤ 4294967296) : s_laws_eqIntS a b = some (a == b) := by
  unfold s_laws_eqIntS
  by_cases hl : a.length = b.length
  · rw [hl]
    simp only [bne_self_eq_false, cond_false]
    rw [forC0_chk (n := b.length) (fun j => a[j]? == b[j]?) false rfl (by omega)]
    · have : (a == b) = (List.range b.length).all (fun j => a[j]? == b[j]?) := by
        rw [Bool.eq_iff_iff]
        simp only [beq_iff_eq, List.all_eq_true, List.mem_range]
        constructor
        · rintro rfl j _; rfl
        · intro h; apply List.ext_getElem?; intro j
          by_cases hj : j < b.length
          · exact h j hj
          · rw [List.getElem?_eq_none (by omega), List.getElem?_eq_none (by omega)]
      rw [← this]
      cases a == b <;> rfl
    · intro j hj
      have hj' : j < a.length := by omega
      simp only [idx_nat, List.getElem?_eq_getElem hj, List.getElem?_eq_getElem hj', Option.bind_some]
      by_cases h : a[j] = b[j]
      · simp [h]
      · simp [bne, beq_eq_false_iff_ne.2 h]
  · have h1 : (a == b) = false := by
      rw [Bool.eq_false_iff]; intro h; exact hl (by rw [beq_iff_eq.1 h])
    have h2 : ((a.length : Int) != (b.length : Int)) = true := by simp; omega
    rw [h1, h2]; rfl

theorem toIntS_eq (a : List Int) (ha : a.length ≤ 4294967296) : s_laws_toIntS a = some a := by
  unfold s_laws_toIntS
  rw [mks_ok rfl ha, Option.bind_some, forC0_set (fun j => a[j]?.getD 0) (z := 0) (n := a.length) rfl ha rfl]
  · rw [Option.bind_some, after_br', map_range_getElem]
  · intro j s hj hs
    simp [List.getElem?_eq_getElem hj, List.getElem?_eq_getElem (show j < s.length by omega)]

/-- The marks k, k + 1, .. -/
def marks (n : Nat) (k : Int) : List Int := (List.range n).map fun j : Nat => k + (j : Int)

theorem markIntS_eq (a : List Int) (k : Int) (ha : a.length ≤ 4294967296) (h0 : 0 ≤ k) (h1 : k ≤ 4611686018427387904) : s_laws_markIntS a k = some (k + (a.length : Int), marks a.length k) := by
  unfold s_laws_markIntS
  rw [iter_br (fun t => (k + (t : Int), (t : Int), marks t k ++ a.drop t)) (t := (k + (a.length : Int), (a.length : Int), marks a.length k)) a.length (by omega)]
  · rfl
  · simp [marks]
  · intro j hj
    have hm : (marks j k).length = j := by simp [marks]
    have hl : (marks j k ++ a.drop j).length = a.length := by simp [hm]; omega
    have e2 : a.drop j = a[j] :: a.drop (j + 1) := by rw [List.drop_eq_getElem_cons hj]
    have hd : decide ((j : Int) < (a.length : Int)) = true := by simp; omega
    simp only [hl, hd, cond_true, idx_nat]
    rw [w64_id (by omega) (by omega), w64_id (by omega) (by omega), e2, List.getElem?_append_right (by omega), hm, Nat.sub_self, List.getElem?_cons_zero, Option.bind_some, Int.toNat_natCast, List.set_append_right _ _ (by omega), hm, Nat.sub_self, List.set_cons_zero]
    have e3 : marks (j + 1) k = marks j k ++ [k + (j : Int)] := by simp [marks, List.range_succ]
    rw [e3]; simp [Int.add_assoc]
  · have hl : (marks a.length k ++ a.drop a.length).length = a.length := by simp [marks]
    simp only [hl]
    simp

theorem heldIntS_eq (n : Nat) (k : Int) (ha : n ≤ 4294967296) (h0 : 0 ≤ k) (h1 : k ≤ 4611686018427387904) : s_laws_heldIntS (marks n k) k = some (k + (n : Int)) := by
  unfold s_laws_heldIntS
  rw [forC0_fn (fun j => k + (j : Int)) (n := n) (by simp [marks]) (by omega) (by simp)]
  · rfl
  · intro j hj
    have : (marks n k)[j]? = some (k + (j : Int)) := by simp [marks, hj]
    simp only [idx_nat, this, Option.bind_some, bne_self_eq_false, cond_false]
    rw [w64_id (by omega) (by omega)]; simp [Int.add_assoc]


theorem pow_loop {n k : Int} {N K : Nat} (hn : n = (N : Int)) (hk : k = (K : Int)) (hN : 1 ≤ N) (hK : N ^ K ≤ 9223372036854775807) (hK2 : K ≤ 4294967296) : (
  (iter (S := Int × Int) (R := Int) (fun s2 =>
  (bif (decide (0 < s2.1)) then some (.nx (w64 (s2.1 - 1), w64 (s2.2 * n))) else some (.br (s2.1, s2.2)))) FU (k, 1)).bind fun o6 => after o6 (fun r_ => some r_) (fun s2 =>
  some s2.2)) = some ((N ^ K : Nat) : Int) := by
  subst hn hk
  rw [iter_br (fun t => ((K : Int) - t, ((N ^ t : Nat) : Int))) (t := (0, ((N ^ K : Nat) : Int))) K (by omega)]
  · rfl
  · simp
  · intro j hj
    have hd : decide ((0 : Int) < (K : Int) - j) = true := by simp; omega
    have hp : N ^ (j + 1) ≤ N ^ K := Nat.pow_le_pow_right hN (by omega)
    simp only [hd, cond_true]
    rw [w64_id (by omega) (by omega), show ((N ^ j : Nat) : Int) * (N : Int) = ((N ^ (j + 1) : Nat) : Int) by rw [Nat.pow_succ]; simp, w64_nat (by omega)]
    simp; omega
  · simp

theorem l2Pow_eq {n k : Int} {N K : Nat} (hn : n = (N : Int)) (hk : k = (K : Int)) (hN : 1 ≤ N) (hK : N ^ K ≤ 9223372036854775807) (hK2 : K ≤ 4294967296) : s_spec_l2Pow n k = some ((N ^ K : Nat) : Int) := pow_loop hn hk hN hK hK2


theorem inSize_eq (l : List Int) (n : Int) : s_impl_inSize l n = some (l.all fun x => decide (0 ≤ x) && decide (x < n)) := by
  unfold s_impl_inSize
  rw [forR_chk (fun x => decide (0 ≤ x) && decide (x < n)) false]
  · cases l.all fun x => decide (0 ≤ x) && decide (x < n) <;> rfl
  · intro i x _
    by_cases h : x < 0
    · simp [h]; simp [show ¬ 0 ≤ x by omega]
    · by_cases h' : n ≤ x
      · simp [h, h']; simp [show ¬ x < n by omega]
      · simp [h, h', show 0 ≤ x by omega, show x < n by omega]


theorem l1In_eq (x a b : Int) : s_spec_l1In x a b = some (decide (a ≤ x) && decide (x ≤ b)) := by
  unfold s_spec_l1In
  by_cases h : a ≤ x <;> simp [h]


theorem all_range {α : Type} (l : List α) (p : α → Bool) (d : α) : (List.range l.length).all (fun j => p (l[j]?.getD d)) = l.all p := by
  rw [Bool.eq_iff_iff]
  simp only [List.all_eq_true, List.mem_range]
  constructor
  · intro h x hx
    obtain ⟨i, hi, rfl⟩ := List.mem_iff_getElem.1 hx
    have := h i hi
    simpa [List.getElem?_eq_getElem hi] using this
  · intro h j hj
    rw [List.getElem?_eq_getElem hj]
    exact h _ (List.getElem_mem hj)


theorem pow_small {N K : Nat} (hN8 : N ≤ 8) (hK : K ≤ 3) : N ^ K ≤ 512 := by
  have h1 : N ^ K ≤ 8 ^ K := Nat.pow_le_pow_left hN8 K
  have h2 : 8 ^ K ≤ 8 ^ 3 := Nat.pow_le_pow_right (by omega) hK
  omega

theorem szIntS_eq (a : List Int) (left : Int) (ha : a.length ≤ 9223372036854775807) (h0 : 0 ≤ left) (h1 : left ≤ 4611686018427387904) : s_laws_szIntS a left = some (if left < a.length then -1 else left - a.length) := by
  unfold s_laws_szIntS
  rw [w64_id (by omega) (by omega)]
  by_cases h : left < a.length
  · rw [if_pos h]; simp [show left - (a.length : Int) < 0 by omega]
  · rw [if_neg h]; simp [show ¬ left - (a.length : Int) < 0 by omega]


def NL (T : List Nat) : List Int := T.map fun x : Nat => (x : Int)

@[simp] theorem NL_len (T : List Nat) : (NL T).length = T.length := by simp [NL]

@[simp] theorem NL_nil : NL [] = [] := rfl

@[simp] theorem NL_cons (x : Nat) (T : List Nat) : NL (x :: T) = (x : Int) :: NL T := rfl

theorem NL_inj {S T : List Nat} (h : NL S = NL T) : S = T := by
  induction S generalizing T with
  | nil => cases T with
    | nil => rfl
    | cons y T => cases h
  | cons x S ih => cases T with
    | nil => cases h
    | cons y T =>
      simp only [NL_cons, List.cons.injEq] at h
      rw [ih h.2, show x = y by omega]

def ga (T : List Nat) (k : Nat) : Nat := T.getD k 0

theorem ga_get {T : List Nat} {k : Nat} (h : k < T.length) : ga T k = T[k] := by simp [ga, List.getElem?_eq_getElem h]

theorem idx_NL {T : List Nat} {k : Nat} (h : k < T.length) : idx (NL T) (k : Int) = some ((ga T k : Nat) : Int) := by
  rw [idx_nat, ga_get h]; simp [NL, List.getElem?_eq_getElem h]

theorem NL_of {t : List Int} (h : ∀ x ∈ t, 0 ≤ x) : ∃ T : List Nat, t = NL T := by
  refine ⟨t.map Int.toNat, ?_⟩
  unfold NL
  rw [List.map_map]
  conv => lhs; rw [← List.map_id t]
  refine List.map_congr_left fun x hx => ?_
  have := h x hx
  simp; omega

theorem w64_add1 {a : Nat} (h : a + 1 ≤ 9223372036854775807) : w64 ((a : Int) + 1) = ((a + 1 : Nat) : Int) := by
  rw [w64_id (by omega) (by omega)]; omega

theorem dec_lt (a b : Nat) : decide ((a : Int) < (b : Int)) = decide (a < b) := by rw [decide_eq_decide]; omega


def ix (N : Nat) (s : Nat) (A : List Nat) : Nat := A.foldl (fun s x => s * N + x) s

theorem ix_lt {N : Nat} : ∀ (A : List Nat) (s : Nat), (∀ x ∈ A, x < N) → ix N s A < (s + 1) * N ^ A.length
  | [], s, _ => by simp [ix]
  | x :: A, s, h => by
    have h1 := ix_lt A (s * N + x) (fun y hy => h y (by simp [hy]))
    have hx := h x (by simp)
    have : (s * N + x + 1) * N ^ A.length ≤ (s + 1) * N * N ^ A.length := by
      apply Nat.mul_le_mul_right; rw [Nat.add_mul, Nat.one_mul]; omega
    show ix N (s * N + x) A < _
    rw [List.length_cons, Nat.pow_succ, Nat.mul_comm (N ^ A.length), ← Nat.mul_assoc]
    omega

theorem ix0_lt {N K : Nat} {A : List Nat} (h : ∀ x ∈ A, x < N) (hl : A.length = K) : ix N 0 A < N ^ K := by
  have := ix_lt A 0 h; rw [hl] at this; simpa using this

theorem pow_le_512 {N K : Nat} (h8 : N ≤ 8) (hK : K ≤ 3) : N ^ K ≤ 512 := pow_small h8 hK

theorem NL_toNat (T : List Nat) : (NL T).map Int.toNat = T := by
  unfold NL; rw [List.map_map]; exact (List.map_congr_left (fun x _ => by simp)).trans (List.map_id T)

theorem bne_nat (a b : Nat) : ((a : Int) != (b : Int)) = !(a == b) := by rw [bne, beq_nat]


def NLL (L : List (List Nat)) : List (List Int) := L.map NL

@[simp] theorem NLL_len (L : List (List Nat)) : (NLL L).length = L.length := by simp [NLL]

@[simp] theorem NLL_nil : NLL [] = [] := rfl

@[simp] theorem NLL_cons (x : List Nat) (L : List (List Nat)) : NLL (x :: L) = NL x :: NLL L := rfl

def gl (L : List (List Nat)) (k : Nat) : List Nat := L.getD k []

theorem gl_get {L : List (List Nat)} {k : Nat} (h : k < L.length) : gl L k = L[k] := by simp [gl, List.getElem?_eq_getElem h]

theorem gl_mem {L : List (List Nat)} {k : Nat} (h : k < L.length) : gl L k ∈ L := by rw [gl_get h]; exact List.getElem_mem h

def lexLt : List Nat → List Nat → Bool
  | x :: a, y :: b => if x = y then lexLt a b else decide (x < y)
  | _, _ => false

theorem lexLt_irrefl : ∀ a : List Nat, lexLt a a = false
  | [] => rfl
  | x :: a => by simp [lexLt, lexLt_irrefl a]

theorem lexLt_trans : ∀ {a b c : List Nat}, lexLt a b = true → lexLt b c = true → lexLt a c = true
  | [], _, _, h, _ => by simp [lexLt] at h
  | _ :: _, [], _, h, _ => by simp [lexLt] at h
  | _ :: _, _ :: _, [], _, h => by simp [lexLt] at h
  | x :: a, y :: b, z :: c, h, h' => by
    simp only [lexLt] at h h' ⊢
    by_cases h1 : x = y
    · subst h1
      rw [if_pos rfl] at h
      by_cases h2 : x = z
      · subst h2
        rw [if_pos rfl] at h' ⊢
        exact lexLt_trans h h'
      · rw [if_neg h2] at h' ⊢; exact h'
    · rw [if_neg h1, decide_eq_true_eq] at h
      by_cases h2 : y = z
      · subst h2
        rw [if_neg h1]; simp [h]
      · rw [if_neg h2, decide_eq_true_eq] at h'
        rw [if_neg (by omega)]; simp; omega

theorem lexLt_asymm {a b : List Nat} (h : lexLt a b = true) : lexLt b a = false := by
  cases h' : lexLt b a with
  | false => rfl
  | true => have := lexLt_trans h h'; rw [lexLt_irrefl] at this; cases this


theorem lexLt_find : ∀ (a b : List Nat), a.length ≤ b.length → lexLt a b = (match (List.range a.length).findSome? (fun j => if ga a j = ga b j then none else some (decide (ga a j < ga b j))) with | none => false | some r => r)
  | [], b, _ => by simp [lexLt]
  | x :: a, [], h => by simp at h
  | x :: a, y :: b, h => by
    have ih := lexLt_find a b (by simpa using h)
    simp only [lexLt, List.length_cons, List.range_succ_eq_map, List.findSome?_cons]
    by_cases e : x = y
    · subst e
      rw [if_pos rfl, ih, if_pos (by simp [ga]), List.findSome?_map]
      have : ((fun j => if ga (x :: a) j = ga (x :: b) j then none else some (decide (ga (x :: a) j < ga (x :: b) j))) ∘ Nat.succ) = fun j => if ga a j = ga b j then none else some (decide (ga a j < ga b j)) := by
        funext j; simp [ga]
      rw [this]
    · rw [if_neg e, if_neg (by simpa [ga] using e)]
      simp [ga]

theorem l3Less_eq {a b : List Nat} (h : a.length ≤ b.length) (hl : a.length ≤ 9223372036854775807) : s_spec_l3Less (NL a) (NL b) = some (lexLt a b) := by
  unfold s_spec_l3Less
  rw [forC0_find (n := a.length) (fun j => if ga a j = ga b j then none else some (decide (ga a j < ga b j))) (by simp) hl]
  · rw [Option.bind_some, lexLt_find a b h]
    cases (List.range a.length).findSome? _ <;> rfl
  · intro j hj
    rw [idx_NL hj, idx_NL (show j < b.length by omega)]
    simp only [Option.bind_some, bne_nat]
    by_cases e : ga a j = ga b j
    · rw [if_pos e, e]; simp
    · rw [if_neg e, beq_eq_false_iff_ne.2 e]
      simp only [Bool.not_false, cond_true]
      rw [dec_lt]


def Sorted (L : List (List Nat)) : Prop := L.Pairwise fun a b => lexLt a b = true

theorem Sorted.get {L : List (List Nat)} (h : Sorted L) {i j : Nat} (hij : i < j) (hj : j < L.length) : lexLt (gl L i) (gl L j) = true := by
  rw [gl_get (by omega), gl_get hj]
  exact List.pairwise_iff_getElem.1 h i j (by omega) hj hij

/-- A relation: its tuples, of one length, in order. -/
structure Rel (k : Nat) (L : List (List Nat)) : Prop where
  srt : Sorted L
  len : ∀ u ∈ L, u.length = k

/-- P is a partition of N: each element is sent to the least one of its block. -/
structure Part (N : Nat) (P : List Nat) : Prop where
  len : P.length = N
  le : ∀ x, x < N → ga P x ≤ x
  idem : ∀ x, x < N → ga P (ga P x) = ga P x

theorem Part.lt {N : Nat} {P : List Nat} (h : Part N P) {x : Nat} (hx : x < N) : ga P x < N := by have := h.le x hx; omega


theorem eqS_refl {α : Type} (eq : α → α → Option Bool) (a : List α) (ha : a.length ≤ 9223372036854775807) (h : ∀ x ∈ a, eq x x = some true) :
    (bif ((a.length : Int) != (a.length : Int)) then some false else (forC (S := Unit) (R := Bool) (fun k s => (idx a k).bind fun x => (idx a k).bind fun y => (eq x y).bind fun r => (bif (!r) then some (.rt false) else some (.nx ()))) 0 (a.length : Int) ()).bind fun o => after o (fun r_ => some r_) (fun s => some true)) = some true := by
  rw [bne_self_eq_false, cond_false, forC0_chk (n := a.length) (fun _ => true) false rfl ha]
  · rw [show ((List.range a.length).all fun _ => true) = true by simp]; rfl
  · intro j hj
    simp only [idx_nat, List.getElem?_eq_getElem hj, Option.bind_some, h _ (List.getElem_mem hj)]
    rfl

theorem toS_loop {α : Type} (f : α → Option α) (z : α) (a : List α) (ha : a.length ≤ 4294967296) (h : ∀ x ∈ a, f x = some x) :
    ((mks (a.length : Int) z).bind fun y3 => (forC (S := List α) (R := List α) (fun k s => (idx a k).bind fun x => (f x).bind fun r => (idx s k).bind fun _ => some (.nx (List.set s (Int.toNat k) r))) 0 (a.length : Int) y3).bind fun o => after o (fun r_ => some r_) (fun s => some s)) = some a := by
  rw [mks_ok rfl ha, Option.bind_some, forC0_set (fun j => a[j]?.getD z) (z := z) (n := a.length) rfl ha rfl]
  · rw [Option.bind_some, after_br', map_range_getElem]
  · intro j s hj hs
    simp only [idx_nat, List.getElem?_eq_getElem hj, List.getElem?_eq_getElem (show j < s.length by omega), Option.bind_some, h _ (List.getElem_mem hj), Option.getD_some, Int.toNat_natCast]

/-- Sizes: what is counted is bounded. -/
def SzOk {α : Type} (sz : α → Int → Option Int) (Bd : α → Prop) (a : α) : Prop := ∀ l : Int, 0 ≤ l → l ≤ 1048576 → ∃ v, sz a l = some v ∧ (v < 0 ∨ (Bd a ∧ 0 ≤ v ∧ v ≤ l))

theorem szS_loop {α : Type} (sz : α → Int → Option Int) (Bd : α → Prop) (a : List α) (ha : a.length ≤ 9223372036854775807) (h : ∀ x ∈ a, SzOk sz Bd x) (l : Int) (h0 : 0 ≤ l) (h1 : l ≤ 1048576) :
    ∃ v, (bif (decide ((w64 (l - (a.length : Int))) < 0)) then some (-1) else (forC (S := Int) (R := Int) (fun k s => (idx a k).bind fun x => (sz x s).bind fun r => (bif (decide (r < 0)) then some (.rt (-1)) else some (.nx r))) 0 (a.length : Int) (w64 (l - (a.length : Int)))).bind fun o => after o (fun r_ => some r_) (fun s => some s)) = some v ∧
      (v < 0 ∨ ((a.length ≤ 1048576 ∧ ∀ x ∈ a, Bd x) ∧ 0 ≤ v ∧ v ≤ l)) := by
  rw [w64_id (by omega) (by omega)]
  by_cases hl : l - (a.length : Int) < 0
  · rw [show decide (l - (a.length : Int) < 0) = true by simpa using hl]
    exact ⟨-1, rfl, .inl (by omega)⟩
  · rw [show decide (l - (a.length : Int) < 0) = false by simpa using hl, cond_false]
    rcases forC0_hoare (step := fun k s => (idx a k).bind fun x => (sz x s).bind fun r => (bif (decide (r < 0)) then some (Ctl.rt (S := Int) (-1 : Int)) else some (.nx r))) (fun j s => 0 ≤ s ∧ s ≤ l ∧ ∀ i, i < j → ∀ x, a[i]? = some x → Bd x) (fun _ => False) (fun r => r = -1) (n := a.length) rfl (by omega) (s := l - (a.length : Int)) ⟨by omega, by omega, fun i hi => by omega⟩ (by
      rintro j s hj ⟨hs0, hs1, hb⟩
      obtain ⟨v, hv, hv'⟩ := h a[j] (List.getElem_mem hj) s hs0 (by omega)
      simp only [idx_nat, List.getElem?_eq_getElem hj, Option.bind_some, hv]
      rcases hv' with hv' | ⟨hB, hv0, hv1⟩
      · right; right
        rw [show decide (v < 0) = true by simpa using hv']
        exact ⟨_, rfl, rfl⟩
      · left
        rw [show decide (v < 0) = false by simp; omega]
        refine ⟨_, rfl, hv0, by omega, fun i hi x hx => ?_⟩
        by_cases e : i = j
        · subst e
          rw [List.getElem?_eq_getElem hj] at hx
          cases hx; exact hB
        · exact hb i (by omega) x hx) with ⟨s', e, ⟨a1, a2, a3⟩ | hF⟩ | ⟨r, e, rfl⟩
    · rw [e]
      refine ⟨s', rfl, .inr ⟨⟨by omega, fun x hx => ?_⟩, a1, a2⟩⟩
      obtain ⟨i, hi, rfl⟩ := List.mem_iff_getElem.1 hx
      exact a3 i hi _ (List.getElem?_eq_getElem hi)
    · exact hF.elim
    · rw [e]
      exact ⟨-1, rfl, .inl (by omega)⟩

/-- Marks are found again. -/
def MkOk {α β : Type} (mk : α → Int → Option (Int × β)) (hd : β → Int → Option Int) (C : Nat) (a : α) : Prop :=
  ∀ k : Int, 0 ≤ k → k + C ≤ 4611686018427387904 → ∃ k' a', mk a k = some (k', a') ∧ hd a' k = some k' ∧ k ≤ k' ∧ k' ≤ k + C

theorem markS_loop {α : Type} (mk : α → Int → Option (Int × α)) (hd : α → Int → Option Int) (C : Nat) (a : List α) (ha : a.length ≤ 1048576) (h : ∀ x ∈ a, MkOk mk hd C x) {step : Int × Int × List α → Option (Ctl (Int × Int × List α) (Int × List α))}
    {hstep : Int → Int → List α → Option (Ctl Int Int)}
    (h1 : ∀ (k : Int) (i : Nat) (l : List α) (hi : i < l.length), l.length = a.length → (∃ z, mk l[i] k = some z) → 0 ≤ k → k + C ≤ 4611686018427387904 → step (k, (i : Int), l) = (mk l[i] k).bind fun r => some (.nx (r.1, ((i + 1 : Nat) : Int), l.set i r.2)))
    (h2 : ∀ (k : Int) (i : Nat) (l : List α), i = l.length → step (k, (i : Int), l) = some (.br (k, (i : Int), l)))
    (h3 : ∀ (k : Int) (i : Nat) (l : List α) (hi : i < l.length) (k' : Int), hd l[i] k = some k' → 0 ≤ k → k ≤ k' → k' ≤ k + C → k + C ≤ 4611686018427387904 → hstep (i : Int) k l = some (.nx k')) :
    ∀ k : Int, 0 ≤ k → k + ((a.length * C : Nat) : Int) ≤ 4611686018427387904 → ∃ k' a', ((iter (S := Int × Int × List α) (R := Int × List α) step FU (k, 0, a)).bind fun o => after o (fun r_ => some r_) (fun s => some (s.1, s.2.2))) = some (k', a') ∧
      ((forC (S := Int) (R := Int) (fun i s => hstep i s a') 0 (a'.length : Int) k).bind fun o => after o (fun r_ => some r_) (fun s => some s)) = some k' ∧ k ≤ k' ∧ k' ≤ k + ((a.length * C : Nat) : Int) := by
  intro k hk0 hk1
  -- the marked part, and where each begins
  have main : ∀ m, m ≤ a.length → ∃ (ks : Nat → Int) (l : List α), ks 0 = k ∧ l.length = a.length ∧ (∀ j, j < m → ks j ≤ ks (j + 1) ∧ ks (j + 1) ≤ ks j + C ∧ ∃ x, l[j]? = some x ∧ hd x (ks j) = some (ks (j + 1))) ∧ (∀ j, m ≤ j → l[j]? = a[j]?) ∧
      ∀ fu, iter (S := Int × Int × List α) (R := Int × List α) step (fu + m) (k, 0, a) = iter step fu (ks m, (m : Int), l) := by
    intro m
    induction m with
    | zero => intro _; exact ⟨fun _ => k, a, rfl, rfl, fun j hj => by omega, fun j _ => rfl, fun fu => rfl⟩
    | succ m ih =>
      intro hm
      obtain ⟨ks, l, e0, el, e1, e2, e3⟩ := ih (by omega)
      have hks : ∀ j, j ≤ m → k ≤ ks j ∧ ks j ≤ k + ((j * C : Nat) : Int) := by
        intro j
        induction j with
        | zero => intro _; rw [e0]; omega
        | succ j ihj =>
          intro hj
          have := ihj (by omega)
          have h4 := e1 j (by omega)
          rw [Nat.add_mul, Nat.one_mul]; omega
      have hmC : (m + 1) * C ≤ a.length * C := Nat.mul_le_mul_right C hm
      have hkm := hks m (Nat.le_refl _)
      rw [Nat.add_mul, Nat.one_mul] at hmC
      have hml : m < l.length := by omega
      have hxm : l[m] = a[m]'(by omega) := by
        have := e2 m (Nat.le_refl _)
        rw [List.getElem?_eq_getElem hml, List.getElem?_eq_getElem (by omega)] at this
        exact Option.some.inj this
      obtain ⟨k', x', g1, g2, g3, g4⟩ := h (a[m]'(by omega)) (List.getElem_mem _) (ks m) (by omega) (by omega)
      refine ⟨fun j => if j ≤ m then ks j else k', l.set m x', by simp [e0], by simpa using el, fun j hj => ?_, fun j hj => ?_, fun fu => ?_⟩
      · by_cases e : j = m
        · subst e
          simp only [Nat.le_refl, if_true, show ¬ j + 1 ≤ j by omega, if_false]
          exact ⟨g3, g4, x', by rw [List.getElem?_set_self hml], g2⟩
        · have := e1 j (by omega)
          simp only [show j ≤ m by omega, show j + 1 ≤ m by omega, if_true]
          refine ⟨this.1, this.2.1, ?_⟩
          rw [List.getElem?_set_ne (by omega)]
          exact this.2.2
      · rw [List.getElem?_set_ne (by omega)]; exact e2 j (by omega)
      · have := e3 (fu + 1)
        rw [show fu + (m + 1) = fu + 1 + m by omega, this]
        rw [iter_nx (s' := (k', ((m + 1 : Nat) : Int), l.set m x'))]
        · simp only [show ¬ m + 1 ≤ m by omega, if_false]
        · rw [h1 _ m l hml el ⟨_, by rw [hxm]; exact g1⟩ (by omega) (by omega), hxm, g1]
          simp only [Option.bind_some]
  obtain ⟨ks, l, e0, el, e1, e2, e3⟩ := main a.length (Nat.le_refl _)
  have hks : ∀ j, j ≤ a.length → k ≤ ks j ∧ ks j ≤ k + ((j * C : Nat) : Int) := by
    intro j
    induction j with
    | zero => intro _; rw [e0]; omega
    | succ j ihj =>
      intro hj
      have := ihj (by omega)
      have h4 := e1 j (by omega)
      rw [Nat.add_mul, Nat.one_mul]; omega
  refine ⟨ks a.length, l, ?_, ?_, (hks _ (Nat.le_refl _)).1, (hks _ (Nat.le_refl _)).2⟩
  · have := e3 (FU - a.length)
    rw [show FU - a.length + a.length = FU by unfold FU; omega] at this
    rw [this]
    obtain ⟨n, hn⟩ : ∃ n, FU - a.length = n + 1 := ⟨FU - a.length - 1, by unfold FU; omega⟩
    rw [hn]
    rw [iter_out (h2 _ _ _ (by omega)) (by intro s; simp)]
    rfl
  · rw [forC0_fn ks (n := a.length) (by rw [el]) (by omega) e0.symm]
    · rfl
    · intro j hj
      obtain ⟨g3, g4, x, hx, g2⟩ := e1 j hj
      have hjl : j < l.length := by omega
      rw [List.getElem?_eq_getElem hjl] at hx
      have hkj := hks j (by omega)
      have hC : (j + 1) * C ≤ a.length * C := Nat.mul_le_mul_right C hj
      rw [Nat.add_mul, Nat.one_mul] at hC
      exact h3 _ j l hjl _ (by rw [Option.some.inj hx]; exact g2) (by omega) g3 g4 (by omega)


def B1 (l : List Int) : Prop := l.length ≤ 1048576

def B2 (l : List (List Int)) : Prop := l.length ≤ 1048576 ∧ ∀ x ∈ l, B1 x

theorem markIntS_ok (a : List Int) (ha : B1 a) : MkOk s_laws_markIntS s_laws_heldIntS 1048576 a := by
  intro k h0 h1
  unfold B1 at ha
  refine ⟨_, _, markIntS_eq a k (by omega) h0 (by omega), heldIntS_eq a.length k (by omega) h0 (by omega), by omega, by omega⟩

theorem szIntS_ok (a : List Int) (ha : a.length ≤ maxLen) : SzOk s_laws_szIntS B1 a := by
  intro l h0 h1
  unfold maxLen at ha
  rw [szIntS_eq a l (by omega) h0 (by omega)]
  by_cases h : l < a.length
  · rw [if_pos h]; exact ⟨-1, rfl, .inl (by omega)⟩
  · rw [if_neg h]; exact ⟨_, rfl, .inr ⟨by unfold B1; omega, by omega, by omega⟩⟩

theorem eqIntS_refl (a : List Int) (ha : B1 a) : s_laws_eqIntS a a = some true := by
  unfold B1 at ha; rw [eqIntS_eq a a (by omega)]; simp

theorem toIntS_ok (a : List Int) (ha : B1 a) : s_laws_toIntS a = some a := by
  unfold B1 at ha; exact toIntS_eq a (by omega)


theorem szIntSS_ok (a : List (List Int)) (ha : a.length ≤ maxLen) (h : ∀ x ∈ a, x.length ≤ maxLen) : SzOk s_laws_szIntSS B2 a := by
  intro l h0 h1
  unfold s_laws_szIntSS
  exact szS_loop s_laws_szIntS B1 a (by unfold maxLen at ha; omega) (fun x hx => szIntS_ok x (h x hx)) l h0 h1

theorem eqIntSS_refl (a : List (List Int)) (ha : B2 a) : s_laws_eqIntSS a a = some true := by
  unfold s_laws_eqIntSS
  exact eqS_refl s_laws_eqIntS a (by have := ha.1; omega) (fun x hx => eqIntS_refl x (ha.2 x hx))

theorem toIntSS_ok (a : List (List Int)) (ha : B2 a) : s_laws_toIntSS a = some a := by
  unfold s_laws_toIntSS
  exact toS_loop s_laws_toIntS [] a (by have := ha.1; omega) (fun x hx => toIntS_ok x (ha.2 x hx))

theorem MkOk.le {α β : Type} {mk : α → Int → Option (Int × β)} {hd : β → Int → Option Int} {C C' : Nat} {a : α} (h : MkOk mk hd C a) (hC : C ≤ C') : MkOk mk hd C' a := fun k h0 h1 => by
  obtain ⟨k', a', g1, g2, g3, g4⟩ := h k h0 (by omega)
  exact ⟨k', a', g1, g2, g3, by omega⟩

theorem neg_dec' {k : Int} (h : 0 ≤ k) : decide (k < 0) = false := by simp; omega

theorem markIntSS_ok (a : List (List Int)) (ha : B2 a) : MkOk s_laws_markIntSS s_laws_heldIntSS 1099511627776 a := by
  have hl := ha.1
  have h : MkOk s_laws_markIntSS s_laws_heldIntSS (a.length * 1048576) a := by
    unfold MkOk s_laws_markIntSS s_laws_heldIntSS
    refine markS_loop s_laws_markIntS s_laws_heldIntS 1048576 a hl (fun x hx => markIntS_ok x (ha.2 x hx)) (hstep := fun k11 s9 a_ => (idx a_ k11).bind fun x15 =>
  (s_laws_heldIntS x15 s9).bind fun r20 =>
  (bif (decide (r20 < 0)) then some (.rt (-1)) else some (.nx r20))) (fun k i l hi hl' hm h0 hk => ?_) (fun k i l hi => ?_) (fun k i l hi k' hh h0 h1 h2 hk => ?_)
    · obtain ⟨z, hz⟩ := hm
      have hd : decide ((i : Int) < (l.length : Int)) = true := by simp; omega
      simp only [hd, cond_true, idx_nat, List.getElem?_eq_getElem hi, Option.bind_some, hz, w64_add1 (show i + 1 ≤ 9223372036854775807 by omega), Int.toNat_natCast]
    · subst hi; simp
    · simp only [idx_nat, List.getElem?_eq_getElem hi, Option.bind_some, hh, neg_dec' (show 0 ≤ k' by omega), cond_false]
  exact h.le (by have : a.length * 1048576 ≤ 1048576 * 1048576 := Nat.mul_le_mul_right _ hl; omega)


def BR (r : Int × List (List Int)) : Prop := B2 r.2

theorem neg_bif {k : Int} (h : 0 ≤ k) {α : Type} (x y : α) : (bif decide (k < 0) then x else y) = y := by rw [neg_dec' h]; rfl

theorem szRelation_ok (a : Int × List (List Int)) (ha : a.2.length ≤ maxLen) (h : ∀ x ∈ a.2, x.length ≤ maxLen) : SzOk s_laws_szRelation BR a := by
  intro l h0 h1
  obtain ⟨v, hv, h2⟩ := szIntSS_ok a.2 ha h l h0 h1
  unfold s_laws_szRelation
  rw [hv, Option.bind_some]
  by_cases hn : v < 0
  · rw [show decide (v < 0) = true by simpa using hn]; exact ⟨-1, rfl, .inl (by omega)⟩
  · rw [show decide (v < 0) = false by simpa using hn]; exact ⟨v, rfl, h2⟩

theorem eqRelation_refl (a : Int × List (List Int)) (ha : BR a) : s_laws_eqRelation a a = some true := by
  unfold s_laws_eqRelation
  rw [bne_self_eq_false, cond_false, eqIntSS_refl a.2 ha]; rfl

theorem toRelation_ok (a : Int × List (List Int)) (ha : BR a) : s_laws_toRelation a = some a := by
  unfold s_laws_toRelation; rw [toIntSS_ok a.2 ha]; rfl

abbrev Con := List Int × (Int × List (List Int))

abbrev Net := Int × Int × List Con

def BC (c : Con) : Prop := B1 c.1 ∧ BR c.2

def BN (n : Net) : Prop := n.2.2.length ≤ 1048576 ∧ ∀ c ∈ n.2.2, BC c

theorem szConstraint_ok (a : Con) (h1 : a.1.length ≤ maxLen) (h2 : a.2.2.length ≤ maxLen) (h3 : ∀ x ∈ a.2.2, x.length ≤ maxLen) : SzOk s_laws_szConstraint BC a := by
  intro l h0 hl
  obtain ⟨v, hv, h4⟩ := szIntS_ok a.1 h1 l h0 hl
  unfold s_laws_szConstraint
  rw [hv, Option.bind_some]
  by_cases hn : v < 0
  · rw [show decide (v < 0) = true by simpa using hn]; exact ⟨-1, rfl, .inl (by omega)⟩
  · rw [show decide (v < 0) = false by simpa using hn, cond_false]
    rcases h4 with h4 | ⟨hb, h5, h6⟩
    · exact absurd h4 hn
    obtain ⟨u, hu, h7⟩ := szRelation_ok a.2 h2 h3 v h5 (by omega)
    have hu : s_laws_szRelation (a.2.1, a.2.2) v = some u := hu
    rw [hu, Option.bind_some]
    by_cases hn' : u < 0
    · rw [show decide (u < 0) = true by simpa using hn']; exact ⟨-1, rfl, .inl (by omega)⟩
    · rw [show decide (u < 0) = false by simpa using hn']
      rcases h7 with h7 | ⟨hb', h8, h9⟩
      · exact absurd h7 hn'
      exact ⟨u, rfl, .inr ⟨⟨hb, hb'⟩, h8, by omega⟩⟩

theorem szNetwork_ok (a : Net) (h1 : a.2.2.length ≤ maxLen) (h2 : ∀ c ∈ a.2.2, c.1.length ≤ maxLen ∧ c.2.2.length ≤ maxLen ∧ ∀ x ∈ c.2.2, x.length ≤ maxLen) : SzOk s_laws_szNetwork BN a := by
  intro l h0 hl
  obtain ⟨v, hv, h3⟩ := szS_loop s_laws_szConstraint BC a.2.2 (by unfold maxLen at h1; omega) (fun x hx => szConstraint_ok x (h2 x hx).1 (h2 x hx).2.1 (h2 x hx).2.2) l h0 hl
  have hv : s_laws_szConstraintS a.2.2 l = some v := hv
  unfold s_laws_szNetwork
  rw [hv, Option.bind_some]
  by_cases hn : v < 0
  · rw [show decide (v < 0) = true by simpa using hn]; exact ⟨-1, rfl, .inl (by omega)⟩
  · rw [show decide (v < 0) = false by simpa using hn]; exact ⟨v, rfl, h3⟩

theorem eqConstraint_refl (a : Con) (ha : BC a) : s_laws_eqConstraint a a = some true := by
  have e : s_laws_eqRelation (a.2.1, a.2.2) (a.2.1, a.2.2) = some true := eqRelation_refl a.2 ha.2
  unfold s_laws_eqConstraint
  rw [eqIntS_refl a.1 ha.1, Option.bind_some, Bool.not_true, cond_false, e]; rfl

theorem toConstraint_ok (a : Con) (ha : BC a) : s_laws_toConstraint a = some a := by
  have e : s_laws_toRelation (a.2.1, a.2.2) = some a.2 := toRelation_ok a.2 ha.2
  unfold s_laws_toConstraint; rw [toIntS_ok a.1 ha.1, Option.bind_some, e]; rfl

theorem eqNetwork_refl (a : Net) (ha : BN a) : s_laws_eqNetwork a a = some true := by
  have e : s_laws_eqConstraintS a.2.2 a.2.2 = some true := eqS_refl s_laws_eqConstraint a.2.2 (by have := ha.1; omega) (fun x hx => eqConstraint_refl x (ha.2 x hx))
  unfold s_laws_eqNetwork
  rw [bne_self_eq_false, cond_false, bne_self_eq_false, cond_false, e]; rfl

theorem toNetwork_ok (a : Net) (ha : BN a) : s_laws_toNetwork a = some a := by
  have e : s_laws_toConstraintS a.2.2 = some a.2.2 := toS_loop s_laws_toConstraint ([], (0, [])) a.2.2 (by have := ha.1; omega) (fun x hx => toConstraint_ok x (ha.2 x hx))
  unfold s_laws_toNetwork; rw [e]; rfl

def mkCon1 (x : Con) (k : Int) : Option (Int × Con) := (s_laws_markIntS x.1 k).bind fun r => if r.1 < 0 ∨ 4611686018427387904 < r.1 then none else (s_laws_markIntSS x.2.2 (r.1 + 1)).bind fun q => some (q.1, (r.2, (r.1, q.2)))

def hdCon1 (x : Con) (k : Int) : Option Int := (s_laws_heldIntS x.1 k).bind fun r => if r < 0 ∨ 4611686018427387904 < r then none else if x.2.1 = r then (s_laws_heldIntSS x.2.2 (r + 1)).bind fun q => if q < 0 then none else some q else none

theorem mkCon1_ok (x : Con) (hx : BC x) : MkOk mkCon1 hdCon1 1099512676353 x := by
  intro k h0 h1
  obtain ⟨k', t, g1, g2, g3, g4⟩ := markIntS_ok x.1 hx.1 k (by omega) (by omega)
  obtain ⟨k2, t2, g5, g6, g7, g8⟩ := markIntSS_ok x.2.2 hx.2 (k' + 1) (by omega) (by omega)
  refine ⟨k2, (t, (k', t2)), by unfold mkCon1; simp only [g1, Option.bind_some, show ¬ (k' < 0 ∨ 4611686018427387904 < k') by omega, if_false, g5], ?_, by omega, by omega⟩
  unfold hdCon1
  simp only [g2, Option.bind_some, show ¬ (k' < 0 ∨ 4611686018427387904 < k') by omega, if_false, if_true, g6, show ¬ k2 < 0 by omega]

theorem markNetwork_ok (a : Net) (ha : BN a) (k : Int) (h0 : 0 ≤ k) (h1 : k + 1152922604119523328 ≤ 4611686018427387904) :
    ∃ k' t, s_laws_markNetwork a k = some (k', t) ∧ (∀ x y, s_laws_heldNetwork (x, y, t) k = some k') ∧ 0 ≤ k' ∧ k' ≤ k + 1152922604119523328 := by
  have hl := ha.1
  have hC : a.2.2.length * 1099512676353 ≤ 1048576 * 1099512676353 := Nat.mul_le_mul_right _ hl
  have h := markS_loop mkCon1 hdCon1 1099512676353 a.2.2 hl (fun x hx => mkCon1_ok x (ha.2 x hx)) (step := fun s101 =>
  (bif (decide (s101.2.1 < (s101.2.2.length : Int))) then (idx s101.2.2 s101.2.1).bind fun x110 =>
  (s_laws_markIntS x110.1 s101.1).bind fun r117 =>
  (idx (List.set s101.2.2 (Int.toNat s101.2.1) (r117.2, (x110.2.1, x110.2.2))) s101.2.1).bind fun x118 =>
  (idx (List.set (List.set s101.2.2 (Int.toNat s101.2.1) (r117.2, (x110.2.1, x110.2.2))) (Int.toNat s101.2.1) (x118.1, (r117.1, x118.2.2))) s101.2.1).bind fun x123 =>
  (s_laws_markIntSS x123.2.2 (w64 (r117.1 + 1))).bind fun r131 =>
  some (.nx (r131.1, w64 (s101.2.1 + 1), List.set (List.set (List.set s101.2.2 (Int.toNat s101.2.1) (r117.2, (x110.2.1, x110.2.2))) (Int.toNat s101.2.1) (x118.1, (r117.1, x118.2.2))) (Int.toNat s101.2.1) (x123.1, (x123.2.1, r131.2)))) else some (.br (s101.1, s101.2.1, s101.2.2))))
    (hstep := fun k26 s24 a_ => (idx a_ k26).bind fun x30 =>
  (s_laws_heldIntS x30.1 s24).bind fun r36 =>
  (bif (decide (r36 < 0)) then some (.rt (-1)) else (idx a_ k26).bind fun x38 =>
  (bif (x38.2.1 != r36) then some (.rt (-1)) else (idx a_ k26).bind fun x43 =>
  (s_laws_heldIntSS x43.2.2 (w64 (r36 + 1))).bind fun r50 =>
  (bif (decide (r50 < 0)) then some (.rt (-1)) else some (.nx r50))))) (fun k i l hi hl' hm h0 hk => by
      obtain ⟨z, hz⟩ := hm
      have hd : decide ((i : Int) < (l.length : Int)) = true := by simp; omega
      unfold mkCon1 at hz
      obtain ⟨r, hr, hz⟩ := bind_some hz
      by_cases hr0 : r.1 < 0 ∨ 4611686018427387904 < r.1
      · rw [if_pos hr0] at hz; cases hz
      rw [if_neg hr0] at hz
      obtain ⟨q, hq, hz⟩ := bind_some hz
      have hs : ∀ y, (l.set i y)[i]? = some y := fun y => by rw [List.getElem?_set_self hi]
      have hs2 : ∀ y y', ((l.set i y).set i y')[i]? = some y' := fun y y' => by rw [List.set_set, hs]
      simp only [hd, cond_true, idx_nat, List.getElem?_eq_getElem hi, Option.bind_some, Int.toNat_natCast, hs, w64_add1 (show i + 1 ≤ 9223372036854775807 by omega), List.set_set, mkCon1, hr, if_neg hr0, hq, w64_id (show -9223372036854775808 ≤ r.1 + 1 by omega) (show r.1 + 1 ≤ 9223372036854775807 by omega)]) (fun k i l hi => by subst hi; simp) (fun k i l hi k' hh h0 h1 h2 hk => by
      unfold hdCon1 at hh
      obtain ⟨r, hr, hh⟩ := bind_some hh
      by_cases c1 : r < 0 ∨ 4611686018427387904 < r
      · rw [if_pos c1] at hh; cases hh
      rw [if_neg c1] at hh
      by_cases c2 : l[i].2.1 = r
      · rw [if_pos c2] at hh
        obtain ⟨q, hq, hh⟩ := bind_some hh
        by_cases c3 : q < 0
        · rw [if_pos c3] at hh; cases hh
        rw [if_neg c3] at hh
        cases hh
        have hr1 : r + 1 ≤ 9223372036854775807 := by omega
        have c4 : ¬ r < 0 := by omega
        have e2 : (l[i].2.1 != r) = false := by simp [c2]
        simp only [idx_nat, List.getElem?_eq_getElem hi, Option.bind_some, hr, show decide (r < 0) = false by simpa using c4, cond_false, e2, w64_id (show -9223372036854775808 ≤ r + 1 by omega) hr1, hq, show decide (k' < 0) = false by simpa using c3]
      · rw [if_neg c2] at hh; cases hh) k h0 (by omega)
  obtain ⟨k', t, g1, g2, g3, g4⟩ := h
  have g1' : s_laws_markConstraintS a.2.2 k = some (k', t) := g1
  have g2' : s_laws_heldConstraintS t k = some k' := g2
  refine ⟨k', t, by unfold s_laws_markNetwork; rw [g1']; rfl, fun x y => ?_, by omega, by omega⟩
  unfold s_laws_heldNetwork
  simp only [g2', Option.bind_some]
  rw [neg_bif (by omega)]


/-- A test, and what it says. -/
def Says (o : Option Bool) (P : Prop) : Prop := ∃ b, o = some b ∧ (b = true ↔ P)

theorem Says.cases {o : Option Bool} {P : Prop} (h : Says o P) : (o = some true ∧ P) ∨ (o = some false ∧ ¬ P) := by
  obtain ⟨b, rfl, hb⟩ := h
  cases b with
  | true => exact .inl ⟨rfl, hb.1 rfl⟩
  | false => exact .inr ⟨rfl, fun hp => by cases hb.2 hp⟩

theorem Says.yes {o : Option Bool} {P : Prop} (h : o = some true) (hp : P) : Says o P := ⟨true, h, by simp [hp]⟩

theorem Says.no {o : Option Bool} {P : Prop} (h : o = some false) (hp : ¬ P) : Says o P := ⟨false, h, by simp [hp]⟩

theorem Says.iff {o : Option Bool} {P Q : Prop} (h : Says o P) (hq : P ↔ Q) : Says o Q := by
  obtain ⟨b, rfl, hb⟩ := h; exact ⟨b, rfl, hb.trans hq⟩

theorem Says.eq {o o' : Option Bool} {P : Prop} (h : Says o P) (h' : Says o' P) : o = o' := by
  rcases h.cases with ⟨rfl, hp⟩ | ⟨rfl, hp⟩ <;> rcases h'.cases with ⟨rfl, hp'⟩ | ⟨rfl, hp'⟩ <;> first | rfl | exact absurd hp hp' | exact absurd hp' hp


def cmpL (a b : List Nat) : Int := if lexLt a b then -1 else if lexLt b a then 1 else if a.length < b.length then -1 else if b.length < a.length then 1 else 0

theorem lexLt_same {a b : List Nat} (h : ∀ i, i < a.length → i < b.length → ga a i = ga b i) : lexLt a b = false := by
  induction a generalizing b with
  | nil => cases b <;> rfl
  | cons x a ih =>
    cases b with
    | nil => rfl
    | cons y b =>
      have h0 := h 0 (by simp) (by simp)
      have h0 : x = y := by simpa [ga] using h0
      simp only [lexLt, h0, if_true]
      exact ih fun i h1 h2 => by
        have := h (i + 1) (by simp; omega) (by simp; omega)
        simpa [ga] using this

theorem lexLt_at {a b : List Nat} {j : Nat} (ha : j < a.length) (hb : j < b.length) (h : ∀ i, i < j → ga a i = ga b i) (hj : ga a j < ga b j) : lexLt a b = true := by
  induction j generalizing a b with
  | zero =>
    cases a with
    | nil => simp at ha
    | cons x a => cases b with
      | nil => simp at hb
      | cons y b =>
        simp only [ga, List.getD_cons_zero] at hj
        simp only [lexLt]
        rw [if_neg (by omega)]; simpa using hj
  | succ j ih =>
    cases a with
    | nil => simp at ha
    | cons x a => cases b with
      | nil => simp at hb
      | cons y b =>
        have h0 : x = y := by simpa [ga] using h 0 (by omega)
        simp only [lexLt, h0, if_true]
        refine ih (by simpa using ha) (by simpa using hb) (fun i hi => ?_) (by simpa [ga] using hj)
        have := h (i + 1) (by omega)
        simpa [ga] using this

theorem compareLists_eq {a b : List Nat} (ha : a.length ≤ 4294967296) : s_impl_compareLists (NL a) (NL b) = some (cmpL a b) := by
  unfold s_impl_compareLists
  obtain ⟨c, hc, hq, _⟩ := iter_inv (R := Int) (step := fun s20 =>
  (bif ((decide (s20 < ((NL a).length : Int))) && (decide (s20 < ((NL b).length : Int)))) then (idx (NL a) s20).bind fun x32 =>
  (idx (NL b) s20).bind fun x34 =>
  (bif (x32 != x34) then (idx (NL a) s20).bind fun x38 =>
  (idx (NL b) s20).bind fun x40 =>
  (bif (decide (x38 < x40)) then some (.rt (-1)) else some (.rt 1)) else some (.nx (w64 (s20 + 1)))) else some (.br s20))) (fun s => ∃ j : Nat, s = (j : Int) ∧ j ≤ a.length ∧ ∀ i, i < j → ga a i = ga b i) (fun s => a.length - s.toNat)
    (fun c => (∃ s, c = .br s ∧ lexLt a b = false ∧ lexLt b a = false) ∨ (∃ r, c = .rt r ∧ r = cmpL a b)) FU 0 ⟨0, rfl, by omega, fun i h => by omega⟩ (by simp [FU]; omega) (by
    rintro s ⟨j, rfl, h1, h2⟩
    simp only [NL_len, dec_lt]
    by_cases hl : j < a.length ∧ j < b.length
    · simp only [hl.1, hl.2, decide_true, Bool.and_true, cond_true]
      rw [idx_NL hl.1, idx_NL hl.2]
      simp only [Option.bind_some, bne_nat]
      by_cases he : ga a j = ga b j
      · left
        refine ⟨_, by rw [he, beq_self_eq_true]; rfl, ⟨j + 1, w64_add1 (by omega), by omega, fun i hi => ?_⟩, by rw [w64_add1 (by omega)]; simp; omega⟩
        by_cases e : i = j
        · rw [e]; exact he
        · exact h2 i (by omega)
      · right
        rw [beq_eq_false_iff_ne.2 he]
        simp only [Bool.not_false, cond_true, dec_lt]
        by_cases hlt : ga a j < ga b j
        · rw [show decide (ga a j < ga b j) = true by simpa using hlt]
          refine ⟨_, rfl, by intro s; simp, .inr ⟨_, rfl, ?_⟩⟩
          unfold cmpL; rw [lexLt_at hl.1 hl.2 h2 hlt]; rfl
        · rw [show decide (ga a j < ga b j) = false by simpa using hlt]
          refine ⟨_, rfl, by intro s; simp, .inr ⟨_, rfl, ?_⟩⟩
          have := lexLt_at hl.2 hl.1 (fun i hi => (h2 i hi).symm) (show ga b j < ga a j by omega)
          unfold cmpL; rw [lexLt_asymm this, this]; rfl
    · right
      have : (decide (j < a.length) && decide (j < b.length)) = false := by
        rw [Bool.eq_false_iff]; simpa using hl
      rw [this, cond_false]
      refine ⟨_, rfl, by intro s; simp, .inl ⟨_, rfl, lexLt_same fun i g1 g2 => h2 i (by omega), lexLt_same fun i g1 g2 => (h2 i (by omega)).symm⟩⟩)
  rw [hc]
  rcases hq with ⟨s, rfl, e1, e2⟩ | ⟨r, rfl, rfl⟩
  · simp only [Option.bind_some, after_br', NL_len, dec_lt]
    unfold cmpL
    rw [e1, e2]
    by_cases h1 : a.length < b.length
    · simp [h1]
    · by_cases h2 : b.length < a.length
      · simp [h1, h2]
      · simp [h1, h2]
  · rfl

theorem cmpL_lt {a b : List Nat} (h : a.length = b.length) : cmpL a b < 0 ↔ lexLt a b = true := by
  unfold cmpL
  cases h1 : lexLt a b with
  | true => simp
  | false =>
    simp only [Bool.false_eq_true, if_false, iff_false]
    split
    · omega
    · rw [if_neg (by omega), if_neg (by omega)]; omega


theorem ix_ge (N : Nat) : ∀ (A : List Nat) (s : Nat), s * N ^ A.length ≤ ix N s A
  | [], s => by simp [ix]
  | x :: A, s => by
    have h1 := ix_ge N A (s * N + x)
    show _ ≤ ix N (s * N + x) A
    have : s * N * N ^ A.length ≤ (s * N + x) * N ^ A.length := Nat.mul_le_mul_right _ (by omega)
    rw [List.length_cons, Nat.pow_succ, Nat.mul_comm (N ^ A.length), ← Nat.mul_assoc]
    omega

theorem ix_mono {N : Nat} {a b : List Nat} (hl : a.length = b.length) (ha : ∀ x ∈ a, x < N) {s s' : Nat} (h : s < s') : ix N s a < ix N s' b := by
  have h1 := ix_lt a s ha
  have h2 := ix_ge N b s'
  have h3 : (s + 1) * N ^ a.length ≤ s' * N ^ a.length := Nat.mul_le_mul_right _ h
  rw [hl] at h3 h1
  omega

theorem lex_ix {N : Nat} : ∀ {a b : List Nat} (s : Nat), a.length = b.length → (∀ x ∈ a, x < N) → lexLt a b = true → ix N s a < ix N s b
  | [], [], _, _, _, h => by simp [lexLt] at h
  | [], _ :: _, _, h, _, _ => by simp at h
  | _ :: _, [], _, h, _, _ => by simp at h
  | x :: a, y :: b, s, hl, ha, h => by
    simp only [lexLt] at h
    show ix N (s * N + x) a < ix N (s * N + y) b
    by_cases e : x = y
    · subst e
      rw [if_pos rfl] at h
      exact lex_ix _ (by simpa using hl) (fun z hz => ha z (by simp [hz])) h
    · rw [if_neg e, decide_eq_true_eq] at h
      exact ix_mono (by simpa using hl) (fun z hz => ha z (by simp [hz])) (by omega)

theorem sorted_len {N k : Nat} {L : List (List Nat)} (hR : Rel k L) (hx : ∀ t ∈ L, ∀ x ∈ t, x < N) : L.length ≤ N ^ k := by
  have main : ∀ i, i < L.length → i ≤ ix N 0 (gl L i) := by
    intro i
    induction i with
    | zero => intro _; omega
    | succ i ih =>
      intro hi
      have h1 := ih (by omega)
      have h2 := hR.srt.get (show i < i + 1 by omega) hi
      have h3 := lex_ix (N := N) 0 ((hR.len _ (gl_mem (show i < L.length by omega))).trans (hR.len _ (gl_mem hi)).symm) (hx _ (gl_mem (show i < L.length by omega))) h2
      omega
  rcases Nat.eq_zero_or_pos L.length with h | h
  · omega
  · have h1 := main (L.length - 1) (by omega)
    have h2 := ix0_lt (hx _ (gl_mem (show L.length - 1 < L.length by omega))) (hR.len _ (gl_mem (show L.length - 1 < L.length by omega)))
    omega

theorem sorted_of_steps {L : List (List Nat)} (h : ∀ i, i + 1 < L.length → lexLt (gl L i) (gl L (i + 1)) = true) : Sorted L := by
  unfold Sorted
  rw [List.pairwise_iff_getElem]
  intro i j hi hj hij
  rw [← gl_get hi, ← gl_get hj]
  clear hi
  induction j with
  | zero => omega
  | succ j ih =>
    by_cases e : i = j
    · rw [e]; exact h j hj
    · exact lexLt_trans (ih (by omega) (by omega)) (h j hj)


/-- A relation of the arity k on N elements. -/
structure RelN (N k : Nat) (r : Int × List (List Int)) (L : List (List Nat)) : Prop where
  eq : r = ((k : Int), NLL L)
  k1 : 1 ≤ k
  k3 : k ≤ 3
  rel : Rel k L
  lt : ∀ t ∈ L, ∀ x ∈ t, x < N

def IsRel (N : Nat) (r : Int × List (List Int)) : Prop := ∃ k L, RelN N k r L

/-- The row i of a relation, as its test sees it. -/
def RowOk (N : Nat) (r : Int × List (List Int)) (i : Nat) : Prop := ∃ t : List Nat, r.2[i]? = some (NL t) ∧ ((t.length : Int) = r.1) ∧ (∀ x ∈ t, x < N) ∧ ∀ j, i = j + 1 → ∀ u : List Nat, r.2[j]? = some (NL u) → u.length = t.length → lexLt u t = true

theorem isRel_iff {N : Nat} {r : Int × List (List Int)} : IsRel N r ↔ (1 ≤ r.1 ∧ r.1 ≤ 3) ∧ ∀ i, i < r.2.length → RowOk N r i := by
  constructor
  · rintro ⟨k, L, rfl, k1, k3, hR, hx⟩
    refine ⟨⟨by simp; omega, by simp; omega⟩, fun i hi => ?_⟩
    simp only [NLL_len] at hi
    refine ⟨gl L i, by rw [gl_get hi]; simp [NLL, List.getElem?_eq_getElem hi], by rw [hR.len _ (gl_mem hi)], hx _ (gl_mem hi), fun j e u hu _ => ?_⟩
    subst e
    have hj : j < L.length := by omega
    have : u = gl L j := by
      rw [gl_get hj]
      simp only [NLL, List.getElem?_map, List.getElem?_eq_getElem hj, Option.map_some, Option.some.injEq] at hu
      exact (NL_inj hu).symm
    subst this
    exact hR.srt.get (by omega) hi
  · rintro ⟨⟨h1, h3⟩, h⟩
    let L := r.2.map fun t => t.map Int.toNat
    have hL : r.2 = NLL L := by
      apply List.ext_getElem?
      intro i
      by_cases hi : i < r.2.length
      · obtain ⟨t, ht, _⟩ := h i hi
        rw [ht]
        simp only [L, NLL, List.getElem?_map, ht, Option.map_some, NL_toNat]
      · rw [List.getElem?_eq_none (by omega), List.getElem?_eq_none (by simp [L]; omega)]
    have hll : L.length = r.2.length := by simp [L]
    have hg : ∀ i, i < L.length → ∃ t, gl L i = t ∧ r.2[i]? = some (NL t) := fun i hi => ⟨_, rfl, by rw [hL]; simp [NLL, List.getElem?_eq_getElem hi, gl_get hi]⟩
    have hrow : ∀ i, i < L.length → ((gl L i).length : Int) = r.1 ∧ (∀ x ∈ gl L i, x < N) := fun i hi => by
      obtain ⟨t, ht, e1, e2, _⟩ := h i (by omega)
      obtain ⟨u, rfl, hu⟩ := hg i hi
      rw [hu] at ht
      rw [NL_inj (Option.some.inj ht)]
      exact ⟨e1, e2⟩
    refine ⟨r.1.toNat, L, ⟨?_, by omega, by omega, ⟨?_, fun u hu => ?_⟩, fun t ht => ?_⟩⟩
    · obtain ⟨a, b⟩ := r
      simp only at hL h1
      rw [hL]; simp only [Prod.mk.injEq, and_true]; omega
    · refine sorted_of_steps fun i hi => ?_
      obtain ⟨t, ht, e1, e2, e3⟩ := h (i + 1) (by omega)
      obtain ⟨u, rfl, hu⟩ := hg (i + 1) hi
      obtain ⟨v, hv, hv'⟩ := hg i (by omega)
      rw [hu] at ht
      have : gl L (i + 1) = t := NL_inj (Option.some.inj ht)
      rw [this]
      have a := (hrow i (by omega)).1
      rw [hv] at a ⊢
      exact e3 i rfl v hv' (by omega)
    · obtain ⟨i, hi, rfl⟩ := List.mem_iff_getElem.1 hu
      have := (hrow i hi).1
      rw [gl_get hi] at this; omega
    · obtain ⟨i, hi, rfl⟩ := List.mem_iff_getElem.1 ht
      have := (hrow i hi).2
      rw [gl_get hi] at this; exact this

theorem allIn_NL {N : Nat} {t : List Int} : (t.all fun x => decide (0 ≤ x) && decide (x < (N : Int))) = true ↔ ∃ T : List Nat, t = NL T ∧ ∀ x ∈ T, x < N := by
  simp only [List.all_eq_true, Bool.and_eq_true, decide_eq_true_eq]
  constructor
  · intro h
    obtain ⟨T, rfl⟩ := NL_of fun x hx => (h x hx).1
    refine ⟨T, rfl, fun x hx => ?_⟩
    have := (h (x : Int) (List.mem_map.2 ⟨x, hx, rfl⟩)).2
    omega
  · rintro ⟨T, rfl, h⟩ x hx
    obtain ⟨y, hy, rfl⟩ := List.mem_map.1 hx
    have := h y hy
    omega

theorem isRelation_says {N : Nat} {n : Int} (hn : n = (N : Int)) (r : Int × List (List Int)) (hl : r.2.length ≤ 4294967296) : Says (s_impl_isRelation n r) (IsRel N r) := by
  subst hn
  unfold s_impl_isRelation
  by_cases hk : 1 ≤ r.1 ∧ r.1 ≤ 3
  · rw [show ((decide (r.1 < 1)) || (decide (3 < r.1))) = false by simp; omega, cond_false]
    rcases forC0_hoare (R := Bool) (step := fun k26 s24 =>
  (idx r.2 k26).bind fun x30 =>
  (bif ((x30.length : Int) != r.1) then some (.rt false) else (s_impl_inSize x30 (N : Int)).bind fun r36 =>
  (bif (!r36) then some (.rt false) else (bif (decide (0 < k26)) then (idx r.2 (w64 (k26 - 1))).bind fun x39 =>
  (s_impl_compareLists x39 x30).bind fun r44 =>
  (bif (decide (0 ≤ r44)) then some (.rt false) else some (.nx ())) else some (.nx ()))))) (fun j (_ : Unit) => ∀ i, i < j → RowOk N r i) (fun _ => False) (fun b => b = false ∧ ¬ ∀ i, i < r.2.length → RowOk N r i) (n := r.2.length) rfl (by omega) (s := ()) (fun i hi => by omega) (by
      rintro j ⟨⟩ hj hI
      rw [idx_nat, List.getElem?_eq_getElem hj, Option.bind_some]
      have bad : ¬ RowOk N r j → ∃ b : Bool, (some (Ctl.rt (S := Unit) false) = some (Ctl.rt b)) ∧ (b = false ∧ ¬ ∀ i, i < r.2.length → RowOk N r i) := fun h => ⟨false, rfl, rfl, fun H => h (H j hj)⟩
      have rowAt : ∀ t : List Nat, r.2[j]? = some (NL t) → r.2[j] = NL t := fun t ht => by rw [List.getElem?_eq_getElem hj] at ht; exact Option.some.inj ht
      by_cases h1 : ((r.2[j]).length : Int) = r.1
      · rw [show (((r.2[j]).length : Int) != r.1) = false by simp [h1], cond_false, inSize_eq, Option.bind_some]
        by_cases h2 : ((r.2[j]).all fun x => decide (0 ≤ x) && decide (x < (N : Int))) = true
        · obtain ⟨T, hT, hTx⟩ := allIn_NL.1 h2
          rw [h2]
          simp only [Bool.not_true, cond_false]
          have hrj : r.2[j]? = some (NL T) := by rw [List.getElem?_eq_getElem hj, hT]
          have hTl : (T.length : Int) = r.1 := by rw [hT, NL_len] at h1; exact h1
          cases j with
          | zero =>
            left
            refine ⟨(), rfl, fun i hi => ?_⟩
            obtain rfl : i = 0 := by omega
            exact ⟨T, hrj, hTl, hTx, fun j e => by omega⟩
          | succ j =>
            obtain ⟨u, hu, hul, hux, _⟩ := hI j (by omega)
            rw [show decide ((0 : Int) < ((j + 1 : Nat) : Int)) = true by simp, cond_true, show w64 (((j + 1 : Nat) : Int) - 1) = (j : Int) by rw [w64_id (by omega) (by omega)]; omega, idx_nat, hu, Option.bind_some, hT, compareLists_eq (by omega), Option.bind_some]
            have hsame : u.length = T.length := by omega
            have hc := cmpL_lt (a := u) (b := T) hsame
            cases hlt : lexLt u T with
            | true =>
              left
              rw [hlt] at hc
              have := hc.2 rfl
              rw [show decide (0 ≤ cmpL u T) = false by simp; omega]
              refine ⟨(), rfl, fun i hi => ?_⟩
              by_cases e : i = j + 1
              · subst e
                refine ⟨T, hrj, hTl, hTx, fun j' e' u' hu' _ => ?_⟩
                obtain rfl : j' = j := by omega
                rw [hu] at hu'
                rw [← NL_inj (Option.some.inj hu')]; exact hlt
              · exact hI i (by omega)
            | false =>
              right; right
              rw [hlt] at hc
              have : 0 ≤ cmpL u T := by
                rcases Int.lt_or_le (cmpL u T) 0 with h | h
                · have := hc.1 h; cases this
                · exact h
              rw [show decide (0 ≤ cmpL u T) = true by simpa using this, cond_true]
              refine bad ?_
              rintro ⟨t, ht, _, _, h4⟩
              rw [hrj] at ht
              obtain rfl := NL_inj (Option.some.inj ht)
              have := h4 j rfl u hu hsame
              rw [hlt] at this; cases this
        · right; right
          rw [Bool.not_eq_true] at h2
          rw [h2]
          refine bad ?_
          rintro ⟨t, ht, _, h3, _⟩
          rw [rowAt t ht] at h2
          have := (allIn_NL (t := NL t)).2 ⟨t, rfl, h3⟩
          rw [h2] at this; cases this
      · right; right
        rw [show (((r.2[j]).length : Int) != r.1) = true by simp [h1], cond_true]
        refine bad ?_
        rintro ⟨t, ht, h3, _⟩
        rw [rowAt t ht, NL_len] at h1
        exact h1 h3) with ⟨s', e, h | h⟩ | ⟨b, e, rfl, h⟩
    · exact .yes (by rw [e]; rfl) (isRel_iff.2 ⟨hk, h⟩)
    · exact h.elim
    · exact .no (by rw [e]; rfl) (fun H => h (isRel_iff.1 H).2)
  · rw [show ((decide (r.1 < 1)) || (decide (3 < r.1))) = true by simp; omega]
    exact .no rfl (fun H => hk (isRel_iff.1 H).1)


theorem l2Elements_eq {n : Int} (hn : -9223372036854775807 ≤ n) (hn' : n ≤ 9223372036854775807) (l : List Int) (hl : l.length ≤ 9223372036854775807) : s_spec_l2Elements n l = some (l.all fun x => decide (0 ≤ x) && decide (x < n)) := by
  unfold s_spec_l2Elements
  rw [w64_id (by omega) (by omega), forC0_chk (n := l.length) (fun j => decide (0 ≤ l[j]?.getD 0) && decide (l[j]?.getD 0 < n)) false rfl hl]
  · rw [all_range l (fun x => decide (0 ≤ x) && decide (x < n)) 0]
    cases l.all fun x => decide (0 ≤ x) && decide (x < n) <;> rfl
  · intro j hj
    simp only [idx_nat, List.getElem?_eq_getElem hj, Option.bind_some, Option.getD_some, l1In_eq]
    have : decide (l[j] ≤ n - 1) = decide (l[j] < n) := by rw [decide_eq_decide]; omega
    rw [this]
    cases decide (0 ≤ l[j]) && decide (l[j] < n) <;> rfl

theorem l13Good_says {N : Nat} {n : Int} (hn : n = (N : Int)) (h1 : 1 ≤ N) (h8 : N ≤ 8) (r : Int × List (List Int)) (hl : r.2.length ≤ 4294967296) (hr : ∀ t ∈ r.2, t.length ≤ 4294967296) : Says (s_spec_l13Good n r) (IsRel N r) := by
  subst hn
  unfold s_spec_l13Good
  rw [l1In_eq, Option.bind_some]
  by_cases hk : 1 ≤ r.1 ∧ r.1 ≤ 3
  · obtain ⟨K, hK⟩ : ∃ K : Nat, r.1 = (K : Int) := ⟨r.1.toNat, by omega⟩
    have h512 := pow_le_512 h8 (show K ≤ 3 by omega)
    rw [show (decide (1 ≤ r.1) && decide (r.1 ≤ 3)) = true by simp [hk], Bool.not_true, cond_false, l2Pow_eq (N := N) (K := K) rfl hK h1 (by omega) (by omega), Option.bind_some, Option.bind_some, dec_lt]
    by_cases hlen : r.2.length ≤ N ^ K
    · rw [show decide (N ^ K < r.2.length) = false by simpa using hlen, cond_false]
      rcases forC0_hoare (R := Bool) (step := fun k82 s80 =>
  (idx r.2 k82).bind fun x87 =>
  (s_spec_l8Tuple (N : Int) r.1 x87).bind fun r92 =>
  (bif (!r92) then some (.rt false) else (bif (decide (0 < k82)) then (idx r.2 (w64 (k82 - 1))).bind fun x95 =>
  (idx r.2 k82).bind fun x99 =>
  (s_spec_l3Less x95 x99).bind fun r104 =>
  (bif (!r104) then some (.rt false) else some (.nx ())) else some (.nx ())))) (fun j (_ : Unit) => ∀ i, i < j → RowOk N r i) (fun _ => False) (fun b => b = false ∧ ¬ ∀ i, i < r.2.length → RowOk N r i) (n := r.2.length) rfl (by omega) (s := ()) (fun i hi => by omega) (by
      rintro j ⟨⟩ hj hI
      rw [idx_nat, List.getElem?_eq_getElem hj, Option.bind_some]
      have bad : ¬ RowOk N r j → ∃ b : Bool, (some (Ctl.rt (S := Unit) false) = some (Ctl.rt b)) ∧ (b = false ∧ ¬ ∀ i, i < r.2.length → RowOk N r i) := fun h => ⟨false, rfl, rfl, fun H => h (H j hj)⟩
      have rowAt : ∀ t : List Nat, r.2[j]? = some (NL t) → r.2[j] = NL t := fun t ht => by rw [List.getElem?_eq_getElem hj] at ht; exact Option.some.inj ht
      have e : s_spec_l8Tuple (N : Int) r.1 r.2[j] = some (((r.2[j].length : Int) == r.1) && (r.2[j].all fun x => decide (0 ≤ x) && decide (x < (N : Int)))) := by
        unfold s_spec_l8Tuple
        rw [l2Elements_eq (by omega) (by omega) _ (by have := hr _ (List.getElem_mem hj); omega)]
        cases (r.2[j].length : Int) == r.1 <;> rfl
      rw [e, Option.bind_some]
      by_cases h1 : ((r.2[j]).length : Int) = r.1
      · rw [show (((r.2[j]).length : Int) == r.1) = true by simp [h1], Bool.true_and]
        by_cases h2 : ((r.2[j]).all fun x => decide (0 ≤ x) && decide (x < (N : Int))) = true
        · obtain ⟨T, hT, hTx⟩ := allIn_NL.1 h2
          rw [h2]
          simp only [Bool.not_true, cond_false]
          have hrj : r.2[j]? = some (NL T) := by rw [List.getElem?_eq_getElem hj, hT]
          have hTl : (T.length : Int) = r.1 := by rw [hT, NL_len] at h1; exact h1
          cases j with
          | zero =>
            left
            refine ⟨(), rfl, fun i hi => ?_⟩
            obtain rfl : i = 0 := by omega
            exact ⟨T, hrj, hTl, hTx, fun j e => by omega⟩
          | succ j =>
            obtain ⟨u, hu, hul, hux, _⟩ := hI j (by omega)
            rw [show decide ((0 : Int) < ((j + 1 : Nat) : Int)) = true by simp, cond_true, show w64 (((j + 1 : Nat) : Int) - 1) = (j : Int) by rw [w64_id (by omega) (by omega)]; omega, idx_nat, hu, Option.bind_some, hT, Option.bind_some, l3Less_eq (by omega) (by omega), Option.bind_some]
            have hsame : u.length = T.length := by omega
            cases hlt : lexLt u T with
            | true =>
              left
              refine ⟨(), rfl, fun i hi => ?_⟩
              by_cases e : i = j + 1
              · subst e
                refine ⟨T, hrj, hTl, hTx, fun j' e' u' hu' _ => ?_⟩
                obtain rfl : j' = j := by omega
                rw [hu] at hu'
                rw [← NL_inj (Option.some.inj hu')]; exact hlt
              · exact hI i (by omega)
            | false =>
              right; right
              refine bad ?_
              rintro ⟨t, ht, _, _, h4⟩
              rw [hrj] at ht
              obtain rfl := NL_inj (Option.some.inj ht)
              have := h4 j rfl u hu hsame
              rw [hlt] at this; cases this
        · right; right
          rw [Bool.not_eq_true] at h2
          rw [h2]
          refine bad ?_
          rintro ⟨t, ht, _, h3, _⟩
          rw [rowAt t ht] at h2
          have := (allIn_NL (t := NL t)).2 ⟨t, rfl, h3⟩
          rw [h2] at this; cases this
      · right; right
        rw [show (((r.2[j]).length : Int) == r.1) = false by simp [h1]]
        refine bad ?_
        rintro ⟨t, ht, h3, _⟩
        rw [rowAt t ht, NL_len] at h1
        exact h1 h3) with ⟨s', e, h | h⟩ | ⟨b, e, rfl, h⟩
      · exact .yes (by rw [e]; rfl) (isRel_iff.2 ⟨hk, h⟩)
      · exact h.elim
      · exact .no (by rw [e]; rfl) (fun H => h (isRel_iff.1 H).2)
    · rw [show decide (N ^ K < r.2.length) = true by simp; omega]
      refine .no rfl ?_
      rintro ⟨k, L, rfl, _, _, hR, hx⟩
      have := sorted_len hR hx
      simp only [NLL_len] at hlen
      obtain rfl : k = K := by simp at hK; omega
      omega
  · rw [show (decide (1 ≤ r.1) && decide (r.1 ≤ 3)) = false by rw [Bool.eq_false_iff]; simp; omega]
    exact .no rfl (fun H => hk (isRel_iff.1 H).1)



def NLo (L : List (List Int)) : List (List Nat) := L.map fun t => t.map Int.toNat

theorem NLo_NLL (L : List (List Nat)) : NLo (NLL L) = L := by
  unfold NLo NLL
  rw [List.map_map]
  exact (List.map_congr_left fun x _ => by simp [NL_toNat]).trans (List.map_id L)

def cS (c : Con) : List Nat := c.1.map Int.toNat

def cL (c : Con) : List (List Nat) := NLo c.2.2

/-- A constraint on V variables with N values. -/
structure ConN (V N : Nat) (c : Con) : Prop where
  rel : RelN N (cS c).length c.2 (cL c)
  scope : c.1 = NL (cS c)
  lt : ∀ x ∈ cS c, x < V

theorem conN_of {V N k : Nat} {S : List Nat} {L : List (List Nat)} {c : Con} (h : RelN N k c.2 L) (hS : c.1 = NL S) (hk : S.length = k) (hV : ∀ x ∈ S, x < V) : ConN V N c := by
  have e1 : cS c = S := by unfold cS; rw [hS, NL_toNat]
  have e2 : cL c = L := by unfold cL; rw [h.eq]; exact NLo_NLL L
  exact ⟨by rw [e1, e2, hk]; exact h, by rw [e1, hS], by rw [e1]; exact hV⟩

theorem con_iff {V N : Nat} {c : Con} : ConN V N c ↔ IsRel N c.2 ∧ (c.1.length : Int) = c.2.1 ∧ (c.1.all fun x => decide (0 ≤ x) && decide (x < (V : Int))) = true := by
  constructor
  · rintro ⟨h1, h2, h3⟩
    refine ⟨⟨_, _, h1⟩, by rw [h2, NL_len, h1.eq], ?_⟩
    rw [h2]; exact allIn_NL.2 ⟨_, rfl, h3⟩
  · rintro ⟨⟨k, L, h⟩, hl, ha⟩
    obtain ⟨S, hS, hV⟩ := allIn_NL.1 ha
    exact conN_of h hS (by rw [hS, NL_len, h.eq] at hl; simp at hl; omega) hV

theorem isConstraint_says {V N : Nat} (c : Con) (hl : c.2.2.length ≤ 4294967296) : Says (s_impl_isConstraint (V : Int) (N : Int) c) (ConN V N c) := by
  refine Says.iff ?_ con_iff.symm
  unfold s_impl_isConstraint
  rcases (isRelation_says (N := N) rfl c.2 hl).cases with ⟨e, h⟩ | ⟨e, h⟩
  · have e : s_impl_isRelation (N : Int) (c.2.1, c.2.2) = some true := e
    rw [e, Option.bind_some, cond_true, inSize_eq]
    by_cases h2 : (c.1.length : Int) = c.2.1
    · rw [show ((c.1.length : Int) == c.2.1) = true by simp [h2], cond_true, Option.bind_some]
      exact ⟨_, rfl, ⟨fun x => ⟨h, h2, x⟩, fun x => x.2.2⟩⟩
    · rw [show ((c.1.length : Int) == c.2.1) = false by simp [h2]]
      exact .no rfl (fun H => h2 H.2.1)
  · have e : s_impl_isRelation (N : Int) (c.2.1, c.2.2) = some false := e
    rw [e]
    exact .no rfl (fun H => h H.1)

theorem l19Is_says {V N : Nat} (hV : V ≤ 4294967296) (h1 : 1 ≤ N) (h8 : N ≤ 8) (c : Con) (hc : BC c) : Says (s_spec_l19Is (V : Int) (N : Int) c) (ConN V N c) := by
  refine Says.iff ?_ con_iff.symm
  have b1 : c.1.length ≤ 1048576 := hc.1
  have b2 : c.2.2.length ≤ 1048576 := hc.2.1
  unfold s_spec_l19Is
  rcases (l13Good_says (N := N) rfl h1 h8 c.2 (by omega) (fun t ht => by have := hc.2.2 t ht; unfold B1 at this; omega)).cases with ⟨e, h⟩ | ⟨e, h⟩
  · have e : s_spec_l13Good (N : Int) (c.2.1, c.2.2) = some true := e
    rw [e, Option.bind_some, cond_true, l2Elements_eq (by omega) (by omega) _ (by omega)]
    by_cases h2 : (c.1.length : Int) = c.2.1
    · rw [show ((c.1.length : Int) == c.2.1) = true by simp [h2], cond_true, Option.bind_some]
      exact ⟨_, rfl, ⟨fun x => ⟨h, h2, x⟩, fun x => x.2.2⟩⟩
    · rw [show ((c.1.length : Int) == c.2.1) = false by simp [h2]]
      exact .no rfl (fun H => h2 H.2.1)
  · have e : s_spec_l13Good (N : Int) (c.2.1, c.2.2) = some false := e
    rw [e]
    exact .no rfl (fun H => h H.1)


structure NetN (net : Net) (V N : Nat) : Prop where
  eV : net.1 = (V : Int)
  eN : net.2.1 = (N : Int)
  v9 : V ≤ 9
  n1 : 1 ≤ N
  n4 : N ≤ 4
  l40 : net.2.2.length ≤ 40
  con : ∀ c ∈ net.2.2, ConN V N c

def IsNet (net : Net) : Prop := ∃ V N, NetN net V N

/-- A test of all elements of a row. -/
theorem range_says {α : Type} (l : List α) (P : α → Prop) (f : α → Option Bool) (h : ∀ x ∈ l, Says (f x) (P x)) : ∀ i : Int, Says ((forR (S := Unit) (R := Bool) (fun _ x s => (f x).bind fun r => (bif (!r) then some (.rt false) else some (.nx ()))) i l ()).bind fun o => after o (fun r_ => some r_) (fun _ => some true)) (∀ x ∈ l, P x) := by
  induction l with
  | nil => intro i; exact .yes rfl (by simp)
  | cons x l ih =>
    intro i
    have := ih (fun y hy => h y (by simp [hy])) (i + 1)
    unfold forR
    rcases (h x (by simp)).cases with ⟨e, hp⟩ | ⟨e, hp⟩
    · rw [e]
      refine Says.iff this ?_
      simp [hp]
    · rw [e]
      exact .no rfl (fun H => hp (H x (by simp)))

theorem count_says {α : Type} (l : List α) (P : α → Prop) (f : α → Option Bool) (hl : l.length ≤ 9223372036854775807) (h : ∀ x ∈ l, Says (f x) (P x)) : Says ((forC (S := Unit) (R := Bool) (fun k s => (idx l k).bind fun x => (f x).bind fun r => (bif (!r) then some (.rt false) else some (.nx ()))) 0 (l.length : Int) ()).bind fun o => after o (fun r_ => some r_) (fun _ => some true)) (∀ x ∈ l, P x) := by
  rcases forC0_hoare (R := Bool) (step := fun k (s : Unit) => (idx l k).bind fun x => (f x).bind fun r => (bif (!r) then some (.rt false) else some (.nx ()))) (fun j _ => ∀ i, i < j → ∀ x, l[i]? = some x → P x) (fun _ => False) (fun b => b = false ∧ ¬ ∀ x ∈ l, P x) (n := l.length) rfl hl (s := ()) (fun i hi => by omega) (by
    rintro j ⟨⟩ hj hI
    rw [idx_nat, List.getElem?_eq_getElem hj, Option.bind_some]
    rcases (h _ (List.getElem_mem hj)).cases with ⟨e, hp⟩ | ⟨e, hp⟩
    · left
      refine ⟨(), by rw [e]; rfl, fun i hi x hx => ?_⟩
      by_cases e' : i = j
      · subst e'
        rw [List.getElem?_eq_getElem hj] at hx
        cases hx; exact hp
      · exact hI i (by omega) x hx
    · right; right
      exact ⟨false, by rw [e]; rfl, rfl, fun H => hp (H _ (List.getElem_mem hj))⟩) with ⟨s', e, h' | h'⟩ | ⟨b, e, rfl, h'⟩
  · refine .yes (by rw [e]; rfl) (fun x hx => ?_)
    obtain ⟨i, hi, rfl⟩ := List.mem_iff_getElem.1 hx
    exact h' i hi _ (List.getElem?_eq_getElem hi)
  · exact h'.elim
  · exact .no (by rw [e]; rfl) h'

def NetHead (net : Net) : Prop := 0 ≤ net.1 ∧ net.1 ≤ 9 ∧ 1 ≤ net.2.1 ∧ net.2.1 ≤ 4 ∧ net.2.2.length ≤ 40

theorem isNet_iff {net : Net} (h : NetHead net) : IsNet net ↔ ∀ c ∈ net.2.2, ConN net.1.toNat net.2.1.toNat c := by
  obtain ⟨h0, h9, h1, h4, hl⟩ := h
  constructor
  · rintro ⟨V, N, hn⟩
    have a := hn.eV
    have b := hn.eN
    rw [show net.1.toNat = V by omega, show net.2.1.toNat = N by omega]
    exact hn.con
  · intro h
    exact ⟨net.1.toNat, net.2.1.toNat, by omega, by omega, by omega, by omega, by omega, hl, h⟩

theorem head_of {net : Net} (h : IsNet net) : NetHead net := by
  obtain ⟨V, N, hn⟩ := h
  have a := hn.eV
  have b := hn.eN
  have := hn.v9
  have := hn.n1
  have := hn.n4
  exact ⟨by omega, by omega, by omega, by omega, hn.l40⟩

theorem impl_IsNetwork_says (net : Net) (hb : BN net) : Says (s_impl_IsNetwork net) (IsNet net) := by
  unfold s_impl_IsNetwork s_impl_isTemplateSize
  by_cases h : NetHead net
  · obtain ⟨h0, h9, h1, h4, hl⟩ := id h
    simp only [show decide (net.1 < 0) = false by simp; omega, show decide (9 < net.1) = false by simp; omega, show decide (1 ≤ net.2.1) = true by simpa using h1, show decide (net.2.1 ≤ 4) = true by simpa using h4, cond_false, cond_true, Option.bind_some, Bool.not_true, show decide (40 < (net.2.2.length : Int)) = false by simp; omega]
    refine Says.iff (range_says net.2.2 (ConN net.1.toNat net.2.1.toNat) (fun x24 => s_impl_isConstraint net.1 net.2.1 (x24.1, (x24.2.1, x24.2.2))) (fun c hc => ?_) 0) (isNet_iff h).symm
    have := isConstraint_says (V := net.1.toNat) (N := net.2.1.toNat) c (by have := (hb.2 c hc).2.1; omega)
    rw [show ((net.1.toNat : Nat) : Int) = net.1 by omega, show ((net.2.1.toNat : Nat) : Int) = net.2.1 by omega] at this
    exact this
  · refine .no ?_ (fun H => h (head_of H))
    unfold NetHead at h
    by_cases h0 : net.1 < 0
    · simp [h0]
    by_cases h9 : 9 < net.1
    · simp [h9]
    by_cases h1 : 1 ≤ net.2.1
    · by_cases h4 : net.2.1 ≤ 4
      · simp [h0, h9, h1, h4, show (40 : Int) < (net.2.2.length : Int) by omega]
      · simp [h0, h9, h1, h4]
    · simp [h0, h9, h1]

theorem spec_l19Good_says (net : Net) (hb : BN net) : Says (s_spec_l19Good net) (IsNet net) := by
  unfold s_spec_l19Good
  simp only [l1In_eq, Option.bind_some]
  by_cases h : NetHead net
  · obtain ⟨h0, h9, h1, h4, hl⟩ := id h
    simp only [show decide (0 ≤ net.1) = true by simpa using h0, show decide (net.1 ≤ 9) = true by simpa using h9, show decide (1 ≤ net.2.1) = true by simpa using h1, show decide (net.2.1 ≤ 4) = true by simpa using h4, Bool.and_self, cond_false, Bool.not_true, Option.bind_some, show decide (40 < (net.2.2.length : Int)) = false by simp; omega]
    refine Says.iff (count_says net.2.2 (ConN net.1.toNat net.2.1.toNat) (fun x29 => s_spec_l19Is net.1 net.2.1 (x29.1, (x29.2.1, x29.2.2))) (by omega) (fun c hc => ?_)) (isNet_iff h).symm
    have := l19Is_says (V := net.1.toNat) (N := net.2.1.toNat) (by omega) (by omega) (by omega) c (hb.2 c hc)
    rw [show ((net.1.toNat : Nat) : Int) = net.1 by omega, show ((net.2.1.toNat : Nat) : Int) = net.2.1 by omega] at this
    exact this
  · refine .no ?_ (fun H => h (head_of H))
    unfold NetHead at h
    by_cases h0 : 0 ≤ net.1
    · by_cases h9 : net.1 ≤ 9
      · by_cases h1 : 1 ≤ net.2.1
        · by_cases h4 : net.2.1 ≤ 4
          · simp [h0, h9, h1, h4, show (40 : Int) < (net.2.2.length : Int) by omega]
          · simp [h0, h9, h1, h4]
        · simp [h0, h9, h1]
      · simp [h0, h9]
    · simp [h0]

def OkNet (net : Net) : Prop := OkP OkI (OkP OkI (OkL (OkP (OkL OkI) (OkP OkI (OkL (OkL OkI)))))) net

theorem OkNet.sz {net : Net} (h : OkNet net) : SzOk s_laws_szNetwork BN net :=
  szNetwork_ok net h.2.2.1 (fun c hc => by
    have := h.2.2.2 c hc
    exact ⟨this.1.1, this.2.2.1, fun x hx => (this.2.2.2 x hx).1⟩)


theorem clone_eq {l : List Int} (h : l.length ≤ 4294967296) : s_impl_clone l = some l := by
  unfold s_impl_clone; rw [app_ok (by simpa using h)]; rfl

theorem l1Own_eq {l : List Int} (h : l.length ≤ 4294967296) : s_spec_l1Own l = some l := by
  unfold s_spec_l1Own; rw [app_ok (by simpa using h)]; rfl

theorem flat_self {α : Type} (l : List α) : (l.flatMap fun x => [x]) = l := by
  induction l with
  | nil => rfl
  | cons x l ih => rw [List.flatMap_cons, ih]; rfl

theorem cloneRows_eq {L : List (List Int)} (h : B2 L) : s_impl_cloneRows L = some L := by
  have hl := h.1
  unfold s_impl_cloneRows
  rw [forR_flat (fun x => [x]) 0 L []]
  · rw [Option.bind_some, after_br', List.nil_append, flat_self]
  · intro i pre post x e
    have hx : x.length ≤ 1048576 := h.2 x (by rw [e]; simp)
    have hp : pre.length + 1 ≤ L.length := by rw [e]; simp
    rw [clone_eq (by omega), Option.bind_some, flat_self, List.nil_append, app_ok (by simp; omega)]; rfl

theorem cloneConstraints_eq {L : List Con} (hl : L.length ≤ 1048576) (h : ∀ c ∈ L, BC c) : s_impl_cloneConstraints L = some L := by
  unfold s_impl_cloneConstraints
  rw [forR_flat (fun x => [x]) 0 L []]
  · rw [Option.bind_some, after_br', List.nil_append, flat_self]
  · intro i pre post x e
    have hx := h x (by rw [e]; simp)
    have h1 : x.1.length ≤ 1048576 := hx.1
    have hp : pre.length + 1 ≤ L.length := by rw [e]; simp
    have e1 : s_impl_cloneRelation (x.2.1, x.2.2) = some x.2 := by
      unfold s_impl_cloneRelation
      rw [cloneRows_eq hx.2]; rfl
    rw [clone_eq (by omega), Option.bind_some, e1, Option.bind_some, flat_self, List.nil_append, app_ok (by simp; omega)]; rfl

theorem l19Copy_eq {L : List Con} (hl : L.length ≤ 1048576) (h : ∀ c ∈ L, BC c) : s_spec_l19Copy L = some L := by
  unfold s_spec_l19Copy
  rw [forC0_flat (fun j => (L[j]?).toList) [] rfl (by omega)]
  · rw [Option.bind_some, after_br', List.nil_append]
    congr 1
    have : ∀ n, n ≤ L.length → (List.range n).flatMap (fun j => (L[j]?).toList) = L.take n := by
      intro n
      induction n with
      | zero => intro _; rfl
      | succ n ih => intro hn; rw [List.range_succ, List.flatMap_append, ih (by omega), List.take_succ_eq_append_getElem (by omega)]; simp [List.getElem?_eq_getElem (show n < L.length by omega)]
    rw [this _ (Nat.le_refl _), List.take_length]
  · intro j hj
    have hx := h _ (List.getElem_mem hj)
    have h1 : (L[j]).1.length ≤ 1048576 := hx.1
    have h2 : (L[j]).2.2.length ≤ 1048576 := hx.2.1
    simp only [idx_nat, List.getElem?_eq_getElem hj, Option.bind_some]
    rw [l1Own_eq (by omega), Option.bind_some]
    rw [iter_br (s := ((0 : Int), ([] : List (List Int)))) (fun i => ((i : Int), (L[j]).2.2.take i)) (t := (((L[j]).2.2.length : Int), (L[j]).2.2)) (L[j]).2.2.length (by omega) (by rfl)]
    · rw [Option.bind_some, after_br', app_ok]
      · simp
      · have : ((List.range j).flatMap fun j => (L[j]?).toList).length ≤ j := by
          rw [List.length_flatMap]
          have : ∀ l : List Nat, (l.map fun a => ((L[a]?).toList).length).sum ≤ l.length := by
            intro l
            induction l with
            | nil => simp
            | cons b l ih =>
              simp only [List.map_cons, List.sum_cons, List.length_cons]
              have : ((L[b]?).toList).length ≤ 1 := by cases L[b]? <;> simp
              omega
          simpa using this (List.range j)
        simp only [List.nil_append, List.length_cons, List.length_nil]
        omega
    · intro i hi
      have hr : ((L[j]).2.2[i]).length ≤ 1048576 := hx.2.2 _ (List.getElem_mem hi)
      simp only [dec_lt, show decide (i < (L[j]).2.2.length) = true by simpa using hi, cond_true, idx_nat, List.getElem?_eq_getElem hi, Option.bind_some]
      rw [l1Own_eq (by omega), Option.bind_some, app_ok (by simp; omega), Option.bind_some, w64_add1 (by omega), List.take_succ_eq_append_getElem hi]
    · simp

theorem l19Give_eq (net : Net) (hb : BN net) (hN : IsNet net ↔ net.2.2.length ≤ 40) : s_spec_l19Give net = some (bif decide (40 < net.2.2.length) then ((0, 0, []), false) else (net, true)) := by
  unfold s_spec_l19Give
  rcases (spec_l19Good_says net hb).cases with ⟨e, h⟩ | ⟨e, h⟩
  · have e : s_spec_l19Good (net.1, net.2.1, net.2.2) = some true := e
    have := hN.1 h
    rw [e, show decide (40 < net.2.2.length) = false by simp; omega]; rfl
  · have e : s_spec_l19Good (net.1, net.2.1, net.2.2) = some false := e
    have : 40 < net.2.2.length := by
      rcases Nat.lt_or_ge 40 net.2.2.length with h1 | h1
      · exact h1
      · exact absurd (hN.2 h1) h
    rw [e, show decide (40 < net.2.2.length) = true by simpa using this]; rfl

theorem con_BC {V N : Nat} (h8 : N ≤ 8) {c : Con} (h : ConN V N c) : BC c := by
  have hk := h.rel.k3
  have := sorted_len h.rel.rel h.rel.lt
  have := pow_le_512 h8 hk
  refine ⟨?_, ?_, ?_⟩
  · unfold B1; rw [h.scope, NL_len]; omega
  · rw [h.rel.eq, NLL_len]; omega
  · rw [h.rel.eq]
    intro x hx
    obtain ⟨t, ht, rfl⟩ := List.mem_map.1 hx
    unfold B1; rw [NL_len, h.rel.rel.len t ht]; omega

/-- What a network with the constraints l gives. -/
def giveR (V N : Int) (l : List Con) : Net × Bool := bif decide (40 < l.length) then ((0, 0, []), false) else ((V, N, l), true)

theorem spec_give {V N : Nat} {l : List Con} (hV : V ≤ 9) (h1 : 1 ≤ N) (h4 : N ≤ 4) (hl : l.length ≤ 1048576) (h : ∀ c ∈ l, ConN V N c) : s_spec_l19Give ((V : Int), (N : Int), l) = some (giveR (V : Int) (N : Int) l) := by
  refine l19Give_eq _ ⟨hl, fun c hc => con_BC (by omega) (h c hc)⟩ ⟨?_, fun h40 => ⟨V, N, rfl, rfl, hV, h1, h4, h40, h⟩⟩
  rintro ⟨V', N', hn⟩
  exact hn.l40

theorem impl_give (net : Net) (l : List Con) : s_impl_withConstraints net l = some (giveR net.1 net.2.1 l) := by
  unfold s_impl_withConstraints giveR
  have : decide ((40 : Int) < (l.length : Int)) = decide (40 < l.length) := by rw [decide_eq_decide]; omega
  rw [this]
  cases decide (40 < l.length) <;> rfl

theorem impl_give_take (net : Net) (l : List Con) : s_impl_withConstraints__take1 net l = some (giveR net.1 net.2.1 l) := impl_give net l

theorem givR_BN {V N : Nat} {l : List Con} (h4 : N ≤ 4) (h : ∀ c ∈ l, ConN V N c) : BN (giveR (V : Int) (N : Int) l).1 := by
  unfold giveR
  cases hd : decide (40 < l.length) with
  | true => exact ⟨by simp, by simp⟩
  | false =>
    have : l.length ≤ 40 := by simpa using hd
    exact ⟨by simp only [cond_false]; omega, fun c hc => con_BC (by omega) (h c hc)⟩


theorem net_cases (net : Net) (hb : BN net) : (∃ V N, NetN net V N ∧ s_spec_l19Good (net.1, net.2.1, net.2.2) = some true ∧ s_impl_IsNetwork (net.1, net.2.1, net.2.2) = some true) ∨
    (¬ IsNet net ∧ s_spec_l19Good (net.1, net.2.1, net.2.2) = some false ∧ s_impl_IsNetwork (net.1, net.2.1, net.2.2) = some false) := by
  rcases (spec_l19Good_says net hb).cases with ⟨e, h⟩ | ⟨e, h⟩
  · rcases (impl_IsNetwork_says net hb).cases with ⟨e', _⟩ | ⟨_, h'⟩
    · obtain ⟨V, N, hn⟩ := h; exact .inl ⟨V, N, hn, e, e'⟩
    · exact absurd h h'
  · rcases (impl_IsNetwork_says net hb).cases with ⟨_, h'⟩ | ⟨e', _⟩
    · exact absurd h' h
    · exact .inr ⟨h, e, e'⟩

theorem fixed_con {V N v x : Nat} (hv : v < V) (hx : x < N) : ConN V N ([(v : Int)], (1, [[(x : Int)]])) := by
  refine conN_of (k := 1) (S := [v]) (L := [[x]]) ⟨rfl, by omega, by omega, ⟨List.pairwise_singleton _ _, by simp⟩, by simpa using hx⟩ rfl rfl (by simpa using hv)

theorem FixVariable_same (net : Net) (v x : Int) (hb : BN net) : ∃ z, s_spec_FixVariable (net.1, net.2.1, net.2.2) v x = some z ∧ s_impl_FixVariable (net.1, net.2.1, net.2.2) v x = some z ∧ BN z.1 := by
  unfold s_spec_FixVariable s_impl_FixVariable
  have hz : BN ((0, 0, []) : Net) := ⟨by simp, by simp⟩
  rcases net_cases net hb with ⟨V, N, hn, e1, e2⟩ | ⟨h, e1, e2⟩
  · have hV := hn.v9
    have hN := hn.n4
    have hN1 := hn.n1
    have a1 := hn.eV
    have a2 := hn.eN
    simp only [e1, e2, Option.bind_some, Bool.not_true, cond_false, l1In_eq, w64_id (show -9223372036854775808 ≤ net.1 - 1 by omega) (show net.1 - 1 ≤ 9223372036854775807 by omega), w64_id (show -9223372036854775808 ≤ net.2.1 - 1 by omega) (show net.2.1 - 1 ≤ 9223372036854775807 by omega)]
    by_cases h1 : 0 ≤ v ∧ v < net.1
    · by_cases h2 : 0 ≤ x ∧ x < net.2.1
      · obtain ⟨v', rfl⟩ : ∃ k : Nat, v = (k : Int) := ⟨v.toNat, by omega⟩
        obtain ⟨x', rfl⟩ : ∃ k : Nat, x = (k : Int) := ⟨x.toNat, by omega⟩
        have hc : ∀ c ∈ net.2.2 ++ [(([((v' : Nat) : Int)], (1, [[((x' : Nat) : Int)]])) : Con)], ConN V N c := by
          intro c hc
          rcases List.mem_append.1 hc with hc | hc
          · exact hn.con c hc
          · rw [List.mem_singleton.1 hc]; exact fixed_con (by omega) (by omega)
        have h40 := hn.l40
        have hl : (net.2.2 ++ [(([((v' : Nat) : Int)], (1, [[((x' : Nat) : Int)]])) : Con)]).length ≤ 1048576 := by simp; omega
        have g := spec_give hV hN1 hN hl hc
        have g' : s_spec_l19Give__take0 (net.1, net.2.1, net.2.2 ++ [(([((v' : Nat) : Int)], (1, [[((x' : Nat) : Int)]])) : Con)]) = some (giveR (V : Int) (N : Int) (net.2.2 ++ [(([((v' : Nat) : Int)], (1, [[((x' : Nat) : Int)]])) : Con)])) := by rw [a1, a2]; exact g
        simp only [show (decide ((0 : Int) ≤ ((v' : Nat) : Int)) && decide (((v' : Nat) : Int) ≤ net.1 - 1)) = true by simp; omega, show (decide ((0 : Int) ≤ ((x' : Nat) : Int)) && decide (((x' : Nat) : Int) ≤ net.2.1 - 1)) = true by simp; omega, Bool.not_true, cond_false, Option.bind_some,
          show decide (((v' : Nat) : Int) < 0) = false by simp, show decide (net.1 ≤ ((v' : Nat) : Int)) = false by simp; omega, show decide (((x' : Nat) : Int) < 0) = false by simp, show decide (net.2.1 ≤ ((x' : Nat) : Int)) = false by simp; omega,
          l19Copy_eq hb.1 hb.2, cloneConstraints_eq hb.1 hb.2, app_ok (show net.2.2.length + [(([((v' : Nat) : Int)], (1, [[((x' : Nat) : Int)]])) : Con)].length ≤ 4294967296 by simp; omega), g', impl_give_take]
        refine ⟨_, rfl, ?_, givR_BN hN hc⟩
        rw [a1, a2]
      · refine ⟨((0, 0, []), false), ?_, ?_, hz⟩
        · simp only [show (decide ((0 : Int) ≤ v) && decide (v ≤ net.1 - 1)) = true by simp; omega, show (decide ((0 : Int) ≤ x) && decide (x ≤ net.2.1 - 1)) = false by rw [Bool.eq_false_iff]; simp; omega, Bool.not_true, Bool.not_false, cond_false, cond_true, Option.bind_some]
        · by_cases h3 : x < 0
          · simp only [show decide (v < 0) = false by simp; omega, show decide (net.1 ≤ v) = false by simp; omega, show decide (x < 0) = true by simpa using h3, cond_false, cond_true, Option.bind_some]
          · simp only [show decide (v < 0) = false by simp; omega, show decide (net.1 ≤ v) = false by simp; omega, show decide (x < 0) = false by simpa using h3, show decide (net.2.1 ≤ x) = true by simp; omega, cond_false, cond_true, Option.bind_some]
    · refine ⟨((0, 0, []), false), ?_, ?_, hz⟩
      · simp only [show (decide ((0 : Int) ≤ v) && decide (v ≤ net.1 - 1)) = false by rw [Bool.eq_false_iff]; simp; omega, Bool.not_false, cond_true, Option.bind_some]
      · by_cases h3 : v < 0
        · simp only [show decide (v < 0) = true by simpa using h3, cond_true, Option.bind_some]
        · simp only [show decide (v < 0) = false by simpa using h3, show decide (net.1 ≤ v) = true by simp; omega, cond_false, cond_true, Option.bind_some]
  · refine ⟨((0, 0, []), false), ?_, ?_, hz⟩ <;> simp only [e1, e2, Option.bind_some, Bool.not_false, cond_true]

theorem s_laws_FnExactFixVariable_ok (net : Net) (v x : Int) (hn : OkP OkI (OkP OkI (OkL (OkP (OkL OkI) (OkP OkI (OkL (OkL OkI)))))) net) (_ : OkI v) (_ : OkI x) : s_laws_FnExactFixVariable net v x = some true := by
  unfold s_laws_FnExactFixVariable
  obtain ⟨u, hu, hb⟩ := OkNet.sz hn 1048576 (by omega) (by omega)
  have hu : s_laws_szNetwork (net.1, net.2.1, net.2.2) 1048576 = some u := hu
  rw [hu, Option.bind_some]
  by_cases hneg : u < 0
  · rw [show decide (u < 0) = true by simpa using hneg]; rfl
  rcases hb with hb | ⟨hb, _, _⟩
  · exact absurd hb hneg
  have e1 : s_laws_toNetwork (net.1, net.2.1, net.2.2) = some net := toNetwork_ok net hb
  have e2 : s_laws_eqNetwork (net.1, net.2.1, net.2.2) (net.1, net.2.1, net.2.2) = some true := eqNetwork_refl net hb
  obtain ⟨⟨g, b⟩, z1, z2, hg⟩ := FixVariable_same net v x hb
  have e3 : s_laws_eqNetwork (g.1, g.2.1, g.2.2) (g.1, g.2.1, g.2.2) = some true := eqNetwork_refl g hg
  obtain ⟨k1, t1, m1, _, m2, m3⟩ := markNetwork_ok net hb 1 (by omega) (by omega)
  obtain ⟨k2, t2, m4, m5, m6, m7⟩ := markNetwork_ok g hg 1 (by omega) (by omega)
  have m1 : s_laws_markNetwork (net.1, net.2.1, net.2.2) 1 = some (k1, t1) := m1
  have m4 : s_laws_markNetwork (g.1, g.2.1, g.2.2) 1 = some (k2, t2) := m4
  simp only [show decide (u < 0) = false by simpa using hneg, cond_false, e1, e2, e3, Option.bind_some, z1, z2, m1, m4, m5, neg_dec' m2, neg_dec' m6, beq_self_eq_true, bne_self_eq_false, Bool.not_true]

/-- P is finer than Q. -/
def Fin (N : Nat) (P Q : List Nat) : Prop := ∀ x y, x < N → y < N → ga P x = ga P y → ga Q x = ga Q y

theorem Fin.trans {N : Nat} {P Q R : List Nat} (h : Fin N P Q) (h' : Fin N Q R) : Fin N P R := fun x y hx hy e => h' x y hx hy (h x y hx hy e)

end Go.Proofs
