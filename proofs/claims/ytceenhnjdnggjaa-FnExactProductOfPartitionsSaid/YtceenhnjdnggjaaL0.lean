/- Plain lemmas on what the functions compute, up to: the law gives true. No conditions. -/
import Derived.Test.YtceenhnjdnggjaaF1
import Derived.Test.YtceenhnjdnggjaaGPure
import Derived.Test.YtceenhnjdnggjaaGOpen
import Derived.Test.YtceenhnjdnggjaaGLoop
set_option linter.unusedVariables false
namespace Go.Proofs
open Go.G
set_option maxRecDepth 100000

theorem l6Size_eq (n : Int) : s_spec_l6Size n = some (decide (1 ≤ n ∧ n ≤ 8)) := by
  unfold s_spec_l6Size s_spec_l1In
  by_cases h : 1 ≤ n <;> by_cases h' : n ≤ 8 <;> simp [h, h']

theorem isSize_eq (n : Int) : s_impl_isSize n = some (decide (1 ≤ n ∧ n ≤ 8)) := by
  unfold s_impl_isSize
  by_cases h : 1 ≤ n <;> by_cases h' : n ≤ 8 <;> simp [h, h']


theorem eqIntS_eq (a b : List Int) (ha : a.length ≤ 4294967296) : s_laws_eqIntS a b = some (a == b) := by
  unfold s_laws_eqIntS
  by_cases hl : a.length = b.length
  · rw [hl]
    simp only [bne_self_eq_false, cond_false]
    rw [forC0_chk (n := b.length) (fun j => a[j]? == b[j]?) false rfl (by omega)]
    · have : (a == b) = (List.range b.length).all (fun j => a[j]? == b[j]?) := by
        rw [Bool.eq_iff_iff]
        simp only [beq_iff_eq, List.all_eq_true, List.mem_range]
        constructor
        · rintro rfl j _; rfl
        · intro h; apply List.ext_getElem?; intro j
          by_cases hj : j < b.length
          · exact h j hj
          · rw [List.getElem?_eq_none (by omega), List.getElem?_eq_none (by omega)]
      rw [← this]
      cases a == b <;> rfl
    · intro j hj
      have hj' : j < a.length := by omega
      simp only [idx_nat, List.getElem?_eq_getElem hj, List.getElem?_eq_getElem hj', Option.bind_some]
      by_cases h : a[j] = b[j]
      · simp [h]
      · simp [bne, beq_eq_false_iff_ne.2 h]
  · have h1 : (a == b) = false := by
      rw [Bool.eq_false_iff]; intro h; exact hl (by rw [beq_iff_eq.1 h])
    have h2 : ((a.length : Int) != (b.length : Int)) = true := by simp; omega
    rw [h1, h2]; rfl

theorem toIntS_eq (a : List Int) (ha : a.length ≤ 4294967296) : s_laws_toIntS a = some a := by
  unfold s_laws_toIntS
  rw [mks_ok rfl ha, Option.bind_some, forC0_set (fun j => a[j]?.getD 0) (z := 0) (n := a.length) rfl ha rfl]
  · rw [Option.bind_some, after_br', map_range_getElem]
  · intro j s hj hs
    simp [List.getElem?_eq_getElem hj, List.getElem?_eq_getElem (show j < s.length by omega)]

/-- The marks k, k + 1, .. -/
def marks (n : Nat) (k : Int) : List Int := (List.range n).map fun j : Nat => k + (j : Int)

theorem markIntS_eq (a : List Int) (k : Int) (ha : a.length ≤ 4294967296) (h0 : 0 ≤ k) (h1 : k ≤ 4611686018427387904) : s_laws_markIntS a k = some (k + (a.length : Int), marks a.length k) := by
  unfold s_laws_markIntS
  rw [iter_br (fun t => (k + (t : Int), (t : Int), marks t k ++ a.drop t)) (t := (k + (a.length : Int), (a.length : Int), marks a.length k)) a.length (by omega)]
  · rfl
  · simp [marks]
  · intro j hj
    have hm : (marks j k).length = j := by simp [marks]
    have hl : (marks j k ++ a.drop j).length = a.length := by simp [hm]; omega
    have e2 : a.drop j = a[j] :: a.drop (j + 1) := by rw [List.drop_eq_getElem_cons hj]
    have hd : decide ((j : Int) < (a.length : Int)) = true := by simp; omega
    simp only [hl, hd, cond_true, idx_nat]
    rw [w64_id (by omega) (by omega), w64_id (by omega) (by omega), e2, List.getElem?_append_right (by omega), hm, Nat.sub_self, List.getElem?_cons_zero, Option.bind_some, Int.toNat_natCast, List.set_append_right _ _ (by omega), hm, Nat.sub_self, List.set_cons_zero]
    have e3 : marks (j + 1) k = marks j k ++ [k + (j : Int)] := by simp [marks, List.range_succ]
    rw [e3]; simp [Int.add_assoc]
  · have hl : (marks a.length k ++ a.drop a.length).length = a.length := by simp [marks]
    simp only [hl]
    simp

theorem heldIntS_eq (n : Nat) (k : Int) (ha : n ≤ 4294967296) (h0 : 0 ≤ k) (h1 : k ≤ 4611686018427387904) : s_laws_heldIntS (marks n k) k = some (k + (n : Int)) := by
  unfold s_laws_heldIntS
  rw [forC0_fn (fun j => k + (j : Int)) (n := n) (by simp [marks]) (by omega) (by simp)]
  · rfl
  · intro j hj
    have : (marks n k)[j]? = some (k + (j : Int)) := by simp [marks, hj]
    simp only [idx_nat, this, Option.bind_some, bne_self_eq_false, cond_false]
    rw [w64_id (by omega) (by omega)]; simp [Int.add_assoc]

theorem l1In_eq (x a b : Int) : s_spec_l1In x a b = some (decide (a ≤ x) && decide (x ≤ b)) := by
  unfold s_spec_l1In
  by_cases h : a ≤ x <;> simp [h]


theorem same_loop (a b : List Int) (ha : a.length ≤ 4294967296) : (
  (bif ((a.length : Int) != (b.length : Int)) then some false else (forC (S := Unit) (R := Bool) (fun k12 s10 =>
  (idx a k12).bind fun x17 =>
  (idx b k12).bind fun x19 =>
  (bif (x17 != x19) then some (.rt false) else some (.nx ()))) 0 (a.length : Int) ()).bind fun o14 => after o14 (fun r_ => some r_) (fun s10 =>
  some true))) = some (a == b) := eqIntS_eq a b ha

theorem l1Same_eq (a b : List Int) (ha : a.length ≤ 4294967296) : s_spec_l1Same a b = some (a == b) := by
  unfold s_spec_l1Same; exact same_loop a b ha


def NL (T : List Nat) : List Int := T.map fun x : Nat => (x : Int)

@[simp] theorem NL_len (T : List Nat) : (NL T).length = T.length := by simp [NL]

@[simp] theorem NL_nil : NL [] = [] := rfl

@[simp] theorem NL_cons (x : Nat) (T : List Nat) : NL (x :: T) = (x : Int) :: NL T := rfl

theorem NL_inj {S T : List Nat} (h : NL S = NL T) : S = T := by
  induction S generalizing T with
  | nil => cases T with
    | nil => rfl
    | cons y T => cases h
  | cons x S ih => cases T with
    | nil => cases h
    | cons y T =>
      simp only [NL_cons, List.cons.injEq] at h
      rw [ih h.2, show x = y by omega]

theorem NL_beq (S T : List Nat) : (NL S == NL T) = (S == T) := by
  rw [Bool.eq_iff_iff, beq_iff_eq, beq_iff_eq]; exact ⟨NL_inj, fun h => by rw [h]⟩

def ga (T : List Nat) (k : Nat) : Nat := T.getD k 0

theorem ga_get {T : List Nat} {k : Nat} (h : k < T.length) : ga T k = T[k] := by simp [ga, List.getElem?_eq_getElem h]

theorem idx_NL {T : List Nat} {k : Nat} (h : k < T.length) : idx (NL T) (k : Int) = some ((ga T k : Nat) : Int) := by
  rw [idx_nat, ga_get h]; simp [NL, List.getElem?_eq_getElem h]

theorem NL_of {t : List Int} (h : ∀ x ∈ t, 0 ≤ x) : ∃ T : List Nat, t = NL T := by
  refine ⟨t.map Int.toNat, ?_⟩
  unfold NL
  rw [List.map_map]
  conv => lhs; rw [← List.map_id t]
  refine List.map_congr_left fun x hx => ?_
  have := h x hx
  simp; omega

theorem w64_add {a b : Nat} (h : a + b ≤ 9223372036854775807) : w64 ((a : Int) + (b : Int)) = ((a + b : Nat) : Int) := by
  rw [w64_id (by omega) (by omega)]; omega

theorem w64_add1 {a : Nat} (h : a + 1 ≤ 9223372036854775807) : w64 ((a : Int) + 1) = ((a + 1 : Nat) : Int) := by
  rw [w64_id (by omega) (by omega)]; omega

theorem w64_div {a b : Nat} (h : a ≤ 9223372036854775807) : w64 (Int.tdiv (a : Int) (b : Int)) = ((a / b : Nat) : Int) := by
  rw [tdiv_nat, w64_nat (Nat.le_trans (Nat.div_le_self _ _) h)]

theorem dec_lt (a b : Nat) : decide ((a : Int) < (b : Int)) = decide (a < b) := by rw [decide_eq_decide]; omega

theorem lin2 {x y N M : Nat} (hx : x < N) (hy : y < M) : x * M + y < N * M := by
  calc x * M + y < x * M + M := by omega
    _ = (x + 1) * M := by rw [Nat.add_mul, Nat.one_mul]
    _ ≤ N * M := Nat.mul_le_mul_right M hx

theorem lin2_div {x y M : Nat} (hy : y < M) : (x * M + y) / M = x := by
  rw [Nat.mul_comm, Nat.mul_add_div (by omega), Nat.div_eq_of_lt hy]; omega

theorem lin2_mod {x y M : Nat} (hy : y < M) : (x * M + y) % M = y := by
  rw [Nat.mul_comm, Nat.mul_add_mod, Nat.mod_eq_of_lt hy]

/-- The value of a ternary table. -/
def t3 (T : List Nat) (N a b c : Nat) : Nat := ga T ((a * N + b) * N + c)

theorem NL_toNat (T : List Nat) : (NL T).map Int.toNat = T := by
  unfold NL; rw [List.map_map]; exact (List.map_congr_left (fun x _ => by simp)).trans (List.map_id T)

theorem bne_nat (a b : Nat) : ((a : Int) != (b : Int)) = !(a == b) := by rw [bne, beq_nat]


def NLL (L : List (List Nat)) : List (List Int) := L.map NL

@[simp] theorem NLL_len (L : List (List Nat)) : (NLL L).length = L.length := by simp [NLL]

@[simp] theorem NLL_nil : NLL [] = [] := rfl

@[simp] theorem NLL_cons (x : List Nat) (L : List (List Nat)) : NLL (x :: L) = NL x :: NLL L := rfl

def gl (L : List (List Nat)) (k : Nat) : List Nat := L.getD k []

theorem gl_get {L : List (List Nat)} {k : Nat} (h : k < L.length) : gl L k = L[k] := by simp [gl, List.getElem?_eq_getElem h]

theorem gl_mem {L : List (List Nat)} {k : Nat} (h : k < L.length) : gl L k ∈ L := by rw [gl_get h]; exact List.getElem_mem h

theorem idx_NLL {L : List (List Nat)} {k : Nat} (h : k < L.length) : idx (NLL L) (k : Int) = some (NL (gl L k)) := by
  rw [idx_nat, gl_get h]; simp [NLL, List.getElem?_eq_getElem h]

def lexLt : List Nat → List Nat → Bool
  | x :: a, y :: b => if x = y then lexLt a b else decide (x < y)
  | _, _ => false

theorem lexLt_irrefl : ∀ a : List Nat, lexLt a a = false
  | [] => rfl
  | x :: a => by simp [lexLt, lexLt_irrefl a]

theorem lexLt_trans : ∀ {a b c : List Nat}, lexLt a b = true → lexLt b c = true → lexLt a c = true
  | [], _, _, h, _ => by simp [lexLt] at h
  | _ :: _, [], _, h, _ => by simp [lexLt] at h
  | _ :: _, _ :: _, [], _, h => by simp [lexLt] at h
  | x :: a, y :: b, z :: c, h, h' => by
    simp only [lexLt] at h h' ⊢
    by_cases h1 : x = y
    · subst h1
      rw [if_pos rfl] at h
      by_cases h2 : x = z
      · subst h2
        rw [if_pos rfl] at h' ⊢
        exact lexLt_trans h h'
      · rw [if_neg h2] at h' ⊢; exact h'
    · rw [if_neg h1, decide_eq_true_eq] at h
      by_cases h2 : y = z
      · subst h2
        rw [if_neg h1]; simp [h]
      · rw [if_neg h2, decide_eq_true_eq] at h'
        rw [if_neg (by omega)]; simp; omega

theorem lexLt_find : ∀ (a b : List Nat), a.length ≤ b.length → lexLt a b = (match (List.range a.length).findSome? (fun j => if ga a j = ga b j then none else some (decide (ga a j < ga b j))) with | none => false | some r => r)
  | [], b, _ => by simp [lexLt]
  | x :: a, [], h => by simp at h
  | x :: a, y :: b, h => by
    have ih := lexLt_find a b (by simpa using h)
    simp only [lexLt, List.length_cons, List.range_succ_eq_map, List.findSome?_cons]
    by_cases e : x = y
    · subst e
      rw [if_pos rfl, ih, if_pos (by simp [ga]), List.findSome?_map]
      have : ((fun j => if ga (x :: a) j = ga (x :: b) j then none else some (decide (ga (x :: a) j < ga (x :: b) j))) ∘ Nat.succ) = fun j => if ga a j = ga b j then none else some (decide (ga a j < ga b j)) := by
        funext j; simp [ga]
      rw [this]
    · rw [if_neg e, if_neg (by simpa [ga] using e)]
      simp [ga]

theorem l3Less_eq {a b : List Nat} (h : a.length ≤ b.length) (hl : a.length ≤ 9223372036854775807) : s_spec_l3Less (NL a) (NL b) = some (lexLt a b) := by
  unfold s_spec_l3Less
  rw [forC0_find (n := a.length) (fun j => if ga a j = ga b j then none else some (decide (ga a j < ga b j))) (by simp) hl]
  · rw [Option.bind_some, lexLt_find a b h]
    cases (List.range a.length).findSome? _ <;> rfl
  · intro j hj
    rw [idx_NL hj, idx_NL (show j < b.length by omega)]
    simp only [Option.bind_some, bne_nat]
    by_cases e : ga a j = ga b j
    · rw [if_pos e, e]; simp
    · rw [if_neg e, beq_eq_false_iff_ne.2 e]
      simp only [Bool.not_false, cond_true]
      rw [dec_lt]


theorem l1Same_NL {a b : List Nat} (h : a.length ≤ 4294967296) : s_spec_l1Same (NL a) (NL b) = some (a == b) := by
  rw [l1Same_eq _ _ (by simpa using h), NL_beq]

def Sorted (L : List (List Nat)) : Prop := L.Pairwise fun a b => lexLt a b = true

theorem Sorted.get {L : List (List Nat)} (h : Sorted L) {i j : Nat} (hij : i < j) (hj : j < L.length) : lexLt (gl L i) (gl L j) = true := by
  rw [gl_get (by omega), gl_get hj]
  exact List.pairwise_iff_getElem.1 h i j (by omega) hj hij

def findPos (L : List (List Nat)) (t : List Nat) : Nat := L.countP fun u => lexLt u t

theorem findPos_of {L : List (List Nat)} {t : List Nat} {k : Nat} (hk : k ≤ L.length) (h1 : ∀ i, i < k → lexLt (gl L i) t = true) (h2 : ∀ i, k ≤ i → i < L.length → lexLt (gl L i) t = false) : findPos L t = k := by
  unfold findPos
  conv => lhs; rw [← List.take_append_drop k L, List.countP_append]
  have e1 : (L.take k).countP (fun u => lexLt u t) = (L.take k).length := by
    rw [List.countP_eq_length]
    intro u hu
    obtain ⟨i, hi, rfl⟩ := List.mem_iff_getElem.1 hu
    simp only [List.length_take] at hi
    have := h1 i (by omega)
    rw [gl_get (by omega)] at this
    simpa using this
  have e2 : (L.drop k).countP (fun u => lexLt u t) = 0 := by
    rw [List.countP_eq_zero]
    intro u hu
    obtain ⟨i, hi, rfl⟩ := List.mem_iff_getElem.1 hu
    simp only [List.length_drop] at hi
    have := h2 (k + i) (by omega) (by omega)
    rw [gl_get (by omega)] at this
    simpa using this
  rw [e1, e2, List.length_take]; omega

theorem mem_at {L : List (List Nat)} {t : List Nat} {k : Nat} (hs : Sorted L) (hk : k ≤ L.length) (h1 : ∀ i, i < k → lexLt (gl L i) t = true) (h2 : ∀ i, k ≤ i → i < L.length → lexLt (gl L i) t = false) :
    L.contains t = (decide (k < L.length) && (gl L k == t)) := by
  rw [Bool.eq_iff_iff]
  simp only [List.contains_iff_mem, Bool.and_eq_true, decide_eq_true_eq, beq_iff_eq]
  constructor
  · intro hm
    obtain ⟨i, hi, rfl⟩ := List.mem_iff_getElem.1 hm
    have hik : k ≤ i := by
      rcases Nat.lt_or_ge i k with h | h
      · have := h1 i h; rw [gl_get hi, lexLt_irrefl] at this; cases this
      · exact h
    have : i = k := by
      rcases Nat.lt_or_ge k i with h | h
      · have a := hs.get h hi
        have b := h2 k (Nat.le_refl _) (by omega)
        rw [gl_get hi] at a; rw [b] at a; cases a
      · omega
    subst this
    exact ⟨hi, gl_get hi⟩
  · rintro ⟨h, rfl⟩
    exact gl_mem h

theorem l8Find_eq {L : List (List Nat)} {t : List Nat} (hs : Sorted L) (hk : ∀ u ∈ L, u.length = t.length) (hL : L.length ≤ 4294967296) (ht : t.length ≤ 4294967296) :
    s_spec_l8Find (NLL L) (NL t) = some (((findPos L t : Nat) : Int), L.contains t) := by
  unfold s_spec_l8Find
  have key := iter_inv (step := fun s11 =>
  (bif (decide (s11.1 < s11.2)) then (idx (NLL L) (w64 (Int.tdiv (w64 (s11.1 + s11.2)) 2))).bind fun x18 =>
  (s_spec_l3Less x18 (NL t)).bind fun r23 =>
  (bif r23 then some (.nx (w64 ((w64 (Int.tdiv (w64 (s11.1 + s11.2)) 2)) + 1), s11.2)) else some (.nx (s11.1, w64 (Int.tdiv (w64 (s11.1 + s11.2)) 2)))) else some (Ctl.br (R := Int × Bool) (s11.1, s11.2))))
    (fun s => ∃ f u : Nat, s = ((f : Int), (u : Int)) ∧ f ≤ u ∧ u ≤ L.length ∧ (∀ i, i < f → lexLt (gl L i) t = true) ∧ (∀ i, u ≤ i → i < L.length → lexLt (gl L i) t = false))
    (fun s => (s.2 - s.1).toNat) (fun c => ∃ k : Nat, c = .br ((k : Int), (k : Int)) ∧ k ≤ L.length ∧ (∀ i, i < k → lexLt (gl L i) t = true) ∧ (∀ i, k ≤ i → i < L.length → lexLt (gl L i) t = false))
    FU ((0 : Int), ((NLL L).length : Int)) ⟨0, L.length, by simp, by omega, by omega, fun i h => by omega, fun i h h' => by omega⟩ (by simp [FU]; omega)
  have key := key (by
      rintro s ⟨f, u, rfl, hfu, hu, h1, h2⟩
      simp only [dec_lt]
      by_cases h : f < u
      · left
        have hm : (f + u) / 2 < L.length := by omega
        have e : w64 (Int.tdiv (w64 ((f : Int) + (u : Int))) 2) = (((f + u) / 2 : Nat) : Int) := by
          rw [w64_add (by omega), show (2 : Int) = ((2 : Nat) : Int) from rfl, w64_div (by omega)]
        have hgl := hk _ (gl_mem hm)
        simp only [h, decide_true, cond_true, e]
        rw [idx_NLL hm, Option.bind_some, l3Less_eq (by omega) (by omega), Option.bind_some]
        cases hlt : lexLt (gl L ((f + u) / 2)) t with
        | true =>
          refine ⟨_, rfl, ⟨(f + u) / 2 + 1, u, by rw [w64_add1 (by omega)], by omega, hu, fun i hi => ?_, h2⟩, by rw [w64_add1 (by omega)]; simp; omega⟩
          by_cases hi' : i = (f + u) / 2
          · rw [hi']; exact hlt
          · exact lexLt_trans (hs.get (show i < (f + u) / 2 by omega) hm) hlt
        | false =>
          refine ⟨_, rfl, ⟨f, (f + u) / 2, rfl, by omega, by omega, h1, fun i hi hi2 => ?_⟩, by simp; omega⟩
          by_cases hi' : i = (f + u) / 2
          · rw [hi']; exact hlt
          · cases hx : lexLt (gl L i) t with
            | false => rfl
            | true => have := lexLt_trans (hs.get (show (f + u) / 2 < i by omega) hi2) hx; rw [hlt] at this; cases this
      · right
        have : f = u := by omega
        subst this
        simp only [h, decide_false, cond_false]
        exact ⟨_, rfl, by intro s; simp, f, rfl, hu, h1, h2⟩)
  obtain ⟨c, hc, ⟨k, rfl, hkl, h1, h2⟩, _⟩ := key
  rw [hc, Option.bind_some, after_br']
  rw [findPos_of hkl h1 h2, mem_at hs hkl h1 h2]
  simp only [NLL_len, dec_lt]
  by_cases h : k < L.length
  · simp only [h, decide_true, cond_true, Bool.true_and]
    rw [idx_NLL h, Option.bind_some, l1Same_NL (by rw [hk _ (gl_mem h)]; exact ht), Option.bind_some]
  · simp only [h, decide_false, cond_false, Bool.false_and]

/-- A relation: its tuples, of one length, in order. -/
structure Rel (k : Nat) (L : List (List Nat)) : Prop where
  srt : Sorted L
  len : ∀ u ∈ L, u.length = k

theorem l13Has_eq {k : Nat} {L : List (List Nat)} {t : List Nat} (hR : Rel k L) (hL : L.length ≤ 4294967296) (hk : k ≤ 4294967296) : s_spec_l13Has ((k : Int), NLL L) (NL t) = some (L.contains t) := by
  unfold s_spec_l13Has
  simp only [NL_len, bne_nat]
  by_cases h : t.length = k
  · simp only [h, beq_self_eq_true, Bool.not_true, cond_false]
    rw [l8Find_eq hR.srt (fun u hu => by rw [hR.len u hu, h]) hL (by omega)]; rfl
  · rw [beq_eq_false_iff_ne.2 h]
    simp only [Bool.not_false, cond_true]
    congr 1
    symm
    rw [← Bool.not_eq_true, List.contains_iff_mem]
    intro hm
    exact h (hR.len t hm)


def prs (N : Nat) (c : Nat → Nat → Bool) : List (List Nat) := ((List.range (N * N)).filter fun i => c (i / N) (i % N)).map fun i => [i / N, i % N]

theorem prs_rel (N : Nat) (c : Nat → Nat → Bool) : Rel 2 (prs N c) := by
  constructor
  · unfold Sorted prs
    rw [List.pairwise_map]
    refine List.Pairwise.imp_of_mem ?_ (List.Pairwise.filter _ List.pairwise_lt_range)
    intro i j hi hj hij
    simp only [List.mem_filter, List.mem_range] at hi hj
    have hN : 0 < N := by
      rcases Nat.eq_zero_or_pos N with h | h
      · subst h; simp at hi
      · exact h
    simp only [lexLt]
    have h1 : i / N ≤ j / N := Nat.div_le_div_right (by omega)
    have h2 := Nat.div_add_mod i N
    have h3 := Nat.div_add_mod j N
    by_cases e : i / N = j / N
    · rw [e] at h2
      rw [if_pos e, if_neg (by omega)]; simp; omega
    · rw [if_neg e]; simp; omega
  · intro u hu
    obtain ⟨i, _, rfl⟩ := List.mem_map.1 hu
    rfl

theorem prs_len (N : Nat) (c : Nat → Nat → Bool) : (prs N c).length ≤ N * N := by
  unfold prs
  rw [List.length_map]
  exact Nat.le_trans (List.length_filter_le _ _) (by simp)

theorem prs_mem {N : Nat} {c : Nat → Nat → Bool} {x y : Nat} (hx : x < N) (hy : y < N) : [x, y] ∈ prs N c ↔ c x y = true := by
  unfold prs
  simp only [List.mem_map, List.mem_filter, List.mem_range, List.cons.injEq, and_true]
  constructor
  · rintro ⟨i, ⟨_, hc⟩, rfl, rfl⟩; exact hc
  · intro h
    exact ⟨x * N + y, ⟨lin2 hx hy, by rw [lin2_div hy, lin2_mod hy]; exact h⟩, lin2_div hy, lin2_mod hy⟩

theorem prs_contains {N : Nat} {c : Nat → Nat → Bool} {x y : Nat} (hx : x < N) (hy : y < N) : (prs N c).contains [x, y] = c x y := by
  rw [Bool.eq_iff_iff, List.contains_iff_mem]; exact prs_mem hx hy

theorem range_mul_flat {α : Type} (n m : Nat) (g : Nat → List α) : (List.range (n * m)).flatMap g = (List.range n).flatMap fun x => (List.range m).flatMap fun y => g (x * m + y) := by
  induction n with
  | zero => simp
  | succ n ih =>
    rw [Nat.add_mul, Nat.one_mul, List.range_add, List.flatMap_append, ih, List.range_succ, List.flatMap_append]
    simp [List.flatMap_map]

theorem flatMap_congr' {α β : Type} {l : List α} {f g : α → List β} (h : ∀ x ∈ l, f x = g x) : l.flatMap f = l.flatMap g := by
  induction l with
  | nil => rfl
  | cons x l ih => rw [List.flatMap_cons, List.flatMap_cons, h x (by simp), ih fun y hy => h y (by simp [hy])]

theorem flat_if {α β : Type} (l : List α) (c : α → Bool) (f : α → β) : (l.flatMap fun x => if c x then [f x] else []) = (l.filter c).map f := by
  induction l with
  | nil => rfl
  | cons x l ih => cases h : c x <;> simp [List.flatMap_cons, h, ih]

theorem prs_flat (N : Nat) (c : Nat → Nat → Bool) : prs N c = (List.range N).flatMap fun x => (List.range N).flatMap fun y => if c x y then [[x, y]] else [] := by
  unfold prs
  rw [← flat_if, range_mul_flat]
  refine flatMap_congr' fun x hx => flatMap_congr' fun y hy => ?_
  simp only [List.mem_range] at hx hy
  rw [lin2_div hy, lin2_mod hy]


theorem iter_any {R : Type} {N : Nat} (hN : N < 4611686018427387904) (p : Nat → Bool) {step : Bool × Int → Option (Ctl (Bool × Int) R)} (h1 : ∀ j : Nat, j < N → step (false, (j : Int)) = some (.nx (p j, ((j + 1 : Nat) : Int))))
    (h2 : ∀ (b : Bool) (j : Nat), (b = true ∨ j = N) → j ≤ N → step (b, (j : Int)) = some (.br (b, (j : Int)))) : ∃ k, iter step FU (false, 0) = some (.br ((List.range N).any p, k)) := by
  obtain ⟨c, hc, ⟨k, rfl⟩, _⟩ := iter_inv (step := step) (fun s => ∃ j : Nat, j ≤ N ∧ s = ((List.range j).any p, (j : Int))) (fun s => N - s.2.toNat) (fun c => ∃ k, c = .br ((List.range N).any p, k)) FU (false, 0) ⟨0, by omega, rfl⟩ (by simp [FU]; omega) (by
    rintro s ⟨j, hj, rfl⟩
    cases ha : (List.range j).any p with
    | true =>
      right
      refine ⟨_, h2 true j (.inl rfl) hj, by intro s; simp, j, ?_⟩
      have : (List.range N).any p = true := by
        simp only [List.any_eq_true, List.mem_range] at ha ⊢
        obtain ⟨x, hx, hp⟩ := ha
        exact ⟨x, by omega, hp⟩
      rw [this]
    | false =>
      by_cases h : j = N
      · right
        refine ⟨_, h2 false j (.inr h) hj, by intro s; simp, j, ?_⟩
        rw [← h, ha]
      · left
        refine ⟨_, h1 j (by omega), ⟨j + 1, by omega, ?_⟩, by simp; omega⟩
        rw [List.range_succ, List.any_append, ha]; simp)
  exact ⟨k, hc⟩


/-- P is a partition of N: each element is sent to the least one of its block. -/
structure Part (N : Nat) (P : List Nat) : Prop where
  len : P.length = N
  le : ∀ x, x < N → ga P x ≤ x
  idem : ∀ x, x < N → ga P (ga P x) = ga P x

def partOk (p : List Int) : Bool := (List.range p.length).all fun x : Nat => decide (0 ≤ gi p (x : Int)) && (decide (gi p (x : Int) ≤ (x : Int)) && (gi p (gi p (x : Int)) == gi p (x : Int)))

theorem partOk_elim {p : List Int} (h : partOk p = true) : ∃ P, p = NL P ∧ Part p.length P := by
  simp only [partOk, List.all_eq_true, List.mem_range, Bool.and_eq_true, decide_eq_true_eq, beq_iff_eq] at h
  obtain ⟨P, hP⟩ := NL_of (t := p) (fun x hx => by
    obtain ⟨i, hi, rfl⟩ := List.mem_iff_getElem.1 hx
    have := (h i hi).1
    rwa [gi_getElem hi] at this)
  subst hP
  simp only [NL_len] at h ⊢
  have e : ∀ x, x < P.length → gi (NL P) ((x : Nat) : Int) = ((ga P x : Nat) : Int) := fun x hx => by
    have := idx_NL hx
    rw [idx_gi (by omega) (by simpa using hx)] at this
    exact Option.some.inj this
  refine ⟨P, rfl, rfl, fun x hx => ?_, fun x hx => ?_⟩
  · have := (h x hx).2.1
    rw [e x hx] at this; omega
  · have h1 := (h x hx).2.1
    have h2 := (h x hx).2.2
    rw [e x hx] at h1 h2
    rw [e (ga P x) (by omega)] at h2
    omega

theorem isPartition_eq (n : Int) (p : List Int) (hl : p.length ≤ 4294967296) : s_impl_isPartition n p = some (((p.length : Int) == n) && partOk p) := by
  unfold s_impl_isPartition
  by_cases h : (p.length : Int) = n
  · rw [h]
    simp only [bne_self_eq_false, cond_false, beq_self_eq_true, Bool.true_and]
    rw [forC0_chk (n := p.length) (fun x : Nat => decide (0 ≤ gi p (x : Int)) && (decide (gi p (x : Int) ≤ (x : Int)) && (gi p (gi p (x : Int)) == gi p (x : Int)))) false h.symm (by omega)]
    · show _ = some (partOk p)
      unfold partOk
      cases (List.range p.length).all _ <;> rfl
    · intro j hj
      rw [idx_gi (by omega) (by omega), Option.bind_some]
      by_cases h0 : gi p (j : Int) < 0
      · simp [h0, show ¬ 0 ≤ gi p (j : Int) by omega]
      · by_cases h1 : (j : Int) < gi p (j : Int)
        · simp [h0, h1, show ¬ gi p (j : Int) ≤ (j : Int) by omega]
        · simp only [h0, decide_false, cond_false, h1, show 0 ≤ gi p (j : Int) by omega, show gi p (j : Int) ≤ (j : Int) by omega, decide_true, Bool.true_and]
          rw [idx_gi (by omega) (by omega), Option.bind_some, bne]
          cases gi p (gi p (j : Int)) == gi p (j : Int) <;> rfl
  · have e1 : ((p.length : Int) != n) = true := by simp [h]
    have e2 : ((p.length : Int) == n) = false := by simp [h]
    rw [e1, e2]; rfl

theorem l6Partition_eq (n : Int) (p : List Int) (hl : p.length ≤ 4294967296) : s_spec_l6Partition n p = some (((p.length : Int) == n) && partOk p) := by
  unfold s_spec_l6Partition
  by_cases h : (p.length : Int) = n
  · rw [h]
    simp only [bne_self_eq_false, cond_false, beq_self_eq_true, Bool.true_and]
    rw [forC0_chk (n := p.length) (fun x : Nat => decide (0 ≤ gi p (x : Int)) && (decide (gi p (x : Int) ≤ (x : Int)) && (gi p (gi p (x : Int)) == gi p (x : Int)))) false h.symm (by omega)]
    · show _ = some (partOk p)
      unfold partOk
      cases (List.range p.length).all _ <;> rfl
    · intro j hj
      rw [idx_gi (by omega) (by omega)]
      simp only [Option.bind_some, l1In_eq]
      by_cases h0 : gi p (j : Int) < 0
      · simp [show ¬ 0 ≤ gi p (j : Int) by omega]
      · by_cases h1 : (j : Int) < gi p (j : Int)
        · simp [show ¬ gi p (j : Int) ≤ (j : Int) by omega]
        · simp only [show 0 ≤ gi p (j : Int) by omega, show gi p (j : Int) ≤ (j : Int) by omega, decide_true, Bool.true_and, Bool.not_true, cond_false]
          rw [idx_gi (by omega) (by omega), Option.bind_some, bne]
          cases gi p (gi p (j : Int)) == gi p (j : Int) <;> rfl
  · have e1 : ((p.length : Int) != n) = true := by simp [h]
    have e2 : ((p.length : Int) == n) = false := by simp [h]
    rw [e1, e2]; rfl

/-- Two partitions of n. -/
def twoOk (n : Int) (p q : List Int) : Bool := decide (1 ≤ n ∧ n ≤ 8) && ((((p.length : Int) == n) && partOk p) && (((q.length : Int) == n) && partOk q))

theorem arePartitions_eq (n : Int) (p q : List Int) (hp : p.length ≤ 4294967296) (hq : q.length ≤ 4294967296) : s_impl_arePartitions n p q = some (twoOk n p q) := by
  unfold s_impl_arePartitions twoOk
  rw [isSize_eq, Option.bind_some, isPartition_eq n p hp, isPartition_eq n q hq]
  cases decide (1 ≤ n ∧ n ≤ 8) <;> cases (((p.length : Int) == n) && partOk p) <;> cases (((q.length : Int) == n) && partOk q) <;> rfl

theorem l16Two_eq (n : Int) (p q : List Int) (hp : p.length ≤ 4294967296) (hq : q.length ≤ 4294967296) : s_spec_l16Two n p q = some (twoOk n p q) := by
  unfold s_spec_l16Two twoOk
  rw [l6Size_eq, Option.bind_some, l6Partition_eq n p hp, l6Partition_eq n q hq]
  cases decide (1 ≤ n ∧ n ≤ 8) <;> cases (((p.length : Int) == n) && partOk p) <;> cases (((q.length : Int) == n) && partOk q) <;> rfl

theorem twoOk_elim {n : Int} {p q : List Int} (h : twoOk n p q = true) : ∃ N P Q, n = ((N : Nat) : Int) ∧ p = NL P ∧ q = NL Q ∧ 1 ≤ N ∧ N ≤ 8 ∧ Part N P ∧ Part N Q := by
  simp only [twoOk, Bool.and_eq_true, decide_eq_true_eq, beq_iff_eq] at h
  obtain ⟨hn, ⟨hp, hp'⟩, hq, hq'⟩ := h
  obtain ⟨P, rfl, h1⟩ := partOk_elim hp'
  obtain ⟨Q, rfl, h2⟩ := partOk_elim hq'
  have e1 : (NL P).length = n.toNat := by omega
  have e2 : (NL Q).length = n.toNat := by omega
  rw [e1] at h1; rw [e2] at h2
  exact ⟨n.toNat, P, Q, by omega, rfl, rfl, by omega, by omega, h1, h2⟩


def eqv (P : List Nat) (x y : Nat) : Bool := ga P x == ga P y

def prd (N : Nat) (c d : Nat → Nat → Bool) (x z : Nat) : Bool := (List.range N).any fun y => c x y && d y z

theorem sq_le {N : Nat} (h : N ≤ 8) : N * N ≤ 64 := by have := Nat.mul_le_mul h h; omega

theorem prs_loop {R : Type} {N : Nat} (hN : N ≤ 8) (c : Nat → Nat → Bool) {step : Int → Int → List (List Int) → Option (Ctl (List (List Int)) R)}
    (h : ∀ (x y : Nat) (s : List (List Int)), x < N → y < N → step x y s = bif c x y then (app s [[(x : Int), (y : Int)]]).bind fun y => some (.nx y) else some (.nx s)) :
    forC (S := List (List Int)) (R := R) (fun k296 s294 => (forC (S := List (List Int)) (R := R) (fun k394 s392 => step k296 k394 s392) 0 (N : Int) s294).bind fun o => after o (fun r_ => some (.rt r_)) (fun s392 => some (.nx s392))) 0 (N : Int) [] = some (.br (NLL (prs N c))) := by
  have h64 := sq_le hN
  rw [forC0_flat (fun x => NLL ((List.range N).flatMap fun y => if c x y then [[x, y]] else [])) [] rfl (by omega)]
  · rw [List.nil_append, prs_flat]
    congr 2
    unfold NLL
    rw [List.map_flatMap]
  · intro x hx
    rw [forC0_flat (fun y => NLL (if c x y then [[x, y]] else [])) _ rfl (by omega)]
    · rw [Option.bind_some, after_br']
      congr 3
      unfold NLL
      rw [List.map_flatMap]
    · intro y hy
      rw [h x y _ hx hy]
      cases he : c x y with
      | false => simp
      | true =>
        simp only [cond_true, if_true]
        rw [app_ok]
        · rfl
        · have a : ((List.range x).flatMap fun x => NLL ((List.range N).flatMap fun y => if c x y then [[x, y]] else [])).length ≤ x * N := by
            rw [List.length_flatMap]
            have : ∀ l : List Nat, (l.map fun a => (NLL ((List.range N).flatMap fun y => if c a y then [[a, y]] else [])).length).sum ≤ l.length * N := by
              intro l
              induction l with
              | nil => simp
              | cons b l ih =>
                simp only [List.map_cons, List.sum_cons, List.length_cons, Nat.add_mul, Nat.one_mul]
                have : (NLL ((List.range N).flatMap fun y => if c b y then [[b, y]] else [])).length ≤ N := by
                  rw [NLL_len, flat_if, List.length_map]
                  exact Nat.le_trans (List.length_filter_le _ _) (by simp)
                omega
            simpa using this (List.range x)
          have b : ((List.range y).flatMap fun y => NLL (if c x y then [[x, y]] else [])).length ≤ y := by
            have : ((List.range y).flatMap fun y => NLL (if c x y then [[x, y]] else [])) = NLL ((List.range y).flatMap fun y => if c x y then [[x, y]] else []) := by
              unfold NLL; rw [List.map_flatMap]
            rw [this, NLL_len, flat_if, List.length_map]
            exact Nat.le_trans (List.length_filter_le _ _) (by simp)
          have c : x * N ≤ N * N := Nat.mul_le_mul_right N (by omega)
          simp only [List.nil_append, List.length_append, List.length_cons, List.length_nil]
          omega

theorem l13OfPartition_eq {N : Nat} {P : List Nat} (hN : N ≤ 8) (hP : P.length = N) : s_spec_l13OfPartition (NL P) = some (2, NLL (prs N (eqv P))) := by
  unfold s_spec_l13OfPartition
  rw [NL_len, hP]
  rw [prs_loop hN (eqv P) (step := fun k119 k159 s157 => (idx (NL P) k119).bind fun x168 =>
  (idx (NL P) k159).bind fun x170 =>
  (bif (x168 == x170) then (app s157 ([[k119, k159]])).bind fun y178 =>
  some (.nx y178) else some (.nx s157)))]
  · rfl
  · intro x y s hx hy
    rw [idx_NL (by omega), Option.bind_some, idx_NL (by omega), Option.bind_some, beq_nat]
    rfl

theorem relHas {N x y : Nat} {c : Nat → Nat → Bool} (hN : N ≤ 8) (hx : x < N) (hy : y < N) : s_spec_l13Has (2, NLL (prs N c)) [(x : Int), (y : Int)] = some (c x y) := by
  have h64 := sq_le hN
  have h1 := prs_len N c
  have := l13Has_eq (k := 2) (t := [x, y]) (prs_rel N c) (by omega) (by omega)
  rw [prs_contains hx hy] at this
  exact this

theorem l13Compose_eq {N : Nat} (hN : N ≤ 8) (c d : Nat → Nat → Bool) : s_spec_l13Compose (N : Int) (2, NLL (prs N c)) (2, NLL (prs N d)) = some (2, NLL (prs N (prd N c d))) := by
  unfold s_spec_l13Compose
  rw [prs_loop hN (prd N c d) (step := fun k296 k394 s392 =>
  (iter (S := Bool × Int) (R := (Int × (List (List Int)))) (fun s416 =>
  (bif ((decide (s416.2 < (N : Int))) && (!s416.1)) then (s_spec_l13Has ((2, NLL (prs N c)).1, (2, NLL (prs N c)).2) ([k296, s416.2])).bind fun r430 =>
  (bif r430 then (s_spec_l13Has ((2, NLL (prs N d)).1, (2, NLL (prs N d)).2) ([s416.2, k394])).bind fun r435 =>
  some (.nx (r435, w64 (s416.2 + 1))) else some (.nx (false, w64 (s416.2 + 1)))) else some (.br (s416.1, s416.2)))) FU (false, 0)).bind fun o420 => after o420 (fun r_ => some (.rt r_)) (fun s416 =>
  (bif s416.1 then (app s392 ([[k296, k394]])).bind fun y442 =>
  some (.nx y442) else some (.nx s392))))]
  · rfl
  · intro x z s hx hz
    obtain ⟨k, hk⟩ := iter_any (R := (Int × (List (List Int)))) (N := N) (by omega) (fun y => c x y && d y z) (step := fun s416 =>
  (bif ((decide (s416.2 < (N : Int))) && (!s416.1)) then (s_spec_l13Has ((2, NLL (prs N c)).1, (2, NLL (prs N c)).2) ([(x : Int), s416.2])).bind fun r430 =>
  (bif r430 then (s_spec_l13Has ((2, NLL (prs N d)).1, (2, NLL (prs N d)).2) ([s416.2, (z : Int)])).bind fun r435 =>
  some (.nx (r435, w64 (s416.2 + 1))) else some (.nx (false, w64 (s416.2 + 1)))) else some (.br (s416.1, s416.2)))) (fun j hj => by
        simp only [dec_lt, hj, decide_true, Bool.not_false, Bool.and_true, cond_true]
        rw [relHas hN hx hj, Option.bind_some, w64_add1 (by omega)]
        cases c x j with
        | false => rfl
        | true => rw [cond_true, relHas hN hj hz]; rfl) (fun b j hb hj => by
        have : (decide ((j : Int) < (N : Int)) && !b) = false := by
          rcases hb with rfl | rfl
          · simp
          · simp
        simp only [this, cond_false])
    rw [hk]
    rfl

theorem l16Product_eq {N : Nat} {P Q : List Nat} (hN : N ≤ 8) (hP : P.length = N) (hQ : Q.length = N) : s_spec_l16Product (NL P) (NL Q) = some (2, NLL (prs N (prd N (eqv P) (eqv Q)))) := by
  unfold s_spec_l16Product
  rw [l13OfPartition_eq hN hP, l13OfPartition_eq hN hQ, NL_len, hP]
  simp only [Option.bind_some, l13Compose_eq hN]


def tabB (N : Nat) (c : Nat → Nat → Bool) : List (List Bool) := (List.range N).map fun x => (List.range N).map fun y => c x y

@[simp] theorem tabB_len (N : Nat) (c : Nat → Nat → Bool) : (tabB N c).length = N := by simp [tabB]

theorem tabB_row {N x : Nat} {c : Nat → Nat → Bool} (h : x < N) : (tabB N c)[x]? = some ((List.range N).map fun y => c x y) := by simp [tabB, h]

theorem rowB_at {N y : Nat} {f : Nat → Bool} (h : y < N) : ((List.range N).map f)[y]? = some (f y) := by simp [h]

theorem set_map_range {N j : Nat} {α : Type} (f g : Nat → α) (h : ∀ z, z < N → z ≠ j → f z = g z) : ((List.range N).map f).set j (g j) = (List.range N).map g := by
  apply List.ext_getElem
  · simp
  · intro i h1 h2
    simp only [List.length_map, List.length_range] at h2
    rw [List.getElem_set]
    by_cases e : j = i
    · subst e; simp
    · rw [if_neg e]; simp only [List.getElem_map, List.getElem_range]; exact h i h2 (fun e' => e e'.symm)

theorem productTable_eq {N : Nat} {P Q : List Nat} (hN : N ≤ 8) (hP : P.length = N) (hQ : Q.length = N) : s_impl_productTable (NL P) (NL Q) = some (tabB N (prd N (eqv P) (eqv Q))) := by
  unfold s_impl_productTable
  rw [NL_len, hP, mks_ok rfl (by omega), Option.bind_some, List.length_replicate]
  rw [forC0_set (fun x => (List.range N).map fun z => prd N (eqv P) (eqv Q) x z) (z := []) (n := N) rfl (by omega) rfl]
  · rfl
  · intro x T0 hx hT
    rw [mks_ok rfl (by omega), Option.bind_some, idx_nat, List.getElem?_eq_getElem (by omega), Option.bind_some]
    simp only [Int.toNat_natCast]
    let row : Nat → Nat → List Bool := fun y j => (List.range N).map fun z => (List.range (if z < j then y + 1 else y)).any fun y' => eqv P x y' && eqv Q y' z
    rw [forC0_fn (fun y => T0.set x (row y 0)) (n := N) rfl (by omega)]
    · rw [Option.bind_some, after_br']
      congr 3
    · congr 1
      simp only [row]
      apply List.ext_getElem
      · simp
      · intro i h1 h2; simp
    · intro y hy
      have hgx : ∀ r : List Bool, (T0.set x r)[x]? = some r := fun r => by rw [List.getElem?_set_self (by omega)]
      cases hxy : eqv P x y with
      | false =>
        rw [iter_br (fun j => ((j : Int), T0.set x (row y j))) (t := ((0 : Int), T0.set x (row y 0))) 0 (by omega) (by rfl)]
        · rw [Option.bind_some, after_br']
          congr 3
          simp only [row]
          congr 1
          refine List.map_congr_left fun z _ => ?_
          simp only [Nat.not_lt_zero, if_false, List.range_succ, List.any_append, List.any_cons, hxy, List.any_nil, Bool.false_and, Bool.or_false]
        · intro j hj; omega
        · simp only [show (((0 : Nat) : Int)) = 0 from rfl]
          rw [show decide ((0 : Int) < (N : Int)) = true by simp; omega, cond_true, idx_NL (by omega), Option.bind_some, idx_NL (by omega), Option.bind_some, Option.bind_some, beq_nat]
          rw [show (ga P x == ga P y) = false from hxy]; rfl
      | true =>
        rw [iter_br (fun j => ((j : Int), T0.set x (row y j))) (t := ((N : Int), T0.set x (row y N))) N (by omega) (by rfl)]
        · rw [Option.bind_some, after_br']
          congr 3
          simp only [row]
          congr 1
          refine List.map_congr_left fun z hz => ?_
          simp only [List.mem_range] at hz
          simp only [hz, if_true, Nat.not_lt_zero, if_false]
        · intro j hj
          rw [dec_lt, show decide (j < N) = true by simpa using hj, cond_true, idx_NL (by omega), Option.bind_some, idx_NL (by omega), Option.bind_some, Option.bind_some, beq_nat, show (ga P x == ga P y) = true from hxy, cond_true]
          rw [idx_nat, hgx, Option.bind_some, Option.bind_some]
          have hat : (row y j)[j]? = some ((List.range y).any fun y' => eqv P x y' && eqv Q y' j) := by
            simp only [row]
            rw [rowB_at hj]; simp
          have hnew : ∀ b, b = ((List.range (y + 1)).any fun y' => eqv P x y' && eqv Q y' j) → (row y j).set j b = row y (j + 1) := by
            intro b hb
            subst hb
            simp only [row]
            have := set_map_range (N := N) (j := j) (fun z => (List.range (if z < j then y + 1 else y)).any fun y' => eqv P x y' && eqv Q y' z) (fun z => (List.range (if z < j + 1 then y + 1 else y)).any fun y' => eqv P x y' && eqv Q y' z) (fun z hz hzj => by
              by_cases h : z < j
              · simp [h, show z < j + 1 by omega]
              · simp [h, show ¬ z < j + 1 by omega])
            simp only [show j < j + 1 by omega, if_true] at this
            exact this
          rw [idx_nat, hat, Option.bind_some]
          cases ha : (List.range y).any fun y' => eqv P x y' && eqv Q y' j with
          | true =>
            rw [cond_true, Option.bind_some, w64_add1 (by omega), List.set_set, Int.toNat_natCast, hnew]
            rw [List.range_succ, List.any_append, ha]; rfl
          | false =>
            rw [cond_false, idx_NL (by omega), Option.bind_some, idx_NL (by omega), Option.bind_some, Option.bind_some, w64_add1 (by omega), List.set_set, Int.toNat_natCast, hnew]
            rw [List.range_succ, List.any_append, ha, beq_nat]
            simp only [List.any_cons, List.any_nil, Bool.or_false, Bool.false_or, hxy, Bool.true_and]
            rfl
        · rw [dec_lt, show decide (N < N) = false by simp]; rfl



theorem eqS_refl {α : Type} (eq : α → α → Option Bool) (a : List α) (ha : a.length ≤ 9223372036854775807) (h : ∀ x ∈ a, eq x x = some true) :
    (bif ((a.length : Int) != (a.length : Int)) then some false else (forC (S := Unit) (R := Bool) (fun k s => (idx a k).bind fun x => (idx a k).bind fun y => (eq x y).bind fun r => (bif (!r) then some (.rt false) else some (.nx ()))) 0 (a.length : Int) ()).bind fun o => after o (fun r_ => some r_) (fun s => some true)) = some true := by
  rw [bne_self_eq_false, cond_false, forC0_chk (n := a.length) (fun _ => true) false rfl ha]
  · rw [show ((List.range a.length).all fun _ => true) = true by simp]; rfl
  · intro j hj
    simp only [idx_nat, List.getElem?_eq_getElem hj, Option.bind_some, h _ (List.getElem_mem hj)]
    rfl

/-- Marks are found again. -/
def MkOk {α β : Type} (mk : α → Int → Option (Int × β)) (hd : β → Int → Option Int) (C : Nat) (a : α) : Prop :=
  ∀ k : Int, 0 ≤ k → k + C ≤ 4611686018427387904 → ∃ k' a', mk a k = some (k', a') ∧ hd a' k = some k' ∧ k ≤ k' ∧ k' ≤ k + C

theorem markS_loop {α : Type} (mk : α → Int → Option (Int × α)) (hd : α → Int → Option Int) (C : Nat) (a : List α) (ha : a.length ≤ 1048576) (h : ∀ x ∈ a, MkOk mk hd C x) {step : Int × Int × List α → Option (Ctl (Int × Int × List α) (Int × List α))}
    {hstep : Int → Int → List α → Option (Ctl Int Int)}
    (h1 : ∀ (k : Int) (i : Nat) (l : List α) (hi : i < l.length), l.length = a.length → (∃ z, mk l[i] k = some z) → 0 ≤ k → k + C ≤ 4611686018427387904 → step (k, (i : Int), l) = (mk l[i] k).bind fun r => some (.nx (r.1, ((i + 1 : Nat) : Int), l.set i r.2)))
    (h2 : ∀ (k : Int) (i : Nat) (l : List α), i = l.length → step (k, (i : Int), l) = some (.br (k, (i : Int), l)))
    (h3 : ∀ (k : Int) (i : Nat) (l : List α) (hi : i < l.length) (k' : Int), hd l[i] k = some k' → 0 ≤ k → k ≤ k' → k' ≤ k + C → k + C ≤ 4611686018427387904 → hstep (i : Int) k l = some (.nx k')) :
    ∀ k : Int, 0 ≤ k → k + ((a.length * C : Nat) : Int) ≤ 4611686018427387904 → ∃ k' a', ((iter (S := Int × Int × List α) (R := Int × List α) step FU (k, 0, a)).bind fun o => after o (fun r_ => some r_) (fun s => some (s.1, s.2.2))) = some (k', a') ∧
      ((forC (S := Int) (R := Int) (fun i s => hstep i s a') 0 (a'.length : Int) k).bind fun o => after o (fun r_ => some r_) (fun s => some s)) = some k' ∧ k ≤ k' ∧ k' ≤ k + ((a.length * C : Nat) : Int) := by
  intro k hk0 hk1
  -- the marked part, and where each begins
  have main : ∀ m, m ≤ a.length → ∃ (ks : Nat → Int) (l : List α), ks 0 = k ∧ l.length = a.length ∧ (∀ j, j < m → ks j ≤ ks (j + 1) ∧ ks (j + 1) ≤ ks j + C ∧ ∃ x, l[j]? = some x ∧ hd x (ks j) = some (ks (j + 1))) ∧ (∀ j, m ≤ j → l[j]? = a[j]?) ∧
      ∀ fu, iter (S := Int × Int × List α) (R := Int × List α) step (fu + m) (k, 0, a) = iter step fu (ks m, (m : Int), l) := by
    intro m
    induction m with
    | zero => intro _; exact ⟨fun _ => k, a, rfl, rfl, fun j hj => by omega, fun j _ => rfl, fun fu => rfl⟩
    | succ m ih =>
      intro hm
      obtain ⟨ks, l, e0, el, e1, e2, e3⟩ := ih (by omega)
      have hks : ∀ j, j ≤ m → k ≤ ks j ∧ ks j ≤ k + ((j * C : Nat) : Int) := by
        intro j
        induction j with
        | zero => intro _; rw [e0]; omega
        | succ j ihj =>
          intro hj
          have := ihj (by omega)
          have h4 := e1 j (by omega)
          rw [Nat.add_mul, Nat.one_mul]; omega
      have hmC : (m + 1) * C ≤ a.length * C := Nat.mul_le_mul_right C hm
      have hkm := hks m (Nat.le_refl _)
      rw [Nat.add_mul, Nat.one_mul] at hmC
      have hml : m < l.length := by omega
      have hxm : l[m] = a[m]'(by omega) := by
        have := e2 m (Nat.le_refl _)
        rw [List.getElem?_eq_getElem hml, List.getElem?_eq_getElem (by omega)] at this
        exact Option.some.inj this
      obtain ⟨k', x', g1, g2, g3, g4⟩ := h (a[m]'(by omega)) (List.getElem_mem _) (ks m) (by omega) (by omega)
      refine ⟨fun j => if j ≤ m then ks j else k', l.set m x', by simp [e0], by simpa using el, fun j hj => ?_, fun j hj => ?_, fun fu => ?_⟩
      · by_cases e : j = m
        · subst e
          simp only [Nat.le_refl, if_true, show ¬ j + 1 ≤ j by omega, if_false]
          exact ⟨g3, g4, x', by rw [List.getElem?_set_self hml], g2⟩
        · have := e1 j (by omega)
          simp only [show j ≤ m by omega, show j + 1 ≤ m by omega, if_true]
          refine ⟨this.1, this.2.1, ?_⟩
          rw [List.getElem?_set_ne (by omega)]
          exact this.2.2
      · rw [List.getElem?_set_ne (by omega)]; exact e2 j (by omega)
      · have := e3 (fu + 1)
        rw [show fu + (m + 1) = fu + 1 + m by omega, this]
        rw [iter_nx (s' := (k', ((m + 1 : Nat) : Int), l.set m x'))]
        · simp only [show ¬ m + 1 ≤ m by omega, if_false]
        · rw [h1 _ m l hml el ⟨_, by rw [hxm]; exact g1⟩ (by omega) (by omega), hxm, g1]
          simp only [Option.bind_some]
  obtain ⟨ks, l, e0, el, e1, e2, e3⟩ := main a.length (Nat.le_refl _)
  have hks : ∀ j, j ≤ a.length → k ≤ ks j ∧ ks j ≤ k + ((j * C : Nat) : Int) := by
    intro j
    induction j with
    | zero => intro _; rw [e0]; omega
    | succ j ihj =>
      intro hj
      have := ihj (by omega)
      have h4 := e1 j (by omega)
      rw [Nat.add_mul, Nat.one_mul]; omega
  refine ⟨ks a.length, l, ?_, ?_, (hks _ (Nat.le_refl _)).1, (hks _ (Nat.le_refl _)).2⟩
  · have := e3 (FU - a.length)
    rw [show FU - a.length + a.length = FU by unfold FU; omega] at this
    rw [this]
    obtain ⟨n, hn⟩ : ∃ n, FU - a.length = n + 1 := ⟨FU - a.length - 1, by unfold FU; omega⟩
    rw [hn]
    rw [iter_out (h2 _ _ _ (by omega)) (by intro s; simp)]
    rfl
  · rw [forC0_fn ks (n := a.length) (by rw [el]) (by omega) e0.symm]
    · rfl
    · intro j hj
      obtain ⟨g3, g4, x, hx, g2⟩ := e1 j hj
      have hjl : j < l.length := by omega
      rw [List.getElem?_eq_getElem hjl] at hx
      have hkj := hks j (by omega)
      have hC : (j + 1) * C ≤ a.length * C := Nat.mul_le_mul_right C hj
      rw [Nat.add_mul, Nat.one_mul] at hC
      exact h3 _ j l hjl _ (by rw [Option.some.inj hx]; exact g2) (by omega) g3 g4 (by omega)


def B1 (l : List Int) : Prop := l.length ≤ 1048576

def B2 (l : List (List Int)) : Prop := l.length ≤ 1048576 ∧ ∀ x ∈ l, B1 x

theorem markIntS_ok (a : List Int) (ha : B1 a) : MkOk s_laws_markIntS s_laws_heldIntS 1048576 a := by
  intro k h0 h1
  unfold B1 at ha
  refine ⟨_, _, markIntS_eq a k (by omega) h0 (by omega), heldIntS_eq a.length k (by omega) h0 (by omega), by omega, by omega⟩

theorem eqIntS_refl (a : List Int) (ha : B1 a) : s_laws_eqIntS a a = some true := by
  unfold B1 at ha; rw [eqIntS_eq a a (by omega)]; simp

theorem toIntS_ok (a : List Int) (ha : B1 a) : s_laws_toIntS a = some a := by
  unfold B1 at ha; exact toIntS_eq a (by omega)


theorem eqIntSS_refl (a : List (List Int)) (ha : B2 a) : s_laws_eqIntSS a a = some true := by
  unfold s_laws_eqIntSS
  exact eqS_refl s_laws_eqIntS a (by have := ha.1; omega) (fun x hx => eqIntS_refl x (ha.2 x hx))

theorem MkOk.le {α β : Type} {mk : α → Int → Option (Int × β)} {hd : β → Int → Option Int} {C C' : Nat} {a : α} (h : MkOk mk hd C a) (hC : C ≤ C') : MkOk mk hd C' a := fun k h0 h1 => by
  obtain ⟨k', a', g1, g2, g3, g4⟩ := h k h0 (by omega)
  exact ⟨k', a', g1, g2, g3, by omega⟩

theorem neg_dec' {k : Int} (h : 0 ≤ k) : decide (k < 0) = false := by simp; omega

theorem markIntSS_ok (a : List (List Int)) (ha : B2 a) : MkOk s_laws_markIntSS s_laws_heldIntSS 1099511627776 a := by
  have hl := ha.1
  have h : MkOk s_laws_markIntSS s_laws_heldIntSS (a.length * 1048576) a := by
    unfold MkOk s_laws_markIntSS s_laws_heldIntSS
    refine markS_loop s_laws_markIntS s_laws_heldIntS 1048576 a hl (fun x hx => markIntS_ok x (ha.2 x hx)) (hstep := fun k11 s9 a_ => (idx a_ k11).bind fun x15 =>
  (s_laws_heldIntS x15 s9).bind fun r20 =>
  (bif (decide (r20 < 0)) then some (.rt (-1)) else some (.nx r20))) (fun k i l hi hl' hm h0 hk => ?_) (fun k i l hi => ?_) (fun k i l hi k' hh h0 h1 h2 hk => ?_)
    · obtain ⟨z, hz⟩ := hm
      have hd : decide ((i : Int) < (l.length : Int)) = true := by simp; omega
      simp only [hd, cond_true, idx_nat, List.getElem?_eq_getElem hi, Option.bind_some, hz, w64_add1 (show i + 1 ≤ 9223372036854775807 by omega), Int.toNat_natCast]
    · subst hi; simp
    · simp only [idx_nat, List.getElem?_eq_getElem hi, Option.bind_some, hh, neg_dec' (show 0 ≤ k' by omega), cond_false]
  exact h.le (by have : a.length * 1048576 ≤ 1048576 * 1048576 := Nat.mul_le_mul_right _ hl; omega)


def BR (r : Int × List (List Int)) : Prop := B2 r.2

theorem neg_bif {k : Int} (h : 0 ≤ k) {α : Type} (x y : α) : (bif decide (k < 0) then x else y) = y := by rw [neg_dec' h]; rfl

theorem eqRelation_refl (a : Int × List (List Int)) (ha : BR a) : s_laws_eqRelation a a = some true := by
  unfold s_laws_eqRelation
  rw [bne_self_eq_false, cond_false, eqIntSS_refl a.2 ha]; rfl

theorem markRelation_ok (a : Int × List (List Int)) (ha : BR a) (k : Int) (h0 : 0 ≤ k) (h1 : k + 1099511627776 ≤ 4611686018427387904) :
    ∃ k' t, s_laws_markRelation a k = some (k', t) ∧ (∀ x, s_laws_heldRelation (x, t) k = some k') ∧ 0 ≤ k' ∧ k' ≤ k + 1099511627776 := by
  obtain ⟨k', t, g1, g2, g3, g4⟩ := markIntSS_ok a.2 ha k h0 (by omega)
  refine ⟨k', t, by unfold s_laws_markRelation; rw [g1]; rfl, fun x => ?_, by omega, by omega⟩
  unfold s_laws_heldRelation
  simp only [g2, Option.bind_some]
  rw [neg_bif (by omega)]


theorem pairsOf_eq {N : Nat} (hN : N ≤ 8) (c : Nat → Nat → Bool) : s_impl_pairsOf (tabB N c) = some (2, NLL (prs N c)) := by
  have h64 := sq_le hN
  have hl := prs_len N c
  unfold s_impl_pairsOf
  rw [tabB_len, forC0_flat (fun x => NLL ((List.range N).flatMap fun y => if c x y then [[x, y]] else [])) [] rfl (by omega)]
  · rw [Option.bind_some, after_br', List.nil_append, prs_flat]
    congr 2
    unfold NLL
    rw [List.map_flatMap]
  · intro x hx
    rw [idx_nat, tabB_row hx, Option.bind_some, forC0_flat (fun y => NLL (if c x y then [[x, y]] else [])) _ (n := N) (by simp) (by omega)]
    · rw [Option.bind_some, after_br']
      congr 3
      unfold NLL
      rw [List.map_flatMap]
    · intro y hy
      rw [idx_nat, rowB_at hy, Option.bind_some]
      cases he : c x y with
      | false => simp
      | true =>
        simp only [cond_true, if_true]
        rw [app_ok]
        · rfl
        · have a : ((List.range x).flatMap fun x => NLL ((List.range N).flatMap fun y => if c x y then [[x, y]] else [])).length ≤ x * N := by
            rw [List.length_flatMap]
            have : ∀ l : List Nat, (l.map fun a => (NLL ((List.range N).flatMap fun y => if c a y then [[a, y]] else [])).length).sum ≤ l.length * N := by
              intro l
              induction l with
              | nil => simp
              | cons b l ih =>
                simp only [List.map_cons, List.sum_cons, List.length_cons, Nat.add_mul, Nat.one_mul]
                have : (NLL ((List.range N).flatMap fun y => if c b y then [[b, y]] else [])).length ≤ N := by
                  rw [NLL_len, flat_if, List.length_map]
                  exact Nat.le_trans (List.length_filter_le _ _) (by simp)
                omega
            simpa using this (List.range x)
          have b : ((List.range y).flatMap fun y => NLL (if c x y then [[x, y]] else [])).length ≤ y := by
            have : ((List.range y).flatMap fun y => NLL (if c x y then [[x, y]] else [])) = NLL ((List.range y).flatMap fun y => if c x y then [[x, y]] else []) := by
              unfold NLL; rw [List.map_flatMap]
            rw [this, NLL_len, flat_if, List.length_map]
            exact Nat.le_trans (List.length_filter_le _ _) (by simp)
          have d : x * N ≤ N * N := Nat.mul_le_mul_right N (by omega)
          simp only [List.nil_append, List.length_append, List.length_cons, List.length_nil]
          omega

def prodR (n : Int) (p q : List Int) : (Int × List (List Int)) × Bool := bif twoOk n p q then ((2, NLL (prs n.toNat (prd n.toNat (eqv (p.map Int.toNat)) (eqv (q.map Int.toNat))))), true) else ((0, []), false)

theorem spec_ProductOfPartitions {n : Int} {p q : List Int} (hp : p.length ≤ 4294967296) (hq : q.length ≤ 4294967296) : s_spec_ProductOfPartitions n p q = some (prodR n p q) := by
  unfold s_spec_ProductOfPartitions prodR
  rw [l16Two_eq n p q hp hq, Option.bind_some]
  cases h : twoOk n p q with
  | false => rfl
  | true =>
    obtain ⟨N, P, Q, rfl, rfl, rfl, h1, h8, hP, hQ⟩ := twoOk_elim h
    simp only [Bool.not_true, cond_false, cond_true, NL_toNat, Int.toNat_natCast]
    rw [l16Product_eq h8 hP.len hQ.len]; rfl

theorem impl_ProductOfPartitions {n : Int} {p q : List Int} (hp : p.length ≤ 4294967296) (hq : q.length ≤ 4294967296) : s_impl_ProductOfPartitions n p q = some (prodR n p q) := by
  unfold s_impl_ProductOfPartitions prodR
  rw [arePartitions_eq n p q hp hq, Option.bind_some]
  cases h : twoOk n p q with
  | false => rfl
  | true =>
    obtain ⟨N, P, Q, rfl, rfl, rfl, h1, h8, hP, hQ⟩ := twoOk_elim h
    simp only [Bool.not_true, cond_false, cond_true, NL_toNat, Int.toNat_natCast]
    rw [productTable_eq h8 hP.len hQ.len, Option.bind_some, pairsOf_eq h8]; rfl

theorem prodR_B (n : Int) (p q : List Int) : BR (prodR n p q).1 := by
  unfold prodR BR
  cases h : twoOk n p q with
  | false => exact ⟨by simp, by simp⟩
  | true =>
    obtain ⟨N, P, Q, rfl, rfl, rfl, h1, h8, hP, hQ⟩ := twoOk_elim h
    simp only [cond_true, NL_toNat, Int.toNat_natCast]
    have h64 := sq_le h8
    have hl := prs_len N (prd N (eqv P) (eqv Q))
    refine ⟨by rw [NLL_len]; omega, fun x hx => ?_⟩
    obtain ⟨u, hu, rfl⟩ := List.mem_map.1 hx
    unfold B1
    rw [NL_len, (prs_rel _ _).len u hu]; omega

theorem s_laws_FnExactProductOfPartitions_ok (n : Int) (p q : List Int) (_ : OkI n) (_ : OkL OkI p) (_ : OkL OkI q) : s_laws_FnExactProductOfPartitions n p q = some true := by
  unfold s_laws_FnExactProductOfPartitions
  by_cases h1 : (1048576 : Int) < p.length
  · simp [h1]
  by_cases h2 : (1048576 : Int) < q.length
  · simp [h2]
  have e1 : p.length ≤ 4294967296 := by omega
  have e2 : q.length ≤ 4294967296 := by omega
  have hp : B1 p := by unfold B1; omega
  have hq : B1 q := by unfold B1; omega
  have hr := prodR_B n p q
  obtain ⟨⟨⟨a, g⟩, b⟩, hpr⟩ : ∃ z, prodR n p q = z := ⟨_, rfl⟩
  rw [hpr] at hr
  obtain ⟨k1, t1, m1, _, m2, m3⟩ := markIntS_ok p hp 1 (by omega) (by omega)
  obtain ⟨k2, t2, m4, _, m5, m6⟩ := markIntS_ok q hq k1 (by omega) (by omega)
  obtain ⟨k3, t3, m7, m8, m9, m10⟩ := markRelation_ok (a, g) hr 1 (by omega) (by omega)
  simp only [h1, h2, decide_false, cond_false, toIntS_ok p hp, toIntS_ok q hq, Option.bind_some, spec_ProductOfPartitions e1 e2, impl_ProductOfPartitions e1 e2, hpr, eqRelation_refl (a, g) hr, eqIntS_refl p hp, eqIntS_refl q hq, m1, m4, m7, m8,
    neg_dec' (show 0 ≤ k2 by omega), neg_dec' (show 0 ≤ k3 by omega), beq_self_eq_true, Bool.not_true, bne_self_eq_false]

end Go.Proofs
