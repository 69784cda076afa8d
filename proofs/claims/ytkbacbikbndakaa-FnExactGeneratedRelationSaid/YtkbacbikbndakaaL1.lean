/- Plain lemmas on what the functions compute, up to: the law gives true. No conditions. -/
import Derived.Test.YtkbacbikbndakaaL0
set_option linter.unusedVariables false
namespace Go.Proofs
open Go.G
set_option maxRecDepth 100000

theorem l8Close_ok {N k : Nat} {a : Int × List (Int × List Int)} {B : List (List Nat)} (ha : AlgN a N) (hB : ∀ t ∈ B, TupN N k t) (hBl : B.length ≤ 1000) (hk : k ≤ 1000000) :
    ∃ A' : List (List Nat), s_spec_l8Close (a.1, a.2) (k : Int) (NLL B) = some (NLL A', decide (A'.length ≤ mostA a.2)) ∧ Sorted A' ∧ (∀ t ∈ A', Gen N a.2 k B t) ∧ (∀ t ∈ B, t ∈ A') ∧ A'.length ≤ 2000 ∧ (A'.length ≤ mostA a.2 → Clsd N a.2 k (· ∈ A')) := by
  have hl4 := ha.l4
  have hm := mostA_le a.2
  unfold s_spec_l8Close
  rw [l8Most_eq hl4, Option.bind_some]
  rw [forC0_app (R := List (List Int) × Bool) (v := fun j => NL (gl B j)) (n := B.length) (by simp) (by omega) (fun j s hj hs => by
    rw [idx_NLL hj, Option.bind_some, l1Own_eq (by rw [NL_len, (hB _ (gl_mem hj)).1]; omega), Option.bind_some])]
  have e0 : (List.range B.length).map (fun j => NL (gl B j)) = NLL B := by
    conv => rhs; rw [← map_gl B]
    unfold NLL; rw [List.map_map]; rfl
  rw [e0, Option.bind_some, after_br']
  obtain ⟨C, e1, hC4, hCg, hC0⟩ := close_consts (R := List (List Int) × Bool) (B := B) ha hk hBl
  rw [e1, Option.bind_some, after_br']
  obtain ⟨A0', A0, i0, e2, hI0, hA0, hD0⟩ := close_first (R := List (List Int) × Bool) (ops := a.2) (D := B ++ C) hB (fun t ht => by
    rcases List.mem_append.1 ht with h | h
    · exact .base h
    · exact hCg t h) (by simp; omega) hk (fun t h => List.mem_append.2 (.inl h))
  rw [e2, Option.bind_some, after_br']
  obtain ⟨A1', A1, i1, e3, hI1, hA1, hcl⟩ := close_outer (R := List (List Int) × Bool) (N := N) (k := k) (most := mostA a.2) (ops := a.2) (B := B) (by omega) (step := fun s2566 =>
  (bif ((decide (s2566.2.2 < (s2566.2.1.length : Int))) && (decide ((s2566.2.1.length : Int) ≤ ((mostA a.2 : Nat) : Int)))) then (forC (S := (List (List Int)) × (List (List Int))) (R := (List (List Int)) × Bool) (fun k3334 s3332 =>
  (idx a.2 k3334).bind fun x3359 =>
  (idx a.2 k3334).bind fun x3362 =>
  (mks x3359.1 (0 : Int)).bind fun y3366 =>
  (iter (S := (List (List Int)) × (List (List Int)) × (List Int) × Bool) (R := (List (List Int)) × Bool) (fun s3591 =>
  (bif (s3591.2.2.2 && (decide ((s3591.2.1.length : Int) ≤ ((mostA a.2 : Nat) : Int)))) then (s_spec_l1Has s3591.2.2.1 s2566.2.2).bind fun r3617 =>
  (bif r3617 then (s_spec_l8Choose__sh s3591.2.1 s3591.2.2.1).bind fun r3695 =>
  (s_spec_l8Apply (a.1, a.2) k3334 r3695 (k : Int)).bind fun r3698 =>
  (s_spec_l8Find s3591.1 r3698).bind fun r3701 =>
  (bif (!r3701.2) then (s_spec_l8Put s3591.1 r3698).bind fun r3705 =>
  (app s3591.2.1 ([r3698])).bind fun y3710 =>
  some (r3705, y3710, s3591.2.2.1) else some (s3591.1, s3591.2.1, s3591.2.2.1)) else some (s3591.1, s3591.2.1, s3591.2.2.1)).bind fun s3674 =>
  (s_spec_l8Next s3674.2.2 (w64 (s2566.2.2 + 1))).bind fun r3714 =>
  some (.nx (s3674.1, s3674.2.1, r3714.1, r3714.2)) else some (.br (s3591.1, s3591.2.1, s3591.2.2.1, s3591.2.2.2)))) FU (s3332.1, s3332.2, y3366, (decide (0 < x3362.1)))).bind fun o3595 => after o3595 (fun r_ => some (.rt r_)) (fun s3591 =>
  some (.nx (s3591.1, s3591.2.1)))) 0 (a.2.length : Int) (s2566.1, s2566.2.1)).bind fun o3336 => after o3336 (fun r_ => some (.rt r_)) (fun s3332 =>
  some (.nx (s3332.1, s3332.2, w64 (s2566.2.2 + 1)))) else some (.br (s2566.1, s2566.2.1, s2566.2.2))))
    (fun i A' A hI hi hle hd => by
      obtain ⟨A1', A1, e, h1, h2, h3, h4⟩ := close_ops (R := List (List Int) × Bool) (N := N) (k := k) (most := mostA a.2) (ops := a.2) (B := B) hl4 (i := i) (step := fun k3334 s3332 =>
  (idx a.2 k3334).bind fun x3359 =>
  (idx a.2 k3334).bind fun x3362 =>
  (mks x3359.1 (0 : Int)).bind fun y3366 =>
  (iter (S := (List (List Int)) × (List (List Int)) × (List Int) × Bool) (R := (List (List Int)) × Bool) (fun s3591 =>
  (bif (s3591.2.2.2 && (decide ((s3591.2.1.length : Int) ≤ ((mostA a.2 : Nat) : Int)))) then (s_spec_l1Has s3591.2.2.1 (i : Int)).bind fun r3617 =>
  (bif r3617 then (s_spec_l8Choose__sh s3591.2.1 s3591.2.2.1).bind fun r3695 =>
  (s_spec_l8Apply (a.1, a.2) k3334 r3695 (k : Int)).bind fun r3698 =>
  (s_spec_l8Find s3591.1 r3698).bind fun r3701 =>
  (bif (!r3701.2) then (s_spec_l8Put s3591.1 r3698).bind fun r3705 =>
  (app s3591.2.1 ([r3698])).bind fun y3710 =>
  some (r3705, y3710, s3591.2.2.1) else some (s3591.1, s3591.2.1, s3591.2.2.1)) else some (s3591.1, s3591.2.1, s3591.2.2.1)).bind fun s3674 =>
  (s_spec_l8Next s3674.2.2 (w64 ((i : Int) + 1))).bind fun r3714 =>
  some (.nx (s3674.1, s3674.2.1, r3714.1, r3714.2)) else some (.br (s3591.1, s3591.2.1, s3591.2.2.1, s3591.2.2.2)))) FU (s3332.1, s3332.2, y3366, (decide (0 < x3362.1)))).bind fun o3595 => after o3595 (fun r_ => some (.rt r_)) (fun s3591 =>
  some (.nx (s3591.1, s3591.2.1))))
        (fun j hj A' A hI hi hl hd => by
          obtain ⟨K, T, q1, q2, ho⟩ := op_at ha hj
          have hK := ho.k3
          obtain ⟨A1', Z, X, y, r1, r2, r3, r4⟩ := l8_inner (R := List (List Int) × Bool) ha hj ho hB hk hI hi hl hd (by omega)
          refine ⟨A1', Z, ?_, r2, r3, r4⟩
          simp only [q1, Option.bind_some]
          rw [mks_ok rfl (by omega), Option.bind_some]
          rw [r1, Option.bind_some, after_br'])
        (fun j hj A' A hlt => by
          obtain ⟨K, T, q1, q2, ho⟩ := op_at ha hj
          have hK := ho.k3
          simp only [q1, Option.bind_some]
          rw [mks_ok rfl (by omega), Option.bind_some]
          rw [show FU = FU - 1 + 1 from rfl, iter_out (o := some (.br (NLL A', NLL A, List.replicate K 0, decide (0 < (K : Int))))) (by
            simp only [NLL_len, dec_le, show decide (A.length ≤ mostA a.2) = false by simpa using hlt, Bool.and_false, cond_false]) (by intro s; simp), Option.bind_some, after_br'])
        hI hi (by omega) hd
      refine ⟨A1', A1, ?_, h1, h2, h3, h4⟩
      have c : (decide ((i : Int) < ((NLL A).length : Int)) && decide (((NLL A).length : Int) ≤ ((mostA a.2 : Nat) : Int))) = true := by
        rw [NLL_len, dec_lt, dec_le, show decide (i < A.length) = true by simpa using hi, show decide (A.length ≤ mostA a.2) = true by simpa using hle, Bool.and_self]
      show (bif (decide ((i : Int) < ((NLL A).length : Int)) && decide (((NLL A).length : Int) ≤ ((mostA a.2 : Nat) : Int))) then _ else _) = _
      rw [c, cond_true, e, Option.bind_some, after_br', w64_add1 (by omega)])
    (fun i A' A hi hl hle h => by
      simp only [NLL_len, dec_lt, dec_le]
      rcases h with h | h
      · rw [show decide (i < A.length) = false by simpa using h, Bool.false_and, cond_false]
      · rw [show decide (A.length ≤ mostA a.2) = false by simpa using h, Bool.and_false, cond_false])
    hI0 (by omega) (fun f hf K T ho ds hl hx => by
      cases ds with
      | nil =>
        subst hl
        exact hD0 _ (List.mem_append.2 (.inr (hC0 f hf T ho)))
      | cons d ds => have := hx d (by simp); omega)
  rw [e3, Option.bind_some, after_br', NLL_len, dec_le]
  refine ⟨A1', rfl, hI1.srt, fun t h => hI1.gen t ((hI1.mem t).1 h), fun t h => (hI1.mem t).2 (hI1.base t h), by rw [hI1.len]; exact hA1, fun h f hf K T ho ts hl ht => ?_⟩
  exact (hI1.mem _).2 (hcl (by rw [← hI1.len]; exact h) f hf K T ho ts hl (fun t h => (hI1.mem t).1 (ht t h)))

set_option linter.unusedVariables false
def bt (H : List Bool) (c : Nat) : Bool := H.getD c false

def mk (H : List Bool) : List Nat := (List.range H.length).filter (bt H)

theorem forR_step {α S R : Type} {step : Int → α → S → Option (Ctl S R)} {i : Int} {x : α} {l : List α} {s s' : S} (h : step i x s = some (.nx s')) : forR step i (x :: l) s = forR step (i + 1) l s' := by
  conv => lhs; unfold forR
  rw [h]

def hd? : List (List Nat) → Option (List Int)
  | [] => none
  | x :: _ => some (NL x)

/-- The projections. -/
def prj (N K p : Nat) : List Nat := (List.range (N ^ K)).map fun i => ga (dig N K i) p

set_option linter.unusedVariables false

/-- The values of a table at a pattern. -/
def vp (N : Nat) (P t : List Nat) : List Nat := (List.range (N * N)).map (vat N t P)

/-- What the program notes of a table. -/
def fxd (N : Nat) (t : List Nat) : Bool := vp N [0, 1, 0] t == prj N 2 0

/-- The patterns of the three ways. -/
def pat (w : Nat) : List Nat := if w = 0 then [0, 1, 0] else if w = 1 then [0, 0, 1] else [0, 1, 1]

/-- A function that leads out of the set. -/
def bad (N : Nat) (L : List (List Nat)) (P : List Nat) (f g : Nat) : Bool := !(decide (g ∈ P)) && (fxd N (gl L g) && (vp N (pat 1) (gl L f) == vp N (pat 1) (gl L g) || vp N (pat 2) (gl L f) == vp N (pat 2) (gl L g)))

set_option linter.unusedVariables false

abbrev MI := List (ByteArray × Int)

/-- The map tells where a tuple lies. -/
def KIx (M : MI) (A : List (List Nat)) : Prop := ∀ t : List Nat, (∀ x ∈ t, x < 65536) → mget M (kkey t) = if t ∈ A then some ((A.idxOf t : Nat) : Int) else none

theorem KIx.nil : KIx [] [] := fun t _ => by simp [mget]

theorem KIx.add {M : MI} {A : List (List Nat)} (h : KIx M A) {t : List Nat} (ht : ∀ x ∈ t, x < 65536) (hn : t ∉ A) : KIx (mput M (kkey t) (A.length : Int)) (A ++ [t]) := fun s hs => by
  rw [mget_put]
  by_cases e : s = t
  · subst e
    rw [if_pos rfl, if_pos (by simp), List.idxOf_append, if_neg hn]; simp
  · rw [if_neg (fun h' => e ((kkey_inj hs ht).1 h')), h s hs]
    by_cases hm : s ∈ A
    · rw [if_pos hm, if_pos (by simp [hm]), List.idxOf_append, if_pos hm]
    · rw [if_neg hm, if_neg (by simp [hm, e])]

def addN (A : List (List Nat)) (t : List Nat) : List (List Nat) := if t ∈ A then [] else [t]

theorem addN_mem (A : List (List Nat)) (t : List Nat) : t ∈ A ++ addN A t := by
  unfold addN; split
  · simp [*]
  · simp

theorem addN_sub {A : List (List Nat)} {t u : List Nat} (h : u ∈ addN A t) : u = t := by
  unfold addN at h; split at h
  · cases h
  · simpa using h

theorem addN_len (A : List (List Nat)) (t : List Nat) : (A ++ addN A t).length ≤ A.length + 1 := by
  unfold addN; split <;> simp

theorem addN_nd {A : List (List Nat)} (h : A.Nodup) (t : List Nat) : (A ++ addN A t).Nodup := by
  unfold addN; split
  · simpa using h
  · rename_i hn
    rw [List.nodup_append]
    exact ⟨h, by simp, fun a ha b hb => by simp at hb; subst hb; exact fun e => hn (e ▸ ha)⟩

theorem spanAdd_eq {M : MI} {A : List (List Nat)} {n k : Int} {ops : List (Int × List Int)} (hM : KIx M A) {t : List Nat} (ht : ∀ x ∈ t, x < 65536) (hl : t.length ≤ 1000000000) (hA : A.length ≤ 1000000) :
    ∃ M', s_impl_span__add (NL t) (n, ops, k, NLL A, M) = some (NLL (A ++ addN A t), M') ∧ KIx M' (A ++ addN A t) := by
  unfold s_impl_span__add addN
  simp only [keyOf_eq hl, Option.bind_some, hM t ht]
  by_cases hm : t ∈ A
  · simp only [if_pos hm, List.append_nil]; exact ⟨M, rfl, hM⟩
  · simp only [if_neg hm, Option.isSome_none, Bool.not_false, cond_true]
    rw [app_ok (by simp; omega), Option.bind_some]
    exact ⟨mput M (kkey t) (A.length : Int), by rw [NLL_len]; simp [NLL], hM.add ht hm⟩

theorem forR_ix {R : Type} {N p : Nat} (h8 : N ≤ 8) : ∀ (ts : List (List Nat)) (i : Int) (s : Nat), (∀ t ∈ ts, p < t.length ∧ ga t p < N) → (s + 1) * 8 ^ ts.length ≤ 4096 →
    forR (S := Int) (R := R) (fun _ x74 s71 => (idx x74 (p : Int)).bind fun x81 => some (.nx (w64 ((w64 (s71 * (N : Int))) + x81)))) i (NLL ts) (s : Int) = some (.br ((ix N s (ts.map fun t => ga t p) : Nat) : Int))
  | [], i, s, _, _ => rfl
  | t :: ts, i, s, h, hb => by
    have h1 := h t (by simp)
    rw [List.length_cons, Nat.pow_succ] at hb
    have hp : 0 < 8 ^ ts.length := Nat.pow_pos (by omega)
    have e8 : (s + 1) * (8 ^ ts.length * 8) = ((s + 1) * 8) * 8 ^ ts.length := by rw [Nat.mul_assoc, Nat.mul_comm 8]
    rw [e8] at hb
    have hb1 : (s + 1) * 8 ≤ 4096 := Nat.le_trans (Nat.le_mul_of_pos_right _ hp) hb
    have hs : s * N ≤ s * 8 := Nat.mul_le_mul_left _ h8
    rw [NLL_cons, forR_step (s' := ((s * N + ga t p : Nat) : Int)) (by rw [idx_NL h1.1, Option.bind_some, w64_mul (by omega), w64_add (by omega)])]
    rw [forR_ix h8 ts (i + 1) (s * N + ga t p) (fun u hu => h u (by simp [hu])) (Nat.le_trans (Nat.mul_le_mul_right _ (by omega)) hb)]
    rfl

theorem applyTuples_eq {N K k : Nat} {a : Int × List (Int × List Int)} {f : Int × List Int} {T : List Nat} {ts : List (List Nat)} (ha : AlgN a N) (ho : OpN N f K T) (hts : ts.length = K) (hk : ∀ t ∈ ts, TupN N k t) (hkl : k ≤ 1000000) :
    s_impl_applyTuples (a.1, a.2) (f.1, f.2) (k : Int) (NLL ts) = some (NL (apT N T ts k)) := by
  have hK := ho.k3
  have h8 := ha.n8
  unfold s_impl_applyTuples
  rw [mks_ok rfl (by omega), Option.bind_some]
  rw [forC0_set (R := List Int) (v := fun p => ((ga T (ix N 0 (ts.map fun t => ga t p)) : Nat) : Int)) (n := k) (z := (0 : Int)) (by simp) (by omega) rfl (fun p s hp hs => by
    have e1 := forR_ix (R := List Int) (p := p) h8 ts 0 0 (fun t ht => ⟨by rw [(hk t ht).1]; exact hp, (hk t ht).2 _ (ga_mem (by rw [(hk t ht).1]; exact hp))⟩) (by
      have : 8 ^ ts.length ≤ 8 ^ 3 := Nat.pow_le_pow_right (by omega) (by omega)
      omega)
    rw [show ((0 : Nat) : Int) = 0 from rfl] at e1
    have hlt : ix N 0 (ts.map fun t => ga t p) < T.length := by
      rw [ho.len]
      refine ix0_lt (fun y hy => ?_) (by simpa using hts)
      obtain ⟨t, h, rfl⟩ := List.mem_map.1 hy
      exact (hk t h).2 _ (ga_mem (by rw [(hk t h).1]; exact hp))
    simp only [show a.1 = (N : Int) from ha.eN, e1, Option.bind_some, after_br', show f.2 = NL T by rw [ho.eq], idx_NL hlt]
    rw [idx_nat, List.getElem?_eq_getElem (by omega), Option.bind_some, Int.toNat_natCast])]
  show some ((List.range k).map _) = _
  unfold apT NL
  rw [List.map_map]; rfl

theorem mostTuples_eq (a : Int × List (Int × List Int)) : s_impl_mostTuples (a.1, a.2) = some ((mostA a.2 : Nat) : Int) := by
  unfold s_impl_mostTuples
  rw [forR_fold (fun s f => max s f.1) 0 a.2 0 (fun i x hx s => rfl), Option.bind_some, after_br']
  have e : a.2.foldl (fun s f => max s f.1) (0 : Int) = mxA a.2 := by
    unfold mxA
    congr 1
    funext s f
    split <;> omega
  rw [e]
  unfold mostA
  generalize mxA a.2 = x
  by_cases h3 : x = 3
  · subst h3; rfl
  · rw [show (x == 3) = false by simpa using h3, if_neg h3, cond_false]
    by_cases h2 : x = 2
    · subst h2; rfl
    · rw [show (x == 2) = false by simpa using h2, if_neg h2, cond_false]; rfl

structure SpI (N : Nat) (ops : List (Int × List Int)) (k : Nat) (B A : List (List Nat)) (M : MI) : Prop where
  nd : A.Nodup
  key : KIx M A
  gen : ∀ t ∈ A, Gen N ops k B t

def frO (old : Nat) (ds : List Nat) : Bool := ds.any fun d => decide (old ≤ d)

theorem frO_snoc (old : Nat) (ds : List Nat) (d : Nat) : frO old (ds ++ [d]) = (frO old ds || decide (old ≤ d)) := by simp [frO]

theorem SpI.step {N k : Nat} {a : Int × List (Int × List Int)} {B A : List (List Nat)} {M : MI} (ha : AlgN a N) (hB : ∀ t ∈ B, TupN N k t) (h : SpI N a.2 k B A M) {t : List Nat} (ht : Gen N a.2 k B t) (hk : k ≤ 1000000) (hA : A.length ≤ 1000000) :
    ∃ M', s_impl_span__add (NL t) (a.1, a.2, (k : Int), NLL A, M) = some (NLL (A ++ addN A t), M') ∧ SpI N a.2 k B (A ++ addN A t) M' := by
  have h8 := ha.n8
  have htt := ht.tup hB
  obtain ⟨M', e, hM'⟩ := spanAdd_eq (n := a.1) (k := (k : Int)) (ops := a.2) h.key (t := t) (fun x hx => by have := htt.2 x hx; omega) (by rw [htt.1]; omega) hA
  refine ⟨M', e, addN_nd h.nd t, hM', fun u hu => ?_⟩
  rcases List.mem_append.1 hu with hu | hu
  · exact h.gen u hu
  · rw [addN_sub hu]; exact ht

theorem NLL_snoc (L : List (List Nat)) (t : List Nat) : NLL L ++ [NL t] = NLL (L ++ [t]) := by simp [NLL]

theorem applyNew_ok {N K k old many : Nat} {a : Int × List (Int × List Int)} {f : Int × List Int} {T : List Nat} {B : List (List Nat)} (ha : AlgN a N) (hf : f ∈ a.2) (ho : OpN N f K T) (hB : ∀ t ∈ B, TupN N k t) (hk : k ≤ 1000000) :
    ∀ (n fu : Nat) (ds : List Nat) (A : List (List Nat)) (M : MI), ds.length + n = K → n < fu → SpI N a.2 k B A M → many ≤ A.length → A.length ≤ mostA a.2 → (∀ d ∈ ds, d < many) →
    ∃ Z M' ok, s_impl_span__applyNew fu (f.1, f.2) (NLL (ds.map (gl A))) (old : Int) (many : Int) (frO old ds) (a.1, a.2, (k : Int), NLL A, M) = some (ok, NLL (A ++ Z), M') ∧ SpI N a.2 k B (A ++ Z) M' ∧
      (ok = true → (A ++ Z).length ≤ mostA a.2 ∧ ∀ es : List Nat, es.length = n → (∀ e ∈ es, e < many) → (frO old (ds ++ es) = true ∨ (K = 0 ∧ old = 0)) → apT N T ((ds ++ es).map (gl A)) k ∈ A ++ Z) ∧ (ok = false → mostA a.2 < (A ++ Z).length)
  | 0, fu, ds, A, M, hl, hfu, hI, hm, hA, hds => by
    obtain ⟨fu, rfl⟩ : ∃ j, fu = j + 1 := ⟨fu - 1, by omega⟩
    have hmo := mostA_le a.2
    unfold s_impl_span__applyNew
    have hlK : ds.length = K := by omega
    have ef : f.1 = (K : Int) := by rw [ho.eq]
    rw [show (((NLL (ds.map (gl A))).length : Int) == (f.1, f.2).1) = true by simp [ef, hlK], cond_true]
    have hts : ∀ t ∈ ds.map (gl A), Gen N a.2 k B t := fun t ht => by
      obtain ⟨x, hx, rfl⟩ := List.mem_map.1 ht
      exact hI.gen _ (gl_mem (by have := hds x hx; omega))
    have hg : Gen N a.2 k B (apT N T (ds.map (gl A)) k) := .app hf ho (by simpa using hlK) hts
    have eK : ((f.1, f.2).1 == 0) = decide (K = 0) := by
      show (f.1 == 0) = _
      rw [ef, Bool.eq_iff_iff, beq_iff_eq, decide_eq_true_eq]; omega
    have eo : ((old : Int) == 0) = decide (old = 0) := by
      rw [Bool.eq_iff_iff, beq_iff_eq, decide_eq_true_eq]; omega
    by_cases hc : frO old ds = true ∨ (K = 0 ∧ old = 0)
    · have ec : (frO old ds || ((f.1, f.2).1 == 0 && (old : Int) == 0)) = true := by
        rw [eK, eo]
        rcases hc with h | ⟨h1, h2⟩
        · rw [h]; rfl
        · simp [h1, h2]
      rw [ec, cond_true, applyTuples_eq ha ho (by simpa using hlK) (fun t ht => (hts t ht).tup hB) hk, Option.bind_some]
      obtain ⟨M', e, hI'⟩ := hI.step ha hB hg hk (by omega)
      rw [e, Option.bind_some, Option.bind_some, mostTuples_eq, Option.bind_some]
      refine ⟨addN A (apT N T (ds.map (gl A)) k), M', _, rfl, hI', fun hok => ⟨?_, fun es he _ _ => ?_⟩, fun hok => ?_⟩
      · rw [decide_eq_true_eq, NLL_len] at hok; omega
      · rw [List.length_eq_zero_iff.1 he, List.append_nil]; exact addN_mem _ _
      · rw [decide_eq_false_iff_not, NLL_len] at hok; omega
    · have ec : (frO old ds || ((f.1, f.2).1 == 0 && (old : Int) == 0)) = false := by
        rw [eK, eo]
        cases h : frO old ds with
        | true => exact absurd (.inl h) hc
        | false =>
          rw [Bool.false_or, ← Bool.decide_and]
          exact decide_eq_false (fun h => hc (.inr h))
      rw [ec, cond_false, Option.bind_some, mostTuples_eq, Option.bind_some]
      refine ⟨[], M, true, ?_, by rw [List.append_nil]; exact hI, fun _ => ⟨by rw [List.append_nil]; exact hA, fun es he _ h => ?_⟩, fun h => by cases h⟩
      · rw [List.append_nil]
        simp only [NLL_len, dec_le, show decide (A.length ≤ mostA a.2) = true by simpa using hA]
      · rw [List.length_eq_zero_iff.1 he, List.append_nil] at h
        exact absurd h hc
  | n + 1, fu, ds, A, M, hl, hfu, hI, hm, hA, hds => by
    obtain ⟨fu, rfl⟩ : ∃ j, fu = j + 1 := ⟨fu - 1, by omega⟩
    have hmo := mostA_le a.2
    have hK3 := ho.k3
    unfold s_impl_span__applyNew
    have ef : f.1 = (K : Int) := by rw [ho.eq]
    rw [show (((NLL (ds.map (gl A))).length : Int) == (f.1, f.2).1) = false by
      rw [NLL_len, List.length_map]
      show ((ds.length : Int) == f.1) = false
      rw [ef, beq_nat]; simp; omega, cond_false]
    have := forC0_hoare (R := Bool × (List (List Int)) × MI) (S := (List (List Int)) × MI) (n := many) (hi := (many : Int)) (s := (NLL A, M))
      (step := fun k665 s663 =>
  ((idx s663.1 k665).bind fun x881 =>
  (app (NLL (ds.map (gl A))) ([x881])).bind fun y889 =>
  (bif frO old ds then (s_impl_span__applyNew fu (f.1, f.2) y889 (old : Int) (many : Int) true (a.1, a.2, (k : Int), s663.1, s663.2)).bind fun r893 =>
  some ((!r893.1), r893.2.1, r893.2.2) else (s_impl_span__applyNew fu (f.1, f.2) y889 (old : Int) (many : Int) (decide ((old : Int) ≤ k665)) (a.1, a.2, (k : Int), s663.1, s663.2)).bind fun r897 =>
  some ((!r897.1), r897.2.1, r897.2.2))).bind fun s871 =>
  (bif s871.1 then some (.rt (false, s871.2.1, s871.2.2)) else some (.nx (s871.2.1, s871.2.2))))
      (fun j s => ∃ Z M', s = (NLL (A ++ Z), M') ∧ SpI N a.2 k B (A ++ Z) M' ∧ (A ++ Z).length ≤ mostA a.2 ∧ ∀ i, i < j → ∀ es : List Nat, es.length = n → (∀ e ∈ es, e < many) → (frO old (ds ++ i :: es) = true ∨ (K = 0 ∧ old = 0)) → apT N T ((ds ++ i :: es).map (gl A)) k ∈ A ++ Z)
      (fun _ => False)
      (fun r => ∃ Z M', r = (false, NLL (A ++ Z), M') ∧ SpI N a.2 k B (A ++ Z) M' ∧ mostA a.2 < (A ++ Z).length)
      rfl (by omega) ⟨[], M, by rw [List.append_nil], by rw [List.append_nil]; exact hI, by rw [List.append_nil]; exact hA, fun i hi => by omega⟩ (by
        rintro j s hj ⟨Z, M', rfl, hI', hA', hd⟩
        have hdl : ∀ x ∈ ds ++ [j], x < A.length := fun x hx => by
          rcases List.mem_append.1 hx with hx | hx
          · have := hds x hx; omega
          · simp at hx; omega
        have ey : app (NLL (ds.map (gl A))) [NL (gl (A ++ Z) j)] = some (NLL ((ds ++ [j]).map (gl (A ++ Z)))) := by
          rw [app_ok (by simp; omega), NLL_snoc, map_gl_app hdl, gl_app (hdl j (by simp))]; simp
        have ecall : (bif frO old ds then (s_impl_span__applyNew fu (f.1, f.2) (NLL ((ds ++ [j]).map (gl (A ++ Z)))) (old : Int) (many : Int) true (a.1, a.2, (k : Int), NLL (A ++ Z), M')).bind fun r893 =>
  some ((!r893.1), r893.2.1, r893.2.2) else (s_impl_span__applyNew fu (f.1, f.2) (NLL ((ds ++ [j]).map (gl (A ++ Z)))) (old : Int) (many : Int) (decide ((old : Int) ≤ (j : Int))) (a.1, a.2, (k : Int), NLL (A ++ Z), M')).bind fun r897 =>
  some ((!r897.1), r897.2.1, r897.2.2)) = (s_impl_span__applyNew fu (f.1, f.2) (NLL ((ds ++ [j]).map (gl (A ++ Z)))) (old : Int) (many : Int) (frO old (ds ++ [j])) (a.1, a.2, (k : Int), NLL (A ++ Z), M')).bind (fun r897 =>
            some ((!r897.1), r897.2.1, r897.2.2)) := by
          rw [frO_snoc, dec_le]
          cases frO old ds <;> rfl
        obtain ⟨Z2, M2, ok, e, hI2, hok, hno⟩ := applyNew_ok (old := old) (many := many) ha hf ho hB hk n fu (ds ++ [j]) (A ++ Z) M' (by simp; omega) (by omega) hI' (by simp; omega) hA' (fun d hd => by
          rcases List.mem_append.1 hd with hd | hd
          · exact hds d hd
          · simp at hd; omega)
        simp only [idx_NLL (show j < (A ++ Z).length by simp; omega), Option.bind_some, ey, ecall, e]
        cases ok with
        | false =>
          right; right
          exact ⟨_, rfl, Z ++ Z2, M2, by simp, by rw [← List.append_assoc]; exact hI2, by rw [← List.append_assoc]; exact hno rfl⟩
        | true =>
          left
          obtain ⟨h1, h2⟩ := hok rfl
          refine ⟨_, rfl, Z ++ Z2, M2, by simp, by rw [← List.append_assoc]; exact hI2, by rw [← List.append_assoc]; exact h1, fun i hi es hes hel hfr => ?_⟩
          rw [← List.append_assoc]
          by_cases eij : i = j
          · subst eij
            have := h2 es hes hel (by rw [List.append_assoc]; exact hfr)
            rw [show ds ++ [i] ++ es = ds ++ i :: es by simp, map_gl_app (fun x hx => by
              rcases List.mem_append.1 hx with hx | hx
              · have := hds x hx; omega
              · rcases List.mem_cons.1 hx with rfl | hx
                · omega
                · have := hel x hx; omega)] at this
            exact this
          · exact List.mem_append_left _ (hd i (by omega) es hes hel hfr))
    rcases this with ⟨s', e, h | h⟩ | ⟨r, e, h⟩
    · obtain ⟨Z, M', rfl, h1, h2, h3⟩ := h
      refine ⟨Z, M', true, ?_, h1, fun _ => ⟨h2, fun es hes hel hfr => ?_⟩, fun h => by cases h⟩
      · show ((forC _ 0 (many : Int) (NLL A, M)).bind _) = _
        rw [e]; rfl
      · cases es with
        | nil => cases hes
        | cons i es => exact h3 i (hel i (by simp)) es (by simpa using hes) (fun x hx => hel x (by simp [hx])) hfr
    · exact h.elim
    · obtain ⟨Z, M', rfl, h1, h2⟩ := h
      refine ⟨Z, M', false, ?_, h1, (fun h => by cases h), fun _ => h2⟩
      show ((forC _ 0 (many : Int) (NLL A, M)).bind _) = _
      rw [e]; rfl

set_option linter.unusedVariables false

/-- What is done so far. -/
def DoneO (N : Nat) (ops : List (Int × List Int)) (k old : Nat) (first : Bool) (A : List (List Nat)) : Prop := ∀ f ∈ ops, ∀ K T, OpN N f K T → ∀ ds : List Nat, ds.length = K → (∀ x ∈ ds, x < old) → (K = 0 → first = false) → apT N T (ds.map (gl A)) k ∈ A

theorem DoneO.clsd {N k : Nat} {ops : List (Int × List Int)} {A : List (List Nat)} (h : DoneO N ops k A.length false A) : Clsd N ops k (· ∈ A) := fun f hf K T ho ts hl ht => by
  obtain ⟨ds, h1, h2, h3⟩ := ds_of A ts ht
  have := h f hf K T ho ds (by omega) h2 (fun _ => rfl)
  rwa [h3] at this

/-- One round over all operations. -/
theorem span_ops {R : Type} {N k old : Nat} {a : Int × List (Int × List Int)} {B A : List (List Nat)} {M : MI} (bad : R) (ha : AlgN a N) (hB : ∀ t ∈ B, TupN N k t) (hk : k ≤ 1000000) (hI : SpI N a.2 k B A M) (hA : A.length ≤ mostA a.2) :
    (∃ Z M', forR (S := (List (List Int)) × (List (ByteArray × Int))) (R := R) (fun _ x297 s294 =>
  (mkc 0 3).bind fun u317 =>
  (s_impl_span__applyNew FU (x297.1, x297.2) (List.replicate (Int.toNat 0) ([] : List Int)) (old : Int) ((A.length : Nat) : Int) false (a.1, a.2, (k : Int), s294.1, s294.2)).bind fun r321 =>
  (bif (!r321.1) then some (.rt bad) else some (.nx (r321.2.1, r321.2.2)))) 0 a.2 (NLL A, M) = some (.br (NLL (A ++ Z), M')) ∧ SpI N a.2 k B (A ++ Z) M' ∧ (A ++ Z).length ≤ mostA a.2 ∧ ∀ f ∈ a.2, ∀ K T, OpN N f K T → ∀ ds : List Nat, ds.length = K → (∀ x ∈ ds, x < A.length) → (frO old ds = true ∨ (K = 0 ∧ old = 0)) → apT N T (ds.map (gl A)) k ∈ A ++ Z) ∨
    (forR (S := (List (List Int)) × (List (ByteArray × Int))) (R := R) (fun _ x297 s294 =>
  (mkc 0 3).bind fun u317 =>
  (s_impl_span__applyNew FU (x297.1, x297.2) (List.replicate (Int.toNat 0) ([] : List Int)) (old : Int) ((A.length : Nat) : Int) false (a.1, a.2, (k : Int), s294.1, s294.2)).bind fun r321 =>
  (bif (!r321.1) then some (.rt bad) else some (.nx (r321.2.1, r321.2.2)))) 0 a.2 (NLL A, M) = some (.rt bad) ∧ ∃ A2 : List (List Nat), A2.Nodup ∧ (∀ t ∈ A2, Gen N a.2 k B t) ∧ mostA a.2 < A2.length) := by
  have := forR_hoare (S := (List (List Int)) × (List (ByteArray × Int))) (R := R) (step := fun _ x297 s294 =>
  (mkc 0 3).bind fun u317 =>
  (s_impl_span__applyNew FU (x297.1, x297.2) (List.replicate (Int.toNat 0) ([] : List Int)) (old : Int) ((A.length : Nat) : Int) false (a.1, a.2, (k : Int), s294.1, s294.2)).bind fun r321 =>
  (bif (!r321.1) then some (.rt bad) else some (.nx (r321.2.1, r321.2.2))))
    (fun pre s => ∃ Z M', s = (NLL (A ++ Z), M') ∧ SpI N a.2 k B (A ++ Z) M' ∧ (A ++ Z).length ≤ mostA a.2 ∧ ∀ f ∈ pre, ∀ K T, OpN N f K T → ∀ ds : List Nat, ds.length = K → (∀ x ∈ ds, x < A.length) → (frO old ds = true ∨ (K = 0 ∧ old = 0)) → apT N T (ds.map (gl A)) k ∈ A ++ Z)
    (fun _ => False)
    (fun r => r = bad ∧ ∃ A2 : List (List Nat), A2.Nodup ∧ (∀ t ∈ A2, Gen N a.2 k B t) ∧ mostA a.2 < A2.length)
    a.2 [] 0 (NLL A, M) ⟨[], M, by rw [List.append_nil], by rw [List.append_nil]; exact hI, by rw [List.append_nil]; exact hA, fun f hf => by cases hf⟩ (by
      rintro i pre' f post s el ⟨Z, M', rfl, hI', hA', hd⟩
      have hf : f ∈ a.2 := by rw [el]; simp
      obtain ⟨K, T, ho⟩ := ha.ops f hf
      have hK := ho.k3
      obtain ⟨Z2, M2, ok, e, hI2, hok, hno⟩ := applyNew_ok (old := old) (many := A.length) ha hf ho hB hk K FU [] (A ++ Z) M' (by simp) (by unfold FU; omega) hI' (by simp) hA' (fun d hd => by cases hd)
      rw [show mkc 0 3 = some () from rfl, Option.bind_some]
      rw [show NLL (List.map (gl (A ++ Z)) []) = List.replicate (Int.toNat 0) ([] : List Int) from rfl, show frO old [] = false from rfl] at e
      simp only [e, Option.bind_some]
      cases ok with
      | false =>
        right; right
        exact ⟨_, rfl, rfl, _, hI2.nd, hI2.gen, hno rfl⟩
      | true =>
        left
        obtain ⟨h1, h2⟩ := hok rfl
        refine ⟨_, rfl, Z ++ Z2, M2, by simp, by rw [← List.append_assoc]; exact hI2, by rw [← List.append_assoc]; exact h1, fun g hg K' T' ho' ds hl hx hfr => ?_⟩
        rw [← List.append_assoc]
        rw [List.nil_append] at hg
        rcases List.mem_append.1 hg with hg | hg
        · exact List.mem_append_left _ (hd g hg K' T' ho' ds hl hx hfr)
        · simp at hg; subst hg
          obtain ⟨rfl, rfl⟩ := ho.uniq ho'
          have := h2 ds hl hx (by simpa using hfr)
          rwa [List.nil_append, map_gl_app hx] at this)
  rcases this with ⟨s', e, h | h⟩ | ⟨r, e, h⟩
  · obtain ⟨Z, M', rfl, h1, h2, h3⟩ := h
    exact .inl ⟨Z, M', e, h1, h2, fun f hf => h3 f (by simpa using hf)⟩
  · exact h.elim
  · obtain ⟨rfl, h⟩ := h
    exact .inr ⟨e, h⟩

theorem spanOf_ok {N k : Nat} {a : Int × List (Int × List Int)} {B : List (List Nat)} (ha : AlgN a N) (hB : ∀ t ∈ B, TupN N k t) (hBl : B.length ≤ 1000) (hk : k ≤ 1000000) :
    (∃ A M, s_impl_spanOf (a.1, a.2) (k : Int) (NLL B) = some (some ((a.1, a.2), (k : Int), NLL A, M), true) ∧ SpI N a.2 k B A M ∧ (∀ t ∈ B, t ∈ A) ∧ Clsd N a.2 k (· ∈ A) ∧ A.length ≤ mostA a.2) ∨
    (s_impl_spanOf (a.1, a.2) (k : Int) (NLL B) = some (none, false) ∧ ∃ A : List (List Nat), A.Nodup ∧ (∀ t ∈ A, Gen N a.2 k B t) ∧ mostA a.2 < A.length) := by
  have hmo := mostA_le a.2
  have h8 := ha.n8
  unfold s_impl_spanOf
  have first := forR_hoare (S := (List (List Int)) × (List (ByteArray × Int))) (R := (Option ((Int × (List (Int × (List Int)))) × Int × (List (List Int)) × (List (ByteArray × Int)))) × Bool) (step := fun (_ : Int) (x59 : List Int) s56 =>
  (s_impl_clone x59).bind fun r76 =>
  (s_impl_span__add r76 (a.1, a.2, (k : Int), s56.1, s56.2)).bind fun r81 =>
  some (.nx (r81.1, r81.2)))
    (fun pre s => ∃ A M, s = (NLL A, M) ∧ SpI N a.2 k B A M ∧ (∀ t, NL t ∈ pre → t ∈ A) ∧ A.length ≤ pre.length)
    (fun _ => False) (fun _ => False)
    (NLL B) [] 0 ([], []) ⟨[], [], rfl, ⟨List.nodup_nil, KIx.nil, List.forall_mem_nil _⟩, (fun t h => by cases h), Nat.le_refl _⟩ (by
      rintro i pre' x post s el ⟨A, M, rfl, hI, hp, hl⟩
      left
      have hx : x ∈ NLL B := by rw [el]; simp
      obtain ⟨t, ht, rfl⟩ := List.mem_map.1 hx
      have hlen : pre'.length ≤ B.length := by
        have := congrArg List.length el
        simp at this; omega
      have htt := hB t ht
      obtain ⟨M', e, hI'⟩ := hI.step ha hB (.base ht) hk (by simp at hl; omega)
      have hc : s_impl_clone (NL t) = some (NL t) := clone_eq (by rw [NL_len, htt.1]; omega)
      change ∃ s', (s_impl_clone (NL t)).bind _ = _ ∧ _
      rw [hc, Option.bind_some]
      simp only [e, Option.bind_some]
      refine ⟨_, rfl, A ++ addN A t, M', rfl, hI', fun u hu => ?_, ?_⟩
      · rw [List.nil_append] at hu
        rcases List.mem_append.1 hu with hu | hu
        · exact List.mem_append_left _ (hp u (by simpa using hu))
        · simp at hu; rw [NL_inj hu]; exact addN_mem _ _
      · have := addN_len A t
        simp at hl ⊢; simp at this; omega)
  rcases first with ⟨s', e1, h | h⟩ | ⟨r, _, h⟩
  rotate_left
  · exact h.elim
  · exact h.elim
  obtain ⟨A, M, rfl, hI, hp, hl⟩ := h
  rw [List.nil_append] at hp hl
  rw [NLL_len] at hl
  have hBA : ∀ t ∈ B, t ∈ A := fun t ht => hp t (List.mem_map.2 ⟨t, ht, rfl⟩)
  rw [e1, Option.bind_some, after_br', mostTuples_eq, Option.bind_some]
  simp only [NLL_len, dec_lt]
  by_cases hmA : mostA a.2 < A.length
  · right
    rw [decide_eq_true hmA, cond_true]
    exact ⟨rfl, A, hI.nd, hI.gen, hmA⟩
  rw [decide_eq_false hmA, cond_false]
  obtain ⟨c, hc, hQ, _⟩ := iter_inv (S := Int × Bool × (List (List Int)) × (List (ByteArray × Int))) (R := (Option ((Int × (List (Int × (List Int)))) × Int × (List (List Int)) × (List (ByteArray × Int)))) × Bool) (step := fun s238 =>
  (bif (s238.2.1 || (decide (s238.1 < (s238.2.2.1.length : Int)))) then (forR (S := (List (List Int)) × (List (ByteArray × Int))) (R := (Option ((Int × (List (Int × (List Int)))) × Int × (List (List Int)) × (List (ByteArray × Int)))) × Bool) (fun _ x297 s294 =>
  (mkc 0 3).bind fun u317 =>
  (s_impl_span__applyNew FU (x297.1, x297.2) (List.replicate (Int.toNat 0) ([] : List Int)) s238.1 (s238.2.2.1.length : Int) false (a.1, a.2, (k : Int), s294.1, s294.2)).bind fun r321 =>
  (bif (!r321.1) then some (.rt (none, false)) else some (.nx (r321.2.1, r321.2.2)))) 0 a.2 (s238.2.2.1, s238.2.2.2)).bind fun o298 => after o298 (fun r_ => some (.rt r_)) (fun s294 =>
  some (.nx ((s238.2.2.1.length : Int), false, s294.1, s294.2))) else some (.br (s238.1, s238.2.1, s238.2.2.1, s238.2.2.2))))
    (fun s => ∃ (old : Nat) (first : Bool) (A : List (List Nat)) (M : MI), s = ((old : Int), first, NLL A, M) ∧ SpI N a.2 k B A M ∧ old ≤ A.length ∧ A.length ≤ mostA a.2 ∧ (first = true → old = 0) ∧ DoneO N a.2 k old first A ∧ ∀ t ∈ B, t ∈ A)
    (fun s => 1000 - s.1.toNat + (if s.2.1 then 1 else 0))
    (fun c => (∃ (A : List (List Nat)) (M : MI) (x : Int), c = .br (x, false, NLL A, M) ∧ SpI N a.2 k B A M ∧ A.length ≤ mostA a.2 ∧ Clsd N a.2 k (· ∈ A) ∧ ∀ t ∈ B, t ∈ A) ∨ (c = .rt (none, false) ∧ ∃ A : List (List Nat), A.Nodup ∧ (∀ t ∈ A, Gen N a.2 k B t) ∧ mostA a.2 < A.length))
    FU (0, true, NLL A, M) ⟨0, true, A, M, rfl, hI, Nat.zero_le _, by omega, fun _ => rfl, fun f hf K T ho ds hds hx h0 => by
      cases ds with
      | nil => exact absurd (h0 (by simpa using hds.symm)) (by simp)
      | cons d ds => exact absurd (hx d (by simp)) (by omega), hBA⟩ (by simp [FU]) (by
      rintro s ⟨old, first, A, M, rfl, hI, hoA, hA, hf0, hd, hBA⟩
      simp only [NLL_len, dec_lt]
      by_cases hgo : first = true ∨ old < A.length
      · rw [show (first || decide (old < A.length)) = true by rcases hgo with h | h <;> simp [h], cond_true]
        rcases span_ops (R := (Option ((Int × (List (Int × (List Int)))) × Int × (List (List Int)) × (List (ByteArray × Int)))) × Bool) (old := old) (none, false) ha hB hk hI hA with ⟨Z, M', e, hI', hA', hd'⟩ | ⟨e, h⟩
        · left
          rw [e, Option.bind_some, after_br']
          refine ⟨_, rfl, ⟨A.length, false, A ++ Z, M', rfl, hI', by simp, hA', (fun h => by cases h), fun f hf K T ho ds hds hx _ => ?_, fun t ht => List.mem_append_left _ (hBA t ht)⟩, ?_⟩
          · rw [map_gl_app hx]
            by_cases hfr : frO old ds = true ∨ (K = 0 ∧ old = 0)
            · exact hd' f hf K T ho ds hds hx hfr
            · refine List.mem_append_left _ (hd f hf K T ho ds hds (fun x hx' => ?_) (fun hK0 => ?_))
              · rcases Nat.lt_or_ge x old with h | h
                · exact h
                · exact absurd (.inl (List.any_eq_true.2 ⟨x, hx', by simpa using h⟩)) hfr
              · cases first with
                | false => rfl
                | true => exact absurd (.inr ⟨hK0, hf0 rfl⟩) hfr
          · cases first with
            | true => have := hf0 rfl; subst this; simp; omega
            | false =>
              have : old < A.length := by simpa using hgo
              simp; omega
        · right
          rw [e, Option.bind_some, after_rt']
          exact ⟨_, rfl, by intro s; simp, .inr ⟨rfl, h⟩⟩
      · right
        have hfi : first = false := by
          cases first with
          | false => rfl
          | true => exact absurd (.inl rfl) hgo
        have e : old = A.length := by
          have : ¬ old < A.length := fun h => hgo (.inr h)
          omega
        subst hfi
        rw [show (false || decide (old < A.length)) = false by simp; omega, cond_false]
        refine ⟨_, rfl, by intro s; simp, .inl ⟨A, M, _, rfl, hI, hA, ?_, hBA⟩⟩
        rw [e] at hd
        exact hd.clsd)
  rw [show (0 : Int) = ((0 : Nat) : Int) from rfl] at hc ⊢
  rcases hQ with ⟨A2, M2, x, rfl, h1, h2, h3, h4⟩ | ⟨rfl, h⟩
  · left
    rw [hc]
    exact ⟨A2, M2, rfl, h1, h4, h3, h2⟩
  · right
    rw [hc]
    exact ⟨rfl, h⟩

theorem nodup_sub {L M : List (List Nat)} (h : L.Nodup) (hs : ∀ x ∈ L, x ∈ M) : L.length ≤ M.length := by
  induction L generalizing M with
  | nil => simp
  | cons x L ih =>
    rw [List.nodup_cons] at h
    have hx := hs x (by simp)
    have := ih (M := M.erase x) h.2 (fun y hy => by
      have hne : y ≠ x := fun e => h.1 (e ▸ hy)
      exact (List.mem_erase_of_ne hne).2 (hs y (by simp [hy])))
    rw [List.length_erase_of_mem hx] at this
    have : 0 < M.length := List.length_pos_of_mem hx
    simp; omega

/-- Both sides find the same tuples, or too many. -/
theorem span_both {N k : Nat} {a : Int × List (Int × List Int)} {B : List (List Nat)} (ha : AlgN a N) (hB : ∀ t ∈ B, TupN N k t) (hBl : B.length ≤ 1000) (hk : k ≤ 1000000) :
    (∃ A' A M, s_spec_l8Close (a.1, a.2) (k : Int) (NLL B) = some (NLL A', true) ∧ s_impl_spanOf (a.1, a.2) (k : Int) (NLL B) = some (some ((a.1, a.2), (k : Int), NLL A, M), true) ∧ s_impl_sortedTuples (NLL A) = some (NLL A') ∧
      SpI N a.2 k B A M ∧ Sorted A' ∧ (∀ t, t ∈ A ↔ t ∈ A') ∧ (∀ t, t ∈ A' ↔ Gen N a.2 k B t) ∧ A'.length ≤ 300 ∧ A.length = A'.length) ∨
    (∃ A', s_spec_l8Close (a.1, a.2) (k : Int) (NLL B) = some (NLL A', false) ∧ s_impl_spanOf (a.1, a.2) (k : Int) (NLL B) = some (none, false)) := by
  have hmo := mostA_le a.2
  obtain ⟨A', e1, hs, hg, hb, hl, hcl⟩ := l8Close_ok ha hB hBl hk
  have nd' : A'.Nodup := sorted_nodup lexLt_irrefl hs
  rcases spanOf_ok ha hB hBl hk with ⟨A, M, e2, hI, hBA, hclA, hA⟩ | ⟨e2, A, nd, hgA, hmA⟩
  · left
    have allA : ∀ t, Gen N a.2 k B t → t ∈ A := fun t ht => ht.least hBA hclA
    have h1 : A'.length ≤ A.length := nodup_sub nd' (fun t ht => allA t (hg t ht))
    have hle : A'.length ≤ mostA a.2 := by omega
    have allA' : ∀ t, Gen N a.2 k B t → t ∈ A' := fun t ht => ht.least hb (hcl hle)
    have h2 : A.length ≤ A'.length := nodup_sub hI.nd (fun t ht => allA' t (hI.gen t ht))
    have hlen : ∀ t ∈ A, t.length = k := fun t ht => ((hI.gen t ht).tup hB).1
    obtain ⟨S, e3, hp, hsS⟩ := sortedTuples_eq (k := k) (by omega) (by omega) hlen
    have eS : S = A' := by
      refine asc_unique ?_ ?_ (fun t => ?_)
      · have ndS : S.Nodup := hp.nodup_iff.2 hI.nd
        refine List.Pairwise.imp_of_mem ?_ (List.Pairwise.and hsS ndS)
        rintro x y hx hy ⟨h1, h2⟩
        have lx := hlen x (hp.mem_iff.1 hx)
        have ly := hlen y (hp.mem_iff.1 hy)
        rw [← lexLt_ltL (by omega)] at h1 ⊢
        exact lexLt_tri (by omega) h1 (fun e => h2 e.symm)
      · refine List.Pairwise.imp_of_mem ?_ hs
        intro x y hx hy h
        rw [← lexLt_ltL (by rw [((hg x hx).tup hB).1, ((hg y hy).tup hB).1])]; exact h
      · rw [hp.mem_iff]; exact ⟨fun h => allA' t (hI.gen t h), fun h => allA t (hg t h)⟩
    subst eS
    exact ⟨S, A, M, by rw [e1, decide_eq_true hle], e2, e3, hI, hs, fun t => hp.symm.mem_iff, fun t => ⟨hg t, allA' t⟩, by omega, by omega⟩
  · right
    refine ⟨A', ?_, e2⟩
    rw [e1]
    congr 2
    rw [decide_eq_false_iff_not]
    intro hle
    have := nodup_sub nd (M := A') (fun t ht => (hgA t ht).least hb (hcl hle))
    omega

set_option linter.unusedVariables false

def tupB (n k : Int) (t : List Int) : Bool := decide ((t.length : Int) = k) && t.all fun x => decide (0 ≤ x) && decide (x < n)

theorem areTuples_eq (a : Int × List (Int × List Int)) (k : Int) (ts : List (List Int)) : s_impl_areTuples (a.1, a.2) k ts = some (ts.all (tupB a.1 k)) := by
  unfold s_impl_areTuples
  rw [forR_chk (tupB a.1 k) false () 0 ts (fun i x hx => by
    by_cases h : (x.length : Int) = k
    · rw [show ((x.length : Int) != k) = false by simp [h], cond_false, inSize_eq, Option.bind_some]
      unfold tupB
      rw [decide_eq_true h, Bool.true_and]
      cases (x.all _) <;> rfl
    · rw [show ((x.length : Int) != k) = true by simpa using h, cond_true]
      unfold tupB
      rw [decide_eq_false h]; rfl)]
  cases ts.all (tupB a.1 k) <;> rfl

theorem isLength_eq (k : Int) : s_impl_isLength k = some (decide (1 ≤ k) && decide (k ≤ 64)) := by
  unfold s_impl_isLength
  cases decide (1 ≤ k) <;> rfl

theorem tupB_of {N k : Nat} {B : List (List Nat)} (h : ∀ t ∈ B, TupN N k t) : (NLL B).all (tupB (N : Int) (k : Int)) = true := by
  rw [List.all_eq_true]
  intro x hx
  obtain ⟨t, ht, rfl⟩ := List.mem_map.1 hx
  unfold tupB
  rw [Bool.and_eq_true, decide_eq_true_eq, NL_len]
  exact ⟨by rw [(h t ht).1], allIn_NL.2 ⟨t, rfl, (h t ht).2⟩⟩

theorem GeneratedRelation_same (a : Int × List (Int × List Int)) (r : Int × List (List Int)) (ha : BA a) (hr : BR r) : ∃ z, s_spec_GeneratedRelation (a.1, a.2) (r.1, r.2) = some z ∧ s_impl_GeneratedRelation (a.1, a.2) (r.1, r.2) = some z ∧ BR z.1 := by
  have hnil : BR (0, []) := ⟨by simp, fun x hx => by cases hx⟩
  have hl : r.2.length ≤ 1048576 := hr.1
  have hx : ∀ t ∈ r.2, t.length ≤ 1048576 := hr.2
  unfold s_spec_GeneratedRelation s_impl_GeneratedRelation
  rcases alg_cases a ha with ⟨N, hN, e1, e2⟩ | ⟨_, e1, e2⟩
  · rw [e1, e2]
    simp only [Option.bind_some, Bool.not_true, cond_false]
    have en := hN.eN
    have h8 := hN.n8
    have h1 := hN.n1
    rcases (isRelation_says (N := N) en r (by omega)).cases with ⟨f1, hR⟩ | ⟨f1, hR⟩
    · have f1 : s_impl_isRelation a.1 (r.1, r.2) = some true := f1
      have f2 : s_spec_l13Takes a.1 (r.1, r.2) = some true := by
        rcases (l13Takes_says (n := a.1) r (by omega) (fun t ht => by have := hx t ht; omega)).cases with ⟨f2, _⟩ | ⟨_, hR2⟩
        · exact f2
        · exact absurd ⟨⟨by omega, by omega⟩, by rw [show a.1.toNat = N by omega]; exact hR⟩ hR2
      rw [f1, f2]
      simp only [Option.bind_some, Bool.not_true, cond_false]
      obtain ⟨k, L, hL⟩ := hR
      have hk1 := hL.k1
      have hk3 := hL.k3
      have er := hL.eq
      have hB : ∀ t ∈ L, TupN N k t := fun t ht => ⟨hL.rel.len t ht, hL.lt t ht⟩
      have er1 : r.1 = (k : Int) := by rw [er]
      have er2 : r.2 = NLL L := by rw [er]
      rw [er1, er2]
      unfold s_impl_GenerateSubpower
      by_cases h20 : L.length ≤ 20
      · rw [show decide (20 < ((NLL L).length : Int)) = false by simp; omega, cond_false]
        have g1 : s_impl_areGens (a.1, a.2) (k : Int) (NLL L) = some true := by
          unfold s_impl_areGens
          rw [e2, Option.bind_some, cond_true, isLength_eq, Option.bind_some, show decide ((1 : Int) ≤ (k : Int)) = true by simp; omega, show decide ((k : Int) ≤ 64) = true by simp; omega, Bool.and_self, cond_true,
            show decide (((NLL L).length : Int) ≤ 20) = true by simp; omega, cond_true, areTuples_eq, Option.bind_some, en, tupB_of hB]
        rw [g1, Option.bind_some, Bool.not_true, cond_false]
        rcases span_both hN hB (by omega) (by omega) with ⟨A', A, M, s1, s2, s3, hI, _, _, hg, hle, _⟩ | ⟨A', s1, s2⟩
        · rw [s1, s2]
          simp only [Option.bind_some, Bool.not_true, cond_false, s3]
          exact ⟨_, rfl, rfl, NLL_B2 (by omega) (fun t ht => by rw [(((hg t).1 ht).tup hB).1]; omega)⟩
        · rw [s1, s2]
          exact ⟨_, rfl, rfl, hnil⟩
      · rw [show decide (20 < ((NLL L).length : Int)) = true by simp; omega, cond_true]
        have g1 : s_impl_areGens (a.1, a.2) (k : Int) (NLL L) = some false := by
          unfold s_impl_areGens
          rw [e2, Option.bind_some, cond_true, isLength_eq, Option.bind_some, show decide (((NLL L).length : Int) ≤ 20) = false by simp; omega]
          cases (decide (1 ≤ (k : Int)) && decide ((k : Int) ≤ 64)) <;> rfl
        rw [g1]
        exact ⟨_, rfl, rfl, hnil⟩
    · have f1 : s_impl_isRelation a.1 (r.1, r.2) = some false := f1
      have f2 : s_spec_l13Takes a.1 (r.1, r.2) = some false := by
        rcases (l13Takes_says (n := a.1) r (by omega) (fun t ht => by have := hx t ht; omega)).cases with ⟨_, hR2⟩ | ⟨f2, _⟩
        · exact absurd (by rw [show N = a.1.toNat by omega]; exact hR2.2) hR
        · exact f2
      rw [f1, f2]
      exact ⟨_, rfl, rfl, hnil⟩
  · rw [e1, e2]
    exact ⟨_, rfl, rfl, hnil⟩

theorem s_laws_FnExactGeneratedRelation_ok (a : Int × List (Int × List Int)) (r : Int × List (List Int)) (ha : OkP OkI (OkL (OkP OkI (OkL OkI))) a) (hr : OkP OkI (OkL (OkL OkI)) r) : s_laws_FnExactGeneratedRelation a r = some true := by
  unfold s_laws_FnExactGeneratedRelation
  obtain ⟨u, hu, hb⟩ := OkAlg.sz ha 1048576 (by omega) (by omega)
  have hu : s_laws_szAlgebra (a.1, a.2) 1048576 = some u := hu
  rw [hu, Option.bind_some]
  by_cases hneg : u < 0
  · rw [show decide (u < 0) = true by simpa using hneg]; rfl
  rcases hb with hb | ⟨hb, hu0, hu1⟩
  · exact absurd hb hneg
  rw [show decide (u < 0) = false by simpa using hneg, cond_false]
  obtain ⟨v, hv, hb2⟩ := szRelation_ok r hr.2.1 (fun x hx => (hr.2.2 x hx).1) u hu0 (by omega)
  have hv : s_laws_szRelation (r.1, r.2) u = some v := hv
  rw [hv, Option.bind_some]
  by_cases hneg2 : v < 0
  · rw [show decide (v < 0) = true by simpa using hneg2]; rfl
  rcases hb2 with hb2 | ⟨hb2, _, _⟩
  · exact absurd hb2 hneg2
  rw [show decide (v < 0) = false by simpa using hneg2, cond_false]
  have e1 : s_laws_toAlgebra (a.1, a.2) = some a := toAlgebra_ok a hb
  have e2 : s_laws_eqAlgebra (a.1, a.2) (a.1, a.2) = some true := eqAlgebra_refl a hb
  have e3 : s_laws_toRelation (r.1, r.2) = some r := toRelation_ok r hb2
  have e4 : s_laws_eqRelation (r.1, r.2) (r.1, r.2) = some true := eqRelation_refl r hb2
  obtain ⟨⟨g, b⟩, z1, z2, hg⟩ := GeneratedRelation_same a r hb hb2
  obtain ⟨k1, t1, m1, m2, m3⟩ := markAlgebra_ok a hb 1 (by omega) (by omega)
  have m1 : s_laws_markAlgebra (a.1, a.2) 1 = some (k1, t1) := m1
  obtain ⟨k3, t3, m4, _, m4', m5⟩ := markRelation_ok r hb2 k1 m2 (by omega)
  have m4 : s_laws_markRelation (r.1, r.2) k1 = some (k3, t3) := m4
  have hg : BR g := hg
  have e5 : s_laws_eqRelation (g.1, g.2) (g.1, g.2) = some true := eqRelation_refl g hg
  obtain ⟨k2, t2, m6, m7, m8, _⟩ := markRelation_ok g hg 1 (by omega) (by omega)
  have m6 : s_laws_markRelation (g.1, g.2) 1 = some (k2, t2) := m6
  simp only [e1, e2, e3, e4, e5, Option.bind_some, z1, z2, m1, m4, m6, m7, neg_dec' m4', neg_dec' m8, beq_self_eq_true, bne_self_eq_false, Bool.not_true, cond_false]

end Go.Proofs
