/- Plain lemmas on what the functions compute, up to: the law gives true. No conditions. -/
import Derived.Test.YtkbacbikbndakaaGreatL0
set_option linter.unusedVariables false
namespace Go.Proofs
open Go.G
set_option maxRecDepth 100000

theorem wR {N K k : Nat} {a : Int × List (Int × List Int)} {f : Int × List Int} {T : List Nat} {ts : List (List Nat)} (ha : AlgN a N) (ho : OpN N f K T) (hts : ts.length = K) (hk : ∀ t ∈ ts, TupN N k t) (hkl : k ≤ 1000000) :
    yf (a.1, a.2) (f.1, f.2) (k : Int) (NLL ts) = some (NL (apT N T ts k)) := by
  have hK := ho.k3
  have h8 := ha.n8
  unfold yf
  rw [xO rfl (by omega), Option.bind_some]
  rw [Wg (R := List Int) (v := fun p => ((ga T (ix N 0 (ts.map fun t => ga t p)) : Nat) : Int)) (n := k) (z := (0 : Int)) (by simp) (by omega) rfl (fun p s hp hs => by
    have e1 := forR_ix (R := List Int) (p := p) h8 ts 0 0 (fun t ht => ⟨by rw [(hk t ht).1]; exact hp, (hk t ht).2 _ (yE (by rw [(hk t ht).1]; exact hp))⟩) (by
      have : 8 ^ ts.length ≤ 8 ^ 3 := Nat.pow_le_pow_right (by omega) (by omega)
      omega)
    rw [show ((0 : Nat) : Int) = 0 from rfl] at e1
    have hlt : ix N 0 (ts.map fun t => ga t p) < T.length := by
      rw [ho.len]
      refine Xn (fun y hy => ?_) (by simpa using hts)
      obtain ⟨t, h, rfl⟩ := List.mem_map.1 hy
      exact (hk t h).2 _ (yE (by rw [(hk t h).1]; exact hp))
    simp only [show a.1 = (N : Int) from ha.eN, e1, Option.bind_some, zD, show f.2 = NL T by rw [ho.eq], ZA hlt]
    rw [ZC, List.getElem?_eq_getElem (by omega), Option.bind_some, Int.toNat_natCast])]
  show some ((List.range k).map _) = _
  unfold apT NL
  rw [List.map_map]; rfl

theorem XX (a : Int × List (Int × List Int)) : yG (a.1, a.2) = some ((ZU a.2 : Nat) : Int) := by
  unfold yG
  rw [Ue (fun s f => max s f.1) 0 a.2 0 (fun i x hx s => rfl), Option.bind_some, zD]
  have e : a.2.foldl (fun s f => max s f.1) (0 : Int) = mxA a.2 := by
    unfold mxA
    congr 1
    funext s f
    split <;> omega
  rw [e]
  unfold ZU
  generalize mxA a.2 = x
  by_cases h3 : x = 3
  · subst h3; rfl
  · rw [show (x == 3) = false by simpa using h3, if_neg h3, cond_false]
    by_cases h2 : x = 2
    · subst h2; rfl
    · rw [show (x == 2) = false by simpa using h2, if_neg h2, cond_false]; rfl

structure SpI (N : Nat) (ops : List (Int × List Int)) (k : Nat) (B A : List (List Nat)) (M : MI) : Prop where
  nd : A.Nodup
  key : KIx M A
  gen : ∀ t ∈ A, Gen N ops k B t

def frO (old : Nat) (ds : List Nat) : Bool := ds.any fun d => decide (old ≤ d)

theorem frO_snoc (old : Nat) (ds : List Nat) (d : Nat) : frO old (ds ++ [d]) = (frO old ds || decide (old ≤ d)) := by simp [frO]

theorem SpI.step {N k : Nat} {a : Int × List (Int × List Int)} {B A : List (List Nat)} {M : MI} (ha : AlgN a N) (hB : ∀ t ∈ B, TupN N k t) (h : SpI N a.2 k B A M) {t : List Nat} (ht : Gen N a.2 k B t) (hk : k ≤ 1000000) (hA : A.length ≤ 1000000) :
    ∃ M', yk (NL t) (a.1, a.2, (k : Int), NLL A, M) = some (NLL (A ++ addN A t), M') ∧ SpI N a.2 k B (A ++ addN A t) M' := by
  have h8 := ha.n8
  have htt := ht.tup hB
  obtain ⟨M', e, hM'⟩ := zbB (n := a.1) (k := (k : Int)) (ops := a.2) h.key (t := t) (fun x hx => by have := htt.2 x hx; omega) (by rw [htt.1]; omega) hA
  refine ⟨M', e, addN_nd h.nd t, hM', fun u hu => ?_⟩
  rcases List.mem_append.1 hu with hu | hu
  · exact h.gen u hu
  · rw [addN_sub hu]; exact ht

theorem NLL_snoc (L : List (List Nat)) (t : List Nat) : NLL L ++ [NL t] = NLL (L ++ [t]) := by simp [NLL]

theorem Vl {N K k old many : Nat} {a : Int × List (Int × List Int)} {f : Int × List Int} {T : List Nat} {B : List (List Nat)} (ha : AlgN a N) (hf : f ∈ a.2) (ho : OpN N f K T) (hB : ∀ t ∈ B, TupN N k t) (hk : k ≤ 1000000) :
    ∀ (n fu : Nat) (ds : List Nat) (A : List (List Nat)) (M : MI), ds.length + n = K → n < fu → SpI N a.2 k B A M → many ≤ A.length → A.length ≤ ZU a.2 → (∀ d ∈ ds, d < many) →
    ∃ Z M' ok, zL fu (f.1, f.2) (NLL (ds.map (gl A))) (old : Int) (many : Int) (frO old ds) (a.1, a.2, (k : Int), NLL A, M) = some (ok, NLL (A ++ Z), M') ∧ SpI N a.2 k B (A ++ Z) M' ∧
      (ok = true → (A ++ Z).length ≤ ZU a.2 ∧ ∀ es : List Nat, es.length = n → (∀ e ∈ es, e < many) → (frO old (ds ++ es) = true ∨ (K = 0 ∧ old = 0)) → apT N T ((ds ++ es).map (gl A)) k ∈ A ++ Z) ∧ (ok = false → ZU a.2 < (A ++ Z).length)
  | 0, fu, ds, A, M, hl, hfu, hI, hm, hA, hds => by
    obtain ⟨fu, rfl⟩ : ∃ j, fu = j + 1 := ⟨fu - 1, by omega⟩
    have hmo := wi a.2
    unfold zL
    have hlK : ds.length = K := by omega
    have ef : f.1 = (K : Int) := by rw [ho.eq]
    rw [show (((NLL (ds.map (gl A))).length : Int) == (f.1, f.2).1) = true by simp [ef, hlK], cond_true]
    have hts : ∀ t ∈ ds.map (gl A), Gen N a.2 k B t := fun t ht => by
      obtain ⟨x, hx, rfl⟩ := List.mem_map.1 ht
      exact hI.gen _ (YM (by have := hds x hx; omega))
    have hg : Gen N a.2 k B (apT N T (ds.map (gl A)) k) := .app hf ho (by simpa using hlK) hts
    have eK : ((f.1, f.2).1 == 0) = decide (K = 0) := by
      show (f.1 == 0) = _
      rw [ef, Bool.eq_iff_iff, beq_iff_eq, decide_eq_true_eq]; omega
    have eo : ((old : Int) == 0) = decide (old = 0) := by
      rw [Bool.eq_iff_iff, beq_iff_eq, decide_eq_true_eq]; omega
    by_cases hc : frO old ds = true ∨ (K = 0 ∧ old = 0)
    · have ec : (frO old ds || ((f.1, f.2).1 == 0 && (old : Int) == 0)) = true := by
        rw [eK, eo]
        rcases hc with h | ⟨h1, h2⟩
        · rw [h]; rfl
        · simp [h1, h2]
      rw [ec, cond_true, wR ha ho (by simpa using hlK) (fun t ht => (hts t ht).tup hB) hk, Option.bind_some]
      obtain ⟨M', e, hI'⟩ := hI.step ha hB hg hk (by omega)
      rw [e, Option.bind_some, Option.bind_some, XX, Option.bind_some]
      refine ⟨addN A (apT N T (ds.map (gl A)) k), M', _, rfl, hI', fun hok => ⟨?_, fun es he _ _ => ?_⟩, fun hok => ?_⟩
      · rw [decide_eq_true_eq, yo] at hok; omega
      · rw [List.length_eq_zero_iff.1 he, List.append_nil]; exact zaT _ _
      · rw [decide_eq_false_iff_not, yo] at hok; omega
    · have ec : (frO old ds || ((f.1, f.2).1 == 0 && (old : Int) == 0)) = false := by
        rw [eK, eo]
        cases h : frO old ds with
        | true => exact absurd (.inl h) hc
        | false =>
          rw [Bool.false_or, ← Bool.decide_and]
          exact decide_eq_false (fun h => hc (.inr h))
      rw [ec, cond_false, Option.bind_some, XX, Option.bind_some]
      refine ⟨[], M, true, ?_, by rw [List.append_nil]; exact hI, fun _ => ⟨by rw [List.append_nil]; exact hA, fun es he _ h => ?_⟩, fun h => by cases h⟩
      · rw [List.append_nil]
        simp only [yo, wZ, show decide (A.length ≤ ZU a.2) = true by simpa using hA]
      · rw [List.length_eq_zero_iff.1 he, List.append_nil] at h
        exact absurd h hc
  | n + 1, fu, ds, A, M, hl, hfu, hI, hm, hA, hds => by
    obtain ⟨fu, rfl⟩ : ∃ j, fu = j + 1 := ⟨fu - 1, by omega⟩
    have hmo := wi a.2
    have hK3 := ho.k3
    unfold zL
    have ef : f.1 = (K : Int) := by rw [ho.eq]
    rw [show (((NLL (ds.map (gl A))).length : Int) == (f.1, f.2).1) = false by
      rw [yo, List.length_map]
      show ((ds.length : Int) == f.1) = false
      rw [ef, XM]; simp; omega, cond_false]
    have := Zo (R := Bool × (List (List Int)) × MI) (S := (List (List Int)) × MI) (n := many) (hi := (many : Int)) (s := (NLL A, M))
      (step := fun k665 s663 =>
  ((idx s663.1 k665).bind fun x881 =>
  (app (NLL (ds.map (gl A))) ([x881])).bind fun y889 =>
  (bif frO old ds then (zL fu (f.1, f.2) y889 (old : Int) (many : Int) true (a.1, a.2, (k : Int), s663.1, s663.2)).bind fun r893 =>
  some ((!r893.1), r893.2.1, r893.2.2) else (zL fu (f.1, f.2) y889 (old : Int) (many : Int) (decide ((old : Int) ≤ k665)) (a.1, a.2, (k : Int), s663.1, s663.2)).bind fun r897 =>
  some ((!r897.1), r897.2.1, r897.2.2))).bind fun s871 =>
  (bif s871.1 then some (.rt (false, s871.2.1, s871.2.2)) else some (.nx (s871.2.1, s871.2.2))))
      (fun j s => ∃ Z M', s = (NLL (A ++ Z), M') ∧ SpI N a.2 k B (A ++ Z) M' ∧ (A ++ Z).length ≤ ZU a.2 ∧ ∀ i, i < j → ∀ es : List Nat, es.length = n → (∀ e ∈ es, e < many) → (frO old (ds ++ i :: es) = true ∨ (K = 0 ∧ old = 0)) → apT N T ((ds ++ i :: es).map (gl A)) k ∈ A ++ Z)
      (fun _ => False)
      (fun r => ∃ Z M', r = (false, NLL (A ++ Z), M') ∧ SpI N a.2 k B (A ++ Z) M' ∧ ZU a.2 < (A ++ Z).length)
      rfl (by omega) ⟨[], M, by rw [List.append_nil], by rw [List.append_nil]; exact hI, by rw [List.append_nil]; exact hA, fun i hi => by omega⟩ (by
        rintro j s hj ⟨Z, M', rfl, hI', hA', hd⟩
        have hdl : ∀ x ∈ ds ++ [j], x < A.length := fun x hx => by
          rcases List.mem_append.1 hx with hx | hx
          · have := hds x hx; omega
          · simp at hx; omega
        have ey : app (NLL (ds.map (gl A))) [NL (gl (A ++ Z) j)] = some (NLL ((ds ++ [j]).map (gl (A ++ Z)))) := by
          rw [yv (by simp; omega), NLL_snoc, xZ hdl, gl_app (hdl j (by simp))]; simp
        have ecall : (bif frO old ds then (zL fu (f.1, f.2) (NLL ((ds ++ [j]).map (gl (A ++ Z)))) (old : Int) (many : Int) true (a.1, a.2, (k : Int), NLL (A ++ Z), M')).bind fun r893 =>
  some ((!r893.1), r893.2.1, r893.2.2) else (zL fu (f.1, f.2) (NLL ((ds ++ [j]).map (gl (A ++ Z)))) (old : Int) (many : Int) (decide ((old : Int) ≤ (j : Int))) (a.1, a.2, (k : Int), NLL (A ++ Z), M')).bind fun r897 =>
  some ((!r897.1), r897.2.1, r897.2.2)) = (zL fu (f.1, f.2) (NLL ((ds ++ [j]).map (gl (A ++ Z)))) (old : Int) (many : Int) (frO old (ds ++ [j])) (a.1, a.2, (k : Int), NLL (A ++ Z), M')).bind (fun r897 =>
            some ((!r897.1), r897.2.1, r897.2.2)) := by
          rw [frO_snoc, wZ]
          cases frO old ds <;> rfl
        obtain ⟨Z2, M2, ok, e, hI2, hok, hno⟩ := Vl (old := old) (many := many) ha hf ho hB hk n fu (ds ++ [j]) (A ++ Z) M' (by simp; omega) (by omega) hI' (by simp; omega) hA' (fun d hd => by
          rcases List.mem_append.1 hd with hd | hd
          · exact hds d hd
          · simp at hd; omega)
        simp only [YZ (show j < (A ++ Z).length by simp; omega), Option.bind_some, ey, ecall, e]
        cases ok with
        | false =>
          right; right
          exact ⟨_, rfl, Z ++ Z2, M2, by simp, by rw [← List.append_assoc]; exact hI2, by rw [← List.append_assoc]; exact hno rfl⟩
        | true =>
          left
          obtain ⟨h1, h2⟩ := hok rfl
          refine ⟨_, rfl, Z ++ Z2, M2, by simp, by rw [← List.append_assoc]; exact hI2, by rw [← List.append_assoc]; exact h1, fun i hi es hes hel hfr => ?_⟩
          rw [← List.append_assoc]
          by_cases eij : i = j
          · subst eij
            have := h2 es hes hel (by rw [List.append_assoc]; exact hfr)
            rw [show ds ++ [i] ++ es = ds ++ i :: es by simp, xZ (fun x hx => by
              rcases List.mem_append.1 hx with hx | hx
              · have := hds x hx; omega
              · rcases List.mem_cons.1 hx with rfl | hx
                · omega
                · have := hel x hx; omega)] at this
            exact this
          · exact List.mem_append_left _ (hd i (by omega) es hes hel hfr))
    rcases this with ⟨s', e, h | h⟩ | ⟨r, e, h⟩
    · obtain ⟨Z, M', rfl, h1, h2, h3⟩ := h
      refine ⟨Z, M', true, ?_, h1, fun _ => ⟨h2, fun es hes hel hfr => ?_⟩, fun h => by cases h⟩
      · show ((forC _ 0 (many : Int) (NLL A, M)).bind _) = _
        rw [e]; rfl
      · cases es with
        | nil => cases hes
        | cons i es => exact h3 i (hel i (by simp)) es (by simpa using hes) (fun x hx => hel x (by simp [hx])) hfr
    · exact h.elim
    · obtain ⟨Z, M', rfl, h1, h2⟩ := h
      refine ⟨Z, M', false, ?_, h1, (fun h => by cases h), fun _ => h2⟩
      show ((forC _ 0 (many : Int) (NLL A, M)).bind _) = _
      rw [e]; rfl

set_option linter.unusedVariables false

/-- What is done so far. -/
def DoneO (N : Nat) (ops : List (Int × List Int)) (k old : Nat) (first : Bool) (A : List (List Nat)) : Prop := ∀ f ∈ ops, ∀ K T, OpN N f K T → ∀ ds : List Nat, ds.length = K → (∀ x ∈ ds, x < old) → (K = 0 → first = false) → apT N T (ds.map (gl A)) k ∈ A

theorem DoneO.clsd {N k : Nat} {ops : List (Int × List Int)} {A : List (List Nat)} (h : DoneO N ops k A.length false A) : Clsd N ops k (· ∈ A) := fun f hf K T ho ts hl ht => by
  obtain ⟨ds, h1, h2, h3⟩ := ds_of A ts ht
  have := h f hf K T ho ds (by omega) h2 (fun _ => rfl)
  rwa [h3] at this

/-- One round over all operations. -/
theorem span_ops {R : Type} {N k old : Nat} {a : Int × List (Int × List Int)} {B A : List (List Nat)} {M : MI} (bad : R) (ha : AlgN a N) (hB : ∀ t ∈ B, TupN N k t) (hk : k ≤ 1000000) (hI : SpI N a.2 k B A M) (hA : A.length ≤ ZU a.2) :
    (∃ Z M', forR (S := (List (List Int)) × (List (ByteArray × Int))) (R := R) (fun _ x297 s294 =>
  (mkc 0 3).bind fun u317 =>
  (zL FU (x297.1, x297.2) (List.replicate (Int.toNat 0) ([] : List Int)) (old : Int) ((A.length : Nat) : Int) false (a.1, a.2, (k : Int), s294.1, s294.2)).bind fun r321 =>
  (bif (!r321.1) then some (.rt bad) else some (.nx (r321.2.1, r321.2.2)))) 0 a.2 (NLL A, M) = some (.br (NLL (A ++ Z), M')) ∧ SpI N a.2 k B (A ++ Z) M' ∧ (A ++ Z).length ≤ ZU a.2 ∧ ∀ f ∈ a.2, ∀ K T, OpN N f K T → ∀ ds : List Nat, ds.length = K → (∀ x ∈ ds, x < A.length) → (frO old ds = true ∨ (K = 0 ∧ old = 0)) → apT N T (ds.map (gl A)) k ∈ A ++ Z) ∨
    (forR (S := (List (List Int)) × (List (ByteArray × Int))) (R := R) (fun _ x297 s294 =>
  (mkc 0 3).bind fun u317 =>
  (zL FU (x297.1, x297.2) (List.replicate (Int.toNat 0) ([] : List Int)) (old : Int) ((A.length : Nat) : Int) false (a.1, a.2, (k : Int), s294.1, s294.2)).bind fun r321 =>
  (bif (!r321.1) then some (.rt bad) else some (.nx (r321.2.1, r321.2.2)))) 0 a.2 (NLL A, M) = some (.rt bad) ∧ ∃ A2 : List (List Nat), A2.Nodup ∧ (∀ t ∈ A2, Gen N a.2 k B t) ∧ ZU a.2 < A2.length) := by
  have := WU (S := (List (List Int)) × (List (ByteArray × Int))) (R := R) (step := fun _ x297 s294 =>
  (mkc 0 3).bind fun u317 =>
  (zL FU (x297.1, x297.2) (List.replicate (Int.toNat 0) ([] : List Int)) (old : Int) ((A.length : Nat) : Int) false (a.1, a.2, (k : Int), s294.1, s294.2)).bind fun r321 =>
  (bif (!r321.1) then some (.rt bad) else some (.nx (r321.2.1, r321.2.2))))
    (fun pre s => ∃ Z M', s = (NLL (A ++ Z), M') ∧ SpI N a.2 k B (A ++ Z) M' ∧ (A ++ Z).length ≤ ZU a.2 ∧ ∀ f ∈ pre, ∀ K T, OpN N f K T → ∀ ds : List Nat, ds.length = K → (∀ x ∈ ds, x < A.length) → (frO old ds = true ∨ (K = 0 ∧ old = 0)) → apT N T (ds.map (gl A)) k ∈ A ++ Z)
    (fun _ => False)
    (fun r => r = bad ∧ ∃ A2 : List (List Nat), A2.Nodup ∧ (∀ t ∈ A2, Gen N a.2 k B t) ∧ ZU a.2 < A2.length)
    a.2 [] 0 (NLL A, M) ⟨[], M, by rw [List.append_nil], by rw [List.append_nil]; exact hI, by rw [List.append_nil]; exact hA, fun f hf => by cases hf⟩ (by
      rintro i pre' f post s el ⟨Z, M', rfl, hI', hA', hd⟩
      have hf : f ∈ a.2 := by rw [el]; simp
      obtain ⟨K, T, ho⟩ := ha.ops f hf
      have hK := ho.k3
      obtain ⟨Z2, M2, ok, e, hI2, hok, hno⟩ := Vl (old := old) (many := A.length) ha hf ho hB hk K FU [] (A ++ Z) M' (by simp) (by unfold FU; omega) hI' (by simp) hA' (fun d hd => by cases hd)
      rw [show mkc 0 3 = some () from rfl, Option.bind_some]
      rw [show NLL (List.map (gl (A ++ Z)) []) = List.replicate (Int.toNat 0) ([] : List Int) from rfl, show frO old [] = false from rfl] at e
      simp only [e, Option.bind_some]
      cases ok with
      | false =>
        right; right
        exact ⟨_, rfl, rfl, _, hI2.nd, hI2.gen, hno rfl⟩
      | true =>
        left
        obtain ⟨h1, h2⟩ := hok rfl
        refine ⟨_, rfl, Z ++ Z2, M2, by simp, by rw [← List.append_assoc]; exact hI2, by rw [← List.append_assoc]; exact h1, fun g hg K' T' ho' ds hl hx hfr => ?_⟩
        rw [← List.append_assoc]
        rw [List.nil_append] at hg
        rcases List.mem_append.1 hg with hg | hg
        · exact List.mem_append_left _ (hd g hg K' T' ho' ds hl hx hfr)
        · simp at hg; subst hg
          obtain ⟨rfl, rfl⟩ := ho.uniq ho'
          have := h2 ds hl hx (by simpa using hfr)
          rwa [List.nil_append, xZ hx] at this)
  rcases this with ⟨s', e, h | h⟩ | ⟨r, e, h⟩
  · obtain ⟨Z, M', rfl, h1, h2, h3⟩ := h
    exact .inl ⟨Z, M', e, h1, h2, fun f hf => h3 f (by simpa using hf)⟩
  · exact h.elim
  · obtain ⟨rfl, h⟩ := h
    exact .inr ⟨e, h⟩

theorem spanOf_ok {N k : Nat} {a : Int × List (Int × List Int)} {B : List (List Nat)} (ha : AlgN a N) (hB : ∀ t ∈ B, TupN N k t) (hBl : B.length ≤ 1000) (hk : k ≤ 1000000) :
    (∃ A M, yS (a.1, a.2) (k : Int) (NLL B) = some (some ((a.1, a.2), (k : Int), NLL A, M), true) ∧ SpI N a.2 k B A M ∧ (∀ t ∈ B, t ∈ A) ∧ Clsd N a.2 k (· ∈ A) ∧ A.length ≤ ZU a.2) ∨
    (yS (a.1, a.2) (k : Int) (NLL B) = some (none, false) ∧ ∃ A : List (List Nat), A.Nodup ∧ (∀ t ∈ A, Gen N a.2 k B t) ∧ ZU a.2 < A.length) := by
  have hmo := wi a.2
  have h8 := ha.n8
  unfold yS
  have first := WU (S := (List (List Int)) × (List (ByteArray × Int))) (R := (Option ((Int × (List (Int × (List Int)))) × Int × (List (List Int)) × (List (ByteArray × Int)))) × Bool) (step := fun (_ : Int) (x59 : List Int) s56 =>
  (yM x59).bind fun r76 =>
  (yk r76 (a.1, a.2, (k : Int), s56.1, s56.2)).bind fun r81 =>
  some (.nx (r81.1, r81.2)))
    (fun pre s => ∃ A M, s = (NLL A, M) ∧ SpI N a.2 k B A M ∧ (∀ t, NL t ∈ pre → t ∈ A) ∧ A.length ≤ pre.length)
    (fun _ => False) (fun _ => False)
    (NLL B) [] 0 ([], []) ⟨[], [], rfl, ⟨List.nodup_nil, KIx.nil, List.forall_mem_nil _⟩, (fun t h => by cases h), Nat.le_refl _⟩ (by
      rintro i pre' x post s el ⟨A, M, rfl, hI, hp, hl⟩
      left
      have hx : x ∈ NLL B := by rw [el]; simp
      obtain ⟨t, ht, rfl⟩ := List.mem_map.1 hx
      have hlen : pre'.length ≤ B.length := by
        have := congrArg List.length el
        simp at this; omega
      have htt := hB t ht
      obtain ⟨M', e, hI'⟩ := hI.step ha hB (.base ht) hk (by simp at hl; omega)
      have hc : yM (NL t) = some (NL t) := zaY (by rw [xf, htt.1]; omega)
      change ∃ s', (yM (NL t)).bind _ = _ ∧ _
      rw [hc, Option.bind_some]
      simp only [e, Option.bind_some]
      refine ⟨_, rfl, A ++ addN A t, M', rfl, hI', fun u hu => ?_, ?_⟩
      · rw [List.nil_append] at hu
        rcases List.mem_append.1 hu with hu | hu
        · exact List.mem_append_left _ (hp u (by simpa using hu))
        · simp at hu; rw [zbQ hu]; exact zaT _ _
      · have := addN_len A t
        simp at hl ⊢; simp at this; omega)
  rcases first with ⟨s', e1, h | h⟩ | ⟨r, _, h⟩
  rotate_left
  · exact h.elim
  · exact h.elim
  obtain ⟨A, M, rfl, hI, hp, hl⟩ := h
  rw [List.nil_append] at hp hl
  rw [yo] at hl
  have hBA : ∀ t ∈ B, t ∈ A := fun t ht => hp t (List.mem_map.2 ⟨t, ht, rfl⟩)
  rw [e1, Option.bind_some, zD, XX, Option.bind_some]
  simp only [yo, yy]
  by_cases hmA : ZU a.2 < A.length
  · right
    rw [decide_eq_true hmA, cond_true]
    exact ⟨rfl, A, hI.nd, hI.gen, hmA⟩
  rw [decide_eq_false hmA, cond_false]
  obtain ⟨c, hc, hQ, _⟩ := Yh (S := Int × Bool × (List (List Int)) × (List (ByteArray × Int))) (R := (Option ((Int × (List (Int × (List Int)))) × Int × (List (List Int)) × (List (ByteArray × Int)))) × Bool) (step := fun s238 =>
  (bif (s238.2.1 || (decide (s238.1 < (s238.2.2.1.length : Int)))) then (forR (S := (List (List Int)) × (List (ByteArray × Int))) (R := (Option ((Int × (List (Int × (List Int)))) × Int × (List (List Int)) × (List (ByteArray × Int)))) × Bool) (fun _ x297 s294 =>
  (mkc 0 3).bind fun u317 =>
  (zL FU (x297.1, x297.2) (List.replicate (Int.toNat 0) ([] : List Int)) s238.1 (s238.2.2.1.length : Int) false (a.1, a.2, (k : Int), s294.1, s294.2)).bind fun r321 =>
  (bif (!r321.1) then some (.rt (none, false)) else some (.nx (r321.2.1, r321.2.2)))) 0 a.2 (s238.2.2.1, s238.2.2.2)).bind fun o298 => after o298 (fun r_ => some (.rt r_)) (fun s294 =>
  some (.nx ((s238.2.2.1.length : Int), false, s294.1, s294.2))) else some (.br (s238.1, s238.2.1, s238.2.2.1, s238.2.2.2))))
    (fun s => ∃ (old : Nat) (first : Bool) (A : List (List Nat)) (M : MI), s = ((old : Int), first, NLL A, M) ∧ SpI N a.2 k B A M ∧ old ≤ A.length ∧ A.length ≤ ZU a.2 ∧ (first = true → old = 0) ∧ DoneO N a.2 k old first A ∧ ∀ t ∈ B, t ∈ A)
    (fun s => 1000 - s.1.toNat + (if s.2.1 then 1 else 0))
    (fun c => (∃ (A : List (List Nat)) (M : MI) (x : Int), c = .br (x, false, NLL A, M) ∧ SpI N a.2 k B A M ∧ A.length ≤ ZU a.2 ∧ Clsd N a.2 k (· ∈ A) ∧ ∀ t ∈ B, t ∈ A) ∨ (c = .rt (none, false) ∧ ∃ A : List (List Nat), A.Nodup ∧ (∀ t ∈ A, Gen N a.2 k B t) ∧ ZU a.2 < A.length))
    FU (0, true, NLL A, M) ⟨0, true, A, M, rfl, hI, Nat.zero_le _, by omega, fun _ => rfl, fun f hf K T ho ds hds hx h0 => by
      cases ds with
      | nil => exact absurd (h0 (by simpa using hds.symm)) (by simp)
      | cons d ds => exact absurd (hx d (by simp)) (by omega), hBA⟩ (by simp [FU]) (by
      rintro s ⟨old, first, A, M, rfl, hI, hoA, hA, hf0, hd, hBA⟩
      simp only [yo, yy]
      by_cases hgo : first = true ∨ old < A.length
      · rw [show (first || decide (old < A.length)) = true by rcases hgo with h | h <;> simp [h], cond_true]
        rcases span_ops (R := (Option ((Int × (List (Int × (List Int)))) × Int × (List (List Int)) × (List (ByteArray × Int)))) × Bool) (old := old) (none, false) ha hB hk hI hA with ⟨Z, M', e, hI', hA', hd'⟩ | ⟨e, h⟩
        · left
          rw [e, Option.bind_some, zD]
          refine ⟨_, rfl, ⟨A.length, false, A ++ Z, M', rfl, hI', by simp, hA', (fun h => by cases h), fun f hf K T ho ds hds hx _ => ?_, fun t ht => List.mem_append_left _ (hBA t ht)⟩, ?_⟩
          · rw [xZ hx]
            by_cases hfr : frO old ds = true ∨ (K = 0 ∧ old = 0)
            · exact hd' f hf K T ho ds hds hx hfr
            · refine List.mem_append_left _ (hd f hf K T ho ds hds (fun x hx' => ?_) (fun hK0 => ?_))
              · rcases Nat.lt_or_ge x old with h | h
                · exact h
                · exact absurd (.inl (List.any_eq_true.2 ⟨x, hx', by simpa using h⟩)) hfr
              · cases first with
                | false => rfl
                | true => exact absurd (.inr ⟨hK0, hf0 rfl⟩) hfr
          · cases first with
            | true => have := hf0 rfl; subst this; simp; omega
            | false =>
              have : old < A.length := by simpa using hgo
              simp; omega
        · right
          rw [e, Option.bind_some, Vb]
          exact ⟨_, rfl, by intro s; simp, .inr ⟨rfl, h⟩⟩
      · right
        have hfi : first = false := by
          cases first with
          | false => rfl
          | true => exact absurd (.inl rfl) hgo
        have e : old = A.length := by
          have : ¬ old < A.length := fun h => hgo (.inr h)
          omega
        subst hfi
        rw [show (false || decide (old < A.length)) = false by simp; omega, cond_false]
        refine ⟨_, rfl, by intro s; simp, .inl ⟨A, M, _, rfl, hI, hA, ?_, hBA⟩⟩
        rw [e] at hd
        exact hd.clsd)
  rw [show (0 : Int) = ((0 : Nat) : Int) from rfl] at hc ⊢
  rcases hQ with ⟨A2, M2, x, rfl, h1, h2, h3, h4⟩ | ⟨rfl, h⟩
  · left
    rw [hc]
    exact ⟨A2, M2, rfl, h1, h4, h3, h2⟩
  · right
    rw [hc]
    exact ⟨rfl, h⟩

theorem Vc {L M : List (List Nat)} (h : L.Nodup) (hs : ∀ x ∈ L, x ∈ M) : L.length ≤ M.length := by
  induction L generalizing M with
  | nil => simp
  | cons x L ih =>
    rw [List.nodup_cons] at h
    have hx := hs x (by simp)
    have := ih (M := M.erase x) h.2 (fun y hy => by
      have hne : y ≠ x := fun e => h.1 (e ▸ hy)
      exact (List.mem_erase_of_ne hne).2 (hs y (by simp [hy])))
    rw [List.length_erase_of_mem hx] at this
    have : 0 < M.length := List.length_pos_of_mem hx
    simp; omega

/-- Both sides find the same tuples, or too many. -/
theorem span_both {N k : Nat} {a : Int × List (Int × List Int)} {B : List (List Nat)} (ha : AlgN a N) (hB : ∀ t ∈ B, TupN N k t) (hBl : B.length ≤ 1000) (hk : k ≤ 1000000) :
    (∃ A' A M, Zc (a.1, a.2) (k : Int) (NLL B) = some (NLL A', true) ∧ yS (a.1, a.2) (k : Int) (NLL B) = some (some ((a.1, a.2), (k : Int), NLL A, M), true) ∧ yr (NLL A) = some (NLL A') ∧
      SpI N a.2 k B A M ∧ Sorted A' ∧ (∀ t, t ∈ A ↔ t ∈ A') ∧ (∀ t, t ∈ A' ↔ Gen N a.2 k B t) ∧ A'.length ≤ 300 ∧ A.length = A'.length) ∨
    (∃ A', Zc (a.1, a.2) (k : Int) (NLL B) = some (NLL A', false) ∧ yS (a.1, a.2) (k : Int) (NLL B) = some (none, false)) := by
  have hmo := wi a.2
  obtain ⟨A', e1, hs, hg, hb, hl, hcl⟩ := zbJ ha hB hBl hk
  have nd' : A'.Nodup := xI yP hs
  rcases spanOf_ok ha hB hBl hk with ⟨A, M, e2, hI, hBA, hclA, hA⟩ | ⟨e2, A, nd, hgA, hmA⟩
  · left
    have allA : ∀ t, Gen N a.2 k B t → t ∈ A := fun t ht => ht.least hBA hclA
    have h1 : A'.length ≤ A.length := Vc nd' (fun t ht => allA t (hg t ht))
    have hle : A'.length ≤ ZU a.2 := by omega
    have allA' : ∀ t, Gen N a.2 k B t → t ∈ A' := fun t ht => ht.least hb (hcl hle)
    have h2 : A.length ≤ A'.length := Vc hI.nd (fun t ht => allA' t (hI.gen t ht))
    have hlen : ∀ t ∈ A, t.length = k := fun t ht => ((hI.gen t ht).tup hB).1
    obtain ⟨S, e3, hp, hsS⟩ := VC (k := k) (by omega) (by omega) hlen
    have eS : S = A' := by
      refine zbT ?_ ?_ (fun t => ?_)
      · have ndS : S.Nodup := hp.nodup_iff.2 hI.nd
        refine List.Pairwise.imp_of_mem ?_ (List.Pairwise.and hsS ndS)
        rintro x y hx hy ⟨h1, h2⟩
        have lx := hlen x (hp.mem_iff.1 hx)
        have ly := hlen y (hp.mem_iff.1 hy)
        rw [← Wp (by omega)] at h1 ⊢
        exact vS (by omega) h1 (fun e => h2 e.symm)
      · refine List.Pairwise.imp_of_mem ?_ hs
        intro x y hx hy h
        rw [← Wp (by rw [((hg x hx).tup hB).1, ((hg y hy).tup hB).1])]; exact h
      · rw [hp.mem_iff]; exact ⟨fun h => allA' t (hI.gen t h), fun h => allA t (hg t h)⟩
    subst eS
    exact ⟨S, A, M, by rw [e1, decide_eq_true hle], e2, e3, hI, hs, fun t => hp.symm.mem_iff, fun t => ⟨hg t, allA' t⟩, by omega, by omega⟩
  · right
    refine ⟨A', ?_, e2⟩
    rw [e1]
    congr 2
    rw [decide_eq_false_iff_not]
    intro hle
    have := Vc nd (M := A') (fun t ht => (hgA t ht).least hb (hcl hle))
    omega

set_option linter.unusedVariables false

def tupB (n k : Int) (t : List Int) : Bool := decide ((t.length : Int) = k) && t.all fun x => decide (0 ≤ x) && decide (x < n)

theorem zbO {n : Int} (hn : -9223372036854775807 ≤ n) (hn' : n ≤ 9223372036854775807) (k : Int) (t : List Int) (hl : t.length ≤ 9223372036854775807) : YV n k t = some (tupB n k t) := by
  unfold YV tupB
  by_cases h : (t.length : Int) = k
  · rw [show ((t.length : Int) == k) = true by simpa using h, cond_true, uI hn hn' _ hl, Option.bind_some, decide_eq_true h, Bool.true_and]
  · rw [show ((t.length : Int) == k) = false by simpa using h, cond_false, decide_eq_false h, Bool.false_and]

theorem zbc {n : Int} (hn : -9223372036854775807 ≤ n) (hn' : n ≤ 9223372036854775807) (k : Int) (ts : List (List Int)) (hb : B2 ts) : YD n k ts = some (ts.all (tupB n k) && (decide (1 ≤ k) && decide (k ≤ 64))) := by
  unfold YD
  have hl := hb.1
  rw [XA (R := Bool) (p := fun j => tupB n k (ts[j]?.getD [])) (r := false) (n := ts.length) rfl (by omega) (fun j hj => by
    have hx : ts[j].length ≤ 1048576 := hb.2 _ (List.getElem_mem hj)
    rw [ZC, List.getElem?_eq_getElem hj, Option.bind_some, zbO hn hn' k _ (by omega), Option.bind_some, Option.getD_some]
    cases tupB n k ts[j] <;> rfl), vO ts (tupB n k) []]
  cases ts.all (tupB n k) with
  | false => rfl
  | true =>
    rw [cond_true, Option.bind_some, zD, Wh]; rfl

theorem tupB_of {N k : Nat} {B : List (List Nat)} (h : ∀ t ∈ B, TupN N k t) : (NLL B).all (tupB (N : Int) (k : Int)) = true := by
  rw [List.all_eq_true]
  intro x hx
  obtain ⟨t, ht, rfl⟩ := List.mem_map.1 hx
  unfold tupB
  rw [Bool.and_eq_true, decide_eq_true_eq, xf]
  exact ⟨by rw [(h t ht).1], allIn_NL.2 ⟨t, rfl, (h t ht).2⟩⟩

set_option linter.unusedVariables false

def arO (ops : List (Int × List Int)) (x : Int) : Nat := ((ops[(-1 - x).toNat]?.getD (0, [])).1).toNat

def tbO (ops : List (Int × List Int)) (x : Int) : List Nat := (ops[(-1 - x).toNat]?.getD (0, [])).2.map Int.toNat

def okT (ops : List (Int × List Int)) : Nat → List Int → Bool
  | 0, [] => true
  | 0, _ :: _ => false
  | _ + 1, [] => false
  | n + 1, x :: t => if 0 ≤ x then decide (x < 6) && okT ops n t else decide (-(ops.length : Int) ≤ x) && okT ops (n + arO ops x) t

theorem vD (T : List Nat) : (NL T).map Int.toNat = T := by
  unfold NL; rw [List.map_map]
  conv => rhs; rw [← List.map_id T]
  rfl

theorem UI {N : Nat} {a : Int × List (Int × List Int)} (ha : AlgN a N) {x : Int} (h0 : ¬ 0 ≤ x) (h1 : -(a.2.length : Int) ≤ x) : ∃ (j : Nat) (hj : j < a.2.length), w64 ((-1) - x) = (j : Int) ∧ x = -1 - (j : Int) ∧ OpN N a.2[j] (arO a.2 x) (tbO a.2 x) ∧ idx a.2 (j : Int) = some (((arO a.2 x : Nat) : Int), NL (tbO a.2 x)) := by
  have hl := ha.l4
  have hj : (-1 - x).toNat < a.2.length := by omega
  obtain ⟨K, T, e1, e2, ho⟩ := WT ha hj
  have eK : arO a.2 x = K := by unfold arO; rw [List.getElem?_eq_getElem hj, Option.getD_some, e2]; simp
  have eT : tbO a.2 x = T := by unfold tbO; rw [List.getElem?_eq_getElem hj, Option.getD_some, e2]; exact vD T
  refine ⟨(-1 - x).toNat, hj, ?_, by omega, by rw [eK, eT]; exact ho, by rw [eK, eT]; exact e1⟩
  rw [zT (by omega) (by omega)]; omega

theorem VM {ops : List (Int × List Int)} : ∀ {t : List Int} {n : Nat}, okT ops n t = true → ∀ x ∈ t, (0 ≤ x → x < 6) ∧ (¬ 0 ≤ x → -(ops.length : Int) ≤ x)
  | [], _, _, x, hx => by cases hx
  | y :: t, 0, h, _, _ => by cases h
  | y :: t, n + 1, h, x, hx => by
    unfold okT at h
    by_cases hy : 0 ≤ y
    · rw [if_pos hy, Bool.and_eq_true, decide_eq_true_eq] at h
      rcases List.mem_cons.1 hx with rfl | hx
      · exact ⟨fun _ => h.1, fun h' => absurd hy h'⟩
      · exact VM h.2 x hx
    · rw [if_neg hy, Bool.and_eq_true, decide_eq_true_eq] at h
      rcases List.mem_cons.1 hx with rfl | hx
      · exact ⟨fun h' => absurd h' hy, fun _ => h.1⟩
      · exact VM h.2 x hx

theorem vH {ops : List (Int × List Int)} : ∀ {t : List Int} {n : Nat} (i : Nat), okT ops n t = true → ∃ m, okT ops m (t.drop i) = true
  | t, n, 0, h => ⟨n, by simpa using h⟩
  | [], n, i + 1, h => ⟨n, by simpa using h⟩
  | y :: t, 0, i + 1, h => by cases h
  | y :: t, n + 1, i + 1, h => by
    unfold okT at h
    rw [List.drop_succ_cons]
    by_cases hy : 0 ≤ y
    · rw [if_pos hy, Bool.and_eq_true] at h; exact vH i h.2
    · rw [if_neg hy, Bool.and_eq_true] at h; exact vH i h.2

/-- A term on a stack: from its end to its start. -/
def evG {α : Type} (var : Nat → α) (app : Int → List α → α) (ops : List (Int × List Int)) : List Int → List α
  | [] => []
  | x :: t => if 0 ≤ x then var x.toNat :: evG var app ops t else app x ((evG var app ops t).take (arO ops x)) :: (evG var app ops t).drop (arO ops x)

section
variable {α β : Type} {var : Nat → α} {app : Int → List α → α} {ops : List (Int × List Int)}

theorem XN : ∀ {t : List Int} {n : Nat}, okT ops n t = true → (evG var app ops t).length = n
  | [], 0, _ => rfl
  | [], n + 1, h => by cases h
  | y :: t, 0, h => by cases h
  | y :: t, n + 1, h => by
    unfold okT at h
    unfold evG
    by_cases hy : 0 ≤ y
    · rw [if_pos hy, Bool.and_eq_true] at h
      rw [if_pos hy, List.length_cons, XN h.2]
    · rw [if_neg hy, Bool.and_eq_true] at h
      rw [if_neg hy, List.length_cons, List.length_drop, XN h.2]; omega

theorem UM {P : α → Prop} : ∀ {t : List Int} {n : Nat}, okT ops n t = true → (∀ x ∈ t, 0 ≤ x → P (var x.toNat)) → (∀ x ∈ t, ¬ 0 ≤ x → ∀ args, args.length = arO ops x → (∀ y ∈ args, P y) → P (app x args)) → ∀ y ∈ evG var app ops t, P y
  | [], _, _, _, _, y, hy => by cases hy
  | x :: t, 0, h, _, _, _, _ => by cases h
  | x :: t, n + 1, h, hv, ha, y, hy => by
    unfold okT at h
    unfold evG at hy
    by_cases hx : 0 ≤ x
    · rw [if_pos hx, Bool.and_eq_true] at h
      rw [if_pos hx] at hy
      rcases List.mem_cons.1 hy with rfl | hy
      · exact hv x (by simp) hx
      · exact UM h.2 (fun z hz => hv z (by simp [hz])) (fun z hz => ha z (by simp [hz])) y hy
    · rw [if_neg hx, Bool.and_eq_true] at h
      rw [if_neg hx] at hy
      have ih := UM (P := P) h.2 (fun z hz => hv z (by simp [hz])) (fun z hz => ha z (by simp [hz]))
      rcases List.mem_cons.1 hy with rfl | hy
      · exact ha x (by simp) hx _ (by rw [List.length_take, XN h.2]; omega) (fun y hy => ih y (List.mem_of_mem_take hy))
      · exact ih y (List.mem_of_mem_drop hy)

end

def evN (N : Nat) (ops : List (Int × List Int)) (vs : List Nat) (t : List Int) : List Nat := evG (fun i => ga vs i) (fun x args => ga (tbO ops x) (ix N 0 args)) ops t

theorem zad {S : List Nat} {i : Nat} (h : i < S.length) : ga S.reverse (S.length - 1 - i) = ga S i := by
  rw [xD (by simp; omega), xD h, List.getElem_reverse]
  congr 1; omega

theorem evN_lt {N : Nat} {a : Int × List (Int × List Int)} (ha : AlgN a N) {vs : List Nat} {t : List Int} {n : Nat} (h : okT a.2 n t = true) (hx : ∀ x ∈ t, 0 ≤ x → x.toNat < vs.length) (hv : ∀ v ∈ vs, v < N) : ∀ y ∈ evN N a.2 vs t, y < N :=
  UM (P := fun y => y < N) h (fun x hx' h0 => hv _ (yE (hx x hx' h0))) (fun x hx' h0 args hl hargs => by
    obtain ⟨j, hj, _, _, ho, _⟩ := UI ha h0 ((VM h x hx').2 h0)
    refine ho.lt _ (yE ?_)
    rw [ho.len]; exact Xn hargs hl)

/-- The stack after n rounds. -/
def stF (N : Nat) (ops : List (Int × List Int)) (vs : List Nat) (t : List Int) (n : Nat) : List Int × Int := (NL (evN N ops vs (t.drop (t.length - n))).reverse, (t.length : Int) - 1 - (n : Int))

theorem slc_rev {S : List Nat} {K : Nat} (h : K ≤ S.length) : slc (NL S.reverse) 0 (((S.length - K : Nat)) : Int) = some (NL (S.drop K).reverse) := by
  rw [zaG (by simp), List.reverse_drop]
  unfold NL
  rw [← List.map_take]

section
variable {N : Nat} {a : Int × List (Int × List Int)} {t : List Int} {vs : List Nat}

/-- One round: the symbol, and the stack below it. -/
theorem zbk (ha : AlgN a N) (ht : okT a.2 1 t = true) (hl : t.length ≤ 60) (hx : ∀ x ∈ t, 0 ≤ x → x.toNat < vs.length) (hv : ∀ v ∈ vs, v < N) {j : Nat} (hj : j < t.length) :
    ∃ (x : Int) (S : List Nat), idx t ((t.length : Int) - 1 - (j : Int)) = some x ∧ stF N a.2 vs t j = (NL S.reverse, (t.length : Int) - 1 - (j : Int)) ∧ S.length ≤ 1000 ∧ (∀ y ∈ S, y < N) ∧
      ((0 ≤ x ∧ x.toNat < vs.length ∧ stF N a.2 vs t (j + 1) = (NL S.reverse ++ [((ga vs x.toNat : Nat) : Int)], (t.length : Int) - 1 - (j : Int) - 1)) ∨
       (¬ 0 ≤ x ∧ -(a.2.length : Int) ≤ x ∧ arO a.2 x ≤ S.length ∧ stF N a.2 vs t (j + 1) = (NL (S.drop (arO a.2 x)).reverse ++ [((ga (tbO a.2 x) (ix N 0 (S.take (arO a.2 x))) : Nat) : Int)], (t.length : Int) - 1 - (j : Int) - 1))) := by
  have hi : t.length - 1 - j < t.length := by omega
  have ed : t.drop (t.length - (j + 1)) = t[t.length - 1 - j] :: t.drop (t.length - j) := by
    rw [show t.length - (j + 1) = t.length - 1 - j by omega, show t.length - j = t.length - 1 - j + 1 by omega, List.drop_eq_getElem_cons hi]
  obtain ⟨m, hm⟩ := vH (t.length - (j + 1)) ht
  obtain ⟨m', hm'⟩ := vH (t.length - j) ht
  have hS := XN (var := fun i => ga vs i) (app := fun x args => ga (tbO a.2 x) (ix N 0 args)) hm'
  have hmem : ∀ x ∈ t.drop (t.length - j), 0 ≤ x → x.toNat < vs.length := fun x h => hx x (List.mem_of_mem_drop h)
  have hlt := evN_lt ha hm' hmem hv
  have hbd : ∀ (u : List Int), (evN N a.2 vs u).length ≤ u.length := fun u => by
    induction u with
    | nil => simp [evN, evG]
    | cons y u ih =>
      unfold evN evG
      split
      · simpa [evN] using ih
      · simp [evN] at ih ⊢; omega
  have hlen := hbd (t.drop (t.length - j))
  have hb : (evN N a.2 vs (t.drop (t.length - j))).length ≤ 1000 := by rw [List.length_drop] at hlen; omega
  refine ⟨t[t.length - 1 - j], evN N a.2 vs (t.drop (t.length - j)), ?_, rfl, hb, hlt, ?_⟩
  · rw [show (t.length : Int) - 1 - (j : Int) = ((t.length - 1 - j : Nat) : Int) by omega, ZC, List.getElem?_eq_getElem hi]
  · have hxm : t[t.length - 1 - j] ∈ t := List.getElem_mem hi
    rw [ed] at hm
    by_cases h0 : 0 ≤ t[t.length - 1 - j]
    · left
      refine ⟨h0, hx _ hxm h0, ?_⟩
      unfold stF
      rw [ed]
      conv => lhs; unfold evN evG
      rw [if_pos h0, List.reverse_cons, vY]
      refine Prod.ext rfl ?_
      show _ - _ = _; omega
    · right
      refine ⟨h0, (VM ht _ hxm).2 h0, ?_, ?_⟩
      · cases m with
        | zero => cases hm
        | succ m =>
          unfold okT at hm
          rw [if_neg h0, Bool.and_eq_true] at hm
          have := XN (var := fun i => ga vs i) (app := fun x args => ga (tbO a.2 x) (ix N 0 args)) hm.2
          show _ ≤ (evG _ _ _ _).length
          rw [this]; omega
      · unfold stF
        rw [ed]
        conv => lhs; unfold evN evG
        rw [if_neg h0, List.reverse_cons, vY]
        refine Prod.ext rfl ?_
        show _ - _ = _; omega

theorem zbA (ha : AlgN a N) (ht : okT a.2 1 t = true) (hl : t.length ≤ 60) (hx : ∀ x ∈ t, 0 ≤ x → x.toNat < vs.length) (hv : ∀ v ∈ vs, v < N) : YU (a.1, a.2) t (NL vs) = some ((ga (evN N a.2 vs t) 0 : Nat) : Int) := by
  have hlen1 : (evN N a.2 vs t).length = 1 := XN ht
  unfold YU
  rw [wB (R := Int) (stF N a.2 vs t) (t := stF N a.2 vs t t.length) t.length (by omega) (by
      unfold stF
      rw [Nat.sub_zero, List.drop_length, zT (by omega) (by omega)]
      exact Prod.ext rfl (by show (t.length : Int) - 1 = _; omega)) (fun j hj => by
    obtain ⟨x, S, e1, e2, hS, hSx, h⟩ := zbk ha ht hl hx hv hj
    rw [e2]
    simp only [show decide (0 ≤ (t.length : Int) - 1 - (j : Int)) = true by simp; omega, cond_true, e1, Option.bind_some, show w64 ((t.length : Int) - 1 - (j : Int) - 1) = (t.length : Int) - 1 - (j : Int) - 1 from zT (by omega) (by omega)]
    rcases h with ⟨h0, hxl, e3⟩ | ⟨h0, h1, hK, e3⟩
    · rw [decide_eq_true h0, cond_true, e3]
      obtain ⟨y, rfl⟩ : ∃ y : Nat, x = (y : Int) := ⟨x.toNat, by omega⟩
      rw [Int.toNat_natCast] at hxl ⊢
      rw [ZA hxl, Option.bind_some, yv (by simp; omega), Option.bind_some]
    · obtain ⟨op, hop, ew, ex, ho, ei⟩ := UI ha h0 h1
      have hK3 := ho.k3
      rw [decide_eq_false h0, cond_false, e3, ew]
      simp only [ei, Option.bind_some, xf, List.length_reverse]
      rw [wB (R := Int) (S := List Int × Int) (s := ([], 0)) (fun n => (NL (S.take n), (n : Int))) (t := (NL (S.take (arO a.2 x)), ((arO a.2 x : Nat) : Int))) (arO a.2 x) (by omega) rfl (fun n hn => by
        simp only [yy, decide_eq_true hn, cond_true]
        rw [show w64 ((S.length : Int) - 1) = (S.length : Int) - 1 from zT (by omega) (by omega), zT (by omega) (by omega), show (S.length : Int) - 1 - (n : Int) = ((S.length - 1 - n : Nat) : Int) by omega, ZA (by simp; omega), Option.bind_some, zad (by omega), yv (by simp; omega), Option.bind_some, yY (by omega)]
        have e : S.take (n + 1) = S.take n ++ [ga S n] := by rw [List.take_add_one, List.getElem?_eq_getElem (by omega), xD (by omega)]; rfl
        rw [e, vY]; rfl) (by simp), Option.bind_some, zD]
      have hTk : (S.take (arO a.2 x)).length = arO a.2 x := by rw [List.length_take]; omega
      simp only [xf, hTk]
      rw [show w64 ((S.length : Int) - ((arO a.2 x : Nat) : Int)) = ((S.length - arO a.2 x : Nat) : Int) from w64_sub hK (by omega), slc_rev hK, Option.bind_some, vh (by simp; omega), Option.bind_some, uy ha.n1 ha.n8 ha.eN hop ho hTk (fun y hy => hSx y (List.mem_of_mem_take hy)), Option.bind_some, yv (by simp; omega), Option.bind_some]) (by
    have : (stF N a.2 vs t t.length).2 = -1 := by unfold stF; show (t.length : Int) - 1 - (t.length : Int) = -1; omega
    obtain ⟨S0, hS0⟩ : ∃ S0, stF N a.2 vs t t.length = (S0, -1) := ⟨_, Prod.ext rfl this⟩
    rw [hS0]; rfl), Option.bind_some, zD]
  unfold stF
  rw [Nat.sub_self, List.drop_zero]
  show ((idx (NL (evN N a.2 vs t).reverse) ((0 : Nat) : Int)).bind _) = _
  rw [ZA (by simp; omega), Option.bind_some]
  have : ga (evN N a.2 vs t).reverse 0 = ga (evN N a.2 vs t) 0 := by
    have := zad (S := evN N a.2 vs t) (i := 0) (by omega)
    rw [hlen1] at this; exact this
  rw [this]

theorem eval_eq (ha : AlgN a N) (ht : okT a.2 1 t = true) (hl : t.length ≤ 60) (hx : ∀ x ∈ t, 0 ≤ x → x.toNat < vs.length) (hv : ∀ v ∈ vs, v < N) : Xg (a.1, a.2) t (NL vs) = some ((ga (evN N a.2 vs t) 0 : Nat) : Int) := by
  have hlen1 : (evN N a.2 vs t).length = 1 := XN ht
  have h8 := ha.n8
  unfold Xg
  rw [show mkc 0 (t.length : Int) = some () by unfold mkc; rw [if_pos ⟨by omega, by omega, by omega⟩], Option.bind_some]
  rw [wB (R := Int) (stF N a.2 vs t) (t := stF N a.2 vs t t.length) t.length (by omega) (by
      unfold stF
      rw [Nat.sub_zero, List.drop_length, zT (by omega) (by omega)]
      exact Prod.ext rfl (by show (t.length : Int) - 1 = _; omega)) (fun j hj => by
    obtain ⟨x, S, e1, e2, hS, hSx, h⟩ := zbk ha ht hl hx hv hj
    rw [e2]
    simp only [show decide (0 ≤ (t.length : Int) - 1 - (j : Int)) = true by simp; omega, cond_true, e1, Option.bind_some, show w64 ((t.length : Int) - 1 - (j : Int) - 1) = (t.length : Int) - 1 - (j : Int) - 1 from zT (by omega) (by omega)]
    rcases h with ⟨h0, hxl, e3⟩ | ⟨h0, h1, hK, e3⟩
    · rw [decide_eq_true h0, cond_true, e3]
      obtain ⟨y, rfl⟩ : ∃ y : Nat, x = (y : Int) := ⟨x.toNat, by omega⟩
      rw [Int.toNat_natCast] at hxl ⊢
      rw [ZA hxl, Option.bind_some, yv (by simp; omega), Option.bind_some]
    · obtain ⟨op, hop, ew, ex, ho, ei⟩ := UI ha h0 h1
      have hK3 := ho.k3
      rw [decide_eq_false h0, cond_false, e3, ew]
      simp only [ei, Option.bind_some, xf, List.length_reverse]
      have hb : ∀ m, m ≤ arO a.2 x → ix N 0 (S.take m) < N ^ m := fun m hm => Xn (fun y hy => hSx y (List.mem_of_mem_take hy)) (by rw [List.length_take]; omega)
      have pw : ∀ m, m ≤ arO a.2 x → N ^ m ≤ 512 := fun m hm => xW h8 (by omega)
      rw [Xi (R := Int) (F := fun m => ((ix N 0 (S.take m) : Nat) : Int)) (n := arO a.2 x) (s := 0) rfl (by omega) rfl (fun m hm => by
        have b1 := hb m (by omega)
        have b2 := pw m (by omega)
        have b3 : ix N 0 (S.take m) * N ≤ 512 * 8 := Nat.mul_le_mul (by omega) h8
        have b4 := hSx _ (yE (T := S) (k := m) (by omega))
        rw [show w64 ((S.length : Int) - 1) = (S.length : Int) - 1 from zT (by omega) (by omega), zT (by omega) (by omega), show (S.length : Int) - 1 - (m : Int) = ((S.length - 1 - m : Nat) : Int) by omega, ZA (by simp; omega), Option.bind_some, zad (by omega), show a.1 = (N : Int) from ha.eN, We (by omega), wC (by omega)]
        have e : S.take (m + 1) = S.take m ++ [ga S m] := by rw [List.take_add_one, List.getElem?_eq_getElem (by omega), xD (by omega)]; rfl
        rw [e, Wm]; rfl), Option.bind_some, zD]
      rw [show w64 ((S.length : Int) - ((arO a.2 x : Nat) : Int)) = ((S.length - arO a.2 x : Nat) : Int) from w64_sub hK (by omega), slc_rev hK, Option.bind_some, ZA (by rw [ho.len]; exact hb _ (Nat.le_refl _)), Option.bind_some, yv (by simp; omega), Option.bind_some]) (by
    have : (stF N a.2 vs t t.length).2 = -1 := by unfold stF; show (t.length : Int) - 1 - (t.length : Int) = -1; omega
    obtain ⟨S0, hS0⟩ : ∃ S0, stF N a.2 vs t t.length = (S0, -1) := ⟨_, Prod.ext rfl this⟩
    rw [hS0]; rfl), Option.bind_some, zD]
  unfold stF
  rw [Nat.sub_self, List.drop_zero]
  show ((idx (NL (evN N a.2 vs t).reverse) ((0 : Nat) : Int)).bind _) = _
  rw [ZA (by simp; omega), Option.bind_some]
  have : ga (evN N a.2 vs t).reverse 0 = ga (evN N a.2 vs t) 0 := by
    have := zad (S := evN N a.2 vs t) (i := 0) (by omega)
    rw [hlen1] at this; exact this
  rw [this]

end

set_option linter.unusedVariables false

theorem forI_nx1 {S R : Type} {step : Int → S → Option (Ctl S R)} {k : Nat} {i : Int} {s s' : S} (h : step i s = some (.nx s')) : forI step (k + 1) i s = forI step k (i + 1) s' := by
  conv => lhs; unfold forI
  rw [h]

theorem forI_rt1 {S R : Type} {step : Int → S → Option (Ctl S R)} {k : Nat} {i : Int} {s : S} {r : R} (h : step i s = some (.rt r)) : forI step (k + 1) i s = some (.rt r) := by
  conv => lhs; unfold forI
  rw [h]

def genR (N k c : Nat) : List Nat := (List.range (N ^ k)).map fun i => ga (dig N k i) c

def genL (N k : Nat) : List (List Nat) := (List.range k).map (genR N k)

theorem genR_tup {N k c : Nat} (hN : 1 ≤ N) : TupN N (N ^ k) (genR N k c) := by
  refine ⟨by simp [genR], fun x hx => ?_⟩
  obtain ⟨i, _, rfl⟩ := List.mem_map.1 hx
  rcases Nat.lt_or_ge c k with h | h
  · exact xJ (by omega) k i _ (yE (by simpa using h))
  · rw [ga_ge (by simpa using h)]; omega

theorem vz {N k : Nat} (hN : 1 ≤ N) : ∀ t ∈ genL N k, TupN N (N ^ k) t := fun t ht => by
  obtain ⟨c, _, rfl⟩ := List.mem_map.1 ht
  exact genR_tup hN

section
variable {N k : Nat} {a : Int × List (Int × List Int)} {t : List Int}

theorem Uh {N k : Nat} (h8 : N ≤ 8) (hk : k ≤ 3) : N ^ k ≤ 512 := xW h8 hk

end

set_option linter.unusedVariables false

theorem Xl (N k : Nat) : (genL N k).length = k := by simp [genL]

theorem genL_at {N k c : Nat} (h : c < k) : gl (genL N k) c = genR N k c := by
  rw [yV (by rw [Xl]; exact h)]; simp [genL]

theorem wx {N k : Nat} {a : Int × List (Int × List Int)} (ha : AlgN a N) (hk : k ≤ 3) : Yd (a.1, a.2) (k : Int) = some (NLL (genL N k)) := by
  have h1 := ha.n1
  have hp := Uh ha.n8 hk
  have epw : Zb a.1 (k : Int) = some ((N ^ k : Nat) : Int) := Xf ha.eN rfl h1 (by omega) (by omega)
  unfold Yd
  rw [YY (R := List (List Int)) (v := fun c => NL (genR N k c)) (n := k) rfl (by omega) (fun c s hc hs => by
    rw [wB (R := List (List Int)) (S := List Int × Int) (s := ([], 0)) (fun n => (NL ((List.range n).map fun i => ga (dig N k i) c), (n : Int))) (t := (NL (genR N k c), ((N ^ k : Nat) : Int))) (N ^ k) (by omega) rfl (fun j hj => by
      simp only [epw, Option.bind_some, yy, decide_eq_true hj, cond_true]
      rw [show a.1 = (N : Int) from ha.eN, l2ArgsN (by omega) h1 (by omega), Option.bind_some, ZA (by simpa using hc), Option.bind_some, yv (by simp; omega), Option.bind_some, yY (by omega), List.range_succ, List.map_append, vY]; rfl) (by
      simp only [epw, Option.bind_some, yy, show decide (N ^ k < N ^ k) = false by simp, cond_false]; rfl), Option.bind_some, zD])]
  show some ((List.range k).map _) = _
  unfold genL NLL
  rw [List.map_map]; rfl

theorem zbG {N k : Nat} {a : Int × List (Int × List Int)} (ha : AlgN a N) (hg : Za (a.1, a.2) = some true) (hk : k ≤ 3) : zY (a.1, a.2) (k : Int) = some (decide (N ^ k ≤ 64)) := by
  have hp := Uh ha.n8 hk
  have epw : Zb a.1 (k : Int) = some ((N ^ k : Nat) : Int) := Xf ha.eN rfl ha.n1 (by omega) (by omega)
  unfold zY
  rw [hg, Option.bind_some, cond_true, Wh, Option.bind_some, show (decide ((0 : Int) ≤ (k : Int)) && decide ((k : Int) ≤ 3)) = true by simp <;> omega, cond_true, epw, Option.bind_some]
  congr 1
  rw [decide_eq_decide]; omega

/-- The index after the rows are put in order. -/
theorem reindex {R : Type} {A A' : List (List Nat)} {M : MI} (hM : KIx M A) (hmem : ∀ t, t ∈ A ↔ t ∈ A') (nd : A'.Nodup) (hs : ∀ t ∈ A', (∀ x ∈ t, x < 65536) ∧ t.length ≤ 1000000000) (hl : A'.length ≤ 300) :
    ∃ M', forC (S := MI) (R := R) (fun k199 s197 =>
  (idx (NLL A') k199).bind fun x205 =>
  (ZB x205).bind fun r211 =>
  some (.nx (mput s197 r211 k199))) 0 ((NLL A').length : Int) M = some (.br M') ∧ KIx M' A' := by
  have := Zo (S := MI) (R := R) (step := fun k199 s197 =>
  (idx (NLL A') k199).bind fun x205 =>
  (ZB x205).bind fun r211 =>
  some (.nx (mput s197 r211 k199))) (n := A'.length) (hi := ((NLL A').length : Int)) (s := M)
    (fun j M => ∀ t : List Nat, (∀ x ∈ t, x < 65536) → mget M (kkey t) = if t ∈ A' then (if A'.idxOf t < j then some ((A'.idxOf t : Nat) : Int) else some ((A.idxOf t : Nat) : Int)) else none)
    (fun _ => False) (fun _ => False) (by simp) (by omega) (fun t ht => by
      rw [hM t ht]
      by_cases h : t ∈ A
      · rw [if_pos h, if_pos ((hmem t).1 h), if_neg (by omega)]
      · rw [if_neg h, if_neg (fun h' => h ((hmem t).2 h'))]) (by
      intro j M hj hI
      left
      have hjm := List.getElem_mem hj
      obtain ⟨b1, b2⟩ := hs _ hjm
      rw [gl_NLL hj, Option.bind_some, ul b2, Option.bind_some]
      refine ⟨_, rfl, fun t ht => ?_⟩
      rw [zaM]
      by_cases e : t = A'[j]
      · subst e
        rw [if_pos rfl, if_pos hjm, nd.idxOf_getElem, if_pos (by omega)]
      · rw [if_neg (fun h' => e ((zaE ht b1).1 h')), hI t ht]
        by_cases h : t ∈ A'
        · rw [if_pos h, if_pos h]
          have hne : A'.idxOf t ≠ j := fun e' => e (by
            have := List.getElem_idxOf (List.idxOf_lt_length_of_mem h)
            rw [← this]; congr 1)
          by_cases h2 : A'.idxOf t < j
          · rw [if_pos h2, if_pos (by omega)]
          · rw [if_neg h2, if_neg (by omega)]
        · rw [if_neg h, if_neg h])
  rcases this with ⟨M', e, h | h⟩ | ⟨_, _, h⟩
  · refine ⟨M', e, fun t ht => ?_⟩
    rw [h t ht]
    by_cases hm : t ∈ A'
    · rw [if_pos hm, if_pos hm, if_pos (List.idxOf_lt_length_of_mem hm)]
    · rw [if_neg hm, if_neg hm]
  · exact h.elim
  · exact h.elim

/-- The spec side's word on what both sides find. -/
structure FrI (N k : Nat) (ops : List (Int × List Int)) (A : List (List Nat)) (M : MI) : Prop where
  srt : Sorted A
  key : KIx M A
  mem : ∀ t, t ∈ A ↔ Gen N ops (N ^ k) (genL N k) t
  len : A.length ≤ 300

theorem zax {R : Type} {N k : Nat} {a : Int × List (Int × List Int)} (ha : AlgN a N) (hk : k ≤ 3) : forC (S := (List (List Int))) (R := R) (fun k107 s105 =>
  (mks ((N ^ k : Nat) : Int) (0 : Int)).bind fun y116 =>
  (forC (S := (List Int)) (R := R) (fun k137 s135 =>
  (ZW k137 (k : Int) a.1).bind fun r144 =>
  (idx r144 k107).bind fun x146 =>
  (idx s135 k137).bind fun x148 =>
  some (.nx (List.set s135 (Int.toNat k137) x146))) 0 (y116.length : Int) y116).bind fun o139 => after o139 (fun r_ => some (.rt r_)) (fun s135 =>
  (app s105 ([s135])).bind fun y154 =>
  some (.nx y154))) 0 (k : Int) [] = some (.br (NLL (genL N k))) := by
  have h1 := ha.n1
  have hp := Uh ha.n8 hk
  rw [YY (R := R) (v := fun c => NL (genR N k c)) (n := k) rfl (by omega) (fun c s hc hs => by
    rw [xO rfl (by omega), Option.bind_some]
    rw [Wg (R := R) (v := fun i => ((ga (dig N k i) c : Nat) : Int)) (n := N ^ k) (z := (0 : Int)) (by simp) (by omega) rfl (fun i s hi hs => by
      rw [show a.1 = (N : Int) from ha.eN, argsN (by omega) h1 (by omega), Option.bind_some, ZA (by simpa using hc), Option.bind_some, ZC, List.getElem?_eq_getElem (by omega), Option.bind_some, Int.toNat_natCast]), Option.bind_some, zD]
    congr 2
    unfold genR NL
    rw [List.map_map]; rfl)]
  congr 2
  unfold genL NLL
  rw [List.map_map]; rfl

theorem zbi (a : Int × List (Int × List Int)) (k : Int) (ha : BA a) :
    (∃ (N kk : Nat) (A : List (List Nat)) (M : MI), AlgN a N ∧ k = (kk : Int) ∧ kk ≤ 3 ∧ N ^ kk ≤ 64 ∧ yq (a.1, a.2) k = some (some (((a.1, a.2), ((N ^ kk : Nat) : Int), NLL A, M), k, NLL (genL N kk)), true) ∧ FrI N kk a.2 A M ∧
      zY (a.1, a.2) k = some true ∧ Zc (a.1, a.2) ((N ^ kk : Nat) : Int) (NLL (genL N kk)) = some (NLL A, true) ∧ Za (a.1, a.2) = some true) ∨
    (yq (a.1, a.2) k = some (none, false) ∧ (zY (a.1, a.2) k = some false ∨ ∃ (N kk : Nat) (A : List (List Nat)), AlgN a N ∧ k = (kk : Int) ∧ kk ≤ 3 ∧ N ^ kk ≤ 64 ∧ zY (a.1, a.2) k = some true ∧ Zc (a.1, a.2) ((N ^ kk : Nat) : Int) (NLL (genL N kk)) = some (NLL A, false) ∧ Za (a.1, a.2) = some true)) := by
  rcases vX a ha with ⟨N, hN, e1, e2⟩ | ⟨_, e1, e2⟩
  · by_cases hk : 0 ≤ k ∧ k ≤ 3
    · obtain ⟨kk, rfl⟩ : ∃ kk : Nat, k = (kk : Int) := ⟨k.toNat, by omega⟩
      have hk3 : kk ≤ 3 := by omega
      have hp := Uh hN.n8 hk3
      have h1 := hN.n1
      have epw' : ZG a.1 (kk : Int) = some ((N ^ kk : Nat) : Int) := VU hN.eN rfl h1 (by omega) (by omega)
      have er := zbG hN e1 hk3
      unfold yq
      simp only [e2, Option.bind_some, Bool.not_true, cond_false, epw', show decide ((kk : Int) < 0) = false by simp <;> omega, show decide (3 < (kk : Int)) = false by simp <;> omega]
      by_cases h64 : N ^ kk ≤ 64
      · rw [decide_eq_true h64] at er
        rw [show decide (64 < ((N ^ kk : Nat) : Int)) = false from decide_eq_false (by omega)]
        simp only [cond_false]
        rw [zax hN hk3, Option.bind_some, zD]
        have hB := vz (N := N) (k := kk) h1
        rcases span_both hN hB (by rw [Xl]; omega) (by omega) with ⟨A', A, M, s1, s2, s3, hI, hs, hm, hg, hle, hle2⟩ | ⟨A', s1, s2⟩
        · left
          have nd' : A'.Nodup := xI yP hs
          have h8 := hN.n8
          obtain ⟨M', r1, r2⟩ := reindex (R := (Option (((Int × (List (Int × (List Int)))) × Int × (List (List Int)) × (List (ByteArray × Int))) × Int × (List (List Int)))) × Bool) hI.key hm nd' (fun t ht => by
            have := ((hg t).1 ht).tup hB
            exact ⟨fun x hx => by have := this.2 x hx; omega, by rw [this.1]; omega⟩) hle
          refine ⟨N, kk, A', M', hN, rfl, hk3, h64, ?_, ⟨hs, r2, hg, hle⟩, er, s1, e1⟩
          rw [s2]
          simp only [Option.bind_some, Bool.not_true, cond_false, s3]
          rw [r1]; rfl
        · right
          refine ⟨?_, .inr ⟨N, kk, A', hN, rfl, hk3, h64, er, s1, e1⟩⟩
          rw [s2]; rfl
      · right
        rw [decide_eq_false h64] at er
        rw [show decide (64 < ((N ^ kk : Nat) : Int)) = true from decide_eq_true (by omega)]
        exact ⟨rfl, .inl er⟩
    · right
      have er : zY (a.1, a.2) k = some false := by
        unfold zY
        rw [e1, Option.bind_some, cond_true, Wh, Option.bind_some, ← Bool.decide_and, decide_eq_false hk, cond_false]
      refine ⟨?_, .inl er⟩
      unfold yq
      rw [e2, Option.bind_some, Bool.not_true, cond_false]
      by_cases h0 : k < 0
      · rw [decide_eq_true h0]; rfl
      · rw [decide_eq_false h0, cond_false, show decide (3 < k) = true by simp; omega]; rfl
  · right
    have er : zY (a.1, a.2) k = some false := by
      unfold zY
      rw [e1]; rfl
    refine ⟨?_, .inl er⟩
    unfold yq
    rw [e2]; rfl

theorem zbK (a : Int × List (Int × List Int)) (k : Int) (ha : BA a) :
    (∃ (N kk : Nat) (A : List (List Nat)) (M : MI), AlgN a N ∧ k = (kk : Int) ∧ kk ≤ 3 ∧ N ^ kk ≤ 64 ∧ yB (a.1, a.2) k = some (NLL A, true) ∧ yq (a.1, a.2) k = some (some (((a.1, a.2), ((N ^ kk : Nat) : Int), NLL A, M), k, NLL (genL N kk)), true) ∧ FrI N kk a.2 A M ∧
      zY (a.1, a.2) k = some true ∧ Zc (a.1, a.2) ((N ^ kk : Nat) : Int) (NLL (genL N kk)) = some (NLL A, true) ∧ Za (a.1, a.2) = some true) ∨
    (yB (a.1, a.2) k = some ([], false) ∧ yq (a.1, a.2) k = some (none, false) ∧ (zY (a.1, a.2) k = some false ∨ ∃ (N kk : Nat) (A : List (List Nat)), AlgN a N ∧ k = (kk : Int) ∧ kk ≤ 3 ∧ N ^ kk ≤ 64 ∧ zY (a.1, a.2) k = some true ∧ Zc (a.1, a.2) ((N ^ kk : Nat) : Int) (NLL (genL N kk)) = some (NLL A, false) ∧ Za (a.1, a.2) = some true)) := by
  have fr : ∀ {N kk : Nat} (A : List (List Nat)) (b : Bool), AlgN a N → kk ≤ 3 → zY (a.1, a.2) (kk : Int) = some true → Zc (a.1, a.2) ((N ^ kk : Nat) : Int) (NLL (genL N kk)) = some (NLL A, b) → yB (a.1, a.2) (kk : Int) = some (if b = true then (NLL A, true) else ([], false)) := fun {N kk} A b hN hk hr hc => by
    have hp := Uh hN.n8 hk
    have epw : Zb a.1 (kk : Int) = some ((N ^ kk : Nat) : Int) := Xf hN.eN rfl hN.n1 (by omega) (by omega)
    unfold yB
    rw [hr]
    simp only [Option.bind_some, Bool.not_true, cond_false, epw, wx hN hk, hc]
    cases b <;> rfl
  rcases zbi a k ha with ⟨N, kk, A, M, hN, rfl, hk, h64, f2, hF, hr, hc, hg⟩ | ⟨f2, hno⟩
  · exact .inl ⟨N, kk, A, M, hN, rfl, hk, h64, fr A true hN hk hr hc, f2, hF, hr, hc, hg⟩
  · right
    refine ⟨?_, f2, hno⟩
    rcases hno with h | ⟨N, kk, A, hN, rfl, hk, h64, hr, hc, hg⟩
    · unfold yB
      rw [h]; rfl
    · exact fr A false hN hk hr hc

theorem FrI.tup {N k : Nat} {a : Int × List (Int × List Int)} {A : List (List Nat)} {M : MI} (ha : AlgN a N) (h : FrI N k a.2 A M) : ∀ t ∈ A, TupN N (N ^ k) t := fun t ht => ((h.mem t).1 ht).tup (vz ha.n1)

theorem FrI.small {N k : Nat} {a : Int × List (Int × List Int)} {A : List (List Nat)} {M : MI} (ha : AlgN a N) (h : FrI N k a.2 A M) {t : List Nat} (ht : t ∈ A) : ∀ x ∈ t, x < 65536 := fun x hx => by
  have := (h.tup ha t ht).2 x hx
  have := ha.n8
  omega

theorem zaQ {A : List (List Nat)} (hs : Sorted A) {t : List Nat} (h : t ∈ A) : vC A t = A.idxOf t := by
  have hl := List.idxOf_lt_length_of_mem h
  have e := List.getElem_idxOf hl
  refine WZ (by omega) (fun i hi => ?_) (fun i hi hil => ?_)
  · have := hs.get hi hl
    rw [yV hl, e] at this; exact this
  · by_cases he : i = A.idxOf t
    · rw [he, yV hl, e]; exact yP _
    · have := hs.get (show A.idxOf t < i by omega) hil
      rw [yV hl, e] at this
      cases hx : Zm (gl A i) t with
      | false => rfl
      | true => have := Yw this hx; rw [yP] at this; cases this

theorem vF {A : List (List Nat)} {k : Nat} (hs : Sorted A) (hl : A.length ≤ 300) (hk : k ≤ 1000000) (hu : ∀ u ∈ A, u.length = k) {t : List Nat} (h : t ∈ A) : zX (NLL A) (NL t) = some (((A.idxOf t : Nat) : Int), true) := by
  rw [Wi hs (fun u hu' => by rw [hu u hu', hu t h]) (by omega) (by rw [hu t h]; omega), zaQ hs h]
  congr 2
  simpa using h

theorem UF {A : List (List Nat)} {M : MI} (hM : KIx M A) {t : List Nat} (hs : ∀ x ∈ t, x < 65536) (hl : t.length ≤ 1000000000) (h : t ∈ A) : ∃ q, ZB (NL t) = some q ∧ (mget M q).getD 0 = ((A.idxOf t : Nat) : Int) := by
  refine ⟨_, ul hl, ?_⟩
  rw [hM t hs, if_pos h]; rfl

set_option linter.unusedVariables false

def lexB : List Int → List Int → Bool
  | x :: s, y :: t => if x = y then lexB s t else decide (x < y)
  | _, _ => false

theorem Xh : ∀ s, lexB s s = false
  | [] => rfl
  | x :: s => by unfold lexB; rw [if_pos rfl]; exact Xh s

theorem vf : ∀ {s t u : List Int}, lexB s t = true → lexB t u = true → lexB s u = true
  | [], _, _, h, _ => by cases h
  | _ :: _, [], _, h, _ => by cases h
  | _ :: _, _ :: _, [], _, h => by cases h
  | x :: s, y :: t, z :: u, h1, h2 => by
    unfold lexB at h1 h2 ⊢
    by_cases e1 : x = y
    · subst e1
      rw [if_pos rfl] at h1
      by_cases e2 : x = z
      · rw [if_pos e2] at h2 ⊢; exact vf h1 h2
      · rw [if_neg e2] at h2 ⊢; exact h2
    · rw [if_neg e1, decide_eq_true_eq] at h1
      by_cases e2 : y = z
      · subst e2
        rw [if_neg e1]; simpa using h1
      · rw [if_neg e2, decide_eq_true_eq] at h2
        rw [if_neg (by omega)]; simp; omega

theorem zbr : ∀ {s t : List Int}, s.length = t.length → lexB s t = false → s ≠ t → lexB t s = true
  | [], [], _, _, h => absurd rfl h
  | [], _ :: _, h, _, _ => by cases h
  | _ :: _, [], h, _, _ => by cases h
  | x :: s, y :: t, hl, h1, h2 => by
    unfold lexB at h1 ⊢
    by_cases e : x = y
    · subst e
      rw [if_pos rfl] at h1 ⊢
      exact zbr (by simpa using hl) h1 (fun e => h2 (by rw [e]))
    · rw [if_neg e, decide_eq_false_iff_not] at h1
      rw [if_neg (Ne.symm e)]; simp; omega

theorem zav : ∀ (s : List Int) {t u : List Int}, lexB (s ++ t) (s ++ u) = lexB t u
  | [], _, _ => rfl
  | x :: s, t, u => by
    rw [List.cons_append, List.cons_append]
    conv => lhs; unfold lexB
    rw [if_pos rfl]; exact zav s

theorem zbq : ∀ {s t x y : List Int}, lexB s t = true → lexB (s ++ x) (t ++ y) = true
  | [], _, _, _, h => by cases h
  | _ :: _, [], _, _, h => by cases h
  | a :: s, b :: t, x, y, h => by
    rw [List.cons_append, List.cons_append]
    unfold lexB at h ⊢
    by_cases e : a = b
    · rw [if_pos e] at h ⊢; exact zbq h
    · rw [if_neg e] at h ⊢; exact h

def bef (s t : List Int) : Bool := if s.length = t.length then lexB s t else decide (s.length < t.length)

theorem ux (s : List Int) : bef s s = false := by unfold bef; rw [if_pos rfl]; exact Xh s

theorem vZ {s t : List Int} (h : s.length < t.length) : bef s t = true := by unfold bef; rw [if_neg (by omega)]; simpa using h

theorem vk {s t : List Int} (h : bef s t = true) : s.length ≤ t.length := by
  unfold bef at h
  split at h
  · omega
  · have := of_decide_eq_true h; omega

theorem Un {s t u : List Int} (h1 : bef s t = true) (h2 : bef t u = true) : bef s u = true := by
  have l1 := vk h1
  have l2 := vk h2
  by_cases e1 : s.length = t.length
  · by_cases e2 : t.length = u.length
    · unfold bef at h1 h2 ⊢
      rw [if_pos e1] at h1; rw [if_pos e2] at h2; rw [if_pos (by omega)]
      exact vf h1 h2
    · exact vZ (by omega)
  · exact vZ (by omega)

theorem bef_tri {s t : List Int} (h : bef s t = false) (hne : s ≠ t) : bef t s = true := by
  unfold bef at h ⊢
  by_cases e : s.length = t.length
  · rw [if_pos e] at h
    rw [if_pos e.symm]; exact zbr e h hne
  · rw [if_neg e, decide_eq_false_iff_not] at h
    rw [if_neg (Ne.symm e)]; simp; omega

theorem Uc {s t : List Int} (h : bef s t = true) : bef t s = false := by
  cases h2 : bef t s with
  | false => rfl
  | true => have := Un h h2; rw [ux] at this; cases this

def leT (s t : List Int) : Prop := s = t ∨ bef s t = true

theorem yD (s : List Int) : leT s s := .inl rfl

theorem Xz {s t u : List Int} (h1 : leT s t) (h2 : leT t u) : leT s u := by
  rcases h1 with rfl | h1
  · exact h2
  · rcases h2 with rfl | h2
    · exact .inr h1
    · exact .inr (Un h1 h2)

theorem zaq {s t : List Int} (h1 : leT s t) (h2 : leT t s) : s = t := by
  rcases h1 with h | h1
  · exact h
  · rcases h2 with h | h2
    · exact h.symm
    · rw [Uc h1] at h2; cases h2

theorem UH {s t : List Int} (h : leT s t) : s.length ≤ t.length := by
  rcases h with rfl | h
  · exact Nat.le_refl _
  · exact vk h

theorem zbR {s t : List Int} (h : bef t s = false) : leT s t := by
  by_cases e : s = t
  · exact .inl e
  · exact .inr (bef_tri h (Ne.symm e))

theorem leT_not {s t : List Int} (h : leT s t) : bef t s = false := by
  rcases h with rfl | h
  · exact ux _
  · exact Uc h

theorem leT_app {s s' t t' : List Int} (h1 : leT s s') (h2 : leT t t') : leT (s ++ t) (s' ++ t') := by
  have l2 := UH h2
  rcases h1 with rfl | h1
  · rcases h2 with rfl | h2
    · exact yD _
    · right
      by_cases e : t.length = t'.length
      · unfold bef at h2 ⊢
        rw [if_pos e] at h2
        rw [if_pos (by simp [e]), zav]; exact h2
      · exact vZ (by simp; omega)
  · right
    have l1 := vk h1
    by_cases e1 : s.length = s'.length
    · by_cases e : t.length = t'.length
      · unfold bef at h1 ⊢
        rw [if_pos e1] at h1
        rw [if_pos (by simp [e, e1])]; exact zbq h1
      · exact vZ (by simp; omega)
    · exact vZ (by simp; omega)

theorem zaw {α : Type} {f g : α → List Int} : ∀ (ds : List α), (∀ d ∈ ds, leT (f d) (g d)) → leT (ds.map f).flatten (ds.map g).flatten
  | [], _ => yD _
  | d :: ds, h => by
    rw [List.map_cons, List.map_cons, List.flatten_cons, List.flatten_cons]
    exact leT_app (h d (by simp)) (zaw ds (fun x hx => h x (by simp [hx])))

/-- A composite term. -/
def cpT (j : Nat) (l : List (List Int)) : List Int := (-1 - (j : Int)) :: l.flatten

theorem zbx {α : Type} {f g : α → List Int} (j : Nat) (ds : List α) (h : ∀ d ∈ ds, leT (f d) (g d)) : leT (cpT j (ds.map f)) (cpT j (ds.map g)) := by
  have := leT_app (yD [-1 - (j : Int)]) (zaw ds h)
  exact this

theorem cpT_len {j : Nat} {l : List (List Int)} {s : List Int} (h : s ∈ l) : s.length < (cpT j l).length := by
  unfold cpT
  rw [List.length_cons]
  have : s.length ≤ l.flatten.length := by
    obtain ⟨l1, l2, rfl⟩ := List.append_of_mem h
    simp; omega
  omega

/-- The term s has the value v. -/
inductive TmV (N : Nat) (ops : List (Int × List Int)) (k : Nat) (B : List (List Nat)) : List Int → List Nat → Prop
  | var {c : Nat} : c < B.length → TmV N ops k B [(c : Int)] (gl B c)
  | app {j : Nat} (hj : j < ops.length) {K : Nat} {T : List Nat} {ps : List (List Int × List Nat)} : OpN N ops[j] K T → ps.length = K → (∀ p ∈ ps, TmV N ops k B p.1 p.2) → TmV N ops k B (cpT j (ps.map (·.1))) (apT N T (ps.map (·.2)) k)

section
variable {N k : Nat} {ops : List (Int × List Int)} {B : List (List Nat)}

theorem TmV.gen {s : List Int} {v : List Nat} (h : TmV N ops k B s v) : Gen N ops k B v := by
  induction h with
  | var hc => exact .base (YM hc)
  | app hj ho hl _ ih => exact .app (List.getElem_mem hj) ho (by simpa using hl) (fun t ht => by
      obtain ⟨p, hp, rfl⟩ := List.mem_map.1 ht
      exact ih p hp)

theorem TmV.ne {s : List Int} {v : List Nat} (h : TmV N ops k B s v) : s ≠ [] := by
  cases h <;> simp [cpT]

def gI (l : List (List Int)) (i : Nat) : List Int := l.getD i []

theorem wQ {l : List (List Int)} {i : Nat} (h : i < l.length) : gI l i = l[i] := by simp [gI, List.getElem?_eq_getElem h]

theorem gI_ge {l : List (List Int)} {i : Nat} (h : l.length ≤ i) : gI l i = [] := by simp [gI, List.getElem?_eq_none h]

theorem vd {l : List (List Int)} {i j : Nat} {t : List Int} (h : i < l.length) : gI (l.set i t) j = if j = i then t else gI l j := by
  unfold gI
  rw [List.getD_eq_getElem?_getD, List.getElem?_set]
  by_cases e : i = j
  · subst e; simp [h]
  · rw [if_neg e, if_neg (Ne.symm e)]; simp

def LeB (o' o : List (List Int)) : Prop := ∀ i, gI o i ≠ [] → gI o' i ≠ [] ∧ leT (gI o' i) (gI o i)

theorem LeB.refl (o : List (List Int)) : LeB o o := fun i h => ⟨h, yD _⟩

theorem LeB.trans {o o' o'' : List (List Int)} (h1 : LeB o'' o') (h2 : LeB o' o) : LeB o'' o := fun i h => by
  obtain ⟨a1, a2⟩ := h2 i h
  obtain ⟨b1, b2⟩ := h1 i a1
  exact ⟨b1, Xz b2 a2⟩

structure TB (N : Nat) (ops : List (Int × List Int)) (k : Nat) (B A : List (List Nat)) (out : List (List Int)) : Prop where
  len : out.length = A.length
  sound : ∀ i, i < A.length → gI out i ≠ [] → TmV N ops k B (gI out i) (gl A i) ∧ (gI out i).length ≤ 60

/-- The entry of v is at most t. -/
def HasT (A : List (List Nat)) (out : List (List Int)) (v : List Nat) (t : List Int) : Prop := gI out (A.idxOf v) ≠ [] ∧ leT (gI out (A.idxOf v)) t

theorem HasT.mono {A : List (List Nat)} {o o' : List (List Int)} {v : List Nat} {t t' : List Int} (h : HasT A o v t) (h1 : LeB o' o) (h2 : leT t t') : HasT A o' v t' := by
  obtain ⟨a1, a2⟩ := h1 _ h.1
  exact ⟨a1, Xz a2 (Xz h.2 h2)⟩

def btr (out : List (List Int)) (i : Nat) (t : List Int) : List (List Int) := if gI out i = [] ∨ bef t (gI out i) = true then out.set i t else out

theorem ur {A : List (List Nat)} {v : List Nat} (h : v ∈ A) : gl A (A.idxOf v) = v := by
  have hl := List.idxOf_lt_length_of_mem h
  rw [yV hl]; exact List.getElem_idxOf hl

theorem zaa {A : List (List Nat)} {out : List (List Int)} {v : List Nat} {t : List Int} (h : TB N ops k B A out) (hv : v ∈ A) (ht : TmV N ops k B t v) (h60 : t.length ≤ 60) :
    TB N ops k B A (btr out (A.idxOf v) t) ∧ LeB (btr out (A.idxOf v) t) out ∧ HasT A (btr out (A.idxOf v) t) v t := by
  have hl := List.idxOf_lt_length_of_mem hv
  have hlo : A.idxOf v < out.length := by rw [h.len]; exact hl
  unfold btr
  split
  · rename_i hc
    refine ⟨⟨by simp [h.len], fun i hi hne => ?_⟩, fun i hne => ?_, ?_⟩
    · rw [vd hlo] at hne ⊢
      split
      · rename_i e; subst e; rw [ur hv]; exact ⟨ht, h60⟩
      · rename_i e; rw [if_neg e] at hne; exact h.sound i hi hne
    · rw [vd hlo]
      split
      · rename_i e; subst e
        refine ⟨ht.ne, ?_⟩
        rcases hc with hc | hc
        · exact absurd hc hne
        · exact .inr hc
      · exact ⟨hne, yD _⟩
    · unfold HasT; rw [vd hlo, if_pos rfl]; exact ⟨ht.ne, yD _⟩
  · rename_i hc
    refine ⟨h, LeB.refl _, ?_⟩
    refine ⟨fun e => hc (.inl e), zbR ?_⟩
    cases hb : bef t (gI out (A.idxOf v)) with
    | false => rfl
    | true => exact absurd (.inr hb) hc

/-- Each entry is a least term. -/
def FinT (N : Nat) (ops : List (Int × List Int)) (k : Nat) (B A : List (List Nat)) (out : List (List Int)) : Prop := ∀ s v, TmV N ops k B s v → s.length ≤ 60 → HasT A out v s

theorem fin_same {A A' : List (List Nat)} {o o' : List (List Int)} (h : TB N ops k B A o) (h' : TB N ops k B A' o') (hf : FinT N ops k B A o) (hf' : FinT N ops k B A' o') {v : List Nat} (hv : v ∈ A) (hv' : v ∈ A') : gI o (A.idxOf v) = gI o' (A'.idxOf v) := by
  have hl := List.idxOf_lt_length_of_mem hv
  have hl' := List.idxOf_lt_length_of_mem hv'
  by_cases e : gI o (A.idxOf v) = []
  · by_cases e' : gI o' (A'.idxOf v) = []
    · rw [e, e']
    · obtain ⟨a1, a2⟩ := h'.sound _ hl' e'
      rw [ur hv'] at a1
      exact absurd e (hf _ _ a1 a2).1
  · obtain ⟨a1, a2⟩ := h.sound _ hl e
    rw [ur hv] at a1
    obtain ⟨b1, b2⟩ := hf' _ _ a1 a2
    obtain ⟨c1, c2⟩ := h'.sound _ hl' b1
    rw [ur hv'] at c1
    obtain ⟨d1, d2⟩ := hf _ _ c1 c2
    exact zaq d2 b2

/-- A composite of entries is a term. -/
theorem zak {A : List (List Nat)} {out : List (List Int)} (h : TB N ops k B A out) {j K : Nat} (hj : j < ops.length) {T : List Nat} (ho : OpN N ops[j] K T) {ds : List Nat} (hl : ds.length = K) (hd : ∀ d ∈ ds, d < A.length ∧ gI out d ≠ []) :
    TmV N ops k B (cpT j (ds.map (gI out))) (apT N T (ds.map (gl A)) k) := by
  have := TmV.app (k := k) (B := B) hj (ps := ds.map fun d => (gI out d, gl A d)) ho (by simpa using hl) (fun p hp => by
    obtain ⟨d, hd', rfl⟩ := List.mem_map.1 hp
    exact (h.sound d (hd d hd').1 (hd d hd').2).1)
  rw [List.map_map, List.map_map] at this
  exact this

/-- A table that is closed holds least terms. -/
theorem fin_of {A : List (List Nat)} {o o0 : List (List Int)} {p : Nat} (hall : ∀ v, Gen N ops k B v → v ∈ A)
    (hg : ∀ c, c < B.length → HasT A o (gl B c) [(c : Int)])
    (hc : ∀ j (hj : j < ops.length) K T, OpN N ops[j] K T → ∀ ds : List Nat, ds.length = K → (∀ d ∈ ds, d < A.length ∧ gI o0 d ≠ []) → (cpT j (ds.map (gI o0))).length ≤ 60 → HasT A o (apT N T (ds.map (gl A)) k) (cpT j (ds.map (gI o0))))
    (hp : ∀ s v, TmV N ops k B s v → s.length ≤ p → s.length ≤ 60 → HasT A o0 v s) : ∀ s v, TmV N ops k B s v → s.length ≤ p + 1 → s.length ≤ 60 → HasT A o v s := by
  intro s v h hlen h60
  cases h with
  | var hc' => exact hg _ hc'
  | @app j hj K T ps ho hl hps =>
    have hsub : ∀ q ∈ ps, HasT A o0 q.2 q.1 := fun q hq => by
      have := cpT_len (j := j) (List.mem_map.2 ⟨q, hq, rfl⟩ : q.1 ∈ ps.map (·.1))
      exact hp _ _ (hps q hq) (by omega) (by omega)
    have e2 : (ps.map fun q => A.idxOf q.2).map (gl A) = ps.map (·.2) := by
      rw [List.map_map]
      refine List.map_congr_left fun q hq => ?_
      exact ur (hall _ (hps q hq).gen)
    have e1 : (ps.map fun q => A.idxOf q.2).map (gI o0) = ps.map fun q => gI o0 (A.idxOf q.2) := by rw [List.map_map]; rfl
    have hle : leT (cpT j (ps.map fun q => gI o0 (A.idxOf q.2))) (cpT j (ps.map (·.1))) := zbx j ps (fun q hq => (hsub q hq).2)
    have hll := UH hle
    have := hc j hj K T ho (ps.map fun q => A.idxOf q.2) (by simpa using hl) (fun d hd => by
      obtain ⟨q, hq, rfl⟩ := List.mem_map.1 hd
      exact ⟨List.idxOf_lt_length_of_mem (hall _ (hps q hq).gen), (hsub q hq).1⟩) (by rw [e1]; omega)
    rw [e1, e2] at this
    exact this.mono (LeB.refl _) hle

end

set_option linter.unusedVariables false

theorem wm {s t : List Int} (hs : s.length ≤ 1000000) : ∀ (x y pre : List Int) (fu : Nat), s = pre ++ x → t = pre ++ y → x.length = y.length → x.length < fu →
    ∃ o, iter (S := Int) (R := Int) (fun s25 =>
  (bif ((decide (s25 < (s.length : Int))) && (decide (s25 < (t.length : Int)))) then (idx s s25).bind fun x42 =>
  (idx t s25).bind fun x44 =>
  (bif (x42 != x44) then (idx s s25).bind fun x48 =>
  (idx t s25).bind fun x50 =>
  (bif (decide (x48 < x50)) then some (.rt (-1)) else some (.rt 1)) else some (.nx (w64 (s25 + 1)))) else some (.br s25))) fu (pre.length : Int) = some o ∧ ((lexB x y = true ∧ o = .rt (-1)) ∨ (lexB y x = true ∧ o = .rt 1) ∨ (x = y ∧ ∃ z, o = .br z))
  | [], [], pre, fu + 1, es, et, _, _ => by
    have : s.length = pre.length := by rw [es]; simp
    exact ⟨_, yg (by rw [show decide ((pre.length : Int) < (s.length : Int)) = false by simp; omega, Bool.false_and, cond_false]) (by intro s; simp), .inr (.inr ⟨rfl, _, rfl⟩)⟩
  | [], _ :: _, _, _, _, _, h, _ => by cases h
  | _ :: _, [], _, _, _, _, h, _ => by cases h
  | x :: xs, y :: ys, pre, fu + 1, es, et, hl, hf => by
    have ls : s.length = pre.length + (xs.length + 1) := by rw [es]; simp
    have lt : t.length = pre.length + (ys.length + 1) := by rw [et]; simp
    have i1 : idx s (pre.length : Int) = some x := by rw [ZC, es, List.getElem?_append_right (Nat.le_refl _), Nat.sub_self]; rfl
    have i2 : idx t (pre.length : Int) = some y := by rw [ZC, et, List.getElem?_append_right (Nat.le_refl _), Nat.sub_self]; rfl
    have hc : (decide ((pre.length : Int) < (s.length : Int)) && decide ((pre.length : Int) < (t.length : Int))) = true := by
      rw [yy, yy, Bool.and_eq_true]; simp; omega
    by_cases e : x = y
    · subst e
      obtain ⟨o, h1, h2⟩ := wm (t := t) hs xs ys (pre ++ [x]) fu (by rw [es]; simp) (by rw [et]; simp) (by simpa using hl) (by simp at hf; omega)
      refine ⟨o, ?_, ?_⟩
      · rw [xM (s' := (pre.length : Int) + 1) (by
          simp only [hc, cond_true, i1, i2, Option.bind_some, bne_self_eq_false, cond_false]
          rw [zT (by omega) (by omega)])]
        rw [show (((pre ++ [x]).length : Nat) : Int) = (pre.length : Int) + 1 by simp] at h1
        exact h1
      · unfold lexB
        rw [if_pos rfl, if_pos rfl]
        rcases h2 with h2 | h2 | ⟨h2, h3⟩
        · exact .inl h2
        · exact .inr (.inl h2)
        · exact .inr (.inr ⟨by rw [h2], h3⟩)
    · have hb : (x != y) = true := by simpa using e
      unfold lexB
      rw [if_neg e, if_neg (Ne.symm e)]
      by_cases h : x < y
      · refine ⟨_, yg (by simp only [hc, cond_true, i1, i2, Option.bind_some, hb, decide_eq_true h]) (by intro s; simp), .inl ⟨decide_eq_true h, rfl⟩⟩
      · refine ⟨_, yg (by simp only [hc, cond_true, i1, i2, Option.bind_some, hb, decide_eq_false h, cond_false]) (by intro s; simp), .inr (.inl ⟨by simp; omega, rfl⟩)⟩

theorem zby {s t : List Int} (h : lexB s t = true) : lexB t s = false := by
  cases h2 : lexB t s with
  | false => rfl
  | true => have := vf h h2; rw [Xh] at this; cases this

theorem vW {s t : List Int} (hs : s.length ≤ 1000000) (ht : t.length ≤ 1000000) : ∃ r, yK s t = some r ∧ decide (r ≤ 0) = !bef t s := by
  unfold yK bef
  by_cases e : s.length = t.length
  · rw [decide_eq_false (by omega), cond_false, decide_eq_false (by omega), cond_false, if_pos e.symm]
    unfold Zf
    obtain ⟨o, h1, h2⟩ := wm (t := t) hs s t [] FU rfl rfl e (by unfold FU; omega)
    rw [show (([] : List Int).length : Int) = 0 from rfl] at h1
    rw [h1]
    rcases h2 with ⟨h2, rfl⟩ | ⟨h2, rfl⟩ | ⟨rfl, z, rfl⟩
    · exact ⟨-1, rfl, by rw [zby h2]; rfl⟩
    · exact ⟨1, rfl, by rw [h2]; rfl⟩
    · refine ⟨0, ?_, by rw [Xh]; rfl⟩
      simp only [Option.bind_some, zD]
      rw [decide_eq_false (by omega)]; rfl
  · rw [if_neg (Ne.symm e)]
    by_cases h : s.length < t.length
    · refine ⟨-1, by rw [decide_eq_true (by omega)]; rfl, ?_⟩
      rw [decide_eq_false (show ¬ t.length < s.length by omega)]; rfl
    · refine ⟨1, by rw [decide_eq_false (by omega), cond_false, decide_eq_true (by omega)]; rfl, ?_⟩
      rw [decide_eq_true (show t.length < s.length by omega)]; rfl

theorem xY {l : List (List Int)} {i : Nat} (h : i < l.length) : idx l (i : Int) = some (gI l i) := by rw [ZC, wQ h, List.getElem?_eq_getElem h]

section
variable {R : Type} {best : List (List Int)}

theorem Ua {bad : R} (hb : ∀ i, (gI best i).length ≤ 60) : ∀ (ds : List Nat) (s : Nat) (i : Int), (∀ d ∈ ds, d < best.length) → s + 60 * ds.length ≤ 1000000 →
    forR (S := Int) (R := R) (fun _ x22 s19 =>
  (idx best x22).bind fun x26 =>
  (bif (List.isEmpty x26) then some (.rt bad) else (idx best x22).bind fun x31 =>
  some (.nx (w64 (s19 + (x31.length : Int)))))) i (NL ds) (s : Int) = some (if ∀ d ∈ ds, gI best d ≠ [] then .br ((s + (ds.map (gI best)).flatten.length : Nat) : Int) else .rt bad)
  | [], s, i, _, _ => by rw [if_pos (fun d hd => by cases hd)]; rfl
  | d :: ds, s, i, hd, hl => by
    rw [List.length_cons] at hl
    have h1 := hd d (by simp)
    have h60 := hb d
    rw [VI]
    by_cases e : gI best d = []
    · rw [if_neg (fun h => h d (by simp) e)]
      unfold forR
      rw [xY h1, Option.bind_some, e]; rfl
    · rw [Vd (s' := ((s + (gI best d).length : Nat) : Int)) (by
        rw [xY h1, Option.bind_some, show List.isEmpty (gI best d) = false by simpa using e, cond_false, Option.bind_some, wC (by omega)])]
      rw [Ua hb ds (s + (gI best d).length) (i + 1) (fun x hx => hd x (by simp [hx])) (by omega)]
      by_cases h : ∀ x ∈ ds, gI best x ≠ []
      · rw [if_pos h, if_pos (fun x hx => by
          rcases List.mem_cons.1 hx with rfl | hx
          · exact e
          · exact h x hx)]
        congr 3
        simp; omega
      · rw [if_neg h, if_neg (fun h' => h (fun x hx => h' x (by simp [hx])))]

theorem Uo (hb : ∀ i, (gI best i).length ≤ 60) : ∀ (ds : List Nat) (s : List Int) (i : Int), (∀ d ∈ ds, d < best.length) → s.length + 60 * ds.length ≤ 1000000 →
    forR (S := (List Int)) (R := R) (fun _ x64 s61 =>
  (idx best x64).bind fun x72 =>
  (app s61 x72).bind fun y77 =>
  some (.nx y77)) i (NL ds) s = some (.br (s ++ (ds.map (gI best)).flatten))
  | [], s, i, _, _ => by simp; rfl
  | d :: ds, s, i, hd, hl => by
    rw [List.length_cons] at hl
    have h1 := hd d (by simp)
    have h60 := hb d
    rw [VI, Vd (s' := s ++ gI best d) (by rw [xY h1, Option.bind_some, yv (by omega), Option.bind_some])]
    rw [Uo hb ds (s ++ gI best d) (i + 1) (fun x hx => hd x (by simp [hx])) (by simp; omega)]
    simp

end

def rlxC (best : List (List Int)) (j v : Nat) (ds : List Nat) : Prop := (∀ d ∈ ds, gI best d ≠ []) ∧ (cpT j (ds.map (gI best))).length ≤ 60 ∧ (gI best v = [] ∨ bef (cpT j (ds.map (gI best))) (gI best v) = true)

theorem relax_eq {A : List (List Nat)} {M : MI} {a : Int × List (Int × List Int)} {best : List (List Int)} {j K i v : Nat} {S : Int} (hA : 1 ≤ A.length) (hA3 : A.length ≤ 300) (hj : j ≤ 10) (hK : K ≤ 3) (hi : i ≤ 100000000) (hb : ∀ i, (gI best i).length ≤ 60) (hl : best.length = A.length) (hv : v < A.length) :
    (rlxC best j v (dig A.length K i) ∧ Zh best (j : Int) (K : Int) (i : Int) (v : Int) (a.1, a.2, S, NLL A, M) = some (true, best.set v (cpT j ((dig A.length K i).map (gI best))))) ∨
    (¬ rlxC best j v (dig A.length K i) ∧ Zh best (j : Int) (K : Int) (i : Int) (v : Int) (a.1, a.2, S, NLL A, M) = some (false, best)) := by
  have hds : ∀ d ∈ dig A.length K i, d < best.length := fun d hd => by rw [hl]; exact xJ hA K i d hd
  have hdl : (dig A.length K i).length = K := wD _ _ _
  unfold Zh
  simp only [yo, argsN (show K ≤ 4294967296 by omega) hA (show i ≤ 9223372036854775807 by omega), Option.bind_some]
  generalize hdse : dig A.length K i = ds at hds hdl
  have e1 := Ua (R := Bool × (List (List Int))) (bad := (false, best)) hb ds 1 0 hds (by omega)
  rw [show ((1 : Nat) : Int) = 1 from rfl] at e1
  rw [e1, Option.bind_some]
  have hcl : (cpT j (ds.map (gI best))).length = 1 + (ds.map (gI best)).flatten.length := by unfold cpT; simp; omega
  by_cases h1 : ∀ d ∈ ds, gI best d ≠ []
  · rw [if_pos h1, zD, ← hcl]
    by_cases h60 : (cpT j (ds.map (gI best))).length ≤ 60
    · rw [show decide (60 < (((cpT j (ds.map (gI best))).length : Nat) : Int)) = false from decide_eq_false (by omega), cond_false, xY (by omega), Option.bind_some, Option.bind_some]
      have e2 := Uo (R := Bool × (List (List Int))) hb ds [w64 ((-1) - (j : Int))] 0 hds (by simp; omega)
      have ew : [w64 ((-1) - (j : Int))] ++ (ds.map (gI best)).flatten = cpT j (ds.map (gI best)) := by
        rw [zT (by omega) (by omega)]; rfl
      rw [ew] at e2
      have hne : nne (cpT j (ds.map (gI best))) = some () := rfl
      by_cases hv0 : gI best v = []
      · left
        refine ⟨⟨h1, h60, .inl hv0⟩, ?_⟩
        simp only [hv0, List.isEmpty_nil, Bool.not_true, cond_false, Option.bind_some, e2, zD, hne, Int.toNat_natCast]
      · have hemp : List.isEmpty (gI best v) = false := by simpa using hv0
        by_cases hlt : (gI best v).length < (cpT j (ds.map (gI best))).length
        · right
          refine ⟨fun h => ?_, ?_⟩
          · rcases h.2.2 with h | h
            · exact hv0 h
            · have := vk h; omega
          · simp only [hemp, Bool.not_false, cond_true, Option.bind_some, yy, decide_eq_true hlt]
        · obtain ⟨r, r1, r2⟩ := vW (s := gI best v) (t := cpT j (ds.map (gI best))) (by have := hb v; omega) (by omega)
          simp only [hemp, Bool.not_false, cond_true, Option.bind_some, yy, decide_eq_false hlt, cond_false, e2, zD, r1, r2]
          cases hbf : bef (cpT j (ds.map (gI best))) (gI best v) with
          | true =>
            left
            refine ⟨⟨h1, h60, .inr hbf⟩, ?_⟩
            simp only [Bool.not_true, cond_false, Option.bind_some, hne, Int.toNat_natCast]
          | false =>
            right
            refine ⟨fun h => ?_, rfl⟩
            rcases h.2.2 with h | h
            · exact hv0 h
            · rw [hbf] at h; cases h
    · right
      refine ⟨fun h => h60 h.2.1, ?_⟩
      rw [show decide (60 < (((cpT j (ds.map (gI best))).length : Nat) : Int)) = true from decide_eq_true (by omega)]; rfl
  · right
    rw [if_neg h1]
    exact ⟨fun h => h1 h.1, rfl⟩

theorem power_le {n k : Int} {N K : Nat} (hn : n = (N : Int)) (hk : k = (K : Int)) (h : ∀ j, j ≤ K → N ^ j ≤ 9223372036854775807) (hK2 : K ≤ 4294967296) : ZG n k = some ((N ^ K : Nat) : Int) := by
  unfold ZG
  subst hn hk
  rw [wB (fun t => ((K : Int) - t, ((N ^ t : Nat) : Int))) (t := (0, ((N ^ K : Nat) : Int))) K (by omega)]
  · rfl
  · simp
  · intro j hj
    have hd : decide ((0 : Int) < (K : Int) - j) = true := by simp; omega
    have hp := h (j + 1) (by omega)
    simp only [hd, cond_true]
    rw [zT (by omega) (by omega), show ((N ^ j : Nat) : Int) * (N : Int) = ((N ^ (j + 1) : Nat) : Int) by rw [Nat.pow_succ]; simp, wy (by omega)]
    simp; omega
  · simp

def vrow (N k : Nat) (A : List (List Nat)) (f : Int × List Int) : List Nat := (List.range (A.length ^ f.1.toNat)).map fun i => A.idxOf (apT N (f.2.map Int.toNat) ((dig A.length f.1.toNat i).map (gl A)) k)

theorem wt {m K : Nat} (hm : m ≤ 300) (hK3 : K ≤ 3) : m ^ K ≤ 27000000 := by
  have h1 : m ^ K ≤ 300 ^ K := Nat.pow_le_pow_left hm K
  have h2 : 300 ^ K ≤ 300 ^ 3 := Nat.pow_le_pow_right (by omega) hK3
  omega

set_option linter.unusedVariables false

theorem zbM {α R : Type} {step : Int → List α → Option (Ctl (List α) R)} (v : Nat → α) {n : Nat} {hi : Int} {s : List α} (hn : hi = (n : Int)) (h1 : n ≤ 4294967296) (hs : s.length = n)
    (h : ∀ (j : Nat) (s : List α), j < n → s.length = n → step (j : Int) s = some (.nx (s.set j (v j)))) : forC step 0 hi s = some (.br ((List.range n).map v)) := by
  have e : (fun j => (List.range j).map v ++ s.drop j) n = (List.range n).map v := by
    show (List.range n).map v ++ s.drop n = _
    rw [List.drop_of_length_le (by omega), List.append_nil]
  rw [← e]
  refine Xi (fun j => (List.range j).map v ++ s.drop j) hn (by omega) (by simp) (fun j hj => ?_)
  rw [h j _ hj (by simp; omega)]
  rw [List.drop_eq_getElem_cons (show j < s.length by omega), List.set_append]
  simp [List.range_succ]
  rw [List.drop_eq_getElem_cons (show j < s.length by omega)]; rfl

theorem xH {α β : Type} (g : α → β) : ∀ l : List α, (l.flatMap fun f => [g f]) = l.map g
  | [] => rfl
  | x :: l => by rw [List.flatMap_cons, xH g l]; rfl

theorem wY {N k : Nat} {a : Int × List (Int × List Int)} {A : List (List Nat)} {M : MI} (ha : AlgN a N) (hM : KIx M A) (hA : A.length ≤ 300) (ht : ∀ t ∈ A, TupN N k t) (hk : k ≤ 1000000) (hcl : Clsd N a.2 k (· ∈ A)) :
    Zv (a.1, a.2, (k : Int), NLL A, M) = some (NLL (a.2.map (vrow N k A))) := by
  have hl4 := ha.l4
  have h8 := ha.n8
  unfold Zv
  rw [Xy (fun f => [NL (vrow N k A f)]) 0 a.2 [] (fun i pre post f el => by
    have hf : f ∈ a.2 := by rw [el]; simp
    have hpl : pre.length ≤ 4 := by
      have := congrArg List.length el
      simp at this; omega
    obtain ⟨K, T, ho⟩ := ha.ops f hf
    have hK := ho.k3
    have e1 : f.1 = (K : Int) := by rw [ho.eq]
    have e2 : f.2 = NL T := by rw [ho.eq]
    have hP := wt hA hK
    have epw : ZG ((NLL A).length : Int) f.1 = some ((A.length ^ K : Nat) : Int) := power_le (by simp) e1 (fun j hj => by have := wt hA (show j ≤ 3 by omega); omega) (by omega)
    have hrow : vrow N k A f = (List.range (A.length ^ K)).map fun i => A.idxOf (apT N T ((dig A.length K i).map (gl A)) k) := by
      unfold vrow
      rw [show f.1.toNat = K by omega, e2, vD]
    simp only [epw, Option.bind_some]
    rw [xO rfl (by omega), Option.bind_some, xO e1 (by omega), Option.bind_some]
    have main := Zo (S := (List Int) × (List (List Int))) (R := (List (List Int))) (step := fun k827 s825 =>
  (ZW k827 f.1 ((NLL A).length : Int)).bind fun r843 =>
  (forC (S := (List (List Int))) (R := (List (List Int))) (fun k866 s864 =>
  (idx r843 k866).bind fun x872 =>
  (idx (NLL A) x872).bind fun x874 =>
  (idx s864 k866).bind fun x878 =>
  some (.nx (List.set s864 (Int.toNat k866) x874))) 0 (r843.length : Int) s825.2).bind fun o868 => after o868 (fun r_ => some (.rt r_)) (fun s864 =>
  (yf (a.1, a.2) (f.1, f.2) (k : Int) s864).bind fun r883 =>
  (ZB r883).bind fun r886 =>
  (idx s825.1 k827).bind fun x887 =>
  some (.nx (List.set s825.1 (Int.toNat k827) ((mget M r886).getD 0), s864))))
      (n := A.length ^ K) (hi := ((List.replicate (A.length ^ K) (0 : Int)).length : Int)) (s := (List.replicate (A.length ^ K) (0 : Int), List.replicate K ([] : List Int)))
      (fun i s => s.1 = NL ((List.range i).map fun i => A.idxOf (apT N T ((dig A.length K i).map (gl A)) k)) ++ List.replicate (A.length ^ K - i) (0 : Int) ∧ s.2.length = K)
      (fun _ => False) (fun _ => False) (by simp) (by omega) ⟨by simp, by simp⟩ (by
        rintro i ⟨tb, rows⟩ hi ⟨h1, h2⟩
        left
        have h1 : tb = NL ((List.range i).map fun i => A.idxOf (apT N T ((dig A.length K i).map (gl A)) k)) ++ List.replicate (A.length ^ K - i) (0 : Int) := h1
        have h2 : rows.length = K := h2
        have hA1 : 1 ≤ A.length := by
          rcases Nat.eq_zero_or_pos A.length with e0 | e0
          · exfalso
            by_cases hK0 : K = 0
            · subst hK0
              have := hcl f hf 0 T ho [] rfl (fun t h => by cases h)
              rw [List.length_eq_zero_iff.1 e0] at this; cases this
            · rw [e0, Nat.zero_pow (by omega)] at hi; omega
          · exact e0
        have hds : ∀ x ∈ dig A.length K i, x < A.length := xJ hA1 K i
        rw [show f.1 = (K : Int) from e1, yo, argsN (by omega) hA1 (by omega), Option.bind_some]
        rw [zbM (R := (List (List Int))) (v := fun m => NL (gl A (ga (dig A.length K i) m))) (n := K) (by simp) (by omega) h2 (fun m s hm hs => by
          rw [ZA (by simpa using hm), Option.bind_some, YZ (hds _ (yE (by simpa using hm))), Option.bind_some, ZC, List.getElem?_eq_getElem (by omega), Option.bind_some, Int.toNat_natCast]), Option.bind_some, zD]
        have er : (List.range K).map (fun m => NL (gl A (ga (dig A.length K i) m))) = NLL ((dig A.length K i).map (gl A)) := by
          conv => rhs; rw [← zbV (dig A.length K i), wD]
          unfold NLL
          rw [List.map_map, List.map_map]; rfl
        have htup : ∀ t ∈ (dig A.length K i).map (gl A), t ∈ A := fun t h => by
          obtain ⟨x, hx, rfl⟩ := List.mem_map.1 h
          exact YM (hds x hx)
        have hmem := hcl f hf K T ho ((dig A.length K i).map (gl A)) (by simp) htup
        have htt := ht _ hmem
        obtain ⟨q, q1, q2⟩ := UF hM (fun x hx => by have := htt.2 x hx; omega) (by rw [htt.1]; omega) hmem
        have eat := wR ha ho (ts := (dig A.length K i).map (gl A)) (by simp) (fun t h => ht t (htup t h)) hk
        rw [e1] at eat
        rw [er, eat, Option.bind_some, q1, Option.bind_some, ZC, List.getElem?_eq_getElem (by rw [h1]; simp; omega), Option.bind_some, Int.toNat_natCast]
        refine ⟨_, rfl, ?_, by simp⟩
        show tb.set i _ = _
        rw [h1, q2, show List.replicate (A.length ^ K - i) (0 : Int) = 0 :: List.replicate (A.length ^ K - (i + 1)) 0 by rw [show A.length ^ K - i = (A.length ^ K - (i + 1)) + 1 by omega, List.replicate_succ], List.set_append]
        simp [List.range_succ, NL])
    rcases main with ⟨⟨tb, rows⟩, em, ⟨h1, _⟩ | h⟩ | ⟨_, _, h⟩
    · have h1 : tb = NL ((List.range (A.length ^ K)).map fun i => A.idxOf (apT N T ((dig A.length K i).map (gl A)) k)) ++ List.replicate (A.length ^ K - A.length ^ K) (0 : Int) := h1
      rw [Nat.sub_self, List.replicate_zero, List.append_nil, ← hrow] at h1
      rw [em, Option.bind_some, zD]
      show (app _ [tb]).bind _ = _
      rw [h1, yv (by rw [xH]; simp; omega), Option.bind_some]
    · exact h.elim
    · exact h.elim), Option.bind_some, zD, xH]
  simp [NLL]

section
variable {N k : Nat} {a : Int × List (Int × List Int)} {B A : List (List Nat)} {M : MI}

theorem TB.le60 {out : List (List Int)} {ops : List (Int × List Int)} (h : TB N ops k B A out) (i : Nat) : (gI out i).length ≤ 60 := by
  by_cases e : gI out i = []
  · rw [e]; simp
  · rcases Nat.lt_or_ge i A.length with h1 | h1
    · exact (h.sound i h1 e).2
    · exact absurd (gI_ge (by rw [h.len]; exact h1)) e

theorem zbP (ha : AlgN a N) (hA3 : A.length ≤ 300) (hall : ∀ v, Gen N a.2 k B v → v ∈ A) (hgen : ∀ v ∈ A, Gen N a.2 k B v) {best best0 : List (List Int)} (h : TB N a.2 k B A best) (hle : LeB best best0) {j K i : Nat} (hj : j < a.2.length) {T : List Nat} (ho : OpN N a.2[j] K T) (hi : i < A.length ^ K) (hA1 : 1 ≤ A.length) :
    ∃ ch best', Zh best (j : Int) (K : Int) (i : Int) ((A.idxOf (apT N T ((dig A.length K i).map (gl A)) k) : Nat) : Int) (a.1, a.2, (k : Int), NLL A, M) = some (ch, best') ∧ TB N a.2 k B A best' ∧ LeB best' best ∧ (ch = false → best' = best) ∧
      (ch = true → rlxC best j (A.idxOf (apT N T ((dig A.length K i).map (gl A)) k)) (dig A.length K i)) ∧
      ((∀ d ∈ dig A.length K i, gI best0 d ≠ []) → (cpT j ((dig A.length K i).map (gI best0))).length ≤ 60 → HasT A best' (apT N T ((dig A.length K i).map (gl A)) k) (cpT j ((dig A.length K i).map (gI best0)))) := by
  have hl4 := ha.l4
  have hK := ho.k3
  have hP := wt hA3 hK
  have hds : ∀ x ∈ dig A.length K i, x < A.length := xJ hA1 K i
  have hv : apT N T ((dig A.length K i).map (gl A)) k ∈ A := hall _ (.app (List.getElem_mem hj) ho (by simp) (fun t ht => by
    obtain ⟨x, hx, rfl⟩ := List.mem_map.1 ht
    exact hgen _ (YM (hds x hx))))
  rcases relax_eq (A := A) (M := M) (a := a) (best := best) (j := j) (K := K) (i := i) (v := A.idxOf (apT N T ((dig A.length K i).map (gl A)) k)) (S := (k : Int)) hA1 hA3 (by omega) hK (by omega) h.le60 h.len (List.idxOf_lt_length_of_mem hv) with ⟨hc, e⟩ | ⟨hc, e⟩
  · have ht := zak h hj ho (ds := dig A.length K i) (by simp) (fun d hd => ⟨hds d hd, hc.1 d hd⟩)
    obtain ⟨b1, b2, b3⟩ := zaa h hv ht hc.2.1
    have eb : btr best (A.idxOf (apT N T ((dig A.length K i).map (gl A)) k)) (cpT j ((dig A.length K i).map (gI best))) = best.set (A.idxOf (apT N T ((dig A.length K i).map (gl A)) k)) (cpT j ((dig A.length K i).map (gI best))) := by
      unfold btr; rw [if_pos hc.2.2]
    rw [eb] at b1 b2 b3
    refine ⟨_, _, e, b1, b2, (fun h => by cases h), fun _ => hc, fun hne _ => b3.mono (LeB.refl _) (zbx j _ (fun d hd => (hle d (hne d hd)).2))⟩
  · refine ⟨_, _, e, h, LeB.refl _, fun _ => rfl, (fun h => by cases h), fun hne h60 => ?_⟩
    have hcl := zbx j (dig A.length K i) (f := gI best) (g := gI best0) (fun d hd => (hle d (hne d hd)).2)
    have hll := UH hcl
    have h1 : ¬ (gI best (A.idxOf (apT N T ((dig A.length K i).map (gl A)) k)) = [] ∨ bef (cpT j ((dig A.length K i).map (gI best))) (gI best (A.idxOf (apT N T ((dig A.length K i).map (gl A)) k))) = true) := fun h' => hc ⟨fun d hd => (hle d (hne d hd)).1, by omega, h'⟩
    refine HasT.mono ⟨fun e => h1 (.inl e), zbR ?_⟩ (LeB.refl _) hcl
    cases hb : bef (cpT j ((dig A.length K i).map (gI best))) (gI best (A.idxOf (apT N T ((dig A.length K i).map (gl A)) k))) with
    | false => rfl
    | true => exact absurd (.inr hb) h1

/-- What a round keeps. -/
structure PIv (N k : Nat) (ops : List (Int × List Int)) (B A : List (List Nat)) (best0 : List (List Int)) (dn : Nat → Nat → Prop) (ch : Bool) (best : List (List Int)) : Prop where
  tb : TB N ops k B A best
  le : LeB best best0
  stay : ch = false → best = best0
  fin : FinT N ops k B A best0 → ch = false
  cl : ∀ j (hj : j < ops.length) K T, OpN N ops[j] K T → ∀ ds : List Nat, ds.length = K → (∀ d ∈ ds, d < A.length ∧ gI best0 d ≠ []) → (cpT j (ds.map (gI best0))).length ≤ 60 → dn j (ix A.length 0 ds) → HasT A best (apT N T (ds.map (gl A)) k) (cpT j (ds.map (gI best0)))

theorem pass_ok (ha : AlgN a N) (hA3 : A.length ≤ 300) (hall : ∀ v, Gen N a.2 k B v → v ∈ A) (hgen : ∀ v ∈ A, Gen N a.2 k B v) {best0 : List (List Int)} (h0 : TB N a.2 k B A best0) :
    ∃ ch best, forC (S := Bool × (List (List Int))) (R := (List (List Int))) (fun k390 s388 =>
  (idx a.2 k390).bind fun x396 =>
  (idx (NLL (a.2.map (vrow N k A))) k390).bind fun x402 =>
  (forC (S := Bool × (List (List Int))) (R := (List (List Int))) (fun k419 s417 =>
  (idx x402 k419).bind fun x425 =>
  (Zh s417.2 k390 x396.1 k419 x425 (a.1, a.2, (k : Int), NLL A, M)).bind fun r428 =>
  (bif r428.1 then some (.nx (true, r428.2)) else some (.nx (s417.1, r428.2)))) 0 (x402.length : Int) (s388.1, s388.2)).bind fun o421 => after o421 (fun r_ => some (.rt r_)) (fun s417 =>
  some (.nx (s417.1, s417.2)))) 0 (a.2.length : Int) (false, best0) = some (.br (ch, best)) ∧ PIv N k a.2 B A best0 (fun _ _ => True) ch best := by
  have hl4 := ha.l4
  have := Zo (S := Bool × (List (List Int))) (R := (List (List Int))) (step := fun k390 s388 =>
  (idx a.2 k390).bind fun x396 =>
  (idx (NLL (a.2.map (vrow N k A))) k390).bind fun x402 =>
  (forC (S := Bool × (List (List Int))) (R := (List (List Int))) (fun k419 s417 =>
  (idx x402 k419).bind fun x425 =>
  (Zh s417.2 k390 x396.1 k419 x425 (a.1, a.2, (k : Int), NLL A, M)).bind fun r428 =>
  (bif r428.1 then some (.nx (true, r428.2)) else some (.nx (s417.1, r428.2)))) 0 (x402.length : Int) (s388.1, s388.2)).bind fun o421 => after o421 (fun r_ => some (.rt r_)) (fun s417 =>
  some (.nx (s417.1, s417.2)))) (n := a.2.length) (hi := (a.2.length : Int)) (s := (false, best0))
    (fun j s => PIv N k a.2 B A best0 (fun j' _ => j' < j) s.1 s.2) (fun _ => False) (fun _ => False) rfl (by omega)
    ⟨h0, LeB.refl _, fun _ => rfl, fun _ => rfl, fun j hj K T ho ds _ _ _ h => by omega⟩ (by
      rintro j ⟨ch, best⟩ hj hI
      have hI : PIv N k a.2 B A best0 (fun j' _ => j' < j) ch best := hI
      left
      obtain ⟨K, T, q1, q2, ho⟩ := WT ha hj
      have hK := ho.k3
      have hP := wt hA3 hK
      have hrow : gl (a.2.map (vrow N k A)) j = (List.range (A.length ^ K)).map fun i => A.idxOf (apT N T ((dig A.length K i).map (gl A)) k) := by
        rw [yV (by simpa using hj), List.getElem_map, q2]
        unfold vrow
        rw [vD]; rfl
      rw [q1, Option.bind_some, YZ (by simpa using hj), Option.bind_some, hrow]
      have inner := Zo (S := Bool × (List (List Int))) (R := (List (List Int))) (step := fun k419 s417 =>
  (idx (NL ((List.range (A.length ^ K)).map fun i => A.idxOf (apT N T ((dig A.length K i).map (gl A)) k))) k419).bind fun x425 =>
  (Zh s417.2 (j : Int) (K : Int) k419 x425 (a.1, a.2, (k : Int), NLL A, M)).bind fun r428 =>
  (bif r428.1 then some (.nx (true, r428.2)) else some (.nx (s417.1, r428.2)))) (n := A.length ^ K) (hi := ((NL ((List.range (A.length ^ K)).map fun i => A.idxOf (apT N T ((dig A.length K i).map (gl A)) k))).length : Int)) (s := (ch, best))
        (fun i s => PIv N k a.2 B A best0 (fun j' i' => j' < j ∨ (j' = j ∧ i' < i)) s.1 s.2) (fun _ => False) (fun _ => False) (by simp) (by omega)
        ⟨hI.tb, hI.le, hI.stay, hI.fin, fun j' hj' K' T' ho' ds h1 h2 h3 h => hI.cl j' hj' K' T' ho' ds h1 h2 h3 (by omega)⟩ (by
          rintro i ⟨ch, best⟩ hi hI
          have hI : PIv N k a.2 B A best0 (fun j' i' => j' < j ∨ (j' = j ∧ i' < i)) ch best := hI
          left
          have hA1 : 1 ≤ A.length := by
            rcases Nat.eq_zero_or_pos A.length with e0 | e0
            · exfalso
              by_cases hK0 : K = 0
              · subst hK0
                have := hall _ (.app (List.getElem_mem hj) ho (ts := []) rfl (fun t h => by cases h))
                rw [List.length_eq_zero_iff.1 e0] at this; cases this
              · rw [e0, Nat.zero_pow (by omega)] at hi; omega
            · exact e0
          rw [ZA (by simpa using hi), ga_map _ hi, Option.bind_some]
          obtain ⟨c2, b2, e, r1, r2, r3, r4, r5⟩ := zbP (M := M) ha hA3 hall hgen hI.tb hI.le hj ho hi hA1
          rw [e, Option.bind_some]
          have hcl : ∀ j' (hj' : j' < a.2.length) K' T', OpN N a.2[j'] K' T' → ∀ ds : List Nat, ds.length = K' → (∀ d ∈ ds, d < A.length ∧ gI best0 d ≠ []) → (cpT j' (ds.map (gI best0))).length ≤ 60 → (j' < j ∨ (j' = j ∧ ix A.length 0 ds < i + 1)) → HasT A b2 (apT N T' (ds.map (gl A)) k) (cpT j' (ds.map (gI best0))) := fun j' hj' K' T' ho' ds h1 h2 h3 h => by
            by_cases hx : j' < j ∨ (j' = j ∧ ix A.length 0 ds < i)
            · exact (hI.cl j' hj' K' T' ho' ds h1 h2 h3 hx).mono r2 (yD _)
            · have ej : j' = j := by omega
              have ei : ix A.length 0 ds = i := by omega
              subst ej
              obtain ⟨rfl, rfl⟩ := ho.uniq ho'
              have ed : dig A.length K' i = ds := by rw [← ei]; exact UB hA1 K' ds h1 (fun x hx => (h2 x hx).1)
              rw [ed] at r5
              exact r5 (fun d hd => (h2 d hd).2) h3
          cases c2 with
          | true =>
            refine ⟨_, rfl, r1, r2.trans hI.le, (fun h => by cases h), fun hf => ?_, hcl⟩
            exfalso
            have hch := hI.fin hf
            have eb := hI.stay hch
            have hc := r4 rfl
            have hds : ∀ x ∈ dig A.length K i, x < A.length := xJ hA1 K i
            have ht := zak hI.tb hj ho (ds := dig A.length K i) (by simp) (fun d hd => ⟨hds d hd, hc.1 d hd⟩)
            have hh := hf _ _ ht hc.2.1
            rw [← eb] at hh
            rcases hc.2.2 with h | h
            · exact hh.1 h
            · rw [leT_not hh.2] at h; cases h
          | false =>
            have eb := r3 rfl
            refine ⟨_, rfl, r1, r2.trans hI.le, fun h => by show b2 = best0; rw [eb, hI.stay h], hI.fin, hcl⟩)
      rcases inner with ⟨⟨c3, b3⟩, e3, hI3 | h⟩ | ⟨_, _, h⟩
      · have hI3 : PIv N k a.2 B A best0 (fun j' i' => j' < j ∨ (j' = j ∧ i' < A.length ^ K)) c3 b3 := hI3
        rw [e3, Option.bind_some, zD]
        refine ⟨_, rfl, hI3.tb, hI3.le, hI3.stay, hI3.fin, fun j' hj' K' T' ho' ds h1 h2 h3 h => hI3.cl j' hj' K' T' ho' ds h1 h2 h3 ?_⟩
        by_cases ej : j' = j
        · subst ej
          obtain ⟨rfl, rfl⟩ := ho.uniq ho'
          exact .inr ⟨rfl, Xn (fun x hx => (h2 x hx).1) h1⟩
        · left; omega
      · exact h.elim
      · exact h.elim)
  rcases this with ⟨⟨ch, best⟩, e, hI | h⟩ | ⟨_, _, h⟩
  · have hI : PIv N k a.2 B A best0 (fun j' _ => j' < a.2.length) ch best := hI
    exact ⟨ch, best, e, hI.tb, hI.le, hI.stay, hI.fin, fun j hj K T ho ds h1 h2 h3 _ => hI.cl j hj K T ho ds h1 h2 h3 hj⟩
  · exact h.elim
  · exact h.elim

end

set_option linter.unusedVariables false

section
variable {N k : Nat} {a : Int × List (Int × List Int)} {B A : List (List Nat)} {M : MI}
theorem cov_up {out : List (List Int)} (hall : ∀ v, Gen N a.2 k B v → v ∈ A) (hg : ∀ c, c < B.length → HasT A out (gl B c) [(c : Int)])
    (hc : ∀ j (hj : j < a.2.length) K T, OpN N a.2[j] K T → ∀ ds : List Nat, ds.length = K → (∀ d ∈ ds, d < A.length ∧ gI out d ≠ []) → (cpT j (ds.map (gI out))).length ≤ 60 → HasT A out (apT N T (ds.map (gl A)) k) (cpT j (ds.map (gI out)))) : FinT N a.2 k B A out := by
  have : ∀ p, ∀ s v, TmV N a.2 k B s v → s.length ≤ p → s.length ≤ 60 → HasT A out v s := by
    intro p
    induction p with
    | zero =>
      intro s v h hl _
      exact absurd (List.length_eq_zero_iff.1 (by omega)) h.ne
    | succ p ih => exact fin_of hall hg hc ih
  exact fun s v h h60 => this 60 s v h h60 h60

theorem passes_ok (ha : AlgN a N) (hA3 : A.length ≤ 300) (hall : ∀ v, Gen N a.2 k B v → v ∈ A) (hgen : ∀ v ∈ A, Gen N a.2 k B v) : ∀ (n p fu : Nat) (best : List (List Int)), n + p = 60 → n + 1 < fu → TB N a.2 k B A best → (∀ c, c < B.length → HasT A best (gl B c) [(c : Int)]) → (∀ s v, TmV N a.2 k B s v → s.length ≤ p → s.length ≤ 60 → HasT A best v s) →
    ∃ best', iter (S := Bool × (List (List Int))) (R := (List (List Int))) (fun s310 =>
  (bif s310.1 then (forC (S := Bool × (List (List Int))) (R := (List (List Int))) (fun k390 s388 =>
  (idx a.2 k390).bind fun x396 =>
  (idx (NLL (a.2.map (vrow N k A))) k390).bind fun x402 =>
  (forC (S := Bool × (List (List Int))) (R := (List (List Int))) (fun k419 s417 =>
  (idx x402 k419).bind fun x425 =>
  (Zh s417.2 k390 x396.1 k419 x425 (a.1, a.2, (k : Int), NLL A, M)).bind fun r428 =>
  (bif r428.1 then some (.nx (true, r428.2)) else some (.nx (s417.1, r428.2)))) 0 (x402.length : Int) (s388.1, s388.2)).bind fun o421 => after o421 (fun r_ => some (.rt r_)) (fun s417 =>
  some (.nx (s417.1, s417.2)))) 0 (a.2.length : Int) (false, s310.2)).bind fun o392 => after o392 (fun r_ => some (.rt r_)) (fun s388 =>
  some (.nx (s388.1, s388.2))) else some (.br (s310.1, s310.2)))) fu (true, best) = some (.br (false, best')) ∧ TB N a.2 k B A best' ∧ FinT N a.2 k B A best' := by
  intro n
  induction n with
  | zero =>
    intro p fu best hp hf h hg hcov
    obtain ⟨fu, rfl⟩ : ∃ j, fu = j + 2 := ⟨fu - 2, by omega⟩
    have hfin : FinT N a.2 k B A best := fun s v hs h60 => hcov s v hs (by omega) h60
    obtain ⟨ch, b1, e, hI⟩ := pass_ok (M := M) ha hA3 hall hgen h
    have hch := hI.fin hfin
    subst hch
    have eb := hI.stay rfl
    subst eb
    refine ⟨b1, ?_, h, hfin⟩
    rw [xM (s' := (false, b1)) (by rw [cond_true, e]; rfl)]
    exact yg rfl (by intro s; simp)
  | succ n ih =>
    intro p fu best hp hf h hg hcov
    obtain ⟨fu, rfl⟩ : ∃ j, fu = j + 2 := ⟨fu - 2, by omega⟩
    obtain ⟨ch, b1, e, hI⟩ := pass_ok (M := M) ha hA3 hall hgen h
    cases ch with
    | false =>
      have eb := hI.stay rfl
      subst eb
      have hfin : FinT N a.2 k B A b1 := cov_up hall hg (fun j hj K T ho ds h1 h2 h3 => hI.cl j hj K T ho ds h1 h2 h3 trivial)
      refine ⟨b1, ?_, h, hfin⟩
      rw [xM (s' := (false, b1)) (by rw [cond_true, e]; rfl)]
      exact yg rfl (by intro s; simp)
    | true =>
      have hg1 : ∀ c, c < B.length → HasT A b1 (gl B c) [(c : Int)] := fun c hc => (hg c hc).mono hI.le (yD _)
      obtain ⟨b2, e2, r1, r2⟩ := ih (p + 1) (fu + 1) b1 (by omega) (by omega) hI.tb hg1 (fin_of hall hg1 (fun j hj K T ho ds h1 h2 h3 => hI.cl j hj K T ho ds h1 h2 h3 trivial) hcov)
      refine ⟨b2, ?_, r1, r2⟩
      rw [xM (s' := (true, b1)) (by rw [cond_true, e]; rfl)]
      exact e2

theorem one_le {c j : Nat} (h : c < j) : leT [(c : Int)] [(j : Int)] := by
  right
  show (if (c : Int) = (j : Int) then lexB [] [] else decide ((c : Int) < (j : Int))) = true
  rw [if_neg (by omega)]; simp; omega

theorem TB.nil (ops : List (Int × List Int)) : TB N ops k B A (List.replicate A.length []) := by
  have h0 : ∀ i, gI (List.replicate A.length ([] : List Int)) i = [] := fun i => by
    unfold gI; rw [List.getD_eq_getElem?_getD, List.getElem?_replicate]; split <;> rfl
  exact ⟨by simp, fun i _ h => absurd (h0 i) h⟩

theorem gI_nil (i n : Nat) : gI (List.replicate n ([] : List Int)) i = [] := by
  unfold gI; rw [List.getD_eq_getElem?_getD, List.getElem?_replicate]; split <;> rfl

/-- The state while the generators are laid. -/
structure GnI (N k : Nat) (ops : List (Int × List Int)) (B A : List (List Nat)) (j : Nat) (out : List (List Int)) : Prop where
  tb : TB N ops k B A out
  gens : ∀ c, c < j → HasT A out (gl B c) [(c : Int)]
  one : ∀ i, gI out i ≠ [] → ∃ c, c < j ∧ gI out i = [(c : Int)]

theorem GnI.start (ops : List (Int × List Int)) : GnI N k ops B A 0 (List.replicate A.length []) := ⟨TB.nil ops, fun c hc => by omega, fun i h => absurd (gI_nil i _) h⟩

theorem GnI.step {ops : List (Int × List Int)} {j : Nat} {out : List (List Int)} (h : GnI N k ops B A j out) (hj : j < B.length) (hm : gl B j ∈ A) : (gI out (A.idxOf (gl B j)) = [] → GnI N k ops B A (j + 1) (out.set (A.idxOf (gl B j)) [(j : Int)])) ∧ (gI out (A.idxOf (gl B j)) ≠ [] → GnI N k ops B A (j + 1) out) := by
  have hl := List.idxOf_lt_length_of_mem hm
  have hlo : A.idxOf (gl B j) < out.length := by rw [h.tb.len]; exact hl
  refine ⟨fun e => ?_, fun e => ?_⟩
  · obtain ⟨b1, b2, b3⟩ := zaa h.tb hm (TmV.var hj) (by simp)
    have eb : btr out (A.idxOf (gl B j)) [(j : Int)] = out.set (A.idxOf (gl B j)) [(j : Int)] := by unfold btr; rw [if_pos (.inl e)]
    rw [eb] at b1 b2 b3
    refine ⟨b1, fun c hc => ?_, fun i hi => ?_⟩
    · by_cases ec : c = j
      · subst ec; exact b3
      · exact (h.gens c (by omega)).mono b2 (yD _)
    · rw [vd hlo] at hi ⊢
      split
      · exact ⟨j, by omega, rfl⟩
      · rename_i hne
        rw [if_neg hne] at hi
        obtain ⟨c, hc, e⟩ := h.one i hi
        exact ⟨c, by omega, e⟩
  · refine ⟨h.tb, fun c hc => ?_, fun i hi => ?_⟩
    · by_cases ec : c = j
      · subst ec
        obtain ⟨c', hc', e'⟩ := h.one _ e
        exact ⟨e, by rw [e']; exact one_le hc'⟩
      · exact h.gens c (by omega)
    · obtain ⟨c, hc, e⟩ := h.one i hi
      exact ⟨c, by omega, e⟩

theorem uP (ha : AlgN a N) (hM : KIx M A) (hA3 : A.length ≤ 300) (hall : ∀ v, Gen N a.2 k B v → v ∈ A) (hgen : ∀ v ∈ A, Gen N a.2 k B v) (hB : ∀ t ∈ B, TupN N k t) (hk : k ≤ 1000000) (hBl : B.length ≤ 1000) :
    ∃ best, yi (NLL B) (a.1, a.2, (k : Int), NLL A, M) = some best ∧ TB N a.2 k B A best ∧ FinT N a.2 k B A best := by
  have h8 := ha.n8
  have ht : ∀ t ∈ A, TupN N k t := fun t h => (hgen t h).tup hB
  have hcl : Clsd N a.2 k (· ∈ A) := fun f hf K T ho ts hl h => hall _ (.app hf ho hl (fun t h' => hgen t (h t h')))
  unfold yi
  rw [xO (show ((NLL A).length : Int) = (A.length : Int) by simp) (by omega), Option.bind_some]
  have init := Zo (S := (List (List Int))) (R := (List (List Int))) (step := fun k54 s52 =>
  (idx (NLL B) k54).bind fun x60 =>
  (ZB x60).bind fun r70 =>
  (idx s52 ((mget M r70).getD 0)).bind fun x71 =>
  (bif (List.isEmpty x71) then (idx s52 ((mget M r70).getD 0)).bind fun x78 =>
  (nne ([k54])).bind fun u81 =>
  some (.nx (List.set s52 (Int.toNat ((mget M r70).getD 0)) ([k54]))) else some (.nx s52))) (n := B.length) (hi := ((NLL B).length : Int)) (s := List.replicate A.length ([] : List Int))
    (fun j s => GnI N k a.2 B A j s) (fun _ => False) (fun _ => False) (by simp) (by omega) (GnI.start _) (by
      intro j s hj hI
      left
      have hm : gl B j ∈ A := hall _ (.base (YM hj))
      have htt := ht _ hm
      obtain ⟨q, q1, q2⟩ := UF hM (fun x hx => by have := htt.2 x hx; omega) (by rw [htt.1]; omega) hm
      have hlt : A.idxOf (gl B j) < s.length := by rw [hI.tb.len]; exact List.idxOf_lt_length_of_mem hm
      obtain ⟨s1, s2⟩ := hI.step hj hm
      simp only [YZ hj, Option.bind_some, q1, q2, xY hlt, Int.toNat_natCast]
      by_cases e : gI s (A.idxOf (gl B j)) = []
      · rw [show List.isEmpty (gI s (A.idxOf (gl B j))) = true by rw [e]; rfl, cond_true]
        exact ⟨_, rfl, s1 e⟩
      · rw [show List.isEmpty (gI s (A.idxOf (gl B j))) = false by simpa using e, cond_false]
        exact ⟨_, rfl, s2 e⟩)
  rcases init with ⟨s, e1, hI | h⟩ | ⟨_, _, h⟩
  · rw [e1, Option.bind_some, zD, wY ha hM hA3 ht hk hcl, Option.bind_some]
    obtain ⟨best, e2, r1, r2⟩ := passes_ok (M := M) ha hA3 hall hgen 60 0 FU s rfl (by unfold FU; omega) hI.tb hI.gens (fun s v h hl _ => absurd (List.length_eq_zero_iff.1 (by omega)) h.ne)
    rw [e2, Option.bind_some, zD]
    exact ⟨best, rfl, r1, r2⟩
  · exact h.elim
  · exact h.elim

end

set_option linter.unusedVariables false

theorem Vo {s t : List Int} (hs : s.length ≤ 1000000) : ∀ (x y pre : List Int), s = pre ++ x → t = pre ++ y → x.length = y.length →
    forI (S := Unit) (R := Bool) (fun k21 s19 =>
  (idx s k21).bind fun x31 =>
  (idx t k21).bind fun x33 =>
  (bif (x31 != x33) then (idx s k21).bind fun x37 =>
  (idx t k21).bind fun x39 =>
  some (.rt (decide (x37 < x39))) else some (.nx ()))) x.length (pre.length : Int) () = some (if x = y then .br () else .rt (lexB x y))
  | [], [], _, _, _, _ => rfl
  | [], _ :: _, _, _, _, h => by cases h
  | _ :: _, [], _, _, _, h => by cases h
  | x :: xs, y :: ys, pre, es, et, hl => by
    have i1 : idx s (pre.length : Int) = some x := by rw [ZC, es, List.getElem?_append_right (Nat.le_refl _), Nat.sub_self]; rfl
    have i2 : idx t (pre.length : Int) = some y := by rw [ZC, et, List.getElem?_append_right (Nat.le_refl _), Nat.sub_self]; rfl
    rw [List.length_cons]
    by_cases e : x = y
    · subst e
      rw [forI_nx1 (s' := ()) (by simp only [i1, i2, Option.bind_some, bne_self_eq_false, cond_false])]
      have := Vo (t := t) hs xs ys (pre ++ [x]) (by rw [es]; simp) (by rw [et]; simp) (by simpa using hl)
      rw [show (((pre ++ [x]).length : Nat) : Int) = (pre.length : Int) + 1 by simp] at this
      have el : lexB (x :: xs) (x :: ys) = lexB xs ys := by
        show (if x = x then lexB xs ys else _) = _
        rw [if_pos rfl]
      rw [this, el]
      by_cases e2 : xs = ys
      · rw [if_pos e2, if_pos (by rw [e2])]
      · rw [if_neg e2, if_neg (fun h => e2 (List.cons.inj h).2)]
    · have hb : (x != y) = true := by simpa using e
      rw [forI_rt1 (r := decide (x < y)) (by simp only [i1, i2, Option.bind_some, hb, cond_true]), if_neg (fun h => e (List.cons.inj h).1)]
      unfold lexB
      rw [if_neg e]

theorem Vm {s t : List Int} (hs : s.length ≤ 1000000) : ya s t = some (bef s t) := by
  unfold ya bef
  by_cases e : s.length = t.length
  · rw [if_pos e, show (((s.length : Nat) : Int) != ((t.length : Nat) : Int)) = false by simp [e], cond_false]
    unfold yT
    have h := Vo (t := t) hs s t [] rfl rfl e
    rw [show (([] : List Int).length : Int) = 0 from rfl] at h
    unfold forC
    rw [show decide (-9223372036854775808 ≤ (0 : Int)) = true by decide, show decide ((s.length : Int) ≤ 9223372036854775807) = true by simp; omega, Bool.and_true, cond_true, show ((s.length : Int) - 0).toNat = s.length by omega, h]
    by_cases e2 : s = t
    · subst e2
      rw [if_pos rfl, Xh]; rfl
    · rw [if_neg e2]; rfl
  · rw [if_neg e, show (((s.length : Nat) : Int) != ((t.length : Nat) : Int)) = true by simp; omega, cond_true, yy]

section
variable {N k : Nat} {a : Int × List (Int × List Int)} {B A : List (List Nat)}

theorem Vg {out : List (List Int)} {v : List Nat} {t : List Int} (hs : Sorted A) (hA : A.length ≤ 300) (hk : k ≤ 1000000) (hu : ∀ u ∈ A, u.length = k) (hv : v ∈ A) (hl : out.length = A.length) (ht : t.length ≤ 60) : zR out (NLL A) (NL v) t = some (btr out (A.idxOf v) t) := by
  have hlt : A.idxOf v < out.length := by rw [hl]; exact List.idxOf_lt_length_of_mem hv
  unfold zR
  rw [vF hs hA hk hu hv, Option.bind_some]
  simp only [xY hlt, Option.bind_some, Int.toNat_natCast, Vm (show t.length ≤ 1000000 by omega)]
  unfold btr
  by_cases e : gI out (A.idxOf v) = []
  · rw [e, if_pos (.inl rfl)]; rfl
  · have : (((gI out (A.idxOf v)).length : Int) == 0) = false := by
      rw [show (0 : Int) = ((0 : Nat) : Int) from rfl, XM]
      simpa using e
    rw [this, cond_false, Option.bind_some]
    cases hb : bef t (gI out (A.idxOf v)) with
    | true => rw [if_pos (.inr rfl), cond_true]
    | false => rw [if_neg (fun h => by rcases h with h | h; exact e h; cases h), cond_false]

/-- The term that a choice makes. -/
def bdS (op : Nat) (out : List (List Int)) (A : List (List Nat)) (ds : List Nat) (m : Nat) : List Int × List (List Int) × Int := (cpT op ((ds.take m).map (gI out)), NLL ((ds.take m).map (gl A)), (m : Int))

theorem cpT_take (op : Nat) (l : List (List Int)) (m : Nat) : (cpT op (l.take m)).length ≤ (cpT op l).length := by
  have : cpT op l = cpT op (l.take m) ++ (l.drop m).flatten := by unfold cpT; rw [List.cons_append, ← List.flatten_append, List.take_append_drop]
  rw [this]; simp

theorem build_ok {R : Type} {X cs : List Nat} {op : Nat} {out : List (List Int)} (hX : ∀ x ∈ X, x < A.length) (hlo : out.length = A.length) (hcs : ∀ c ∈ cs, c < X.length) (hcl : cs.length ≤ 3) (h60 : ∀ i, (gI out i).length ≤ 60) : ∀ (n m fu : Nat), m + n = cs.length → n < fu →
    ∃ m', m' ≤ cs.length ∧ iter (S := (List Int) × (List (List Int)) × Int) (R := R) (fun s4725 =>
  (bif ((decide (s4725.2.2 < ((NL cs).length : Int))) && (decide ((s4725.1.length : Int) ≤ 60))) then (idx (NL cs) s4725.2.2).bind fun x4746 =>
  (idx (NL X) x4746).bind fun x4748 =>
  (idx out x4748).bind fun x4750 =>
  (app s4725.1 x4750).bind fun y4755 =>
  (idx (NL cs) s4725.2.2).bind fun x4757 =>
  (idx (NL X) x4757).bind fun x4759 =>
  (idx (NLL A) x4759).bind fun x4761 =>
  (app s4725.2.1 ([x4761])).bind fun y4768 =>
  some (.nx (y4755, y4768, w64 (s4725.2.2 + 1))) else some (.br (s4725.1, s4725.2.1, s4725.2.2)))) fu (bdS op out A (cs.map (ga X)) m) = some (.br (bdS op out A (cs.map (ga X)) m')) ∧ (m' = cs.length ∨ 60 < (bdS op out A (cs.map (ga X)) m').1.length) := by
  intro n
  induction n with
  | zero =>
    intro m fu hm hf
    obtain ⟨fu, rfl⟩ : ∃ j, fu = j + 1 := ⟨fu - 1, by omega⟩
    refine ⟨m, by omega, yg (by
      have : decide ((bdS op out A (cs.map (ga X)) m).2.2 < ((NL cs).length : Int)) = false := by
        show decide ((m : Int) < _) = false
        rw [xf]; simp; omega
      rw [this, Bool.false_and, cond_false]) (by intro s; simp), .inl (by omega)⟩
  | succ n ih =>
    intro m fu hm hf
    obtain ⟨fu, rfl⟩ : ∃ j, fu = j + 1 := ⟨fu - 1, by omega⟩
    by_cases hl : (bdS op out A (cs.map (ga X)) m).1.length ≤ 60
    · obtain ⟨m', h1, h2, h3⟩ := ih (m + 1) fu (by omega) (by omega)
      refine ⟨m', h1, ?_, h3⟩
      rw [xM (s' := bdS op out A (cs.map (ga X)) (m + 1)) (by
        have c1 : decide ((bdS op out A (cs.map (ga X)) m).2.2 < ((NL cs).length : Int)) = true := by
          show decide ((m : Int) < _) = true
          rw [xf]; simp; omega
        have c2 : decide (((bdS op out A (cs.map (ga X)) m).1.length : Int) ≤ 60) = true := by simp; omega
        rw [c1, c2, Bool.and_self, cond_true]
        have hcm : ga cs m < X.length := hcs _ (yE (by omega))
        have hxm : ga X (ga cs m) < A.length := hX _ (yE hcm)
        have i1 : idx (NL cs) (bdS op out A (cs.map (ga X)) m).2.2 = some ((ga cs m : Nat) : Int) := ZA (by omega)
        have hg60 := h60 (ga X (ga cs m))
        simp only [i1, Option.bind_some, ZA hcm, xY (show ga X (ga cs m) < out.length by omega), YZ hxm]
        have etk : (cs.map (ga X)).take (m + 1) = (cs.map (ga X)).take m ++ [ga X (ga cs m)] := by
          rw [List.take_add_one, List.getElem?_eq_getElem (by simp; omega), List.getElem_map, xD (show m < cs.length by omega)]; rfl
        rw [yv (by omega), Option.bind_some, yv (by
          show (NLL _).length + 1 ≤ _
          simp; omega), Option.bind_some]
        congr 2
        refine Prod.ext ?_ (Prod.ext ?_ ?_)
        · show cpT op _ ++ _ = cpT op _
          rw [etk]; simp [cpT]
        · show NLL _ ++ _ = NLL _
          rw [etk]; simp [NLL]
        · show w64 ((m : Int) + 1) = _
          exact yY (by omega))]
      exact h2
    · refine ⟨m, by omega, yg (by
        have c2 : decide (((bdS op out A (cs.map (ga X)) m).1.length : Int) ≤ 60) = false := by simp; omega
        rw [c2, Bool.and_false, cond_false]) (by intro s; simp), .inr (by omega)⟩

/-- What one round of the reference keeps. -/
structure QIv (N k : Nat) (ops : List (Int × List Int)) (B A : List (List Nat)) (X : List Nat) (s0 : Nat) (out0 : List (List Int)) (dn : Nat → Nat → Prop) (out : List (List Int)) : Prop where
  tb : TB N ops k B A out
  le : LeB out out0
  keep : ∀ x ∈ X, gI out x = gI out0 x
  up : ∀ i, i < A.length → i ∉ X → gI out i ≠ [] → leT (gI out0 s0) (gI out i)
  cl : ∀ j (hj : j < ops.length) K T, OpN N ops[j] K T → ∀ cs : List Nat, cs.length = K → (∀ c ∈ cs, c < X.length) → X.length - 1 ∈ cs → (cpT j ((cs.map (ga X)).map (gI out0))).length ≤ 60 → dn j (ix X.length 0 cs) → HasT A out (apT N T ((cs.map (ga X)).map (gl A)) k) (cpT j ((cs.map (ga X)).map (gI out0)))

/-- A term is laid. -/
theorem QIv.step {ops : List (Int × List Int)} {X : List Nat} {out0 out : List (List Int)} {dn : Nat → Nat → Prop} (hX1 : 1 ≤ X.length) (hX : ∀ x ∈ X, x < A.length ∧ gI out0 x ≠ [] ∧ leT (gI out0 x) (gI out0 (ga X (X.length - 1)))) (h : QIv N k ops B A X (ga X (X.length - 1)) out0 dn out)
    (hall : ∀ v, Gen N ops k B v → v ∈ A) {j : Nat} (hj : j < ops.length) {K : Nat} {T : List Nat} (ho : OpN N ops[j] K T) {cs : List Nat} (hcl : cs.length = K) (hcs : ∀ c ∈ cs, c < X.length) (hin : X.length - 1 ∈ cs) (h60 : (cpT j ((cs.map (ga X)).map (gI out0))).length ≤ 60) :
    (cs.map (ga X)).map (gI out) = (cs.map (ga X)).map (gI out0) ∧ apT N T ((cs.map (ga X)).map (gl A)) k ∈ A ∧ QIv N k ops B A X (ga X (X.length - 1)) out0 dn (btr out (A.idxOf (apT N T ((cs.map (ga X)).map (gl A)) k)) (cpT j ((cs.map (ga X)).map (gI out0)))) ∧ HasT A (btr out (A.idxOf (apT N T ((cs.map (ga X)).map (gl A)) k)) (cpT j ((cs.map (ga X)).map (gI out0)))) (apT N T ((cs.map (ga X)).map (gl A)) k) (cpT j ((cs.map (ga X)).map (gI out0))) := by
  have hdX : ∀ d ∈ cs.map (ga X), d ∈ X := fun d hd => by
    obtain ⟨c, hc, rfl⟩ := List.mem_map.1 hd
    exact yE (hcs c hc)
  have e1 : (cs.map (ga X)).map (gI out) = (cs.map (ga X)).map (gI out0) := List.map_congr_left fun d hd => h.keep d (hdX d hd)
  have ht : TmV N ops k B (cpT j ((cs.map (ga X)).map (gI out0))) (apT N T ((cs.map (ga X)).map (gl A)) k) := by
    rw [← e1]
    exact zak h.tb hj ho (by simpa using hcl) (fun d hd => ⟨(hX d (hdX d hd)).1, by rw [h.keep d (hdX d hd)]; exact (hX d (hdX d hd)).2.1⟩)
  have hv := hall _ ht.gen
  have hl := List.idxOf_lt_length_of_mem hv
  have hlo : A.idxOf (apT N T ((cs.map (ga X)).map (gl A)) k) < out.length := by rw [h.tb.len]; exact hl
  obtain ⟨b1, b2, b3⟩ := zaa h.tb hv ht h60
  have hs : bef (gI out0 (ga X (X.length - 1))) (cpT j ((cs.map (ga X)).map (gI out0))) = true := vZ (cpT_len (List.mem_map.2 ⟨_, List.mem_map.2 ⟨_, hin, rfl⟩, rfl⟩))
  refine ⟨e1, hv, ⟨b1, b2.trans h.le, fun x hx => ?_, fun i hi hiX hne => ?_, fun j' hj' K' T' ho' cs' h1 h2 h3 h4 h5 => (h.cl j' hj' K' T' ho' cs' h1 h2 h3 h4 h5).mono b2 (yD _)⟩, b3⟩
  · obtain ⟨x1, x2, x3⟩ := hX x hx
    rw [← h.keep x hx]
    unfold btr
    split
    · rename_i hc
      by_cases ex : x = A.idxOf (apT N T ((cs.map (ga X)).map (gl A)) k)
      · exfalso
        rw [← ex, h.keep x hx] at hc
        rcases hc with hc | hc
        · exact x2 hc
        · have := Xz x3 (.inr hs)
          rw [leT_not this] at hc; cases hc
      · rw [vd hlo, if_neg ex]
    · rfl
  · unfold btr at hne ⊢
    split
    · rename_i hc
      rw [if_pos hc, vd hlo] at hne
      rw [vd hlo]
      split
      · exact .inr hs
      · rename_i ex
        rw [if_neg ex] at hne
        exact h.up i hi hiX hne
    · rename_i hc
      rw [if_neg hc] at hne
      exact h.up i hi hiX hne

end

set_option linter.unusedVariables false

section
variable {N k : Nat} {a : Int × List (Int × List Int)} {B A : List (List Nat)}
theorem inner_ok (ha : AlgN a N) (hs : Sorted A) (hA3 : A.length ≤ 300) (hall : ∀ v, Gen N a.2 k B v → v ∈ A) (htA : ∀ u ∈ A, TupN N k u) (hk : k ≤ 1000000) {X : List Nat} {out0 : List (List Int)} (hX1 : 1 ≤ X.length) (hXl : X.length ≤ 300) (hX : ∀ x ∈ X, x < A.length ∧ gI out0 x ≠ [] ∧ leT (gI out0 x) (gI out0 (ga X (X.length - 1))))
    {j : Nat} (hj : j < a.2.length) {K : Nat} {T : List Nat} (ho : OpN N a.2[j] K T) : ∀ (n m fu : Nat) (out : List (List Int)), m + n = X.length ^ K → n < fu → QIv N k a.2 B A X (ga X (X.length - 1)) out0 (fun j' i' => j' < j ∨ (j' = j ∧ i' < m)) out →
    ∃ z out', iter (S := (List Int) × Bool × (List (List Int))) (R := (List (List Int))) (fun s4634 =>
  (bif s4634.2.1 then (Zk s4634.1 (w64 (((NL X).length : Int) - 1))).bind fun r4650 =>
  (bif r4650 then (iter (S := (List Int) × (List (List Int)) × Int) (R := (List (List Int))) (fun s4725 =>
  (bif ((decide (s4725.2.2 < (s4634.1.length : Int))) && (decide ((s4725.1.length : Int) ≤ 60))) then (idx s4634.1 s4725.2.2).bind fun x4746 =>
  (idx (NL X) x4746).bind fun x4748 =>
  (idx s4634.2.2 x4748).bind fun x4750 =>
  (app s4725.1 x4750).bind fun y4755 =>
  (idx s4634.1 s4725.2.2).bind fun x4757 =>
  (idx (NL X) x4757).bind fun x4759 =>
  (idx (NLL A) x4759).bind fun x4761 =>
  (app s4725.2.1 ([x4761])).bind fun y4768 =>
  some (.nx (y4755, y4768, w64 (s4725.2.2 + 1))) else some (.br (s4725.1, s4725.2.1, s4725.2.2)))) FU ([w64 ((-1) - (j : Int))], [], 0)).bind fun o4729 => after o4729 (fun r_ => some (.rt r_)) (fun s4725 =>
  (bif (decide ((s4725.1.length : Int) ≤ 60)) then (zO (a.1, a.2) (j : Int) s4725.2.1 (k : Int)).bind fun r4786 =>
  (zR s4634.2.2 (NLL A) r4786 s4725.1).bind fun r4789 =>
  some r4789 else some s4634.2.2).bind fun s4780 =>
  (zM s4634.1 (w64 ((w64 (((NL X).length : Int) - 1)) + 1))).bind fun r4791 =>
  some (.nx (r4791.1, r4791.2, s4780))) else (zM s4634.1 (w64 ((w64 (((NL X).length : Int) - 1)) + 1))).bind fun r4794 =>
  some (.nx (r4794.1, r4794.2, s4634.2.2))) else some (.br (s4634.1, s4634.2.1, s4634.2.2)))) fu (NL (dig X.length K (if m < X.length ^ K then m else 0)), decide (m < X.length ^ K), out) = some (.br (z, false, out')) ∧ QIv N k a.2 B A X (ga X (X.length - 1)) out0 (fun j' i' => j' < j ∨ (j' = j ∧ i' < X.length ^ K)) out' := by
  have hK := ho.k3
  have hP := wt hXl hK
  have hl4 := ha.l4
  intro n
  induction n with
  | zero =>
    intro m fu out hm hf hI
    obtain ⟨fu, rfl⟩ : ∃ q, fu = q + 1 := ⟨fu - 1, by omega⟩
    have em : m = X.length ^ K := by omega
    rw [show decide (m < X.length ^ K) = false by simp; omega]
    exact ⟨_, out, yg rfl (by intro s; simp), by rw [← em]; exact hI⟩
  | succ n ih =>
    intro m fu out hm hf hI
    obtain ⟨fu, rfl⟩ : ∃ q, fu = q + 1 := ⟨fu - 1, by omega⟩
    have hml : m < X.length ^ K := by omega
    rw [if_pos hml, decide_eq_true hml]
    have ew : w64 (((NL X).length : Int) - 1) = ((X.length - 1 : Nat) : Int) := by rw [xf, show ((X.length : Int) - 1) = ((X.length - 1 : Nat) : Int) by omega, wy (by omega)]
    have ew2 : w64 (w64 (((NL X).length : Int) - 1) + 1) = (X.length : Int) := by rw [ew, yY (by omega)]; omega
    have hcs : ∀ c ∈ dig X.length K m, c < X.length := xJ hX1 K m
    have nxt : zM (NL (dig X.length K m)) (X.length : Int) = some (NL (dig X.length K (if m + 1 < X.length ^ K then m + 1 else 0)), decide (m + 1 < X.length ^ K)) := Vf hX1 (by omega) (by omega) hml
    have hixm : ∀ cs : List Nat, cs.length = K → (∀ c ∈ cs, c < X.length) → ix X.length 0 cs = m → dig X.length K m = cs := fun cs h1 h2 h3 => by rw [← h3]; exact UB hX1 K cs h1 h2
    -- what the round leaves
    have round : ∃ out1, QIv N k a.2 B A X (ga X (X.length - 1)) out0 (fun j' i' => j' < j ∨ (j' = j ∧ i' < m + 1)) out1 ∧ ((fun s4634 =>
  (bif s4634.2.1 then (Zk s4634.1 (w64 (((NL X).length : Int) - 1))).bind fun r4650 =>
  (bif r4650 then (iter (S := (List Int) × (List (List Int)) × Int) (R := (List (List Int))) (fun s4725 =>
  (bif ((decide (s4725.2.2 < (s4634.1.length : Int))) && (decide ((s4725.1.length : Int) ≤ 60))) then (idx s4634.1 s4725.2.2).bind fun x4746 =>
  (idx (NL X) x4746).bind fun x4748 =>
  (idx s4634.2.2 x4748).bind fun x4750 =>
  (app s4725.1 x4750).bind fun y4755 =>
  (idx s4634.1 s4725.2.2).bind fun x4757 =>
  (idx (NL X) x4757).bind fun x4759 =>
  (idx (NLL A) x4759).bind fun x4761 =>
  (app s4725.2.1 ([x4761])).bind fun y4768 =>
  some (.nx (y4755, y4768, w64 (s4725.2.2 + 1))) else some (.br (s4725.1, s4725.2.1, s4725.2.2)))) FU ([w64 ((-1) - (j : Int))], [], 0)).bind fun o4729 => after o4729 (fun r_ => some (.rt r_)) (fun s4725 =>
  (bif (decide ((s4725.1.length : Int) ≤ 60)) then (zO (a.1, a.2) (j : Int) s4725.2.1 (k : Int)).bind fun r4786 =>
  (zR s4634.2.2 (NLL A) r4786 s4725.1).bind fun r4789 =>
  some r4789 else some s4634.2.2).bind fun s4780 =>
  (zM s4634.1 (w64 ((w64 (((NL X).length : Int) - 1)) + 1))).bind fun r4791 =>
  some (.nx (r4791.1, r4791.2, s4780))) else (zM s4634.1 (w64 ((w64 (((NL X).length : Int) - 1)) + 1))).bind fun r4794 =>
  some (.nx (r4794.1, r4794.2, s4634.2.2))) else some (.br (s4634.1, s4634.2.1, s4634.2.2)))) : (List Int) × Bool × (List (List Int)) → Option (Ctl ((List Int) × Bool × (List (List Int))) (List (List Int)))) (NL (dig X.length K m), true, out) = some (.nx (NL (dig X.length K (if m + 1 < X.length ^ K then m + 1 else 0)), decide (m + 1 < X.length ^ K), out1)) := by
      by_cases hin : X.length - 1 ∈ dig X.length K m
      · have hh : Zk (NL (dig X.length K m)) (w64 (((NL X).length : Int) - 1)) = some true := by rw [ew, VS (by simp; omega), decide_eq_true hin]
        obtain ⟨m', hm', eb, hor⟩ := build_ok (R := (List (List Int))) (A := A) (X := X) (cs := dig X.length K m) (op := j) (out := out) (fun x hx => (hX x hx).1) hI.tb.len hcs (by simp; omega) hI.tb.le60 K 0 FU (by simp) (by unfold FU; omega)
        have e0 : bdS j out A ((dig X.length K m).map (ga X)) 0 = ([w64 ((-1) - (j : Int))], [], 0) := by
          unfold bdS cpT
          rw [zT (by omega) (by omega)]; rfl
        rw [e0] at eb
        have keepall : (((dig X.length K m).map (ga X)).map (gI out)) = (((dig X.length K m).map (ga X)).map (gI out0)) := List.map_congr_left fun d hd => by
          obtain ⟨c, hc, rfl⟩ := List.mem_map.1 hd
          exact hI.keep _ (yE (hcs c hc))
        by_cases h60 : (cpT j (((dig X.length K m).map (ga X)).map (gI out0))).length ≤ 60
        · have em' : m' = K := by
            rcases hor with h | h
            · simpa using h
            · exfalso
              have := cpT_take j (((dig X.length K m).map (ga X)).map (gI out)) m'
              rw [← List.map_take, keepall] at this
              have h : 60 < (cpT j ((((dig X.length K m).map (ga X)).take m').map (gI out))).length := h
              omega
          subst em'
          obtain ⟨s1, s2, s3, s4⟩ := hI.step hX1 hX hall hj ho (cs := dig X.length m' m) (by simp) hcs hin h60
          have etk : ((dig X.length m' m).map (ga X)).take m' = (dig X.length m' m).map (ga X) := List.take_of_length_le (by simp)
          have ebd : bdS j out A ((dig X.length m' m).map (ga X)) m' = (cpT j (((dig X.length m' m).map (ga X)).map (gI out0)), NLL (((dig X.length m' m).map (ga X)).map (gl A)), (m' : Int)) := by
            unfold bdS
            rw [etk, keepall]
          rw [ebd] at eb
          refine ⟨_, ⟨s3.tb, s3.le, s3.keep, s3.up, fun j' hj' K' T' ho' cs h1 h2 h3 h4 h5 => ?_⟩, ?_⟩
          · by_cases hx : j' < j ∨ (j' = j ∧ ix X.length 0 cs < m)
            · exact s3.cl j' hj' K' T' ho' cs h1 h2 h3 h4 hx
            · have ej : j' = j := by omega
              have ei : ix X.length 0 cs = m := by omega
              subst ej
              obtain ⟨eK, eT⟩ := ho.uniq ho'
              subst eT
              have ed := hixm cs (by omega) h2 ei
              rw [← ed]
              exact s4
          · have happ := XB (ts := ((dig X.length m' m).map (ga X)).map (gl A)) ha hj ho (by simp) (fun t ht => by
              obtain ⟨d, hd, rfl⟩ := List.mem_map.1 ht
              obtain ⟨c, hc, rfl⟩ := List.mem_map.1 hd
              exact (htA _ (YM (hX _ (yE (hcs c hc))).1)).1) (fun t ht => by
              obtain ⟨d, hd, rfl⟩ := List.mem_map.1 ht
              obtain ⟨c, hc, rfl⟩ := List.mem_map.1 hd
              exact (htA _ (YM (hX _ (yE (hcs c hc))).1)).2) hk
            have hbt := Vg (k := k) (out := out) (t := cpT j (((dig X.length m' m).map (ga X)).map (gI out0))) hs hA3 hk (fun u hu => (htA u hu).1) s2 hI.tb.len h60
            simp only [cond_true, hh, Option.bind_some, eb, zD, show decide ((((cpT j (((dig X.length m' m).map (ga X)).map (gI out0))).length : Nat) : Int) ≤ 60) = true from decide_eq_true (by omega), happ, hbt, ew2, nxt]
        · refine ⟨out, ⟨hI.tb, hI.le, hI.keep, hI.up, fun j' hj' K' T' ho' cs h1 h2 h3 h4 h5 => ?_⟩, ?_⟩
          · by_cases hx : j' < j ∨ (j' = j ∧ ix X.length 0 cs < m)
            · exact hI.cl j' hj' K' T' ho' cs h1 h2 h3 h4 hx
            · exfalso
              have ej : j' = j := by omega
              have ei : ix X.length 0 cs = m := by omega
              subst ej
              obtain ⟨eK, eT⟩ := ho.uniq ho'
              have ed := hixm cs (by omega) h2 ei
              rw [ed] at h60
              omega
          · have hlong : decide ((((bdS j out A ((dig X.length K m).map (ga X)) m').1.length : Nat) : Int) ≤ 60) = false := by
              rw [decide_eq_false_iff_not]
              rcases hor with h | h
              · have e1 : (bdS j out A ((dig X.length K m).map (ga X)) m').1 = cpT j (((dig X.length K m).map (ga X)).map (gI out0)) := by
                  show cpT j _ = _
                  rw [h, List.take_of_length_le (by simp), keepall]
                rw [e1]; omega
              · omega
            simp only [cond_true, hh, Option.bind_some, eb, zD, hlong, cond_false, ew2, nxt]
      · have hh : Zk (NL (dig X.length K m)) (w64 (((NL X).length : Int) - 1)) = some false := by rw [ew, VS (by simp; omega), decide_eq_false hin]
        refine ⟨out, ⟨hI.tb, hI.le, hI.keep, hI.up, fun j' hj' K' T' ho' cs h1 h2 h3 h4 h5 => ?_⟩, ?_⟩
        · by_cases hx : j' < j ∨ (j' = j ∧ ix X.length 0 cs < m)
          · exact hI.cl j' hj' K' T' ho' cs h1 h2 h3 h4 hx
          · exfalso
            have ej : j' = j := by omega
            have ei : ix X.length 0 cs = m := by omega
            subst ej
            obtain ⟨eK, eT⟩ := ho.uniq ho'
            have ed := hixm cs (by omega) h2 ei
            rw [ed] at hin
            exact hin h3
        · simp only [cond_true, hh, Option.bind_some, cond_false, ew2, nxt]
    obtain ⟨out1, hI1, e1⟩ := round
    obtain ⟨z, out', e2, hI2⟩ := ih (m + 1) fu out1 (by omega) (by omega) hI1
    exact ⟨z, out', by rw [xM e1]; exact e2, hI2⟩

theorem ops_ok (ha : AlgN a N) (hs : Sorted A) (hA3 : A.length ≤ 300) (hall : ∀ v, Gen N a.2 k B v → v ∈ A) (htA : ∀ u ∈ A, TupN N k u) (hk : k ≤ 1000000) {X : List Nat} {out0 : List (List Int)} (hX1 : 1 ≤ X.length) (hXl : X.length ≤ 300) (hX : ∀ x ∈ X, x < A.length ∧ gI out0 x ≠ [] ∧ leT (gI out0 x) (gI out0 (ga X (X.length - 1))))
    (h0 : TB N a.2 k B A out0) (hup : ∀ i, i < A.length → i ∉ X → gI out0 i ≠ [] → leT (gI out0 (ga X (X.length - 1))) (gI out0 i)) :
    ∃ out', forC (S := (List (List Int))) (R := (List (List Int))) (fun k4304 s4302 =>
  (idx a.2 k4304).bind fun x4323 =>
  (idx a.2 k4304).bind fun x4326 =>
  (mks x4323.1 (0 : Int)).bind fun y4330 =>
  (iter (S := (List Int) × Bool × (List (List Int))) (R := (List (List Int))) (fun s4634 =>
  (bif s4634.2.1 then (Zk s4634.1 (w64 (((NL X).length : Int) - 1))).bind fun r4650 =>
  (bif r4650 then (iter (S := (List Int) × (List (List Int)) × Int) (R := (List (List Int))) (fun s4725 =>
  (bif ((decide (s4725.2.2 < (s4634.1.length : Int))) && (decide ((s4725.1.length : Int) ≤ 60))) then (idx s4634.1 s4725.2.2).bind fun x4746 =>
  (idx (NL X) x4746).bind fun x4748 =>
  (idx s4634.2.2 x4748).bind fun x4750 =>
  (app s4725.1 x4750).bind fun y4755 =>
  (idx s4634.1 s4725.2.2).bind fun x4757 =>
  (idx (NL X) x4757).bind fun x4759 =>
  (idx (NLL A) x4759).bind fun x4761 =>
  (app s4725.2.1 ([x4761])).bind fun y4768 =>
  some (.nx (y4755, y4768, w64 (s4725.2.2 + 1))) else some (.br (s4725.1, s4725.2.1, s4725.2.2)))) FU ([w64 ((-1) - k4304)], [], 0)).bind fun o4729 => after o4729 (fun r_ => some (.rt r_)) (fun s4725 =>
  (bif (decide ((s4725.1.length : Int) ≤ 60)) then (zO (a.1, a.2) k4304 s4725.2.1 (k : Int)).bind fun r4786 =>
  (zR s4634.2.2 (NLL A) r4786 s4725.1).bind fun r4789 =>
  some r4789 else some s4634.2.2).bind fun s4780 =>
  (zM s4634.1 (w64 ((w64 (((NL X).length : Int) - 1)) + 1))).bind fun r4791 =>
  some (.nx (r4791.1, r4791.2, s4780))) else (zM s4634.1 (w64 ((w64 (((NL X).length : Int) - 1)) + 1))).bind fun r4794 =>
  some (.nx (r4794.1, r4794.2, s4634.2.2))) else some (.br (s4634.1, s4634.2.1, s4634.2.2)))) FU (y4330, (decide (0 < x4326.1)), s4302)).bind fun o4638 => after o4638 (fun r_ => some (.rt r_)) (fun s4634 =>
  some (.nx s4634.2.2))) 0 (a.2.length : Int) out0 = some (.br out') ∧ QIv N k a.2 B A X (ga X (X.length - 1)) out0 (fun j' _ => j' < a.2.length) out' := by
  have hl4 := ha.l4
  have := Zo (S := (List (List Int))) (R := (List (List Int))) (step := (fun k4304 s4302 =>
  (idx a.2 k4304).bind fun x4323 =>
  (idx a.2 k4304).bind fun x4326 =>
  (mks x4323.1 (0 : Int)).bind fun y4330 =>
  (iter (S := (List Int) × Bool × (List (List Int))) (R := (List (List Int))) (fun s4634 =>
  (bif s4634.2.1 then (Zk s4634.1 (w64 (((NL X).length : Int) - 1))).bind fun r4650 =>
  (bif r4650 then (iter (S := (List Int) × (List (List Int)) × Int) (R := (List (List Int))) (fun s4725 =>
  (bif ((decide (s4725.2.2 < (s4634.1.length : Int))) && (decide ((s4725.1.length : Int) ≤ 60))) then (idx s4634.1 s4725.2.2).bind fun x4746 =>
  (idx (NL X) x4746).bind fun x4748 =>
  (idx s4634.2.2 x4748).bind fun x4750 =>
  (app s4725.1 x4750).bind fun y4755 =>
  (idx s4634.1 s4725.2.2).bind fun x4757 =>
  (idx (NL X) x4757).bind fun x4759 =>
  (idx (NLL A) x4759).bind fun x4761 =>
  (app s4725.2.1 ([x4761])).bind fun y4768 =>
  some (.nx (y4755, y4768, w64 (s4725.2.2 + 1))) else some (.br (s4725.1, s4725.2.1, s4725.2.2)))) FU ([w64 ((-1) - k4304)], [], 0)).bind fun o4729 => after o4729 (fun r_ => some (.rt r_)) (fun s4725 =>
  (bif (decide ((s4725.1.length : Int) ≤ 60)) then (zO (a.1, a.2) k4304 s4725.2.1 (k : Int)).bind fun r4786 =>
  (zR s4634.2.2 (NLL A) r4786 s4725.1).bind fun r4789 =>
  some r4789 else some s4634.2.2).bind fun s4780 =>
  (zM s4634.1 (w64 ((w64 (((NL X).length : Int) - 1)) + 1))).bind fun r4791 =>
  some (.nx (r4791.1, r4791.2, s4780))) else (zM s4634.1 (w64 ((w64 (((NL X).length : Int) - 1)) + 1))).bind fun r4794 =>
  some (.nx (r4794.1, r4794.2, s4634.2.2))) else some (.br (s4634.1, s4634.2.1, s4634.2.2)))) FU (y4330, (decide (0 < x4326.1)), s4302)).bind fun o4638 => after o4638 (fun r_ => some (.rt r_)) (fun s4634 =>
  some (.nx s4634.2.2)))) (n := a.2.length) (hi := (a.2.length : Int)) (s := out0)
    (fun j out => QIv N k a.2 B A X (ga X (X.length - 1)) out0 (fun j' _ => j' < j) out) (fun _ => False) (fun _ => False) rfl (by omega)
    ⟨h0, LeB.refl _, fun _ _ => rfl, hup, fun j hj K T ho cs _ _ _ _ h => by omega⟩ (by
      intro j out hj hI
      left
      obtain ⟨K, T, q1, q2, ho⟩ := WT ha hj
      have hK := ho.k3
      have hP := wt hXl hK
      simp only [q1, Option.bind_some]
      rw [xO rfl (by omega), Option.bind_some]
      by_cases hK0 : K = 0
      · subst hK0
        rw [show FU = (FU - 1) + 1 from rfl, yg (by rw [show decide ((0 : Int) < ((0 : Nat) : Int)) = false from rfl, cond_false]) (by intro s; simp), Option.bind_some, zD]
        refine ⟨_, rfl, hI.tb, hI.le, hI.keep, hI.up, fun j' hj' K' T' ho' cs h1 h2 h3 h4 h5 => ?_⟩
        by_cases ej : j' = j
        · subst ej
          obtain ⟨eK, eT⟩ := ho.uniq ho'
          rw [List.length_eq_zero_iff.1 (show cs.length = 0 by omega)] at h3
          cases h3
        · exact hI.cl j' hj' K' T' ho' cs h1 h2 h3 h4 (by omega)
      · have hpos : 0 < X.length ^ K := Nat.pow_pos (by omega)
        obtain ⟨z, out', e, hI'⟩ := inner_ok ha hs hA3 hall htA hk hX1 hXl hX hj ho (X.length ^ K) 0 FU out (by omega) (by unfold FU; omega) ⟨hI.tb, hI.le, hI.keep, hI.up, fun j' hj' K' T' ho' cs h1 h2 h3 h4 h5 => hI.cl j' hj' K' T' ho' cs h1 h2 h3 h4 (by omega)⟩
        rw [if_pos hpos, Wd, decide_eq_true hpos, show NL (List.replicate K 0) = List.replicate K (0 : Int) by simp [NL]] at e
        rw [show decide ((0 : Int) < (K : Int)) = true by simp; omega, e, Option.bind_some, zD]
        refine ⟨_, rfl, hI'.tb, hI'.le, hI'.keep, hI'.up, fun j' hj' K' T' ho' cs h1 h2 h3 h4 h5 => hI'.cl j' hj' K' T' ho' cs h1 h2 h3 h4 ?_⟩
        by_cases ej : j' = j
        · subst ej
          obtain ⟨eK, eT⟩ := ho.uniq ho'
          exact .inr ⟨rfl, Xn h2 (by omega)⟩
        · left; omega)
  rcases this with ⟨out', e, hI | h⟩ | ⟨_, _, h⟩
  · exact ⟨out', e, hI⟩
  · exact h.elim
  · exact h.elim

theorem pick_ok' (hA3 : A.length ≤ 300) {X : List Nat} {D : List Bool} {out : List (List Int)} (h : TB N a.2 k B A out) (hD : ∀ i, i < A.length → D[i]? = some (decide (i ∈ X))) :
    ∃ r : Int, forC (S := Int) (R := (List (List Int))) (fun k3295 s3293 =>
  ((idx D k3295).bind fun x3303 =>
  (bif (!x3303) then (idx out k3295).bind fun x3306 =>
  (bif (decide (0 < (x3306.length : Int))) then (bif (decide (s3293 < 0)) then some true else (idx out k3295).bind fun x3312 =>
  (idx out s3293).bind fun x3316 =>
  (ya x3312 x3316).bind fun r3321 =>
  some r3321) else some false) else some false)).bind fun s3299 =>
  (bif s3299 then some (.nx k3295) else some (.nx s3293))) 0 (out.length : Int) (-1) = some (.br r) ∧
      ((r = -1 ∧ ∀ i, i < A.length → i ∉ X → gI out i = []) ∨ (∃ p : Nat, r = (p : Int) ∧ p < A.length ∧ p ∉ X ∧ gI out p ≠ [] ∧ ∀ i, i < A.length → i ∉ X → gI out i ≠ [] → leT (gI out p) (gI out i))) := by
  have := Zo (S := Int) (R := (List (List Int))) (step := (fun k3295 s3293 =>
  ((idx D k3295).bind fun x3303 =>
  (bif (!x3303) then (idx out k3295).bind fun x3306 =>
  (bif (decide (0 < (x3306.length : Int))) then (bif (decide (s3293 < 0)) then some true else (idx out k3295).bind fun x3312 =>
  (idx out s3293).bind fun x3316 =>
  (ya x3312 x3316).bind fun r3321 =>
  some r3321) else some false) else some false)).bind fun s3299 =>
  (bif s3299 then some (.nx k3295) else some (.nx s3293)))) (n := A.length) (hi := (out.length : Int)) (s := (-1 : Int))
    (fun j r => (r = -1 ∧ ∀ i, i < j → i ∉ X → gI out i = []) ∨ (∃ p : Nat, r = (p : Int) ∧ p < j ∧ p ∉ X ∧ gI out p ≠ [] ∧ ∀ i, i < j → i ∉ X → gI out i ≠ [] → leT (gI out p) (gI out i)))
    (fun _ => False) (fun _ => False) (by rw [h.len]) (by omega) (.inl ⟨rfl, fun i hi => by omega⟩) (by
      intro j r hj hI
      left
      have hjo : j < out.length := by rw [h.len]; exact hj
      have e1 : idx D (j : Int) = some (decide (j ∈ X)) := by rw [ZC]; exact hD j hj
      have h60 := h.le60 j
      simp only [e1, Option.bind_some, xY hjo]
      by_cases hx : j ∈ X
      · rw [decide_eq_true hx, Bool.not_true, cond_false, Option.bind_some, cond_false]
        refine ⟨_, rfl, ?_⟩
        rcases hI with ⟨rfl, hI⟩ | ⟨p, rfl, h1, h2, h3, h4⟩
        · exact .inl ⟨rfl, fun i hi hix => hI i (by
            rcases Nat.lt_or_ge i j with h | h
            · exact h
            · exact absurd hx (by rw [show j = i by omega]; exact hix)) hix⟩
        · exact .inr ⟨p, rfl, by omega, h2, h3, fun i hi hix => h4 i (by
            rcases Nat.lt_or_ge i j with h | h
            · exact h
            · exact absurd hx (by rw [show j = i by omega]; exact hix)) hix⟩
      · rw [decide_eq_false hx, Bool.not_false, cond_true]
        by_cases hg : gI out j = []
        · rw [show decide (0 < ((gI out j).length : Int)) = false by rw [hg]; rfl, cond_false, Option.bind_some, cond_false]
          refine ⟨_, rfl, ?_⟩
          rcases hI with ⟨rfl, hI⟩ | ⟨p, rfl, h1, h2, h3, h4⟩
          · refine .inl ⟨rfl, fun i hi hix => ?_⟩
            by_cases e : i = j
            · rw [e]; exact hg
            · exact hI i (by omega) hix
          · refine .inr ⟨p, rfl, by omega, h2, h3, fun i hi hix hne => ?_⟩
            by_cases e : i = j
            · rw [e] at hne; exact absurd hg hne
            · exact h4 i (by omega) hix hne
        · have hpos : 0 < (gI out j).length := List.length_pos_iff.2 hg
          rw [show decide (0 < ((gI out j).length : Int)) = true by simp; omega, cond_true]
          rcases hI with ⟨rfl, hI⟩ | ⟨p, rfl, h1, h2, h3, h4⟩
          · refine ⟨(j : Int), rfl, .inr ⟨j, rfl, by omega, hx, hg, fun i hi hix hne => ?_⟩⟩
            by_cases e : i = j
            · rw [e]; exact yD _
            · exact absurd (hI i (by omega) hix) hne
          · have hpo : p < out.length := by rw [h.len]; omega
            rw [show decide (((p : Nat) : Int) < 0) = false by simp, cond_false]
            simp only [xY hpo, Option.bind_some]
            rw [Vm (by omega), Option.bind_some, Option.bind_some]
            cases hb : bef (gI out j) (gI out p) with
            | true =>
              refine ⟨(j : Int), rfl, .inr ⟨j, rfl, by omega, hx, hg, fun i hi hix hne => ?_⟩⟩
              by_cases e : i = j
              · rw [e]; exact yD _
              · exact Xz (.inr hb) (h4 i (by omega) hix hne)
            | false =>
              refine ⟨(p : Int), rfl, .inr ⟨p, rfl, by omega, h2, h3, fun i hi hix hne => ?_⟩⟩
              by_cases e : i = j
              · rw [e]; exact zbR hb
              · exact h4 i (by omega) hix hne)
  rcases this with ⟨r, e, hI | h⟩ | ⟨_, _, h⟩
  · exact ⟨r, e, hI⟩
  · exact h.elim
  · exact h.elim

/-- Between the rounds of the reference. -/
structure OIv (N k : Nat) (ops : List (Int × List Int)) (B A : List (List Nat)) (X : List Nat) (D : List Bool) (out : List (List Int)) : Prop where
  dl : D.length = A.length
  dx : ∀ i, i < A.length → D[i]? = some (decide (i ∈ X))
  nd : X.Nodup
  xl : ∀ x ∈ X, x < A.length
  tb : TB N ops k B A out
  gens : ∀ c, c < B.length → HasT A out (gl B c) [(c : Int)]
  mono : ∀ x ∈ X, gI out x ≠ [] ∧ ∀ i, i < A.length → i ∉ X → gI out i ≠ [] → leT (gI out x) (gI out i)
  cl : ∀ j (hj : j < ops.length) K T, OpN N ops[j] K T → ∀ ds : List Nat, ds.length = K → (∀ d ∈ ds, d ∈ X) → (cpT j (ds.map (gI out))).length ≤ 60 → HasT A out (apT N T (ds.map (gl A)) k) (cpT j (ds.map (gI out)))

theorem zbU {L M : List Nat} (h : L.Nodup) (hs : ∀ x ∈ L, x ∈ M) : L.length ≤ M.length := by
  induction L generalizing M with
  | nil => simp
  | cons x L ih =>
    rw [List.nodup_cons] at h
    have hx := hs x (by simp)
    have := ih (M := M.erase x) h.2 (fun y hy => by
      have hne : y ≠ x := fun e => h.1 (e ▸ hy)
      exact (List.mem_erase_of_ne hne).2 (hs y (by simp [hy])))
    rw [List.length_erase_of_mem hx] at this
    have : 0 < M.length := List.length_pos_of_mem hx
    simp; omega

theorem zbd {X : List Nat} {n : Nat} (h : X.Nodup) (hx : ∀ x ∈ X, x < n) : X.length ≤ n := by
  have := zbU h (M := List.range n) (fun x h' => List.mem_range.2 (hx x h'))
  simpa using this

theorem ga_last (X : List Nat) (p : Nat) : ga (X ++ [p]) ((X ++ [p]).length - 1) = p := by
  rw [ga_appr (by simp)]; simp [ga]

theorem round_ok (ha : AlgN a N) (hs : Sorted A) (hA3 : A.length ≤ 300) (hall : ∀ v, Gen N a.2 k B v → v ∈ A) (htA : ∀ u ∈ A, TupN N k u) (hk : k ≤ 1000000) {X : List Nat} {D : List Bool} {out0 : List (List Int)} (h : OIv N k a.2 B A X D out0) {p : Nat} (hp : p < A.length) (hpX : p ∉ X) (hp0 : gI out0 p ≠ []) (hle : ∀ i, i < A.length → i ∉ X → gI out0 i ≠ [] → leT (gI out0 p) (gI out0 i)) :
    ∃ out', forC (S := (List (List Int))) (R := (List (List Int))) (fun k4304 s4302 =>
  (idx a.2 k4304).bind fun x4323 =>
  (idx a.2 k4304).bind fun x4326 =>
  (mks x4323.1 (0 : Int)).bind fun y4330 =>
  (iter (S := (List Int) × Bool × (List (List Int))) (R := (List (List Int))) (fun s4634 =>
  (bif s4634.2.1 then (Zk s4634.1 (w64 (((NL (X ++ [p])).length : Int) - 1))).bind fun r4650 =>
  (bif r4650 then (iter (S := (List Int) × (List (List Int)) × Int) (R := (List (List Int))) (fun s4725 =>
  (bif ((decide (s4725.2.2 < (s4634.1.length : Int))) && (decide ((s4725.1.length : Int) ≤ 60))) then (idx s4634.1 s4725.2.2).bind fun x4746 =>
  (idx (NL (X ++ [p])) x4746).bind fun x4748 =>
  (idx s4634.2.2 x4748).bind fun x4750 =>
  (app s4725.1 x4750).bind fun y4755 =>
  (idx s4634.1 s4725.2.2).bind fun x4757 =>
  (idx (NL (X ++ [p])) x4757).bind fun x4759 =>
  (idx (NLL A) x4759).bind fun x4761 =>
  (app s4725.2.1 ([x4761])).bind fun y4768 =>
  some (.nx (y4755, y4768, w64 (s4725.2.2 + 1))) else some (.br (s4725.1, s4725.2.1, s4725.2.2)))) FU ([w64 ((-1) - k4304)], [], 0)).bind fun o4729 => after o4729 (fun r_ => some (.rt r_)) (fun s4725 =>
  (bif (decide ((s4725.1.length : Int) ≤ 60)) then (zO (a.1, a.2) k4304 s4725.2.1 (k : Int)).bind fun r4786 =>
  (zR s4634.2.2 (NLL A) r4786 s4725.1).bind fun r4789 =>
  some r4789 else some s4634.2.2).bind fun s4780 =>
  (zM s4634.1 (w64 ((w64 (((NL (X ++ [p])).length : Int) - 1)) + 1))).bind fun r4791 =>
  some (.nx (r4791.1, r4791.2, s4780))) else (zM s4634.1 (w64 ((w64 (((NL (X ++ [p])).length : Int) - 1)) + 1))).bind fun r4794 =>
  some (.nx (r4794.1, r4794.2, s4634.2.2))) else some (.br (s4634.1, s4634.2.1, s4634.2.2)))) FU (y4330, (decide (0 < x4326.1)), s4302)).bind fun o4638 => after o4638 (fun r_ => some (.rt r_)) (fun s4634 =>
  some (.nx s4634.2.2))) 0 (a.2.length : Int) out0 = some (.br out') ∧ OIv N k a.2 B A (X ++ [p]) (D.set p true) out' := by
  have hnd : (X ++ [p]).Nodup := by
    rw [List.nodup_append]
    exact ⟨h.nd, by simp, fun x hx y hy => by simp at hy; subst hy; exact fun e => hpX (e ▸ hx)⟩
  have hxl : ∀ x ∈ X ++ [p], x < A.length := fun x hx => by
    rcases List.mem_append.1 hx with hx | hx
    · exact h.xl x hx
    · simp at hx; omega
  have hlen := zbd hnd hxl
  have hX : ∀ x ∈ X ++ [p], x < A.length ∧ gI out0 x ≠ [] ∧ leT (gI out0 x) (gI out0 (ga (X ++ [p]) ((X ++ [p]).length - 1))) := fun x hx => by
    rw [ga_last]
    rcases List.mem_append.1 hx with hx' | hx'
    · exact ⟨hxl x hx, (h.mono x hx').1, (h.mono x hx').2 p hp hpX hp0⟩
    · simp at hx'; subst hx'; exact ⟨hp, hp0, yD _⟩
  obtain ⟨out', e, hI⟩ := ops_ok (X := X ++ [p]) ha hs hA3 hall htA hk (by simp) (by omega) hX h.tb (fun i hi hix hne => by
    rw [ga_last]; exact hle i hi (fun hx => hix (List.mem_append_left _ hx)) hne)
  have hkm : ∀ ds : List Nat, (∀ d ∈ ds, d ∈ X ++ [p]) → ds.map (gI out') = ds.map (gI out0) := fun ds hd => List.map_congr_left fun d hd' => hI.keep d (hd d hd')
  refine ⟨out', e, by simp [h.dl], fun i hi => ?_, hnd, hxl, hI.tb, fun c hc => (h.gens c hc).mono hI.le (yD _), fun x hx => ?_, fun j hj K T ho ds h1 h2 h3 => ?_⟩
  · rw [List.getElem?_set]
    by_cases e : p = i
    · subst e
      rw [if_pos rfl, if_pos (by rw [h.dl]; exact hp)]; simp
    · rw [if_neg e, h.dx i hi]
      congr 1
      rw [decide_eq_decide]
      constructor
      · intro h; exact List.mem_append_left _ h
      · intro h
        rcases List.mem_append.1 h with h | h
        · exact h
        · simp at h; exact absurd h.symm e
  · obtain ⟨x1, x2, x3⟩ := hX x hx
    rw [hI.keep x hx]
    refine ⟨x2, fun i hi hix hne => Xz x3 (hI.up i hi hix hne)⟩
  · rw [hkm ds h2] at h3 ⊢
    by_cases hpd : p ∈ ds
    · have hidx : ∀ d ∈ ds, (X ++ [p]).idxOf d < (X ++ [p]).length := fun d hd => List.idxOf_lt_length_of_mem (h2 d hd)
      have eds : (ds.map (fun d => (X ++ [p]).idxOf d)).map (ga (X ++ [p])) = ds := by
        rw [List.map_map]
        conv => rhs; rw [← List.map_id ds]
        refine List.map_congr_left fun d hd => ?_
        show ga (X ++ [p]) ((X ++ [p]).idxOf d) = d
        rw [xD (hidx d hd)]; exact List.getElem_idxOf (hidx d hd)
      have hin : (X ++ [p]).length - 1 ∈ ds.map (fun d => (X ++ [p]).idxOf d) := by
        refine List.mem_map.2 ⟨p, hpd, ?_⟩
        rw [List.idxOf_append, if_neg hpX]; simp
      have := hI.cl j hj K T ho (ds.map fun d => (X ++ [p]).idxOf d) (by simpa using h1) (fun c hc => by
        obtain ⟨d, hd, rfl⟩ := List.mem_map.1 hc
        exact hidx d hd) hin (by rw [eds]; exact h3) hj
      rwa [eds] at this
    · exact (h.cl j hj K T ho ds h1 (fun d hd => by
        rcases List.mem_append.1 (h2 d hd) with h' | h'
        · exact h'
        · simp at h'; subst h'; exact absurd hd hpd) h3).mono hI.le (yD _)

theorem OIv.fin (hall : ∀ v, Gen N a.2 k B v → v ∈ A) {X : List Nat} {D : List Bool} {out : List (List Int)} (h : OIv N k a.2 B A X D out) (he : ∀ i, i < A.length → i ∉ X → gI out i = []) : FinT N a.2 k B A out :=
  cov_up hall h.gens (fun j hj K T ho ds h1 h2 h3 => h.cl j hj K T ho ds h1 (fun d hd => by
    by_cases hx : d ∈ X
    · exact hx
    · exact absurd (he d (h2 d hd).1 hx) (h2 d hd).2) h3)

theorem zbv (ha : AlgN a N) (hs : Sorted A) (hA3 : A.length ≤ 300) (hall : ∀ v, Gen N a.2 k B v → v ∈ A) (htA : ∀ u ∈ A, TupN N k u) (hk : k ≤ 1000000) (hBl : B.length ≤ 1000) :
    ∃ out, YQ (a.1, a.2) (k : Int) (NLL B) (NLL A) = some out ∧ TB N a.2 k B A out ∧ FinT N a.2 k B A out := by
  have hl4 := ha.l4
  have huA : ∀ u ∈ A, u.length = k := fun u hu => (htA u hu).1
  unfold YQ
  rw [xO (show ((NLL A).length : Int) = (A.length : Int) by simp) (by omega), Option.bind_some, xO (show ((NLL A).length : Int) = (A.length : Int) by simp) (by omega), Option.bind_some]
  have init := Zo (S := (List (List Int))) (R := (List (List Int))) (step := fun k122 s120 =>
  (idx (NLL B) k122).bind fun x128 =>
  (zX (NLL A) x128).bind fun r133 =>
  (idx s120 r133.1).bind fun x134 =>
  (bif ((x134.length : Int) == 0) then (idx s120 r133.1).bind fun x141 =>
  some (.nx (List.set s120 (Int.toNat r133.1) ([k122]))) else some (.nx s120))) (n := B.length) (hi := ((NLL B).length : Int)) (s := List.replicate A.length ([] : List Int))
    (fun j s => GnI N k a.2 B A j s) (fun _ => False) (fun _ => False) (by simp) (by omega) (GnI.start _) (by
      intro j s hj hI
      left
      have hm : gl B j ∈ A := hall _ (.base (YM hj))
      have hlt : A.idxOf (gl B j) < s.length := by rw [hI.tb.len]; exact List.idxOf_lt_length_of_mem hm
      obtain ⟨s1, s2⟩ := hI.step hj hm
      simp only [YZ hj, Option.bind_some, vF hs hA3 hk huA hm, xY hlt, Int.toNat_natCast]
      by_cases e : gI s (A.idxOf (gl B j)) = []
      · rw [e]
        exact ⟨_, rfl, s1 e⟩
      · have : (((gI s (A.idxOf (gl B j))).length : Int) == 0) = false := by
          rw [show (0 : Int) = ((0 : Nat) : Int) from rfl, XM]
          simpa using e
        rw [this, cond_false]
        exact ⟨_, rfl, s2 e⟩)
  rcases init with ⟨o1, e1, hG | h⟩ | ⟨_, _, h⟩
  rotate_left
  · exact h.elim
  · exact h.elim
  rw [e1, Option.bind_some, zD]
  have consts := Zo (S := (List (List Int))) (R := (List (List Int))) (step := fun k173 s171 =>
  (idx a.2 k173).bind fun x179 =>
  (bif (x179.1 == 0) then (zO (a.1, a.2) k173 ([]) (k : Int)).bind fun r186 =>
  (zR s171 (NLL A) r186 ([w64 ((-1) - k173)])).bind fun r191 =>
  some (.nx r191) else some (.nx s171))) (n := a.2.length) (hi := (a.2.length : Int)) (s := o1)
    (fun j s => TB N a.2 k B A s ∧ (∀ c, c < B.length → HasT A s (gl B c) [(c : Int)]) ∧ ∀ j' (h : j' < a.2.length), j' < j → ∀ T, OpN N a.2[j'] 0 T → HasT A s (apT N T [] k) (cpT j' []))
    (fun _ => False) (fun _ => False) rfl (by omega) ⟨hG.tb, hG.gens, fun j' _ h => by omega⟩ (by
      rintro j s hj ⟨h1, h2, h3⟩
      left
      obtain ⟨K, T, q1, q2, ho⟩ := WT ha hj
      rw [q1, Option.bind_some]
      by_cases hK0 : K = 0
      · subst hK0
        have ea := XB (ts := []) ha hj ho rfl (fun t ht => by cases ht) (fun t ht => by cases ht) hk
        rw [show NLL [] = [] from rfl] at ea
        have hv : apT N T [] k ∈ A := hall _ (.app (List.getElem_mem hj) ho rfl (fun t ht => by cases ht))
        have ew : [w64 ((-1) - (j : Int))] = cpT j [] := by rw [zT (by omega) (by omega)]; rfl
        rw [show ((((0 : Nat) : Int), NL T).1 == 0) = true from rfl, cond_true, ea, Option.bind_some, ew, Vg hs hA3 hk huA hv h1.len (by simp [cpT]), Option.bind_some]
        obtain ⟨b1, b2, b3⟩ := zaa h1 hv (TmV.app (ps := []) hj ho rfl (fun p hp => by cases hp)) (by simp [cpT])
        refine ⟨_, rfl, b1, fun c hc => (h2 c hc).mono b2 (yD _), fun j' h' hj' T' ho' => ?_⟩
        by_cases ej : j' = j
        · subst ej
          obtain ⟨_, eT⟩ := ho.uniq ho'
          subst eT
          exact b3
        · exact (h3 j' h' (by omega) T' ho').mono b2 (yD _)
      · rw [show (((K : Int), NL T).1 == 0) = false by simp; omega, cond_false]
        refine ⟨_, rfl, h1, h2, fun j' h' hj' T' ho' => ?_⟩
        by_cases ej : j' = j
        · subst ej
          exact absurd (ho.uniq ho').1.symm hK0
        · exact h3 j' h' (by omega) T' ho')
  rcases consts with ⟨o2, e2, ⟨h1, h2, h3⟩ | h⟩ | ⟨_, _, h⟩
  rotate_left
  · exact h.elim
  · exact h.elim
  rw [e2, Option.bind_some, zD]
  obtain ⟨c, hc, ⟨out, rfl, r1, r2⟩, _⟩ := Yh (S := (List Int) × (List (List Int)) × (List Bool)) (R := (List (List Int))) (step := (fun s3253 =>
  (forC (S := Int) (R := (List (List Int))) (fun k3295 s3293 =>
  ((idx s3253.2.2 k3295).bind fun x3303 =>
  (bif (!x3303) then (idx s3253.2.1 k3295).bind fun x3306 =>
  (bif (decide (0 < (x3306.length : Int))) then (bif (decide (s3293 < 0)) then some true else (idx s3253.2.1 k3295).bind fun x3312 =>
  (idx s3253.2.1 s3293).bind fun x3316 =>
  (ya x3312 x3316).bind fun r3321 =>
  some r3321) else some false) else some false)).bind fun s3299 =>
  (bif s3299 then some (.nx k3295) else some (.nx s3293))) 0 (s3253.2.1.length : Int) (-1)).bind fun o3297 => after o3297 (fun r_ => some (.rt r_)) (fun s3293 =>
  (bif (decide (s3293 < 0)) then some (.rt s3253.2.1) else (idx s3253.2.2 s3293).bind fun x3324 =>
  (app s3253.1 ([s3293])).bind fun y3330 =>
  (forC (S := (List (List Int))) (R := (List (List Int))) (fun k4304 s4302 =>
  (idx a.2 k4304).bind fun x4323 =>
  (idx a.2 k4304).bind fun x4326 =>
  (mks x4323.1 (0 : Int)).bind fun y4330 =>
  (iter (S := (List Int) × Bool × (List (List Int))) (R := (List (List Int))) (fun s4634 =>
  (bif s4634.2.1 then (Zk s4634.1 (w64 ((y3330.length : Int) - 1))).bind fun r4650 =>
  (bif r4650 then (iter (S := (List Int) × (List (List Int)) × Int) (R := (List (List Int))) (fun s4725 =>
  (bif ((decide (s4725.2.2 < (s4634.1.length : Int))) && (decide ((s4725.1.length : Int) ≤ 60))) then (idx s4634.1 s4725.2.2).bind fun x4746 =>
  (idx y3330 x4746).bind fun x4748 =>
  (idx s4634.2.2 x4748).bind fun x4750 =>
  (app s4725.1 x4750).bind fun y4755 =>
  (idx s4634.1 s4725.2.2).bind fun x4757 =>
  (idx y3330 x4757).bind fun x4759 =>
  (idx (NLL A) x4759).bind fun x4761 =>
  (app s4725.2.1 ([x4761])).bind fun y4768 =>
  some (.nx (y4755, y4768, w64 (s4725.2.2 + 1))) else some (.br (s4725.1, s4725.2.1, s4725.2.2)))) FU ([w64 ((-1) - k4304)], [], 0)).bind fun o4729 => after o4729 (fun r_ => some (.rt r_)) (fun s4725 =>
  (bif (decide ((s4725.1.length : Int) ≤ 60)) then (zO (a.1, a.2) k4304 s4725.2.1 (k : Int)).bind fun r4786 =>
  (zR s4634.2.2 (NLL A) r4786 s4725.1).bind fun r4789 =>
  some r4789 else some s4634.2.2).bind fun s4780 =>
  (zM s4634.1 (w64 ((w64 ((y3330.length : Int) - 1)) + 1))).bind fun r4791 =>
  some (.nx (r4791.1, r4791.2, s4780))) else (zM s4634.1 (w64 ((w64 ((y3330.length : Int) - 1)) + 1))).bind fun r4794 =>
  some (.nx (r4794.1, r4794.2, s4634.2.2))) else some (.br (s4634.1, s4634.2.1, s4634.2.2)))) FU (y4330, (decide (0 < x4326.1)), s4302)).bind fun o4638 => after o4638 (fun r_ => some (.rt r_)) (fun s4634 =>
  some (.nx s4634.2.2))) 0 (a.2.length : Int) s3253.2.1).bind fun o4306 => after o4306 (fun r_ => some (.rt r_)) (fun s4302 =>
  some (.nx (y3330, s4302, List.set s3253.2.2 (Int.toNat s3293) true)))))))
    (fun s => ∃ X D out, s = (NL X, out, D) ∧ OIv N k a.2 B A X D out)
    (fun s => 1000 - s.1.length)
    (fun c => ∃ out, c = .rt out ∧ TB N a.2 k B A out ∧ FinT N a.2 k B A out)
    FU ([], o2, List.replicate A.length false) ⟨[], _, _, rfl, by simp, fun i hi => by simp [List.getElem?_replicate, hi], List.nodup_nil, (fun x hx => by cases hx), h1, h2, (fun x hx => by cases hx), fun j hj K T ho ds hds hd _ => by
      cases ds with
      | nil =>
        subst hds
        exact h3 j hj hj T ho
      | cons d ds => exact absurd (hd d (by simp)) (by simp)⟩ (by simp [FU]) (by
      rintro s ⟨X, D, out, rfl, hI⟩
      obtain ⟨r, er, hr⟩ := pick_ok' hA3 hI.tb hI.dx
      rcases hr with ⟨rfl, hr⟩ | ⟨p, rfl, p1, p2, p3, p4⟩
      · right
        refine ⟨.rt out, ?_, by intro s; simp, out, rfl, hI.tb, hI.fin hall hr⟩
        show ((forC _ 0 (out.length : Int) (-1)).bind _) = _
        rw [er]; rfl
      · left
        have hXn := zbd hI.nd hI.xl
        obtain ⟨out', e3, hI'⟩ := round_ok ha hs hA3 hall htA hk hI p1 p2 p3 p4
        refine ⟨(NL (X ++ [p]), out', D.set p true), ?_, ⟨X ++ [p], _, out', rfl, hI'⟩, by simp; omega⟩
        show ((forC _ 0 (out.length : Int) (-1)).bind _) = _
        rw [er, Option.bind_some, zD, show decide (((p : Nat) : Int) < 0) = false by simp, cond_false]
        have ed : idx D (p : Int) = some (decide (p ∈ X)) := by rw [ZC]; exact hI.dx p p1
        have ex : app (NL X) [(p : Int)] = some (NL (X ++ [p])) := by rw [yv (by simp; omega)]; simp [NL]
        show ((idx D (p : Int)).bind _) = _
        rw [ed, Option.bind_some]
        show ((app (NL X) [(p : Int)]).bind _) = _
        rw [ex, Option.bind_some, e3]; rfl)
  rw [hc]
  exact ⟨out, rfl, r1, r2⟩

end

set_option linter.unusedVariables false

def wT (out : List (List Int)) : Bool := out.all fun r => !r.isEmpty

theorem vT {out : List (List Int)} : wT out = true ↔ ∀ i, i < out.length → gI out i ≠ [] := by
  unfold wT
  rw [List.all_eq_true]
  constructor
  · intro h i hi e
    have := h _ (List.getElem_mem hi)
    rw [← wQ hi, e] at this; cases this
  · intro h x hx
    obtain ⟨i, hi, rfl⟩ := List.mem_iff_getElem.1 hx
    have := h i hi
    rw [wQ hi] at this
    simpa using this

theorem zbo {out : List (List Int)} (hl : out.length ≤ 1000000) (h60 : ∀ i, (gI out i).length ≤ 60) : ∀ (n j fu : Nat), j + n = out.length → n < fu → (∀ i, i < j → gI out i ≠ []) →
    iter (S := Int × (List (List Int))) (R := (List (List Int)) × Bool) (fun s101 =>
  (bif (decide (s101.1 < (s101.2.length : Int))) then (idx s101.2 s101.1).bind fun x110 =>
  (bif ((x110.length : Int) == 0) then some (.rt ([], false)) else (idx s101.2 s101.1).bind fun x117 =>
  (yO x117).bind fun r122 =>
  (idx s101.2 s101.1).bind fun x124 =>
  some (.nx (w64 (s101.1 + 1), List.set s101.2 (Int.toNat s101.1) r122))) else some (.br (s101.1, s101.2)))) fu ((j : Int), out) = some (if wT out = true then .br ((out.length : Int), out) else .rt ([], false))
  | 0, j, fu + 1, hj, _, hp => by
    have e : j = out.length := by omega
    subst e
    rw [if_pos (vT.2 hp)]
    exact yg (by simp only [yy, Nat.lt_irrefl, decide_false, cond_false]) (by intro s; simp)
  | n + 1, j, fu + 1, hj, hf, hp => by
    have hjl : j < out.length := by omega
    by_cases e : gI out j = []
    · rw [if_neg (fun h => vT.1 h j hjl e)]
      refine yg ?_ (by intro s; simp)
      simp only [yy, decide_eq_true hjl, cond_true, xY hjl, Option.bind_some, e]
      rfl
    · have hz : (((gI out j).length : Int) == 0) = false := by
        rw [show (0 : Int) = ((0 : Nat) : Int) from rfl, XM]; simpa using e
      have h6 := h60 j
      rw [xM (s' := (((j + 1 : Nat) : Int), out)) (by
        simp only [yy, decide_eq_true hjl, cond_true, xY hjl, Option.bind_some, hz, cond_false]
        rw [vh (by omega), Option.bind_some, yY (by omega), Int.toNat_natCast, wQ hjl, List.set_getElem_self])]
      exact zbo hl h60 n (j + 1) fu (by omega) (by omega) (fun i hi => by
        by_cases ei : i = j
        · rw [ei]; exact e
        · exact hp i (by omega))

section
variable {N k : Nat} {a : Int × List (Int × List Int)} {B A : List (List Nat)}

theorem Vi (ha : AlgN a N) (hg : Za (a.1, a.2) = some true) (hB : ∀ t ∈ B, TupN N k t) (hBl : B.length ≤ 20) (hk1 : 1 ≤ k) (hk : k ≤ 64) : Yl (a.1, a.2) (k : Int) (NLL B) = some true := by
  have h8 := ha.n8
  unfold Yl
  rw [hg, Option.bind_some, cond_true, show decide (((NLL B).length : Int) ≤ 20) = true by simp; omega, cond_true, ha.eN, zbc (by omega) (by omega) _ _ (NLL_B2 (by omega) (fun u hu => by rw [(hB u hu).1]; omega)), Option.bind_some, tupB_of hB, Bool.true_and]
  rw [show decide ((1 : Int) ≤ (k : Int)) = true by simp; omega, show decide ((k : Int) ≤ 64) = true by simp; omega]; rfl

theorem specTF_ok (ha : AlgN a N) (hG : Yl (a.1, a.2) (k : Int) (NLL B) = some true) (hBl : B.length ≤ 6) (hk : k ≤ 64) (hc : Zc (a.1, a.2) (k : Int) (NLL B) = some (NLL A, true)) (hs : Sorted A) (hA3 : A.length ≤ 300) (hall : ∀ v, Gen N a.2 k B v → v ∈ A) (htA : ∀ u ∈ A, TupN N k u) :
    ∃ out, yI (a.1, a.2) (k : Int) (NLL B) = some (if wT out = true then (out, true) else ([], false)) ∧ TB N a.2 k B A out ∧ FinT N a.2 k B A out := by
  obtain ⟨out, e, h1, h2⟩ := zbv (B := B) ha hs hA3 hall htA (by omega) (by omega)
  refine ⟨out, ?_, h1, h2⟩
  unfold yI
  have hlo := h1.len
  rw [hG]
  simp only [Option.bind_some, Bool.not_true, cond_false, show decide (6 < ((NLL B).length : Int)) = false by simp; omega, hc, e]
  have := zbo (out := out) (by omega) h1.le60 out.length 0 FU (by omega) (by unfold FU; omega) (fun i hi => by omega)
  rw [show ((0 : Nat) : Int) = 0 from rfl] at this
  rw [this]
  by_cases h : wT out = true
  · rw [if_pos h, if_pos h]; rfl
  · rw [if_neg h, if_neg h]; rfl

theorem specTF_no {L : List (List Int)} (hG : Yl (a.1, a.2) (k : Int) (NLL B) = some true) (hBl : B.length ≤ 6) (hc : Zc (a.1, a.2) (k : Int) (NLL B) = some (L, false)) : yI (a.1, a.2) (k : Int) (NLL B) = some ([], false) := by
  unfold yI
  rw [hG]
  simp only [Option.bind_some, Bool.not_true, cond_false, show decide (6 < ((NLL B).length : Int)) = false by simp; omega, hc]
  rfl

theorem Vn {ops : List (Int × List Int)} {out : List (List Int)} (h : TB N ops k B A out) (nd : A.Nodup) : A.map (fun v => gI out (A.idxOf v)) = out := by
  refine List.ext_getElem (by rw [List.length_map, h.len]) (fun i h1 h2 => ?_)
  rw [List.getElem_map, nd.idxOf_getElem, wQ h2]

theorem sorted_nd {L : List (List Nat)} (h : Sorted L) : L.Nodup := xI yP h

end

set_option linter.unusedVariables false

section
variable {N k : Nat} {a : Int × List (Int × List Int)} {A : List (List Nat)} {M : MI}
theorem VD (ha : AlgN a N) (hk : k ≤ 3) (h64 : N ^ k ≤ 64) (hF : FrI N k a.2 A M) (hr : zY (a.1, a.2) (k : Int) = some true) (hg : Za (a.1, a.2) = some true) (hc : Zc (a.1, a.2) ((N ^ k : Nat) : Int) (NLL (genL N k)) = some (NLL A, true)) :
    ∃ out, yJ (a.1, a.2) (k : Int) = some (if wT out = true then (out, true) else ([], false)) ∧ yX ((k : Int), NLL (genL N k)) (a.1, a.2, ((N ^ k : Nat) : Int), NLL A, M) = some (if wT out = true then (out, true) else ([], false)) ∧ TB N a.2 (N ^ k) (genL N k) A out ∧ FinT N a.2 (N ^ k) (genL N k) A out := by
  have h1 := ha.n1
  have hB := vz (N := N) (k := k) h1
  have hBl := Xl N k
  have hp1 : 1 ≤ N ^ k := Nat.pow_pos (by omega)
  have hle := hF.len
  have hall : ∀ v, Gen N a.2 (N ^ k) (genL N k) v → v ∈ A := fun v h => (hF.mem v).2 h
  have hgen : ∀ v ∈ A, Gen N a.2 (N ^ k) (genL N k) v := fun v h => (hF.mem v).1 h
  have htA := hF.tup ha
  have hG := Vi ha hg hB (by omega) hp1 h64
  obtain ⟨out, e1, t1, f1⟩ := specTF_ok ha hG (by omega) h64 hc hF.srt hF.len hall htA
  obtain ⟨best, e2, t2, f2⟩ := uP ha hF.key hF.len hall hgen hB (by omega) (by omega)
  have nd := sorted_nd hF.srt
  have eo : best = out := by
    rw [← Vn t1 nd, ← Vn t2 nd]
    exact List.map_congr_left fun v hv => fin_same t2 t1 f2 f1 hv hv
  subst eo
  refine ⟨best, ?_, ?_, t1, f1⟩
  · have epw : Zb a.1 (k : Int) = some ((N ^ k : Nat) : Int) := Xf ha.eN rfl h1 (by omega) (by omega)
    unfold yJ
    rw [hr]
    simp only [Option.bind_some, Bool.not_true, cond_false, epw, wx ha hk, e1]
  · unfold yX
    simp only [e2, Option.bind_some]
    rw [uq (fun r => !List.isEmpty r) (([] : List (List Int)), false) () 0 best (fun i x hx => by cases List.isEmpty x <;> rfl)]
    unfold wT
    cases best.all fun r => !r.isEmpty <;> rfl

end

theorem terms_no {a : Int × List (Int × List Int)} {k : Int} (h : zY (a.1, a.2) k = some false ∨ ∃ (N kk : Nat) (A : List (List Nat)), AlgN a N ∧ k = (kk : Int) ∧ kk ≤ 3 ∧ N ^ kk ≤ 64 ∧ zY (a.1, a.2) k = some true ∧ Zc (a.1, a.2) ((N ^ kk : Nat) : Int) (NLL (genL N kk)) = some (NLL A, false) ∧ Za (a.1, a.2) = some true) : yJ (a.1, a.2) k = some ([], false) := by
  unfold yJ
  rcases h with h | ⟨N, kk, A, hN, rfl, hk, h64, hr, hc, hg⟩
  · rw [h]; rfl
  · have h1 := hN.n1
    have hp1 : 1 ≤ N ^ kk := Nat.pow_pos (by omega)
    have epw : Zb a.1 (kk : Int) = some ((N ^ kk : Nat) : Int) := Xf hN.eN rfl h1 (by omega) (by omega)
    have hBl := Xl N kk
    have hG := Vi hN hg (vz (N := N) (k := kk) h1) (by omega) hp1 h64
    rw [hr]
    simp only [Option.bind_some, Bool.not_true, cond_false, epw, wx hN hk, specTF_no hG (by omega) hc]

set_option linter.unusedVariables false

theorem Ut {ops : List (Int × List Int)} (i : Nat) : (ops[i]?.getD (0, [])).1 = (ops.map (·.1))[i]?.getD 0 := by
  rw [List.getElem?_map]
  cases ops[i]? <;> rfl

theorem arO_same {ops ops' : List (Int × List Int)} (h : ops.map (·.1) = ops'.map (·.1)) (x : Int) : arO ops x = arO ops' x := by
  unfold arO; rw [Ut, Ut, h]

theorem VQ {ops ops' : List (Int × List Int)} (h : ops.map (·.1) = ops'.map (·.1)) : ∀ (t : List Int) (n : Nat), okT ops n t = okT ops' n t
  | [], 0 => rfl
  | _ :: _, 0 => rfl
  | [], _ + 1 => rfl
  | x :: t, n + 1 => by
    have hl : ops.length = ops'.length := by have := congrArg List.length h; simpa using this
    unfold okT
    rw [arO_same h, hl, VQ h t n, VQ h t (n + arO ops' x)]

section
variable {N k : Nat} {a : Int × List (Int × List Int)} {B A : List (List Nat)} {M : MI}

theorem TmV.ok (ha : AlgN a N) (hB : B.length ≤ 6) {s : List Int} {v : List Nat} (h : TmV N a.2 k B s v) : (∀ (n : Nat) (rest : List Int), okT a.2 (n + 1) (s ++ rest) = okT a.2 n rest) ∧ ∀ x ∈ s, 0 ≤ x → x.toNat < B.length := by
  have hl4 := ha.l4
  induction h with
  | @var c hc =>
    refine ⟨fun n rest => ?_, fun x hx _ => ?_⟩
    · show okT a.2 (n + 1) ((c : Int) :: rest) = _
      conv => lhs; unfold okT
      rw [if_pos (by omega), decide_eq_true (by omega), Bool.true_and]
    · simp at hx; subst hx; simpa using hc
  | @app j hj K T ps ho hl hps ih =>
    have key : ∀ (qs : List (List Int × List Nat)), (∀ q ∈ qs, q ∈ ps) → ∀ (m : Nat) (rest : List Int), okT a.2 (m + qs.length) ((qs.map (·.1)).flatten ++ rest) = okT a.2 m rest := by
      intro qs
      induction qs with
      | nil => intro _ m rest; rfl
      | cons q qs ih2 =>
        intro hq m rest
        rw [List.map_cons, List.flatten_cons, List.append_assoc, List.length_cons, ← Nat.add_assoc, (ih q (hq q (by simp))).1]
        exact ih2 (fun y hy => hq y (by simp [hy])) m rest
    have eK : arO a.2 (-1 - (j : Int)) = K := by
      obtain ⟨j', hj', _, ex, ho', _⟩ := UI ha (x := -1 - (j : Int)) (by omega) (by omega)
      have : j' = j := by omega
      subst this
      exact (ho.uniq ho').1
    refine ⟨fun n rest => ?_, fun x hx h0 => ?_⟩
    · unfold cpT
      rw [List.cons_append]
      conv => lhs; unfold okT
      rw [if_neg (by omega), decide_eq_true (by omega), Bool.true_and, eK, ← hl]
      exact key ps (fun q hq => hq) n rest
    · unfold cpT at hx
      rcases List.mem_cons.1 hx with rfl | hx
      · omega
      · obtain ⟨l, hl', hxl⟩ := List.mem_flatten.1 hx
        obtain ⟨q, hq, rfl⟩ := List.mem_map.1 hl'
        exact (ih q hq).2 x hxl h0

theorem US (n : Nat) : ∀ (l : List Nat) (s : Nat), ix n s l = s * n ^ l.length + ix n 0 l
  | [], s => by simp [ix]
  | x :: l, s => by
    show ix n (s * n + x) l = s * n ^ (l.length + 1) + ix n (0 * n + x) l
    rw [US n l (s * n + x), US n l (0 * n + x), Nat.add_mul, Nat.zero_mul, Nat.zero_add, Nat.pow_succ, Nat.mul_assoc, Nat.mul_comm n, Nat.add_assoc]

/-- All values pass. -/
def Ur (N nb k S : Nat) (ops ops' : List (Int × List Int)) (A : List (List Nat)) (vs im : List Nat) : Prop :=
  (∀ c, c < k → ga vs (A.idxOf (genR N k c)) = ga im c) ∧ ∀ j K T T', OpN N (ops[j]?.getD (0, [])) K T → OpN nb (ops'[j]?.getD (0, [])) K T' → j < ops.length → ∀ i, i < A.length ^ K → ga vs (A.idxOf (apT N T ((dig A.length K i).map (gl A)) S)) = ga T' (ix nb 0 ((dig A.length K i).map (ga vs)))

def vals (nb : Nat) (ops' : List (Int × List Int)) (im : List Nat) (out : List (List Int)) : List Nat := out.map fun t => ga (evN nb ops' im t) 0

/-- What both sides are given. -/
structure MpI (N nb k : Nat) (a b : Int × List (Int × List Int)) (A : List (List Nat)) (M : MI) (out : List (List Int)) (im : List Nat) : Prop where
  ha : AlgN a N
  hb : AlgN b nb
  k3 : k ≤ 3
  s64 : N ^ k ≤ 64
  fr : FrI N k a.2 A M
  ty : a.2.map (·.1) = b.2.map (·.1)
  ol : out.length = A.length
  ok : ∀ t ∈ out, okT b.2 1 t = true ∧ t.length ≤ 60 ∧ ∀ x ∈ t, 0 ≤ x → x.toNat < k
  il : im.length = k
  ib : ∀ v ∈ im, v < nb

variable {nb : Nat} {b : Int × List (Int × List Int)} {out : List (List Int)} {im : List Nat}

theorem MpI.pair (h : MpI N nb k a b A M out im) {j : Nat} (hj : j < a.2.length) : ∃ (K : Nat) (T T' : List Nat), idx a.2 (j : Int) = some ((K : Int), NL T) ∧ idx b.2 (j : Int) = some ((K : Int), NL T') ∧ OpN N (a.2[j]?.getD (0, [])) K T ∧ OpN nb (b.2[j]?.getD (0, [])) K T' ∧ OpN N a.2[j] K T ∧ (∃ hj' : j < b.2.length, OpN nb b.2[j] K T') := by
  have hl : a.2.length = b.2.length := by have := congrArg List.length h.ty; simpa using this
  have hj' : j < b.2.length := by omega
  obtain ⟨K, T, q1, q2, ho⟩ := WT h.ha hj
  obtain ⟨K', T', q1', q2', ho'⟩ := WT h.hb hj'
  have e : (a.2[j]).1 = (b.2[j]).1 := by
    have := congrArg (fun l => l[j]?) h.ty
    simp only [List.getElem?_map, List.getElem?_eq_getElem hj, List.getElem?_eq_getElem hj'] at this
    simpa using this
  rw [q2, q2'] at e
  have e : (K : Int) = (K' : Int) := e
  have e : K = K' := by omega
  subst e
  refine ⟨K, T, T', q1, q1', ?_, ?_, ho, hj', ho'⟩
  · rw [List.getElem?_eq_getElem hj]; exact ho
  · rw [List.getElem?_eq_getElem hj']; exact ho'

theorem MpI.A300 (h : MpI N nb k a b A M out im) : A.length ≤ 300 := h.fr.len

theorem MpI.vs_lt (h : MpI N nb k a b A M out im) : ∀ v ∈ vals nb b.2 im out, v < nb := fun v hv => by
  obtain ⟨t, ht, rfl⟩ := List.mem_map.1 hv
  obtain ⟨h1, h2, h3⟩ := h.ok t ht
  have hlen : (evN nb b.2 im t).length = 1 := XN h1
  exact evN_lt h.hb h1 (fun x hx h0 => by rw [h.il]; exact h3 x hx h0) h.ib _ (yE (by omega))

theorem MpI.vl (h : MpI N nb k a b A M out im) : (vals nb b.2 im out).length = A.length := by unfold vals; rw [List.length_map, h.ol]

theorem MpI.gen (h : MpI N nb k a b A M out im) {c : Nat} (hc : c < k) : genR N k c ∈ A := (h.fr.mem _).2 (.base (List.mem_map.2 ⟨c, by simpa using hc, rfl⟩))

theorem MpI.app (h : MpI N nb k a b A M out im) {j K : Nat} {T : List Nat} (hj : j < a.2.length) (ho : OpN N a.2[j] K T) {ds : List Nat} (hl : ds.length = K) (hd : ∀ d ∈ ds, d < A.length) : apT N T (ds.map (gl A)) (N ^ k) ∈ A :=
  (h.fr.mem _).2 (.app (List.getElem_mem hj) ho (by simpa using hl) (fun t ht => by
    obtain ⟨x, hx, rfl⟩ := List.mem_map.1 ht
    exact (h.fr.mem _).1 (YM (hd x hx))))

theorem MpI.A1 (h : MpI N nb k a b A M out im) {j K i : Nat} {T : List Nat} (hj : j < a.2.length) (ho : OpN N a.2[j] K T) (hi : i < A.length ^ K) : 1 ≤ A.length := by
  rcases Nat.eq_zero_or_pos A.length with e0 | e0
  · exfalso
    by_cases hK0 : K = 0
    · subst hK0
      have := h.app hj ho (ds := []) rfl (fun d hd => by cases hd)
      rw [List.length_eq_zero_iff.1 e0] at this; cases this
    · rw [e0, Nat.zero_pow (by omega)] at hi; omega
  · exact e0

theorem MpI.small (h : MpI N nb k a b A M out im) {t : List Nat} (ht : t ∈ A) : (∀ x ∈ t, x < 65536) ∧ t.length = N ^ k := ⟨h.fr.small h.ha ht, (h.fr.tup h.ha t ht).1⟩

theorem idx_loop {R : Type} {vs : List Nat} (hn8 : nb ≤ 8) (hA1 : 1 ≤ A.length) (hA3 : A.length ≤ 300) (hvl : vs.length = A.length) (hv : ∀ v ∈ vs, v < nb) {K i : Nat} (hK : K ≤ 3) (hi : i < A.length ^ K) {en : Int} (hen : en = (nb : Int)) : forC (S := Int × Int × Int) (R := R) (fun k199 s197 =>
  (nz ((NLL A).length : Int)).bind fun u203 =>
  (idx (NL vs) (Int.tmod s197.2.2 ((NLL A).length : Int))).bind fun x204 =>
  (nz ((NLL A).length : Int)).bind fun u206 =>
  some (.nx (w64 (s197.1 + (w64 (x204 * s197.2.1))), w64 (s197.2.1 * en), w64 (Int.tdiv s197.2.2 ((NLL A).length : Int))))) 0 (K : Int) (0, 1, (i : Int)) = some (.br (((ix nb 0 ((dig A.length K i).map (ga vs)) : Nat) : Int), ((nb ^ K : Nat) : Int), ((i / A.length ^ K : Nat) : Int))) := by
  have hP := wt hA3 hK
  subst hen
  refine Xi (fun t => (((ix nb 0 ((dig A.length t i).map (ga vs)) : Nat) : Int), ((nb ^ t : Nat) : Int), ((i / A.length ^ t : Nat) : Int))) rfl (by omega) (by simp [dig, ix]) (fun t ht => ?_)
  have hz : nz (A.length : Int) = some () := nz_ok (by omega)
  have hd : i / A.length ^ t % A.length < vs.length := by rw [hvl]; exact Nat.mod_lt _ hA1
  have hlt := hv _ (yE hd)
  have pw : nb ^ t ≤ 512 := xW hn8 (by omega)
  have pw1 : nb ^ t * nb ≤ 512 * 8 := Nat.mul_le_mul pw hn8
  have hb : ix nb 0 ((dig A.length t i).map (ga vs)) < nb ^ t := Xn (fun y hy => by
    obtain ⟨d, hd', rfl⟩ := List.mem_map.1 hy
    exact hv _ (yE (by rw [hvl]; exact xJ hA1 t i d hd'))) (by simp)
  have hm : ga vs (i / A.length ^ t % A.length) * nb ^ t ≤ 8 * 512 := Nat.mul_le_mul (by omega) pw
  have hdv : i / A.length ^ t ≤ i := Nat.div_le_self _ _
  simp only [hz, Option.bind_some, yo, tmod_nat, ZA hd]
  rw [We (by omega), wC (by omega), We (by omega), w64_div (by omega), Nat.div_div_eq_div_mul, ← Nat.pow_succ, ← Nat.pow_succ]
  have e : ix nb 0 ((dig A.length (t + 1) i).map (ga vs)) = ix nb 0 ((dig A.length t i).map (ga vs)) + ga vs (i / A.length ^ t % A.length) * nb ^ t := by
    show ix nb 0 (ga vs (i / A.length ^ t % A.length) :: (dig A.length t i).map (ga vs)) = _
    show ix nb (0 * nb + ga vs (i / A.length ^ t % A.length)) ((dig A.length t i).map (ga vs)) = _
    rw [US, Nat.zero_mul, Nat.zero_add, List.length_map, wD, Nat.add_comm]
  rw [e]

/-- The program's test of a map. -/
theorem mapTo_ok (h : MpI N nb k a b A M out im) (S : Int) :
    ∃ g : Bool, ZE (b.1, b.2) out (NLL (a.2.map (vrow N (N ^ k) A))) (NL im) ((k : Int), NLL (genL N k)) (a.1, a.2, S, NLL A, M) = some (bif g then (NL (vals nb b.2 im out), true) else ([], false)) ∧ (g = true ↔ Ur N nb k (N ^ k) a.2 b.2 A (vals nb b.2 im out) im) := by
  have hA3 := h.A300
  have hol := h.ol
  have hvl := h.vl
  have h8 := h.hb.n8
  have hl4 := h.ha.l4
  unfold ZE
  rw [Xy (fun t => [((ga (evN nb b.2 im t) 0 : Nat) : Int)]) 0 out [] (fun i pre post t el => by
    have ht : t ∈ out := by rw [el]; simp
    obtain ⟨h1, h2, h3⟩ := h.ok t ht
    have hpl : pre.length ≤ 300 := by
      have := congrArg List.length el
      simp at this; omega
    rw [eval_eq h.hb h1 h2 (fun x hx h0 => by rw [h.il]; exact h3 x hx h0) h.ib, Option.bind_some, yv (by rw [xH]; simp; omega), Option.bind_some]), Option.bind_some, zD, xH]
  have ev : [] ++ out.map (fun t => ((ga (evN nb b.2 im t) 0 : Nat) : Int)) = NL (vals nb b.2 im out) := by
    unfold vals NL; rw [List.nil_append, List.map_map]; rfl
  rw [ev]
  have eg : yh ((k : Int), NLL (genL N k)) (a.1, a.2, S, NLL A, M) = some (NL ((genL N k).map A.idxOf)) := by
    unfold yh
    rw [show NLL (genL N k) = (genL N k).map NL from rfl, zaH, Xy (fun t => [((A.idxOf t : Nat) : Int)]) 0 (genL N k) [] (fun i pre post t el => by
      have ht : t ∈ genL N k := by rw [el]; simp
      have htA : t ∈ A := (h.fr.mem _).2 (.base ht)
      obtain ⟨b1, b2⟩ := h.small htA
      have hs64 := h.s64
      obtain ⟨q, q1, q2⟩ := UF h.fr.key b1 (by omega) htA
      have hpl : pre.length ≤ 3 := by
        have := congrArg List.length el
        have := Xl N k
        have := h.k3
        simp at *; omega
      simp only [q1, Option.bind_some, q2]
      rw [yv (by rw [xH]; simp; omega), Option.bind_some]), Option.bind_some, zD, xH]
    unfold NL
    rw [List.nil_append, List.map_map]; rfl
  rw [eg, Option.bind_some]
  have hgl : (NL ((genL N k).map A.idxOf)).length = k := by simp [genL]
  have hga : ∀ c, c < k → ga ((genL N k).map A.idxOf) c = A.idxOf (genR N k c) := fun c hc => by
    rw [xD (by simpa [genL] using hc), List.getElem_map]
    unfold genL; rw [List.getElem_map, List.getElem_range]
  have first := Zo (S := Unit) (R := (List Int) × Bool) (step := fun k59 s57 =>
  (idx (NL ((genL N k).map A.idxOf)) k59).bind fun x63 =>
  (idx (NL (vals nb b.2 im out)) x63).bind fun x67 =>
  (idx (NL im) k59).bind fun x69 =>
  (bif (x67 != x69) then some (.rt ([], false)) else some (.nx ()))) (n := k) (hi := ((NL ((genL N k).map A.idxOf)).length : Int)) (s := ())
    (fun j _ => ∀ c, c < j → ga (vals nb b.2 im out) (A.idxOf (genR N k c)) = ga im c) (fun _ => False) (fun r => r = ([], false) ∧ ¬ ∀ c, c < k → ga (vals nb b.2 im out) (A.idxOf (genR N k c)) = ga im c)
    (by rw [hgl]) (by have := h.k3; omega) (fun c hc => by omega) (by
      rintro j ⟨⟩ hj hI
      have hix := List.idxOf_lt_length_of_mem (h.gen hj)
      rw [ZA (by simpa [genL] using hj), Option.bind_some, hga j hj, ZA (by rw [hvl]; exact hix), Option.bind_some, ZA (by rw [h.il]; exact hj), Option.bind_some, Wo]
      by_cases e : ga (vals nb b.2 im out) (A.idxOf (genR N k j)) = ga im j
      · left
        rw [e, beq_self_eq_true, Bool.not_true, cond_false]
        refine ⟨(), rfl, fun c hc => ?_⟩
        by_cases ec : c = j
        · rw [ec]; exact e
        · exact hI c (by omega)
      · right; right
        rw [show (ga (vals nb b.2 im out) (A.idxOf (genR N k j)) == ga im j) = false by simpa using e, Bool.not_false, cond_true]
        exact ⟨_, rfl, rfl, fun hh => e (hh j hj)⟩)
  rcases first with ⟨_, e1, hI | hf⟩ | ⟨r, e1, rfl, hno⟩
  · rw [e1, Option.bind_some, zD]
    have second := Zo (S := Unit) (R := (List Int) × Bool) (step := fun k144 s142 =>
  (idx a.2 k144).bind fun x148 =>
  (idx (NLL (a.2.map (vrow N (N ^ k) A))) k144).bind fun x154 =>
  (forC (S := Unit) (R := (List Int) × Bool) (fun k187 s185 =>
  (idx x154 k187).bind fun x191 =>
  (forC (S := Int × Int × Int) (R := (List Int) × Bool) (fun k199 s197 =>
  (nz ((NLL A).length : Int)).bind fun u203 =>
  (idx (NL (vals nb b.2 im out)) (Int.tmod s197.2.2 ((NLL A).length : Int))).bind fun x204 =>
  (nz ((NLL A).length : Int)).bind fun u206 =>
  some (.nx (w64 (s197.1 + (w64 (x204 * s197.2.1))), w64 (s197.2.1 * b.1), w64 (Int.tdiv s197.2.2 ((NLL A).length : Int))))) 0 x148.1 (0, 1, k187)).bind fun o201 => after o201 (fun r_ => some (.rt r_)) (fun s197 =>
  (idx (NL (vals nb b.2 im out)) x191).bind fun x208 =>
  (idx b.2 k144).bind fun x210 =>
  (idx x210.2 s197.1).bind fun x215 =>
  (bif (x208 != x215) then some (.rt ([], false)) else some (.nx ())))) 0 (x154.length : Int) ()).bind fun o189 => after o189 (fun r_ => some (.rt r_)) (fun s185 =>
  some (.nx ()))) (n := a.2.length) (hi := (a.2.length : Int)) (s := ())
      (fun j _ => ∀ j', j' < j → ∀ K T T', OpN N (a.2[j']?.getD (0, [])) K T → OpN nb (b.2[j']?.getD (0, [])) K T' → ∀ i, i < A.length ^ K → ga (vals nb b.2 im out) (A.idxOf (apT N T ((dig A.length K i).map (gl A)) (N ^ k))) = ga T' (ix nb 0 ((dig A.length K i).map (ga (vals nb b.2 im out)))))
      (fun _ => False) (fun r => r = ([], false) ∧ ¬ Ur N nb k (N ^ k) a.2 b.2 A (vals nb b.2 im out) im) rfl (by omega) (fun j hj => by omega) (by
        rintro j ⟨⟩ hj hI2
        obtain ⟨K, T, T', q1, q2, g1, g2, ho, hj', ho'⟩ := h.pair hj
        have hK := ho.k3
        have hP := wt hA3 hK
        have q3 := (WT h.ha hj)
        have hrow : gl (a.2.map (vrow N (N ^ k) A)) j = (List.range (A.length ^ K)).map fun i => A.idxOf (apT N T ((dig A.length K i).map (gl A)) (N ^ k)) := by
          rw [yV (by simpa using hj), List.getElem_map, ho.eq]
          unfold vrow
          rw [vD]; rfl
        rw [q1, Option.bind_some, YZ (by simpa using hj), Option.bind_some, hrow]
        have inner := Zo (S := Unit) (R := (List Int) × Bool) (step := fun k187 s185 =>
  (idx (NL ((List.range (A.length ^ K)).map fun i => A.idxOf (apT N T ((dig A.length K i).map (gl A)) (N ^ k)))) k187).bind fun x191 =>
  (forC (S := Int × Int × Int) (R := (List Int) × Bool) (fun k199 s197 =>
  (nz ((NLL A).length : Int)).bind fun u203 =>
  (idx (NL (vals nb b.2 im out)) (Int.tmod s197.2.2 ((NLL A).length : Int))).bind fun x204 =>
  (nz ((NLL A).length : Int)).bind fun u206 =>
  some (.nx (w64 (s197.1 + (w64 (x204 * s197.2.1))), w64 (s197.2.1 * b.1), w64 (Int.tdiv s197.2.2 ((NLL A).length : Int))))) 0 (K : Int) (0, 1, k187)).bind fun o201 => after o201 (fun r_ => some (.rt r_)) (fun s197 =>
  (idx (NL (vals nb b.2 im out)) x191).bind fun x208 =>
  (idx b.2 (j : Int)).bind fun x210 =>
  (idx x210.2 s197.1).bind fun x215 =>
  (bif (x208 != x215) then some (.rt ([], false)) else some (.nx ())))) (n := A.length ^ K) (hi := ((NL ((List.range (A.length ^ K)).map fun i => A.idxOf (apT N T ((dig A.length K i).map (gl A)) (N ^ k)))).length : Int)) (s := ())
          (fun i _ => ∀ i', i' < i → ga (vals nb b.2 im out) (A.idxOf (apT N T ((dig A.length K i').map (gl A)) (N ^ k))) = ga T' (ix nb 0 ((dig A.length K i').map (ga (vals nb b.2 im out)))))
          (fun _ => False) (fun r => r = ([], false) ∧ ¬ Ur N nb k (N ^ k) a.2 b.2 A (vals nb b.2 im out) im) (by simp) (by omega) (fun i hi => by omega) (by
            rintro i ⟨⟩ hi hI3
            have hA1 := h.A1 hj ho hi
            have hds : ∀ x ∈ dig A.length K i, x < A.length := xJ hA1 K i
            have hm := h.app hj ho (ds := dig A.length K i) (by simp) hds
            have hix := List.idxOf_lt_length_of_mem hm
            have hT : ix nb 0 ((dig A.length K i).map (ga (vals nb b.2 im out))) < T'.length := by
              rw [ho'.len]
              refine Xn (fun y hy => ?_) (by simp)
              obtain ⟨d, hd, rfl⟩ := List.mem_map.1 hy
              exact h.vs_lt _ (yE (by rw [hvl]; exact hds d hd))
            rw [ZA (by simpa using hi), ga_map _ hi, Option.bind_some, idx_loop h8 hA1 hA3 hvl h.vs_lt hK hi h.hb.eN, Option.bind_some, zD, ZA (by rw [hvl]; exact hix), Option.bind_some, q2, Option.bind_some, ZA hT, Option.bind_some, Wo]
            by_cases e : ga (vals nb b.2 im out) (A.idxOf (apT N T ((dig A.length K i).map (gl A)) (N ^ k))) = ga T' (ix nb 0 ((dig A.length K i).map (ga (vals nb b.2 im out))))
            · left
              rw [e, beq_self_eq_true, Bool.not_true, cond_false]
              refine ⟨(), rfl, fun i' hi' => ?_⟩
              by_cases ei : i' = i
              · rw [ei]; exact e
              · exact hI3 i' (by omega)
            · right; right
              rw [show (ga (vals nb b.2 im out) (A.idxOf (apT N T ((dig A.length K i).map (gl A)) (N ^ k))) == ga T' (ix nb 0 ((dig A.length K i).map (ga (vals nb b.2 im out))))) = false by simpa using e, Bool.not_false, cond_true]
              exact ⟨_, rfl, rfl, fun hh => e (hh.2 j K T T' g1 g2 hj i hi)⟩)
        rcases inner with ⟨_, e3, hI3 | hf⟩ | ⟨r, e3, rfl, hno⟩
        · left
          rw [e3, Option.bind_some, zD]
          refine ⟨(), rfl, fun j' hj' K' T1 T1' g1' g2' i hi => ?_⟩
          by_cases ej : j' = j
          · subst ej
            obtain ⟨eK, eT⟩ := g1.uniq g1'
            subst eK; subst eT
            obtain ⟨_, eT'⟩ := g2.uniq g2'
            subst eT'
            exact hI3 i hi
          · exact hI2 j' (by omega) K' T1 T1' g1' g2' i hi
        · exact hf.elim
        · right; right
          rw [e3, Option.bind_some, Vb]
          exact ⟨_, rfl, rfl, hno⟩)
    rcases second with ⟨_, e2, hI2 | hf⟩ | ⟨r, e2, rfl, hno⟩
    · refine ⟨true, ?_, fun _ => ⟨hI, fun j K T T' g1 g2 hj i hi => hI2 j hj K T T' g1 g2 i hi⟩, fun _ => rfl⟩
      show ((forC _ 0 (a.2.length : Int) ()).bind _) = _
      rw [e2]; rfl
    · exact hf.elim
    · refine ⟨false, ?_, (fun hh => by cases hh), fun hh => absurd hh hno⟩
      show ((forC _ 0 (a.2.length : Int) ()).bind _) = _
      rw [e2]; rfl
  · exact hf.elim
  · refine ⟨false, ?_, (fun hh => by cases hh), fun hh => absurd hh.1 hno⟩
    rw [e1]; rfl

end

set_option linter.unusedVariables false

section
variable {N nb k : Nat} {a b : Int × List (Int × List Int)} {A : List (List Nat)} {M : MI} {out : List (List Int)} {im : List Nat}
theorem zaB {vs ds : List Nat} (hd : ∀ d ∈ ds, d < vs.length) (hl : ds.length ≤ 1000) : yd (NL vs) (NL ds) = some (NL (ds.map (ga vs))) := by
  unfold yd
  rw [YY (R := List Int) (v := fun j => ((ga vs (ga ds j) : Nat) : Int)) (n := ds.length) (by simp) (by omega) (fun j s hj hs => by
    rw [ZA hj, Option.bind_some, ZA (hd _ (yE hj)), Option.bind_some])]
  show some ((List.range ds.length).map _) = _
  unfold NL
  rw [List.map_map]
  conv => rhs; rw [← zbV ds, List.map_map]
  rfl

theorem UD (h : MpI N nb k a b A M out im) : Yp (a.1, a.2) (k : Int) (NLL A) = some (NL ((genL N k).map A.idxOf)) := by
  have hk := h.k3
  have hs64 := h.s64
  unfold Yp
  rw [wx h.ha h.k3, Option.bind_some]
  rw [YY (R := List Int) (v := fun c => ((A.idxOf (genR N k c) : Nat) : Int)) (n := k) rfl (by omega) (fun c s hc hs => by
    rw [YZ (by rw [Xl]; exact hc), Option.bind_some, genL_at hc, vF h.fr.srt h.A300 (by omega) (fun u hu => (h.fr.tup h.ha u hu).1) (h.gen hc), Option.bind_some])]
  show some ((List.range k).map _) = _
  unfold genL NL
  rw [List.map_map, List.map_map]; rfl

theorem zam (h : MpI N nb k a b A M out im) : ∃ g : Bool, ZM (a.1, a.2) (k : Int) (NLL A) out (b.1, b.2) (NL im) = some (bif g then (NL (vals nb b.2 im out), true) else ([], false)) ∧ (g = true ↔ Ur N nb k (N ^ k) a.2 b.2 A (vals nb b.2 im out) im) := by
  have hA3 := h.A300
  have hol := h.ol
  have hvl := h.vl
  have h8 := h.hb.n8
  have hl4 := h.ha.l4
  have hk3 := h.k3
  have hs64 := h.s64
  unfold ZM
  rw [YY (R := (List Int) × Bool) (v := fun j => ((ga (evN nb b.2 im (gI out j)) 0 : Nat) : Int)) (n := out.length) rfl (by omega) (fun j s hj hs => by
    obtain ⟨h1, h2, h3⟩ := h.ok (gI out j) (by rw [wQ hj]; exact List.getElem_mem hj)
    rw [xY hj, Option.bind_some, zbA h.hb h1 h2 (fun x hx h0 => by rw [h.il]; exact h3 x hx h0) h.ib, Option.bind_some]), Option.bind_some, zD]
  have ev : (List.range out.length).map (fun j => ((ga (evN nb b.2 im (gI out j)) 0 : Nat) : Int)) = NL (vals nb b.2 im out) := by
    have eo : (List.range out.length).map (gI out) = out := by
      refine List.ext_getElem (by simp) (fun i h1 h2 => ?_)
      rw [List.getElem_map, List.getElem_range, wQ h2]
    unfold vals NL
    conv => rhs; rw [← eo]
    rw [List.map_map, List.map_map]; rfl
  rw [ev, UD h, Option.bind_some]
  have hga : ∀ c, c < k → ga ((genL N k).map A.idxOf) c = A.idxOf (genR N k c) := fun c hc => by
    rw [xD (by simpa [genL] using hc), List.getElem_map]
    unfold genL; rw [List.getElem_map, List.getElem_range]
  have first := Zo (S := Unit) (R := (List Int) × Bool) (step := fun k61 s59 =>
  (idx (NL ((genL N k).map A.idxOf)) k61).bind fun x66 =>
  (idx (NL (vals nb b.2 im out)) x66).bind fun x68 =>
  (idx (NL im) k61).bind fun x70 =>
  (bif (x68 != x70) then some (.rt ([], false)) else some (.nx ()))) (n := k) (hi := (k : Int)) (s := ())
    (fun j _ => ∀ c, c < j → ga (vals nb b.2 im out) (A.idxOf (genR N k c)) = ga im c) (fun _ => False) (fun r => r = ([], false) ∧ ¬ ∀ c, c < k → ga (vals nb b.2 im out) (A.idxOf (genR N k c)) = ga im c)
    rfl (by omega) (fun c hc => by omega) (by
      rintro j ⟨⟩ hj hI
      have hix := List.idxOf_lt_length_of_mem (h.gen hj)
      rw [ZA (by simpa [genL] using hj), Option.bind_some, hga j hj, ZA (by rw [hvl]; exact hix), Option.bind_some, ZA (by rw [h.il]; exact hj), Option.bind_some, Wo]
      by_cases e : ga (vals nb b.2 im out) (A.idxOf (genR N k j)) = ga im j
      · left
        rw [e, beq_self_eq_true, Bool.not_true, cond_false]
        refine ⟨(), rfl, fun c hc => ?_⟩
        by_cases ec : c = j
        · rw [ec]; exact e
        · exact hI c (by omega)
      · right; right
        rw [show (ga (vals nb b.2 im out) (A.idxOf (genR N k j)) == ga im j) = false by simpa using e, Bool.not_false, cond_true]
        exact ⟨_, rfl, rfl, fun hh => e (hh j hj)⟩)
  rcases first with ⟨_, e1, hI | hf⟩ | ⟨r, e1, rfl, hno⟩
  · rw [e1, Option.bind_some, zD]
    have second := Zo (S := Unit) (R := (List Int) × Bool) (step := fun k490 s488 =>
  ((idx a.2 k490).bind fun x530 =>
  (idx a.2 k490).bind fun x533 =>
  (bif (x533.1 == 0) then (mks x530.1 (0 : Int)).bind fun y538 =>
  some (y538, true) else (mks x530.1 (0 : Int)).bind fun y541 =>
  some (y541, (decide (0 < ((NLL A).length : Int)))))).bind fun s524 =>
  (iter (S := (List Int) × Bool) (R := (List Int) × Bool) (fun s643 =>
  (bif s643.2 then (yc (NLL A) s643.1).bind fun r671 =>
  (Zb a.1 (k : Int)).bind fun r674 =>
  (zO (a.1, a.2) k490 r671 r674).bind fun r676 =>
  (zX (NLL A) r676).bind fun r679 =>
  (idx (NL (vals nb b.2 im out)) r679.1).bind fun x689 =>
  (yd (NL (vals nb b.2 im out)) s643.1).bind fun r692 =>
  (ZX (b.1, b.2) k490 r692).bind fun r695 =>
  (bif (x689 != r695) then some (.rt ([], false)) else (zM s643.1 ((NLL A).length : Int)).bind fun r700 =>
  some (.nx (r700.1, r700.2))) else some (.br (s643.1, s643.2)))) FU (s524.1, s524.2)).bind fun o647 => after o647 (fun r_ => some (.rt r_)) (fun s643 =>
  some (.nx ()))) (n := a.2.length) (hi := (a.2.length : Int)) (s := ())
      (fun j _ => ∀ j', j' < j → ∀ K T T', OpN N (a.2[j']?.getD (0, [])) K T → OpN nb (b.2[j']?.getD (0, [])) K T' → ∀ i, i < A.length ^ K → ga (vals nb b.2 im out) (A.idxOf (apT N T ((dig A.length K i).map (gl A)) (N ^ k))) = ga T' (ix nb 0 ((dig A.length K i).map (ga (vals nb b.2 im out)))))
      (fun _ => False) (fun r => r = ([], false) ∧ ¬ Ur N nb k (N ^ k) a.2 b.2 A (vals nb b.2 im out) im) rfl (by omega) (fun j hj => by omega) (by
        rintro j ⟨⟩ hj hI2
        obtain ⟨K, T, T', q1, q2, g1, g2, ho, hj', ho'⟩ := h.pair hj
        have hK := ho.k3
        have hP := wt hA3 hK
        have epw : Zb a.1 (k : Int) = some ((N ^ k : Nat) : Int) := Xf h.ha.eN rfl h.ha.n1 (by omega) (by omega)
        have core : ∀ (n m fu : Nat), m + n = A.length ^ K → n < fu → (∀ i', i' < m → ga (vals nb b.2 im out) (A.idxOf (apT N T ((dig A.length K i').map (gl A)) (N ^ k))) = ga T' (ix nb 0 ((dig A.length K i').map (ga (vals nb b.2 im out))))) →
            (∃ z, iter (S := (List Int) × Bool) (R := (List Int) × Bool) (fun s643 =>
  (bif s643.2 then (yc (NLL A) s643.1).bind fun r671 =>
  (Zb a.1 (k : Int)).bind fun r674 =>
  (zO (a.1, a.2) (j : Int) r671 r674).bind fun r676 =>
  (zX (NLL A) r676).bind fun r679 =>
  (idx (NL (vals nb b.2 im out)) r679.1).bind fun x689 =>
  (yd (NL (vals nb b.2 im out)) s643.1).bind fun r692 =>
  (ZX (b.1, b.2) (j : Int) r692).bind fun r695 =>
  (bif (x689 != r695) then some (.rt ([], false)) else (zM s643.1 ((NLL A).length : Int)).bind fun r700 =>
  some (.nx (r700.1, r700.2))) else some (.br (s643.1, s643.2)))) fu (NL (dig A.length K (if m < A.length ^ K then m else 0)), decide (m < A.length ^ K)) = some (.br z) ∧ ∀ i', i' < A.length ^ K → ga (vals nb b.2 im out) (A.idxOf (apT N T ((dig A.length K i').map (gl A)) (N ^ k))) = ga T' (ix nb 0 ((dig A.length K i').map (ga (vals nb b.2 im out))))) ∨
            (iter (S := (List Int) × Bool) (R := (List Int) × Bool) (fun s643 =>
  (bif s643.2 then (yc (NLL A) s643.1).bind fun r671 =>
  (Zb a.1 (k : Int)).bind fun r674 =>
  (zO (a.1, a.2) (j : Int) r671 r674).bind fun r676 =>
  (zX (NLL A) r676).bind fun r679 =>
  (idx (NL (vals nb b.2 im out)) r679.1).bind fun x689 =>
  (yd (NL (vals nb b.2 im out)) s643.1).bind fun r692 =>
  (ZX (b.1, b.2) (j : Int) r692).bind fun r695 =>
  (bif (x689 != r695) then some (.rt ([], false)) else (zM s643.1 ((NLL A).length : Int)).bind fun r700 =>
  some (.nx (r700.1, r700.2))) else some (.br (s643.1, s643.2)))) fu (NL (dig A.length K (if m < A.length ^ K then m else 0)), decide (m < A.length ^ K)) = some (.rt ([], false)) ∧ ¬ Ur N nb k (N ^ k) a.2 b.2 A (vals nb b.2 im out) im) := by
          intro n
          induction n with
          | zero =>
            intro m fu hm hf hp
            obtain ⟨fu, rfl⟩ : ∃ q, fu = q + 1 := ⟨fu - 1, by omega⟩
            left
            rw [show decide (m < A.length ^ K) = false by simp; omega]
            exact ⟨_, yg rfl (by intro s; simp), fun i' hi' => hp i' (by omega)⟩
          | succ n ih =>
            intro m fu hm hf hp
            obtain ⟨fu, rfl⟩ : ∃ q, fu = q + 1 := ⟨fu - 1, by omega⟩
            have hml : m < A.length ^ K := by omega
            have hA1 := h.A1 hj ho hml
            have hds : ∀ x ∈ dig A.length K m, x < A.length := xJ hA1 K m
            have hm' := h.app hj ho (ds := dig A.length K m) (by simp) hds
            have hix := List.idxOf_lt_length_of_mem hm'
            rw [if_pos hml, decide_eq_true hml]
            have c1 : yc (NLL A) (NL (dig A.length K m)) = some (NLL ((dig A.length K m).map (gl A))) := zbp (by simp; omega) hds
            have c2 := XB (ts := (dig A.length K m).map (gl A)) (k := N ^ k) h.ha hj ho (by simp) (fun t ht => by
              obtain ⟨x, hx, rfl⟩ := List.mem_map.1 ht
              exact (h.fr.tup h.ha _ (YM (hds x hx))).1) (fun t ht => by
              obtain ⟨x, hx, rfl⟩ := List.mem_map.1 ht
              exact (h.fr.tup h.ha _ (YM (hds x hx))).2) (by omega)
            have c3 := vF h.fr.srt hA3 (show N ^ k ≤ 1000000 by omega) (fun u hu => (h.fr.tup h.ha u hu).1) hm'
            have c4 : yd (NL (vals nb b.2 im out)) (NL (dig A.length K m)) = some (NL ((dig A.length K m).map (ga (vals nb b.2 im out)))) := zaB (fun d hd => by rw [hvl]; exact hds d hd) (by simp; omega)
            have c5 : ZX (b.1, b.2) (j : Int) (NL ((dig A.length K m).map (ga (vals nb b.2 im out)))) = some ((ga T' (ix nb 0 ((dig A.length K m).map (ga (vals nb b.2 im out)))) : Nat) : Int) := uy h.hb.n1 h8 h.hb.eN hj' ho' (by simp) (fun y hy => by
              obtain ⟨d, hd, rfl⟩ := List.mem_map.1 hy
              exact h.vs_lt _ (yE (by rw [hvl]; exact hds d hd)))
            have c6 : idx (NL (vals nb b.2 im out)) ((A.idxOf (apT N T ((dig A.length K m).map (gl A)) (N ^ k)) : Nat) : Int) = some ((ga (vals nb b.2 im out) (A.idxOf (apT N T ((dig A.length K m).map (gl A)) (N ^ k))) : Nat) : Int) := ZA (by rw [hvl]; exact hix)
            have c7 : zM (NL (dig A.length K m)) ((NLL A).length : Int) = some (NL (dig A.length K (if m + 1 < A.length ^ K then m + 1 else 0)), decide (m + 1 < A.length ^ K)) := by
              rw [yo]; exact Vf hA1 (by omega) (by omega) hml
            by_cases e : ga (vals nb b.2 im out) (A.idxOf (apT N T ((dig A.length K m).map (gl A)) (N ^ k))) = ga T' (ix nb 0 ((dig A.length K m).map (ga (vals nb b.2 im out))))
            · rw [xM (s' := (NL (dig A.length K (if m + 1 < A.length ^ K then m + 1 else 0)), decide (m + 1 < A.length ^ K))) (by
                simp only [cond_true, c1, epw, c2, c3, c4, c5, c6, c7, Option.bind_some, e, bne_self_eq_false, cond_false])]
              exact ih (m + 1) fu (by omega) (by omega) (fun i' hi' => by
                by_cases ei : i' = m
                · rw [ei]; exact e
                · exact hp i' (by omega))
            · right
              refine ⟨yg (by
                simp only [cond_true, c1, epw, c2, c3, c4, c5, c6, Option.bind_some, Wo, show (ga (vals nb b.2 im out) (A.idxOf (apT N T ((dig A.length K m).map (gl A)) (N ^ k))) == ga T' (ix nb 0 ((dig A.length K m).map (ga (vals nb b.2 im out))))) = false by simpa using e, Bool.not_false]) (by intro s; simp), fun hh => e (hh.2 j K T T' g1 g2 hj m hml)⟩
        have start : (bif (((K : Nat) : Int) == 0) then (mks (K : Int) (0 : Int)).bind fun y538 =>
  some (y538, true) else (mks (K : Int) (0 : Int)).bind fun y541 =>
  some (y541, (decide (0 < ((NLL A).length : Int))))) = some (NL (dig A.length K (if 0 < A.length ^ K then 0 else 0)), decide (0 < A.length ^ K)) := by
          have er : List.replicate K (0 : Int) = NL (dig A.length K 0) := by rw [Wd]; simp [NL]
          rw [xO rfl (by omega), ite_self, ← er]
          by_cases hK0 : K = 0
          · subst hK0; rfl
          · rw [show (((K : Nat) : Int) == 0) = false by simp; omega, cond_false, Option.bind_some]
            congr 2
            rw [yo, decide_eq_decide]
            constructor
            · intro h0; exact Nat.pow_pos (by omega)
            · intro h0
              rcases Nat.eq_zero_or_pos A.length with e0 | e0
              · rw [e0, Nat.zero_pow (by omega)] at h0; omega
              · omega
        rw [q1]
        simp only [Option.bind_some, start]
        rcases core (A.length ^ K) 0 FU (by omega) (by unfold FU; omega) (fun i' hi' => by omega) with ⟨z, e3, hI3⟩ | ⟨e3, hno⟩
        · left
          rw [e3, Option.bind_some, zD]
          refine ⟨(), rfl, fun j' hj1 K' T1 T1' g1' g2' i hi => ?_⟩
          by_cases ej : j' = j
          · subst ej
            obtain ⟨eK, eT⟩ := g1.uniq g1'
            subst eK; subst eT
            obtain ⟨_, eT'⟩ := g2.uniq g2'
            subst eT'
            exact hI3 i hi
          · exact hI2 j' (by omega) K' T1 T1' g1' g2' i hi
        · right; right
          rw [e3, Option.bind_some, Vb]
          exact ⟨_, rfl, rfl, hno⟩)
    rcases second with ⟨_, e2, hI2 | hf⟩ | ⟨r, e2, rfl, hno⟩
    · refine ⟨true, ?_, fun _ => ⟨hI, fun j K T T' g1 g2 hj i hi => hI2 j hj K T T' g1 g2 i hi⟩, fun _ => rfl⟩
      show ((forC _ 0 (a.2.length : Int) ()).bind _) = _
      rw [e2]; rfl
    · exact hf.elim
    · refine ⟨false, ?_, (fun hh => by cases hh), fun hh => absurd hh hno⟩
      show ((forC _ 0 (a.2.length : Int) ()).bind _) = _
      rw [e2]; rfl
  · exact hf.elim
  · refine ⟨false, ?_, (fun hh => by cases hh), fun hh => absurd hh.1 hno⟩
    rw [e1]; rfl

/-- Both sides' tests agree. -/
theorem map_both (h : MpI N nb k a b A M out im) (S : Int) : ∃ g : Bool, ZM (a.1, a.2) (k : Int) (NLL A) out (b.1, b.2) (NL im) = some (bif g then (NL (vals nb b.2 im out), true) else ([], false)) ∧
    ZE (b.1, b.2) out (NLL (a.2.map (vrow N (N ^ k) A))) (NL im) ((k : Int), NLL (genL N k)) (a.1, a.2, S, NLL A, M) = some (bif g then (NL (vals nb b.2 im out), true) else ([], false)) := by
  obtain ⟨g, e, hg⟩ := zam h
  obtain ⟨g', e', hg'⟩ := mapTo_ok h S
  have : g = g' := by
    rw [Bool.eq_iff_iff, hg, hg']
  subst this
  exact ⟨g, e, e'⟩

end

end Go.Proofs
