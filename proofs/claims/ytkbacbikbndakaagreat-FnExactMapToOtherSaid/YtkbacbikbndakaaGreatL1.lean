/- Plain lemmas on what the functions compute, up to: the law gives true. No conditions. -/
import Derived.Test.YtkbacbikbndakaaGreatL0
set_option linter.unusedVariables false
namespace Go.Proofs
open Go.G
set_option maxRecDepth 100000

theorem VE {N K k old many : Nat} {a : Int × List (Int × List Int)} {f : Int × List Int} {T : List Nat} {B : List (List Nat)} (ha : AlgN a N) (hf : f ∈ a.2) (ho : OpN N f K T) (hB : ∀ t ∈ B, TupN N k t) (hk : k ≤ 1000000) :
    ∀ (n fu : Nat) (ds : List Nat) (A : List (List Nat)) (M : MI), ds.length + n = K → n < fu → SpI N a.2 k B A M → many ≤ A.length → A.length ≤ ZV a.2 → (∀ d ∈ ds, d < many) →
    ∃ Z M' ok, zM fu (f.1, f.2) (NLL (ds.map (gl A))) (old : Int) (many : Int) (frO old ds) (a.1, a.2, (k : Int), NLL A, M) = some (ok, NLL (A ++ Z), M') ∧ SpI N a.2 k B (A ++ Z) M' ∧
      (ok = true → (A ++ Z).length ≤ ZV a.2 ∧ ∀ es : List Nat, es.length = n → (∀ e ∈ es, e < many) → (frO old (ds ++ es) = true ∨ (K = 0 ∧ old = 0)) → apT N T ((ds ++ es).map (gl A)) k ∈ A ++ Z) ∧ (ok = false → ZV a.2 < (A ++ Z).length)
  | 0, fu, ds, A, M, hl, hfu, hI, hm, hA, hds => by
    obtain ⟨fu, rfl⟩ : ∃ j, fu = j + 1 := ⟨fu - 1, by omega⟩
    have hmo := wy a.2
    unfold zM
    have hlK : ds.length = K := by omega
    have ef : f.1 = (K : Int) := by rw [ho.eq]
    rw [show (((NLL (ds.map (gl A))).length : Int) == (f.1, f.2).1) = true by simp [ef, hlK], ct1]
    have hts : ∀ t ∈ ds.map (gl A), Gen N a.2 k B t := fun t ht => by
      obtain ⟨x, hx, rfl⟩ := List.mem_map.1 ht
      exact hI.gen _ (YR (by have := hds x hx; omega))
    have hg : Gen N a.2 k B (apT N T (ds.map (gl A)) k) := .app hf ho (by simpa using hlK) hts
    have eK : ((f.1, f.2).1 == 0) = decide (K = 0) := by
      show (f.1 == 0) = _
      rw [ef, Bool.eq_iff_iff, beq_iff_eq, decide_eq_true_eq]; omega
    have eo : ((old : Int) == 0) = decide (old = 0) := by
      rw [Bool.eq_iff_iff, beq_iff_eq, decide_eq_true_eq]; omega
    by_cases hc : frO old ds = true ∨ (K = 0 ∧ old = 0)
    · have ec : (frO old ds || ((f.1, f.2).1 == 0 && (old : Int) == 0)) = true := by
        rw [eK, eo]
        rcases hc with h | ⟨h1, h2⟩
        · rw [h]; rfl
        · simp [h1, h2]
      rw [ec, ct1, Wi ha ho (by simpa using hlK) (fun t ht => (hts t ht).tup hB) hk, obs]
      obtain ⟨M', e, hI'⟩ := hI.step ha hB hg hk (by omega)
      rw [e, obs, obs, wj, obs]
      refine ⟨addN A (apT N T (ds.map (gl A)) k), M', _, rfl, hI', fun hok => ⟨?_, fun es he _ _ => ?_⟩, fun hok => ?_⟩
      · rw [decide_eq_true_eq, yk] at hok; omega
      · rw [List.length_eq_zero_iff.1 he, lan]; exact zbs _ _
      · rw [decide_eq_false_iff_not, yk] at hok; omega
    · have ec : (frO old ds || ((f.1, f.2).1 == 0 && (old : Int) == 0)) = false := by
        rw [eK, eo]
        cases h : frO old ds with
        | true => exact absurd (.inl h) hc
        | false =>
          rw [Bool.false_or, ← Bool.decide_and]
          exact decide_eq_false (fun h => hc (.inr h))
      rw [ec, ct0, obs, wj, obs]
      refine ⟨[], M, true, ?_, by rw [lan]; exact hI, fun _ => ⟨by rw [lan]; exact hA, fun es he _ h => ?_⟩, fun h => by cases h⟩
      · rw [lan]
        simp only [yk, Wp, show decide (A.length ≤ ZV a.2) = true by simpa using hA]
      · rw [List.length_eq_zero_iff.1 he, lan] at h
        exact absurd h hc
  | n + 1, fu, ds, A, M, hl, hfu, hI, hm, hA, hds => by
    obtain ⟨fu, rfl⟩ : ∃ j, fu = j + 1 := ⟨fu - 1, by omega⟩
    have hmo := wy a.2
    have hK3 := ho.k3
    unfold zM
    have ef : f.1 = (K : Int) := by rw [ho.eq]
    rw [show (((NLL (ds.map (gl A))).length : Int) == (f.1, f.2).1) = false by
      rw [yk, List.length_map]
      show ((ds.length : Int) == f.1) = false
      rw [ef, XX]; simp; omega, ct0]
    have := Zo (R := Bool × (List (List Int)) × MI) (S := (List (List Int)) × MI) (n := many) (hi := (many : Int)) (s := (NLL A, M))
      (step := fun k665 s663 =>
  ((idx s663.1 k665).bind fun x881 =>
  (app (NLL (ds.map (gl A))) ([x881])).bind fun y889 =>
  (bif frO old ds then (zM fu (f.1, f.2) y889 (old : Int) (many : Int) true (a.1, a.2, (k : Int), s663.1, s663.2)).bind fun r893 =>
  some ((!r893.1), r893.2.1, r893.2.2) else (zM fu (f.1, f.2) y889 (old : Int) (many : Int) (decide ((old : Int) ≤ k665)) (a.1, a.2, (k : Int), s663.1, s663.2)).bind fun r897 =>
  some ((!r897.1), r897.2.1, r897.2.2))).bind fun s871 =>
  (bif s871.1 then some (.rt (false, s871.2.1, s871.2.2)) else some (.nx (s871.2.1, s871.2.2))))
      (fun j s => ∃ Z M', s = (NLL (A ++ Z), M') ∧ SpI N a.2 k B (A ++ Z) M' ∧ (A ++ Z).length ≤ ZV a.2 ∧ ∀ i, i < j → ∀ es : List Nat, es.length = n → (∀ e ∈ es, e < many) → (frO old (ds ++ i :: es) = true ∨ (K = 0 ∧ old = 0)) → apT N T ((ds ++ i :: es).map (gl A)) k ∈ A ++ Z)
      (fun _ => False)
      (fun r => ∃ Z M', r = (false, NLL (A ++ Z), M') ∧ SpI N a.2 k B (A ++ Z) M' ∧ ZV a.2 < (A ++ Z).length)
      rfl (by omega) ⟨[], M, by rw [lan], by rw [lan]; exact hI, by rw [lan]; exact hA, fun i hi => by omega⟩ (by
        rintro j s hj ⟨Z, M', rfl, hI', hA', hd⟩
        have hdl : ∀ x ∈ ds ++ [j], x < A.length := fun x hx => by
          rcases List.mem_append.1 hx with hx | hx
          · have := hds x hx; omega
          · simp at hx; omega
        have ey : app (NLL (ds.map (gl A))) [NL (gl (A ++ Z) j)] = some (NLL ((ds ++ [j]).map (gl (A ++ Z)))) := by
          rw [yv (by simp; omega), NLL_snoc, xZ hdl, gl_app (hdl j (by simp))]; simp
        have ecall : (bif frO old ds then (zM fu (f.1, f.2) (NLL ((ds ++ [j]).map (gl (A ++ Z)))) (old : Int) (many : Int) true (a.1, a.2, (k : Int), NLL (A ++ Z), M')).bind fun r893 =>
  some ((!r893.1), r893.2.1, r893.2.2) else (zM fu (f.1, f.2) (NLL ((ds ++ [j]).map (gl (A ++ Z)))) (old : Int) (many : Int) (decide ((old : Int) ≤ (j : Int))) (a.1, a.2, (k : Int), NLL (A ++ Z), M')).bind fun r897 =>
  some ((!r897.1), r897.2.1, r897.2.2)) = (zM fu (f.1, f.2) (NLL ((ds ++ [j]).map (gl (A ++ Z)))) (old : Int) (many : Int) (frO old (ds ++ [j])) (a.1, a.2, (k : Int), NLL (A ++ Z), M')).bind (fun r897 =>
            some ((!r897.1), r897.2.1, r897.2.2)) := by
          rw [frO_snoc, Wp]
          cases frO old ds <;> rfl
        obtain ⟨Z2, M2, ok, e, hI2, hok, hno⟩ := VE (old := old) (many := many) ha hf ho hB hk n fu (ds ++ [j]) (A ++ Z) M' (by simp; omega) (by omega) hI' (by simp; omega) hA' (fun d hd => by
          rcases List.mem_append.1 hd with hd | hd
          · exact hds d hd
          · simp at hd; omega)
        simp only [xd (show j < (A ++ Z).length by simp; omega), obs, ey, ecall, e]
        cases ok with
        | false =>
          right; right
          exact ⟨_, rfl, Z ++ Z2, M2, by simp, by rw [← List.append_assoc]; exact hI2, by rw [← List.append_assoc]; exact hno rfl⟩
        | true =>
          left
          obtain ⟨h1, h2⟩ := hok rfl
          refine ⟨_, rfl, Z ++ Z2, M2, by simp, by rw [← List.append_assoc]; exact hI2, by rw [← List.append_assoc]; exact h1, fun i hi es hes hel hfr => ?_⟩
          rw [← List.append_assoc]
          by_cases eij : i = j
          · subst eij
            have := h2 es hes hel (by rw [List.append_assoc]; exact hfr)
            rw [show ds ++ [i] ++ es = ds ++ i :: es by simp, xZ (fun x hx => by
              rcases List.mem_append.1 hx with hx | hx
              · have := hds x hx; omega
              · rcases List.mem_cons.1 hx with rfl | hx
                · omega
                · have := hel x hx; omega)] at this
            exact this
          · exact List.mem_append_left _ (hd i (by omega) es hes hel hfr))
    rcases this with ⟨s', e, h | h⟩ | ⟨r, e, h⟩
    · obtain ⟨Z, M', rfl, h1, h2, h3⟩ := h
      refine ⟨Z, M', true, ?_, h1, fun _ => ⟨h2, fun es hes hel hfr => ?_⟩, fun h => by cases h⟩
      · show ((forC _ 0 (many : Int) (NLL A, M)).bind _) = _
        rw [e]; rfl
      · cases es with
        | nil => cases hes
        | cons i es => exact h3 i (hel i (by simp)) es (by simpa using hes) (fun x hx => hel x (by simp [hx])) hfr
    · exact h.elim
    · obtain ⟨Z, M', rfl, h1, h2⟩ := h
      refine ⟨Z, M', false, ?_, h1, (fun h => by cases h), fun _ => h2⟩
      show ((forC _ 0 (many : Int) (NLL A, M)).bind _) = _
      rw [e]; rfl

set_option linter.unusedVariables false

def DoneO (N : Nat) (ops : List (Int × List Int)) (k old : Nat) (first : Bool) (A : List (List Nat)) : Prop := ∀ f ∈ ops, ∀ K T, OpN N f K T → ∀ ds : List Nat, ds.length = K → (∀ x ∈ ds, x < old) → (K = 0 → first = false) → apT N T (ds.map (gl A)) k ∈ A

theorem DoneO.clsd {N k : Nat} {ops : List (Int × List Int)} {A : List (List Nat)} (h : DoneO N ops k A.length false A) : Clsd N ops k (· ∈ A) := fun f hf K T ho ts hl ht => by
  obtain ⟨ds, h1, h2, h3⟩ := ds_of A ts ht
  have := h f hf K T ho ds (by omega) h2 (fun _ => rfl)
  rwa [h3] at this

theorem span_ops {R : Type} {N k old : Nat} {a : Int × List (Int × List Int)} {B A : List (List Nat)} {M : MI} (bad : R) (ha : AlgN a N) (hB : ∀ t ∈ B, TupN N k t) (hk : k ≤ 1000000) (hI : SpI N a.2 k B A M) (hA : A.length ≤ ZV a.2) :
    (∃ Z M', forR (S := (List (List Int)) × (List (ByteArray × Int))) (R := R) (fun _ x297 s294 =>
  (mkc 0 3).bind fun u317 =>
  (zM FU (x297.1, x297.2) (List.replicate (Int.toNat 0) ([] : List Int)) (old : Int) ((A.length : Nat) : Int) false (a.1, a.2, (k : Int), s294.1, s294.2)).bind fun r321 =>
  (bif (!r321.1) then some (.rt bad) else some (.nx (r321.2.1, r321.2.2)))) 0 a.2 (NLL A, M) = some (.br (NLL (A ++ Z), M')) ∧ SpI N a.2 k B (A ++ Z) M' ∧ (A ++ Z).length ≤ ZV a.2 ∧ ∀ f ∈ a.2, ∀ K T, OpN N f K T → ∀ ds : List Nat, ds.length = K → (∀ x ∈ ds, x < A.length) → (frO old ds = true ∨ (K = 0 ∧ old = 0)) → apT N T (ds.map (gl A)) k ∈ A ++ Z) ∨
    (forR (S := (List (List Int)) × (List (ByteArray × Int))) (R := R) (fun _ x297 s294 =>
  (mkc 0 3).bind fun u317 =>
  (zM FU (x297.1, x297.2) (List.replicate (Int.toNat 0) ([] : List Int)) (old : Int) ((A.length : Nat) : Int) false (a.1, a.2, (k : Int), s294.1, s294.2)).bind fun r321 =>
  (bif (!r321.1) then some (.rt bad) else some (.nx (r321.2.1, r321.2.2)))) 0 a.2 (NLL A, M) = some (.rt bad) ∧ ∃ A2 : List (List Nat), A2.Nodup ∧ (∀ t ∈ A2, Gen N a.2 k B t) ∧ ZV a.2 < A2.length) := by
  have := vr (S := (List (List Int)) × (List (ByteArray × Int))) (R := R) (step := fun _ x297 s294 =>
  (mkc 0 3).bind fun u317 =>
  (zM FU (x297.1, x297.2) (List.replicate (Int.toNat 0) ([] : List Int)) (old : Int) ((A.length : Nat) : Int) false (a.1, a.2, (k : Int), s294.1, s294.2)).bind fun r321 =>
  (bif (!r321.1) then some (.rt bad) else some (.nx (r321.2.1, r321.2.2))))
    (fun pre s => ∃ Z M', s = (NLL (A ++ Z), M') ∧ SpI N a.2 k B (A ++ Z) M' ∧ (A ++ Z).length ≤ ZV a.2 ∧ ∀ f ∈ pre, ∀ K T, OpN N f K T → ∀ ds : List Nat, ds.length = K → (∀ x ∈ ds, x < A.length) → (frO old ds = true ∨ (K = 0 ∧ old = 0)) → apT N T (ds.map (gl A)) k ∈ A ++ Z)
    (fun _ => False)
    (fun r => r = bad ∧ ∃ A2 : List (List Nat), A2.Nodup ∧ (∀ t ∈ A2, Gen N a.2 k B t) ∧ ZV a.2 < A2.length)
    a.2 [] 0 (NLL A, M) ⟨[], M, by rw [lan], by rw [lan]; exact hI, by rw [lan]; exact hA, fun f hf => by cases hf⟩ (by
      rintro i pre' f post s el ⟨Z, M', rfl, hI', hA', hd⟩
      have hf : f ∈ a.2 := by rw [el]; simp
      obtain ⟨K, T, ho⟩ := ha.ops f hf
      have hK := ho.k3
      obtain ⟨Z2, M2, ok, e, hI2, hok, hno⟩ := VE (old := old) (many := A.length) ha hf ho hB hk K FU [] (A ++ Z) M' (by simp) (by unfold FU; omega) hI' (by simp) hA' (fun d hd => by cases hd)
      rw [show mkc 0 3 = some () from rfl, obs]
      rw [show NLL (List.map (gl (A ++ Z)) []) = List.replicate (Int.toNat 0) ([] : List Int) from rfl, show frO old [] = false from rfl] at e
      simp only [e, obs]
      cases ok with
      | false =>
        right; right
        exact ⟨_, rfl, rfl, _, hI2.nd, hI2.gen, hno rfl⟩
      | true =>
        left
        obtain ⟨h1, h2⟩ := hok rfl
        refine ⟨_, rfl, Z ++ Z2, M2, by simp, by rw [← List.append_assoc]; exact hI2, by rw [← List.append_assoc]; exact h1, fun g hg K' T' ho' ds hl hx hfr => ?_⟩
        rw [← List.append_assoc]
        rw [List.nil_append] at hg
        rcases List.mem_append.1 hg with hg | hg
        · exact List.mem_append_left _ (hd g hg K' T' ho' ds hl hx hfr)
        · simp at hg; subst hg
          obtain ⟨rfl, rfl⟩ := ho.uniq ho'
          have := h2 ds hl hx (by simpa using hfr)
          rwa [List.nil_append, xZ hx] at this)
  rcases this with ⟨s', e, h | h⟩ | ⟨r, e, h⟩
  · obtain ⟨Z, M', rfl, h1, h2, h3⟩ := h
    exact .inl ⟨Z, M', e, h1, h2, fun f hf => h3 f (by simpa using hf)⟩
  · exact h.elim
  · obtain ⟨rfl, h⟩ := h
    exact .inr ⟨e, h⟩

theorem spanOf_ok {N k : Nat} {a : Int × List (Int × List Int)} {B : List (List Nat)} (ha : AlgN a N) (hB : ∀ t ∈ B, TupN N k t) (hBl : B.length ≤ 1000) (hk : k ≤ 1000000) :
    (∃ A M, yU (a.1, a.2) (k : Int) (NLL B) = some (some ((a.1, a.2), (k : Int), NLL A, M), true) ∧ SpI N a.2 k B A M ∧ (∀ t ∈ B, t ∈ A) ∧ Clsd N a.2 k (· ∈ A) ∧ A.length ≤ ZV a.2) ∨
    (yU (a.1, a.2) (k : Int) (NLL B) = some (none, false) ∧ ∃ A : List (List Nat), A.Nodup ∧ (∀ t ∈ A, Gen N a.2 k B t) ∧ ZV a.2 < A.length) := by
  have hmo := wy a.2
  have h8 := ha.n8
  unfold yU
  have first := vr (S := (List (List Int)) × (List (ByteArray × Int))) (R := (Option ((Int × (List (Int × (List Int)))) × Int × (List (List Int)) × (List (ByteArray × Int)))) × Bool) (step := fun (_ : Int) (x59 : List Int) s56 =>
  (yR x59).bind fun r76 =>
  (yg r76 (a.1, a.2, (k : Int), s56.1, s56.2)).bind fun r81 =>
  some (.nx (r81.1, r81.2)))
    (fun pre s => ∃ A M, s = (NLL A, M) ∧ SpI N a.2 k B A M ∧ (∀ t, NL t ∈ pre → t ∈ A) ∧ A.length ≤ pre.length)
    (fun _ => False) (fun _ => False)
    (NLL B) [] 0 ([], []) ⟨[], [], rfl, ⟨List.nodup_nil, KIx.nil, List.forall_mem_nil _⟩, (fun t h => by cases h), Nat.le_refl _⟩ (by
      rintro i pre' x post s el ⟨A, M, rfl, hI, hp, hl⟩
      left
      have hx : x ∈ NLL B := by rw [el]; simp
      obtain ⟨t, ht, rfl⟩ := List.mem_map.1 hx
      have hlen : pre'.length ≤ B.length := by
        have := congrArg List.length el
        simp at this; omega
      have htt := hB t ht
      obtain ⟨M', e, hI'⟩ := hI.step ha hB (.base ht) hk (by simp at hl; omega)
      have hc : yR (NL t) = some (NL t) := zbq (by rw [YQ, htt.1]; omega)
      change ∃ s', (yR (NL t)).bind _ = _ ∧ _
      rw [hc, obs]
      simp only [e, obs]
      refine ⟨_, rfl, A ++ addN A t, M', rfl, hI', fun u hu => ?_, ?_⟩
      · rw [List.nil_append] at hu
        rcases List.mem_append.1 hu with hu | hu
        · exact List.mem_append_left _ (hp u (by simpa using hu))
        · simp at hu; rw [zbY hu]; exact zbs _ _
      · have := addN_len A t
        simp at hl ⊢; simp at this; omega)
  rcases first with ⟨s', e1, h | h⟩ | ⟨r, _, h⟩
  rotate_left
  · exact h.elim
  · exact h.elim
  obtain ⟨A, M, rfl, hI, hp, hl⟩ := h
  rw [List.nil_append] at hp hl
  rw [yk] at hl
  have hBA : ∀ t ∈ B, t ∈ A := fun t ht => hp t (List.mem_map.2 ⟨t, ht, rfl⟩)
  rw [e1, obs, zE, wj, obs]
  simp only [yk, Yb]
  by_cases hmA : ZV a.2 < A.length
  · right
    rw [decide_eq_true hmA, ct1]
    exact ⟨rfl, A, hI.nd, hI.gen, hmA⟩
  rw [decide_eq_false hmA, ct0]
  obtain ⟨c, hc, hQ, _⟩ := Ym (S := Int × Bool × (List (List Int)) × (List (ByteArray × Int))) (R := (Option ((Int × (List (Int × (List Int)))) × Int × (List (List Int)) × (List (ByteArray × Int)))) × Bool) (step := fun s238 =>
  (bif (s238.2.1 || (decide (s238.1 < (s238.2.2.1.length : Int)))) then (forR (S := (List (List Int)) × (List (ByteArray × Int))) (R := (Option ((Int × (List (Int × (List Int)))) × Int × (List (List Int)) × (List (ByteArray × Int)))) × Bool) (fun _ x297 s294 =>
  (mkc 0 3).bind fun u317 =>
  (zM FU (x297.1, x297.2) (List.replicate (Int.toNat 0) ([] : List Int)) s238.1 (s238.2.2.1.length : Int) false (a.1, a.2, (k : Int), s294.1, s294.2)).bind fun r321 =>
  (bif (!r321.1) then some (.rt (none, false)) else some (.nx (r321.2.1, r321.2.2)))) 0 a.2 (s238.2.2.1, s238.2.2.2)).bind fun o298 => after o298 (fun r_ => some (.rt r_)) (fun s294 =>
  some (.nx ((s238.2.2.1.length : Int), false, s294.1, s294.2))) else some (.br (s238.1, s238.2.1, s238.2.2.1, s238.2.2.2))))
    (fun s => ∃ (old : Nat) (first : Bool) (A : List (List Nat)) (M : MI), s = ((old : Int), first, NLL A, M) ∧ SpI N a.2 k B A M ∧ old ≤ A.length ∧ A.length ≤ ZV a.2 ∧ (first = true → old = 0) ∧ DoneO N a.2 k old first A ∧ ∀ t ∈ B, t ∈ A)
    (fun s => 1000 - s.1.toNat + (if s.2.1 then 1 else 0))
    (fun c => (∃ (A : List (List Nat)) (M : MI) (x : Int), c = .br (x, false, NLL A, M) ∧ SpI N a.2 k B A M ∧ A.length ≤ ZV a.2 ∧ Clsd N a.2 k (· ∈ A) ∧ ∀ t ∈ B, t ∈ A) ∨ (c = .rt (none, false) ∧ ∃ A : List (List Nat), A.Nodup ∧ (∀ t ∈ A, Gen N a.2 k B t) ∧ ZV a.2 < A.length))
    FU (0, true, NLL A, M) ⟨0, true, A, M, rfl, hI, Nat.zero_le _, by omega, fun _ => rfl, fun f hf K T ho ds hds hx h0 => by
      cases ds with
      | nil => exact absurd (h0 (by simpa using hds.symm)) (by simp)
      | cons d ds => exact absurd (hx d (by simp)) (by omega), hBA⟩ (by simp [FU]) (by
      rintro s ⟨old, first, A, M, rfl, hI, hoA, hA, hf0, hd, hBA⟩
      simp only [yk, Yb]
      by_cases hgo : first = true ∨ old < A.length
      · rw [show (first || decide (old < A.length)) = true by rcases hgo with h | h <;> simp [h], ct1]
        rcases span_ops (R := (Option ((Int × (List (Int × (List Int)))) × Int × (List (List Int)) × (List (ByteArray × Int)))) × Bool) (old := old) (none, false) ha hB hk hI hA with ⟨Z, M', e, hI', hA', hd'⟩ | ⟨e, h⟩
        · left
          rw [e, obs, zE]
          refine ⟨_, rfl, ⟨A.length, false, A ++ Z, M', rfl, hI', by simp, hA', (fun h => by cases h), fun f hf K T ho ds hds hx _ => ?_, fun t ht => List.mem_append_left _ (hBA t ht)⟩, ?_⟩
          · rw [xZ hx]
            by_cases hfr : frO old ds = true ∨ (K = 0 ∧ old = 0)
            · exact hd' f hf K T ho ds hds hx hfr
            · refine List.mem_append_left _ (hd f hf K T ho ds hds (fun x hx' => ?_) (fun hK0 => ?_))
              · rcases Nat.lt_or_ge x old with h | h
                · exact h
                · exact absurd (.inl (List.any_eq_true.2 ⟨x, hx', by simpa using h⟩)) hfr
              · cases first with
                | false => rfl
                | true => exact absurd (.inr ⟨hK0, hf0 rfl⟩) hfr
          · cases first with
            | true => have := hf0 rfl; subst this; simp; omega
            | false =>
              have : old < A.length := by simpa using hgo
              simp; omega
        · right
          rw [e, obs, Vc]
          exact ⟨_, rfl, by intro s; simp, .inr ⟨rfl, h⟩⟩
      · right
        have hfi : first = false := by
          cases first with
          | false => rfl
          | true => exact absurd (.inl rfl) hgo
        have e : old = A.length := by
          have : ¬ old < A.length := fun h => hgo (.inr h)
          omega
        subst hfi
        rw [show (false || decide (old < A.length)) = false by simp; omega, ct0]
        refine ⟨_, rfl, by intro s; simp, .inl ⟨A, M, _, rfl, hI, hA, ?_, hBA⟩⟩
        rw [e] at hd
        exact hd.clsd)
  rw [show (0 : Int) = ((0 : Nat) : Int) from rfl] at hc ⊢
  rcases hQ with ⟨A2, M2, x, rfl, h1, h2, h3, h4⟩ | ⟨rfl, h⟩
  · left
    rw [hc]
    exact ⟨A2, M2, rfl, h1, h4, h3, h2⟩
  · right
    rw [hc]
    exact ⟨rfl, h⟩

theorem Vf {L M : List (List Nat)} (h : L.Nodup) (hs : ∀ x ∈ L, x ∈ M) : L.length ≤ M.length := by
  induction L generalizing M with
  | nil => simp
  | cons x L ih =>
    rw [List.nodup_cons] at h
    have hx := hs x (by simp)
    have := ih (M := M.erase x) h.2 (fun y hy => by
      have hne : y ≠ x := fun e => h.1 (e ▸ hy)
      exact (List.mem_erase_of_ne hne).2 (hs y (by simp [hy])))
    rw [List.length_erase_of_mem hx] at this
    have : 0 < M.length := List.length_pos_of_mem hx
    simp; omega

theorem span_both {N k : Nat} {a : Int × List (Int × List Int)} {B : List (List Nat)} (ha : AlgN a N) (hB : ∀ t ∈ B, TupN N k t) (hBl : B.length ≤ 1000) (hk : k ≤ 1000000) :
    (∃ A' A M, Zb (a.1, a.2) (k : Int) (NLL B) = some (NLL A', true) ∧ yU (a.1, a.2) (k : Int) (NLL B) = some (some ((a.1, a.2), (k : Int), NLL A, M), true) ∧ yp (NLL A) = some (NLL A') ∧
      SpI N a.2 k B A M ∧ Sorted A' ∧ (∀ t, t ∈ A ↔ t ∈ A') ∧ (∀ t, t ∈ A' ↔ Gen N a.2 k B t) ∧ A'.length ≤ 300 ∧ A.length = A'.length) ∨
    (∃ A', Zb (a.1, a.2) (k : Int) (NLL B) = some (NLL A', false) ∧ yU (a.1, a.2) (k : Int) (NLL B) = some (none, false)) := by
  have hmo := wy a.2
  obtain ⟨A', e1, hs, hg, hb, hl, hcl⟩ := zbZ ha hB hBl hk
  have nd' : A'.Nodup := xO yS hs
  rcases spanOf_ok ha hB hBl hk with ⟨A, M, e2, hI, hBA, hclA, hA⟩ | ⟨e2, A, nd, hgA, hmA⟩
  · left
    have allA : ∀ t, Gen N a.2 k B t → t ∈ A := fun t ht => ht.least hBA hclA
    have h1 : A'.length ≤ A.length := Vf nd' (fun t ht => allA t (hg t ht))
    have hle : A'.length ≤ ZV a.2 := by omega
    have allA' : ∀ t, Gen N a.2 k B t → t ∈ A' := fun t ht => ht.least hb (hcl hle)
    have h2 : A.length ≤ A'.length := Vf hI.nd (fun t ht => allA' t (hI.gen t ht))
    have hlen : ∀ t ∈ A, t.length = k := fun t ht => ((hI.gen t ht).tup hB).1
    obtain ⟨S, e3, hp, hsS⟩ := VS (k := k) (by omega) (by omega) hlen
    have eS : S = A' := by
      refine zbM ?_ ?_ (fun t => ?_)
      · have ndS : S.Nodup := hp.nodup_iff.2 hI.nd
        refine List.Pairwise.imp_of_mem ?_ (List.Pairwise.and hsS ndS)
        rintro x y hx hy ⟨h1, h2⟩
        have lx := hlen x (hp.mem_iff.1 hx)
        have ly := hlen y (hp.mem_iff.1 hy)
        rw [← Wz (by omega)] at h1 ⊢
        exact Vl (by omega) h1 (fun e => h2 e.symm)
      · refine List.Pairwise.imp_of_mem ?_ hs
        intro x y hx hy h
        rw [← Wz (by rw [((hg x hx).tup hB).1, ((hg y hy).tup hB).1])]; exact h
      · rw [hp.mem_iff]; exact ⟨fun h => allA' t (hI.gen t h), fun h => allA t (hg t h)⟩
    subst eS
    exact ⟨S, A, M, by rw [e1, decide_eq_true hle], e2, e3, hI, hs, fun t => hp.symm.mem_iff, fun t => ⟨hg t, allA' t⟩, by omega, by omega⟩
  · right
    refine ⟨A', ?_, e2⟩
    rw [e1]
    congr 2
    rw [decide_eq_false_iff_not]
    intro hle
    have := Vf nd (M := A') (fun t ht => (hgA t ht).least hb (hcl hle))
    omega

set_option linter.unusedVariables false

def tupB (n k : Int) (t : List Int) : Bool := decide ((t.length : Int) = k) && t.all fun x => decide (0 ≤ x) && decide (x < n)

theorem zbR {n : Int} (hn : -9223372036854775807 ≤ n) (hn' : n ≤ 9223372036854775807) (k : Int) (t : List Int) (hl : t.length ≤ 9223372036854775807) : YU n k t = some (tupB n k t) := by
  unfold YU tupB
  by_cases h : (t.length : Int) = k
  · rw [show ((t.length : Int) == k) = true by simpa using h, ct1, wk hn hn' _ hl, obs, decide_eq_true h, Bool.true_and]
  · rw [show ((t.length : Int) == k) = false by simpa using h, ct0, decide_eq_false h, Bool.false_and]

theorem zbr {n : Int} (hn : -9223372036854775807 ≤ n) (hn' : n ≤ 9223372036854775807) (k : Int) (ts : List (List Int)) (hb : B2 ts) : YL n k ts = some (ts.all (tupB n k) && (decide (1 ≤ k) && decide (k ≤ 64))) := by
  unfold YL
  have hl := hb.1
  rw [XC (R := Bool) (p := fun j => tupB n k (ts[j]?.getD [])) (r := false) (n := ts.length) rfl (by omega) (fun j hj => by
    have hx : ts[j].length ≤ 1048576 := hb.2 _ (List.getElem_mem hj)
    rw [Zv, gge hj, obs, zbR hn hn' k _ (by omega), obs, Option.getD_some]
    cases tupB n k ts[j] <;> rfl), Vd ts (tupB n k) []]
  cases ts.all (tupB n k) with
  | false => rfl
  | true =>
    rw [ct1, obs, zE, Wy]; rfl

theorem tupB_of {N k : Nat} {B : List (List Nat)} (h : ∀ t ∈ B, TupN N k t) : (NLL B).all (tupB (N : Int) (k : Int)) = true := by
  rw [List.all_eq_true]
  intro x hx
  obtain ⟨t, ht, rfl⟩ := List.mem_map.1 hx
  unfold tupB
  rw [Bool.and_eq_true, decide_eq_true_eq, YQ]
  exact ⟨by rw [(h t ht).1], zbe.2 ⟨t, rfl, (h t ht).2⟩⟩

set_option linter.unusedVariables false

def arO (ops : List (Int × List Int)) (x : Int) : Nat := ((ops[(-1 - x).toNat]?.getD (0, [])).1).toNat

def tbO (ops : List (Int × List Int)) (x : Int) : List Nat := (ops[(-1 - x).toNat]?.getD (0, [])).2.map Int.toNat

def okT (ops : List (Int × List Int)) : Nat → List Int → Bool
  | 0, [] => true
  | 0, _ :: _ => false
  | _ + 1, [] => false
  | n + 1, x :: t => if 0 ≤ x then decide (x < 6) && okT ops n t else decide (-(ops.length : Int) ≤ x) && okT ops (n + arO ops x) t

theorem vP (T : List Nat) : (NL T).map Int.toNat = T := by
  unfold NL; rw [List.map_map]
  conv => rhs; rw [← List.map_id T]
  rfl

theorem UQ {N : Nat} {a : Int × List (Int × List Int)} (ha : AlgN a N) {x : Int} (h0 : ¬ 0 ≤ x) (h1 : -(a.2.length : Int) ≤ x) : ∃ (j : Nat) (hj : j < a.2.length), w64 ((-1) - x) = (j : Int) ∧ x = -1 - (j : Int) ∧ OpN N a.2[j] (arO a.2 x) (tbO a.2 x) ∧ idx a.2 (j : Int) = some (((arO a.2 x : Nat) : Int), NL (tbO a.2 x)) := by
  have hl := ha.l4
  have hj : (-1 - x).toNat < a.2.length := by omega
  obtain ⟨K, T, e1, e2, ho⟩ := WI ha hj
  have eK : arO a.2 x = K := by unfold arO; rw [gge hj, Option.getD_some, e2]; simp
  have eT : tbO a.2 x = T := by unfold tbO; rw [gge hj, Option.getD_some, e2]; exact vP T
  refine ⟨(-1 - x).toNat, hj, ?_, by omega, by rw [eK, eT]; exact ho, by rw [eK, eT]; exact e1⟩
  rw [zP (by omega) (by omega)]; omega

theorem ua {ops : List (Int × List Int)} : ∀ {t : List Int} {n : Nat}, okT ops n t = true → ∀ x ∈ t, (0 ≤ x → x < 6) ∧ (¬ 0 ≤ x → -(ops.length : Int) ≤ x)
  | [], _, _, x, hx => by cases hx
  | y :: t, 0, h, _, _ => by cases h
  | y :: t, n + 1, h, x, hx => by
    unfold okT at h
    by_cases hy : 0 ≤ y
    · rw [if_pos hy, Bool.and_eq_true, decide_eq_true_eq] at h
      rcases List.mem_cons.1 hx with rfl | hx
      · exact ⟨fun _ => h.1, fun h' => absurd hy h'⟩
      · exact ua h.2 x hx
    · rw [if_neg hy, Bool.and_eq_true, decide_eq_true_eq] at h
      rcases List.mem_cons.1 hx with rfl | hx
      · exact ⟨fun h' => absurd h' hy, fun _ => h.1⟩
      · exact ua h.2 x hx

theorem vI {ops : List (Int × List Int)} : ∀ {t : List Int} {n : Nat} (i : Nat), okT ops n t = true → ∃ m, okT ops m (t.drop i) = true
  | t, n, 0, h => ⟨n, by simpa using h⟩
  | [], n, i + 1, h => ⟨n, by simpa using h⟩
  | y :: t, 0, i + 1, h => by cases h
  | y :: t, n + 1, i + 1, h => by
    unfold okT at h
    rw [List.drop_succ_cons]
    by_cases hy : 0 ≤ y
    · rw [if_pos hy, Bool.and_eq_true] at h; exact vI i h.2
    · rw [if_neg hy, Bool.and_eq_true] at h; exact vI i h.2

def evG {α : Type} (var : Nat → α) (app : Int → List α → α) (ops : List (Int × List Int)) : List Int → List α
  | [] => []
  | x :: t => if 0 ≤ x then var x.toNat :: evG var app ops t else app x ((evG var app ops t).take (arO ops x)) :: (evG var app ops t).drop (arO ops x)

section
variable {α β : Type} {var : Nat → α} {app : Int → List α → α} {ops : List (Int × List Int)}

theorem wc : ∀ {t : List Int} {n : Nat}, okT ops n t = true → (evG var app ops t).length = n
  | [], 0, _ => rfl
  | [], n + 1, h => by cases h
  | y :: t, 0, h => by cases h
  | y :: t, n + 1, h => by
    unfold okT at h
    unfold evG
    by_cases hy : 0 ≤ y
    · rw [if_pos hy, Bool.and_eq_true] at h
      rw [if_pos hy, List.length_cons, wc h.2]
    · rw [if_neg hy, Bool.and_eq_true] at h
      rw [if_neg hy, List.length_cons, List.length_drop, wc h.2]; omega

theorem zai {P : α → Prop} : ∀ {t : List Int} {n : Nat}, okT ops n t = true → (∀ x ∈ t, 0 ≤ x → P (var x.toNat)) → (∀ x ∈ t, ¬ 0 ≤ x → ∀ args, args.length = arO ops x → (∀ y ∈ args, P y) → P (app x args)) → ∀ y ∈ evG var app ops t, P y
  | [], _, _, _, _, y, hy => by cases hy
  | x :: t, 0, h, _, _, _, _ => by cases h
  | x :: t, n + 1, h, hv, ha, y, hy => by
    unfold okT at h
    unfold evG at hy
    by_cases hx : 0 ≤ x
    · rw [if_pos hx, Bool.and_eq_true] at h
      rw [if_pos hx] at hy
      rcases List.mem_cons.1 hy with rfl | hy
      · exact hv x (by simp) hx
      · exact zai h.2 (fun z hz => hv z (by simp [hz])) (fun z hz => ha z (by simp [hz])) y hy
    · rw [if_neg hx, Bool.and_eq_true] at h
      rw [if_neg hx] at hy
      have ih := zai (P := P) h.2 (fun z hz => hv z (by simp [hz])) (fun z hz => ha z (by simp [hz]))
      rcases List.mem_cons.1 hy with rfl | hy
      · exact ha x (by simp) hx _ (by rw [List.length_take, wc h.2]; omega) (fun y hy => ih y (List.mem_of_mem_take hy))
      · exact ih y (List.mem_of_mem_drop hy)

end

def evN (N : Nat) (ops : List (Int × List Int)) (vs : List Nat) (t : List Int) : List Nat := evG (fun i => ga vs i) (fun x args => ga (tbO ops x) (ix N 0 args)) ops t

theorem UD {S : List Nat} {i : Nat} (h : i < S.length) : ga S.reverse (S.length - 1 - i) = ga S i := by
  rw [xM (by simp; omega), xM h, List.getElem_reverse]
  congr 1; omega

theorem evN_lt {N : Nat} {a : Int × List (Int × List Int)} (ha : AlgN a N) {vs : List Nat} {t : List Int} {n : Nat} (h : okT a.2 n t = true) (hx : ∀ x ∈ t, 0 ≤ x → x.toNat < vs.length) (hv : ∀ v ∈ vs, v < N) : ∀ y ∈ evN N a.2 vs t, y < N :=
  zai (P := fun y => y < N) h (fun x hx' h0 => hv _ (yG (hx x hx' h0))) (fun x hx' h0 args hl hargs => by
    obtain ⟨j, hj, _, _, ho, _⟩ := UQ ha h0 ((ua h x hx').2 h0)
    refine ho.lt _ (yG ?_)
    rw [ho.len]; exact Xm hargs hl)

def stF (N : Nat) (ops : List (Int × List Int)) (vs : List Nat) (t : List Int) (n : Nat) : List Int × Int := (NL (evN N ops vs (t.drop (t.length - n))).reverse, (t.length : Int) - 1 - (n : Int))

theorem slc_rev {S : List Nat} {K : Nat} (h : K ≤ S.length) : slc (NL S.reverse) 0 (((S.length - K : Nat)) : Int) = some (NL (S.drop K).reverse) := by
  rw [zaC (by simp), List.reverse_drop]
  unfold NL
  rw [← List.map_take]

section
variable {N : Nat} {a : Int × List (Int × List Int)} {t : List Int} {vs : List Nat}

theorem zbm (ha : AlgN a N) (ht : okT a.2 1 t = true) (hl : t.length ≤ 60) (hx : ∀ x ∈ t, 0 ≤ x → x.toNat < vs.length) (hv : ∀ v ∈ vs, v < N) {j : Nat} (hj : j < t.length) :
    ∃ (x : Int) (S : List Nat), idx t ((t.length : Int) - 1 - (j : Int)) = some x ∧ stF N a.2 vs t j = (NL S.reverse, (t.length : Int) - 1 - (j : Int)) ∧ S.length ≤ 1000 ∧ (∀ y ∈ S, y < N) ∧
      ((0 ≤ x ∧ x.toNat < vs.length ∧ stF N a.2 vs t (j + 1) = (NL S.reverse ++ [((ga vs x.toNat : Nat) : Int)], (t.length : Int) - 1 - (j : Int) - 1)) ∨
       (¬ 0 ≤ x ∧ -(a.2.length : Int) ≤ x ∧ arO a.2 x ≤ S.length ∧ stF N a.2 vs t (j + 1) = (NL (S.drop (arO a.2 x)).reverse ++ [((ga (tbO a.2 x) (ix N 0 (S.take (arO a.2 x))) : Nat) : Int)], (t.length : Int) - 1 - (j : Int) - 1))) := by
  have hi : t.length - 1 - j < t.length := by omega
  have ed : t.drop (t.length - (j + 1)) = t[t.length - 1 - j] :: t.drop (t.length - j) := by
    rw [show t.length - (j + 1) = t.length - 1 - j by omega, show t.length - j = t.length - 1 - j + 1 by omega, List.drop_eq_getElem_cons hi]
  obtain ⟨m, hm⟩ := vI (t.length - (j + 1)) ht
  obtain ⟨m', hm'⟩ := vI (t.length - j) ht
  have hS := wc (var := fun i => ga vs i) (app := fun x args => ga (tbO a.2 x) (ix N 0 args)) hm'
  have hmem : ∀ x ∈ t.drop (t.length - j), 0 ≤ x → x.toNat < vs.length := fun x h => hx x (List.mem_of_mem_drop h)
  have hlt := evN_lt ha hm' hmem hv
  have hbd : ∀ (u : List Int), (evN N a.2 vs u).length ≤ u.length := fun u => by
    induction u with
    | nil => simp [evN, evG]
    | cons y u ih =>
      unfold evN evG
      split
      · simpa [evN] using ih
      · simp [evN] at ih ⊢; omega
  have hlen := hbd (t.drop (t.length - j))
  have hb : (evN N a.2 vs (t.drop (t.length - j))).length ≤ 1000 := by rw [List.length_drop] at hlen; omega
  refine ⟨t[t.length - 1 - j], evN N a.2 vs (t.drop (t.length - j)), ?_, rfl, hb, hlt, ?_⟩
  · rw [show (t.length : Int) - 1 - (j : Int) = ((t.length - 1 - j : Nat) : Int) by omega, Zv, gge hi]
  · have hxm : t[t.length - 1 - j] ∈ t := List.getElem_mem hi
    rw [ed] at hm
    by_cases h0 : 0 ≤ t[t.length - 1 - j]
    · left
      refine ⟨h0, hx _ hxm h0, ?_⟩
      unfold stF
      rw [ed]
      conv => lhs; unfold evN evG
      rw [if_pos h0, List.reverse_cons, Vh]
      refine Prod.ext rfl ?_
      show _ - _ = _; omega
    · right
      refine ⟨h0, (ua ht _ hxm).2 h0, ?_, ?_⟩
      · cases m with
        | zero => cases hm
        | succ m =>
          unfold okT at hm
          rw [if_neg h0, Bool.and_eq_true] at hm
          have := wc (var := fun i => ga vs i) (app := fun x args => ga (tbO a.2 x) (ix N 0 args)) hm.2
          show _ ≤ (evG _ _ _ _).length
          rw [this]; omega
      · unfold stF
        rw [ed]
        conv => lhs; unfold evN evG
        rw [if_neg h0, List.reverse_cons, Vh]
        refine Prod.ext rfl ?_
        show _ - _ = _; omega

theorem zbJ (ha : AlgN a N) (ht : okT a.2 1 t = true) (hl : t.length ≤ 60) (hx : ∀ x ∈ t, 0 ≤ x → x.toNat < vs.length) (hv : ∀ v ∈ vs, v < N) : YW (a.1, a.2) t (NL vs) = some ((ga (evN N a.2 vs t) 0 : Nat) : Int) := by
  have hlen1 : (evN N a.2 vs t).length = 1 := wc ht
  unfold YW
  rw [XT (R := Int) (stF N a.2 vs t) (t := stF N a.2 vs t t.length) t.length (by omega) (by
      unfold stF
      rw [Nat.sub_zero, List.drop_length, zP (by omega) (by omega)]
      exact Prod.ext rfl (by show (t.length : Int) - 1 = _; omega)) (fun j hj => by
    obtain ⟨x, S, e1, e2, hS, hSx, h⟩ := zbm ha ht hl hx hv hj
    rw [e2]
    simp only [show decide (0 ≤ (t.length : Int) - 1 - (j : Int)) = true by simp; omega, ct1, e1, obs, show w64 ((t.length : Int) - 1 - (j : Int) - 1) = (t.length : Int) - 1 - (j : Int) - 1 from zP (by omega) (by omega)]
    rcases h with ⟨h0, hxl, e3⟩ | ⟨h0, h1, hK, e3⟩
    · rw [decide_eq_true h0, ct1, e3]
      obtain ⟨y, rfl⟩ : ∃ y : Nat, x = (y : Int) := ⟨x.toNat, by omega⟩
      rw [itn] at hxl ⊢
      rw [ZE hxl, obs, yv (by simp; omega), obs]
    · obtain ⟨op, hop, ew, ex, ho, ei⟩ := UQ ha h0 h1
      have hK3 := ho.k3
      rw [decide_eq_false h0, ct0, e3, ew]
      simp only [ei, obs, YQ, List.length_reverse]
      rw [XT (R := Int) (S := List Int × Int) (s := ([], 0)) (fun n => (NL (S.take n), (n : Int))) (t := (NL (S.take (arO a.2 x)), ((arO a.2 x : Nat) : Int))) (arO a.2 x) (by omega) rfl (fun n hn => by
        simp only [Yb, decide_eq_true hn, ct1]
        rw [show w64 ((S.length : Int) - 1) = (S.length : Int) - 1 from zP (by omega) (by omega), zP (by omega) (by omega), show (S.length : Int) - 1 - (n : Int) = ((S.length - 1 - n : Nat) : Int) by omega, ZE (by simp; omega), obs, UD (by omega), yv (by simp; omega), obs, Yo (by omega)]
        have e : S.take (n + 1) = S.take n ++ [ga S n] := by rw [List.take_add_one, gge (by omega), xM (by omega)]; rfl
        rw [e, Vh]; rfl) (by simp), obs, zE]
      have hTk : (S.take (arO a.2 x)).length = arO a.2 x := by rw [List.length_take]; omega
      simp only [YQ, hTk]
      rw [show w64 ((S.length : Int) - ((arO a.2 x : Nat) : Int)) = ((S.length - arO a.2 x : Nat) : Int) from w64_sub hK (by omega), slc_rev hK, obs, vQ (by simp; omega), obs, ug ha.n1 ha.n8 ha.eN hop ho hTk (fun y hy => hSx y (List.mem_of_mem_take hy)), obs, yv (by simp; omega), obs]) (by
    have : (stF N a.2 vs t t.length).2 = -1 := by unfold stF; show (t.length : Int) - 1 - (t.length : Int) = -1; omega
    obtain ⟨S0, hS0⟩ : ∃ S0, stF N a.2 vs t t.length = (S0, -1) := ⟨_, Prod.ext rfl this⟩
    rw [hS0]; rfl), obs, zE]
  unfold stF
  rw [Nat.sub_self, List.drop_zero]
  show ((idx (NL (evN N a.2 vs t).reverse) ((0 : Nat) : Int)).bind _) = _
  rw [ZE (by simp; omega), obs]
  have : ga (evN N a.2 vs t).reverse 0 = ga (evN N a.2 vs t) 0 := by
    have := UD (S := evN N a.2 vs t) (i := 0) (by omega)
    rw [hlen1] at this; exact this
  rw [this]

theorem eval_eq (ha : AlgN a N) (ht : okT a.2 1 t = true) (hl : t.length ≤ 60) (hx : ∀ x ∈ t, 0 ≤ x → x.toNat < vs.length) (hv : ∀ v ∈ vs, v < N) : Xl (a.1, a.2) t (NL vs) = some ((ga (evN N a.2 vs t) 0 : Nat) : Int) := by
  have hlen1 : (evN N a.2 vs t).length = 1 := wc ht
  have h8 := ha.n8
  unfold Xl
  rw [show mkc 0 (t.length : Int) = some () by unfold mkc; rw [if_pos ⟨by omega, by omega, by omega⟩], obs]
  rw [XT (R := Int) (stF N a.2 vs t) (t := stF N a.2 vs t t.length) t.length (by omega) (by
      unfold stF
      rw [Nat.sub_zero, List.drop_length, zP (by omega) (by omega)]
      exact Prod.ext rfl (by show (t.length : Int) - 1 = _; omega)) (fun j hj => by
    obtain ⟨x, S, e1, e2, hS, hSx, h⟩ := zbm ha ht hl hx hv hj
    rw [e2]
    simp only [show decide (0 ≤ (t.length : Int) - 1 - (j : Int)) = true by simp; omega, ct1, e1, obs, show w64 ((t.length : Int) - 1 - (j : Int) - 1) = (t.length : Int) - 1 - (j : Int) - 1 from zP (by omega) (by omega)]
    rcases h with ⟨h0, hxl, e3⟩ | ⟨h0, h1, hK, e3⟩
    · rw [decide_eq_true h0, ct1, e3]
      obtain ⟨y, rfl⟩ : ∃ y : Nat, x = (y : Int) := ⟨x.toNat, by omega⟩
      rw [itn] at hxl ⊢
      rw [ZE hxl, obs, yv (by simp; omega), obs]
    · obtain ⟨op, hop, ew, ex, ho, ei⟩ := UQ ha h0 h1
      have hK3 := ho.k3
      rw [decide_eq_false h0, ct0, e3, ew]
      simp only [ei, obs, YQ, List.length_reverse]
      have hb : ∀ m, m ≤ arO a.2 x → ix N 0 (S.take m) < N ^ m := fun m hm => Xm (fun y hy => hSx y (List.mem_of_mem_take hy)) (by rw [List.length_take]; omega)
      have pw : ∀ m, m ≤ arO a.2 x → N ^ m ≤ 512 := fun m hm => xY h8 (by omega)
      rw [xm (R := Int) (F := fun m => ((ix N 0 (S.take m) : Nat) : Int)) (n := arO a.2 x) (s := 0) rfl (by omega) rfl (fun m hm => by
        have b1 := hb m (by omega)
        have b2 := pw m (by omega)
        have b3 : ix N 0 (S.take m) * N ≤ 512 * 8 := Nat.mul_le_mul (by omega) h8
        have b4 := hSx _ (yG (T := S) (k := m) (by omega))
        rw [show w64 ((S.length : Int) - 1) = (S.length : Int) - 1 from zP (by omega) (by omega), zP (by omega) (by omega), show (S.length : Int) - 1 - (m : Int) = ((S.length - 1 - m : Nat) : Int) by omega, ZE (by simp; omega), obs, UD (by omega), show a.1 = (N : Int) from ha.eN, WB (by omega), wE (by omega)]
        have e : S.take (m + 1) = S.take m ++ [ga S m] := by rw [List.take_add_one, gge (by omega), xM (by omega)]; rfl
        rw [e, Wu]; rfl), obs, zE]
      rw [show w64 ((S.length : Int) - ((arO a.2 x : Nat) : Int)) = ((S.length - arO a.2 x : Nat) : Int) from w64_sub hK (by omega), slc_rev hK, obs, ZE (by rw [ho.len]; exact hb _ (Nat.le_refl _)), obs, yv (by simp; omega), obs]) (by
    have : (stF N a.2 vs t t.length).2 = -1 := by unfold stF; show (t.length : Int) - 1 - (t.length : Int) = -1; omega
    obtain ⟨S0, hS0⟩ : ∃ S0, stF N a.2 vs t t.length = (S0, -1) := ⟨_, Prod.ext rfl this⟩
    rw [hS0]; rfl), obs, zE]
  unfold stF
  rw [Nat.sub_self, List.drop_zero]
  show ((idx (NL (evN N a.2 vs t).reverse) ((0 : Nat) : Int)).bind _) = _
  rw [ZE (by simp; omega), obs]
  have : ga (evN N a.2 vs t).reverse 0 = ga (evN N a.2 vs t) 0 := by
    have := UD (S := evN N a.2 vs t) (i := 0) (by omega)
    rw [hlen1] at this; exact this
  rw [this]

end

set_option linter.unusedVariables false

theorem forI_nx1 {S R : Type} {step : Int → S → Option (Ctl S R)} {k : Nat} {i : Int} {s s' : S} (h : step i s = some (.nx s')) : forI step (k + 1) i s = forI step k (i + 1) s' := by
  conv => lhs; unfold forI
  rw [h]

theorem forI_rt1 {S R : Type} {step : Int → S → Option (Ctl S R)} {k : Nat} {i : Int} {s : S} {r : R} (h : step i s = some (.rt r)) : forI step (k + 1) i s = some (.rt r) := by
  conv => lhs; unfold forI
  rw [h]

def genR (N k c : Nat) : List Nat := (List.range (N ^ k)).map fun i => ga (dig N k i) c

def genL (N k : Nat) : List (List Nat) := (List.range k).map (genR N k)

theorem genR_tup {N k c : Nat} (hN : 1 ≤ N) : TupN N (N ^ k) (genR N k c) := by
  refine ⟨by simp [genR], fun x hx => ?_⟩
  obtain ⟨i, _, rfl⟩ := List.mem_map.1 hx
  rcases Nat.lt_or_ge c k with h | h
  · exact Xa (by omega) k i _ (yG (by simpa using h))
  · rw [ga_ge (by simpa using h)]; omega

theorem vO {N k : Nat} (hN : 1 ≤ N) : ∀ t ∈ genL N k, TupN N (N ^ k) t := fun t ht => by
  obtain ⟨c, _, rfl⟩ := List.mem_map.1 ht
  exact genR_tup hN

section
variable {N k : Nat} {a : Int × List (Int × List Int)} {t : List Int}

theorem zbt {N k : Nat} (h8 : N ≤ 8) (hk : k ≤ 3) : N ^ k ≤ 512 := xY h8 hk

end

set_option linter.unusedVariables false

theorem Xk (N k : Nat) : (genL N k).length = k := by simp [genL]

theorem genL_at {N k c : Nat} (h : c < k) : gl (genL N k) c = genR N k c := by
  rw [yZ (by rw [Xk]; exact h)]; simp [genL]

theorem wK {N k : Nat} {a : Int × List (Int × List Int)} (ha : AlgN a N) (hk : k ≤ 3) : Ye (a.1, a.2) (k : Int) = some (NLL (genL N k)) := by
  have h1 := ha.n1
  have hp := zbt ha.n8 hk
  have epw : Zl a.1 (k : Int) = some ((N ^ k : Nat) : Int) := XO ha.eN rfl h1 (by omega) (by omega)
  unfold Ye
  rw [xg (R := List (List Int)) (v := fun c => NL (genR N k c)) (n := k) rfl (by omega) (fun c s hc hs => by
    rw [XT (R := List (List Int)) (S := List Int × Int) (s := ([], 0)) (fun n => (NL ((List.range n).map fun i => ga (dig N k i) c), (n : Int))) (t := (NL (genR N k c), ((N ^ k : Nat) : Int))) (N ^ k) (by omega) rfl (fun j hj => by
      simp only [epw, obs, Yb, decide_eq_true hj, ct1]
      rw [show a.1 = (N : Int) from ha.eN, l2ArgsN (by omega) h1 (by omega), obs, ZE (by simpa using hc), obs, yv (by simp; omega), obs, Yo (by omega), List.range_succ, List.map_append, Vh]; rfl) (by
      simp only [epw, obs, Yb, show decide (N ^ k < N ^ k) = false by simp, ct0]; rfl), obs, zE])]
  show some ((List.range k).map _) = _
  unfold genL NLL
  rw [List.map_map]; rfl

theorem zcc {N k : Nat} {a : Int × List (Int × List Int)} (ha : AlgN a N) (hg : zZ (a.1, a.2) = some true) (hk : k ≤ 3) : zX (a.1, a.2) (k : Int) = some (decide (N ^ k ≤ 64)) := by
  have hp := zbt ha.n8 hk
  have epw : Zl a.1 (k : Int) = some ((N ^ k : Nat) : Int) := XO ha.eN rfl ha.n1 (by omega) (by omega)
  unfold zX
  rw [hg, obs, ct1, Wy, obs, show (decide ((0 : Int) ≤ (k : Int)) && decide ((k : Int) ≤ 3)) = true by simp <;> omega, ct1, epw, obs]
  congr 1
  rw [decide_eq_decide]; omega

theorem reindex {R : Type} {A A' : List (List Nat)} {M : MI} (hM : KIx M A) (hmem : ∀ t, t ∈ A ↔ t ∈ A') (nd : A'.Nodup) (hs : ∀ t ∈ A', (∀ x ∈ t, x < 65536) ∧ t.length ≤ 1000000000) (hl : A'.length ≤ 300) :
    ∃ M', forC (S := MI) (R := R) (fun k199 s197 =>
  (idx (NLL A') k199).bind fun x205 =>
  (ZC x205).bind fun r211 =>
  some (.nx (mput s197 r211 k199))) 0 ((NLL A').length : Int) M = some (.br M') ∧ KIx M' A' := by
  have := Zo (S := MI) (R := R) (step := fun k199 s197 =>
  (idx (NLL A') k199).bind fun x205 =>
  (ZC x205).bind fun r211 =>
  some (.nx (mput s197 r211 k199))) (n := A'.length) (hi := ((NLL A').length : Int)) (s := M)
    (fun j M => ∀ t : List Nat, (∀ x ∈ t, x < 65536) → mget M (kkey t) = if t ∈ A' then (if A'.idxOf t < j then some ((A'.idxOf t : Nat) : Int) else some ((A.idxOf t : Nat) : Int)) else none)
    (fun _ => False) (fun _ => False) (by simp) (by omega) (fun t ht => by
      rw [hM t ht]
      by_cases h : t ∈ A
      · rw [if_pos h, if_pos ((hmem t).1 h), if_neg (by omega)]
      · rw [if_neg h, if_neg (fun h' => h ((hmem t).2 h'))]) (by
      intro j M hj hI
      left
      have hjm := List.getElem_mem hj
      obtain ⟨b1, b2⟩ := hs _ hjm
      rw [gl_NLL hj, obs, ux b2, obs]
      refine ⟨_, rfl, fun t ht => ?_⟩
      rw [zaY]
      by_cases e : t = A'[j]
      · subst e
        rw [if_pos rfl, if_pos hjm, nd.idxOf_getElem, if_pos (by omega)]
      · rw [if_neg (fun h' => e ((zaQ ht b1).1 h')), hI t ht]
        by_cases h : t ∈ A'
        · rw [if_pos h, if_pos h]
          have hne : A'.idxOf t ≠ j := fun e' => e (by
            have := List.getElem_idxOf (List.idxOf_lt_length_of_mem h)
            rw [← this]; congr 1)
          by_cases h2 : A'.idxOf t < j
          · rw [if_pos h2, if_pos (by omega)]
          · rw [if_neg h2, if_neg (by omega)]
        · rw [if_neg h, if_neg h])
  rcases this with ⟨M', e, h | h⟩ | ⟨_, _, h⟩
  · refine ⟨M', e, fun t ht => ?_⟩
    rw [h t ht]
    by_cases hm : t ∈ A'
    · rw [if_pos hm, if_pos hm, if_pos (List.idxOf_lt_length_of_mem hm)]
    · rw [if_neg hm, if_neg hm]
  · exact h.elim
  · exact h.elim

structure FrI (N k : Nat) (ops : List (Int × List Int)) (A : List (List Nat)) (M : MI) : Prop where
  srt : Sorted A
  key : KIx M A
  mem : ∀ t, t ∈ A ↔ Gen N ops (N ^ k) (genL N k) t
  len : A.length ≤ 300

theorem zaR {R : Type} {N k : Nat} {a : Int × List (Int × List Int)} (ha : AlgN a N) (hk : k ≤ 3) : forC (S := (List (List Int))) (R := R) (fun k107 s105 =>
  (mks ((N ^ k : Nat) : Int) (0 : Int)).bind fun y116 =>
  (forC (S := (List Int)) (R := R) (fun k137 s135 =>
  (yz k137 (k : Int) a.1).bind fun r144 =>
  (idx r144 k107).bind fun x146 =>
  (idx s135 k137).bind fun x148 =>
  some (.nx (List.set s135 (Int.toNat k137) x146))) 0 (y116.length : Int) y116).bind fun o139 => after o139 (fun r_ => some (.rt r_)) (fun s135 =>
  (app s105 ([s135])).bind fun y154 =>
  some (.nx y154))) 0 (k : Int) [] = some (.br (NLL (genL N k))) := by
  have h1 := ha.n1
  have hp := zbt ha.n8 hk
  rw [xg (R := R) (v := fun c => NL (genR N k c)) (n := k) rfl (by omega) (fun c s hc hs => by
    rw [xI rfl (by omega), obs]
    rw [WA (R := R) (v := fun i => ((ga (dig N k i) c : Nat) : Int)) (n := N ^ k) (z := (0 : Int)) (by simp) (by omega) rfl (fun i s hi hs => by
      rw [show a.1 = (N : Int) from ha.eN, argsN (by omega) h1 (by omega), obs, ZE (by simpa using hc), obs, Zv, gge (by omega), obs, itn]), obs, zE]
    congr 2
    unfold genR NL
    rw [List.map_map]; rfl)]
  congr 2
  unfold genL NLL
  rw [List.map_map]; rfl

theorem zbi (a : Int × List (Int × List Int)) (k : Int) (ha : BA a) :
    (∃ (N kk : Nat) (A : List (List Nat)) (M : MI), AlgN a N ∧ k = (kk : Int) ∧ kk ≤ 3 ∧ N ^ kk ≤ 64 ∧ ym (a.1, a.2) k = some (some (((a.1, a.2), ((N ^ kk : Nat) : Int), NLL A, M), k, NLL (genL N kk)), true) ∧ FrI N kk a.2 A M ∧
      zX (a.1, a.2) k = some true ∧ Zb (a.1, a.2) ((N ^ kk : Nat) : Int) (NLL (genL N kk)) = some (NLL A, true) ∧ zZ (a.1, a.2) = some true) ∨
    (ym (a.1, a.2) k = some (none, false) ∧ (zX (a.1, a.2) k = some false ∨ ∃ (N kk : Nat) (A : List (List Nat)), AlgN a N ∧ k = (kk : Int) ∧ kk ≤ 3 ∧ N ^ kk ≤ 64 ∧ zX (a.1, a.2) k = some true ∧ Zb (a.1, a.2) ((N ^ kk : Nat) : Int) (NLL (genL N kk)) = some (NLL A, false) ∧ zZ (a.1, a.2) = some true)) := by
  rcases Vs a ha with ⟨N, hN, e1, e2⟩ | ⟨_, e1, e2⟩
  · by_cases hk : 0 ≤ k ∧ k ≤ 3
    · obtain ⟨kk, rfl⟩ : ∃ kk : Nat, k = (kk : Int) := ⟨k.toNat, by omega⟩
      have hk3 : kk ≤ 3 := by omega
      have hp := zbt hN.n8 hk3
      have h1 := hN.n1
      have epw' : yn a.1 (kk : Int) = some ((N ^ kk : Nat) : Int) := zaZ hN.eN rfl h1 (by omega) (by omega)
      have er := zcc hN e1 hk3
      unfold ym
      simp only [e2, obs, bnt, ct0, epw', show decide ((kk : Int) < 0) = false by simp <;> omega, show decide (3 < (kk : Int)) = false by simp <;> omega]
      by_cases h64 : N ^ kk ≤ 64
      · rw [decide_eq_true h64] at er
        rw [show decide (64 < ((N ^ kk : Nat) : Int)) = false from decide_eq_false (by omega)]
        simp only [ct0]
        rw [zaR hN hk3, obs, zE]
        have hB := vO (N := N) (k := kk) h1
        rcases span_both hN hB (by rw [Xk]; omega) (by omega) with ⟨A', A, M, s1, s2, s3, hI, hs, hm, hg, hle, hle2⟩ | ⟨A', s1, s2⟩
        · left
          have nd' : A'.Nodup := xO yS hs
          have h8 := hN.n8
          obtain ⟨M', r1, r2⟩ := reindex (R := (Option (((Int × (List (Int × (List Int)))) × Int × (List (List Int)) × (List (ByteArray × Int))) × Int × (List (List Int)))) × Bool) hI.key hm nd' (fun t ht => by
            have := ((hg t).1 ht).tup hB
            exact ⟨fun x hx => by have := this.2 x hx; omega, by rw [this.1]; omega⟩) hle
          refine ⟨N, kk, A', M', hN, rfl, hk3, h64, ?_, ⟨hs, r2, hg, hle⟩, er, s1, e1⟩
          rw [s2]
          simp only [obs, bnt, ct0, s3]
          rw [r1]; rfl
        · right
          refine ⟨?_, .inr ⟨N, kk, A', hN, rfl, hk3, h64, er, s1, e1⟩⟩
          rw [s2]; rfl
      · right
        rw [decide_eq_false h64] at er
        rw [show decide (64 < ((N ^ kk : Nat) : Int)) = true from decide_eq_true (by omega)]
        exact ⟨rfl, .inl er⟩
    · right
      have er : zX (a.1, a.2) k = some false := by
        unfold zX
        rw [e1, obs, ct1, Wy, obs, ← Bool.decide_and, decide_eq_false hk, ct0]
      refine ⟨?_, .inl er⟩
      unfold ym
      rw [e2, obs, bnt, ct0]
      by_cases h0 : k < 0
      · rw [decide_eq_true h0]; rfl
      · rw [decide_eq_false h0, ct0, show decide (3 < k) = true by simp; omega]; rfl
  · right
    have er : zX (a.1, a.2) k = some false := by
      unfold zX
      rw [e1]; rfl
    refine ⟨?_, .inl er⟩
    unfold ym
    rw [e2]; rfl

theorem zbO (a : Int × List (Int × List Int)) (k : Int) (ha : BA a) :
    (∃ (N kk : Nat) (A : List (List Nat)) (M : MI), AlgN a N ∧ k = (kk : Int) ∧ kk ≤ 3 ∧ N ^ kk ≤ 64 ∧ yD (a.1, a.2) k = some (NLL A, true) ∧ ym (a.1, a.2) k = some (some (((a.1, a.2), ((N ^ kk : Nat) : Int), NLL A, M), k, NLL (genL N kk)), true) ∧ FrI N kk a.2 A M ∧
      zX (a.1, a.2) k = some true ∧ Zb (a.1, a.2) ((N ^ kk : Nat) : Int) (NLL (genL N kk)) = some (NLL A, true) ∧ zZ (a.1, a.2) = some true) ∨
    (yD (a.1, a.2) k = some ([], false) ∧ ym (a.1, a.2) k = some (none, false) ∧ (zX (a.1, a.2) k = some false ∨ ∃ (N kk : Nat) (A : List (List Nat)), AlgN a N ∧ k = (kk : Int) ∧ kk ≤ 3 ∧ N ^ kk ≤ 64 ∧ zX (a.1, a.2) k = some true ∧ Zb (a.1, a.2) ((N ^ kk : Nat) : Int) (NLL (genL N kk)) = some (NLL A, false) ∧ zZ (a.1, a.2) = some true)) := by
  have fx : ∀ {N kk : Nat} (A : List (List Nat)) (b : Bool), AlgN a N → kk ≤ 3 → zX (a.1, a.2) (kk : Int) = some true → Zb (a.1, a.2) ((N ^ kk : Nat) : Int) (NLL (genL N kk)) = some (NLL A, b) → yD (a.1, a.2) (kk : Int) = some (if b = true then (NLL A, true) else ([], false)) := fun {N kk} A b hN hk hr hc => by
    have hp := zbt hN.n8 hk
    have epw : Zl a.1 (kk : Int) = some ((N ^ kk : Nat) : Int) := XO hN.eN rfl hN.n1 (by omega) (by omega)
    unfold yD
    rw [hr]
    simp only [obs, bnt, ct0, epw, wK hN hk, hc]
    cases b <;> rfl
  rcases zbi a k ha with ⟨N, kk, A, M, hN, rfl, hk, h64, f2, hF, hr, hc, hg⟩ | ⟨f2, hno⟩
  · exact .inl ⟨N, kk, A, M, hN, rfl, hk, h64, fx A true hN hk hr hc, f2, hF, hr, hc, hg⟩
  · right
    refine ⟨?_, f2, hno⟩
    rcases hno with h | ⟨N, kk, A, hN, rfl, hk, h64, hr, hc, hg⟩
    · unfold yD
      rw [h]; rfl
    · exact fx A false hN hk hr hc

theorem FrI.tup {N k : Nat} {a : Int × List (Int × List Int)} {A : List (List Nat)} {M : MI} (ha : AlgN a N) (h : FrI N k a.2 A M) : ∀ t ∈ A, TupN N (N ^ k) t := fun t ht => ((h.mem t).1 ht).tup (vO ha.n1)

theorem FrI.small {N k : Nat} {a : Int × List (Int × List Int)} {A : List (List Nat)} {M : MI} (ha : AlgN a N) (h : FrI N k a.2 A M) {t : List Nat} (ht : t ∈ A) : ∀ x ∈ t, x < 65536 := fun x hx => by
  have := (h.tup ha t ht).2 x hx
  have := ha.n8
  omega

theorem zaE {A : List (List Nat)} (hs : Sorted A) {t : List Nat} (h : t ∈ A) : vM A t = A.idxOf t := by
  have hl := List.idxOf_lt_length_of_mem h
  have e := List.getElem_idxOf hl
  refine vk (by omega) (fun i hi => ?_) (fun i hi hil => ?_)
  · have := hs.get hi hl
    rw [yZ hl, e] at this; exact this
  · by_cases he : i = A.idxOf t
    · rw [he, yZ hl, e]; exact yS _
    · have := hs.get (show A.idxOf t < i by omega) hil
      rw [yZ hl, e] at this
      cases hx : Zp (gl A i) t with
      | false => rfl
      | true => have := YC this hx; rw [yS] at this; cases this

theorem vV {A : List (List Nat)} {k : Nat} (hs : Sorted A) (hl : A.length ≤ 300) (hk : k ≤ 1000000) (hu : ∀ u ∈ A, u.length = k) {t : List Nat} (h : t ∈ A) : zW (NLL A) (NL t) = some (((A.idxOf t : Nat) : Int), true) := by
  rw [Wv hs (fun u hu' => by rw [hu u hu', hu t h]) (by omega) (by rw [hu t h]; omega), zaE hs h]
  congr 2
  simpa using h

theorem UO {A : List (List Nat)} {M : MI} (hM : KIx M A) {t : List Nat} (hs : ∀ x ∈ t, x < 65536) (hl : t.length ≤ 1000000000) (h : t ∈ A) : ∃ q, ZC (NL t) = some q ∧ (mget M q).getD 0 = ((A.idxOf t : Nat) : Int) := by
  refine ⟨_, ux hl, ?_⟩
  rw [hM t hs, if_pos h]; rfl

set_option linter.unusedVariables false

def lexB : List Int → List Int → Bool
  | x :: s, y :: t => if x = y then lexB s t else decide (x < y)
  | _, _ => false

theorem Xi : ∀ s, lexB s s = false
  | [] => rfl
  | x :: s => by unfold lexB; rw [if_pos rfl]; exact Xi s

theorem vm : ∀ {s t u : List Int}, lexB s t = true → lexB t u = true → lexB s u = true
  | [], _, _, h, _ => by cases h
  | _ :: _, [], _, h, _ => by cases h
  | _ :: _, _ :: _, [], _, h => by cases h
  | x :: s, y :: t, z :: u, h1, h2 => by
    unfold lexB at h1 h2 ⊢
    by_cases e1 : x = y
    · subst e1
      rw [if_pos rfl] at h1
      by_cases e2 : x = z
      · rw [if_pos e2] at h2 ⊢; exact vm h1 h2
      · rw [if_neg e2] at h2 ⊢; exact h2
    · rw [if_neg e1, decide_eq_true_eq] at h1
      by_cases e2 : y = z
      · subst e2
        rw [if_neg e1]; simpa using h1
      · rw [if_neg e2, decide_eq_true_eq] at h2
        rw [if_neg (by omega)]; simp; omega

theorem zaU : ∀ {s t : List Int}, s.length = t.length → lexB s t = false → s ≠ t → lexB t s = true
  | [], [], _, _, h => absurd rfl h
  | [], _ :: _, h, _, _ => by cases h
  | _ :: _, [], h, _, _ => by cases h
  | x :: s, y :: t, hl, h1, h2 => by
    unfold lexB at h1 ⊢
    by_cases e : x = y
    · subst e
      rw [if_pos rfl] at h1 ⊢
      exact zaU (by simpa using hl) h1 (fun e => h2 (by rw [e]))
    · rw [if_neg e, decide_eq_false_iff_not] at h1
      rw [if_neg (Ne.symm e)]; simp; omega

theorem zbz : ∀ (s : List Int) {t u : List Int}, lexB (s ++ t) (s ++ u) = lexB t u
  | [], _, _ => rfl
  | x :: s, t, u => by
    rw [List.cons_append, List.cons_append]
    conv => lhs; unfold lexB
    rw [if_pos rfl]; exact zbz s

theorem zaI : ∀ {s t x y : List Int}, lexB s t = true → lexB (s ++ x) (t ++ y) = true
  | [], _, _, _, h => by cases h
  | _ :: _, [], _, _, h => by cases h
  | a :: s, b :: t, x, y, h => by
    rw [List.cons_append, List.cons_append]
    unfold lexB at h ⊢
    by_cases e : a = b
    · rw [if_pos e] at h ⊢; exact zaI h
    · rw [if_neg e] at h ⊢; exact h

def bef (s t : List Int) : Bool := if s.length = t.length then lexB s t else decide (s.length < t.length)

theorem uG (s : List Int) : bef s s = false := by unfold bef; rw [if_pos rfl]; exact Xi s

theorem Vb {s t : List Int} (h : s.length < t.length) : bef s t = true := by unfold bef; rw [if_neg (by omega)]; simpa using h

theorem vJ {s t : List Int} (h : bef s t = true) : s.length ≤ t.length := by
  unfold bef at h
  split at h
  · omega
  · have := of_decide_eq_true h; omega

theorem Uz {s t u : List Int} (h1 : bef s t = true) (h2 : bef t u = true) : bef s u = true := by
  have l1 := vJ h1
  have l2 := vJ h2
  by_cases e1 : s.length = t.length
  · by_cases e2 : t.length = u.length
    · unfold bef at h1 h2 ⊢
      rw [if_pos e1] at h1; rw [if_pos e2] at h2; rw [if_pos (by omega)]
      exact vm h1 h2
    · exact Vb (by omega)
  · exact Vb (by omega)

theorem bef_tri {s t : List Int} (h : bef s t = false) (hne : s ≠ t) : bef t s = true := by
  unfold bef at h ⊢
  by_cases e : s.length = t.length
  · rw [if_pos e] at h
    rw [if_pos e.symm]; exact zaU e h hne
  · rw [if_neg e, decide_eq_false_iff_not] at h
    rw [if_neg (Ne.symm e)]; simp; omega

theorem Un {s t : List Int} (h : bef s t = true) : bef t s = false := by
  cases h2 : bef t s with
  | false => rfl
  | true => have := Uz h h2; rw [uG] at this; cases this

def leT (s t : List Int) : Prop := s = t ∨ bef s t = true

theorem yE (s : List Int) : leT s s := .inl rfl

theorem XD {s t u : List Int} (h1 : leT s t) (h2 : leT t u) : leT s u := by
  rcases h1 with rfl | h1
  · exact h2
  · rcases h2 with rfl | h2
    · exact .inr h1
    · exact .inr (Uz h1 h2)

theorem zag {s t : List Int} (h1 : leT s t) (h2 : leT t s) : s = t := by
  rcases h1 with h | h1
  · exact h
  · rcases h2 with h | h2
    · exact h.symm
    · rw [Un h1] at h2; cases h2

theorem UJ {s t : List Int} (h : leT s t) : s.length ≤ t.length := by
  rcases h with rfl | h
  · exact Nat.le_refl _
  · exact vJ h

theorem zcf {s t : List Int} (h : bef t s = false) : leT s t := by
  by_cases e : s = t
  · exact .inl e
  · exact .inr (bef_tri h (Ne.symm e))

theorem leT_not {s t : List Int} (h : leT s t) : bef t s = false := by
  rcases h with rfl | h
  · exact uG _
  · exact Un h

theorem zcj {s s' t t' : List Int} (h1 : leT s s') (h2 : leT t t') : leT (s ++ t) (s' ++ t') := by
  have l2 := UJ h2
  rcases h1 with rfl | h1
  · rcases h2 with rfl | h2
    · exact yE _
    · right
      by_cases e : t.length = t'.length
      · unfold bef at h2 ⊢
        rw [if_pos e] at h2
        rw [if_pos (by simp [e]), zbz]; exact h2
      · exact Vb (by simp; omega)
  · right
    have l1 := vJ h1
    by_cases e1 : s.length = s'.length
    · by_cases e : t.length = t'.length
      · unfold bef at h1 ⊢
        rw [if_pos e1] at h1
        rw [if_pos (by simp [e, e1])]; exact zaI h1
      · exact Vb (by simp; omega)
    · exact Vb (by simp; omega)

theorem zaD {α : Type} {f g : α → List Int} : ∀ (ds : List α), (∀ d ∈ ds, leT (f d) (g d)) → leT (ds.map f).flatten (ds.map g).flatten
  | [], _ => yE _
  | d :: ds, h => by
    rw [List.map_cons, List.map_cons, List.flatten_cons, List.flatten_cons]
    exact zcj (h d (by simp)) (zaD ds (fun x hx => h x (by simp [hx])))

def cpT (j : Nat) (l : List (List Int)) : List Int := (-1 - (j : Int)) :: l.flatten

theorem zch {α : Type} {f g : α → List Int} (j : Nat) (ds : List α) (h : ∀ d ∈ ds, leT (f d) (g d)) : leT (cpT j (ds.map f)) (cpT j (ds.map g)) := by
  have := zcj (yE [-1 - (j : Int)]) (zaD ds h)
  exact this

theorem zck {j : Nat} {l : List (List Int)} {s : List Int} (h : s ∈ l) : s.length < (cpT j l).length := by
  unfold cpT
  rw [List.length_cons]
  have : s.length ≤ l.flatten.length := by
    obtain ⟨l1, l2, rfl⟩ := List.append_of_mem h
    simp; omega
  omega

inductive TmV (N : Nat) (ops : List (Int × List Int)) (k : Nat) (B : List (List Nat)) : List Int → List Nat → Prop
  | var {c : Nat} : c < B.length → TmV N ops k B [(c : Int)] (gl B c)
  | app {j : Nat} (hj : j < ops.length) {K : Nat} {T : List Nat} {ps : List (List Int × List Nat)} : OpN N ops[j] K T → ps.length = K → (∀ p ∈ ps, TmV N ops k B p.1 p.2) → TmV N ops k B (cpT j (ps.map (·.1))) (apT N T (ps.map (·.2)) k)

section
variable {N k : Nat} {ops : List (Int × List Int)} {B : List (List Nat)}

theorem TmV.gen {s : List Int} {v : List Nat} (h : TmV N ops k B s v) : Gen N ops k B v := by
  induction h with
  | var hc => exact .base (YR hc)
  | app hj ho hl _ ih => exact .app (List.getElem_mem hj) ho (by simpa using hl) (fun t ht => by
      obtain ⟨p, hp, rfl⟩ := List.mem_map.1 ht
      exact ih p hp)

theorem TmV.ne {s : List Int} {v : List Nat} (h : TmV N ops k B s v) : s ≠ [] := by
  cases h <;> simp [cpT]

def gI (l : List (List Int)) (i : Nat) : List Int := l.getD i []

theorem Wo {l : List (List Int)} {i : Nat} (h : i < l.length) : gI l i = l[i] := by simp [gI, gge h]

theorem gI_ge {l : List (List Int)} {i : Nat} (h : l.length ≤ i) : gI l i = [] := by simp [gI, List.getElem?_eq_none h]

theorem vj {l : List (List Int)} {i j : Nat} {t : List Int} (h : i < l.length) : gI (l.set i t) j = if j = i then t else gI l j := by
  unfold gI
  rw [List.getD_eq_getElem?_getD, List.getElem?_set]
  by_cases e : i = j
  · subst e; simp [h]
  · rw [if_neg e, if_neg (Ne.symm e)]; simp

def LeB (o' o : List (List Int)) : Prop := ∀ i, gI o i ≠ [] → gI o' i ≠ [] ∧ leT (gI o' i) (gI o i)

theorem LeB.refl (o : List (List Int)) : LeB o o := fun i h => ⟨h, yE _⟩

theorem LeB.trans {o o' o'' : List (List Int)} (h1 : LeB o'' o') (h2 : LeB o' o) : LeB o'' o := fun i h => by
  obtain ⟨a1, a2⟩ := h2 i h
  obtain ⟨b1, b2⟩ := h1 i a1
  exact ⟨b1, XD b2 a2⟩

structure TB (N : Nat) (ops : List (Int × List Int)) (k : Nat) (B A : List (List Nat)) (out : List (List Int)) : Prop where
  len : out.length = A.length
  sound : ∀ i, i < A.length → gI out i ≠ [] → TmV N ops k B (gI out i) (gl A i) ∧ (gI out i).length ≤ 60

def HasT (A : List (List Nat)) (out : List (List Int)) (v : List Nat) (t : List Int) : Prop := gI out (A.idxOf v) ≠ [] ∧ leT (gI out (A.idxOf v)) t

theorem HasT.mono {A : List (List Nat)} {o o' : List (List Int)} {v : List Nat} {t t' : List Int} (h : HasT A o v t) (h1 : LeB o' o) (h2 : leT t t') : HasT A o' v t' := by
  obtain ⟨a1, a2⟩ := h1 _ h.1
  exact ⟨a1, XD a2 (XD h.2 h2)⟩

def btr (out : List (List Int)) (i : Nat) (t : List Int) : List (List Int) := if gI out i = [] ∨ bef t (gI out i) = true then out.set i t else out

theorem uj {A : List (List Nat)} {v : List Nat} (h : v ∈ A) : gl A (A.idxOf v) = v := by
  have hl := List.idxOf_lt_length_of_mem h
  rw [yZ hl]; exact List.getElem_idxOf hl

theorem UR {A : List (List Nat)} {out : List (List Int)} {v : List Nat} {t : List Int} (h : TB N ops k B A out) (hv : v ∈ A) (ht : TmV N ops k B t v) (h60 : t.length ≤ 60) :
    TB N ops k B A (btr out (A.idxOf v) t) ∧ LeB (btr out (A.idxOf v) t) out ∧ HasT A (btr out (A.idxOf v) t) v t := by
  have hl := List.idxOf_lt_length_of_mem hv
  have hlo : A.idxOf v < out.length := by rw [h.len]; exact hl
  unfold btr
  split
  · rename_i hc
    refine ⟨⟨by simp [h.len], fun i hi hne => ?_⟩, fun i hne => ?_, ?_⟩
    · rw [vj hlo] at hne ⊢
      split
      · rename_i e; subst e; rw [uj hv]; exact ⟨ht, h60⟩
      · rename_i e; rw [if_neg e] at hne; exact h.sound i hi hne
    · rw [vj hlo]
      split
      · rename_i e; subst e
        refine ⟨ht.ne, ?_⟩
        rcases hc with hc | hc
        · exact absurd hc hne
        · exact .inr hc
      · exact ⟨hne, yE _⟩
    · unfold HasT; rw [vj hlo, if_pos rfl]; exact ⟨ht.ne, yE _⟩
  · rename_i hc
    refine ⟨h, LeB.refl _, ?_⟩
    refine ⟨fun e => hc (.inl e), zcf ?_⟩
    cases hb : bef t (gI out (A.idxOf v)) with
    | false => rfl
    | true => exact absurd (.inr hb) hc

def FinT (N : Nat) (ops : List (Int × List Int)) (k : Nat) (B A : List (List Nat)) (out : List (List Int)) : Prop := ∀ s v, TmV N ops k B s v → s.length ≤ 60 → HasT A out v s

theorem fin_same {A A' : List (List Nat)} {o o' : List (List Int)} (h : TB N ops k B A o) (h' : TB N ops k B A' o') (hf : FinT N ops k B A o) (hf' : FinT N ops k B A' o') {v : List Nat} (hv : v ∈ A) (hv' : v ∈ A') : gI o (A.idxOf v) = gI o' (A'.idxOf v) := by
  have hl := List.idxOf_lt_length_of_mem hv
  have hl' := List.idxOf_lt_length_of_mem hv'
  by_cases e : gI o (A.idxOf v) = []
  · by_cases e' : gI o' (A'.idxOf v) = []
    · rw [e, e']
    · obtain ⟨a1, a2⟩ := h'.sound _ hl' e'
      rw [uj hv'] at a1
      exact absurd e (hf _ _ a1 a2).1
  · obtain ⟨a1, a2⟩ := h.sound _ hl e
    rw [uj hv] at a1
    obtain ⟨b1, b2⟩ := hf' _ _ a1 a2
    obtain ⟨c1, c2⟩ := h'.sound _ hl' b1
    rw [uj hv'] at c1
    obtain ⟨d1, d2⟩ := hf _ _ c1 c2
    exact zag d2 b2

theorem zaf {A : List (List Nat)} {out : List (List Int)} (h : TB N ops k B A out) {j K : Nat} (hj : j < ops.length) {T : List Nat} (ho : OpN N ops[j] K T) {ds : List Nat} (hl : ds.length = K) (hd : ∀ d ∈ ds, d < A.length ∧ gI out d ≠ []) :
    TmV N ops k B (cpT j (ds.map (gI out))) (apT N T (ds.map (gl A)) k) := by
  have := TmV.app (k := k) (B := B) hj (ps := ds.map fun d => (gI out d, gl A d)) ho (by simpa using hl) (fun p hp => by
    obtain ⟨d, hd', rfl⟩ := List.mem_map.1 hp
    exact (h.sound d (hd d hd').1 (hd d hd').2).1)
  rw [List.map_map, List.map_map] at this
  exact this

theorem fin_of {A : List (List Nat)} {o o0 : List (List Int)} {p : Nat} (hall : ∀ v, Gen N ops k B v → v ∈ A)
    (hg : ∀ c, c < B.length → HasT A o (gl B c) [(c : Int)])
    (hc : ∀ j (hj : j < ops.length) K T, OpN N ops[j] K T → ∀ ds : List Nat, ds.length = K → (∀ d ∈ ds, d < A.length ∧ gI o0 d ≠ []) → (cpT j (ds.map (gI o0))).length ≤ 60 → HasT A o (apT N T (ds.map (gl A)) k) (cpT j (ds.map (gI o0))))
    (hp : ∀ s v, TmV N ops k B s v → s.length ≤ p → s.length ≤ 60 → HasT A o0 v s) : ∀ s v, TmV N ops k B s v → s.length ≤ p + 1 → s.length ≤ 60 → HasT A o v s := by
  intro s v h hlen h60
  cases h with
  | var hc' => exact hg _ hc'
  | @app j hj K T ps ho hl hps =>
    have hsub : ∀ q ∈ ps, HasT A o0 q.2 q.1 := fun q hq => by
      have := zck (j := j) (List.mem_map.2 ⟨q, hq, rfl⟩ : q.1 ∈ ps.map (·.1))
      exact hp _ _ (hps q hq) (by omega) (by omega)
    have e2 : (ps.map fun q => A.idxOf q.2).map (gl A) = ps.map (·.2) := by
      rw [List.map_map]
      refine List.map_congr_left fun q hq => ?_
      exact uj (hall _ (hps q hq).gen)
    have e1 : (ps.map fun q => A.idxOf q.2).map (gI o0) = ps.map fun q => gI o0 (A.idxOf q.2) := by rw [List.map_map]; rfl
    have hle : leT (cpT j (ps.map fun q => gI o0 (A.idxOf q.2))) (cpT j (ps.map (·.1))) := zch j ps (fun q hq => (hsub q hq).2)
    have hll := UJ hle
    have := hc j hj K T ho (ps.map fun q => A.idxOf q.2) (by simpa using hl) (fun d hd => by
      obtain ⟨q, hq, rfl⟩ := List.mem_map.1 hd
      exact ⟨List.idxOf_lt_length_of_mem (hall _ (hps q hq).gen), (hsub q hq).1⟩) (by rw [e1]; omega)
    rw [e1, e2] at this
    exact this.mono (LeB.refl _) hle

end

set_option linter.unusedVariables false

theorem wB {s t : List Int} (hs : s.length ≤ 1000000) : ∀ (x y pre : List Int) (fu : Nat), s = pre ++ x → t = pre ++ y → x.length = y.length → x.length < fu →
    ∃ o, iter (S := Int) (R := Int) (fun s25 =>
  (bif ((decide (s25 < (s.length : Int))) && (decide (s25 < (t.length : Int)))) then (idx s s25).bind fun x42 =>
  (idx t s25).bind fun x44 =>
  (bif (x42 != x44) then (idx s s25).bind fun x48 =>
  (idx t s25).bind fun x50 =>
  (bif (decide (x48 < x50)) then some (.rt (-1)) else some (.rt 1)) else some (.nx (w64 (s25 + 1)))) else some (.br s25))) fu (pre.length : Int) = some o ∧ ((lexB x y = true ∧ o = .rt (-1)) ∨ (lexB y x = true ∧ o = .rt 1) ∨ (x = y ∧ ∃ z, o = .br z))
  | [], [], pre, fu + 1, es, et, _, _ => by
    have : s.length = pre.length := by rw [es]; simp
    exact ⟨_, yo (by rw [show decide ((pre.length : Int) < (s.length : Int)) = false by simp; omega, Bool.false_and, ct0]) (by intro s; simp), .inr (.inr ⟨rfl, _, rfl⟩)⟩
  | [], _ :: _, _, _, _, _, h, _ => by cases h
  | _ :: _, [], _, _, _, _, h, _ => by cases h
  | x :: xs, y :: ys, pre, fu + 1, es, et, hl, hf => by
    have ls : s.length = pre.length + (xs.length + 1) := by rw [es]; simp
    have lt : t.length = pre.length + (ys.length + 1) := by rw [et]; simp
    have i1 : idx s (pre.length : Int) = some x := by rw [Zv, es, List.getElem?_append_right (Nat.le_refl _), Nat.sub_self]; rfl
    have i2 : idx t (pre.length : Int) = some y := by rw [Zv, et, List.getElem?_append_right (Nat.le_refl _), Nat.sub_self]; rfl
    have hc : (decide ((pre.length : Int) < (s.length : Int)) && decide ((pre.length : Int) < (t.length : Int))) = true := by
      rw [Yb, Yb, Bool.and_eq_true]; simp; omega
    by_cases e : x = y
    · subst e
      obtain ⟨o, h1, h2⟩ := wB (t := t) hs xs ys (pre ++ [x]) fu (by rw [es]; simp) (by rw [et]; simp) (by simpa using hl) (by simp at hf; omega)
      refine ⟨o, ?_, ?_⟩
      · rw [xR (s' := (pre.length : Int) + 1) (by
          simp only [hc, ct1, i1, i2, obs, bne_self_eq_false, ct0]
          rw [zP (by omega) (by omega)])]
        rw [show (((pre ++ [x]).length : Nat) : Int) = (pre.length : Int) + 1 by simp] at h1
        exact h1
      · unfold lexB
        rw [if_pos rfl, if_pos rfl]
        rcases h2 with h2 | h2 | ⟨h2, h3⟩
        · exact .inl h2
        · exact .inr (.inl h2)
        · exact .inr (.inr ⟨by rw [h2], h3⟩)
    · have hb : (x != y) = true := by simpa using e
      unfold lexB
      rw [if_neg e, if_neg (Ne.symm e)]
      by_cases h : x < y
      · refine ⟨_, yo (by simp only [hc, ct1, i1, i2, obs, hb, decide_eq_true h]) (by intro s; simp), .inl ⟨decide_eq_true h, rfl⟩⟩
      · refine ⟨_, yo (by simp only [hc, ct1, i1, i2, obs, hb, decide_eq_false h, ct0]) (by intro s; simp), .inr (.inl ⟨by simp; omega, rfl⟩)⟩

theorem zbH {s t : List Int} (h : lexB s t = true) : lexB t s = false := by
  cases h2 : lexB t s with
  | false => rfl
  | true => have := vm h h2; rw [Xi] at this; cases this

theorem Vm {s t : List Int} (hs : s.length ≤ 1000000) (ht : t.length ≤ 1000000) : ∃ r, yQ s t = some r ∧ decide (r ≤ 0) = !bef t s := by
  unfold yQ bef
  by_cases e : s.length = t.length
  · rw [decide_eq_false (by omega), ct0, decide_eq_false (by omega), ct0, if_pos e.symm]
    unfold Ze
    obtain ⟨o, h1, h2⟩ := wB (t := t) hs s t [] FU rfl rfl e (by unfold FU; omega)
    rw [show (([] : List Int).length : Int) = 0 from rfl] at h1
    rw [h1]
    rcases h2 with ⟨h2, rfl⟩ | ⟨h2, rfl⟩ | ⟨rfl, z, rfl⟩
    · exact ⟨-1, rfl, by rw [zbH h2]; rfl⟩
    · exact ⟨1, rfl, by rw [h2]; rfl⟩
    · refine ⟨0, ?_, by rw [Xi]; rfl⟩
      simp only [obs, zE]
      rw [decide_eq_false (by omega)]; rfl
  · rw [if_neg (Ne.symm e)]
    by_cases h : s.length < t.length
    · refine ⟨-1, by rw [decide_eq_true (by omega)]; rfl, ?_⟩
      rw [decide_eq_false (show ¬ t.length < s.length by omega)]; rfl
    · refine ⟨1, by rw [decide_eq_false (by omega), ct0, decide_eq_true (by omega)]; rfl, ?_⟩
      rw [decide_eq_true (show t.length < s.length by omega)]; rfl

theorem Xb {l : List (List Int)} {i : Nat} (h : i < l.length) : idx l (i : Int) = some (gI l i) := by rw [Zv, Wo h, gge h]

section
variable {R : Type} {best : List (List Int)}

theorem Ug {bad : R} (hb : ∀ i, (gI best i).length ≤ 60) : ∀ (ds : List Nat) (s : Nat) (i : Int), (∀ d ∈ ds, d < best.length) → s + 60 * ds.length ≤ 1000000 →
    forR (S := Int) (R := R) (fun _ x22 s19 =>
  (idx best x22).bind fun x26 =>
  (bif (List.isEmpty x26) then some (.rt bad) else (idx best x22).bind fun x31 =>
  some (.nx (w64 (s19 + (x31.length : Int)))))) i (NL ds) (s : Int) = some (if ∀ d ∈ ds, gI best d ≠ [] then .br ((s + (ds.map (gI best)).flatten.length : Nat) : Int) else .rt bad)
  | [], s, i, _, _ => by rw [if_pos (fun d hd => by cases hd)]; rfl
  | d :: ds, s, i, hd, hl => by
    rw [List.length_cons] at hl
    have h1 := hd d (by simp)
    have h60 := hb d
    rw [ub]
    by_cases e : gI best d = []
    · rw [if_neg (fun h => h d (by simp) e)]
      unfold forR
      rw [Xb h1, obs, e]; rfl
    · rw [Vk (s' := ((s + (gI best d).length : Nat) : Int)) (by
        rw [Xb h1, obs, show List.isEmpty (gI best d) = false by simpa using e, ct0, obs, wE (by omega)])]
      rw [Ug hb ds (s + (gI best d).length) (i + 1) (fun x hx => hd x (by simp [hx])) (by omega)]
      by_cases h : ∀ x ∈ ds, gI best x ≠ []
      · rw [if_pos h, if_pos (fun x hx => by
          rcases List.mem_cons.1 hx with rfl | hx
          · exact e
          · exact h x hx)]
        congr 3
        simp; omega
      · rw [if_neg h, if_neg (fun h' => h (fun x hx => h' x (by simp [hx])))]

theorem Uf (hb : ∀ i, (gI best i).length ≤ 60) : ∀ (ds : List Nat) (s : List Int) (i : Int), (∀ d ∈ ds, d < best.length) → s.length + 60 * ds.length ≤ 1000000 →
    forR (S := (List Int)) (R := R) (fun _ x64 s61 =>
  (idx best x64).bind fun x72 =>
  (app s61 x72).bind fun y77 =>
  some (.nx y77)) i (NL ds) s = some (.br (s ++ (ds.map (gI best)).flatten))
  | [], s, i, _, _ => by simp; rfl
  | d :: ds, s, i, hd, hl => by
    rw [List.length_cons] at hl
    have h1 := hd d (by simp)
    have h60 := hb d
    rw [ub, Vk (s' := s ++ gI best d) (by rw [Xb h1, obs, yv (by omega), obs])]
    rw [Uf hb ds (s ++ gI best d) (i + 1) (fun x hx => hd x (by simp [hx])) (by simp; omega)]
    simp

end

def rlxC (best : List (List Int)) (j v : Nat) (ds : List Nat) : Prop := (∀ d ∈ ds, gI best d ≠ []) ∧ (cpT j (ds.map (gI best))).length ≤ 60 ∧ (gI best v = [] ∨ bef (cpT j (ds.map (gI best))) (gI best v) = true)

theorem relax_eq {A : List (List Nat)} {M : MI} {a : Int × List (Int × List Int)} {best : List (List Int)} {j K i v : Nat} {S : Int} (hA : 1 ≤ A.length) (hA3 : A.length ≤ 300) (hj : j ≤ 10) (hK : K ≤ 3) (hi : i ≤ 100000000) (hb : ∀ i, (gI best i).length ≤ 60) (hl : best.length = A.length) (hv : v < A.length) :
    (rlxC best j v (dig A.length K i) ∧ Zi best (j : Int) (K : Int) (i : Int) (v : Int) (a.1, a.2, S, NLL A, M) = some (true, best.set v (cpT j ((dig A.length K i).map (gI best))))) ∨
    (¬ rlxC best j v (dig A.length K i) ∧ Zi best (j : Int) (K : Int) (i : Int) (v : Int) (a.1, a.2, S, NLL A, M) = some (false, best)) := by
  have hds : ∀ d ∈ dig A.length K i, d < best.length := fun d hd => by rw [hl]; exact Xa hA K i d hd
  have hdl : (dig A.length K i).length = K := wG _ _ _
  unfold Zi
  simp only [yk, argsN (show K ≤ 4294967296 by omega) hA (show i ≤ 9223372036854775807 by omega), obs]
  generalize hdse : dig A.length K i = ds at hds hdl
  have e1 := Ug (R := Bool × (List (List Int))) (bad := (false, best)) hb ds 1 0 hds (by omega)
  rw [show ((1 : Nat) : Int) = 1 from rfl] at e1
  rw [e1, obs]
  have hcl : (cpT j (ds.map (gI best))).length = 1 + (ds.map (gI best)).flatten.length := by unfold cpT; simp; omega
  by_cases h1 : ∀ d ∈ ds, gI best d ≠ []
  · rw [if_pos h1, zE, ← hcl]
    by_cases h60 : (cpT j (ds.map (gI best))).length ≤ 60
    · rw [show decide (60 < (((cpT j (ds.map (gI best))).length : Nat) : Int)) = false from decide_eq_false (by omega), ct0, Xb (by omega), obs, obs]
      have e2 := Uf (R := Bool × (List (List Int))) hb ds [w64 ((-1) - (j : Int))] 0 hds (by simp; omega)
      have ew : [w64 ((-1) - (j : Int))] ++ (ds.map (gI best)).flatten = cpT j (ds.map (gI best)) := by
        rw [zP (by omega) (by omega)]; rfl
      rw [ew] at e2
      have hne : nne (cpT j (ds.map (gI best))) = some () := rfl
      by_cases hv0 : gI best v = []
      · left
        refine ⟨⟨h1, h60, .inl hv0⟩, ?_⟩
        simp only [hv0, List.isEmpty_nil, bnt, ct0, obs, e2, zE, hne, itn]
      · have hemp : List.isEmpty (gI best v) = false := by simpa using hv0
        by_cases hlt : (gI best v).length < (cpT j (ds.map (gI best))).length
        · right
          refine ⟨fun h => ?_, ?_⟩
          · rcases h.2.2 with h | h
            · exact hv0 h
            · have := vJ h; omega
          · simp only [hemp, bnf, ct1, obs, Yb, decide_eq_true hlt]
        · obtain ⟨r, r1, r2⟩ := Vm (s := gI best v) (t := cpT j (ds.map (gI best))) (by have := hb v; omega) (by omega)
          simp only [hemp, bnf, ct1, obs, Yb, decide_eq_false hlt, ct0, e2, zE, r1, r2]
          cases hbf : bef (cpT j (ds.map (gI best))) (gI best v) with
          | true =>
            left
            refine ⟨⟨h1, h60, .inr hbf⟩, ?_⟩
            simp only [bnt, ct0, obs, hne, itn]
          | false =>
            right
            refine ⟨fun h => ?_, rfl⟩
            rcases h.2.2 with h | h
            · exact hv0 h
            · rw [hbf] at h; cases h
    · right
      refine ⟨fun h => h60 h.2.1, ?_⟩
      rw [show decide (60 < (((cpT j (ds.map (gI best))).length : Nat) : Int)) = true from decide_eq_true (by omega)]; rfl
  · right
    rw [if_neg h1]
    exact ⟨fun h => h1 h.1, rfl⟩

theorem power_le {n k : Int} {N K : Nat} (hn : n = (N : Int)) (hk : k = (K : Int)) (h : ∀ j, j ≤ K → N ^ j ≤ 9223372036854775807) (hK2 : K ≤ 4294967296) : yn n k = some ((N ^ K : Nat) : Int) := by
  unfold yn
  subst hn hk
  rw [XT (fun t => ((K : Int) - t, ((N ^ t : Nat) : Int))) (t := (0, ((N ^ K : Nat) : Int))) K (by omega)]
  · rfl
  · simp
  · intro j hj
    have hd : decide ((0 : Int) < (K : Int) - j) = true := by simp; omega
    have hp := h (j + 1) (by omega)
    simp only [hd, ct1]
    rw [zP (by omega) (by omega), show ((N ^ j : Nat) : Int) * (N : Int) = ((N ^ (j + 1) : Nat) : Int) by rw [Nat.pow_succ]; simp, wN (by omega)]
    simp; omega
  · simp

def vrow (N k : Nat) (A : List (List Nat)) (f : Int × List Int) : List Nat := (List.range (A.length ^ f.1.toNat)).map fun i => A.idxOf (apT N (f.2.map Int.toNat) ((dig A.length f.1.toNat i).map (gl A)) k)

theorem wI {m K : Nat} (hm : m ≤ 300) (hK3 : K ≤ 3) : m ^ K ≤ 27000000 := by
  have h1 : m ^ K ≤ 300 ^ K := Nat.pow_le_pow_left hm K
  have h2 : 300 ^ K ≤ 300 ^ 3 := Nat.pow_le_pow_right (by omega) hK3
  omega

set_option linter.unusedVariables false

theorem zbL {α R : Type} {step : Int → List α → Option (Ctl (List α) R)} (v : Nat → α) {n : Nat} {hi : Int} {s : List α} (hn : hi = (n : Int)) (h1 : n ≤ 4294967296) (hs : s.length = n)
    (h : ∀ (j : Nat) (s : List α), j < n → s.length = n → step (j : Int) s = some (.nx (s.set j (v j)))) : forC step 0 hi s = some (.br ((List.range n).map v)) := by
  have e : (fun j => (List.range j).map v ++ s.drop j) n = (List.range n).map v := by
    show (List.range n).map v ++ s.drop n = _
    rw [List.drop_of_length_le (by omega), lan]
  rw [← e]
  refine xm (fun j => (List.range j).map v ++ s.drop j) hn (by omega) (by simp) (fun j hj => ?_)
  rw [h j _ hj (by simp; omega)]
  rw [List.drop_eq_getElem_cons (show j < s.length by omega), List.set_append]
  simp [List.range_succ]
  rw [List.drop_eq_getElem_cons (show j < s.length by omega)]; rfl

theorem xL {α β : Type} (g : α → β) : ∀ l : List α, (l.flatMap fun f => [g f]) = l.map g
  | [] => rfl
  | x :: l => by rw [List.flatMap_cons, xL g l]; rfl

theorem Wn {N k : Nat} {a : Int × List (Int × List Int)} {A : List (List Nat)} {M : MI} (ha : AlgN a N) (hM : KIx M A) (hA : A.length ≤ 300) (ht : ∀ t ∈ A, TupN N k t) (hk : k ≤ 1000000) (hcl : Clsd N a.2 k (· ∈ A)) :
    Zu (a.1, a.2, (k : Int), NLL A, M) = some (NLL (a.2.map (vrow N k A))) := by
  have hl4 := ha.l4
  have h8 := ha.n8
  unfold Zu
  rw [XE (fun f => [NL (vrow N k A f)]) 0 a.2 [] (fun i pre post f el => by
    have hf : f ∈ a.2 := by rw [el]; simp
    have hpl : pre.length ≤ 4 := by
      have := congrArg List.length el
      simp at this; omega
    obtain ⟨K, T, ho⟩ := ha.ops f hf
    have hK := ho.k3
    have e1 : f.1 = (K : Int) := by rw [ho.eq]
    have e2 : f.2 = NL T := by rw [ho.eq]
    have hP := wI hA hK
    have epw : yn ((NLL A).length : Int) f.1 = some ((A.length ^ K : Nat) : Int) := power_le (by simp) e1 (fun j hj => by have := wI hA (show j ≤ 3 by omega); omega) (by omega)
    have hrow : vrow N k A f = (List.range (A.length ^ K)).map fun i => A.idxOf (apT N T ((dig A.length K i).map (gl A)) k) := by
      unfold vrow
      rw [show f.1.toNat = K by omega, e2, vP]
    simp only [epw, obs]
    rw [xI rfl (by omega), obs, xI e1 (by omega), obs]
    have main := Zo (S := (List Int) × (List (List Int))) (R := (List (List Int))) (step := fun k827 s825 =>
  (yz k827 f.1 ((NLL A).length : Int)).bind fun r843 =>
  (forC (S := (List (List Int))) (R := (List (List Int))) (fun k866 s864 =>
  (idx r843 k866).bind fun x872 =>
  (idx (NLL A) x872).bind fun x874 =>
  (idx s864 k866).bind fun x878 =>
  some (.nx (List.set s864 (Int.toNat k866) x874))) 0 (r843.length : Int) s825.2).bind fun o868 => after o868 (fun r_ => some (.rt r_)) (fun s864 =>
  (yb (a.1, a.2) (f.1, f.2) (k : Int) s864).bind fun r883 =>
  (ZC r883).bind fun r886 =>
  (idx s825.1 k827).bind fun x887 =>
  some (.nx (List.set s825.1 (Int.toNat k827) ((mget M r886).getD 0), s864))))
      (n := A.length ^ K) (hi := ((List.replicate (A.length ^ K) (0 : Int)).length : Int)) (s := (List.replicate (A.length ^ K) (0 : Int), List.replicate K ([] : List Int)))
      (fun i s => s.1 = NL ((List.range i).map fun i => A.idxOf (apT N T ((dig A.length K i).map (gl A)) k)) ++ List.replicate (A.length ^ K - i) (0 : Int) ∧ s.2.length = K)
      (fun _ => False) (fun _ => False) (by simp) (by omega) ⟨by simp, by simp⟩ (by
        rintro i ⟨tb, rows⟩ hi ⟨h1, h2⟩
        left
        have h1 : tb = NL ((List.range i).map fun i => A.idxOf (apT N T ((dig A.length K i).map (gl A)) k)) ++ List.replicate (A.length ^ K - i) (0 : Int) := h1
        have h2 : rows.length = K := h2
        have hA1 : 1 ≤ A.length := by
          rcases Nat.eq_zero_or_pos A.length with e0 | e0
          · exfalso
            by_cases hK0 : K = 0
            · subst hK0
              have := hcl f hf 0 T ho [] rfl (fun t h => by cases h)
              rw [List.length_eq_zero_iff.1 e0] at this; cases this
            · rw [e0, Nat.zero_pow (by omega)] at hi; omega
          · exact e0
        have hds : ∀ x ∈ dig A.length K i, x < A.length := Xa hA1 K i
        rw [show f.1 = (K : Int) from e1, yk, argsN (by omega) hA1 (by omega), obs]
        rw [zbL (R := (List (List Int))) (v := fun m => NL (gl A (ga (dig A.length K i) m))) (n := K) (by simp) (by omega) h2 (fun m s hm hs => by
          rw [ZE (by simpa using hm), obs, xd (hds _ (yG (by simpa using hm))), obs, Zv, gge (by omega), obs, itn]), obs, zE]
        have er : (List.range K).map (fun m => NL (gl A (ga (dig A.length K i) m))) = NLL ((dig A.length K i).map (gl A)) := by
          conv => rhs; rw [← zbG (dig A.length K i), wG]
          unfold NLL
          rw [List.map_map, List.map_map]; rfl
        have htup : ∀ t ∈ (dig A.length K i).map (gl A), t ∈ A := fun t h => by
          obtain ⟨x, hx, rfl⟩ := List.mem_map.1 h
          exact YR (hds x hx)
        have hmem := hcl f hf K T ho ((dig A.length K i).map (gl A)) (by simp) htup
        have htt := ht _ hmem
        obtain ⟨q, q1, q2⟩ := UO hM (fun x hx => by have := htt.2 x hx; omega) (by rw [htt.1]; omega) hmem
        have eat := Wi ha ho (ts := (dig A.length K i).map (gl A)) (by simp) (fun t h => ht t (htup t h)) hk
        rw [e1] at eat
        rw [er, eat, obs, q1, obs, Zv, gge (by rw [h1]; simp; omega), obs, itn]
        refine ⟨_, rfl, ?_, by simp⟩
        show tb.set i _ = _
        rw [h1, q2, show List.replicate (A.length ^ K - i) (0 : Int) = 0 :: List.replicate (A.length ^ K - (i + 1)) 0 by rw [show A.length ^ K - i = (A.length ^ K - (i + 1)) + 1 by omega, List.replicate_succ], List.set_append]
        simp [List.range_succ, NL])
    rcases main with ⟨⟨tb, rows⟩, em, ⟨h1, _⟩ | h⟩ | ⟨_, _, h⟩
    · have h1 : tb = NL ((List.range (A.length ^ K)).map fun i => A.idxOf (apT N T ((dig A.length K i).map (gl A)) k)) ++ List.replicate (A.length ^ K - A.length ^ K) (0 : Int) := h1
      rw [Nat.sub_self, List.replicate_zero, lan, ← hrow] at h1
      rw [em, obs, zE]
      show (app _ [tb]).bind _ = _
      rw [h1, yv (by rw [xL]; simp; omega), obs]
    · exact h.elim
    · exact h.elim), obs, zE, xL]
  simp [NLL]

section
variable {N k : Nat} {a : Int × List (Int × List Int)} {B A : List (List Nat)} {M : MI}

theorem TB.le60 {out : List (List Int)} {ops : List (Int × List Int)} (h : TB N ops k B A out) (i : Nat) : (gI out i).length ≤ 60 := by
  by_cases e : gI out i = []
  · rw [e]; simp
  · rcases Nat.lt_or_ge i A.length with h1 | h1
    · exact (h.sound i h1 e).2
    · exact absurd (gI_ge (by rw [h.len]; exact h1)) e

theorem zce (ha : AlgN a N) (hA3 : A.length ≤ 300) (hall : ∀ v, Gen N a.2 k B v → v ∈ A) (hgen : ∀ v ∈ A, Gen N a.2 k B v) {best best0 : List (List Int)} (h : TB N a.2 k B A best) (hle : LeB best best0) {j K i : Nat} (hj : j < a.2.length) {T : List Nat} (ho : OpN N a.2[j] K T) (hi : i < A.length ^ K) (hA1 : 1 ≤ A.length) :
    ∃ ch best', Zi best (j : Int) (K : Int) (i : Int) ((A.idxOf (apT N T ((dig A.length K i).map (gl A)) k) : Nat) : Int) (a.1, a.2, (k : Int), NLL A, M) = some (ch, best') ∧ TB N a.2 k B A best' ∧ LeB best' best ∧ (ch = false → best' = best) ∧
      (ch = true → rlxC best j (A.idxOf (apT N T ((dig A.length K i).map (gl A)) k)) (dig A.length K i)) ∧
      ((∀ d ∈ dig A.length K i, gI best0 d ≠ []) → (cpT j ((dig A.length K i).map (gI best0))).length ≤ 60 → HasT A best' (apT N T ((dig A.length K i).map (gl A)) k) (cpT j ((dig A.length K i).map (gI best0)))) := by
  have hl4 := ha.l4
  have hK := ho.k3
  have hP := wI hA3 hK
  have hds : ∀ x ∈ dig A.length K i, x < A.length := Xa hA1 K i
  have hv : apT N T ((dig A.length K i).map (gl A)) k ∈ A := hall _ (.app (List.getElem_mem hj) ho (by simp) (fun t ht => by
    obtain ⟨x, hx, rfl⟩ := List.mem_map.1 ht
    exact hgen _ (YR (hds x hx))))
  rcases relax_eq (A := A) (M := M) (a := a) (best := best) (j := j) (K := K) (i := i) (v := A.idxOf (apT N T ((dig A.length K i).map (gl A)) k)) (S := (k : Int)) hA1 hA3 (by omega) hK (by omega) h.le60 h.len (List.idxOf_lt_length_of_mem hv) with ⟨hc, e⟩ | ⟨hc, e⟩
  · have ht := zaf h hj ho (ds := dig A.length K i) (by simp) (fun d hd => ⟨hds d hd, hc.1 d hd⟩)
    obtain ⟨b1, b2, b3⟩ := UR h hv ht hc.2.1
    have eb : btr best (A.idxOf (apT N T ((dig A.length K i).map (gl A)) k)) (cpT j ((dig A.length K i).map (gI best))) = best.set (A.idxOf (apT N T ((dig A.length K i).map (gl A)) k)) (cpT j ((dig A.length K i).map (gI best))) := by
      unfold btr; rw [if_pos hc.2.2]
    rw [eb] at b1 b2 b3
    refine ⟨_, _, e, b1, b2, (fun h => by cases h), fun _ => hc, fun hne _ => b3.mono (LeB.refl _) (zch j _ (fun d hd => (hle d (hne d hd)).2))⟩
  · refine ⟨_, _, e, h, LeB.refl _, fun _ => rfl, (fun h => by cases h), fun hne h60 => ?_⟩
    have hcl := zch j (dig A.length K i) (f := gI best) (g := gI best0) (fun d hd => (hle d (hne d hd)).2)
    have hll := UJ hcl
    have h1 : ¬ (gI best (A.idxOf (apT N T ((dig A.length K i).map (gl A)) k)) = [] ∨ bef (cpT j ((dig A.length K i).map (gI best))) (gI best (A.idxOf (apT N T ((dig A.length K i).map (gl A)) k))) = true) := fun h' => hc ⟨fun d hd => (hle d (hne d hd)).1, by omega, h'⟩
    refine HasT.mono ⟨fun e => h1 (.inl e), zcf ?_⟩ (LeB.refl _) hcl
    cases hb : bef (cpT j ((dig A.length K i).map (gI best))) (gI best (A.idxOf (apT N T ((dig A.length K i).map (gl A)) k))) with
    | false => rfl
    | true => exact absurd (.inr hb) h1

structure PIv (N k : Nat) (ops : List (Int × List Int)) (B A : List (List Nat)) (best0 : List (List Int)) (dn : Nat → Nat → Prop) (ch : Bool) (best : List (List Int)) : Prop where
  tb : TB N ops k B A best
  le : LeB best best0
  stay : ch = false → best = best0
  fin : FinT N ops k B A best0 → ch = false
  cl : ∀ j (hj : j < ops.length) K T, OpN N ops[j] K T → ∀ ds : List Nat, ds.length = K → (∀ d ∈ ds, d < A.length ∧ gI best0 d ≠ []) → (cpT j (ds.map (gI best0))).length ≤ 60 → dn j (ix A.length 0 ds) → HasT A best (apT N T (ds.map (gl A)) k) (cpT j (ds.map (gI best0)))

theorem pass_ok (ha : AlgN a N) (hA3 : A.length ≤ 300) (hall : ∀ v, Gen N a.2 k B v → v ∈ A) (hgen : ∀ v ∈ A, Gen N a.2 k B v) {best0 : List (List Int)} (h0 : TB N a.2 k B A best0) :
    ∃ ch best, forC (S := Bool × (List (List Int))) (R := (List (List Int))) (fun k390 s388 =>
  (idx a.2 k390).bind fun x396 =>
  (idx (NLL (a.2.map (vrow N k A))) k390).bind fun x402 =>
  (forC (S := Bool × (List (List Int))) (R := (List (List Int))) (fun k419 s417 =>
  (idx x402 k419).bind fun x425 =>
  (Zi s417.2 k390 x396.1 k419 x425 (a.1, a.2, (k : Int), NLL A, M)).bind fun r428 =>
  (bif r428.1 then some (.nx (true, r428.2)) else some (.nx (s417.1, r428.2)))) 0 (x402.length : Int) (s388.1, s388.2)).bind fun o421 => after o421 (fun r_ => some (.rt r_)) (fun s417 =>
  some (.nx (s417.1, s417.2)))) 0 (a.2.length : Int) (false, best0) = some (.br (ch, best)) ∧ PIv N k a.2 B A best0 (fun _ _ => True) ch best := by
  have hl4 := ha.l4
  have := Zo (S := Bool × (List (List Int))) (R := (List (List Int))) (step := fun k390 s388 =>
  (idx a.2 k390).bind fun x396 =>
  (idx (NLL (a.2.map (vrow N k A))) k390).bind fun x402 =>
  (forC (S := Bool × (List (List Int))) (R := (List (List Int))) (fun k419 s417 =>
  (idx x402 k419).bind fun x425 =>
  (Zi s417.2 k390 x396.1 k419 x425 (a.1, a.2, (k : Int), NLL A, M)).bind fun r428 =>
  (bif r428.1 then some (.nx (true, r428.2)) else some (.nx (s417.1, r428.2)))) 0 (x402.length : Int) (s388.1, s388.2)).bind fun o421 => after o421 (fun r_ => some (.rt r_)) (fun s417 =>
  some (.nx (s417.1, s417.2)))) (n := a.2.length) (hi := (a.2.length : Int)) (s := (false, best0))
    (fun j s => PIv N k a.2 B A best0 (fun j' _ => j' < j) s.1 s.2) (fun _ => False) (fun _ => False) rfl (by omega)
    ⟨h0, LeB.refl _, fun _ => rfl, fun _ => rfl, fun j hj K T ho ds _ _ _ h => by omega⟩ (by
      rintro j ⟨ch, best⟩ hj hI
      have hI : PIv N k a.2 B A best0 (fun j' _ => j' < j) ch best := hI
      left
      obtain ⟨K, T, q1, q2, ho⟩ := WI ha hj
      have hK := ho.k3
      have hP := wI hA3 hK
      have hrow : gl (a.2.map (vrow N k A)) j = (List.range (A.length ^ K)).map fun i => A.idxOf (apT N T ((dig A.length K i).map (gl A)) k) := by
        rw [yZ (by simpa using hj), List.getElem_map, q2]
        unfold vrow
        rw [vP]; rfl
      rw [q1, obs, xd (by simpa using hj), obs, hrow]
      have inner := Zo (S := Bool × (List (List Int))) (R := (List (List Int))) (step := fun k419 s417 =>
  (idx (NL ((List.range (A.length ^ K)).map fun i => A.idxOf (apT N T ((dig A.length K i).map (gl A)) k))) k419).bind fun x425 =>
  (Zi s417.2 (j : Int) (K : Int) k419 x425 (a.1, a.2, (k : Int), NLL A, M)).bind fun r428 =>
  (bif r428.1 then some (.nx (true, r428.2)) else some (.nx (s417.1, r428.2)))) (n := A.length ^ K) (hi := ((NL ((List.range (A.length ^ K)).map fun i => A.idxOf (apT N T ((dig A.length K i).map (gl A)) k))).length : Int)) (s := (ch, best))
        (fun i s => PIv N k a.2 B A best0 (fun j' i' => j' < j ∨ (j' = j ∧ i' < i)) s.1 s.2) (fun _ => False) (fun _ => False) (by simp) (by omega)
        ⟨hI.tb, hI.le, hI.stay, hI.fin, fun j' hj' K' T' ho' ds h1 h2 h3 h => hI.cl j' hj' K' T' ho' ds h1 h2 h3 (by omega)⟩ (by
          rintro i ⟨ch, best⟩ hi hI
          have hI : PIv N k a.2 B A best0 (fun j' i' => j' < j ∨ (j' = j ∧ i' < i)) ch best := hI
          left
          have hA1 : 1 ≤ A.length := by
            rcases Nat.eq_zero_or_pos A.length with e0 | e0
            · exfalso
              by_cases hK0 : K = 0
              · subst hK0
                have := hall _ (.app (List.getElem_mem hj) ho (ts := []) rfl (fun t h => by cases h))
                rw [List.length_eq_zero_iff.1 e0] at this; cases this
              · rw [e0, Nat.zero_pow (by omega)] at hi; omega
            · exact e0
          rw [ZE (by simpa using hi), ga_map _ hi, obs]
          obtain ⟨c2, b2, e, r1, r2, r3, r4, r5⟩ := zce (M := M) ha hA3 hall hgen hI.tb hI.le hj ho hi hA1
          rw [e, obs]
          have hcl : ∀ j' (hj' : j' < a.2.length) K' T', OpN N a.2[j'] K' T' → ∀ ds : List Nat, ds.length = K' → (∀ d ∈ ds, d < A.length ∧ gI best0 d ≠ []) → (cpT j' (ds.map (gI best0))).length ≤ 60 → (j' < j ∨ (j' = j ∧ ix A.length 0 ds < i + 1)) → HasT A b2 (apT N T' (ds.map (gl A)) k) (cpT j' (ds.map (gI best0))) := fun j' hj' K' T' ho' ds h1 h2 h3 h => by
            by_cases hx : j' < j ∨ (j' = j ∧ ix A.length 0 ds < i)
            · exact (hI.cl j' hj' K' T' ho' ds h1 h2 h3 hx).mono r2 (yE _)
            · have ej : j' = j := by omega
              have ei : ix A.length 0 ds = i := by omega
              subst ej
              obtain ⟨rfl, rfl⟩ := ho.uniq ho'
              have ed : dig A.length K' i = ds := by rw [← ei]; exact zao hA1 K' ds h1 (fun x hx => (h2 x hx).1)
              rw [ed] at r5
              exact r5 (fun d hd => (h2 d hd).2) h3
          cases c2 with
          | true =>
            refine ⟨_, rfl, r1, r2.trans hI.le, (fun h => by cases h), fun hf => ?_, hcl⟩
            exfalso
            have hch := hI.fin hf
            have eb := hI.stay hch
            have hc := r4 rfl
            have hds : ∀ x ∈ dig A.length K i, x < A.length := Xa hA1 K i
            have ht := zaf hI.tb hj ho (ds := dig A.length K i) (by simp) (fun d hd => ⟨hds d hd, hc.1 d hd⟩)
            have hh := hf _ _ ht hc.2.1
            rw [← eb] at hh
            rcases hc.2.2 with h | h
            · exact hh.1 h
            · rw [leT_not hh.2] at h; cases h
          | false =>
            have eb := r3 rfl
            refine ⟨_, rfl, r1, r2.trans hI.le, fun h => by show b2 = best0; rw [eb, hI.stay h], hI.fin, hcl⟩)
      rcases inner with ⟨⟨c3, b3⟩, e3, hI3 | h⟩ | ⟨_, _, h⟩
      · have hI3 : PIv N k a.2 B A best0 (fun j' i' => j' < j ∨ (j' = j ∧ i' < A.length ^ K)) c3 b3 := hI3
        rw [e3, obs, zE]
        refine ⟨_, rfl, hI3.tb, hI3.le, hI3.stay, hI3.fin, fun j' hj' K' T' ho' ds h1 h2 h3 h => hI3.cl j' hj' K' T' ho' ds h1 h2 h3 ?_⟩
        by_cases ej : j' = j
        · subst ej
          obtain ⟨rfl, rfl⟩ := ho.uniq ho'
          exact .inr ⟨rfl, Xm (fun x hx => (h2 x hx).1) h1⟩
        · left; omega
      · exact h.elim
      · exact h.elim)
  rcases this with ⟨⟨ch, best⟩, e, hI | h⟩ | ⟨_, _, h⟩
  · have hI : PIv N k a.2 B A best0 (fun j' _ => j' < a.2.length) ch best := hI
    exact ⟨ch, best, e, hI.tb, hI.le, hI.stay, hI.fin, fun j hj K T ho ds h1 h2 h3 _ => hI.cl j hj K T ho ds h1 h2 h3 hj⟩
  · exact h.elim
  · exact h.elim

end

set_option linter.unusedVariables false

section
variable {N k : Nat} {a : Int × List (Int × List Int)} {B A : List (List Nat)} {M : MI}
theorem cov_up {out : List (List Int)} (hall : ∀ v, Gen N a.2 k B v → v ∈ A) (hg : ∀ c, c < B.length → HasT A out (gl B c) [(c : Int)])
    (hc : ∀ j (hj : j < a.2.length) K T, OpN N a.2[j] K T → ∀ ds : List Nat, ds.length = K → (∀ d ∈ ds, d < A.length ∧ gI out d ≠ []) → (cpT j (ds.map (gI out))).length ≤ 60 → HasT A out (apT N T (ds.map (gl A)) k) (cpT j (ds.map (gI out)))) : FinT N a.2 k B A out := by
  have : ∀ p, ∀ s v, TmV N a.2 k B s v → s.length ≤ p → s.length ≤ 60 → HasT A out v s := by
    intro p
    induction p with
    | zero =>
      intro s v h hl _
      exact absurd (List.length_eq_zero_iff.1 (by omega)) h.ne
    | succ p ih => exact fin_of hall hg hc ih
  exact fun s v h h60 => this 60 s v h h60 h60

theorem passes_ok (ha : AlgN a N) (hA3 : A.length ≤ 300) (hall : ∀ v, Gen N a.2 k B v → v ∈ A) (hgen : ∀ v ∈ A, Gen N a.2 k B v) : ∀ (n p fu : Nat) (best : List (List Int)), n + p = 60 → n + 1 < fu → TB N a.2 k B A best → (∀ c, c < B.length → HasT A best (gl B c) [(c : Int)]) → (∀ s v, TmV N a.2 k B s v → s.length ≤ p → s.length ≤ 60 → HasT A best v s) →
    ∃ best', iter (S := Bool × (List (List Int))) (R := (List (List Int))) (fun s310 =>
  (bif s310.1 then (forC (S := Bool × (List (List Int))) (R := (List (List Int))) (fun k390 s388 =>
  (idx a.2 k390).bind fun x396 =>
  (idx (NLL (a.2.map (vrow N k A))) k390).bind fun x402 =>
  (forC (S := Bool × (List (List Int))) (R := (List (List Int))) (fun k419 s417 =>
  (idx x402 k419).bind fun x425 =>
  (Zi s417.2 k390 x396.1 k419 x425 (a.1, a.2, (k : Int), NLL A, M)).bind fun r428 =>
  (bif r428.1 then some (.nx (true, r428.2)) else some (.nx (s417.1, r428.2)))) 0 (x402.length : Int) (s388.1, s388.2)).bind fun o421 => after o421 (fun r_ => some (.rt r_)) (fun s417 =>
  some (.nx (s417.1, s417.2)))) 0 (a.2.length : Int) (false, s310.2)).bind fun o392 => after o392 (fun r_ => some (.rt r_)) (fun s388 =>
  some (.nx (s388.1, s388.2))) else some (.br (s310.1, s310.2)))) fu (true, best) = some (.br (false, best')) ∧ TB N a.2 k B A best' ∧ FinT N a.2 k B A best' := by
  intro n
  induction n with
  | zero =>
    intro p fu best hp hf h hg hcov
    obtain ⟨fu, rfl⟩ : ∃ j, fu = j + 2 := ⟨fu - 2, by omega⟩
    have hfin : FinT N a.2 k B A best := fun s v hs h60 => hcov s v hs (by omega) h60
    obtain ⟨ch, b1, e, hI⟩ := pass_ok (M := M) ha hA3 hall hgen h
    have hch := hI.fin hfin
    subst hch
    have eb := hI.stay rfl
    subst eb
    refine ⟨b1, ?_, h, hfin⟩
    rw [xR (s' := (false, b1)) (by rw [ct1, e]; rfl)]
    exact yo rfl (by intro s; simp)
  | succ n ih =>
    intro p fu best hp hf h hg hcov
    obtain ⟨fu, rfl⟩ : ∃ j, fu = j + 2 := ⟨fu - 2, by omega⟩
    obtain ⟨ch, b1, e, hI⟩ := pass_ok (M := M) ha hA3 hall hgen h
    cases ch with
    | false =>
      have eb := hI.stay rfl
      subst eb
      have hfin : FinT N a.2 k B A b1 := cov_up hall hg (fun j hj K T ho ds h1 h2 h3 => hI.cl j hj K T ho ds h1 h2 h3 trivial)
      refine ⟨b1, ?_, h, hfin⟩
      rw [xR (s' := (false, b1)) (by rw [ct1, e]; rfl)]
      exact yo rfl (by intro s; simp)
    | true =>
      have hg1 : ∀ c, c < B.length → HasT A b1 (gl B c) [(c : Int)] := fun c hc => (hg c hc).mono hI.le (yE _)
      obtain ⟨b2, e2, r1, r2⟩ := ih (p + 1) (fu + 1) b1 (by omega) (by omega) hI.tb hg1 (fin_of hall hg1 (fun j hj K T ho ds h1 h2 h3 => hI.cl j hj K T ho ds h1 h2 h3 trivial) hcov)
      refine ⟨b2, ?_, r1, r2⟩
      rw [xR (s' := (true, b1)) (by rw [ct1, e]; rfl)]
      exact e2

theorem one_le {c j : Nat} (h : c < j) : leT [(c : Int)] [(j : Int)] := by
  right
  show (if (c : Int) = (j : Int) then lexB [] [] else decide ((c : Int) < (j : Int))) = true
  rw [if_neg (by omega)]; simp; omega

theorem TB.nil (ops : List (Int × List Int)) : TB N ops k B A (List.replicate A.length []) := by
  have h0 : ∀ i, gI (List.replicate A.length ([] : List Int)) i = [] := fun i => by
    unfold gI; rw [List.getD_eq_getElem?_getD, List.getElem?_replicate]; split <;> rfl
  exact ⟨by simp, fun i _ h => absurd (h0 i) h⟩

theorem gI_nil (i n : Nat) : gI (List.replicate n ([] : List Int)) i = [] := by
  unfold gI; rw [List.getD_eq_getElem?_getD, List.getElem?_replicate]; split <;> rfl

structure GnI (N k : Nat) (ops : List (Int × List Int)) (B A : List (List Nat)) (j : Nat) (out : List (List Int)) : Prop where
  tb : TB N ops k B A out
  gens : ∀ c, c < j → HasT A out (gl B c) [(c : Int)]
  one : ∀ i, gI out i ≠ [] → ∃ c, c < j ∧ gI out i = [(c : Int)]

theorem GnI.start (ops : List (Int × List Int)) : GnI N k ops B A 0 (List.replicate A.length []) := ⟨TB.nil ops, fun c hc => by omega, fun i h => absurd (gI_nil i _) h⟩

theorem GnI.step {ops : List (Int × List Int)} {j : Nat} {out : List (List Int)} (h : GnI N k ops B A j out) (hj : j < B.length) (hm : gl B j ∈ A) : (gI out (A.idxOf (gl B j)) = [] → GnI N k ops B A (j + 1) (out.set (A.idxOf (gl B j)) [(j : Int)])) ∧ (gI out (A.idxOf (gl B j)) ≠ [] → GnI N k ops B A (j + 1) out) := by
  have hl := List.idxOf_lt_length_of_mem hm
  have hlo : A.idxOf (gl B j) < out.length := by rw [h.tb.len]; exact hl
  refine ⟨fun e => ?_, fun e => ?_⟩
  · obtain ⟨b1, b2, b3⟩ := UR h.tb hm (TmV.var hj) (by simp)
    have eb : btr out (A.idxOf (gl B j)) [(j : Int)] = out.set (A.idxOf (gl B j)) [(j : Int)] := by unfold btr; rw [if_pos (.inl e)]
    rw [eb] at b1 b2 b3
    refine ⟨b1, fun c hc => ?_, fun i hi => ?_⟩
    · by_cases ec : c = j
      · subst ec; exact b3
      · exact (h.gens c (by omega)).mono b2 (yE _)
    · rw [vj hlo] at hi ⊢
      split
      · exact ⟨j, by omega, rfl⟩
      · rename_i hne
        rw [if_neg hne] at hi
        obtain ⟨c, hc, e⟩ := h.one i hi
        exact ⟨c, by omega, e⟩
  · refine ⟨h.tb, fun c hc => ?_, fun i hi => ?_⟩
    · by_cases ec : c = j
      · subst ec
        obtain ⟨c', hc', e'⟩ := h.one _ e
        exact ⟨e, by rw [e']; exact one_le hc'⟩
      · exact h.gens c (by omega)
    · obtain ⟨c, hc, e⟩ := h.one i hi
      exact ⟨c, by omega, e⟩

theorem Uc (ha : AlgN a N) (hM : KIx M A) (hA3 : A.length ≤ 300) (hall : ∀ v, Gen N a.2 k B v → v ∈ A) (hgen : ∀ v ∈ A, Gen N a.2 k B v) (hB : ∀ t ∈ B, TupN N k t) (hk : k ≤ 1000000) (hBl : B.length ≤ 1000) :
    ∃ best, yj (NLL B) (a.1, a.2, (k : Int), NLL A, M) = some best ∧ TB N a.2 k B A best ∧ FinT N a.2 k B A best := by
  have h8 := ha.n8
  have ht : ∀ t ∈ A, TupN N k t := fun t h => (hgen t h).tup hB
  have hcl : Clsd N a.2 k (· ∈ A) := fun f hf K T ho ts hl h => hall _ (.app hf ho hl (fun t h' => hgen t (h t h')))
  unfold yj
  rw [xI (show ((NLL A).length : Int) = (A.length : Int) by simp) (by omega), obs]
  have init := Zo (S := (List (List Int))) (R := (List (List Int))) (step := fun k54 s52 =>
  (idx (NLL B) k54).bind fun x60 =>
  (ZC x60).bind fun r70 =>
  (idx s52 ((mget M r70).getD 0)).bind fun x71 =>
  (bif (List.isEmpty x71) then (idx s52 ((mget M r70).getD 0)).bind fun x78 =>
  (nne ([k54])).bind fun u81 =>
  some (.nx (List.set s52 (Int.toNat ((mget M r70).getD 0)) ([k54]))) else some (.nx s52))) (n := B.length) (hi := ((NLL B).length : Int)) (s := List.replicate A.length ([] : List Int))
    (fun j s => GnI N k a.2 B A j s) (fun _ => False) (fun _ => False) (by simp) (by omega) (GnI.start _) (by
      intro j s hj hI
      left
      have hm : gl B j ∈ A := hall _ (.base (YR hj))
      have htt := ht _ hm
      obtain ⟨q, q1, q2⟩ := UO hM (fun x hx => by have := htt.2 x hx; omega) (by rw [htt.1]; omega) hm
      have hlt : A.idxOf (gl B j) < s.length := by rw [hI.tb.len]; exact List.idxOf_lt_length_of_mem hm
      obtain ⟨s1, s2⟩ := hI.step hj hm
      simp only [xd hj, obs, q1, q2, Xb hlt, itn]
      by_cases e : gI s (A.idxOf (gl B j)) = []
      · rw [show List.isEmpty (gI s (A.idxOf (gl B j))) = true by rw [e]; rfl, ct1]
        exact ⟨_, rfl, s1 e⟩
      · rw [show List.isEmpty (gI s (A.idxOf (gl B j))) = false by simpa using e, ct0]
        exact ⟨_, rfl, s2 e⟩)
  rcases init with ⟨s, e1, hI | h⟩ | ⟨_, _, h⟩
  · rw [e1, obs, zE, Wn ha hM hA3 ht hk hcl, obs]
    obtain ⟨best, e2, r1, r2⟩ := passes_ok (M := M) ha hA3 hall hgen 60 0 FU s rfl (by unfold FU; omega) hI.tb hI.gens (fun s v h hl _ => absurd (List.length_eq_zero_iff.1 (by omega)) h.ne)
    rw [e2, obs, zE]
    exact ⟨best, rfl, r1, r2⟩
  · exact h.elim
  · exact h.elim

end

set_option linter.unusedVariables false

theorem VD {s t : List Int} (hs : s.length ≤ 1000000) : ∀ (x y pre : List Int), s = pre ++ x → t = pre ++ y → x.length = y.length →
    forI (S := Unit) (R := Bool) (fun k21 s19 =>
  (idx s k21).bind fun x31 =>
  (idx t k21).bind fun x33 =>
  (bif (x31 != x33) then (idx s k21).bind fun x37 =>
  (idx t k21).bind fun x39 =>
  some (.rt (decide (x37 < x39))) else some (.nx ()))) x.length (pre.length : Int) () = some (if x = y then .br () else .rt (lexB x y))
  | [], [], _, _, _, _ => rfl
  | [], _ :: _, _, _, _, h => by cases h
  | _ :: _, [], _, _, _, h => by cases h
  | x :: xs, y :: ys, pre, es, et, hl => by
    have i1 : idx s (pre.length : Int) = some x := by rw [Zv, es, List.getElem?_append_right (Nat.le_refl _), Nat.sub_self]; rfl
    have i2 : idx t (pre.length : Int) = some y := by rw [Zv, et, List.getElem?_append_right (Nat.le_refl _), Nat.sub_self]; rfl
    rw [List.length_cons]
    by_cases e : x = y
    · subst e
      rw [forI_nx1 (s' := ()) (by simp only [i1, i2, obs, bne_self_eq_false, ct0])]
      have := VD (t := t) hs xs ys (pre ++ [x]) (by rw [es]; simp) (by rw [et]; simp) (by simpa using hl)
      rw [show (((pre ++ [x]).length : Nat) : Int) = (pre.length : Int) + 1 by simp] at this
      have el : lexB (x :: xs) (x :: ys) = lexB xs ys := by
        show (if x = x then lexB xs ys else _) = _
        rw [if_pos rfl]
      rw [this, el]
      by_cases e2 : xs = ys
      · rw [if_pos e2, if_pos (by rw [e2])]
      · rw [if_neg e2, if_neg (fun h => e2 (List.cons.inj h).2)]
    · have hb : (x != y) = true := by simpa using e
      rw [forI_rt1 (r := decide (x < y)) (by simp only [i1, i2, obs, hb, ct1]), if_neg (fun h => e (List.cons.inj h).1)]
      unfold lexB
      rw [if_neg e]

theorem VC {s t : List Int} (hs : s.length ≤ 1000000) : yr s t = some (bef s t) := by
  unfold yr bef
  by_cases e : s.length = t.length
  · rw [if_pos e, show (((s.length : Nat) : Int) != ((t.length : Nat) : Int)) = false by simp [e], ct0]
    unfold yV
    have h := VD (t := t) hs s t [] rfl rfl e
    rw [show (([] : List Int).length : Int) = 0 from rfl] at h
    unfold forC
    rw [show decide (-9223372036854775808 ≤ (0 : Int)) = true by decide, show decide ((s.length : Int) ≤ 9223372036854775807) = true by simp; omega, Bool.and_true, ct1, show ((s.length : Int) - 0).toNat = s.length by omega, h]
    by_cases e2 : s = t
    · subst e2
      rw [if_pos rfl, Xi]; rfl
    · rw [if_neg e2]; rfl
  · rw [if_neg e, show (((s.length : Nat) : Int) != ((t.length : Nat) : Int)) = true by simp; omega, ct1, Yb]

section
variable {N k : Nat} {a : Int × List (Int × List Int)} {B A : List (List Nat)}

theorem VA {out : List (List Int)} {v : List Nat} {t : List Int} (hs : Sorted A) (hA : A.length ≤ 300) (hk : k ≤ 1000000) (hu : ∀ u ∈ A, u.length = k) (hv : v ∈ A) (hl : out.length = A.length) (ht : t.length ≤ 60) : Zf out (NLL A) (NL v) t = some (btr out (A.idxOf v) t) := by
  have hlt : A.idxOf v < out.length := by rw [hl]; exact List.idxOf_lt_length_of_mem hv
  unfold Zf
  rw [vV hs hA hk hu hv, obs]
  simp only [Xb hlt, obs, itn, VC (show t.length ≤ 1000000 by omega)]
  unfold btr
  by_cases e : gI out (A.idxOf v) = []
  · rw [e, if_pos (.inl rfl)]; rfl
  · have : (((gI out (A.idxOf v)).length : Int) == 0) = false := by
      rw [show (0 : Int) = ((0 : Nat) : Int) from rfl, XX]
      simpa using e
    rw [this, ct0, obs]
    cases hb : bef t (gI out (A.idxOf v)) with
    | true => rw [if_pos (.inr rfl), ct1]
    | false => rw [if_neg (fun h => by rcases h with h | h; exact e h; cases h), ct0]

def bdS (op : Nat) (out : List (List Int)) (A : List (List Nat)) (ds : List Nat) (m : Nat) : List Int × List (List Int) × Int := (cpT op ((ds.take m).map (gI out)), NLL ((ds.take m).map (gl A)), (m : Int))

theorem cpT_take (op : Nat) (l : List (List Int)) (m : Nat) : (cpT op (l.take m)).length ≤ (cpT op l).length := by
  have : cpT op l = cpT op (l.take m) ++ (l.drop m).flatten := by unfold cpT; rw [List.cons_append, ← List.flatten_append, List.take_append_drop]
  rw [this]; simp

theorem build_ok {R : Type} {X cz : List Nat} {op : Nat} {out : List (List Int)} (hX : ∀ x ∈ X, x < A.length) (hlo : out.length = A.length) (hcs : ∀ c ∈ cz, c < X.length) (hcl : cz.length ≤ 3) (h60 : ∀ i, (gI out i).length ≤ 60) : ∀ (n m fu : Nat), m + n = cz.length → n < fu →
    ∃ m', m' ≤ cz.length ∧ iter (S := (List Int) × (List (List Int)) × Int) (R := R) (fun s4725 =>
  (bif ((decide (s4725.2.2 < ((NL cz).length : Int))) && (decide ((s4725.1.length : Int) ≤ 60))) then (idx (NL cz) s4725.2.2).bind fun x4746 =>
  (idx (NL X) x4746).bind fun x4748 =>
  (idx out x4748).bind fun x4750 =>
  (app s4725.1 x4750).bind fun y4755 =>
  (idx (NL cz) s4725.2.2).bind fun x4757 =>
  (idx (NL X) x4757).bind fun x4759 =>
  (idx (NLL A) x4759).bind fun x4761 =>
  (app s4725.2.1 ([x4761])).bind fun y4768 =>
  some (.nx (y4755, y4768, w64 (s4725.2.2 + 1))) else some (.br (s4725.1, s4725.2.1, s4725.2.2)))) fu (bdS op out A (cz.map (ga X)) m) = some (.br (bdS op out A (cz.map (ga X)) m')) ∧ (m' = cz.length ∨ 60 < (bdS op out A (cz.map (ga X)) m').1.length) := by
  intro n
  induction n with
  | zero =>
    intro m fu hm hf
    obtain ⟨fu, rfl⟩ : ∃ j, fu = j + 1 := ⟨fu - 1, by omega⟩
    refine ⟨m, by omega, yo (by
      have : decide ((bdS op out A (cz.map (ga X)) m).2.2 < ((NL cz).length : Int)) = false := by
        show decide ((m : Int) < _) = false
        rw [YQ]; simp; omega
      rw [this, Bool.false_and, ct0]) (by intro s; simp), .inl (by omega)⟩
  | succ n ih =>
    intro m fu hm hf
    obtain ⟨fu, rfl⟩ : ∃ j, fu = j + 1 := ⟨fu - 1, by omega⟩
    by_cases hl : (bdS op out A (cz.map (ga X)) m).1.length ≤ 60
    · obtain ⟨m', h1, h2, h3⟩ := ih (m + 1) fu (by omega) (by omega)
      refine ⟨m', h1, ?_, h3⟩
      rw [xR (s' := bdS op out A (cz.map (ga X)) (m + 1)) (by
        have c1 : decide ((bdS op out A (cz.map (ga X)) m).2.2 < ((NL cz).length : Int)) = true := by
          show decide ((m : Int) < _) = true
          rw [YQ]; simp; omega
        have c2 : decide (((bdS op out A (cz.map (ga X)) m).1.length : Int) ≤ 60) = true := by simp; omega
        rw [c1, c2, Bool.and_self, ct1]
        have hcm : ga cz m < X.length := hcs _ (yG (by omega))
        have hxm : ga X (ga cz m) < A.length := hX _ (yG hcm)
        have i1 : idx (NL cz) (bdS op out A (cz.map (ga X)) m).2.2 = some ((ga cz m : Nat) : Int) := ZE (by omega)
        have hg60 := h60 (ga X (ga cz m))
        simp only [i1, obs, ZE hcm, Xb (show ga X (ga cz m) < out.length by omega), xd hxm]
        have etk : (cz.map (ga X)).take (m + 1) = (cz.map (ga X)).take m ++ [ga X (ga cz m)] := by
          rw [List.take_add_one, gge (by simp; omega), List.getElem_map, xM (show m < cz.length by omega)]; rfl
        rw [yv (by omega), obs, yv (by
          show (NLL _).length + 1 ≤ _
          simp; omega), obs]
        congr 2
        refine Prod.ext ?_ (Prod.ext ?_ ?_)
        · show cpT op _ ++ _ = cpT op _
          rw [etk]; simp [cpT]
        · show NLL _ ++ _ = NLL _
          rw [etk]; simp [NLL]
        · show w64 ((m : Int) + 1) = _
          exact Yo (by omega))]
      exact h2
    · refine ⟨m, by omega, yo (by
        have c2 : decide (((bdS op out A (cz.map (ga X)) m).1.length : Int) ≤ 60) = false := by simp; omega
        rw [c2, Bool.and_false, ct0]) (by intro s; simp), .inr (by omega)⟩

structure QIv (N k : Nat) (ops : List (Int × List Int)) (B A : List (List Nat)) (X : List Nat) (s0 : Nat) (out0 : List (List Int)) (dn : Nat → Nat → Prop) (out : List (List Int)) : Prop where
  tb : TB N ops k B A out
  le : LeB out out0
  keep : ∀ x ∈ X, gI out x = gI out0 x
  up : ∀ i, i < A.length → i ∉ X → gI out i ≠ [] → leT (gI out0 s0) (gI out i)
  cl : ∀ j (hj : j < ops.length) K T, OpN N ops[j] K T → ∀ cz : List Nat, cz.length = K → (∀ c ∈ cz, c < X.length) → X.length - 1 ∈ cz → (cpT j ((cz.map (ga X)).map (gI out0))).length ≤ 60 → dn j (ix X.length 0 cz) → HasT A out (apT N T ((cz.map (ga X)).map (gl A)) k) (cpT j ((cz.map (ga X)).map (gI out0)))

theorem QIv.step {ops : List (Int × List Int)} {X : List Nat} {out0 out : List (List Int)} {dn : Nat → Nat → Prop} (hX1 : 1 ≤ X.length) (hX : ∀ x ∈ X, x < A.length ∧ gI out0 x ≠ [] ∧ leT (gI out0 x) (gI out0 (ga X (X.length - 1)))) (h : QIv N k ops B A X (ga X (X.length - 1)) out0 dn out)
    (hall : ∀ v, Gen N ops k B v → v ∈ A) {j : Nat} (hj : j < ops.length) {K : Nat} {T : List Nat} (ho : OpN N ops[j] K T) {cz : List Nat} (hcl : cz.length = K) (hcs : ∀ c ∈ cz, c < X.length) (hin : X.length - 1 ∈ cz) (h60 : (cpT j ((cz.map (ga X)).map (gI out0))).length ≤ 60) :
    (cz.map (ga X)).map (gI out) = (cz.map (ga X)).map (gI out0) ∧ apT N T ((cz.map (ga X)).map (gl A)) k ∈ A ∧ QIv N k ops B A X (ga X (X.length - 1)) out0 dn (btr out (A.idxOf (apT N T ((cz.map (ga X)).map (gl A)) k)) (cpT j ((cz.map (ga X)).map (gI out0)))) ∧ HasT A (btr out (A.idxOf (apT N T ((cz.map (ga X)).map (gl A)) k)) (cpT j ((cz.map (ga X)).map (gI out0)))) (apT N T ((cz.map (ga X)).map (gl A)) k) (cpT j ((cz.map (ga X)).map (gI out0))) := by
  have hdX : ∀ d ∈ cz.map (ga X), d ∈ X := fun d hd => by
    obtain ⟨c, hc, rfl⟩ := List.mem_map.1 hd
    exact yG (hcs c hc)
  have e1 : (cz.map (ga X)).map (gI out) = (cz.map (ga X)).map (gI out0) := List.map_congr_left fun d hd => h.keep d (hdX d hd)
  have ht : TmV N ops k B (cpT j ((cz.map (ga X)).map (gI out0))) (apT N T ((cz.map (ga X)).map (gl A)) k) := by
    rw [← e1]
    exact zaf h.tb hj ho (by simpa using hcl) (fun d hd => ⟨(hX d (hdX d hd)).1, by rw [h.keep d (hdX d hd)]; exact (hX d (hdX d hd)).2.1⟩)
  have hv := hall _ ht.gen
  have hl := List.idxOf_lt_length_of_mem hv
  have hlo : A.idxOf (apT N T ((cz.map (ga X)).map (gl A)) k) < out.length := by rw [h.tb.len]; exact hl
  obtain ⟨b1, b2, b3⟩ := UR h.tb hv ht h60
  have hs : bef (gI out0 (ga X (X.length - 1))) (cpT j ((cz.map (ga X)).map (gI out0))) = true := Vb (zck (List.mem_map.2 ⟨_, List.mem_map.2 ⟨_, hin, rfl⟩, rfl⟩))
  refine ⟨e1, hv, ⟨b1, b2.trans h.le, fun x hx => ?_, fun i hi hiX hne => ?_, fun j' hj' K' T' ho' cz' h1 h2 h3 h4 h5 => (h.cl j' hj' K' T' ho' cz' h1 h2 h3 h4 h5).mono b2 (yE _)⟩, b3⟩
  · obtain ⟨x1, x2, x3⟩ := hX x hx
    rw [← h.keep x hx]
    unfold btr
    split
    · rename_i hc
      by_cases ex : x = A.idxOf (apT N T ((cz.map (ga X)).map (gl A)) k)
      · exfalso
        rw [← ex, h.keep x hx] at hc
        rcases hc with hc | hc
        · exact x2 hc
        · have := XD x3 (.inr hs)
          rw [leT_not this] at hc; cases hc
      · rw [vj hlo, if_neg ex]
    · rfl
  · unfold btr at hne ⊢
    split
    · rename_i hc
      rw [if_pos hc, vj hlo] at hne
      rw [vj hlo]
      split
      · exact .inr hs
      · rename_i ex
        rw [if_neg ex] at hne
        exact h.up i hi hiX hne
    · rename_i hc
      rw [if_neg hc] at hne
      exact h.up i hi hiX hne

end

set_option linter.unusedVariables false

abbrev inS (a : Int × List (Int × List Int)) (k : Nat) (A : List (List Nat)) (Y : List Int) (J : Int) : (List Int) × Bool × (List (List Int)) → Option (Ctl ((List Int) × Bool × (List (List Int))) (List (List Int))) := (fun s4634 =>
  (bif s4634.2.1 then (ZF s4634.1 (w64 ((Y.length : Int) - 1))).bind fun r4650 =>
  (bif r4650 then (iter (S := (List Int) × (List (List Int)) × Int) (R := (List (List Int))) (fun s4725 =>
  (bif ((decide (s4725.2.2 < (s4634.1.length : Int))) && (decide ((s4725.1.length : Int) ≤ 60))) then (idx s4634.1 s4725.2.2).bind fun x4746 =>
  (idx Y x4746).bind fun x4748 =>
  (idx s4634.2.2 x4748).bind fun x4750 =>
  (app s4725.1 x4750).bind fun y4755 =>
  (idx s4634.1 s4725.2.2).bind fun x4757 =>
  (idx Y x4757).bind fun x4759 =>
  (idx (NLL A) x4759).bind fun x4761 =>
  (app s4725.2.1 ([x4761])).bind fun y4768 =>
  some (.nx (y4755, y4768, w64 (s4725.2.2 + 1))) else some (.br (s4725.1, s4725.2.1, s4725.2.2)))) FU ([w64 ((-1) - J)], [], 0)).bind fun o4729 => after o4729 (fun r_ => some (.rt r_)) (fun s4725 =>
  (bif (decide ((s4725.1.length : Int) ≤ 60)) then (zU (a.1, a.2) J s4725.2.1 (k : Int)).bind fun r4786 =>
  (Zf s4634.2.2 (NLL A) r4786 s4725.1).bind fun r4789 =>
  some r4789 else some s4634.2.2).bind fun s4780 =>
  (zV s4634.1 (w64 ((w64 ((Y.length : Int) - 1)) + 1))).bind fun r4791 =>
  some (.nx (r4791.1, r4791.2, s4780))) else (zV s4634.1 (w64 ((w64 ((Y.length : Int) - 1)) + 1))).bind fun r4794 =>
  some (.nx (r4794.1, r4794.2, s4634.2.2))) else some (.br (s4634.1, s4634.2.1, s4634.2.2))))

abbrev opZ (a : Int × List (Int × List Int)) (k : Nat) (A : List (List Nat)) (Y : List Int) : Int → (List (List Int)) → Option (Ctl (List (List Int)) (List (List Int))) := (fun k4304 s4302 =>
  (idx a.2 k4304).bind fun x4323 =>
  (idx a.2 k4304).bind fun x4326 =>
  (mks x4323.1 (0 : Int)).bind fun y4330 =>
  (iter (inS a k A Y k4304) FU (y4330, (decide (0 < x4326.1)), s4302)).bind fun o4638 => after o4638 (fun r_ => some (.rt r_)) (fun s4634 =>
  some (.nx s4634.2.2)))

abbrev piS (D : List Bool) (O : List (List Int)) : Int → Int → Option (Ctl Int (List (List Int))) := (fun k3295 s3293 =>
  ((idx D k3295).bind fun x3303 =>
  (bif (!x3303) then (idx O k3295).bind fun x3306 =>
  (bif (decide (0 < (x3306.length : Int))) then (bif (decide (s3293 < 0)) then some true else (idx O k3295).bind fun x3312 =>
  (idx O s3293).bind fun x3316 =>
  (yr x3312 x3316).bind fun r3321 =>
  some r3321) else some false) else some false)).bind fun s3299 =>
  (bif s3299 then some (.nx k3295) else some (.nx s3293)))

section
variable {N k : Nat} {a : Int × List (Int × List Int)} {B A : List (List Nat)}

theorem inner_ok (ha : AlgN a N) (hs : Sorted A) (hA3 : A.length ≤ 300) (hall : ∀ v, Gen N a.2 k B v → v ∈ A) (htA : ∀ u ∈ A, TupN N k u) (hk : k ≤ 1000000) {X : List Nat} {out0 : List (List Int)} (hX1 : 1 ≤ X.length) (hXl : X.length ≤ 300) (hX : ∀ x ∈ X, x < A.length ∧ gI out0 x ≠ [] ∧ leT (gI out0 x) (gI out0 (ga X (X.length - 1))))
    {j : Nat} (hj : j < a.2.length) {K : Nat} {T : List Nat} (ho : OpN N a.2[j] K T) : ∀ (n m fu : Nat) (out : List (List Int)), m + n = X.length ^ K → n < fu → QIv N k a.2 B A X (ga X (X.length - 1)) out0 (fun j' i' => j' < j ∨ (j' = j ∧ i' < m)) out →
    ∃ z out', iter (S := (List Int) × Bool × (List (List Int))) (R := (List (List Int))) (inS a k A (NL X) (j : Int)) fu (NL (dig X.length K (if m < X.length ^ K then m else 0)), decide (m < X.length ^ K), out) = some (.br (z, false, out')) ∧ QIv N k a.2 B A X (ga X (X.length - 1)) out0 (fun j' i' => j' < j ∨ (j' = j ∧ i' < X.length ^ K)) out' := by
  have hK := ho.k3
  have hP := wI hXl hK
  have hl4 := ha.l4
  intro n
  induction n with
  | zero =>
    intro m fu out hm hf hI
    obtain ⟨fu, rfl⟩ : ∃ q, fu = q + 1 := ⟨fu - 1, by omega⟩
    have em : m = X.length ^ K := by omega
    rw [show decide (m < X.length ^ K) = false by simp; omega]
    exact ⟨_, out, yo rfl (by intro s; simp), by rw [← em]; exact hI⟩
  | succ n ih =>
    intro m fu out hm hf hI
    obtain ⟨fu, rfl⟩ : ∃ q, fu = q + 1 := ⟨fu - 1, by omega⟩
    have hml : m < X.length ^ K := by omega
    rw [if_pos hml, decide_eq_true hml]
    have ew : w64 (((NL X).length : Int) - 1) = ((X.length - 1 : Nat) : Int) := by rw [YQ, show ((X.length : Int) - 1) = ((X.length - 1 : Nat) : Int) by omega, wN (by omega)]
    have ew2 : w64 (w64 (((NL X).length : Int) - 1) + 1) = (X.length : Int) := by rw [ew, Yo (by omega)]; omega
    have hcs : ∀ c ∈ dig X.length K m, c < X.length := Xa hX1 K m
    have nxt : zV (NL (dig X.length K m)) (X.length : Int) = some (NL (dig X.length K (if m + 1 < X.length ^ K then m + 1 else 0)), decide (m + 1 < X.length ^ K)) := Vi hX1 (by omega) (by omega) hml
    have hixm : ∀ cz : List Nat, cz.length = K → (∀ c ∈ cz, c < X.length) → ix X.length 0 cz = m → dig X.length K m = cz := fun cz h1 h2 h3 => by rw [← h3]; exact zao hX1 K cz h1 h2
    -- what the round leaves
    have round : ∃ out1, QIv N k a.2 B A X (ga X (X.length - 1)) out0 (fun j' i' => j' < j ∨ (j' = j ∧ i' < m + 1)) out1 ∧ inS a k A (NL X) (j : Int) (NL (dig X.length K m), true, out) = some (.nx (NL (dig X.length K (if m + 1 < X.length ^ K then m + 1 else 0)), decide (m + 1 < X.length ^ K), out1)) := by
      by_cases hin : X.length - 1 ∈ dig X.length K m
      · have hh : ZF (NL (dig X.length K m)) (w64 (((NL X).length : Int) - 1)) = some true := by rw [ew, uK (by simp; omega), decide_eq_true hin]
        obtain ⟨m', hm', eb, hor⟩ := build_ok (R := (List (List Int))) (A := A) (X := X) (cz := dig X.length K m) (op := j) (out := out) (fun x hx => (hX x hx).1) hI.tb.len hcs (by simp; omega) hI.tb.le60 K 0 FU (by simp) (by unfold FU; omega)
        have e0 : bdS j out A ((dig X.length K m).map (ga X)) 0 = ([w64 ((-1) - (j : Int))], [], 0) := by
          unfold bdS cpT
          rw [zP (by omega) (by omega)]; rfl
        rw [e0] at eb
        have keepall : (((dig X.length K m).map (ga X)).map (gI out)) = (((dig X.length K m).map (ga X)).map (gI out0)) := List.map_congr_left fun d hd => by
          obtain ⟨c, hc, rfl⟩ := List.mem_map.1 hd
          exact hI.keep _ (yG (hcs c hc))
        by_cases h60 : (cpT j (((dig X.length K m).map (ga X)).map (gI out0))).length ≤ 60
        · have em' : m' = K := by
            rcases hor with h | h
            · simpa using h
            · exfalso
              have := cpT_take j (((dig X.length K m).map (ga X)).map (gI out)) m'
              rw [← List.map_take, keepall] at this
              have h : 60 < (cpT j ((((dig X.length K m).map (ga X)).take m').map (gI out))).length := h
              omega
          subst em'
          obtain ⟨s1, s2, s3, s4⟩ := hI.step hX1 hX hall hj ho (cz := dig X.length m' m) (by simp) hcs hin h60
          have etk : ((dig X.length m' m).map (ga X)).take m' = (dig X.length m' m).map (ga X) := List.take_of_length_le (by simp)
          have ebd : bdS j out A ((dig X.length m' m).map (ga X)) m' = (cpT j (((dig X.length m' m).map (ga X)).map (gI out0)), NLL (((dig X.length m' m).map (ga X)).map (gl A)), (m' : Int)) := by
            unfold bdS
            rw [etk, keepall]
          rw [ebd] at eb
          refine ⟨_, ⟨s3.tb, s3.le, s3.keep, s3.up, fun j' hj' K' T' ho' cz h1 h2 h3 h4 h5 => ?_⟩, ?_⟩
          · by_cases hx : j' < j ∨ (j' = j ∧ ix X.length 0 cz < m)
            · exact s3.cl j' hj' K' T' ho' cz h1 h2 h3 h4 hx
            · have ej : j' = j := by omega
              have ei : ix X.length 0 cz = m := by omega
              subst ej
              obtain ⟨eK, eT⟩ := ho.uniq ho'
              subst eT
              have ed := hixm cz (by omega) h2 ei
              rw [← ed]
              exact s4
          · have happ := XQ (ts := ((dig X.length m' m).map (ga X)).map (gl A)) ha hj ho (by simp) (fun t ht => by
              obtain ⟨d, hd, rfl⟩ := List.mem_map.1 ht
              obtain ⟨c, hc, rfl⟩ := List.mem_map.1 hd
              exact (htA _ (YR (hX _ (yG (hcs c hc))).1)).1) (fun t ht => by
              obtain ⟨d, hd, rfl⟩ := List.mem_map.1 ht
              obtain ⟨c, hc, rfl⟩ := List.mem_map.1 hd
              exact (htA _ (YR (hX _ (yG (hcs c hc))).1)).2) hk
            have hbt := VA (k := k) (out := out) (t := cpT j (((dig X.length m' m).map (ga X)).map (gI out0))) hs hA3 hk (fun u hu => (htA u hu).1) s2 hI.tb.len h60
            simp only [inS, ct1, hh, obs, eb, zE, show decide ((((cpT j (((dig X.length m' m).map (ga X)).map (gI out0))).length : Nat) : Int) ≤ 60) = true from decide_eq_true (by omega), happ, hbt, ew2, nxt]
        · refine ⟨out, ⟨hI.tb, hI.le, hI.keep, hI.up, fun j' hj' K' T' ho' cz h1 h2 h3 h4 h5 => ?_⟩, ?_⟩
          · by_cases hx : j' < j ∨ (j' = j ∧ ix X.length 0 cz < m)
            · exact hI.cl j' hj' K' T' ho' cz h1 h2 h3 h4 hx
            · exfalso
              have ej : j' = j := by omega
              have ei : ix X.length 0 cz = m := by omega
              subst ej
              obtain ⟨eK, eT⟩ := ho.uniq ho'
              have ed := hixm cz (by omega) h2 ei
              rw [ed] at h60
              omega
          · have hlong : decide ((((bdS j out A ((dig X.length K m).map (ga X)) m').1.length : Nat) : Int) ≤ 60) = false := by
              rw [decide_eq_false_iff_not]
              rcases hor with h | h
              · have e1 : (bdS j out A ((dig X.length K m).map (ga X)) m').1 = cpT j (((dig X.length K m).map (ga X)).map (gI out0)) := by
                  show cpT j _ = _
                  rw [h, List.take_of_length_le (by simp), keepall]
                rw [e1]; omega
              · omega
            simp only [inS, ct1, hh, obs, eb, zE, hlong, ct0, ew2, nxt]
      · have hh : ZF (NL (dig X.length K m)) (w64 (((NL X).length : Int) - 1)) = some false := by rw [ew, uK (by simp; omega), decide_eq_false hin]
        refine ⟨out, ⟨hI.tb, hI.le, hI.keep, hI.up, fun j' hj' K' T' ho' cz h1 h2 h3 h4 h5 => ?_⟩, ?_⟩
        · by_cases hx : j' < j ∨ (j' = j ∧ ix X.length 0 cz < m)
          · exact hI.cl j' hj' K' T' ho' cz h1 h2 h3 h4 hx
          · exfalso
            have ej : j' = j := by omega
            have ei : ix X.length 0 cz = m := by omega
            subst ej
            obtain ⟨eK, eT⟩ := ho.uniq ho'
            have ed := hixm cz (by omega) h2 ei
            rw [ed] at hin
            exact hin h3
        · simp only [inS, ct1, hh, obs, ct0, ew2, nxt]
    obtain ⟨out1, hI1, e1⟩ := round
    obtain ⟨z, out', e2, hI2⟩ := ih (m + 1) fu out1 (by omega) (by omega) hI1
    exact ⟨z, out', by rw [xR e1]; exact e2, hI2⟩

theorem ops_ok (ha : AlgN a N) (hs : Sorted A) (hA3 : A.length ≤ 300) (hall : ∀ v, Gen N a.2 k B v → v ∈ A) (htA : ∀ u ∈ A, TupN N k u) (hk : k ≤ 1000000) {X : List Nat} {out0 : List (List Int)} (hX1 : 1 ≤ X.length) (hXl : X.length ≤ 300) (hX : ∀ x ∈ X, x < A.length ∧ gI out0 x ≠ [] ∧ leT (gI out0 x) (gI out0 (ga X (X.length - 1))))
    (h0 : TB N a.2 k B A out0) (hup : ∀ i, i < A.length → i ∉ X → gI out0 i ≠ [] → leT (gI out0 (ga X (X.length - 1))) (gI out0 i)) :
    ∃ out', forC (S := (List (List Int))) (R := (List (List Int))) (opZ a k A (NL X)) 0 (a.2.length : Int) out0 = some (.br out') ∧ QIv N k a.2 B A X (ga X (X.length - 1)) out0 (fun j' _ => j' < a.2.length) out' := by
  have hl4 := ha.l4
  have := Zo (S := (List (List Int))) (R := (List (List Int))) (step := (opZ a k A (NL X))) (n := a.2.length) (hi := (a.2.length : Int)) (s := out0)
    (fun j out => QIv N k a.2 B A X (ga X (X.length - 1)) out0 (fun j' _ => j' < j) out) (fun _ => False) (fun _ => False) rfl (by omega)
    ⟨h0, LeB.refl _, fun _ _ => rfl, hup, fun j hj K T ho cz _ _ _ _ h => by omega⟩ (by
      intro j out hj hI
      left
      obtain ⟨K, T, q1, q2, ho⟩ := WI ha hj
      have hK := ho.k3
      have hP := wI hXl hK
      simp only [opZ, q1, obs]
      rw [xI rfl (by omega), obs]
      by_cases hK0 : K = 0
      · subst hK0
        rw [show FU = (FU - 1) + 1 from rfl, yo (o := some (.br (List.replicate 0 (0 : Int), decide ((0 : Int) < ((0 : Nat) : Int)), out))) rfl (by intro s; simp), obs, zE]
        refine ⟨_, rfl, hI.tb, hI.le, hI.keep, hI.up, fun j' hj' K' T' ho' cz h1 h2 h3 h4 h5 => ?_⟩
        by_cases ej : j' = j
        · subst ej
          obtain ⟨eK, eT⟩ := ho.uniq ho'
          rw [List.length_eq_zero_iff.1 (show cz.length = 0 by omega)] at h3
          cases h3
        · exact hI.cl j' hj' K' T' ho' cz h1 h2 h3 h4 (by omega)
      · have hpos : 0 < X.length ^ K := Nat.pow_pos (by omega)
        obtain ⟨z, out', e, hI'⟩ := inner_ok ha hs hA3 hall htA hk hX1 hXl hX hj ho (X.length ^ K) 0 FU out (by omega) (by unfold FU; omega) ⟨hI.tb, hI.le, hI.keep, hI.up, fun j' hj' K' T' ho' cz h1 h2 h3 h4 h5 => hI.cl j' hj' K' T' ho' cz h1 h2 h3 h4 (by omega)⟩
        rw [if_pos hpos, Wq, decide_eq_true hpos, show NL (List.replicate K 0) = List.replicate K (0 : Int) by simp [NL]] at e
        rw [show decide ((0 : Int) < (K : Int)) = true by simp; omega, e, obs, zE]
        refine ⟨_, rfl, hI'.tb, hI'.le, hI'.keep, hI'.up, fun j' hj' K' T' ho' cz h1 h2 h3 h4 h5 => hI'.cl j' hj' K' T' ho' cz h1 h2 h3 h4 ?_⟩
        by_cases ej : j' = j
        · subst ej
          obtain ⟨eK, eT⟩ := ho.uniq ho'
          exact .inr ⟨rfl, Xm h2 (by omega)⟩
        · left; omega)
  rcases this with ⟨out', e, hI | h⟩ | ⟨_, _, h⟩
  · exact ⟨out', e, hI⟩
  · exact h.elim
  · exact h.elim

theorem pick_ok' (hA3 : A.length ≤ 300) {X : List Nat} {D : List Bool} {out : List (List Int)} (h : TB N a.2 k B A out) (hD : ∀ i, i < A.length → D[i]? = some (decide (i ∈ X))) :
    ∃ r : Int, forC (S := Int) (R := (List (List Int))) (piS D out) 0 (out.length : Int) (-1) = some (.br r) ∧
      ((r = -1 ∧ ∀ i, i < A.length → i ∉ X → gI out i = []) ∨ (∃ p : Nat, r = (p : Int) ∧ p < A.length ∧ p ∉ X ∧ gI out p ≠ [] ∧ ∀ i, i < A.length → i ∉ X → gI out i ≠ [] → leT (gI out p) (gI out i))) := by
  have := Zo (S := Int) (R := (List (List Int))) (step := (piS D out)) (n := A.length) (hi := (out.length : Int)) (s := (-1 : Int))
    (fun j r => (r = -1 ∧ ∀ i, i < j → i ∉ X → gI out i = []) ∨ (∃ p : Nat, r = (p : Int) ∧ p < j ∧ p ∉ X ∧ gI out p ≠ [] ∧ ∀ i, i < j → i ∉ X → gI out i ≠ [] → leT (gI out p) (gI out i)))
    (fun _ => False) (fun _ => False) (by rw [h.len]) (by omega) (.inl ⟨rfl, fun i hi => by omega⟩) (by
      intro j r hj hI
      left
      have hjo : j < out.length := by rw [h.len]; exact hj
      have e1 : idx D (j : Int) = some (decide (j ∈ X)) := by rw [Zv]; exact hD j hj
      have h60 := h.le60 j
      simp only [piS, e1, obs, Xb hjo]
      by_cases hx : j ∈ X
      · rw [decide_eq_true hx, bnt, ct0, obs, ct0]
        refine ⟨_, rfl, ?_⟩
        rcases hI with ⟨rfl, hI⟩ | ⟨p, rfl, h1, h2, h3, h4⟩
        · exact .inl ⟨rfl, fun i hi hix => hI i (by
            rcases Nat.lt_or_ge i j with h | h
            · exact h
            · exact absurd hx (by rw [show j = i by omega]; exact hix)) hix⟩
        · exact .inr ⟨p, rfl, by omega, h2, h3, fun i hi hix => h4 i (by
            rcases Nat.lt_or_ge i j with h | h
            · exact h
            · exact absurd hx (by rw [show j = i by omega]; exact hix)) hix⟩
      · rw [decide_eq_false hx, bnf, ct1]
        by_cases hg : gI out j = []
        · rw [show decide (0 < ((gI out j).length : Int)) = false by rw [hg]; rfl, ct0, obs, ct0]
          refine ⟨_, rfl, ?_⟩
          rcases hI with ⟨rfl, hI⟩ | ⟨p, rfl, h1, h2, h3, h4⟩
          · refine .inl ⟨rfl, fun i hi hix => ?_⟩
            by_cases e : i = j
            · rw [e]; exact hg
            · exact hI i (by omega) hix
          · refine .inr ⟨p, rfl, by omega, h2, h3, fun i hi hix hne => ?_⟩
            by_cases e : i = j
            · rw [e] at hne; exact absurd hg hne
            · exact h4 i (by omega) hix hne
        · have hpos : 0 < (gI out j).length := List.length_pos_iff.2 hg
          rw [show decide (0 < ((gI out j).length : Int)) = true by simp; omega, ct1]
          rcases hI with ⟨rfl, hI⟩ | ⟨p, rfl, h1, h2, h3, h4⟩
          · refine ⟨(j : Int), rfl, .inr ⟨j, rfl, by omega, hx, hg, fun i hi hix hne => ?_⟩⟩
            by_cases e : i = j
            · rw [e]; exact yE _
            · exact absurd (hI i (by omega) hix) hne
          · have hpo : p < out.length := by rw [h.len]; omega
            rw [show decide (((p : Nat) : Int) < 0) = false by simp, ct0]
            simp only [Xb hpo, obs]
            rw [VC (by omega), obs, obs]
            cases hb : bef (gI out j) (gI out p) with
            | true =>
              refine ⟨(j : Int), rfl, .inr ⟨j, rfl, by omega, hx, hg, fun i hi hix hne => ?_⟩⟩
              by_cases e : i = j
              · rw [e]; exact yE _
              · exact XD (.inr hb) (h4 i (by omega) hix hne)
            | false =>
              refine ⟨(p : Int), rfl, .inr ⟨p, rfl, by omega, h2, h3, fun i hi hix hne => ?_⟩⟩
              by_cases e : i = j
              · rw [e]; exact zcf hb
              · exact h4 i (by omega) hix hne)
  rcases this with ⟨r, e, hI | h⟩ | ⟨_, _, h⟩
  · exact ⟨r, e, hI⟩
  · exact h.elim
  · exact h.elim

structure OIv (N k : Nat) (ops : List (Int × List Int)) (B A : List (List Nat)) (X : List Nat) (D : List Bool) (out : List (List Int)) : Prop where
  dl : D.length = A.length
  dx : ∀ i, i < A.length → D[i]? = some (decide (i ∈ X))
  nd : X.Nodup
  xl : ∀ x ∈ X, x < A.length
  tb : TB N ops k B A out
  gens : ∀ c, c < B.length → HasT A out (gl B c) [(c : Int)]
  mono : ∀ x ∈ X, gI out x ≠ [] ∧ ∀ i, i < A.length → i ∉ X → gI out i ≠ [] → leT (gI out x) (gI out i)
  cl : ∀ j (hj : j < ops.length) K T, OpN N ops[j] K T → ∀ ds : List Nat, ds.length = K → (∀ d ∈ ds, d ∈ X) → (cpT j (ds.map (gI out))).length ≤ 60 → HasT A out (apT N T (ds.map (gl A)) k) (cpT j (ds.map (gI out)))

theorem zbU {L M : List Nat} (h : L.Nodup) (hs : ∀ x ∈ L, x ∈ M) : L.length ≤ M.length := by
  induction L generalizing M with
  | nil => simp
  | cons x L ih =>
    rw [List.nodup_cons] at h
    have hx := hs x (by simp)
    have := ih (M := M.erase x) h.2 (fun y hy => by
      have hne : y ≠ x := fun e => h.1 (e ▸ hy)
      exact (List.mem_erase_of_ne hne).2 (hs y (by simp [hy])))
    rw [List.length_erase_of_mem hx] at this
    have : 0 < M.length := List.length_pos_of_mem hx
    simp; omega

theorem zbk {X : List Nat} {n : Nat} (h : X.Nodup) (hx : ∀ x ∈ X, x < n) : X.length ≤ n := by
  have := zbU h (M := List.range n) (fun x h' => List.mem_range.2 (hx x h'))
  simpa using this

theorem ga_last (X : List Nat) (p : Nat) : ga (X ++ [p]) ((X ++ [p]).length - 1) = p := by
  rw [ga_appr (by simp)]; simp [ga]

theorem round_ok (ha : AlgN a N) (hs : Sorted A) (hA3 : A.length ≤ 300) (hall : ∀ v, Gen N a.2 k B v → v ∈ A) (htA : ∀ u ∈ A, TupN N k u) (hk : k ≤ 1000000) {X : List Nat} {D : List Bool} {out0 : List (List Int)} (h : OIv N k a.2 B A X D out0) {p : Nat} (hp : p < A.length) (hpX : p ∉ X) (hp0 : gI out0 p ≠ []) (hle : ∀ i, i < A.length → i ∉ X → gI out0 i ≠ [] → leT (gI out0 p) (gI out0 i)) :
    ∃ out', forC (S := (List (List Int))) (R := (List (List Int))) (opZ a k A (NL (X ++ [p]))) 0 (a.2.length : Int) out0 = some (.br out') ∧ OIv N k a.2 B A (X ++ [p]) (D.set p true) out' := by
  have hnd : (X ++ [p]).Nodup := by
    rw [List.nodup_append]
    exact ⟨h.nd, by simp, fun x hx y hy => by simp at hy; subst hy; exact fun e => hpX (e ▸ hx)⟩
  have hxl : ∀ x ∈ X ++ [p], x < A.length := fun x hx => by
    rcases List.mem_append.1 hx with hx | hx
    · exact h.xl x hx
    · simp at hx; omega
  have hlen := zbk hnd hxl
  have hX : ∀ x ∈ X ++ [p], x < A.length ∧ gI out0 x ≠ [] ∧ leT (gI out0 x) (gI out0 (ga (X ++ [p]) ((X ++ [p]).length - 1))) := fun x hx => by
    rw [ga_last]
    rcases List.mem_append.1 hx with hx' | hx'
    · exact ⟨hxl x hx, (h.mono x hx').1, (h.mono x hx').2 p hp hpX hp0⟩
    · simp at hx'; subst hx'; exact ⟨hp, hp0, yE _⟩
  obtain ⟨out', e, hI⟩ := ops_ok (X := X ++ [p]) ha hs hA3 hall htA hk (by simp) (by omega) hX h.tb (fun i hi hix hne => by
    rw [ga_last]; exact hle i hi (fun hx => hix (List.mem_append_left _ hx)) hne)
  have hkm : ∀ ds : List Nat, (∀ d ∈ ds, d ∈ X ++ [p]) → ds.map (gI out') = ds.map (gI out0) := fun ds hd => List.map_congr_left fun d hd' => hI.keep d (hd d hd')
  refine ⟨out', e, by simp [h.dl], fun i hi => ?_, hnd, hxl, hI.tb, fun c hc => (h.gens c hc).mono hI.le (yE _), fun x hx => ?_, fun j hj K T ho ds h1 h2 h3 => ?_⟩
  · rw [List.getElem?_set]
    by_cases e : p = i
    · subst e
      rw [if_pos rfl, if_pos (by rw [h.dl]; exact hp)]; simp
    · rw [if_neg e, h.dx i hi]
      congr 1
      rw [decide_eq_decide]
      constructor
      · intro h; exact List.mem_append_left _ h
      · intro h
        rcases List.mem_append.1 h with h | h
        · exact h
        · simp at h; exact absurd h.symm e
  · obtain ⟨x1, x2, x3⟩ := hX x hx
    rw [hI.keep x hx]
    refine ⟨x2, fun i hi hix hne => XD x3 (hI.up i hi hix hne)⟩
  · rw [hkm ds h2] at h3 ⊢
    by_cases hpd : p ∈ ds
    · have hidx : ∀ d ∈ ds, (X ++ [p]).idxOf d < (X ++ [p]).length := fun d hd => List.idxOf_lt_length_of_mem (h2 d hd)
      have eds : (ds.map (fun d => (X ++ [p]).idxOf d)).map (ga (X ++ [p])) = ds := by
        rw [List.map_map]
        conv => rhs; rw [← List.map_id ds]
        refine List.map_congr_left fun d hd => ?_
        show ga (X ++ [p]) ((X ++ [p]).idxOf d) = d
        rw [xM (hidx d hd)]; exact List.getElem_idxOf (hidx d hd)
      have hin : (X ++ [p]).length - 1 ∈ ds.map (fun d => (X ++ [p]).idxOf d) := by
        refine List.mem_map.2 ⟨p, hpd, ?_⟩
        rw [List.idxOf_append, if_neg hpX]; simp
      have := hI.cl j hj K T ho (ds.map fun d => (X ++ [p]).idxOf d) (by simpa using h1) (fun c hc => by
        obtain ⟨d, hd, rfl⟩ := List.mem_map.1 hc
        exact hidx d hd) hin (by rw [eds]; exact h3) hj
      rwa [eds] at this
    · exact (h.cl j hj K T ho ds h1 (fun d hd => by
        rcases List.mem_append.1 (h2 d hd) with h' | h'
        · exact h'
        · simp at h'; subst h'; exact absurd hd hpd) h3).mono hI.le (yE _)

theorem OIv.fin (hall : ∀ v, Gen N a.2 k B v → v ∈ A) {X : List Nat} {D : List Bool} {out : List (List Int)} (h : OIv N k a.2 B A X D out) (he : ∀ i, i < A.length → i ∉ X → gI out i = []) : FinT N a.2 k B A out :=
  cov_up hall h.gens (fun j hj K T ho ds h1 h2 h3 => h.cl j hj K T ho ds h1 (fun d hd => by
    by_cases hx : d ∈ X
    · exact hx
    · exact absurd (he d (h2 d hd).1 hx) (h2 d hd).2) h3)

theorem zbN (ha : AlgN a N) (hs : Sorted A) (hA3 : A.length ≤ 300) (hall : ∀ v, Gen N a.2 k B v → v ∈ A) (htA : ∀ u ∈ A, TupN N k u) (hk : k ≤ 1000000) (hBl : B.length ≤ 1000) :
    ∃ out, YZ (a.1, a.2) (k : Int) (NLL B) (NLL A) = some out ∧ TB N a.2 k B A out ∧ FinT N a.2 k B A out := by
  have hl4 := ha.l4
  have huA : ∀ u ∈ A, u.length = k := fun u hu => (htA u hu).1
  unfold YZ
  rw [xI (show ((NLL A).length : Int) = (A.length : Int) by simp) (by omega), obs, xI (show ((NLL A).length : Int) = (A.length : Int) by simp) (by omega), obs]
  have init := Zo (S := (List (List Int))) (R := (List (List Int))) (step := fun k122 s120 =>
  (idx (NLL B) k122).bind fun x128 =>
  (zW (NLL A) x128).bind fun r133 =>
  (idx s120 r133.1).bind fun x134 =>
  (bif ((x134.length : Int) == 0) then (idx s120 r133.1).bind fun x141 =>
  some (.nx (List.set s120 (Int.toNat r133.1) ([k122]))) else some (.nx s120))) (n := B.length) (hi := ((NLL B).length : Int)) (s := List.replicate A.length ([] : List Int))
    (fun j s => GnI N k a.2 B A j s) (fun _ => False) (fun _ => False) (by simp) (by omega) (GnI.start _) (by
      intro j s hj hI
      left
      have hm : gl B j ∈ A := hall _ (.base (YR hj))
      have hlt : A.idxOf (gl B j) < s.length := by rw [hI.tb.len]; exact List.idxOf_lt_length_of_mem hm
      obtain ⟨s1, s2⟩ := hI.step hj hm
      simp only [xd hj, obs, vV hs hA3 hk huA hm, Xb hlt, itn]
      by_cases e : gI s (A.idxOf (gl B j)) = []
      · rw [e]
        exact ⟨_, rfl, s1 e⟩
      · have : (((gI s (A.idxOf (gl B j))).length : Int) == 0) = false := by
          rw [show (0 : Int) = ((0 : Nat) : Int) from rfl, XX]
          simpa using e
        rw [this, ct0]
        exact ⟨_, rfl, s2 e⟩)
  rcases init with ⟨o1, e1, hG | h⟩ | ⟨_, _, h⟩
  rotate_left
  · exact h.elim
  · exact h.elim
  rw [e1, obs, zE]
  have consts := Zo (S := (List (List Int))) (R := (List (List Int))) (step := fun k173 s171 =>
  (idx a.2 k173).bind fun x179 =>
  (bif (x179.1 == 0) then (zU (a.1, a.2) k173 ([]) (k : Int)).bind fun r186 =>
  (Zf s171 (NLL A) r186 ([w64 ((-1) - k173)])).bind fun r191 =>
  some (.nx r191) else some (.nx s171))) (n := a.2.length) (hi := (a.2.length : Int)) (s := o1)
    (fun j s => TB N a.2 k B A s ∧ (∀ c, c < B.length → HasT A s (gl B c) [(c : Int)]) ∧ ∀ j' (h : j' < a.2.length), j' < j → ∀ T, OpN N a.2[j'] 0 T → HasT A s (apT N T [] k) (cpT j' []))
    (fun _ => False) (fun _ => False) rfl (by omega) ⟨hG.tb, hG.gens, fun j' _ h => by omega⟩ (by
      rintro j s hj ⟨h1, h2, h3⟩
      left
      obtain ⟨K, T, q1, q2, ho⟩ := WI ha hj
      rw [q1, obs]
      by_cases hK0 : K = 0
      · subst hK0
        have ea := XQ (ts := []) ha hj ho rfl (fun t ht => by cases ht) (fun t ht => by cases ht) hk
        rw [show NLL [] = [] from rfl] at ea
        have hv : apT N T [] k ∈ A := hall _ (.app (List.getElem_mem hj) ho rfl (fun t ht => by cases ht))
        have ew : [w64 ((-1) - (j : Int))] = cpT j [] := by rw [zP (by omega) (by omega)]; rfl
        rw [show ((((0 : Nat) : Int), NL T).1 == 0) = true from rfl, ct1, ea, obs, ew, VA hs hA3 hk huA hv h1.len (by simp [cpT]), obs]
        obtain ⟨b1, b2, b3⟩ := UR h1 hv (TmV.app (ps := []) hj ho rfl (fun p hp => by cases hp)) (by simp [cpT])
        refine ⟨_, rfl, b1, fun c hc => (h2 c hc).mono b2 (yE _), fun j' h' hj' T' ho' => ?_⟩
        by_cases ej : j' = j
        · subst ej
          obtain ⟨_, eT⟩ := ho.uniq ho'
          subst eT
          exact b3
        · exact (h3 j' h' (by omega) T' ho').mono b2 (yE _)
      · rw [show (((K : Int), NL T).1 == 0) = false by simp; omega, ct0]
        refine ⟨_, rfl, h1, h2, fun j' h' hj' T' ho' => ?_⟩
        by_cases ej : j' = j
        · subst ej
          exact absurd (ho.uniq ho').1.symm hK0
        · exact h3 j' h' (by omega) T' ho')
  rcases consts with ⟨o2, e2, ⟨h1, h2, h3⟩ | h⟩ | ⟨_, _, h⟩
  rotate_left
  · exact h.elim
  · exact h.elim
  rw [e2, obs, zE]
  obtain ⟨c, hc, ⟨out, rfl, r1, r2⟩, _⟩ := Ym (S := (List Int) × (List (List Int)) × (List Bool)) (R := (List (List Int))) (step := (fun s3253 =>
  (forC (S := Int) (R := (List (List Int))) (fun k3295 s3293 =>
  ((idx s3253.2.2 k3295).bind fun x3303 =>
  (bif (!x3303) then (idx s3253.2.1 k3295).bind fun x3306 =>
  (bif (decide (0 < (x3306.length : Int))) then (bif (decide (s3293 < 0)) then some true else (idx s3253.2.1 k3295).bind fun x3312 =>
  (idx s3253.2.1 s3293).bind fun x3316 =>
  (yr x3312 x3316).bind fun r3321 =>
  some r3321) else some false) else some false)).bind fun s3299 =>
  (bif s3299 then some (.nx k3295) else some (.nx s3293))) 0 (s3253.2.1.length : Int) (-1)).bind fun o3297 => after o3297 (fun r_ => some (.rt r_)) (fun s3293 =>
  (bif (decide (s3293 < 0)) then some (.rt s3253.2.1) else (idx s3253.2.2 s3293).bind fun x3324 =>
  (app s3253.1 ([s3293])).bind fun y3330 =>
  (forC (S := (List (List Int))) (R := (List (List Int))) (fun k4304 s4302 =>
  (idx a.2 k4304).bind fun x4323 =>
  (idx a.2 k4304).bind fun x4326 =>
  (mks x4323.1 (0 : Int)).bind fun y4330 =>
  (iter (S := (List Int) × Bool × (List (List Int))) (R := (List (List Int))) (fun s4634 =>
  (bif s4634.2.1 then (ZF s4634.1 (w64 ((y3330.length : Int) - 1))).bind fun r4650 =>
  (bif r4650 then (iter (S := (List Int) × (List (List Int)) × Int) (R := (List (List Int))) (fun s4725 =>
  (bif ((decide (s4725.2.2 < (s4634.1.length : Int))) && (decide ((s4725.1.length : Int) ≤ 60))) then (idx s4634.1 s4725.2.2).bind fun x4746 =>
  (idx y3330 x4746).bind fun x4748 =>
  (idx s4634.2.2 x4748).bind fun x4750 =>
  (app s4725.1 x4750).bind fun y4755 =>
  (idx s4634.1 s4725.2.2).bind fun x4757 =>
  (idx y3330 x4757).bind fun x4759 =>
  (idx (NLL A) x4759).bind fun x4761 =>
  (app s4725.2.1 ([x4761])).bind fun y4768 =>
  some (.nx (y4755, y4768, w64 (s4725.2.2 + 1))) else some (.br (s4725.1, s4725.2.1, s4725.2.2)))) FU ([w64 ((-1) - k4304)], [], 0)).bind fun o4729 => after o4729 (fun r_ => some (.rt r_)) (fun s4725 =>
  (bif (decide ((s4725.1.length : Int) ≤ 60)) then (zU (a.1, a.2) k4304 s4725.2.1 (k : Int)).bind fun r4786 =>
  (Zf s4634.2.2 (NLL A) r4786 s4725.1).bind fun r4789 =>
  some r4789 else some s4634.2.2).bind fun s4780 =>
  (zV s4634.1 (w64 ((w64 ((y3330.length : Int) - 1)) + 1))).bind fun r4791 =>
  some (.nx (r4791.1, r4791.2, s4780))) else (zV s4634.1 (w64 ((w64 ((y3330.length : Int) - 1)) + 1))).bind fun r4794 =>
  some (.nx (r4794.1, r4794.2, s4634.2.2))) else some (.br (s4634.1, s4634.2.1, s4634.2.2)))) FU (y4330, (decide (0 < x4326.1)), s4302)).bind fun o4638 => after o4638 (fun r_ => some (.rt r_)) (fun s4634 =>
  some (.nx s4634.2.2))) 0 (a.2.length : Int) s3253.2.1).bind fun o4306 => after o4306 (fun r_ => some (.rt r_)) (fun s4302 =>
  some (.nx (y3330, s4302, List.set s3253.2.2 (Int.toNat s3293) true)))))))
    (fun s => ∃ X D out, s = (NL X, out, D) ∧ OIv N k a.2 B A X D out)
    (fun s => 1000 - s.1.length)
    (fun c => ∃ out, c = .rt out ∧ TB N a.2 k B A out ∧ FinT N a.2 k B A out)
    FU ([], o2, List.replicate A.length false) ⟨[], _, _, rfl, by simp, fun i hi => by simp [List.getElem?_replicate, hi], List.nodup_nil, (fun x hx => by cases hx), h1, h2, (fun x hx => by cases hx), fun j hj K T ho ds hds hd _ => by
      cases ds with
      | nil =>
        subst hds
        exact h3 j hj hj T ho
      | cons d ds => exact absurd (hd d (by simp)) (by simp)⟩ (by simp [FU]) (by
      rintro s ⟨X, D, out, rfl, hI⟩
      obtain ⟨r, er, hr⟩ := pick_ok' hA3 hI.tb hI.dx
      rcases hr with ⟨rfl, hr⟩ | ⟨p, rfl, p1, p2, p3, p4⟩
      · right
        refine ⟨.rt out, ?_, by intro s; simp, out, rfl, hI.tb, hI.fin hall hr⟩
        show ((forC _ 0 (out.length : Int) (-1)).bind _) = _
        rw [er]; rfl
      · left
        have hXn := zbk hI.nd hI.xl
        obtain ⟨out', e3, hI'⟩ := round_ok ha hs hA3 hall htA hk hI p1 p2 p3 p4
        refine ⟨(NL (X ++ [p]), out', D.set p true), ?_, ⟨X ++ [p], _, out', rfl, hI'⟩, by simp; omega⟩
        show ((forC _ 0 (out.length : Int) (-1)).bind _) = _
        rw [er, obs, zE, show decide (((p : Nat) : Int) < 0) = false by simp, ct0]
        have ed : idx D (p : Int) = some (decide (p ∈ X)) := by rw [Zv]; exact hI.dx p p1
        have ex : app (NL X) [(p : Int)] = some (NL (X ++ [p])) := by rw [yv (by simp; omega)]; simp [NL]
        show ((idx D (p : Int)).bind _) = _
        rw [ed, obs]
        show ((app (NL X) [(p : Int)]).bind _) = _
        rw [ex, obs, e3]; rfl)
  rw [hc]
  exact ⟨out, rfl, r1, r2⟩

end

set_option linter.unusedVariables false

def ws (out : List (List Int)) : Bool := out.all fun r => !r.isEmpty

theorem Vo {out : List (List Int)} : ws out = true ↔ ∀ i, i < out.length → gI out i ≠ [] := by
  unfold ws
  rw [List.all_eq_true]
  constructor
  · intro h i hi e
    have := h _ (List.getElem_mem hi)
    rw [← Wo hi, e] at this; cases this
  · intro h x hx
    obtain ⟨i, hi, rfl⟩ := List.mem_iff_getElem.1 hx
    have := h i hi
    rw [Wo hi] at this
    simpa using this

theorem zaW {out : List (List Int)} (hl : out.length ≤ 1000000) (h60 : ∀ i, (gI out i).length ≤ 60) : ∀ (n j fu : Nat), j + n = out.length → n < fu → (∀ i, i < j → gI out i ≠ []) →
    iter (S := Int × (List (List Int))) (R := (List (List Int)) × Bool) (fun s101 =>
  (bif (decide (s101.1 < (s101.2.length : Int))) then (idx s101.2 s101.1).bind fun x110 =>
  (bif ((x110.length : Int) == 0) then some (.rt ([], false)) else (idx s101.2 s101.1).bind fun x117 =>
  (yT x117).bind fun r122 =>
  (idx s101.2 s101.1).bind fun x124 =>
  some (.nx (w64 (s101.1 + 1), List.set s101.2 (Int.toNat s101.1) r122))) else some (.br (s101.1, s101.2)))) fu ((j : Int), out) = some (if ws out = true then .br ((out.length : Int), out) else .rt ([], false))
  | 0, j, fu + 1, hj, _, hp => by
    have e : j = out.length := by omega
    subst e
    rw [if_pos (Vo.2 hp)]
    exact yo (by simp only [Yb, Nat.lt_irrefl, decide_false, ct0]) (by intro s; simp)
  | n + 1, j, fu + 1, hj, hf, hp => by
    have hjl : j < out.length := by omega
    by_cases e : gI out j = []
    · rw [if_neg (fun h => Vo.1 h j hjl e)]
      refine yo ?_ (by intro s; simp)
      simp only [Yb, decide_eq_true hjl, ct1, Xb hjl, obs, e]
      rfl
    · have hz : (((gI out j).length : Int) == 0) = false := by
        rw [show (0 : Int) = ((0 : Nat) : Int) from rfl, XX]; simpa using e
      have h6 := h60 j
      rw [xR (s' := (((j + 1 : Nat) : Int), out)) (by
        simp only [Yb, decide_eq_true hjl, ct1, Xb hjl, obs, hz, ct0]
        rw [vQ (by omega), obs, Yo (by omega), itn, Wo hjl, List.set_getElem_self])]
      exact zaW hl h60 n (j + 1) fu (by omega) (by omega) (fun i hi => by
        by_cases ei : i = j
        · rw [ei]; exact e
        · exact hp i (by omega))

section
variable {N k : Nat} {a : Int × List (Int × List Int)} {B A : List (List Nat)}

theorem Vy (ha : AlgN a N) (hg : zZ (a.1, a.2) = some true) (hB : ∀ t ∈ B, TupN N k t) (hBl : B.length ≤ 20) (hk1 : 1 ≤ k) (hk : k ≤ 64) : Yt (a.1, a.2) (k : Int) (NLL B) = some true := by
  have h8 := ha.n8
  unfold Yt
  rw [hg, obs, ct1, show decide (((NLL B).length : Int) ≤ 20) = true by simp; omega, ct1, ha.eN, zbr (by omega) (by omega) _ _ (NLL_B2 (by omega) (fun u hu => by rw [(hB u hu).1]; omega)), obs, tupB_of hB, Bool.true_and]
  rw [show decide ((1 : Int) ≤ (k : Int)) = true by simp; omega, show decide ((k : Int) ≤ 64) = true by simp; omega]; rfl

theorem specTF_ok (ha : AlgN a N) (hG : Yt (a.1, a.2) (k : Int) (NLL B) = some true) (hBl : B.length ≤ 6) (hk : k ≤ 64) (hc : Zb (a.1, a.2) (k : Int) (NLL B) = some (NLL A, true)) (hs : Sorted A) (hA3 : A.length ≤ 300) (hall : ∀ v, Gen N a.2 k B v → v ∈ A) (htA : ∀ u ∈ A, TupN N k u) :
    ∃ out, yN (a.1, a.2) (k : Int) (NLL B) = some (if ws out = true then (out, true) else ([], false)) ∧ TB N a.2 k B A out ∧ FinT N a.2 k B A out := by
  obtain ⟨out, e, h1, h2⟩ := zbN (B := B) ha hs hA3 hall htA (by omega) (by omega)
  refine ⟨out, ?_, h1, h2⟩
  unfold yN
  have hlo := h1.len
  rw [hG]
  simp only [obs, bnt, ct0, show decide (6 < ((NLL B).length : Int)) = false by simp; omega, hc, e]
  have := zaW (out := out) (by omega) h1.le60 out.length 0 FU (by omega) (by unfold FU; omega) (fun i hi => by omega)
  rw [show ((0 : Nat) : Int) = 0 from rfl] at this
  rw [this]
  by_cases h : ws out = true
  · rw [if_pos h, if_pos h]; rfl
  · rw [if_neg h, if_neg h]; rfl

theorem specTF_no {L : List (List Int)} (hG : Yt (a.1, a.2) (k : Int) (NLL B) = some true) (hBl : B.length ≤ 6) (hc : Zb (a.1, a.2) (k : Int) (NLL B) = some (L, false)) : yN (a.1, a.2) (k : Int) (NLL B) = some ([], false) := by
  unfold yN
  rw [hG]
  simp only [obs, bnt, ct0, show decide (6 < ((NLL B).length : Int)) = false by simp; omega, hc]
  rfl

theorem VB {ops : List (Int × List Int)} {out : List (List Int)} (h : TB N ops k B A out) (nd : A.Nodup) : A.map (fun v => gI out (A.idxOf v)) = out := by
  refine List.ext_getElem (by rw [List.length_map, h.len]) (fun i h1 h2 => ?_)
  rw [List.getElem_map, nd.idxOf_getElem, Wo h2]

theorem sorted_nd {L : List (List Nat)} (h : Sorted L) : L.Nodup := xO yS h

end

set_option linter.unusedVariables false

section
variable {N k : Nat} {a : Int × List (Int × List Int)} {A : List (List Nat)} {M : MI}
theorem VH (ha : AlgN a N) (hk : k ≤ 3) (h64 : N ^ k ≤ 64) (hF : FrI N k a.2 A M) (hr : zX (a.1, a.2) (k : Int) = some true) (hg : zZ (a.1, a.2) = some true) (hc : Zb (a.1, a.2) ((N ^ k : Nat) : Int) (NLL (genL N k)) = some (NLL A, true)) :
    ∃ out, yP (a.1, a.2) (k : Int) = some (if ws out = true then (out, true) else ([], false)) ∧ Yd ((k : Int), NLL (genL N k)) (a.1, a.2, ((N ^ k : Nat) : Int), NLL A, M) = some (if ws out = true then (out, true) else ([], false)) ∧ TB N a.2 (N ^ k) (genL N k) A out ∧ FinT N a.2 (N ^ k) (genL N k) A out := by
  have h1 := ha.n1
  have hB := vO (N := N) (k := k) h1
  have hBl := Xk N k
  have hp1 : 1 ≤ N ^ k := Nat.pow_pos (by omega)
  have hle := hF.len
  have hall : ∀ v, Gen N a.2 (N ^ k) (genL N k) v → v ∈ A := fun v h => (hF.mem v).2 h
  have hgen : ∀ v ∈ A, Gen N a.2 (N ^ k) (genL N k) v := fun v h => (hF.mem v).1 h
  have htA := hF.tup ha
  have hG := Vy ha hg hB (by omega) hp1 h64
  obtain ⟨out, e1, t1, f1⟩ := specTF_ok ha hG (by omega) h64 hc hF.srt hF.len hall htA
  obtain ⟨best, e2, t2, f2⟩ := Uc ha hF.key hF.len hall hgen hB (by omega) (by omega)
  have nd := sorted_nd hF.srt
  have eo : best = out := by
    rw [← VB t1 nd, ← VB t2 nd]
    exact List.map_congr_left fun v hv => fin_same t2 t1 f2 f1 hv hv
  subst eo
  refine ⟨best, ?_, ?_, t1, f1⟩
  · have epw : Zl a.1 (k : Int) = some ((N ^ k : Nat) : Int) := XO ha.eN rfl h1 (by omega) (by omega)
    unfold yP
    rw [hr]
    simp only [obs, bnt, ct0, epw, wK ha hk, e1]
  · unfold Yd
    simp only [e2, obs]
    rw [ui (fun r => !List.isEmpty r) (([] : List (List Int)), false) () 0 best (fun i x hx => by cases List.isEmpty x <;> rfl)]
    unfold ws
    cases best.all fun r => !r.isEmpty <;> rfl

end

theorem terms_no {a : Int × List (Int × List Int)} {k : Int} (h : zX (a.1, a.2) k = some false ∨ ∃ (N kk : Nat) (A : List (List Nat)), AlgN a N ∧ k = (kk : Int) ∧ kk ≤ 3 ∧ N ^ kk ≤ 64 ∧ zX (a.1, a.2) k = some true ∧ Zb (a.1, a.2) ((N ^ kk : Nat) : Int) (NLL (genL N kk)) = some (NLL A, false) ∧ zZ (a.1, a.2) = some true) : yP (a.1, a.2) k = some ([], false) := by
  unfold yP
  rcases h with h | ⟨N, kk, A, hN, rfl, hk, h64, hr, hc, hg⟩
  · rw [h]; rfl
  · have h1 := hN.n1
    have hp1 : 1 ≤ N ^ kk := Nat.pow_pos (by omega)
    have epw : Zl a.1 (kk : Int) = some ((N ^ kk : Nat) : Int) := XO hN.eN rfl h1 (by omega) (by omega)
    have hBl := Xk N kk
    have hG := Vy hN hg (vO (N := N) (k := kk) h1) (by omega) hp1 h64
    rw [hr]
    simp only [obs, bnt, ct0, epw, wK hN hk, specTF_no hG (by omega) hc]

set_option linter.unusedVariables false

theorem Ux {ops : List (Int × List Int)} (i : Nat) : (ops[i]?.getD (0, [])).1 = (ops.map (·.1))[i]?.getD 0 := by
  rw [List.getElem?_map]
  cases ops[i]? <;> rfl

theorem arO_same {ops ops' : List (Int × List Int)} (h : ops.map (·.1) = ops'.map (·.1)) (x : Int) : arO ops x = arO ops' x := by
  unfold arO; rw [Ux, Ux, h]

theorem uu {ops ops' : List (Int × List Int)} (h : ops.map (·.1) = ops'.map (·.1)) : ∀ (t : List Int) (n : Nat), okT ops n t = okT ops' n t
  | [], 0 => rfl
  | _ :: _, 0 => rfl
  | [], _ + 1 => rfl
  | x :: t, n + 1 => by
    have hl : ops.length = ops'.length := by have := congrArg List.length h; simpa using this
    unfold okT
    rw [arO_same h, hl, uu h t n, uu h t (n + arO ops' x)]

section
variable {N k : Nat} {a : Int × List (Int × List Int)} {B A : List (List Nat)} {M : MI}

theorem TmV.ok (ha : AlgN a N) (hB : B.length ≤ 6) {s : List Int} {v : List Nat} (h : TmV N a.2 k B s v) : (∀ (n : Nat) (rest : List Int), okT a.2 (n + 1) (s ++ rest) = okT a.2 n rest) ∧ ∀ x ∈ s, 0 ≤ x → x.toNat < B.length := by
  have hl4 := ha.l4
  induction h with
  | @var c hc =>
    refine ⟨fun n rest => ?_, fun x hx _ => ?_⟩
    · show okT a.2 (n + 1) ((c : Int) :: rest) = _
      conv => lhs; unfold okT
      rw [if_pos (by omega), decide_eq_true (by omega), Bool.true_and]
    · simp at hx; subst hx; simpa using hc
  | @app j hj K T ps ho hl hps ih =>
    have key : ∀ (qs : List (List Int × List Nat)), (∀ q ∈ qs, q ∈ ps) → ∀ (m : Nat) (rest : List Int), okT a.2 (m + qs.length) ((qs.map (·.1)).flatten ++ rest) = okT a.2 m rest := by
      intro qs
      induction qs with
      | nil => intro _ m rest; rfl
      | cons q qs ih2 =>
        intro hq m rest
        rw [List.map_cons, List.flatten_cons, List.append_assoc, List.length_cons, ← Nat.add_assoc, (ih q (hq q (by simp))).1]
        exact ih2 (fun y hy => hq y (by simp [hy])) m rest
    have eK : arO a.2 (-1 - (j : Int)) = K := by
      obtain ⟨j', hj', _, ex, ho', _⟩ := UQ ha (x := -1 - (j : Int)) (by omega) (by omega)
      have : j' = j := by omega
      subst this
      exact (ho.uniq ho').1
    refine ⟨fun n rest => ?_, fun x hx h0 => ?_⟩
    · unfold cpT
      rw [List.cons_append]
      conv => lhs; unfold okT
      rw [if_neg (by omega), decide_eq_true (by omega), Bool.true_and, eK, ← hl]
      exact key ps (fun q hq => hq) n rest
    · unfold cpT at hx
      rcases List.mem_cons.1 hx with rfl | hx
      · omega
      · obtain ⟨l, hl', hxl⟩ := List.mem_flatten.1 hx
        obtain ⟨q, hq, rfl⟩ := List.mem_map.1 hl'
        exact (ih q hq).2 x hxl h0

theorem UP (n : Nat) : ∀ (l : List Nat) (s : Nat), ix n s l = s * n ^ l.length + ix n 0 l
  | [], s => by simp [ix]
  | x :: l, s => by
    show ix n (s * n + x) l = s * n ^ (l.length + 1) + ix n (0 * n + x) l
    rw [UP n l (s * n + x), UP n l (0 * n + x), Nat.add_mul, Nat.zero_mul, Nat.zero_add, Nat.pow_succ, Nat.mul_assoc, Nat.mul_comm n, Nat.add_assoc]

def Ul (N nb k S : Nat) (ops ops' : List (Int × List Int)) (A : List (List Nat)) (vs im : List Nat) : Prop :=
  (∀ c, c < k → ga vs (A.idxOf (genR N k c)) = ga im c) ∧ ∀ j K T T', OpN N (ops[j]?.getD (0, [])) K T → OpN nb (ops'[j]?.getD (0, [])) K T' → j < ops.length → ∀ i, i < A.length ^ K → ga vs (A.idxOf (apT N T ((dig A.length K i).map (gl A)) S)) = ga T' (ix nb 0 ((dig A.length K i).map (ga vs)))

def vals (nb : Nat) (ops' : List (Int × List Int)) (im : List Nat) (out : List (List Int)) : List Nat := out.map fun t => ga (evN nb ops' im t) 0

structure MpI (N nb k : Nat) (a b : Int × List (Int × List Int)) (A : List (List Nat)) (M : MI) (out : List (List Int)) (im : List Nat) : Prop where
  ha : AlgN a N
  hb : AlgN b nb
  k3 : k ≤ 3
  s64 : N ^ k ≤ 64
  fx : FrI N k a.2 A M
  ty : a.2.map (·.1) = b.2.map (·.1)
  ol : out.length = A.length
  ok : ∀ t ∈ out, okT b.2 1 t = true ∧ t.length ≤ 60 ∧ ∀ x ∈ t, 0 ≤ x → x.toNat < k
  il : im.length = k
  ib : ∀ v ∈ im, v < nb

variable {nb : Nat} {b : Int × List (Int × List Int)} {out : List (List Int)} {im : List Nat}

theorem MpI.pair (h : MpI N nb k a b A M out im) {j : Nat} (hj : j < a.2.length) : ∃ (K : Nat) (T T' : List Nat), idx a.2 (j : Int) = some ((K : Int), NL T) ∧ idx b.2 (j : Int) = some ((K : Int), NL T') ∧ OpN N (a.2[j]?.getD (0, [])) K T ∧ OpN nb (b.2[j]?.getD (0, [])) K T' ∧ OpN N a.2[j] K T ∧ (∃ hj' : j < b.2.length, OpN nb b.2[j] K T') := by
  have hl : a.2.length = b.2.length := by have := congrArg List.length h.ty; simpa using this
  have hj' : j < b.2.length := by omega
  obtain ⟨K, T, q1, q2, ho⟩ := WI h.ha hj
  obtain ⟨K', T', q1', q2', ho'⟩ := WI h.hb hj'
  have e : (a.2[j]).1 = (b.2[j]).1 := by
    have := congrArg (fun l => l[j]?) h.ty
    simp only [List.getElem?_map, gge hj, gge hj'] at this
    simpa using this
  rw [q2, q2'] at e
  have e : (K : Int) = (K' : Int) := e
  have e : K = K' := by omega
  subst e
  refine ⟨K, T, T', q1, q1', ?_, ?_, ho, hj', ho'⟩
  · rw [gge hj]; exact ho
  · rw [gge hj']; exact ho'

theorem MpI.A300 (h : MpI N nb k a b A M out im) : A.length ≤ 300 := h.fx.len

theorem MpI.vs_lt (h : MpI N nb k a b A M out im) : ∀ v ∈ vals nb b.2 im out, v < nb := fun v hv => by
  obtain ⟨t, ht, rfl⟩ := List.mem_map.1 hv
  obtain ⟨h1, h2, h3⟩ := h.ok t ht
  have hlen : (evN nb b.2 im t).length = 1 := wc h1
  exact evN_lt h.hb h1 (fun x hx h0 => by rw [h.il]; exact h3 x hx h0) h.ib _ (yG (by omega))

theorem MpI.vl (h : MpI N nb k a b A M out im) : (vals nb b.2 im out).length = A.length := by unfold vals; rw [List.length_map, h.ol]

theorem MpI.gen (h : MpI N nb k a b A M out im) {c : Nat} (hc : c < k) : genR N k c ∈ A := (h.fx.mem _).2 (.base (List.mem_map.2 ⟨c, by simpa using hc, rfl⟩))

theorem MpI.app (h : MpI N nb k a b A M out im) {j K : Nat} {T : List Nat} (hj : j < a.2.length) (ho : OpN N a.2[j] K T) {ds : List Nat} (hl : ds.length = K) (hd : ∀ d ∈ ds, d < A.length) : apT N T (ds.map (gl A)) (N ^ k) ∈ A :=
  (h.fx.mem _).2 (.app (List.getElem_mem hj) ho (by simpa using hl) (fun t ht => by
    obtain ⟨x, hx, rfl⟩ := List.mem_map.1 ht
    exact (h.fx.mem _).1 (YR (hd x hx))))

theorem MpI.A1 (h : MpI N nb k a b A M out im) {j K i : Nat} {T : List Nat} (hj : j < a.2.length) (ho : OpN N a.2[j] K T) (hi : i < A.length ^ K) : 1 ≤ A.length := by
  rcases Nat.eq_zero_or_pos A.length with e0 | e0
  · exfalso
    by_cases hK0 : K = 0
    · subst hK0
      have := h.app hj ho (ds := []) rfl (fun d hd => by cases hd)
      rw [List.length_eq_zero_iff.1 e0] at this; cases this
    · rw [e0, Nat.zero_pow (by omega)] at hi; omega
  · exact e0

theorem MpI.small (h : MpI N nb k a b A M out im) {t : List Nat} (ht : t ∈ A) : (∀ x ∈ t, x < 65536) ∧ t.length = N ^ k := ⟨h.fx.small h.ha ht, (h.fx.tup h.ha t ht).1⟩

theorem idx_loop {R : Type} {vs : List Nat} (hn8 : nb ≤ 8) (hA1 : 1 ≤ A.length) (hA3 : A.length ≤ 300) (hvl : vs.length = A.length) (hv : ∀ v ∈ vs, v < nb) {K i : Nat} (hK : K ≤ 3) (hi : i < A.length ^ K) {en : Int} (hen : en = (nb : Int)) : forC (S := Int × Int × Int) (R := R) (fun k199 s197 =>
  (nz ((NLL A).length : Int)).bind fun u203 =>
  (idx (NL vs) (Int.tmod s197.2.2 ((NLL A).length : Int))).bind fun x204 =>
  (nz ((NLL A).length : Int)).bind fun u206 =>
  some (.nx (w64 (s197.1 + (w64 (x204 * s197.2.1))), w64 (s197.2.1 * en), w64 (Int.tdiv s197.2.2 ((NLL A).length : Int))))) 0 (K : Int) (0, 1, (i : Int)) = some (.br (((ix nb 0 ((dig A.length K i).map (ga vs)) : Nat) : Int), ((nb ^ K : Nat) : Int), ((i / A.length ^ K : Nat) : Int))) := by
  have hP := wI hA3 hK
  subst hen
  refine xm (fun t => (((ix nb 0 ((dig A.length t i).map (ga vs)) : Nat) : Int), ((nb ^ t : Nat) : Int), ((i / A.length ^ t : Nat) : Int))) rfl (by omega) (by simp [dig, ix]) (fun t ht => ?_)
  have hz : nz (A.length : Int) = some () := nz_ok (by omega)
  have hd : i / A.length ^ t % A.length < vs.length := by rw [hvl]; exact Nat.mod_lt _ hA1
  have hlt := hv _ (yG hd)
  have pw : nb ^ t ≤ 512 := xY hn8 (by omega)
  have pw1 : nb ^ t * nb ≤ 512 * 8 := Nat.mul_le_mul pw hn8
  have hb : ix nb 0 ((dig A.length t i).map (ga vs)) < nb ^ t := Xm (fun y hy => by
    obtain ⟨d, hd', rfl⟩ := List.mem_map.1 hy
    exact hv _ (yG (by rw [hvl]; exact Xa hA1 t i d hd'))) (by simp)
  have hm : ga vs (i / A.length ^ t % A.length) * nb ^ t ≤ 8 * 512 := Nat.mul_le_mul (by omega) pw
  have hdv : i / A.length ^ t ≤ i := Nat.div_le_self _ _
  simp only [hz, obs, yk, tmod_nat, ZE hd]
  rw [WB (by omega), wE (by omega), WB (by omega), w64_div (by omega), Nat.div_div_eq_div_mul, ← Nat.pow_succ, ← Nat.pow_succ]
  have e : ix nb 0 ((dig A.length (t + 1) i).map (ga vs)) = ix nb 0 ((dig A.length t i).map (ga vs)) + ga vs (i / A.length ^ t % A.length) * nb ^ t := by
    show ix nb 0 (ga vs (i / A.length ^ t % A.length) :: (dig A.length t i).map (ga vs)) = _
    show ix nb (0 * nb + ga vs (i / A.length ^ t % A.length)) ((dig A.length t i).map (ga vs)) = _
    rw [UP, Nat.zero_mul, Nat.zero_add, List.length_map, wG, Nat.add_comm]
  rw [e]

theorem mapTo_ok (h : MpI N nb k a b A M out im) (S : Int) :
    ∃ g : Bool, yx (b.1, b.2) out (NLL (a.2.map (vrow N (N ^ k) A))) (NL im) ((k : Int), NLL (genL N k)) (a.1, a.2, S, NLL A, M) = some (bif g then (NL (vals nb b.2 im out), true) else ([], false)) ∧ (g = true ↔ Ul N nb k (N ^ k) a.2 b.2 A (vals nb b.2 im out) im) := by
  have hA3 := h.A300
  have hol := h.ol
  have hvl := h.vl
  have h8 := h.hb.n8
  have hl4 := h.ha.l4
  unfold yx
  rw [XE (fun t => [((ga (evN nb b.2 im t) 0 : Nat) : Int)]) 0 out [] (fun i pre post t el => by
    have ht : t ∈ out := by rw [el]; simp
    obtain ⟨h1, h2, h3⟩ := h.ok t ht
    have hpl : pre.length ≤ 300 := by
      have := congrArg List.length el
      simp at this; omega
    rw [eval_eq h.hb h1 h2 (fun x hx h0 => by rw [h.il]; exact h3 x hx h0) h.ib, obs, yv (by rw [xL]; simp; omega), obs]), obs, zE, xL]
  have ev : [] ++ out.map (fun t => ((ga (evN nb b.2 im t) 0 : Nat) : Int)) = NL (vals nb b.2 im out) := by
    unfold vals NL; rw [List.nil_append, List.map_map]; rfl
  rw [ev]
  have eg : yc ((k : Int), NLL (genL N k)) (a.1, a.2, S, NLL A, M) = some (NL ((genL N k).map A.idxOf)) := by
    unfold yc
    rw [show NLL (genL N k) = (genL N k).map NL from rfl, zaT, XE (fun t => [((A.idxOf t : Nat) : Int)]) 0 (genL N k) [] (fun i pre post t el => by
      have ht : t ∈ genL N k := by rw [el]; simp
      have htA : t ∈ A := (h.fx.mem _).2 (.base ht)
      obtain ⟨b1, b2⟩ := h.small htA
      have hs64 := h.s64
      obtain ⟨q, q1, q2⟩ := UO h.fx.key b1 (by omega) htA
      have hpl : pre.length ≤ 3 := by
        have := congrArg List.length el
        have := Xk N k
        have := h.k3
        simp at *; omega
      simp only [q1, obs, q2]
      rw [yv (by rw [xL]; simp; omega), obs]), obs, zE, xL]
    unfold NL
    rw [List.nil_append, List.map_map]; rfl
  rw [eg, obs]
  have hgl : (NL ((genL N k).map A.idxOf)).length = k := by simp [genL]
  have hga : ∀ c, c < k → ga ((genL N k).map A.idxOf) c = A.idxOf (genR N k c) := fun c hc => by
    rw [xM (by simpa [genL] using hc), List.getElem_map]
    unfold genL; rw [List.getElem_map, List.getElem_range]
  have first := Zo (S := Unit) (R := (List Int) × Bool) (step := fun k59 s57 =>
  (idx (NL ((genL N k).map A.idxOf)) k59).bind fun x63 =>
  (idx (NL (vals nb b.2 im out)) x63).bind fun x67 =>
  (idx (NL im) k59).bind fun x69 =>
  (bif (x67 != x69) then some (.rt ([], false)) else some (.nx ()))) (n := k) (hi := ((NL ((genL N k).map A.idxOf)).length : Int)) (s := ())
    (fun j _ => ∀ c, c < j → ga (vals nb b.2 im out) (A.idxOf (genR N k c)) = ga im c) (fun _ => False) (fun r => r = ([], false) ∧ ¬ ∀ c, c < k → ga (vals nb b.2 im out) (A.idxOf (genR N k c)) = ga im c)
    (by rw [hgl]) (by have := h.k3; omega) (fun c hc => by omega) (by
      rintro j ⟨⟩ hj hI
      have hix := List.idxOf_lt_length_of_mem (h.gen hj)
      rw [ZE (by simpa [genL] using hj), obs, hga j hj, ZE (by rw [hvl]; exact hix), obs, ZE (by rw [h.il]; exact hj), obs, Wx]
      by_cases e : ga (vals nb b.2 im out) (A.idxOf (genR N k j)) = ga im j
      · left
        rw [e, beq_self_eq_true, bnt, ct0]
        refine ⟨(), rfl, fun c hc => ?_⟩
        by_cases ec : c = j
        · rw [ec]; exact e
        · exact hI c (by omega)
      · right; right
        rw [show (ga (vals nb b.2 im out) (A.idxOf (genR N k j)) == ga im j) = false by simpa using e, bnf, ct1]
        exact ⟨_, rfl, rfl, fun hh => e (hh j hj)⟩)
  rcases first with ⟨_, e1, hI | hf⟩ | ⟨r, e1, rfl, hno⟩
  · rw [e1, obs, zE]
    have second := Zo (S := Unit) (R := (List Int) × Bool) (step := fun k144 s142 =>
  (idx a.2 k144).bind fun x148 =>
  (idx (NLL (a.2.map (vrow N (N ^ k) A))) k144).bind fun x154 =>
  (forC (S := Unit) (R := (List Int) × Bool) (fun k187 s185 =>
  (idx x154 k187).bind fun x191 =>
  (forC (S := Int × Int × Int) (R := (List Int) × Bool) (fun k199 s197 =>
  (nz ((NLL A).length : Int)).bind fun u203 =>
  (idx (NL (vals nb b.2 im out)) (Int.tmod s197.2.2 ((NLL A).length : Int))).bind fun x204 =>
  (nz ((NLL A).length : Int)).bind fun u206 =>
  some (.nx (w64 (s197.1 + (w64 (x204 * s197.2.1))), w64 (s197.2.1 * b.1), w64 (Int.tdiv s197.2.2 ((NLL A).length : Int))))) 0 x148.1 (0, 1, k187)).bind fun o201 => after o201 (fun r_ => some (.rt r_)) (fun s197 =>
  (idx (NL (vals nb b.2 im out)) x191).bind fun x208 =>
  (idx b.2 k144).bind fun x210 =>
  (idx x210.2 s197.1).bind fun x215 =>
  (bif (x208 != x215) then some (.rt ([], false)) else some (.nx ())))) 0 (x154.length : Int) ()).bind fun o189 => after o189 (fun r_ => some (.rt r_)) (fun s185 =>
  some (.nx ()))) (n := a.2.length) (hi := (a.2.length : Int)) (s := ())
      (fun j _ => ∀ j', j' < j → ∀ K T T', OpN N (a.2[j']?.getD (0, [])) K T → OpN nb (b.2[j']?.getD (0, [])) K T' → ∀ i, i < A.length ^ K → ga (vals nb b.2 im out) (A.idxOf (apT N T ((dig A.length K i).map (gl A)) (N ^ k))) = ga T' (ix nb 0 ((dig A.length K i).map (ga (vals nb b.2 im out)))))
      (fun _ => False) (fun r => r = ([], false) ∧ ¬ Ul N nb k (N ^ k) a.2 b.2 A (vals nb b.2 im out) im) rfl (by omega) (fun j hj => by omega) (by
        rintro j ⟨⟩ hj hI2
        obtain ⟨K, T, T', q1, q2, g1, g2, ho, hj', ho'⟩ := h.pair hj
        have hK := ho.k3
        have hP := wI hA3 hK
        have q3 := (WI h.ha hj)
        have hrow : gl (a.2.map (vrow N (N ^ k) A)) j = (List.range (A.length ^ K)).map fun i => A.idxOf (apT N T ((dig A.length K i).map (gl A)) (N ^ k)) := by
          rw [yZ (by simpa using hj), List.getElem_map, ho.eq]
          unfold vrow
          rw [vP]; rfl
        rw [q1, obs, xd (by simpa using hj), obs, hrow]
        have inner := Zo (S := Unit) (R := (List Int) × Bool) (step := fun k187 s185 =>
  (idx (NL ((List.range (A.length ^ K)).map fun i => A.idxOf (apT N T ((dig A.length K i).map (gl A)) (N ^ k)))) k187).bind fun x191 =>
  (forC (S := Int × Int × Int) (R := (List Int) × Bool) (fun k199 s197 =>
  (nz ((NLL A).length : Int)).bind fun u203 =>
  (idx (NL (vals nb b.2 im out)) (Int.tmod s197.2.2 ((NLL A).length : Int))).bind fun x204 =>
  (nz ((NLL A).length : Int)).bind fun u206 =>
  some (.nx (w64 (s197.1 + (w64 (x204 * s197.2.1))), w64 (s197.2.1 * b.1), w64 (Int.tdiv s197.2.2 ((NLL A).length : Int))))) 0 (K : Int) (0, 1, k187)).bind fun o201 => after o201 (fun r_ => some (.rt r_)) (fun s197 =>
  (idx (NL (vals nb b.2 im out)) x191).bind fun x208 =>
  (idx b.2 (j : Int)).bind fun x210 =>
  (idx x210.2 s197.1).bind fun x215 =>
  (bif (x208 != x215) then some (.rt ([], false)) else some (.nx ())))) (n := A.length ^ K) (hi := ((NL ((List.range (A.length ^ K)).map fun i => A.idxOf (apT N T ((dig A.length K i).map (gl A)) (N ^ k)))).length : Int)) (s := ())
          (fun i _ => ∀ i', i' < i → ga (vals nb b.2 im out) (A.idxOf (apT N T ((dig A.length K i').map (gl A)) (N ^ k))) = ga T' (ix nb 0 ((dig A.length K i').map (ga (vals nb b.2 im out)))))
          (fun _ => False) (fun r => r = ([], false) ∧ ¬ Ul N nb k (N ^ k) a.2 b.2 A (vals nb b.2 im out) im) (by simp) (by omega) (fun i hi => by omega) (by
            rintro i ⟨⟩ hi hI3
            have hA1 := h.A1 hj ho hi
            have hds : ∀ x ∈ dig A.length K i, x < A.length := Xa hA1 K i
            have hm := h.app hj ho (ds := dig A.length K i) (by simp) hds
            have hix := List.idxOf_lt_length_of_mem hm
            have hT : ix nb 0 ((dig A.length K i).map (ga (vals nb b.2 im out))) < T'.length := by
              rw [ho'.len]
              refine Xm (fun y hy => ?_) (by simp)
              obtain ⟨d, hd, rfl⟩ := List.mem_map.1 hy
              exact h.vs_lt _ (yG (by rw [hvl]; exact hds d hd))
            rw [ZE (by simpa using hi), ga_map _ hi, obs, idx_loop h8 hA1 hA3 hvl h.vs_lt hK hi h.hb.eN, obs, zE, ZE (by rw [hvl]; exact hix), obs, q2, obs, ZE hT, obs, Wx]
            by_cases e : ga (vals nb b.2 im out) (A.idxOf (apT N T ((dig A.length K i).map (gl A)) (N ^ k))) = ga T' (ix nb 0 ((dig A.length K i).map (ga (vals nb b.2 im out))))
            · left
              rw [e, beq_self_eq_true, bnt, ct0]
              refine ⟨(), rfl, fun i' hi' => ?_⟩
              by_cases ei : i' = i
              · rw [ei]; exact e
              · exact hI3 i' (by omega)
            · right; right
              rw [show (ga (vals nb b.2 im out) (A.idxOf (apT N T ((dig A.length K i).map (gl A)) (N ^ k))) == ga T' (ix nb 0 ((dig A.length K i).map (ga (vals nb b.2 im out))))) = false by simpa using e, bnf, ct1]
              exact ⟨_, rfl, rfl, fun hh => e (hh.2 j K T T' g1 g2 hj i hi)⟩)
        rcases inner with ⟨_, e3, hI3 | hf⟩ | ⟨r, e3, rfl, hno⟩
        · left
          rw [e3, obs, zE]
          refine ⟨(), rfl, fun j' hj' K' T1 T1' g1' g2' i hi => ?_⟩
          by_cases ej : j' = j
          · subst ej
            obtain ⟨eK, eT⟩ := g1.uniq g1'
            subst eK; subst eT
            obtain ⟨_, eT'⟩ := g2.uniq g2'
            subst eT'
            exact hI3 i hi
          · exact hI2 j' (by omega) K' T1 T1' g1' g2' i hi
        · exact hf.elim
        · right; right
          rw [e3, obs, Vc]
          exact ⟨_, rfl, rfl, hno⟩)
    rcases second with ⟨_, e2, hI2 | hf⟩ | ⟨r, e2, rfl, hno⟩
    · refine ⟨true, ?_, fun _ => ⟨hI, fun j K T T' g1 g2 hj i hi => hI2 j hj K T T' g1 g2 i hi⟩, fun _ => rfl⟩
      show ((forC _ 0 (a.2.length : Int) ()).bind _) = _
      rw [e2]; rfl
    · exact hf.elim
    · refine ⟨false, ?_, (fun hh => by cases hh), fun hh => absurd hh hno⟩
      show ((forC _ 0 (a.2.length : Int) ()).bind _) = _
      rw [e2]; rfl
  · exact hf.elim
  · refine ⟨false, ?_, (fun hh => by cases hh), fun hh => absurd hh.1 hno⟩
    rw [e1]; rfl

end

set_option linter.unusedVariables false

section
variable {N nb k : Nat} {a b : Int × List (Int × List Int)} {A : List (List Nat)} {M : MI} {out : List (List Int)} {im : List Nat}
theorem zaF {vs ds : List Nat} (hd : ∀ d ∈ ds, d < vs.length) (hl : ds.length ≤ 1000) : ZX (NL vs) (NL ds) = some (NL (ds.map (ga vs))) := by
  unfold ZX
  rw [xg (R := List Int) (v := fun j => ((ga vs (ga ds j) : Nat) : Int)) (n := ds.length) (by simp) (by omega) (fun j s hj hs => by
    rw [ZE hj, obs, ZE (hd _ (yG hj)), obs])]
  show some ((List.range ds.length).map _) = _
  unfold NL
  rw [List.map_map]
  conv => rhs; rw [← zbG ds, List.map_map]
  rfl

theorem zab (h : MpI N nb k a b A M out im) : YA (a.1, a.2) (k : Int) (NLL A) = some (NL ((genL N k).map A.idxOf)) := by
  have hk := h.k3
  have hs64 := h.s64
  unfold YA
  rw [wK h.ha h.k3, obs]
  rw [xg (R := List Int) (v := fun c => ((A.idxOf (genR N k c) : Nat) : Int)) (n := k) rfl (by omega) (fun c s hc hs => by
    rw [xd (by rw [Xk]; exact hc), obs, genL_at hc, vV h.fx.srt h.A300 (by omega) (fun u hu => (h.fx.tup h.ha u hu).1) (h.gen hc), obs])]
  show some ((List.range k).map _) = _
  unfold genL NL
  rw [List.map_map, List.map_map]; rfl

theorem UX (h : MpI N nb k a b A M out im) : ∃ g : Bool, yX (a.1, a.2) (k : Int) (NLL A) out (b.1, b.2) (NL im) = some (bif g then (NL (vals nb b.2 im out), true) else ([], false)) ∧ (g = true ↔ Ul N nb k (N ^ k) a.2 b.2 A (vals nb b.2 im out) im) := by
  have hA3 := h.A300
  have hol := h.ol
  have hvl := h.vl
  have h8 := h.hb.n8
  have hl4 := h.ha.l4
  have hk3 := h.k3
  have hs64 := h.s64
  unfold yX
  rw [xg (R := (List Int) × Bool) (v := fun j => ((ga (evN nb b.2 im (gI out j)) 0 : Nat) : Int)) (n := out.length) rfl (by omega) (fun j s hj hs => by
    obtain ⟨h1, h2, h3⟩ := h.ok (gI out j) (by rw [Wo hj]; exact List.getElem_mem hj)
    rw [Xb hj, obs, zbJ h.hb h1 h2 (fun x hx h0 => by rw [h.il]; exact h3 x hx h0) h.ib, obs]), obs, zE]
  have ev : (List.range out.length).map (fun j => ((ga (evN nb b.2 im (gI out j)) 0 : Nat) : Int)) = NL (vals nb b.2 im out) := by
    have eo : (List.range out.length).map (gI out) = out := by
      refine List.ext_getElem (by simp) (fun i h1 h2 => ?_)
      rw [List.getElem_map, List.getElem_range, Wo h2]
    unfold vals NL
    conv => rhs; rw [← eo]
    rw [List.map_map, List.map_map]; rfl
  rw [ev, zab h, obs]
  have hga : ∀ c, c < k → ga ((genL N k).map A.idxOf) c = A.idxOf (genR N k c) := fun c hc => by
    rw [xM (by simpa [genL] using hc), List.getElem_map]
    unfold genL; rw [List.getElem_map, List.getElem_range]
  have first := Zo (S := Unit) (R := (List Int) × Bool) (step := fun k61 s59 =>
  (idx (NL ((genL N k).map A.idxOf)) k61).bind fun x66 =>
  (idx (NL (vals nb b.2 im out)) x66).bind fun x68 =>
  (idx (NL im) k61).bind fun x70 =>
  (bif (x68 != x70) then some (.rt ([], false)) else some (.nx ()))) (n := k) (hi := (k : Int)) (s := ())
    (fun j _ => ∀ c, c < j → ga (vals nb b.2 im out) (A.idxOf (genR N k c)) = ga im c) (fun _ => False) (fun r => r = ([], false) ∧ ¬ ∀ c, c < k → ga (vals nb b.2 im out) (A.idxOf (genR N k c)) = ga im c)
    rfl (by omega) (fun c hc => by omega) (by
      rintro j ⟨⟩ hj hI
      have hix := List.idxOf_lt_length_of_mem (h.gen hj)
      rw [ZE (by simpa [genL] using hj), obs, hga j hj, ZE (by rw [hvl]; exact hix), obs, ZE (by rw [h.il]; exact hj), obs, Wx]
      by_cases e : ga (vals nb b.2 im out) (A.idxOf (genR N k j)) = ga im j
      · left
        rw [e, beq_self_eq_true, bnt, ct0]
        refine ⟨(), rfl, fun c hc => ?_⟩
        by_cases ec : c = j
        · rw [ec]; exact e
        · exact hI c (by omega)
      · right; right
        rw [show (ga (vals nb b.2 im out) (A.idxOf (genR N k j)) == ga im j) = false by simpa using e, bnf, ct1]
        exact ⟨_, rfl, rfl, fun hh => e (hh j hj)⟩)
  rcases first with ⟨_, e1, hI | hf⟩ | ⟨r, e1, rfl, hno⟩
  · rw [e1, obs, zE]
    have second := Zo (S := Unit) (R := (List Int) × Bool) (step := fun k490 s488 =>
  ((idx a.2 k490).bind fun x530 =>
  (idx a.2 k490).bind fun x533 =>
  (bif (x533.1 == 0) then (mks x530.1 (0 : Int)).bind fun y538 =>
  some (y538, true) else (mks x530.1 (0 : Int)).bind fun y541 =>
  some (y541, (decide (0 < ((NLL A).length : Int)))))).bind fun s524 =>
  (iter (S := (List Int) × Bool) (R := (List Int) × Bool) (fun s643 =>
  (bif s643.2 then (ZZ (NLL A) s643.1).bind fun r671 =>
  (Zl a.1 (k : Int)).bind fun r674 =>
  (zU (a.1, a.2) k490 r671 r674).bind fun r676 =>
  (zW (NLL A) r676).bind fun r679 =>
  (idx (NL (vals nb b.2 im out)) r679.1).bind fun x689 =>
  (ZX (NL (vals nb b.2 im out)) s643.1).bind fun r692 =>
  (ZS (b.1, b.2) k490 r692).bind fun r695 =>
  (bif (x689 != r695) then some (.rt ([], false)) else (zV s643.1 ((NLL A).length : Int)).bind fun r700 =>
  some (.nx (r700.1, r700.2))) else some (.br (s643.1, s643.2)))) FU (s524.1, s524.2)).bind fun o647 => after o647 (fun r_ => some (.rt r_)) (fun s643 =>
  some (.nx ()))) (n := a.2.length) (hi := (a.2.length : Int)) (s := ())
      (fun j _ => ∀ j', j' < j → ∀ K T T', OpN N (a.2[j']?.getD (0, [])) K T → OpN nb (b.2[j']?.getD (0, [])) K T' → ∀ i, i < A.length ^ K → ga (vals nb b.2 im out) (A.idxOf (apT N T ((dig A.length K i).map (gl A)) (N ^ k))) = ga T' (ix nb 0 ((dig A.length K i).map (ga (vals nb b.2 im out)))))
      (fun _ => False) (fun r => r = ([], false) ∧ ¬ Ul N nb k (N ^ k) a.2 b.2 A (vals nb b.2 im out) im) rfl (by omega) (fun j hj => by omega) (by
        rintro j ⟨⟩ hj hI2
        obtain ⟨K, T, T', q1, q2, g1, g2, ho, hj', ho'⟩ := h.pair hj
        have hK := ho.k3
        have hP := wI hA3 hK
        have epw : Zl a.1 (k : Int) = some ((N ^ k : Nat) : Int) := XO h.ha.eN rfl h.ha.n1 (by omega) (by omega)
        have core : ∀ (n m fu : Nat), m + n = A.length ^ K → n < fu → (∀ i', i' < m → ga (vals nb b.2 im out) (A.idxOf (apT N T ((dig A.length K i').map (gl A)) (N ^ k))) = ga T' (ix nb 0 ((dig A.length K i').map (ga (vals nb b.2 im out))))) →
            (∃ z, iter (S := (List Int) × Bool) (R := (List Int) × Bool) (fun s643 =>
  (bif s643.2 then (ZZ (NLL A) s643.1).bind fun r671 =>
  (Zl a.1 (k : Int)).bind fun r674 =>
  (zU (a.1, a.2) (j : Int) r671 r674).bind fun r676 =>
  (zW (NLL A) r676).bind fun r679 =>
  (idx (NL (vals nb b.2 im out)) r679.1).bind fun x689 =>
  (ZX (NL (vals nb b.2 im out)) s643.1).bind fun r692 =>
  (ZS (b.1, b.2) (j : Int) r692).bind fun r695 =>
  (bif (x689 != r695) then some (.rt ([], false)) else (zV s643.1 ((NLL A).length : Int)).bind fun r700 =>
  some (.nx (r700.1, r700.2))) else some (.br (s643.1, s643.2)))) fu (NL (dig A.length K (if m < A.length ^ K then m else 0)), decide (m < A.length ^ K)) = some (.br z) ∧ ∀ i', i' < A.length ^ K → ga (vals nb b.2 im out) (A.idxOf (apT N T ((dig A.length K i').map (gl A)) (N ^ k))) = ga T' (ix nb 0 ((dig A.length K i').map (ga (vals nb b.2 im out))))) ∨
            (iter (S := (List Int) × Bool) (R := (List Int) × Bool) (fun s643 =>
  (bif s643.2 then (ZZ (NLL A) s643.1).bind fun r671 =>
  (Zl a.1 (k : Int)).bind fun r674 =>
  (zU (a.1, a.2) (j : Int) r671 r674).bind fun r676 =>
  (zW (NLL A) r676).bind fun r679 =>
  (idx (NL (vals nb b.2 im out)) r679.1).bind fun x689 =>
  (ZX (NL (vals nb b.2 im out)) s643.1).bind fun r692 =>
  (ZS (b.1, b.2) (j : Int) r692).bind fun r695 =>
  (bif (x689 != r695) then some (.rt ([], false)) else (zV s643.1 ((NLL A).length : Int)).bind fun r700 =>
  some (.nx (r700.1, r700.2))) else some (.br (s643.1, s643.2)))) fu (NL (dig A.length K (if m < A.length ^ K then m else 0)), decide (m < A.length ^ K)) = some (.rt ([], false)) ∧ ¬ Ul N nb k (N ^ k) a.2 b.2 A (vals nb b.2 im out) im) := by
          intro n
          induction n with
          | zero =>
            intro m fu hm hf hp
            obtain ⟨fu, rfl⟩ : ∃ q, fu = q + 1 := ⟨fu - 1, by omega⟩
            left
            rw [show decide (m < A.length ^ K) = false by simp; omega]
            exact ⟨_, yo rfl (by intro s; simp), fun i' hi' => hp i' (by omega)⟩
          | succ n ih =>
            intro m fu hm hf hp
            obtain ⟨fu, rfl⟩ : ∃ q, fu = q + 1 := ⟨fu - 1, by omega⟩
            have hml : m < A.length ^ K := by omega
            have hA1 := h.A1 hj ho hml
            have hds : ∀ x ∈ dig A.length K m, x < A.length := Xa hA1 K m
            have hm' := h.app hj ho (ds := dig A.length K m) (by simp) hds
            have hix := List.idxOf_lt_length_of_mem hm'
            rw [if_pos hml, decide_eq_true hml]
            have c1 : ZZ (NLL A) (NL (dig A.length K m)) = some (NLL ((dig A.length K m).map (gl A))) := zaz (by simp; omega) hds
            have c2 := XQ (ts := (dig A.length K m).map (gl A)) (k := N ^ k) h.ha hj ho (by simp) (fun t ht => by
              obtain ⟨x, hx, rfl⟩ := List.mem_map.1 ht
              exact (h.fx.tup h.ha _ (YR (hds x hx))).1) (fun t ht => by
              obtain ⟨x, hx, rfl⟩ := List.mem_map.1 ht
              exact (h.fx.tup h.ha _ (YR (hds x hx))).2) (by omega)
            have c3 := vV h.fx.srt hA3 (show N ^ k ≤ 1000000 by omega) (fun u hu => (h.fx.tup h.ha u hu).1) hm'
            have c4 : ZX (NL (vals nb b.2 im out)) (NL (dig A.length K m)) = some (NL ((dig A.length K m).map (ga (vals nb b.2 im out)))) := zaF (fun d hd => by rw [hvl]; exact hds d hd) (by simp; omega)
            have c5 : ZS (b.1, b.2) (j : Int) (NL ((dig A.length K m).map (ga (vals nb b.2 im out)))) = some ((ga T' (ix nb 0 ((dig A.length K m).map (ga (vals nb b.2 im out)))) : Nat) : Int) := ug h.hb.n1 h8 h.hb.eN hj' ho' (by simp) (fun y hy => by
              obtain ⟨d, hd, rfl⟩ := List.mem_map.1 hy
              exact h.vs_lt _ (yG (by rw [hvl]; exact hds d hd)))
            have c6 : idx (NL (vals nb b.2 im out)) ((A.idxOf (apT N T ((dig A.length K m).map (gl A)) (N ^ k)) : Nat) : Int) = some ((ga (vals nb b.2 im out) (A.idxOf (apT N T ((dig A.length K m).map (gl A)) (N ^ k))) : Nat) : Int) := ZE (by rw [hvl]; exact hix)
            have c7 : zV (NL (dig A.length K m)) ((NLL A).length : Int) = some (NL (dig A.length K (if m + 1 < A.length ^ K then m + 1 else 0)), decide (m + 1 < A.length ^ K)) := by
              rw [yk]; exact Vi hA1 (by omega) (by omega) hml
            by_cases e : ga (vals nb b.2 im out) (A.idxOf (apT N T ((dig A.length K m).map (gl A)) (N ^ k))) = ga T' (ix nb 0 ((dig A.length K m).map (ga (vals nb b.2 im out))))
            · rw [xR (s' := (NL (dig A.length K (if m + 1 < A.length ^ K then m + 1 else 0)), decide (m + 1 < A.length ^ K))) (by
                simp only [ct1, c1, epw, c2, c3, c4, c5, c6, c7, obs, e, bne_self_eq_false, ct0])]
              exact ih (m + 1) fu (by omega) (by omega) (fun i' hi' => by
                by_cases ei : i' = m
                · rw [ei]; exact e
                · exact hp i' (by omega))
            · right
              refine ⟨yo (by
                simp only [ct1, c1, epw, c2, c3, c4, c5, c6, obs, Wx, show (ga (vals nb b.2 im out) (A.idxOf (apT N T ((dig A.length K m).map (gl A)) (N ^ k))) == ga T' (ix nb 0 ((dig A.length K m).map (ga (vals nb b.2 im out))))) = false by simpa using e, bnf]) (by intro s; simp), fun hh => e (hh.2 j K T T' g1 g2 hj m hml)⟩
        have start : (bif (((K : Nat) : Int) == 0) then (mks (K : Int) (0 : Int)).bind fun y538 =>
  some (y538, true) else (mks (K : Int) (0 : Int)).bind fun y541 =>
  some (y541, (decide (0 < ((NLL A).length : Int))))) = some (NL (dig A.length K (if 0 < A.length ^ K then 0 else 0)), decide (0 < A.length ^ K)) := by
          have er : List.replicate K (0 : Int) = NL (dig A.length K 0) := by rw [Wq]; simp [NL]
          rw [xI rfl (by omega), ite_self, ← er]
          by_cases hK0 : K = 0
          · subst hK0; rfl
          · rw [show (((K : Nat) : Int) == 0) = false by simp; omega, ct0, obs]
            congr 2
            rw [yk, decide_eq_decide]
            constructor
            · intro h0; exact Nat.pow_pos (by omega)
            · intro h0
              rcases Nat.eq_zero_or_pos A.length with e0 | e0
              · rw [e0, Nat.zero_pow (by omega)] at h0; omega
              · omega
        rw [q1]
        simp only [obs, start]
        rcases core (A.length ^ K) 0 FU (by omega) (by unfold FU; omega) (fun i' hi' => by omega) with ⟨z, e3, hI3⟩ | ⟨e3, hno⟩
        · left
          rw [e3, obs, zE]
          refine ⟨(), rfl, fun j' hj1 K' T1 T1' g1' g2' i hi => ?_⟩
          by_cases ej : j' = j
          · subst ej
            obtain ⟨eK, eT⟩ := g1.uniq g1'
            subst eK; subst eT
            obtain ⟨_, eT'⟩ := g2.uniq g2'
            subst eT'
            exact hI3 i hi
          · exact hI2 j' (by omega) K' T1 T1' g1' g2' i hi
        · right; right
          rw [e3, obs, Vc]
          exact ⟨_, rfl, rfl, hno⟩)
    rcases second with ⟨_, e2, hI2 | hf⟩ | ⟨r, e2, rfl, hno⟩
    · refine ⟨true, ?_, fun _ => ⟨hI, fun j K T T' g1 g2 hj i hi => hI2 j hj K T T' g1 g2 i hi⟩, fun _ => rfl⟩
      show ((forC _ 0 (a.2.length : Int) ()).bind _) = _
      rw [e2]; rfl
    · exact hf.elim
    · refine ⟨false, ?_, (fun hh => by cases hh), fun hh => absurd hh hno⟩
      show ((forC _ 0 (a.2.length : Int) ()).bind _) = _
      rw [e2]; rfl
  · exact hf.elim
  · refine ⟨false, ?_, (fun hh => by cases hh), fun hh => absurd hh.1 hno⟩
    rw [e1]; rfl

theorem map_both (h : MpI N nb k a b A M out im) (S : Int) : ∃ g : Bool, yX (a.1, a.2) (k : Int) (NLL A) out (b.1, b.2) (NL im) = some (bif g then (NL (vals nb b.2 im out), true) else ([], false)) ∧
    yx (b.1, b.2) out (NLL (a.2.map (vrow N (N ^ k) A))) (NL im) ((k : Int), NLL (genL N k)) (a.1, a.2, S, NLL A, M) = some (bif g then (NL (vals nb b.2 im out), true) else ([], false)) := by
  obtain ⟨g, e, hg⟩ := UX h
  obtain ⟨g', e', hg'⟩ := mapTo_ok h S
  have : g = g' := by
    rw [Bool.eq_iff_iff, hg, hg']
  subst this
  exact ⟨g, e, e'⟩

end

theorem Ui (a : Int × List (Int × List Int)) (hl : a.2.length ≤ 1000) : YN (a.1, a.2) = some (a.2.map (·.1)) := by
  unfold YN
  rw [xg (R := List Int) (v := fun j => (a.2[j]?.getD (0, [])).1) (n := a.2.length) rfl (by omega) (fun j s hj hs => by
    rw [Zv, gge hj, obs, Option.getD_some]), obs, zE]
  congr 1
  refine List.ext_getElem (by simp) (fun i h1 h2 => ?_)
  rw [List.getElem_map, List.getElem_map, List.getElem_range, gge (by simpa using h2), Option.getD_some]

theorem Uq (a : Int × List (Int × List Int)) (hl : a.2.length ≤ 1000) : YO (a.1, a.2) = some (a.2.map (·.1)) := by
  unfold YO
  rw [XE (fun f => [f.1]) 0 a.2 [] (fun i pre post f el => by
    have hpl : pre.length ≤ 1000 := by
      have := congrArg List.length el
      simp at this; omega
    rw [yv (by rw [xL]; simp; omega), obs]), obs, zE, xL]
  rfl

theorem two_cases {N : Nat} {a b : Int × List (Int × List Int)} (hb : BA b) (hN : AlgN a N) (g1 : zZ (a.1, a.2) = some true) (g2 : Zg (a.1, a.2) = some true) :
    (∃ nb, AlgN b nb ∧ a.2.map (·.1) = b.2.map (·.1) ∧ xh (a.1, a.2) (b.1, b.2) = some true ∧ Yi (a.1, a.2) (b.1, b.2) = some true) ∨
    (xh (a.1, a.2) (b.1, b.2) = some false ∧ Yi (a.1, a.2) (b.1, b.2) = some false) := by
  have hl4 := hN.l4
  unfold xh Yi
  rw [g1, g2]
  rcases Vs b hb with ⟨nb, hnb, e1, e2⟩ | ⟨_, e1, e2⟩
  · have hl4' := hnb.l4
    have es : xo (a.1, a.2) (b.1, b.2) = some (a.2.map (·.1) == b.2.map (·.1)) := by
      unfold xo
      rw [Ui a (by omega), obs, Ui b (by omega), obs, Ur _ _ (by simp; omega), obs]
    have ei : xN (a.1, a.2) (b.1, b.2) = some (a.2.map (·.1) == b.2.map (·.1)) := by
      unfold xN xv
      simp only [g2, e2, obs, bnt, ct0]
      rw [Uq a (by omega), obs, Uq b (by omega), obs, zaL _ _ (by simp; omega), obs, obs]; rfl
    simp only [e1, e2, obs, ct1, es, ei]
    by_cases h : a.2.map (·.1) = b.2.map (·.1)
    · exact .inl ⟨nb, hnb, h, by rw [h, beq_self_eq_true], by rw [h, beq_self_eq_true]⟩
    · right
      rw [show (a.2.map (·.1) == b.2.map (·.1)) = false by simpa using h]
      exact ⟨rfl, rfl⟩
  · right
    rw [e1, e2]; exact ⟨rfl, rfl⟩

set_option linter.unusedVariables false

section
variable {N nb k : Nat} {a b : Int × List (Int × List Int)} {A : List (List Nat)} {M : MI} {out : List (List Int)} {im : List Nat}
theorem MpI.mk' (ha : AlgN a N) (hb : AlgN b nb) (hk : k ≤ 3) (h64 : N ^ k ≤ 64) (hF : FrI N k a.2 A M) (hty : a.2.map (·.1) = b.2.map (·.1)) (ht : TB N a.2 (N ^ k) (genL N k) A out) (hne : ws out = true) (hil : im.length = k) (hib : ∀ v ∈ im, v < nb) : MpI N nb k a b A M out im := by
  refine ⟨ha, hb, hk, h64, hF, hty, ht.len, fun t h => ?_, hil, hib⟩
  obtain ⟨i, hi, rfl⟩ := List.mem_iff_getElem.1 h
  have hs := ht.sound i (by rw [← ht.len]; exact hi) (Vo.1 hne i hi)
  rw [Wo hi] at hs
  obtain ⟨o1, o2⟩ := hs.1.ok ha (by rw [Xk]; omega)
  refine ⟨?_, hs.2, fun x hx h0 => by have := o2 x hx h0; rwa [Xk] at this⟩
  rw [← uu hty]
  have := o1 0 []
  rw [lan] at this
  exact this

theorem zaH (ha : AlgN a N) (hk : k ≤ 3) (h64 : N ^ k ≤ 64) (hF : FrI N k a.2 A M) : Zu (a.1, a.2, ((N ^ k : Nat) : Int), NLL A, M) = some (NLL (a.2.map (vrow N (N ^ k) A))) :=
  Wn ha hF.key hF.len (hF.tup ha) (by omega) (fun f hf K T ho ts hl h => (hF.mem _).2 (.app hf ho hl (fun t h' => (hF.mem _).1 (h t h'))))

end

end Go.Proofs
