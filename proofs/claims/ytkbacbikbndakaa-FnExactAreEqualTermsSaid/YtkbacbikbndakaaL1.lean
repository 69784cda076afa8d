/- Plain lemmas on what the functions compute, up to: the law gives true. No conditions. -/
import Derived.Test.YtkbacbikbndakaaL0
set_option linter.unusedVariables false
namespace Go.Proofs
open Go.G
set_option maxRecDepth 100000

/-- One round over all operations. -/
theorem span_ops {R : Type} {N k old : Nat} {a : Int × List (Int × List Int)} {B A : List (List Nat)} {M : MI} (bad : R) (ha : AlgN a N) (hB : ∀ t ∈ B, TupN N k t) (hk : k ≤ 1000000) (hI : SpI N a.2 k B A M) (hA : A.length ≤ mostA a.2) :
    (∃ Z M', forR (S := (List (List Int)) × (List (ByteArray × Int))) (R := R) (fun _ x297 s294 =>
  (mkc 0 3).bind fun u317 =>
  (s_impl_span__applyNew FU (x297.1, x297.2) (List.replicate (Int.toNat 0) ([] : List Int)) (old : Int) ((A.length : Nat) : Int) false (a.1, a.2, (k : Int), s294.1, s294.2)).bind fun r321 =>
  (bif (!r321.1) then some (.rt bad) else some (.nx (r321.2.1, r321.2.2)))) 0 a.2 (NLL A, M) = some (.br (NLL (A ++ Z), M')) ∧ SpI N a.2 k B (A ++ Z) M' ∧ (A ++ Z).length ≤ mostA a.2 ∧ ∀ f ∈ a.2, ∀ K T, OpN N f K T → ∀ ds : List Nat, ds.length = K → (∀ x ∈ ds, x < A.length) → (frO old ds = true ∨ (K = 0 ∧ old = 0)) → apT N T (ds.map (gl A)) k ∈ A ++ Z) ∨
    (forR (S := (List (List Int)) × (List (ByteArray × Int))) (R := R) (fun _ x297 s294 =>
  (mkc 0 3).bind fun u317 =>
  (s_impl_span__applyNew FU (x297.1, x297.2) (List.replicate (Int.toNat 0) ([] : List Int)) (old : Int) ((A.length : Nat) : Int) false (a.1, a.2, (k : Int), s294.1, s294.2)).bind fun r321 =>
  (bif (!r321.1) then some (.rt bad) else some (.nx (r321.2.1, r321.2.2)))) 0 a.2 (NLL A, M) = some (.rt bad) ∧ ∃ A2 : List (List Nat), A2.Nodup ∧ (∀ t ∈ A2, Gen N a.2 k B t) ∧ mostA a.2 < A2.length) := by
  have := forR_hoare (S := (List (List Int)) × (List (ByteArray × Int))) (R := R) (step := fun _ x297 s294 =>
  (mkc 0 3).bind fun u317 =>
  (s_impl_span__applyNew FU (x297.1, x297.2) (List.replicate (Int.toNat 0) ([] : List Int)) (old : Int) ((A.length : Nat) : Int) false (a.1, a.2, (k : Int), s294.1, s294.2)).bind fun r321 =>
  (bif (!r321.1) then some (.rt bad) else some (.nx (r321.2.1, r321.2.2))))
    (fun pre s => ∃ Z M', s = (NLL (A ++ Z), M') ∧ SpI N a.2 k B (A ++ Z) M' ∧ (A ++ Z).length ≤ mostA a.2 ∧ ∀ f ∈ pre, ∀ K T, OpN N f K T → ∀ ds : List Nat, ds.length = K → (∀ x ∈ ds, x < A.length) → (frO old ds = true ∨ (K = 0 ∧ old = 0)) → apT N T (ds.map (gl A)) k ∈ A ++ Z)
    (fun _ => False)
    (fun r => r = bad ∧ ∃ A2 : List (List Nat), A2.Nodup ∧ (∀ t ∈ A2, Gen N a.2 k B t) ∧ mostA a.2 < A2.length)
    a.2 [] 0 (NLL A, M) ⟨[], M, by rw [List.append_nil], by rw [List.append_nil]; exact hI, by rw [List.append_nil]; exact hA, fun f hf => by cases hf⟩ (by
      rintro i pre' f post s el ⟨Z, M', rfl, hI', hA', hd⟩
      have hf : f ∈ a.2 := by rw [el]; simp
      obtain ⟨K, T, ho⟩ := ha.ops f hf
      have hK := ho.k3
      obtain ⟨Z2, M2, ok, e, hI2, hok, hno⟩ := applyNew_ok (old := old) (many := A.length) ha hf ho hB hk K FU [] (A ++ Z) M' (by simp) (by unfold FU; omega) hI' (by simp) hA' (fun d hd => by cases hd)
      rw [show mkc 0 3 = some () from rfl, Option.bind_some]
      rw [show NLL (List.map (gl (A ++ Z)) []) = List.replicate (Int.toNat 0) ([] : List Int) from rfl, show frO old [] = false from rfl] at e
      simp only [e, Option.bind_some]
      cases ok with
      | false =>
        right; right
        exact ⟨_, rfl, rfl, _, hI2.nd, hI2.gen, hno rfl⟩
      | true =>
        left
        obtain ⟨h1, h2⟩ := hok rfl
        refine ⟨_, rfl, Z ++ Z2, M2, by simp, by rw [← List.append_assoc]; exact hI2, by rw [← List.append_assoc]; exact h1, fun g hg K' T' ho' ds hl hx hfr => ?_⟩
        rw [← List.append_assoc]
        rw [List.nil_append] at hg
        rcases List.mem_append.1 hg with hg | hg
        · exact List.mem_append_left _ (hd g hg K' T' ho' ds hl hx hfr)
        · simp at hg; subst hg
          obtain ⟨rfl, rfl⟩ := ho.uniq ho'
          have := h2 ds hl hx (by simpa using hfr)
          rwa [List.nil_append, map_gl_app hx] at this)
  rcases this with ⟨s', e, h | h⟩ | ⟨r, e, h⟩
  · obtain ⟨Z, M', rfl, h1, h2, h3⟩ := h
    exact .inl ⟨Z, M', e, h1, h2, fun f hf => h3 f (by simpa using hf)⟩
  · exact h.elim
  · obtain ⟨rfl, h⟩ := h
    exact .inr ⟨e, h⟩

theorem spanOf_ok {N k : Nat} {a : Int × List (Int × List Int)} {B : List (List Nat)} (ha : AlgN a N) (hB : ∀ t ∈ B, TupN N k t) (hBl : B.length ≤ 1000) (hk : k ≤ 1000000) :
    (∃ A M, s_impl_spanOf (a.1, a.2) (k : Int) (NLL B) = some (some ((a.1, a.2), (k : Int), NLL A, M), true) ∧ SpI N a.2 k B A M ∧ (∀ t ∈ B, t ∈ A) ∧ Clsd N a.2 k (· ∈ A) ∧ A.length ≤ mostA a.2) ∨
    (s_impl_spanOf (a.1, a.2) (k : Int) (NLL B) = some (none, false) ∧ ∃ A : List (List Nat), A.Nodup ∧ (∀ t ∈ A, Gen N a.2 k B t) ∧ mostA a.2 < A.length) := by
  have hmo := mostA_le a.2
  have h8 := ha.n8
  unfold s_impl_spanOf
  have first := forR_hoare (S := (List (List Int)) × (List (ByteArray × Int))) (R := (Option ((Int × (List (Int × (List Int)))) × Int × (List (List Int)) × (List (ByteArray × Int)))) × Bool) (step := fun (_ : Int) (x59 : List Int) s56 =>
  (s_impl_clone x59).bind fun r76 =>
  (s_impl_span__add r76 (a.1, a.2, (k : Int), s56.1, s56.2)).bind fun r81 =>
  some (.nx (r81.1, r81.2)))
    (fun pre s => ∃ A M, s = (NLL A, M) ∧ SpI N a.2 k B A M ∧ (∀ t, NL t ∈ pre → t ∈ A) ∧ A.length ≤ pre.length)
    (fun _ => False) (fun _ => False)
    (NLL B) [] 0 ([], []) ⟨[], [], rfl, ⟨List.nodup_nil, KIx.nil, List.forall_mem_nil _⟩, (fun t h => by cases h), Nat.le_refl _⟩ (by
      rintro i pre' x post s el ⟨A, M, rfl, hI, hp, hl⟩
      left
      have hx : x ∈ NLL B := by rw [el]; simp
      obtain ⟨t, ht, rfl⟩ := List.mem_map.1 hx
      have hlen : pre'.length ≤ B.length := by
        have := congrArg List.length el
        simp at this; omega
      have htt := hB t ht
      obtain ⟨M', e, hI'⟩ := hI.step ha hB (.base ht) hk (by simp at hl; omega)
      have hc : s_impl_clone (NL t) = some (NL t) := clone_eq (by rw [NL_len, htt.1]; omega)
      change ∃ s', (s_impl_clone (NL t)).bind _ = _ ∧ _
      rw [hc, Option.bind_some]
      simp only [e, Option.bind_some]
      refine ⟨_, rfl, A ++ addN A t, M', rfl, hI', fun u hu => ?_, ?_⟩
      · rw [List.nil_append] at hu
        rcases List.mem_append.1 hu with hu | hu
        · exact List.mem_append_left _ (hp u (by simpa using hu))
        · simp at hu; rw [NL_inj hu]; exact addN_mem _ _
      · have := addN_len A t
        simp at hl ⊢; simp at this; omega)
  rcases first with ⟨s', e1, h | h⟩ | ⟨r, _, h⟩
  rotate_left
  · exact h.elim
  · exact h.elim
  obtain ⟨A, M, rfl, hI, hp, hl⟩ := h
  rw [List.nil_append] at hp hl
  rw [NLL_len] at hl
  have hBA : ∀ t ∈ B, t ∈ A := fun t ht => hp t (List.mem_map.2 ⟨t, ht, rfl⟩)
  rw [e1, Option.bind_some, after_br', mostTuples_eq, Option.bind_some]
  simp only [NLL_len, dec_lt]
  by_cases hmA : mostA a.2 < A.length
  · right
    rw [decide_eq_true hmA, cond_true]
    exact ⟨rfl, A, hI.nd, hI.gen, hmA⟩
  rw [decide_eq_false hmA, cond_false]
  obtain ⟨c, hc, hQ, _⟩ := iter_inv (S := Int × Bool × (List (List Int)) × (List (ByteArray × Int))) (R := (Option ((Int × (List (Int × (List Int)))) × Int × (List (List Int)) × (List (ByteArray × Int)))) × Bool) (step := fun s238 =>
  (bif (s238.2.1 || (decide (s238.1 < (s238.2.2.1.length : Int)))) then (forR (S := (List (List Int)) × (List (ByteArray × Int))) (R := (Option ((Int × (List (Int × (List Int)))) × Int × (List (List Int)) × (List (ByteArray × Int)))) × Bool) (fun _ x297 s294 =>
  (mkc 0 3).bind fun u317 =>
  (s_impl_span__applyNew FU (x297.1, x297.2) (List.replicate (Int.toNat 0) ([] : List Int)) s238.1 (s238.2.2.1.length : Int) false (a.1, a.2, (k : Int), s294.1, s294.2)).bind fun r321 =>
  (bif (!r321.1) then some (.rt (none, false)) else some (.nx (r321.2.1, r321.2.2)))) 0 a.2 (s238.2.2.1, s238.2.2.2)).bind fun o298 => after o298 (fun r_ => some (.rt r_)) (fun s294 =>
  some (.nx ((s238.2.2.1.length : Int), false, s294.1, s294.2))) else some (.br (s238.1, s238.2.1, s238.2.2.1, s238.2.2.2))))
    (fun s => ∃ (old : Nat) (first : Bool) (A : List (List Nat)) (M : MI), s = ((old : Int), first, NLL A, M) ∧ SpI N a.2 k B A M ∧ old ≤ A.length ∧ A.length ≤ mostA a.2 ∧ (first = true → old = 0) ∧ DoneO N a.2 k old first A ∧ ∀ t ∈ B, t ∈ A)
    (fun s => 1000 - s.1.toNat + (if s.2.1 then 1 else 0))
    (fun c => (∃ (A : List (List Nat)) (M : MI) (x : Int), c = .br (x, false, NLL A, M) ∧ SpI N a.2 k B A M ∧ A.length ≤ mostA a.2 ∧ Clsd N a.2 k (· ∈ A) ∧ ∀ t ∈ B, t ∈ A) ∨ (c = .rt (none, false) ∧ ∃ A : List (List Nat), A.Nodup ∧ (∀ t ∈ A, Gen N a.2 k B t) ∧ mostA a.2 < A.length))
    FU (0, true, NLL A, M) ⟨0, true, A, M, rfl, hI, Nat.zero_le _, by omega, fun _ => rfl, fun f hf K T ho ds hds hx h0 => by
      cases ds with
      | nil => exact absurd (h0 (by simpa using hds.symm)) (by simp)
      | cons d ds => exact absurd (hx d (by simp)) (by omega), hBA⟩ (by simp [FU]) (by
      rintro s ⟨old, first, A, M, rfl, hI, hoA, hA, hf0, hd, hBA⟩
      simp only [NLL_len, dec_lt]
      by_cases hgo : first = true ∨ old < A.length
      · rw [show (first || decide (old < A.length)) = true by rcases hgo with h | h <;> simp [h], cond_true]
        rcases span_ops (R := (Option ((Int × (List (Int × (List Int)))) × Int × (List (List Int)) × (List (ByteArray × Int)))) × Bool) (old := old) (none, false) ha hB hk hI hA with ⟨Z, M', e, hI', hA', hd'⟩ | ⟨e, h⟩
        · left
          rw [e, Option.bind_some, after_br']
          refine ⟨_, rfl, ⟨A.length, false, A ++ Z, M', rfl, hI', by simp, hA', (fun h => by cases h), fun f hf K T ho ds hds hx _ => ?_, fun t ht => List.mem_append_left _ (hBA t ht)⟩, ?_⟩
          · rw [map_gl_app hx]
            by_cases hfr : frO old ds = true ∨ (K = 0 ∧ old = 0)
            · exact hd' f hf K T ho ds hds hx hfr
            · refine List.mem_append_left _ (hd f hf K T ho ds hds (fun x hx' => ?_) (fun hK0 => ?_))
              · rcases Nat.lt_or_ge x old with h | h
                · exact h
                · exact absurd (.inl (List.any_eq_true.2 ⟨x, hx', by simpa using h⟩)) hfr
              · cases first with
                | false => rfl
                | true => exact absurd (.inr ⟨hK0, hf0 rfl⟩) hfr
          · cases first with
            | true => have := hf0 rfl; subst this; simp; omega
            | false =>
              have : old < A.length := by simpa using hgo
              simp; omega
        · right
          rw [e, Option.bind_some, after_rt']
          exact ⟨_, rfl, by intro s; simp, .inr ⟨rfl, h⟩⟩
      · right
        have hfi : first = false := by
          cases first with
          | false => rfl
          | true => exact absurd (.inl rfl) hgo
        have e : old = A.length := by
          have : ¬ old < A.length := fun h => hgo (.inr h)
          omega
        subst hfi
        rw [show (false || decide (old < A.length)) = false by simp; omega, cond_false]
        refine ⟨_, rfl, by intro s; simp, .inl ⟨A, M, _, rfl, hI, hA, ?_, hBA⟩⟩
        rw [e] at hd
        exact hd.clsd)
  rw [show (0 : Int) = ((0 : Nat) : Int) from rfl] at hc ⊢
  rcases hQ with ⟨A2, M2, x, rfl, h1, h2, h3, h4⟩ | ⟨rfl, h⟩
  · left
    rw [hc]
    exact ⟨A2, M2, rfl, h1, h4, h3, h2⟩
  · right
    rw [hc]
    exact ⟨rfl, h⟩

theorem nodup_sub {L M : List (List Nat)} (h : L.Nodup) (hs : ∀ x ∈ L, x ∈ M) : L.length ≤ M.length := by
  induction L generalizing M with
  | nil => simp
  | cons x L ih =>
    rw [List.nodup_cons] at h
    have hx := hs x (by simp)
    have := ih (M := M.erase x) h.2 (fun y hy => by
      have hne : y ≠ x := fun e => h.1 (e ▸ hy)
      exact (List.mem_erase_of_ne hne).2 (hs y (by simp [hy])))
    rw [List.length_erase_of_mem hx] at this
    have : 0 < M.length := List.length_pos_of_mem hx
    simp; omega

/-- Both sides find the same tuples, or too many. -/
theorem span_both {N k : Nat} {a : Int × List (Int × List Int)} {B : List (List Nat)} (ha : AlgN a N) (hB : ∀ t ∈ B, TupN N k t) (hBl : B.length ≤ 1000) (hk : k ≤ 1000000) :
    (∃ A' A M, s_spec_l8Close (a.1, a.2) (k : Int) (NLL B) = some (NLL A', true) ∧ s_impl_spanOf (a.1, a.2) (k : Int) (NLL B) = some (some ((a.1, a.2), (k : Int), NLL A, M), true) ∧ s_impl_sortedTuples (NLL A) = some (NLL A') ∧
      SpI N a.2 k B A M ∧ Sorted A' ∧ (∀ t, t ∈ A ↔ t ∈ A') ∧ (∀ t, t ∈ A' ↔ Gen N a.2 k B t) ∧ A'.length ≤ 300 ∧ A.length = A'.length) ∨
    (∃ A', s_spec_l8Close (a.1, a.2) (k : Int) (NLL B) = some (NLL A', false) ∧ s_impl_spanOf (a.1, a.2) (k : Int) (NLL B) = some (none, false)) := by
  have hmo := mostA_le a.2
  obtain ⟨A', e1, hs, hg, hb, hl, hcl⟩ := l8Close_ok ha hB hBl hk
  have nd' : A'.Nodup := sorted_nodup lexLt_irrefl hs
  rcases spanOf_ok ha hB hBl hk with ⟨A, M, e2, hI, hBA, hclA, hA⟩ | ⟨e2, A, nd, hgA, hmA⟩
  · left
    have allA : ∀ t, Gen N a.2 k B t → t ∈ A := fun t ht => ht.least hBA hclA
    have h1 : A'.length ≤ A.length := nodup_sub nd' (fun t ht => allA t (hg t ht))
    have hle : A'.length ≤ mostA a.2 := by omega
    have allA' : ∀ t, Gen N a.2 k B t → t ∈ A' := fun t ht => ht.least hb (hcl hle)
    have h2 : A.length ≤ A'.length := nodup_sub hI.nd (fun t ht => allA' t (hI.gen t ht))
    have hlen : ∀ t ∈ A, t.length = k := fun t ht => ((hI.gen t ht).tup hB).1
    obtain ⟨S, e3, hp, hsS⟩ := sortedTuples_eq (k := k) (by omega) (by omega) hlen
    have eS : S = A' := by
      refine asc_unique ?_ ?_ (fun t => ?_)
      · have ndS : S.Nodup := hp.nodup_iff.2 hI.nd
        refine List.Pairwise.imp_of_mem ?_ (List.Pairwise.and hsS ndS)
        rintro x y hx hy ⟨h1, h2⟩
        have lx := hlen x (hp.mem_iff.1 hx)
        have ly := hlen y (hp.mem_iff.1 hy)
        rw [← lexLt_ltL (by omega)] at h1 ⊢
        exact lexLt_tri (by omega) h1 (fun e => h2 e.symm)
      · refine List.Pairwise.imp_of_mem ?_ hs
        intro x y hx hy h
        rw [← lexLt_ltL (by rw [((hg x hx).tup hB).1, ((hg y hy).tup hB).1])]; exact h
      · rw [hp.mem_iff]; exact ⟨fun h => allA' t (hI.gen t h), fun h => allA t (hg t h)⟩
    subst eS
    exact ⟨S, A, M, by rw [e1, decide_eq_true hle], e2, e3, hI, hs, fun t => hp.symm.mem_iff, fun t => ⟨hg t, allA' t⟩, by omega, by omega⟩
  · right
    refine ⟨A', ?_, e2⟩
    rw [e1]
    congr 2
    rw [decide_eq_false_iff_not]
    intro hle
    have := nodup_sub nd (M := A') (fun t ht => (hgA t ht).least hb (hcl hle))
    omega

set_option linter.unusedVariables false

def arO (ops : List (Int × List Int)) (x : Int) : Nat := ((ops[(-1 - x).toNat]?.getD (0, [])).1).toNat

def tbO (ops : List (Int × List Int)) (x : Int) : List Nat := (ops[(-1 - x).toNat]?.getD (0, [])).2.map Int.toNat

def okT (ops : List (Int × List Int)) : Nat → List Int → Bool
  | 0, [] => true
  | 0, _ :: _ => false
  | _ + 1, [] => false
  | n + 1, x :: t => if 0 ≤ x then decide (x < 6) && okT ops n t else decide (-(ops.length : Int) ≤ x) && okT ops (n + arO ops x) t

theorem toNat_NL (T : List Nat) : (NL T).map Int.toNat = T := by
  unfold NL; rw [List.map_map]
  conv => rhs; rw [← List.map_id T]
  rfl

theorem op_sym {N : Nat} {a : Int × List (Int × List Int)} (ha : AlgN a N) {x : Int} (h0 : ¬ 0 ≤ x) (h1 : -(a.2.length : Int) ≤ x) : ∃ (j : Nat) (hj : j < a.2.length), w64 ((-1) - x) = (j : Int) ∧ x = -1 - (j : Int) ∧ OpN N a.2[j] (arO a.2 x) (tbO a.2 x) ∧ idx a.2 (j : Int) = some (((arO a.2 x : Nat) : Int), NL (tbO a.2 x)) := by
  have hl := ha.l4
  have hj : (-1 - x).toNat < a.2.length := by omega
  obtain ⟨K, T, e1, e2, ho⟩ := op_at ha hj
  have eK : arO a.2 x = K := by unfold arO; rw [List.getElem?_eq_getElem hj, Option.getD_some, e2]; simp
  have eT : tbO a.2 x = T := by unfold tbO; rw [List.getElem?_eq_getElem hj, Option.getD_some, e2]; exact toNat_NL T
  refine ⟨(-1 - x).toNat, hj, ?_, by omega, by rw [eK, eT]; exact ho, by rw [eK, eT]; exact e1⟩
  rw [w64_id (by omega) (by omega)]; omega

theorem okT_sym {ops : List (Int × List Int)} : ∀ {t : List Int} {n : Nat}, okT ops n t = true → ∀ x ∈ t, (0 ≤ x → x < 6) ∧ (¬ 0 ≤ x → -(ops.length : Int) ≤ x)
  | [], _, _, x, hx => by cases hx
  | y :: t, 0, h, _, _ => by cases h
  | y :: t, n + 1, h, x, hx => by
    unfold okT at h
    by_cases hy : 0 ≤ y
    · rw [if_pos hy, Bool.and_eq_true, decide_eq_true_eq] at h
      rcases List.mem_cons.1 hx with rfl | hx
      · exact ⟨fun _ => h.1, fun h' => absurd hy h'⟩
      · exact okT_sym h.2 x hx
    · rw [if_neg hy, Bool.and_eq_true, decide_eq_true_eq] at h
      rcases List.mem_cons.1 hx with rfl | hx
      · exact ⟨fun h' => absurd h' hy, fun _ => h.1⟩
      · exact okT_sym h.2 x hx

theorem okT_drop {ops : List (Int × List Int)} : ∀ {t : List Int} {n : Nat} (i : Nat), okT ops n t = true → ∃ m, okT ops m (t.drop i) = true
  | t, n, 0, h => ⟨n, by simpa using h⟩
  | [], n, i + 1, h => ⟨n, by simpa using h⟩
  | y :: t, 0, i + 1, h => by cases h
  | y :: t, n + 1, i + 1, h => by
    unfold okT at h
    rw [List.drop_succ_cons]
    by_cases hy : 0 ≤ y
    · rw [if_pos hy, Bool.and_eq_true] at h; exact okT_drop i h.2
    · rw [if_neg hy, Bool.and_eq_true] at h; exact okT_drop i h.2

/-- A term on a stack: from its end to its start. -/
def evG {α : Type} (var : Nat → α) (app : Int → List α → α) (ops : List (Int × List Int)) : List Int → List α
  | [] => []
  | x :: t => if 0 ≤ x then var x.toNat :: evG var app ops t else app x ((evG var app ops t).take (arO ops x)) :: (evG var app ops t).drop (arO ops x)
section
variable {α β : Type} {var : Nat → α} {app : Int → List α → α} {ops : List (Int × List Int)}

theorem evG_len : ∀ {t : List Int} {n : Nat}, okT ops n t = true → (evG var app ops t).length = n
  | [], 0, _ => rfl
  | [], n + 1, h => by cases h
  | y :: t, 0, h => by cases h
  | y :: t, n + 1, h => by
    unfold okT at h
    unfold evG
    by_cases hy : 0 ≤ y
    · rw [if_pos hy, Bool.and_eq_true] at h
      rw [if_pos hy, List.length_cons, evG_len h.2]
    · rw [if_neg hy, Bool.and_eq_true] at h
      rw [if_neg hy, List.length_cons, List.length_drop, evG_len h.2]; omega

theorem evG_all {P : α → Prop} : ∀ {t : List Int} {n : Nat}, okT ops n t = true → (∀ x ∈ t, 0 ≤ x → P (var x.toNat)) → (∀ x ∈ t, ¬ 0 ≤ x → ∀ args, args.length = arO ops x → (∀ y ∈ args, P y) → P (app x args)) → ∀ y ∈ evG var app ops t, P y
  | [], _, _, _, _, y, hy => by cases hy
  | x :: t, 0, h, _, _, _, _ => by cases h
  | x :: t, n + 1, h, hv, ha, y, hy => by
    unfold okT at h
    unfold evG at hy
    by_cases hx : 0 ≤ x
    · rw [if_pos hx, Bool.and_eq_true] at h
      rw [if_pos hx] at hy
      rcases List.mem_cons.1 hy with rfl | hy
      · exact hv x (by simp) hx
      · exact evG_all h.2 (fun z hz => hv z (by simp [hz])) (fun z hz => ha z (by simp [hz])) y hy
    · rw [if_neg hx, Bool.and_eq_true] at h
      rw [if_neg hx] at hy
      have ih := evG_all (P := P) h.2 (fun z hz => hv z (by simp [hz])) (fun z hz => ha z (by simp [hz]))
      rcases List.mem_cons.1 hy with rfl | hy
      · exact ha x (by simp) hx _ (by rw [List.length_take, evG_len h.2]; omega) (fun y hy => ih y (List.mem_of_mem_take hy))
      · exact ih y (List.mem_of_mem_drop hy)

theorem evG_map {var' : Nat → β} {app' : Int → List β → β} {f : α → β} : ∀ {t : List Int} {n : Nat}, okT ops n t = true → (∀ x ∈ t, 0 ≤ x → f (var x.toNat) = var' x.toNat) → (∀ x ∈ t, ¬ 0 ≤ x → ∀ args, args.length = arO ops x → f (app x args) = app' x (args.map f)) → (evG var app ops t).map f = evG var' app' ops t
  | [], _, _, _, _ => rfl
  | x :: t, 0, h, _, _ => by cases h
  | x :: t, n + 1, h, hv, ha => by
    unfold okT at h
    unfold evG
    by_cases hx : 0 ≤ x
    · rw [if_pos hx, Bool.and_eq_true] at h
      rw [if_pos hx, if_pos hx, List.map_cons, hv x (by simp) hx, evG_map h.2 (fun z hz => hv z (by simp [hz])) (fun z hz => ha z (by simp [hz]))]
    · rw [if_neg hx, Bool.and_eq_true] at h
      have ih := evG_map (f := f) h.2 (fun z hz => hv z (by simp [hz])) (fun z hz => ha z (by simp [hz]))
      rw [if_neg hx, if_neg hx, List.map_cons, ha x (by simp) hx _ (by rw [List.length_take, evG_len h.2]; omega), List.map_take, List.map_drop, ih]
end

def evN (N : Nat) (ops : List (Int × List Int)) (vs : List Nat) (t : List Int) : List Nat := evG (fun i => ga vs i) (fun x args => ga (tbO ops x) (ix N 0 args)) ops t

theorem ga_rev {S : List Nat} {i : Nat} (h : i < S.length) : ga S.reverse (S.length - 1 - i) = ga S i := by
  rw [ga_get (by simp; omega), ga_get h, List.getElem_reverse]
  congr 1; omega

theorem evN_lt {N : Nat} {a : Int × List (Int × List Int)} (ha : AlgN a N) {vs : List Nat} {t : List Int} {n : Nat} (h : okT a.2 n t = true) (hx : ∀ x ∈ t, 0 ≤ x → x.toNat < vs.length) (hv : ∀ v ∈ vs, v < N) : ∀ y ∈ evN N a.2 vs t, y < N :=
  evG_all (P := fun y => y < N) h (fun x hx' h0 => hv _ (ga_mem (hx x hx' h0))) (fun x hx' h0 args hl hargs => by
    obtain ⟨j, hj, _, _, ho, _⟩ := op_sym ha h0 ((okT_sym h x hx').2 h0)
    refine ho.lt _ (ga_mem ?_)
    rw [ho.len]; exact ix0_lt hargs hl)

/-- The stack after n rounds. -/
def stF (N : Nat) (ops : List (Int × List Int)) (vs : List Nat) (t : List Int) (n : Nat) : List Int × Int := (NL (evN N ops vs (t.drop (t.length - n))).reverse, (t.length : Int) - 1 - (n : Int))

theorem slc_rev {S : List Nat} {K : Nat} (h : K ≤ S.length) : slc (NL S.reverse) 0 (((S.length - K : Nat)) : Int) = some (NL (S.drop K).reverse) := by
  rw [slc_take (by simp), List.reverse_drop]
  unfold NL
  rw [← List.map_take]
section
variable {N : Nat} {a : Int × List (Int × List Int)} {t : List Int} {vs : List Nat}

/-- One round: the symbol, and the stack below it. -/
theorem stF_step (ha : AlgN a N) (ht : okT a.2 1 t = true) (hl : t.length ≤ 60) (hx : ∀ x ∈ t, 0 ≤ x → x.toNat < vs.length) (hv : ∀ v ∈ vs, v < N) {j : Nat} (hj : j < t.length) :
    ∃ (x : Int) (S : List Nat), idx t ((t.length : Int) - 1 - (j : Int)) = some x ∧ stF N a.2 vs t j = (NL S.reverse, (t.length : Int) - 1 - (j : Int)) ∧ S.length ≤ 1000 ∧ (∀ y ∈ S, y < N) ∧
      ((0 ≤ x ∧ x.toNat < vs.length ∧ stF N a.2 vs t (j + 1) = (NL S.reverse ++ [((ga vs x.toNat : Nat) : Int)], (t.length : Int) - 1 - (j : Int) - 1)) ∨
       (¬ 0 ≤ x ∧ -(a.2.length : Int) ≤ x ∧ arO a.2 x ≤ S.length ∧ stF N a.2 vs t (j + 1) = (NL (S.drop (arO a.2 x)).reverse ++ [((ga (tbO a.2 x) (ix N 0 (S.take (arO a.2 x))) : Nat) : Int)], (t.length : Int) - 1 - (j : Int) - 1))) := by
  have hi : t.length - 1 - j < t.length := by omega
  have ed : t.drop (t.length - (j + 1)) = t[t.length - 1 - j] :: t.drop (t.length - j) := by
    rw [show t.length - (j + 1) = t.length - 1 - j by omega, show t.length - j = t.length - 1 - j + 1 by omega, List.drop_eq_getElem_cons hi]
  obtain ⟨m, hm⟩ := okT_drop (t.length - (j + 1)) ht
  obtain ⟨m', hm'⟩ := okT_drop (t.length - j) ht
  have hS := evG_len (var := fun i => ga vs i) (app := fun x args => ga (tbO a.2 x) (ix N 0 args)) hm'
  have hmem : ∀ x ∈ t.drop (t.length - j), 0 ≤ x → x.toNat < vs.length := fun x h => hx x (List.mem_of_mem_drop h)
  have hlt := evN_lt ha hm' hmem hv
  have hbd : ∀ (u : List Int), (evN N a.2 vs u).length ≤ u.length := fun u => by
    induction u with
    | nil => simp [evN, evG]
    | cons y u ih =>
      unfold evN evG
      split
      · simpa [evN] using ih
      · simp [evN] at ih ⊢; omega
  have hlen := hbd (t.drop (t.length - j))
  have hb : (evN N a.2 vs (t.drop (t.length - j))).length ≤ 1000 := by rw [List.length_drop] at hlen; omega
  refine ⟨t[t.length - 1 - j], evN N a.2 vs (t.drop (t.length - j)), ?_, rfl, hb, hlt, ?_⟩
  · rw [show (t.length : Int) - 1 - (j : Int) = ((t.length - 1 - j : Nat) : Int) by omega, idx_nat, List.getElem?_eq_getElem hi]
  · have hxm : t[t.length - 1 - j] ∈ t := List.getElem_mem hi
    rw [ed] at hm
    by_cases h0 : 0 ≤ t[t.length - 1 - j]
    · left
      refine ⟨h0, hx _ hxm h0, ?_⟩
      unfold stF
      rw [ed]
      conv => lhs; unfold evN evG
      rw [if_pos h0, List.reverse_cons, NL_app]
      refine Prod.ext rfl ?_
      show _ - _ = _; omega
    · right
      refine ⟨h0, (okT_sym ht _ hxm).2 h0, ?_, ?_⟩
      · cases m with
        | zero => cases hm
        | succ m =>
          unfold okT at hm
          rw [if_neg h0, Bool.and_eq_true] at hm
          have := evG_len (var := fun i => ga vs i) (app := fun x args => ga (tbO a.2 x) (ix N 0 args)) hm.2
          show _ ≤ (evG _ _ _ _).length
          rw [this]; omega
      · unfold stF
        rw [ed]
        conv => lhs; unfold evN evG
        rw [if_neg h0, List.reverse_cons, NL_app]
        refine Prod.ext rfl ?_
        show _ - _ = _; omega

theorem l3Value_eq (ha : AlgN a N) (ht : okT a.2 1 t = true) (hl : t.length ≤ 60) (hx : ∀ x ∈ t, 0 ≤ x → x.toNat < vs.length) (hv : ∀ v ∈ vs, v < N) : s_spec_l3Value (a.1, a.2) t (NL vs) = some ((ga (evN N a.2 vs t) 0 : Nat) : Int) := by
  have hlen1 : (evN N a.2 vs t).length = 1 := evG_len ht
  unfold s_spec_l3Value
  rw [iter_br (R := Int) (stF N a.2 vs t) (t := stF N a.2 vs t t.length) t.length (by omega) (by
      unfold stF
      rw [Nat.sub_zero, List.drop_length, w64_id (by omega) (by omega)]
      exact Prod.ext rfl (by show (t.length : Int) - 1 = _; omega)) (fun j hj => by
    obtain ⟨x, S, e1, e2, hS, hSx, h⟩ := stF_step ha ht hl hx hv hj
    rw [e2]
    simp only [show decide (0 ≤ (t.length : Int) - 1 - (j : Int)) = true by simp; omega, cond_true, e1, Option.bind_some, show w64 ((t.length : Int) - 1 - (j : Int) - 1) = (t.length : Int) - 1 - (j : Int) - 1 from w64_id (by omega) (by omega)]
    rcases h with ⟨h0, hxl, e3⟩ | ⟨h0, h1, hK, e3⟩
    · rw [decide_eq_true h0, cond_true, e3]
      obtain ⟨y, rfl⟩ : ∃ y : Nat, x = (y : Int) := ⟨x.toNat, by omega⟩
      rw [Int.toNat_natCast] at hxl ⊢
      rw [idx_NL hxl, Option.bind_some, app_ok (by simp; omega), Option.bind_some]
    · obtain ⟨op, hop, ew, ex, ho, ei⟩ := op_sym ha h0 h1
      have hK3 := ho.k3
      rw [decide_eq_false h0, cond_false, e3, ew]
      simp only [ei, Option.bind_some, NL_len, List.length_reverse]
      rw [iter_br (R := Int) (S := List Int × Int) (s := ([], 0)) (fun n => (NL (S.take n), (n : Int))) (t := (NL (S.take (arO a.2 x)), ((arO a.2 x : Nat) : Int))) (arO a.2 x) (by omega) rfl (fun n hn => by
        simp only [dec_lt, decide_eq_true hn, cond_true]
        rw [show w64 ((S.length : Int) - 1) = (S.length : Int) - 1 from w64_id (by omega) (by omega), w64_id (by omega) (by omega), show (S.length : Int) - 1 - (n : Int) = ((S.length - 1 - n : Nat) : Int) by omega, idx_NL (by simp; omega), Option.bind_some, ga_rev (by omega), app_ok (by simp; omega), Option.bind_some, w64_add1 (by omega)]
        have e : S.take (n + 1) = S.take n ++ [ga S n] := by rw [List.take_add_one, List.getElem?_eq_getElem (by omega), ga_get (by omega)]; rfl
        rw [e, NL_app]; rfl) (by simp), Option.bind_some, after_br']
      have hTk : (S.take (arO a.2 x)).length = arO a.2 x := by rw [List.length_take]; omega
      simp only [NL_len, hTk]
      rw [show w64 ((S.length : Int) - ((arO a.2 x : Nat) : Int)) = ((S.length - arO a.2 x : Nat) : Int) from w64_sub hK (by omega), slc_rev hK, Option.bind_some, l1Own_eq (by simp; omega), Option.bind_some, l2Value_eq ha.n1 ha.n8 ha.eN hop ho hTk (fun y hy => hSx y (List.mem_of_mem_take hy)), Option.bind_some, app_ok (by simp; omega), Option.bind_some]) (by
    have : (stF N a.2 vs t t.length).2 = -1 := by unfold stF; show (t.length : Int) - 1 - (t.length : Int) = -1; omega
    obtain ⟨S0, hS0⟩ : ∃ S0, stF N a.2 vs t t.length = (S0, -1) := ⟨_, Prod.ext rfl this⟩
    rw [hS0]; rfl), Option.bind_some, after_br']
  unfold stF
  rw [Nat.sub_self, List.drop_zero]
  show ((idx (NL (evN N a.2 vs t).reverse) ((0 : Nat) : Int)).bind _) = _
  rw [idx_NL (by simp; omega), Option.bind_some]
  have : ga (evN N a.2 vs t).reverse 0 = ga (evN N a.2 vs t) 0 := by
    have := ga_rev (S := evN N a.2 vs t) (i := 0) (by omega)
    rw [hlen1] at this; exact this
  rw [this]

theorem eval_eq (ha : AlgN a N) (ht : okT a.2 1 t = true) (hl : t.length ≤ 60) (hx : ∀ x ∈ t, 0 ≤ x → x.toNat < vs.length) (hv : ∀ v ∈ vs, v < N) : s_impl_eval (a.1, a.2) t (NL vs) = some ((ga (evN N a.2 vs t) 0 : Nat) : Int) := by
  have hlen1 : (evN N a.2 vs t).length = 1 := evG_len ht
  have h8 := ha.n8
  unfold s_impl_eval
  rw [show mkc 0 (t.length : Int) = some () by unfold mkc; rw [if_pos ⟨by omega, by omega, by omega⟩], Option.bind_some]
  rw [iter_br (R := Int) (stF N a.2 vs t) (t := stF N a.2 vs t t.length) t.length (by omega) (by
      unfold stF
      rw [Nat.sub_zero, List.drop_length, w64_id (by omega) (by omega)]
      exact Prod.ext rfl (by show (t.length : Int) - 1 = _; omega)) (fun j hj => by
    obtain ⟨x, S, e1, e2, hS, hSx, h⟩ := stF_step ha ht hl hx hv hj
    rw [e2]
    simp only [show decide (0 ≤ (t.length : Int) - 1 - (j : Int)) = true by simp; omega, cond_true, e1, Option.bind_some, show w64 ((t.length : Int) - 1 - (j : Int) - 1) = (t.length : Int) - 1 - (j : Int) - 1 from w64_id (by omega) (by omega)]
    rcases h with ⟨h0, hxl, e3⟩ | ⟨h0, h1, hK, e3⟩
    · rw [decide_eq_true h0, cond_true, e3]
      obtain ⟨y, rfl⟩ : ∃ y : Nat, x = (y : Int) := ⟨x.toNat, by omega⟩
      rw [Int.toNat_natCast] at hxl ⊢
      rw [idx_NL hxl, Option.bind_some, app_ok (by simp; omega), Option.bind_some]
    · obtain ⟨op, hop, ew, ex, ho, ei⟩ := op_sym ha h0 h1
      have hK3 := ho.k3
      rw [decide_eq_false h0, cond_false, e3, ew]
      simp only [ei, Option.bind_some, NL_len, List.length_reverse]
      have hb : ∀ m, m ≤ arO a.2 x → ix N 0 (S.take m) < N ^ m := fun m hm => ix0_lt (fun y hy => hSx y (List.mem_of_mem_take hy)) (by rw [List.length_take]; omega)
      have pw : ∀ m, m ≤ arO a.2 x → N ^ m ≤ 512 := fun m hm => pow_small h8 (by omega)
      rw [forC0_fn (R := Int) (F := fun m => ((ix N 0 (S.take m) : Nat) : Int)) (n := arO a.2 x) (s := 0) rfl (by omega) rfl (fun m hm => by
        have b1 := hb m (by omega)
        have b2 := pw m (by omega)
        have b3 : ix N 0 (S.take m) * N ≤ 512 * 8 := Nat.mul_le_mul (by omega) h8
        have b4 := hSx _ (ga_mem (T := S) (k := m) (by omega))
        rw [show w64 ((S.length : Int) - 1) = (S.length : Int) - 1 from w64_id (by omega) (by omega), w64_id (by omega) (by omega), show (S.length : Int) - 1 - (m : Int) = ((S.length - 1 - m : Nat) : Int) by omega, idx_NL (by simp; omega), Option.bind_some, ga_rev (by omega), show a.1 = (N : Int) from ha.eN, w64_mul (by omega), w64_add (by omega)]
        have e : S.take (m + 1) = S.take m ++ [ga S m] := by rw [List.take_add_one, List.getElem?_eq_getElem (by omega), ga_get (by omega)]; rfl
        rw [e, ix_append]; rfl), Option.bind_some, after_br']
      rw [show w64 ((S.length : Int) - ((arO a.2 x : Nat) : Int)) = ((S.length - arO a.2 x : Nat) : Int) from w64_sub hK (by omega), slc_rev hK, Option.bind_some, idx_NL (by rw [ho.len]; exact hb _ (Nat.le_refl _)), Option.bind_some, app_ok (by simp; omega), Option.bind_some]) (by
    have : (stF N a.2 vs t t.length).2 = -1 := by unfold stF; show (t.length : Int) - 1 - (t.length : Int) = -1; omega
    obtain ⟨S0, hS0⟩ : ∃ S0, stF N a.2 vs t t.length = (S0, -1) := ⟨_, Prod.ext rfl this⟩
    rw [hS0]; rfl), Option.bind_some, after_br']
  unfold stF
  rw [Nat.sub_self, List.drop_zero]
  show ((idx (NL (evN N a.2 vs t).reverse) ((0 : Nat) : Int)).bind _) = _
  rw [idx_NL (by simp; omega), Option.bind_some]
  have : ga (evN N a.2 vs t).reverse 0 = ga (evN N a.2 vs t) 0 := by
    have := ga_rev (S := evN N a.2 vs t) (i := 0) (by omega)
    rw [hlen1] at this; exact this
  rw [this]
end

set_option linter.unusedVariables false

theorem forI_nx1 {S R : Type} {step : Int → S → Option (Ctl S R)} {k : Nat} {i : Int} {s s' : S} (h : step i s = some (.nx s')) : forI step (k + 1) i s = forI step k (i + 1) s' := by
  conv => lhs; unfold forI
  rw [h]

theorem forI_rt1 {S R : Type} {step : Int → S → Option (Ctl S R)} {k : Nat} {i : Int} {s : S} {r : R} (h : step i s = some (.rt r)) : forI step (k + 1) i s = some (.rt r) := by
  conv => lhs; unfold forI
  rw [h]

theorem okT_0 (ops : List (Int × List Int)) (t : List Int) : okT ops 0 t = decide (t.length = 0) := by cases t <;> simp [okT]

theorem l3End_loop {N : Nat} {a : Int × List (Int × List Int)} (ha : AlgN a N) {t : List Int} (hT : t.length ≤ 1048576) : ∀ (rest pre : List Int) (n : Nat), t = pre ++ rest → 1 ≤ n → n + 4 * rest.length ≤ 10000000 →
    ∃ o, forI (S := Int) (R := Int) (fun k37 s35 =>
  (idx t k37).bind fun x41 =>
  (bif (decide (x41 < 0)) then (idx t k37).bind fun x50 =>
  (s_spec_l1In x50 (w64 (-(a.2.length : Int))) (-1)).bind fun r53 =>
  (bif (!r53) then some (.rt (-1)) else (idx t k37).bind fun x62 =>
  (idx a.2 (w64 ((-1) - x62))).bind fun x64 =>
  (bif ((w64 ((w64 (s35 - 1)) + x64.1)) == 0) then some (.rt (w64 (k37 + 1))) else some (.nx (w64 ((w64 (s35 - 1)) + x64.1))))) else (idx t k37).bind fun x68 =>
  (bif (decide (6 ≤ x68)) then some (.rt (-1)) else (bif ((w64 (s35 - 1)) == 0) then some (.rt (w64 (k37 + 1))) else some (.nx (w64 (s35 - 1))))))) rest.length (pre.length : Int) (n : Int) = some o ∧
    ((∃ s, o = .br s ∧ okT a.2 n rest = false) ∨ (∃ r, o = .rt r ∧ decide (r = (t.length : Int)) = okT a.2 n rest))
  | [], pre, n, e, hn, _ => ⟨_, rfl, .inl ⟨_, rfl, by cases n with
    | zero => omega
    | succ n => rfl⟩⟩
  | x :: rest, pre, 0, e, hn, _ => by omega
  | x :: rest, pre, n + 1, e, hn, hb => by
    have hl4 := ha.l4
    rw [List.length_cons] at hb
    have hlen : pre.length + (rest.length + 1) = t.length := by rw [e]; simp
    have ex : idx t (pre.length : Int) = some x := by rw [idx_nat, e, List.getElem?_append_right (Nat.le_refl _), Nat.sub_self]; rfl
    have el : w64 (-(a.2.length : Int)) = -(a.2.length : Int) := w64_id (by omega) (by omega)
    have ih := fun m h1 h2 => l3End_loop ha hT rest (pre ++ [x]) m (by rw [e]; simp) h1 h2
    rw [show (((pre ++ [x]).length : Nat) : Int) = (pre.length : Int) + 1 by simp] at ih
    have fin : ∀ m : Nat, decide ((pre.length : Int) + 1 = (t.length : Int)) = okT a.2 0 rest := fun m => by
      rw [okT_0, decide_eq_decide]; omega
    rw [List.length_cons]
    unfold okT
    by_cases hx : 0 ≤ x
    · rw [if_pos hx]
      by_cases h6 : 6 ≤ x
      · refine ⟨_, forI_rt1 (r := -1) (by rw [ex, Option.bind_some, decide_eq_false (by omega), cond_false, Option.bind_some, decide_eq_true h6, cond_true]), .inr ⟨_, rfl, ?_⟩⟩
        rw [show decide (x < 6) = false by simp <;> omega, Bool.false_and]; simp <;> omega
      · rw [show decide (x < 6) = true by simp <;> omega, Bool.true_and]
        have ew : w64 (((n + 1 : Nat) : Int) - 1) = (n : Int) := by rw [w64_id (by omega) (by omega)]; omega
        cases n with
        | zero =>
          refine ⟨_, forI_rt1 (r := (pre.length : Int) + 1) (by rw [ex, Option.bind_some, decide_eq_false (by omega), cond_false, Option.bind_some, decide_eq_false h6, cond_false, ew, w64_id (by omega) (by omega)]; rfl), .inr ⟨_, rfl, fin 0⟩⟩
        | succ n =>
          rw [forI_nx1 (s' := ((n + 1 : Nat) : Int)) (by rw [ex, Option.bind_some, decide_eq_false (by omega), cond_false, Option.bind_some, decide_eq_false h6, cond_false, ew, show (((n + 1 : Nat) : Int) == 0) = false by simp <;> omega, cond_false])]
          exact ih (n + 1) (by omega) (by omega)
    · rw [if_neg hx]
      by_cases h1 : -(a.2.length : Int) ≤ x
      · obtain ⟨j, hj, ew, ex', ho, ei⟩ := op_sym ha hx h1
        have hK := ho.k3
        rw [decide_eq_true h1, Bool.true_and]
        have e1 : (decide (-(a.2.length : Int) ≤ x) && decide (x ≤ -1)) = true := by simp <;> omega
        have e2 : w64 (w64 (((n + 1 : Nat) : Int) - 1) + ((arO a.2 x : Nat) : Int)) = ((n + arO a.2 x : Nat) : Int) := by
          rw [show w64 (((n + 1 : Nat) : Int) - 1) = (n : Int) by rw [w64_id (by omega) (by omega)]; omega, w64_add (by omega)]
        by_cases hz : n + arO a.2 x = 0
        · refine ⟨_, forI_rt1 (r := (pre.length : Int) + 1) (by
            simp only [ex, Option.bind_some, show decide (x < 0) = true by simp <;> omega, cond_true, el, l1In_eq, e1, Bool.not_true, cond_false, ew, ei, e2, hz]
            rw [w64_id (by omega) (by omega)]; rfl), .inr ⟨_, rfl, ?_⟩⟩
          rw [hz]; exact fin 0
        · rw [forI_nx1 (s' := ((n + arO a.2 x : Nat) : Int)) (by
            simp only [ex, Option.bind_some, show decide (x < 0) = true by simp <;> omega, cond_true, el, l1In_eq, e1, Bool.not_true, cond_false, ew, ei, e2]
            rw [show (((n + arO a.2 x : Nat) : Int) == 0) = false by simp <;> omega, cond_false])]
          exact ih _ (by omega) (by omega)
      · refine ⟨_, forI_rt1 (r := -1) (by
          simp only [ex, Option.bind_some, show decide (x < 0) = true by simp <;> omega, cond_true, el, l1In_eq, decide_eq_false h1, Bool.false_and, Bool.not_false]), .inr ⟨_, rfl, ?_⟩⟩
        rw [decide_eq_false h1, Bool.false_and]; simp <;> omega

theorem l3Good_eq {N : Nat} {a : Int × List (Int × List Int)} (ha : AlgN a N) {t : List Int} (hT : t.length ≤ 1048576) : s_spec_l3Good (a.1, a.2) t = some (decide (t.length ≤ 60) && okT a.2 1 t) := by
  unfold s_spec_l3Good
  by_cases h0 : t.length = 0
  · have : t = [] := List.length_eq_zero_iff.1 h0
    subst this; rfl
  rw [show decide (0 < (t.length : Int)) = true by simp <;> omega, cond_true]
  by_cases h60 : t.length ≤ 60
  · rw [show decide ((t.length : Int) ≤ 60) = true by simp <;> omega, cond_true, decide_eq_true h60, Bool.true_and]
    unfold s_spec_l3End
    obtain ⟨o, h1, h2⟩ := l3End_loop ha hT t [] 1 rfl (by omega) (by omega)
    rw [show (([] : List Int).length : Int) = 0 from rfl, show ((1 : Nat) : Int) = 1 from rfl] at h1
    unfold forC
    rw [show decide (-9223372036854775808 ≤ (0 : Int)) = true by decide, show decide ((t.length : Int) ≤ 9223372036854775807) = true by simp <;> omega, Bool.and_true, cond_true, show ((t.length : Int) - 0).toNat = t.length by omega, h1]
    rcases h2 with ⟨s, rfl, h2⟩ | ⟨r, rfl, h2⟩
    · rw [h2]
      show some ((-1 : Int) == (t.length : Int)) = _
      congr 1
    · rw [← h2]
      show some (r == (t.length : Int)) = _
      congr 1
  · rw [show decide ((t.length : Int) ≤ 60) = false by simp <;> omega, cond_false, decide_eq_false h60, Bool.false_and]

theorem endOf_loop {N : Nat} {a : Int × List (Int × List Int)} (ha : AlgN a N) {t : List Int} (hT : t.length ≤ 1048576) : ∀ (rest pre : List Int) (n fu : Nat), t = pre ++ rest → rest.length < fu → n + 4 * rest.length ≤ 10000000 →
    ∃ o, iter (S := Int × Int) (R := Int) (fun s17 =>
  (bif (decide (0 < s17.2)) then (bif (decide ((t.length : Int) ≤ s17.1)) then some (.rt (-1)) else (idx t s17.1).bind fun x25 =>
  (bif ((decide (6 ≤ x25)) || (decide (x25 < (w64 (-(a.2.length : Int)))))) then some (.rt (-1)) else (bif (decide (0 ≤ x25)) then some (.nx (w64 (s17.1 + 1), w64 (s17.2 - 1))) else (idx a.2 (w64 ((-1) - x25))).bind fun x33 =>
  some (.nx (w64 (s17.1 + 1), w64 (s17.2 + (w64 (x33.1 - 1)))))))) else some (.br (s17.1, s17.2)))) fu ((pre.length : Int), (n : Int)) = some o ∧
    ((∃ z s, o = .br (z, s) ∧ decide (z = (t.length : Int)) = okT a.2 n rest) ∨ (o = .rt (-1) ∧ okT a.2 n rest = false))
  | rest, pre, 0, fu + 1, e, hf, hb => by
    refine ⟨_, iter_out rfl (by intro s; simp), .inl ⟨_, _, rfl, ?_⟩⟩
    have : t.length = pre.length + rest.length := by rw [e]; simp
    rw [okT_0, decide_eq_decide]; omega
  | [], pre, n + 1, fu + 1, e, hf, hb => by
    refine ⟨_, iter_out (by
      simp only [show decide (0 < ((n + 1 : Nat) : Int)) = true by simp <;> omega, cond_true]
      rw [show decide ((t.length : Int) ≤ (pre.length : Int)) = true by rw [e]; simp, cond_true]) (by intro s; simp), .inr ⟨rfl, rfl⟩⟩
  | x :: rest, pre, n + 1, fu + 1, e, hf, hb => by
    have hl4 := ha.l4
    rw [List.length_cons] at hb hf
    have hlen : pre.length + (rest.length + 1) = t.length := by rw [e]; simp
    have ex : idx t (pre.length : Int) = some x := by rw [idx_nat, e, List.getElem?_append_right (Nat.le_refl _), Nat.sub_self]; rfl
    have el : w64 (-(a.2.length : Int)) = -(a.2.length : Int) := w64_id (by omega) (by omega)
    have ih := fun m h2 => endOf_loop ha hT rest (pre ++ [x]) m fu (by rw [e]; simp) (by omega) h2
    rw [show (((pre ++ [x]).length : Nat) : Int) = (pre.length : Int) + 1 by simp] at ih
    have g1 : decide (0 < ((n + 1 : Nat) : Int)) = true := by simp <;> omega
    have g2 : decide ((t.length : Int) ≤ (pre.length : Int)) = false := by simp <;> omega
    have g3 : w64 ((pre.length : Int) + 1) = (pre.length : Int) + 1 := w64_id (by omega) (by omega)
    unfold okT
    by_cases hx : 0 ≤ x
    · rw [if_pos hx]
      by_cases h6 : 6 ≤ x
      · refine ⟨_, iter_out (by
          simp only [g1, cond_true, g2, cond_false, ex, Option.bind_some, decide_eq_true h6, Bool.true_or]) (by intro s; simp), .inr ⟨rfl, ?_⟩⟩
        rw [show decide (x < 6) = false by simp <;> omega, Bool.false_and]
      · rw [show decide (x < 6) = true by simp <;> omega, Bool.true_and]
        rw [iter_nx (s' := ((pre.length : Int) + 1, (n : Int))) (by
          simp only [g1, cond_true, g2, cond_false, ex, Option.bind_some, decide_eq_false h6, Bool.false_or, el, show decide (x < -(a.2.length : Int)) = false by simp <;> omega, decide_eq_true hx, g3]
          rw [w64_id (by omega) (by omega)]
          congr 3; omega)]
        exact ih n (by omega)
    · rw [if_neg hx]
      by_cases h1 : -(a.2.length : Int) ≤ x
      · obtain ⟨j, hj, ew, ex', ho, ei⟩ := op_sym ha hx h1
        have hK := ho.k3
        rw [decide_eq_true h1, Bool.true_and]
        rw [iter_nx (s' := ((pre.length : Int) + 1, ((n + arO a.2 x : Nat) : Int))) (by
          simp only [g1, cond_true, g2, cond_false, ex, Option.bind_some, show decide (6 ≤ x) = false by simp <;> omega, Bool.false_or, el, show decide (x < -(a.2.length : Int)) = false by simp <;> omega, decide_eq_false hx, g3, ew, ei]
          rw [show w64 (((arO a.2 x : Nat) : Int) - 1) = ((arO a.2 x : Nat) : Int) - 1 from w64_id (by omega) (by omega), w64_id (by omega) (by omega)]
          congr 3; omega)]
        exact ih _ (by omega)
      · refine ⟨_, iter_out (by
          simp only [g1, cond_true, g2, cond_false, ex, Option.bind_some, el, show decide (x < -(a.2.length : Int)) = true by simp <;> omega, Bool.or_true]) (by intro s; simp), .inr ⟨rfl, ?_⟩⟩
        rw [decide_eq_false h1, Bool.false_and]

theorem isTerm_eq {N : Nat} {a : Int × List (Int × List Int)} (ha : AlgN a N) {t : List Int} (hT : t.length ≤ 1048576) : s_impl_isTerm (a.1, a.2) t = some (decide (t.length ≤ 60) && okT a.2 1 t) := by
  unfold s_impl_isTerm
  by_cases h60 : t.length ≤ 60
  · rw [show decide ((t.length : Int) ≤ 60) = true by simp <;> omega, cond_true, decide_eq_true h60, Bool.true_and]
    unfold s_impl_endOf
    obtain ⟨o, h1, h2⟩ := endOf_loop ha hT t [] 1 FU rfl (by unfold FU; omega) (by omega)
    rw [show (([] : List Int).length : Int) = 0 from rfl, show ((1 : Nat) : Int) = 1 from rfl] at h1
    rw [h1]
    rcases h2 with ⟨z, s, rfl, h2⟩ | ⟨rfl, h2⟩
    · rw [← h2]; rfl
    · rw [h2]
      show some ((-1 : Int) == (t.length : Int)) = _
      congr 1
  · rw [show decide ((t.length : Int) ≤ 60) = false by simp <;> omega, cond_false, decide_eq_false h60, Bool.false_and]

theorem hasValues_eq (t : List Int) (n : Int) : s_impl_hasValues t n = some (t.all fun x => decide (x < n)) := by
  unfold s_impl_hasValues
  rw [forR_chk (fun x => decide (x < n)) false () 0 t (fun i x hx => by
    by_cases h : x < n
    · rw [decide_eq_true h, decide_eq_false (by omega)]; rfl
    · rw [decide_eq_false h, decide_eq_true (by omega)]; rfl)]
  cases t.all _ <;> rfl

theorem l3Fits_eq (t : List Int) (n : Int) (hT : t.length ≤ 1048576) : s_spec_l3Fits t n = some (t.all fun x => decide (x < n)) := by
  unfold s_spec_l3Fits
  rw [forC0_chk (R := Bool) (p := fun j => decide ((t[j]?.getD 0) < n)) (r := false) (n := t.length) rfl (by omega) (fun j hj => by
    rw [idx_nat, List.getElem?_eq_getElem hj, Option.bind_some, Option.getD_some]
    by_cases h : t[j] < n
    · rw [decide_eq_true h, decide_eq_false (by omega)]; rfl
    · rw [decide_eq_false h, decide_eq_true (by omega)]; rfl), all_range t (fun x => decide (x < n)) 0]
  cases t.all _ <;> rfl

def tmB (ops : List (Int × List Int)) (k : Int) (t : List Int) : Bool := (decide (t.length ≤ 60) && okT ops 1 t) && t.all fun x => decide (x < k)

theorem l11Term_eq {N : Nat} {a : Int × List (Int × List Int)} (ha : AlgN a N) {t : List Int} (hT : t.length ≤ 1048576) (k : Int) : s_spec_l11Term (a.1, a.2) k t = some (tmB a.2 k t) := by
  unfold s_spec_l11Term tmB
  rw [l3Good_eq ha hT, Option.bind_some]
  cases (decide (t.length ≤ 60) && okT a.2 1 t) with
  | false => rfl
  | true => rw [cond_true, l3Fits_eq _ _ hT, Option.bind_some, Bool.true_and]

def genR (N k c : Nat) : List Nat := (List.range (N ^ k)).map fun i => ga (dig N k i) c

def genL (N k : Nat) : List (List Nat) := (List.range k).map (genR N k)

def ttb (N : Nat) (ops : List (Int × List Int)) (k : Nat) (t : List Int) : List Nat := (List.range (N ^ k)).map fun i => ga (evN N ops (dig N k i) t) 0

theorem genR_tup {N k c : Nat} (hN : 1 ≤ N) : TupN N (N ^ k) (genR N k c) := by
  refine ⟨by simp [genR], fun x hx => ?_⟩
  obtain ⟨i, _, rfl⟩ := List.mem_map.1 hx
  rcases Nat.lt_or_ge c k with h | h
  · exact dig_lt (by omega) k i _ (ga_mem (by simpa using h))
  · rw [ga_ge (by simpa using h)]; omega

theorem genL_tup {N k : Nat} (hN : 1 ≤ N) : ∀ t ∈ genL N k, TupN N (N ^ k) t := fun t ht => by
  obtain ⟨c, _, rfl⟩ := List.mem_map.1 ht
  exact genR_tup hN

/-- The table of a term is generated by the projections. -/
theorem ttb_gen {N k : Nat} {a : Int × List (Int × List Int)} (ha : AlgN a N) {t : List Int} (ht : okT a.2 1 t = true) (hx : ∀ x ∈ t, x < (k : Int)) : Gen N a.2 (N ^ k) (genL N k) (ttb N a.2 k t) := by
  have hlen : (evG (fun c => genR N k c) (fun x ts => apT N (tbO a.2 x) ts (N ^ k)) a.2 t).length = 1 := evG_len ht
  have hall := evG_all (P := fun u => Gen N a.2 (N ^ k) (genL N k) u) (var := fun c => genR N k c) (app := fun x ts => apT N (tbO a.2 x) ts (N ^ k)) ht (fun x hx' h0 => .base (List.mem_map.2 ⟨x.toNat, by have := hx x hx'; rw [List.mem_range]; omega, rfl⟩)) (fun x hx' h0 args hl hargs => by
    obtain ⟨j, hj, _, _, ho, _⟩ := op_sym ha h0 ((okT_sym ht x hx').2 h0)
    exact .app (List.getElem_mem hj) ho hl hargs)
  obtain ⟨u, hu⟩ : ∃ u, evG (fun c => genR N k c) (fun x ts => apT N (tbO a.2 x) ts (N ^ k)) a.2 t = [u] := List.length_eq_one_iff.1 hlen
  rw [hu] at hall
  have hg := hall u (by simp)
  have hul : u.length = N ^ k := (hg.tup (genL_tup ha.n1)).1
  have e : ttb N a.2 k t = u := by
    unfold ttb
    conv => rhs; rw [← map_ga u, hul]
    refine List.map_congr_left fun i hi => ?_
    rw [List.mem_range] at hi
    have := evG_map (f := fun row => ga row i) (var := fun c => genR N k c) (app := fun x ts => apT N (tbO a.2 x) ts (N ^ k)) (var' := fun c => ga (dig N k i) c) (app' := fun x args => ga (tbO a.2 x) (ix N 0 args)) ht (fun x _ _ => by
      show ga (genR N k x.toNat) i = _
      unfold genR; rw [ga_map _ hi]) (fun x _ _ args _ => by
      show ga (apT N (tbO a.2 x) args (N ^ k)) i = _
      unfold apT; rw [ga_map _ hi])
    unfold evN
    rw [← this, hu]; rfl
  rw [e]; exact hg

theorem dig_bd {N k i : Nat} (hN : 1 ≤ N) : ∀ v ∈ dig N k i, v < N := dig_lt hN k i
section
variable {N k : Nat} {a : Int × List (Int × List Int)} {t : List Int}

theorem tm_parts (h : tmB a.2 (k : Int) t = true) : t.length ≤ 60 ∧ okT a.2 1 t = true ∧ ∀ x ∈ t, x < (k : Int) := by
  unfold tmB at h
  rw [Bool.and_eq_true, Bool.and_eq_true, decide_eq_true_eq, List.all_eq_true] at h
  exact ⟨h.1.1, h.1.2, fun x hx => by simpa using h.2 x hx⟩

theorem pow64 {N k : Nat} (h8 : N ≤ 8) (hk : k ≤ 3) : N ^ k ≤ 512 := pow_small h8 hk

theorem termTable_eq (ha : AlgN a N) (hk : k ≤ 3) (h : tmB a.2 (k : Int) t = true) : s_impl_termTable (a.1, a.2) t (k : Int) = some (NL (ttb N a.2 k t)) := by
  obtain ⟨h60, hok, hx⟩ := tm_parts h
  have h1 := ha.n1
  have hp := pow64 ha.n8 hk
  have epw : s_impl_power a.1 (k : Int) = some ((N ^ k : Nat) : Int) := power_eq ha.eN rfl h1 (by omega) (by omega)
  unfold s_impl_termTable
  rw [iter_br (R := List Int) (S := List Int × Int) (s := ([], 0)) (fun n => (NL ((List.range n).map fun i => ga (evN N a.2 (dig N k i) t) 0), (n : Int))) (t := (NL (ttb N a.2 k t), ((N ^ k : Nat) : Int))) (N ^ k) (by omega) rfl (fun j hj => by
    simp only [epw, Option.bind_some, dec_lt, decide_eq_true hj, cond_true]
    rw [show a.1 = (N : Int) from ha.eN, argsN (by omega) h1 (by omega), Option.bind_some]
    have ev := eval_eq (t := t) (vs := dig N k j) ha hok h60 (fun x hx' h0 => by have := hx x hx'; rw [dig_len]; omega) (dig_bd h1)
    rw [ha.eN] at ev
    rw [ev, Option.bind_some, app_ok (by simp <;> omega), Option.bind_some, w64_add1 (by omega), List.range_succ, List.map_append, NL_app]; rfl) (by
    simp only [epw, Option.bind_some, dec_lt, show decide (N ^ k < N ^ k) = false by simp, cond_false]; rfl), Option.bind_some, after_br']

theorem l11Of_eq (ha : AlgN a N) (hk : k ≤ 3) (h : tmB a.2 (k : Int) t = true) : s_spec_l11Of (a.1, a.2) (k : Int) t = some (NL (ttb N a.2 k t)) := by
  obtain ⟨h60, hok, hx⟩ := tm_parts h
  have h1 := ha.n1
  have hp := pow64 ha.n8 hk
  have epw : s_spec_l2Pow a.1 (k : Int) = some ((N ^ k : Nat) : Int) := l2Pow_eq ha.eN rfl h1 (by omega) (by omega)
  unfold s_spec_l11Of
  rw [iter_br (R := List Int) (S := List Int × Int) (s := ([], 0)) (fun n => (NL ((List.range n).map fun i => ga (evN N a.2 (dig N k i) t) 0), (n : Int))) (t := (NL (ttb N a.2 k t), ((N ^ k : Nat) : Int))) (N ^ k) (by omega) rfl (fun j hj => by
    simp only [epw, Option.bind_some, dec_lt, decide_eq_true hj, cond_true]
    rw [show a.1 = (N : Int) from ha.eN, l2ArgsN (by omega) h1 (by omega), Option.bind_some]
    have ev := l3Value_eq (t := t) (vs := dig N k j) ha hok h60 (fun x hx' h0 => by have := hx x hx'; rw [dig_len]; omega) (dig_bd h1)
    rw [ha.eN] at ev
    rw [ev, Option.bind_some, app_ok (by simp <;> omega), Option.bind_some, w64_add1 (by omega), List.range_succ, List.map_append, NL_app]; rfl) (by
    simp only [epw, Option.bind_some, dec_lt, show decide (N ^ k < N ^ k) = false by simp, cond_false]; rfl), Option.bind_some, after_br']
end

set_option linter.unusedVariables false

theorem genL_len (N k : Nat) : (genL N k).length = k := by simp [genL]

theorem l11Gens_eq {N k : Nat} {a : Int × List (Int × List Int)} (ha : AlgN a N) (hk : k ≤ 3) : s_spec_l11Gens (a.1, a.2) (k : Int) = some (NLL (genL N k)) := by
  have h1 := ha.n1
  have hp := pow64 ha.n8 hk
  have epw : s_spec_l2Pow a.1 (k : Int) = some ((N ^ k : Nat) : Int) := l2Pow_eq ha.eN rfl h1 (by omega) (by omega)
  unfold s_spec_l11Gens
  rw [forC0_app (R := List (List Int)) (v := fun c => NL (genR N k c)) (n := k) rfl (by omega) (fun c s hc hs => by
    rw [iter_br (R := List (List Int)) (S := List Int × Int) (s := ([], 0)) (fun n => (NL ((List.range n).map fun i => ga (dig N k i) c), (n : Int))) (t := (NL (genR N k c), ((N ^ k : Nat) : Int))) (N ^ k) (by omega) rfl (fun j hj => by
      simp only [epw, Option.bind_some, dec_lt, decide_eq_true hj, cond_true]
      rw [show a.1 = (N : Int) from ha.eN, l2ArgsN (by omega) h1 (by omega), Option.bind_some, idx_NL (by simpa using hc), Option.bind_some, app_ok (by simp; omega), Option.bind_some, w64_add1 (by omega), List.range_succ, List.map_append, NL_app]; rfl) (by
      simp only [epw, Option.bind_some, dec_lt, show decide (N ^ k < N ^ k) = false by simp, cond_false]; rfl), Option.bind_some, after_br'])]
  show some ((List.range k).map _) = _
  unfold genL NLL
  rw [List.map_map]; rfl

theorem l11Rank_eq {N k : Nat} {a : Int × List (Int × List Int)} (ha : AlgN a N) (hg : s_spec_l2Good (a.1, a.2) = some true) (hk : k ≤ 3) : s_spec_l11Rank (a.1, a.2) (k : Int) = some (decide (N ^ k ≤ 64)) := by
  have hp := pow64 ha.n8 hk
  have epw : s_spec_l2Pow a.1 (k : Int) = some ((N ^ k : Nat) : Int) := l2Pow_eq ha.eN rfl ha.n1 (by omega) (by omega)
  unfold s_spec_l11Rank
  rw [hg, Option.bind_some, cond_true, l1In_eq, Option.bind_some, show (decide ((0 : Int) ≤ (k : Int)) && decide ((k : Int) ≤ 3)) = true by simp <;> omega, cond_true, epw, Option.bind_some]
  congr 1
  rw [decide_eq_decide]; omega

/-- The index after the rows are put in order. -/
theorem reindex {R : Type} {A A' : List (List Nat)} {M : MI} (hM : KIx M A) (hmem : ∀ t, t ∈ A ↔ t ∈ A') (nd : A'.Nodup) (hs : ∀ t ∈ A', (∀ x ∈ t, x < 65536) ∧ t.length ≤ 1000000000) (hl : A'.length ≤ 300) :
    ∃ M', forC (S := MI) (R := R) (fun k199 s197 =>
  (idx (NLL A') k199).bind fun x205 =>
  (s_impl_keyOf x205).bind fun r211 =>
  some (.nx (mput s197 r211 k199))) 0 ((NLL A').length : Int) M = some (.br M') ∧ KIx M' A' := by
  have := forC0_hoare (S := MI) (R := R) (step := fun k199 s197 =>
  (idx (NLL A') k199).bind fun x205 =>
  (s_impl_keyOf x205).bind fun r211 =>
  some (.nx (mput s197 r211 k199))) (n := A'.length) (hi := ((NLL A').length : Int)) (s := M)
    (fun j M => ∀ t : List Nat, (∀ x ∈ t, x < 65536) → mget M (kkey t) = if t ∈ A' then (if A'.idxOf t < j then some ((A'.idxOf t : Nat) : Int) else some ((A.idxOf t : Nat) : Int)) else none)
    (fun _ => False) (fun _ => False) (by simp) (by omega) (fun t ht => by
      rw [hM t ht]
      by_cases h : t ∈ A
      · rw [if_pos h, if_pos ((hmem t).1 h), if_neg (by omega)]
      · rw [if_neg h, if_neg (fun h' => h ((hmem t).2 h'))]) (by
      intro j M hj hI
      left
      have hjm := List.getElem_mem hj
      obtain ⟨b1, b2⟩ := hs _ hjm
      rw [gl_NLL hj, Option.bind_some, keyOf_eq b2, Option.bind_some]
      refine ⟨_, rfl, fun t ht => ?_⟩
      rw [mget_put]
      by_cases e : t = A'[j]
      · subst e
        rw [if_pos rfl, if_pos hjm, nd.idxOf_getElem, if_pos (by omega)]
      · rw [if_neg (fun h' => e ((kkey_inj ht b1).1 h')), hI t ht]
        by_cases h : t ∈ A'
        · rw [if_pos h, if_pos h]
          have hne : A'.idxOf t ≠ j := fun e' => e (by
            have := List.getElem_idxOf (List.idxOf_lt_length_of_mem h)
            rw [← this]; congr 1)
          by_cases h2 : A'.idxOf t < j
          · rw [if_pos h2, if_pos (by omega)]
          · rw [if_neg h2, if_neg (by omega)]
        · rw [if_neg h, if_neg h])
  rcases this with ⟨M', e, h | h⟩ | ⟨_, _, h⟩
  · refine ⟨M', e, fun t ht => ?_⟩
    rw [h t ht]
    by_cases hm : t ∈ A'
    · rw [if_pos hm, if_pos hm, if_pos (List.idxOf_lt_length_of_mem hm)]
    · rw [if_neg hm, if_neg hm]
  · exact h.elim
  · exact h.elim

/-- The spec side's word on what both sides find. -/
structure FrI (N k : Nat) (ops : List (Int × List Int)) (A : List (List Nat)) (M : MI) : Prop where
  srt : Sorted A
  key : KIx M A
  mem : ∀ t, t ∈ A ↔ Gen N ops (N ^ k) (genL N k) t
  len : A.length ≤ 300

theorem freeOf_gens {R : Type} {N k : Nat} {a : Int × List (Int × List Int)} (ha : AlgN a N) (hk : k ≤ 3) : forC (S := (List (List Int))) (R := R) (fun k107 s105 =>
  (mks ((N ^ k : Nat) : Int) (0 : Int)).bind fun y116 =>
  (forC (S := (List Int)) (R := R) (fun k137 s135 =>
  (s_impl_argsAt k137 (k : Int) a.1).bind fun r144 =>
  (idx r144 k107).bind fun x146 =>
  (idx s135 k137).bind fun x148 =>
  some (.nx (List.set s135 (Int.toNat k137) x146))) 0 (y116.length : Int) y116).bind fun o139 => after o139 (fun r_ => some (.rt r_)) (fun s135 =>
  (app s105 ([s135])).bind fun y154 =>
  some (.nx y154))) 0 (k : Int) [] = some (.br (NLL (genL N k))) := by
  have h1 := ha.n1
  have hp := pow64 ha.n8 hk
  rw [forC0_app (R := R) (v := fun c => NL (genR N k c)) (n := k) rfl (by omega) (fun c s hc hs => by
    rw [mks_ok rfl (by omega), Option.bind_some]
    rw [forC0_set (R := R) (v := fun i => ((ga (dig N k i) c : Nat) : Int)) (n := N ^ k) (z := (0 : Int)) (by simp) (by omega) rfl (fun i s hi hs => by
      rw [show a.1 = (N : Int) from ha.eN, argsN (by omega) h1 (by omega), Option.bind_some, idx_NL (by simpa using hc), Option.bind_some, idx_nat, List.getElem?_eq_getElem (by omega), Option.bind_some, Int.toNat_natCast]), Option.bind_some, after_br']
    congr 2
    unfold genR NL
    rw [List.map_map]; rfl)]
  congr 2
  unfold genL NLL
  rw [List.map_map]; rfl

theorem free_cases (a : Int × List (Int × List Int)) (k : Int) (ha : BA a) :
    (∃ (N kk : Nat) (A : List (List Nat)) (M : MI), AlgN a N ∧ k = (kk : Int) ∧ kk ≤ 3 ∧ N ^ kk ≤ 64 ∧ s_spec_l11Free (a.1, a.2) k = some (NLL A, true) ∧ s_impl_freeOf (a.1, a.2) k = some (some (((a.1, a.2), ((N ^ kk : Nat) : Int), NLL A, M), k, NLL (genL N kk)), true) ∧ FrI N kk a.2 A M ∧
      s_spec_l11Rank (a.1, a.2) k = some true ∧ s_spec_l8Close (a.1, a.2) ((N ^ kk : Nat) : Int) (NLL (genL N kk)) = some (NLL A, true) ∧ s_spec_l2Good (a.1, a.2) = some true) ∨
    (s_spec_l11Free (a.1, a.2) k = some ([], false) ∧ s_impl_freeOf (a.1, a.2) k = some (none, false) ∧ (s_spec_l11Rank (a.1, a.2) k = some false ∨ ∃ (N kk : Nat) (A : List (List Nat)), AlgN a N ∧ k = (kk : Int) ∧ kk ≤ 3 ∧ N ^ kk ≤ 64 ∧ s_spec_l11Rank (a.1, a.2) k = some true ∧ s_spec_l8Close (a.1, a.2) ((N ^ kk : Nat) : Int) (NLL (genL N kk)) = some (NLL A, false) ∧ s_spec_l2Good (a.1, a.2) = some true)) := by
  rcases alg_cases a ha with ⟨N, hN, e1, e2⟩ | ⟨_, e1, e2⟩
  · by_cases hk : 0 ≤ k ∧ k ≤ 3
    · obtain ⟨kk, rfl⟩ : ∃ kk : Nat, k = (kk : Int) := ⟨k.toNat, by omega⟩
      have hk3 : kk ≤ 3 := by omega
      have hp := pow64 hN.n8 hk3
      have h1 := hN.n1
      have epw : s_spec_l2Pow a.1 (kk : Int) = some ((N ^ kk : Nat) : Int) := l2Pow_eq hN.eN rfl h1 (by omega) (by omega)
      have epw' : s_impl_power a.1 (kk : Int) = some ((N ^ kk : Nat) : Int) := power_eq hN.eN rfl h1 (by omega) (by omega)
      have er := l11Rank_eq hN e1 hk3
      unfold s_spec_l11Free s_impl_freeOf
      rw [er]
      simp only [e2, Option.bind_some, Bool.not_true, cond_false, epw, epw', show decide ((kk : Int) < 0) = false by simp <;> omega, show decide (3 < (kk : Int)) = false by simp <;> omega]
      by_cases h64 : N ^ kk ≤ 64
      · rw [show decide (64 < ((N ^ kk : Nat) : Int)) = false from decide_eq_false (by omega), decide_eq_true h64]
        simp only [Option.bind_some, Bool.not_true, cond_false, l11Gens_eq hN hk3]
        rw [freeOf_gens hN hk3, Option.bind_some, after_br']
        have hB := genL_tup (N := N) (k := kk) h1
        rcases span_both hN hB (by rw [genL_len]; omega) (by omega) with ⟨A', A, M, s1, s2, s3, hI, hs, hm, hg, hle, hle2⟩ | ⟨A', s1, s2⟩
        · left
          have nd' : A'.Nodup := sorted_nodup lexLt_irrefl hs
          have h8 := hN.n8
          obtain ⟨M', r1, r2⟩ := reindex (R := (Option (((Int × (List (Int × (List Int)))) × Int × (List (List Int)) × (List (ByteArray × Int))) × Int × (List (List Int)))) × Bool) hI.key hm nd' (fun t ht => by
            have := ((hg t).1 ht).tup hB
            exact ⟨fun x hx => by have := this.2 x hx; omega, by rw [this.1]; omega⟩) hle
          refine ⟨N, kk, A', M', hN, rfl, hk3, h64, ?_, ?_, ⟨hs, r2, hg, hle⟩, (by trivial), s1, e1⟩
          · rw [s1]; rfl
          · rw [s2]
            simp only [Option.bind_some, Bool.not_true, cond_false, s3]
            rw [r1]; rfl
        · right
          refine ⟨?_, ?_, .inr ⟨N, kk, A', hN, rfl, hk3, h64, (by trivial), s1, e1⟩⟩
          · rw [s1]; rfl
          · rw [s2]; rfl
      · right
        rw [show decide (64 < ((N ^ kk : Nat) : Int)) = true from decide_eq_true (by omega), decide_eq_false h64]
        exact ⟨rfl, rfl, .inl rfl⟩
    · right
      have er : s_spec_l11Rank (a.1, a.2) k = some false := by
        unfold s_spec_l11Rank
        rw [e1, Option.bind_some, cond_true, l1In_eq, Option.bind_some, ← Bool.decide_and, decide_eq_false hk, cond_false]
      refine ⟨?_, ?_, .inl er⟩
      · unfold s_spec_l11Free
        rw [er]; rfl
      · unfold s_impl_freeOf
        rw [e2, Option.bind_some, Bool.not_true, cond_false]
        by_cases h0 : k < 0
        · rw [decide_eq_true h0]; rfl
        · rw [decide_eq_false h0, cond_false, show decide (3 < k) = true by simp; omega]; rfl
  · right
    have er : s_spec_l11Rank (a.1, a.2) k = some false := by
      unfold s_spec_l11Rank
      rw [e1]; rfl
    refine ⟨?_, ?_, .inl er⟩
    · unfold s_spec_l11Free
      rw [er]; rfl
    · unfold s_impl_freeOf
      rw [e2]; rfl

theorem FrI.tup {N k : Nat} {a : Int × List (Int × List Int)} {A : List (List Nat)} {M : MI} (ha : AlgN a N) (h : FrI N k a.2 A M) : ∀ t ∈ A, TupN N (N ^ k) t := fun t ht => ((h.mem t).1 ht).tup (genL_tup ha.n1)

theorem FrI.small {N k : Nat} {a : Int × List (Int × List Int)} {A : List (List Nat)} {M : MI} (ha : AlgN a N) (h : FrI N k a.2 A M) {t : List Nat} (ht : t ∈ A) : ∀ x ∈ t, x < 65536 := fun x hx => by
  have := (h.tup ha t ht).2 x hx
  have := ha.n8
  omega

theorem key_mem {A : List (List Nat)} {M : MI} (hM : KIx M A) {t : List Nat} (hs : ∀ x ∈ t, x < 65536) (hl : t.length ≤ 1000000000) (h : t ∈ A) : ∃ q, s_impl_keyOf (NL t) = some q ∧ (mget M q).getD 0 = ((A.idxOf t : Nat) : Int) := by
  refine ⟨_, keyOf_eq hl, ?_⟩
  rw [hM t hs, if_pos h]; rfl

theorem element_eq {N k : Nat} {a : Int × List (Int × List Int)} {A : List (List Nat)} {M : MI} (ha : AlgN a N) (hk : k ≤ 3) (hF : FrI N k a.2 A M) {t : List Int} (hT : t.length ≤ 1048576) (G : List (List Int)) (S : Int) :
    s_impl_free__element t ((k : Int), G) (a.1, a.2, S, NLL A, M) = some (if tmB a.2 (k : Int) t = true then (((A.idxOf (ttb N a.2 k t) : Nat) : Int), true) else (0, false)) := by
  unfold s_impl_free__element
  simp only [isTerm_eq ha hT, Option.bind_some, hasValues_eq]
  by_cases h : tmB a.2 (k : Int) t = true
  · have h' := h
    unfold tmB at h'
    rw [Bool.and_eq_true] at h'
    obtain ⟨h60, hok, hx⟩ := tm_parts h
    rw [h'.1, h'.2, if_pos h]
    simp only [Bool.not_true, cond_false, Option.bind_some, termTable_eq ha hk h]
    have hm : ttb N a.2 k t ∈ A := (hF.mem _).2 (ttb_gen ha hok hx)
    have htl := (hF.tup ha _ hm).1
    have hp := pow64 ha.n8 hk
    obtain ⟨q, e1, e2⟩ := key_mem hF.key (hF.small ha hm) (by rw [htl]; omega) hm
    rw [e1, Option.bind_some, e2]
  · rw [if_neg h]
    unfold tmB at h
    rw [Bool.and_eq_true] at h
    cases h1 : (decide (t.length ≤ 60) && okT a.2 1 t) with
    | false => rfl
    | true =>
      rw [h1] at h
      have : (t.all fun x => decide (x < (k : Int))) = false := by
        cases hc : (t.all fun x => decide (x < (k : Int))) with
        | false => rfl
        | true => exact absurd ⟨rfl, hc⟩ h
      rw [this]; rfl

theorem AreEqualTerms_same (a : Int × List (Int × List Int)) (k : Int) (s t : List Int) (ha : BA a) (hS : B1 s) (hT : B1 t) : ∃ z, s_spec_AreEqualTerms (a.1, a.2) k s t = some z ∧ s_impl_AreEqualTerms (a.1, a.2) k s t = some z := by
  have hS' : s.length ≤ 1048576 := hS
  have hT' : t.length ≤ 1048576 := hT
  unfold s_spec_AreEqualTerms s_impl_AreEqualTerms
  rcases free_cases a k ha with ⟨N, kk, A, M, hN, rfl, hk3, h64, f1, f2, hF, _, _, _⟩ | ⟨f1, f2, _⟩
  · rw [f1, f2]
    simp only [Option.bind_some, Bool.not_true, cond_false, l11Term_eq hN hT', l11Term_eq hN hS', element_eq hN hk3 hF hT', element_eq hN hk3 hF hS']
    cases h : tmB a.2 (kk : Int) s with
    | false => exact ⟨_, rfl, by cases tmB a.2 (kk : Int) t <;> rfl⟩
    | true =>
      cases h2 : tmB a.2 (kk : Int) t with
      | false => exact ⟨_, rfl, rfl⟩
      | true =>
        obtain ⟨h60, hok, hx⟩ := tm_parts h
        obtain ⟨h60', hok', hx'⟩ := tm_parts h2
        have hm : ttb N a.2 kk s ∈ A := (hF.mem _).2 (ttb_gen hN hok hx)
        have hm' : ttb N a.2 kk t ∈ A := (hF.mem _).2 (ttb_gen hN hok' hx')
        have hl := (hF.tup hN _ hm).1
        simp only [Bool.not_true, cond_false, Option.bind_some, l11Of_eq hN hk3 h, l11Of_eq hN hk3 h2]
        rw [l1Same_NL (by omega), Option.bind_some]
        refine ⟨_, rfl, ?_⟩
        simp only [if_true, Bool.not_true, Bool.or_false, cond_false]
        congr 2
        rw [beq_nat, Bool.eq_iff_iff, beq_iff_eq, beq_iff_eq]
        constructor
        · intro e
          have e1 := List.getElem_idxOf (List.idxOf_lt_length_of_mem hm)
          have e2 := List.getElem_idxOf (List.idxOf_lt_length_of_mem hm')
          rw [← e1, ← e2]; congr 1
        · intro e; rw [e]
  · rw [f1, f2]; exact ⟨_, rfl, rfl⟩

theorem s_laws_FnExactAreEqualTerms_ok (a : Int × List (Int × List Int)) (k : Int) (s t : List Int) (ha : OkP OkI (OkL (OkP OkI (OkL OkI))) a) (_ : OkI k) (_ : OkL OkI s) (_ : OkL OkI t) : s_laws_FnExactAreEqualTerms a k s t = some true := by
  unfold s_laws_FnExactAreEqualTerms
  by_cases hl : 1048576 < (s.length : Int)
  · rw [decide_eq_true hl]; rfl
  rw [decide_eq_false hl, cond_false]
  have hS : B1 s := by unfold B1; omega
  by_cases hl2 : 1048576 < (t.length : Int)
  · rw [decide_eq_true hl2]; rfl
  rw [decide_eq_false hl2, cond_false]
  have hT : B1 t := by unfold B1; omega
  refine alg_head ha fun hb => ?_
  have e1 : s_laws_toAlgebra (a.1, a.2) = some a := toAlgebra_ok a hb
  have e2 : s_laws_eqAlgebra (a.1, a.2) (a.1, a.2) = some true := eqAlgebra_refl a hb
  have e3 : s_laws_toIntS t = some t := toIntS_ok t hT
  have e4 : s_laws_eqIntS t t = some true := eqIntS_refl t hT
  have e5 : s_laws_toIntS s = some s := toIntS_ok s hS
  have e6 : s_laws_eqIntS s s = some true := eqIntS_refl s hS
  obtain ⟨z, z1, z2⟩ := AreEqualTerms_same a k s t hb hS hT
  simp only [e1, e2, e3, e4, e5, e6, Option.bind_some, z1, z2, beq_self_eq_true, bne_self_eq_false, Bool.not_true, Bool.or_false, cond_false]

end Go.Proofs
