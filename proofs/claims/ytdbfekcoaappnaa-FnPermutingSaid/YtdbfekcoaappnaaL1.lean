/- Plain lemmas on what the functions compute, up to: the law gives true. No conditions. -/
import Derived.Test.YtdbfekcoaappnaaL0
set_option linter.unusedVariables false
namespace Go.Proofs
open Go.G
set_option maxRecDepth 100000

theorem vTable_eq (a b : List (List Int)) (ha : a.length ≤ 4294967296) (hx : ∀ x ∈ a, x.length ≤ 4294967296) : s_laws_vTable a b = some (a == b) := by
  unfold s_laws_vTable
  rw [bne_nat]
  by_cases h : a.length = b.length
  · rw [show (a.length == b.length) = true by simpa using h, Bool.not_true, cond_false]
    rw [forC0_chk (fun j => a.getD j [] == b.getD j []) false (s := ()) (n := a.length) rfl (by omega) (fun j hj => by
      rw [idx_getD hj, Option.bind_some, idx_getD (by omega), Option.bind_some, vInts_eq _ _ (by
        have e : a.getD j [] = a[j] := by simp [List.getD_eq_getElem?_getD, List.getElem?_eq_getElem hj]
        rw [e]; exact hx _ (List.getElem_mem hj)), Option.bind_some]
      cases (a.getD j [] == b.getD j []) <;> rfl)]
    have e : ((List.range a.length).all fun j => a.getD j [] == b.getD j []) = (a == b) := by
      rw [Bool.eq_iff_iff, List.all_eq_true, beq_iff_eq]
      constructor
      · intro H
        apply List.ext_getElem h
        intro i h1 h2
        have := H i (by simpa using h1)
        simpa [List.getD_eq_getElem?_getD, List.getElem?_eq_getElem h1, List.getElem?_eq_getElem h2] using this
      · rintro rfl j _; simp
    rw [e]
    cases (a == b) <;> rfl
  · rw [show (a.length == b.length) = false by simpa using h, Bool.not_false, cond_true]
    rw [show (a == b) = false by simp; exact fun e => h (by rw [e])]

theorem vRelation_eq (r s : Int × List (List Int)) (ha : r.2.length ≤ 4294967296) (hx : ∀ x ∈ r.2, x.length ≤ 4294967296) : s_laws_vRelation r s = some (r == s) := by
  unfold s_laws_vRelation
  rw [vTable_eq _ _ ha hx, show (r == s) = (r.1 == s.1 && r.2 == s.2) from rfl]
  cases (r.1 == s.1) <;> rfl

theorem has_eq {N : Nat} (h1 : 1 ≤ N) (h8 : N ≤ 8) (c : Nat → Nat → Bool) (t : List Nat) (ht : t.length ≤ 100) : s_impl_HasTuple (N : Int) (2, NLL (prs N c)) (NL t) = some ((prs N c).contains t, true) := by
  unfold s_impl_HasTuple
  have hl := prs_len N c
  have h64 := sq_le h8
  have hr : IsRel N (2, NLL (prs N c)) := ⟨2, prs N c, rfl, by omega, by omega, prs_rel N c, fun t ht x hx => by
    obtain ⟨u, v, hu, hv, rfl, _⟩ := prs_form ht
    simp at hx; omega⟩
  rcases (hasRelation_says (n := (N : Int)) (2, NLL (prs N c)) (by simp; omega)).cases with ⟨e, _⟩ | ⟨_, hn⟩
  · have e : s_impl_hasRelation (N : Int) ((2, NLL (prs N c)).1, (2, NLL (prs N c)).2) = some true := e
    rw [e, Option.bind_some]
    simp only [Bool.not_true, cond_false]
    rw [forR_chk (fun x => !(x == NL t)) (true, true) () 0 _ (fun i x hx => by
      obtain ⟨u, hu, rfl⟩ := List.mem_map.1 hx
      rw [sameList_eq _ _ (by have := (prs_rel N c).len u hu; simp; omega), Option.bind_some]
      cases (NL u == NL t) <;> rfl)]
    have e2 : ((NLL (prs N c)).all fun x => !(x == NL t)) = !((prs N c).contains t) := by
      unfold NLL
      rw [List.all_map, Bool.eq_iff_iff, List.all_eq_true]
      simp only [Function.comp, Bool.not_eq_true', beq_eq_false_iff_ne, ne_eq, List.contains_eq_mem, decide_eq_false_iff_not]
      constructor
      · intro H hm; exact H t hm rfl
      · intro H u hu e
        have := NL_inj e
        subst this; exact H hu
    rw [e2]
    cases (prs N c).contains t <;> rfl
  · exact absurd ⟨⟨by omega, by omega⟩, by simpa using hr⟩ hn

theorem twoOk_swap {n : Int} {p q : List Int} : twoOk n p q = twoOk n q p := by
  unfold twoOk
  cases decide (1 ≤ n ∧ n ≤ 8) <;> cases (((p.length : Int) == n) && partOk p) <;> cases (((q.length : Int) == n) && partOk q) <;> rfl

theorem prs_eq_iff {N : Nat} {c d : Nat → Nat → Bool} : prs N c = prs N d ↔ ∀ x z, x < N → z < N → c x z = d x z := by
  rw [← beq_iff_eq, prs_inj, List.all_eq_true]
  constructor
  · intro H x z hx hz
    have := H x (by simpa using hx)
    rw [List.all_eq_true] at this
    simpa using this z (by simpa using hz)
  · intro H x hx
    rw [List.all_eq_true]
    intro z hz
    simpa using H x z (by simpa using hx) (by simpa using hz)

/-- Two partitions permute when their product is their join. -/
theorem perm_join {N : Nat} {P Q : List Nat} (hP : Part N P) (hQ : Part N Q) : prs N (cc N P Q 1) = prs N (eqv (jn N P Q)) ↔ prs N (prd N (eqv P) (eqv Q)) = prs N (prd N (eqv Q) (eqv P)) := by
  have e1 : ∀ x z, cc N P Q 1 x z = prd N (eqv P) (eqv Q) x z := fun x z => by
    show prd N (eqv P) (eqv (facP P Q 1)) x z = _
    rfl
  rw [prs_eq_iff, prs_eq_iff]
  constructor
  · intro H x z hx hz
    rw [← prd_symm N P Q z x, ← e1, ← e1, H x z hx hz, H z x hz hx]
    exact eqv_symm _ _ _
  · intro H
    have hw := cc_whole hP hQ 1 (fun x z hx hz h => by
      have h : prd N (cc N P Q 1) (eqv (facP P Q 2)) x z = true := h
      have hf : facP P Q 2 = P := rfl
      rw [hf] at h
      unfold prd at h
      rw [List.any_eq_true] at h
      obtain ⟨y, hy, h⟩ := h
      rw [List.mem_range] at hy
      rw [Bool.and_eq_true, e1, H x y hx hy] at h
      rw [e1, H x z hx hz]
      obtain ⟨ha, hb⟩ := h
      unfold prd at ha ⊢
      rw [List.any_eq_true] at ha ⊢
      obtain ⟨u, hu, ha⟩ := ha
      refine ⟨u, hu, ?_⟩
      rw [Bool.and_eq_true] at ha ⊢
      refine ⟨ha.1, ?_⟩
      have h2 := ha.2
      unfold eqv at h2 hb ⊢
      rw [beq_iff_eq] at h2 hb ⊢
      exact h2.trans hb)
    intro x z hx hz
    rw [Bool.eq_iff_iff]
    exact ⟨cc_below hP hQ 1 x z hx hz, hw x z hx hz⟩

theorem factors_two {N : Nat} {P Q : List Nat} (h1 : 1 ≤ N) (h8 : N ≤ 8) (hP : Part N P) (hQ : Part N Q) : ∃ k : Nat, k ≤ 66 ∧ s_impl_factorsToJoin (NL P) (NL Q) = some (k : Int) ∧ s_spec_l16Factors (NL P) (NL Q) = some (k : Int) ∧ (k ≤ 2 ↔ prs N (cc N P Q 1) = prs N (eqv (jn N P Q))) := by
  obtain ⟨n, hn, he, hlt, e1, e2⟩ := factors_form h1 h8 hP hQ
  refine ⟨n + 1, by omega, e1, e2, ?_⟩
  constructor
  · intro h
    by_cases h0 : n = 0
    · subst h0
      rw [prs_eq_iff] at he ⊢
      intro x z hx hz
      rw [Bool.eq_iff_iff]
      exact ⟨cc_below hP hQ 1 x z hx hz, fun h => cc_ext 0 x z hz (by rw [he x z hx hz]; exact h)⟩
    · obtain rfl : n = 1 := by omega
      exact he
  · intro h
    rcases Nat.lt_or_ge 1 n with h2 | h2
    · have := hlt 1 h2
      rw [beq_eq_false_iff_ne] at this
      exact absurd h this
    · omega

theorem factors_val {n : Int} {p q : List Int} (hp : p.length ≤ 4294967296) (hq : q.length ≤ 4294967296) : ∃ k, s_impl_FactorsToJoin n p q = some (k, twoOk n p q) ∧ s_spec_FactorsToJoin n p q = some (k, twoOk n p q) ∧ (twoOk n p q = true → decide (k ≤ 2) = (permR n p q).1) := by
  cases h : twoOk n p q with
  | false =>
    unfold s_impl_FactorsToJoin s_spec_FactorsToJoin
    rw [arePartitions_eq n p q hp hq, l16Two_eq n p q hp hq, Option.bind_some, Option.bind_some, h]
    exact ⟨0, rfl, rfl, fun h => by cases h⟩
  | true =>
    obtain ⟨N, P, Q, rfl, rfl, rfl, h1, h8, hP, hQ⟩ := twoOk_elim h
    obtain ⟨k, _, e1, e2, e3⟩ := factors_two h1 h8 hP hQ
    unfold s_impl_FactorsToJoin s_spec_FactorsToJoin
    rw [arePartitions_eq _ _ _ hp hq, l16Two_eq _ _ _ hp hq, Option.bind_some, Option.bind_some, h, e1, e2]
    refine ⟨(k : Int), rfl, rfl, fun _ => ?_⟩
    unfold permR
    rw [h]
    simp only [cond_true, NL_toNat, Int.toNat_natCast]
    rw [Bool.eq_iff_iff, decide_eq_true_eq, beq_iff_eq, ← perm_join hP hQ, ← e3]
    omega

theorem s_laws_FnPermuting_ok (c : List Int) (h : OkL OkY c) : s_laws_FnPermuting c = some true := by
  unfold s_laws_FnPermuting s_laws_vBig
  rw [Option.bind_some]
  by_cases hl : (65536 : Int) < c.length
  · rw [show decide ((65536 : Int) < c.length) = true by simpa using hl]; rfl
  rw [show decide ((65536 : Int) < c.length) = false by simpa using hl, cond_false]
  have hc : Byt c := ⟨by omega, fun x hx => by
    have := h.2 x hx
    have h' : (decide (0 ≤ x) && decide (x ≤ 255)) = true := this
    simpa using h'⟩
  obtain ⟨n, p, q, e, hp, hq⟩ := drawFiner_ok hc
  have ed : s_spec_DrawFirstUnpermuted c = some ((n : Int), p, q) := by
    unfold s_spec_DrawFirstUnpermuted; rw [e]; rfl
  have hp' : p.length ≤ 4294967296 := by omega
  have hq' : q.length ≤ 4294967296 := by omega
  rw [ed, Option.bind_some]
  obtain ⟨k, k1, k2, k3⟩ := factors_val (n := (n : Int)) hp' hq'
  simp only [impl_FirstUnpermuted hp' hq', spec_FirstUnpermuted hp' hq', impl_DoPermute hp' hq', spec_DoPermute hp' hq', k1, k2, impl_ProductOfPartitions hp' hq', spec_ProductOfPartitions hp' hq', impl_ProductOfPartitions hq' hp', impl_FirstUnpermuted hq' hp', Option.bind_some, beq_self_eq_true, Bool.not_true, cond_false]
  have hB := prodR_B (n : Int) p q
  have hu := unpR_len (n : Int) p q
  rw [vInts_eq _ _ (by unfold B1 at hu; omega)]
  have hv : ∀ s, s_laws_vRelation ((prodR (n : Int) p q).1.1, (prodR (n : Int) p q).1.2) s = some ((prodR (n : Int) p q).1 == s) := fun s => vRelation_eq (prodR (n : Int) p q).1 s (Nat.le_trans hB.1 (by omega)) (fun x hx => by have := hB.2 x hx; unfold B1 at this; omega)
  simp only [hv, Option.bind_some, beq_self_eq_true, Bool.not_true, cond_false, bne_self_eq_false, Bool.false_or]
  cases ht : twoOk (n : Int) p q with
  | false =>
    have a1 : permR (n : Int) p q = (false, false) := by unfold permR; rw [ht]; rfl
    have a2 : unpR (n : Int) p q = ([], false) := by unfold unpR; rw [ht]; rfl
    have a3 : prodR (n : Int) p q = ((0, []), false) := by unfold prodR; rw [ht]; rfl
    rw [a1, a2, a3]; rfl
  | true =>
    have hk := k3 ht
    have ht2 : twoOk (n : Int) q p = true := by rw [twoOk_swap]; exact ht
    obtain ⟨N, P, Q, hn, rfl, rfl, h1, h8, hP, hQ⟩ := twoOk_elim ht
    have b1 : permR (n : Int) (NL P) (NL Q) = (prs N (prd N (eqv P) (eqv Q)) == prs N (prd N (eqv Q) (eqv P)), true) := by
      unfold permR; rw [ht, hn]; simp only [cond_true, NL_toNat, Int.toNat_natCast]
    have b3 : prodR (n : Int) (NL P) (NL Q) = ((2, NLL (prs N (prd N (eqv P) (eqv Q)))), true) := by
      unfold prodR; rw [ht, hn]; simp only [cond_true, NL_toNat, Int.toNat_natCast]
    have b4 : prodR (n : Int) (NL Q) (NL P) = ((2, NLL (prs N (prd N (eqv Q) (eqv P)))), true) := by
      unfold prodR; rw [ht2, hn]; simp only [cond_true, NL_toNat, Int.toNat_natCast]
    have b2 : unpR (n : Int) (NL P) (NL Q) = (match apart N (prd N (eqv P) (eqv Q)) (prd N (eqv Q) (eqv P)) with | none => ([], false) | some t => (NL t, true)) := by
      unfold unpR; rw [ht, hn]; simp only [cond_true, NL_toNat, Int.toNat_natCast]
      cases apart N (prd N (eqv P) (eqv Q)) (prd N (eqv Q) (eqv P)) <;> rfl
    have hr : (((2 : Int), NLL (prs N (prd N (eqv P) (eqv Q)))) == ((2 : Int), NLL (prs N (prd N (eqv Q) (eqv P))))) = (prs N (prd N (eqv P) (eqv Q)) == prs N (prd N (eqv Q) (eqv P))) := by
      show ((2 : Int) == 2 && NLL _ == NLL _) = _
      rw [NLL_beq]; rfl
    rw [b1] at hk
    have hlaw := permute_law N P Q
    rw [b1, b2, b3, b4]
    simp only [beq_self_eq_true, Bool.not_true, cond_false, hr, hk]
    rw [hn]
    cases ha : apart N (prd N (eqv P) (eqv Q)) (prd N (eqv Q) (eqv P)) with
    | none =>
      rw [ha] at hlaw
      have hlaw : true = _ := hlaw
      rw [← hlaw]; rfl
    | some t =>
      rw [ha] at hlaw
      have hlaw : false = _ := hlaw
      have htl := apart_len ha
      rw [← hlaw]
      simp only [has_eq h1 h8 _ t (by omega), Option.bind_some]
      have hin : (prs N (prd N (eqv P) (eqv Q))).contains t = true ∧ (prs N (prd N (eqv Q) (eqv P))).contains t = false := by
        unfold apart at ha
        obtain ⟨x, hx, ha⟩ := List.exists_of_findSome?_eq_some ha
        obtain ⟨z, hz, ha⟩ := List.exists_of_findSome?_eq_some ha
        rw [List.mem_range] at hx hz
        split at ha
        · rename_i hc
          cases ha
          rw [Bool.and_eq_true] at hc
          refine ⟨by simpa using (prs_mem hx hz).2 hc.1, ?_⟩
          rw [List.contains_eq_mem, decide_eq_false_iff_not, prs_mem hx hz]
          intro h; rw [h] at hc; simp at hc
        · cases ha
      rw [hin.1, hin.2]; rfl

end Go.Proofs
