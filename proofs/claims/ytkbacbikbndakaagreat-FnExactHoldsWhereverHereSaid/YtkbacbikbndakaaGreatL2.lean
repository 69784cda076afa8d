/- Plain lemmas on what the functions compute, up to: the law gives true. No conditions. -/
import Derived.Test.YtkbacbikbndakaaGreatL1
set_option linter.unusedVariables false
namespace Go.Proofs
open Go.G
set_option maxRecDepth 100000

theorem Um (a : Int × List (Int × List Int)) (hl : a.2.length ≤ 1000) : YL (a.1, a.2) = some (a.2.map (·.1)) := by
  unfold YL
  rw [YY (R := List Int) (v := fun j => (a.2[j]?.getD (0, [])).1) (n := a.2.length) rfl (by omega) (fun j s hj hs => by
    rw [ZC, List.getElem?_eq_getElem hj, Option.bind_some, Option.getD_some]), Option.bind_some, zD]
  congr 1
  refine List.ext_getElem (by simp) (fun i h1 h2 => ?_)
  rw [List.getElem_map, List.getElem_map, List.getElem_range, List.getElem?_eq_getElem (by simpa using h2), Option.getD_some]

theorem Uu (a : Int × List (Int × List Int)) (hl : a.2.length ≤ 1000) : YH (a.1, a.2) = some (a.2.map (·.1)) := by
  unfold YH
  rw [Xy (fun f => [f.1]) 0 a.2 [] (fun i pre post f el => by
    have hpl : pre.length ≤ 1000 := by
      have := congrArg List.length el
      simp at this; omega
    rw [yv (by rw [xH]; simp; omega), Option.bind_some]), Option.bind_some, zD, xH]
  rfl

theorem two_cases {N : Nat} {a b : Int × List (Int × List Int)} (hb : BA b) (hN : AlgN a N) (g1 : Za (a.1, a.2) = some true) (g2 : Zg (a.1, a.2) = some true) :
    (∃ nb, AlgN b nb ∧ a.2.map (·.1) = b.2.map (·.1) ∧ YX (a.1, a.2) (b.1, b.2) = some true ∧ Yf (a.1, a.2) (b.1, b.2) = some true) ∨
    (YX (a.1, a.2) (b.1, b.2) = some false ∧ Yf (a.1, a.2) (b.1, b.2) = some false) := by
  have hl4 := hN.l4
  unfold YX Yf
  rw [g1, g2]
  rcases vX b hb with ⟨nb, hnb, e1, e2⟩ | ⟨_, e1, e2⟩
  · have hl4' := hnb.l4
    have es : xm (a.1, a.2) (b.1, b.2) = some (a.2.map (·.1) == b.2.map (·.1)) := by
      unfold xm
      rw [Um a (by omega), Option.bind_some, Um b (by omega), Option.bind_some, Ui _ _ (by simp; omega), Option.bind_some]
    have ei : xK (a.1, a.2) (b.1, b.2) = some (a.2.map (·.1) == b.2.map (·.1)) := by
      unfold xK xo
      simp only [g2, e2, Option.bind_some, Bool.not_true, cond_false]
      rw [Uu a (by omega), Option.bind_some, Uu b (by omega), Option.bind_some, zbe _ _ (by simp; omega), Option.bind_some, Option.bind_some]; rfl
    simp only [e1, e2, Option.bind_some, cond_true, es, ei]
    by_cases h : a.2.map (·.1) = b.2.map (·.1)
    · exact .inl ⟨nb, hnb, h, by rw [h, beq_self_eq_true], by rw [h, beq_self_eq_true]⟩
    · right
      rw [show (a.2.map (·.1) == b.2.map (·.1)) = false by simpa using h]
      exact ⟨rfl, rfl⟩
  · right
    rw [e1, e2]; exact ⟨rfl, rfl⟩

set_option linter.unusedVariables false

section
variable {N nb k : Nat} {a b : Int × List (Int × List Int)} {A : List (List Nat)} {M : MI} {out : List (List Int)} {im : List Nat}
theorem MpI.mk' (ha : AlgN a N) (hb : AlgN b nb) (hk : k ≤ 3) (h64 : N ^ k ≤ 64) (hF : FrI N k a.2 A M) (hty : a.2.map (·.1) = b.2.map (·.1)) (ht : TB N a.2 (N ^ k) (genL N k) A out) (hne : wT out = true) (hil : im.length = k) (hib : ∀ v ∈ im, v < nb) : MpI N nb k a b A M out im := by
  refine ⟨ha, hb, hk, h64, hF, hty, ht.len, fun t h => ?_, hil, hib⟩
  obtain ⟨i, hi, rfl⟩ := List.mem_iff_getElem.1 h
  have hs := ht.sound i (by rw [← ht.len]; exact hi) (vT.1 hne i hi)
  rw [wQ hi] at hs
  obtain ⟨o1, o2⟩ := hs.1.ok ha (by rw [Xl]; omega)
  refine ⟨?_, hs.2, fun x hx h0 => by have := o2 x hx h0; rwa [Xl] at this⟩
  rw [← VQ hty]
  have := o1 0 []
  rw [List.append_nil] at this
  exact this

theorem zaI (ha : AlgN a N) (hk : k ≤ 3) (h64 : N ^ k ≤ 64) (hF : FrI N k a.2 A M) : Zv (a.1, a.2, ((N ^ k : Nat) : Int), NLL A, M) = some (NLL (a.2.map (vrow N (N ^ k) A))) :=
  wY ha hF.key hF.len (hF.tup ha) (by omega) (fun f hf K T ho ts hl h => (hF.mem _).2 (.app hf ho hl (fun t h' => (hF.mem _).1 (h t h'))))

end

theorem wG (a : Int × List (Int × List Int)) (k : Int) (b : Int × List (Int × List Int)) (ha : BA a) (hb : BA b) : ∃ z, ZS (a.1, a.2) k (b.1, b.2) = some z ∧ ZT (a.1, a.2) k (b.1, b.2) = some z := by
  unfold ZS ZT
  rcases zbK a k ha with ⟨N, kk, A, M, hN, rfl, hk3, h64, f1, f2, hF, hr, hc, hg⟩ | ⟨f1, f2, hno⟩
  · obtain ⟨out, e1, e2, t1, _⟩ := VD hN hk3 h64 hF hr hg hc
    have g2 : Zg (a.1, a.2) = some true := by
      rcases vX a ha with ⟨_, _, _, h⟩ | ⟨_, h, _⟩
      · exact h
      · rw [hg] at h; cases h
    rw [f1, f2, e1]
    simp only [Option.bind_some, Bool.not_true, cond_false, e2]
    rcases two_cases hb hN hg g2 with ⟨nb, hnb, hty, w1, w2⟩ | ⟨w1, w2⟩
    · rw [w2]
      simp only [Option.bind_some, Bool.not_true, cond_false]
      by_cases hne : wT out = true
      · rw [if_pos hne]
        simp only [Bool.not_true, cond_false, w1, Option.bind_some, zaI hN hk3 h64 hF]
        have hp := Uh hnb.n8 hk3
        have eps : Zb b.1 (kk : Int) = some ((nb ^ kk : Nat) : Int) := Xf hnb.eN rfl hnb.n1 (by omega) (by omega)
        have epi : ZG b.1 (kk : Int) = some ((nb ^ kk : Nat) : Int) := VU hnb.eN rfl hnb.n1 (by omega) (by omega)
        have hmp : ∀ i, MpI N nb kk a b A M out (dig nb kk i) := fun i => MpI.mk' hN hnb hk3 h64 hF hty t1 hne (by simp) (xJ hnb.n1 kk i)
        have hgs : ∀ i, ∃ g : Bool, ZM (a.1, a.2) (kk : Int) (NLL A) out (b.1, b.2) (NL (dig nb kk i)) = some (bif g then (NL (vals nb b.2 (dig nb kk i) out), true) else ([], false)) ∧
            ZE (b.1, b.2) out (NLL (a.2.map (vrow N (N ^ kk) A))) (NL (dig nb kk i)) ((kk : Int), NLL (genL N kk)) (a.1, a.2, ((N ^ kk : Nat) : Int), NLL A, M) = some (bif g then (NL (vals nb b.2 (dig nb kk i) out), true) else ([], false)) := fun i => map_both (hmp i) _
        obtain ⟨p, hp1⟩ : ∃ p : Nat → Bool, ∀ i, ZM (a.1, a.2) (kk : Int) (NLL A) out (b.1, b.2) (NL (dig nb kk i)) = some (bif p i then (NL (vals nb b.2 (dig nb kk i) out), true) else ([], false)) ∧
            ZE (b.1, b.2) out (NLL (a.2.map (vrow N (N ^ kk) A))) (NL (dig nb kk i)) ((kk : Int), NLL (genL N kk)) (a.1, a.2, ((N ^ kk : Nat) : Int), NLL A, M) = some (bif p i then (NL (vals nb b.2 (dig nb kk i) out), true) else ([], false)) :=
          ⟨fun i => Classical.choose (hgs i), fun i => Classical.choose_spec (hgs i)⟩
        obtain ⟨x1, y1⟩ := Ul (R := Bool × Bool) (step := fun s37 =>
  (Zb b.1 (kk : Int)).bind fun r44 =>
  (bif (decide (s37 < r44)) then (Yk b.1 (kk : Int) s37).bind fun r55 =>
  (ZM (a.1, a.2) (kk : Int) (NLL A) out (b.1, b.2) r55).bind fun r58 =>
  (bif (!r58.2) then some (.rt (false, true)) else some (.nx (w64 (s37 + 1)))) else some (.br s37))) (fun i => if p i = true then none else some (false, true)) (nb ^ kk) (by omega) (fun j hj => by
          simp only [eps, Option.bind_some, yy, decide_eq_true hj, cond_true]
          rw [show b.1 = (nb : Int) from hnb.eN, l2ArgsN (by omega) hnb.n1 (by omega), Option.bind_some]
          have := (hp1 j).1
          rw [show b.1 = (nb : Int) from hnb.eN] at this
          rw [this, Option.bind_some]
          cases hpj : p j with
          | true =>
            rw [if_pos rfl, cond_true, Bool.not_true, cond_false, yY (by omega)]
          | false => rw [if_neg (by simp)]; rfl) ⟨((nb ^ kk : Nat) : Int), by
          simp only [eps, Option.bind_some, yy, Nat.lt_irrefl, decide_false, cond_false]⟩
        obtain ⟨x2, y2⟩ := Ul (R := Bool × Bool) (step := fun s48 =>
  (ZG b.1 (kk : Int)).bind fun r55 =>
  (bif (decide (s48 < r55)) then (ZW s48 (kk : Int) b.1).bind fun r67 =>
  (ZE (b.1, b.2) out (NLL (a.2.map (vrow N (N ^ kk) A))) r67 ((kk : Int), NLL (genL N kk)) (a.1, a.2, ((N ^ kk : Nat) : Int), NLL A, M)).bind fun r70 =>
  (bif (!r70.2) then some (.rt (false, true)) else some (.nx (w64 (s48 + 1)))) else some (.br s48))) (fun i => if p i = true then none else some (false, true)) (nb ^ kk) (by omega) (fun j hj => by
          simp only [epi, Option.bind_some, yy, decide_eq_true hj, cond_true]
          rw [show b.1 = (nb : Int) from hnb.eN, argsN (by omega) hnb.n1 (by omega), Option.bind_some]
          have := (hp1 j).2
          rw [show b.1 = (nb : Int) from hnb.eN] at this
          rw [this, Option.bind_some]
          cases hpj : p j with
          | true =>
            rw [if_pos rfl, cond_true, Bool.not_true, cond_false, yY (by omega)]
          | false => rw [if_neg (by simp)]; rfl) ⟨((nb ^ kk : Nat) : Int), by
          simp only [epi, Option.bind_some, yy, Nat.lt_irrefl, decide_false, cond_false]⟩
        rw [y1, y2]
        cases (List.range (nb ^ kk)).findSome? (fun i => if p i = true then none else some (false, true)) with
        | none => exact ⟨_, rfl, rfl⟩
        | some r => exact ⟨_, rfl, rfl⟩
      · rw [if_neg hne]
        exact ⟨_, rfl, rfl⟩
    · rw [w1, w2]
      simp only [Option.bind_some, Bool.not_false, cond_true]
      by_cases hne : wT out = true
      · rw [if_pos hne]; exact ⟨_, rfl, rfl⟩
      · rw [if_neg hne]; exact ⟨_, rfl, rfl⟩
  · rw [f1, f2, terms_no hno]
    exact ⟨_, rfl, rfl⟩

theorem xp (a : Int × List (Int × List Int)) (k : Int) (b : Int × List (Int × List Int)) (ha : OkP OkI (OkL (OkP OkI (OkL OkI))) a) (_ : OkI k) (hb : OkP OkI (OkL (OkP OkI (OkL OkI))) b) : ZI a k b = some true := by
  unfold ZI
  obtain ⟨u, hu, hba⟩ := OkAlg.sz ha 1048576 (by omega) (by omega)
  have hu : ZK (a.1, a.2) 1048576 = some u := hu
  rw [hu, Option.bind_some]
  by_cases hneg : u < 0
  · rw [show decide (u < 0) = true by simpa using hneg]; rfl
  rcases hba with hba | ⟨hba, hu0, hu1⟩
  · exact absurd hba hneg
  rw [show decide (u < 0) = false by simpa using hneg, cond_false]
  obtain ⟨v, hv, hbb⟩ := OkAlg.sz hb u hu0 (by omega)
  have hv : ZK (b.1, b.2) u = some v := hv
  rw [hv, Option.bind_some]
  by_cases hneg2 : v < 0
  · rw [show decide (v < 0) = true by simpa using hneg2]; rfl
  rcases hbb with hbb | ⟨hbb, _, _⟩
  · exact absurd hbb hneg2
  rw [show decide (v < 0) = false by simpa using hneg2, cond_false]
  have e1 : Zt (a.1, a.2) = some a := vq a hba
  have e2 : ym (a.1, a.2) (a.1, a.2) = some true := Wb a hba
  have e3 : Zt (b.1, b.2) = some b := vq b hbb
  have e4 : ym (b.1, b.2) (b.1, b.2) = some true := Wb b hbb
  obtain ⟨z, z1, z2⟩ := wG a k b hba hbb
  simp only [e1, e2, e3, e4, Option.bind_some, z1, z2, beq_self_eq_true, bne_self_eq_false, Bool.not_true, Bool.or_false, cond_false]

end Go.Proofs
