/- Plain lemmas on what the functions compute, up to: the law gives true. No conditions. -/
import Derived.Test.YtkbacbikbndakaaGreatL1
set_option linter.unusedVariables false
namespace Go.Proofs
open Go.G
set_option maxRecDepth 100000

theorem VO (a : Int × List (Int × List Int)) (k : Int) (b : Int × List (Int × List Int)) (images : List Int) (ha : BA a) (hb : BA b) (hI : B1 images) : ∃ z, Yl (a.1, a.2) k (b.1, b.2) images = some z ∧ yK (a.1, a.2) k (b.1, b.2) images = some z ∧ B1 z.1 := by
  have hI' : images.length ≤ 1048576 := hI
  have hnil : B1 [] := by unfold B1; simp
  unfold Yl yK
  rcases zbO a k ha with ⟨N, kk, A, M, hN, rfl, hk3, h64, f1, f2, hF, hr, hc, hg⟩ | ⟨f1, f2, hno⟩
  · obtain ⟨out, e1, e2, t1, _⟩ := VH hN hk3 h64 hF hr hg hc
    have g2 : Zg (a.1, a.2) = some true := by
      rcases Vs a ha with ⟨_, _, _, h⟩ | ⟨_, h, _⟩
      · exact h
      · rw [hg] at h; cases h
    rw [f1, f2, e1]
    simp only [obs, bnt, ct0, e2]
    rcases two_cases hb hN hg g2 with ⟨nb, hnb, hty, w1, w2⟩ | ⟨w1, w2⟩
    · rw [w2]
      have hb8 := hnb.n8
      have hbe := hnb.eN
      simp only [obs, bnt, ct0, Uy]
      by_cases hlen : (images.length : Int) = (kk : Int)
      · rw [show ((images.length : Int) != (kk : Int)) = false by simp [hlen], ct0]
        cases hin : (images.all fun x => decide (0 ≤ x) && decide (x < b.1)) with
        | true =>
          simp only [obs, bnt, ct0]
          by_cases hne : ws out = true
          · rw [if_pos hne]
            simp only [bnt, ct0, w1, obs, wk (show -9223372036854775807 ≤ b.1 by omega) (by omega) images (by omega), hin, zaH hN hk3 h64 hF]
            rw [hbe] at hin
            obtain ⟨im, rfl, him⟩ := zbe.1 hin
            have hmp : MpI N nb kk a b A M out im := MpI.mk' hN hnb hk3 h64 hF hty t1 hne (by rw [YQ] at hlen; omega) him
            obtain ⟨g, v1, v2⟩ := map_both hmp ((N ^ kk : Nat) : Int)
            have hvl := hmp.vl
            have hA3 := hF.len
            rw [v1, v2]
            cases g with
            | true => exact ⟨_, rfl, rfl, by unfold B1; show (NL _).length ≤ _; rw [YQ]; omega⟩
            | false => exact ⟨_, rfl, rfl, hnil⟩
          · rw [if_neg hne]
            exact ⟨_, rfl, rfl, hnil⟩
        | false =>
          simp only [obs, bnf, ct1]
          by_cases hne : ws out = true
          · rw [if_pos hne]
            simp only [bnt, ct0, w1, obs, wk (show -9223372036854775807 ≤ b.1 by omega) (by omega) images (by omega), hin]
            exact ⟨_, rfl, rfl, hnil⟩
          · rw [if_neg hne]
            exact ⟨_, rfl, rfl, hnil⟩
      · rw [show ((images.length : Int) != (kk : Int)) = true by simpa using hlen, ct1, ct1]
        by_cases hne : ws out = true
        · rw [if_pos hne]
          simp only [bnt, ct0, w1, obs]
          exact ⟨_, rfl, rfl, hnil⟩
        · rw [if_neg hne]
          exact ⟨_, rfl, rfl, hnil⟩
    · rw [w1, w2]
      simp only [obs, bnf, ct1]
      by_cases hne : ws out = true
      · rw [if_pos hne]; exact ⟨_, rfl, rfl, hnil⟩
      · rw [if_neg hne]; exact ⟨_, rfl, rfl, hnil⟩
  · rw [f1, f2, terms_no hno]
    exact ⟨_, rfl, rfl, hnil⟩

theorem Xz (a : Int × List (Int × List Int)) (k : Int) (b : Int × List (Int × List Int)) (images : List Int) (ha : OkP OkI (OkL (OkP OkI (OkL OkI))) a) (_ : OkI k) (hb : OkP OkI (OkL (OkP OkI (OkL OkI))) b) (_ : OkL OkI images) : yA a k b images = some true := by
  unfold yA
  by_cases hl : 1048576 < (images.length : Int)
  · rw [decide_eq_true hl]; rfl
  rw [decide_eq_false hl, ct0]
  have hI : B1 images := by unfold B1; omega
  have hI' : images.length ≤ 1048576 := hI
  obtain ⟨u, hu, hba⟩ := OkAlg.sz ha 1048576 (by omega) (by omega)
  have hu : ZN (a.1, a.2) 1048576 = some u := hu
  rw [hu, obs]
  by_cases hneg : u < 0
  · rw [show decide (u < 0) = true by simpa using hneg]; rfl
  rcases hba with hba | ⟨hba, hu0, hu1⟩
  · exact absurd hba hneg
  rw [show decide (u < 0) = false by simpa using hneg, ct0]
  obtain ⟨v, hv, hbb⟩ := OkAlg.sz hb u hu0 (by omega)
  have hv : ZN (b.1, b.2) u = some v := hv
  rw [hv, obs]
  by_cases hneg2 : v < 0
  · rw [show decide (v < 0) = true by simpa using hneg2]; rfl
  rcases hbb with hbb | ⟨hbb, _, _⟩
  · exact absurd hbb hneg2
  rw [show decide (v < 0) = false by simpa using hneg2, ct0]
  have e1 : Zd (a.1, a.2) = some a := vA a hba
  have e2 : yf (a.1, a.2) (a.1, a.2) = some true := Ws a hba
  have e3 : Zd (b.1, b.2) = some b := vA b hbb
  have e4 : yf (b.1, b.2) (b.1, b.2) = some true := Ws b hbb
  have e5 : ZT images = some images := Um images hI
  have e6 : ZL images images = some true := Wg images hI
  obtain ⟨⟨g, bb⟩, z1, z2, hg⟩ := VO a k b images hba hbb hI
  have hg : B1 g := hg
  have hg' : g.length ≤ 1048576 := hg
  have e7 : ZL g g = some true := Wg g hg
  obtain ⟨k1, t1, m1, m2, m3⟩ := Wm a hba 1 (by omega) (by omega)
  have m1 : ZK (a.1, a.2) 1 = some (k1, t1) := m1
  obtain ⟨k2, t2, m4, m5, m5'⟩ := Wm b hbb k1 m2 (by omega)
  have m4 : ZK (b.1, b.2) k1 = some (k2, t2) := m4
  have m6 := Wa images k2 (by omega) m5 (by omega)
  have m7 := Wa g 1 (by omega) (by omega) (by omega)
  have m8 := zbb g.length 1 (by omega) (by omega) (by omega)
  simp only [e1, e2, e3, e4, e5, e6, e7, obs, z1, z2, m1, m4, m6, m7, m8, zaG (show 0 ≤ k2 + (images.length : Int) by omega), zaG (show 0 ≤ 1 + (g.length : Int) by omega), beq_self_eq_true, bne_self_eq_false, bnt, ct0]

end Go.Proofs
