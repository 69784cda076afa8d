/- Plain lemmas on what the functions compute, up to: the law gives true. No conditions. -/
import Derived.Test.YtkbacbikbndakaaGreatL1
set_option linter.unusedVariables false
namespace Go.Proofs
open Go.G
set_option maxRecDepth 100000

set_option linter.unusedVariables false

def vF (out : List (List Int)) : Bool := out.all fun r => !r.isEmpty

theorem Ur {out : List (List Int)} : vF out = true ↔ ∀ i, i < out.length → gI out i ≠ [] := by
  unfold vF
  rw [List.all_eq_true]
  constructor
  · intro h i hi e
    have := h _ (List.getElem_mem hi)
    rw [← vJ hi, e] at this; cases this
  · intro h x hx
    obtain ⟨i, hi, rfl⟩ := List.mem_iff_getElem.1 hx
    have := h i hi
    rw [vJ hi] at this
    simpa using this

theorem zbf {out : List (List Int)} (hl : out.length ≤ 1000000) (h60 : ∀ i, (gI out i).length ≤ 60) : ∀ (n j fu : Nat), j + n = out.length → n < fu → (∀ i, i < j → gI out i ≠ []) →
    iter (S := Int × (List (List Int))) (R := (List (List Int)) × Bool) (fun s101 =>
  (bif (decide (s101.1 < (s101.2.length : Int))) then (idx s101.2 s101.1).bind fun x110 =>
  (bif ((x110.length : Int) == 0) then some (.rt ([], false)) else (idx s101.2 s101.1).bind fun x117 =>
  (yM x117).bind fun r122 =>
  (idx s101.2 s101.1).bind fun x124 =>
  some (.nx (w64 (s101.1 + 1), List.set s101.2 (Int.toNat s101.1) r122))) else some (.br (s101.1, s101.2)))) fu ((j : Int), out) = some (if vF out = true then .br ((out.length : Int), out) else .rt ([], false))
  | 0, j, fu + 1, hj, _, hp => by
    have e : j = out.length := by omega
    subst e
    rw [if_pos (Ur.2 hp)]
    exact ZP (by simp only [yk, Nat.lt_irrefl, decide_false, cond_false]) (by intro s; simp)
  | n + 1, j, fu + 1, hj, hf, hp => by
    have hjl : j < out.length := by omega
    by_cases e : gI out j = []
    · rw [if_neg (fun h => Ur.1 h j hjl e)]
      refine ZP ?_ (by intro s; simp)
      simp only [yk, decide_eq_true hjl, cond_true, xL hjl, Option.bind_some, e]
      rfl
    · have hz : (((gI out j).length : Int) == 0) = false := by
        rw [show (0 : Int) = ((0 : Nat) : Int) from rfl, XE]; simpa using e
      have h6 := h60 j
      rw [xh (s' := (((j + 1 : Nat) : Int), out)) (by
        simp only [yk, decide_eq_true hjl, cond_true, xL hjl, Option.bind_some, hz, cond_false]
        rw [vb (by omega), Option.bind_some, yI (by omega), Int.toNat_natCast, vJ hjl, List.set_getElem_self])]
      exact zbf hl h60 n (j + 1) fu (by omega) (by omega) (fun i hi => by
        by_cases ei : i = j
        · rw [ei]; exact e
        · exact hp i (by omega))

section
variable {N k : Nat} {a : Int × List (Int × List Int)} {B A : List (List Nat)}

theorem Vo (ha : AlgN a N) (hg : Zk (a.1, a.2) = some true) (hB : ∀ t ∈ B, TupN N k t) (hBl : B.length ≤ 20) (hk1 : 1 ≤ k) (hk : k ≤ 64) : Yf (a.1, a.2) (k : Int) (NLL B) = some true := by
  have h8 := ha.n8
  unfold Yf
  rw [hg, Option.bind_some, cond_true, show decide (((NLL B).length : Int) ≤ 20) = true by simp; omega, cond_true, ha.eN, zaR (by omega) (by omega) _ _ (NLL_B2 (by omega) (fun u hu => by rw [(hB u hu).1]; omega)), Option.bind_some, tupB_of hB, Bool.true_and]
  rw [show decide ((1 : Int) ≤ (k : Int)) = true by simp; omega, show decide ((k : Int) ≤ 64) = true by simp; omega]; rfl

theorem specTF_ok (ha : AlgN a N) (hG : Yf (a.1, a.2) (k : Int) (NLL B) = some true) (hBl : B.length ≤ 6) (hk : k ≤ 64) (hc : Zb (a.1, a.2) (k : Int) (NLL B) = some (NLL A, true)) (hs : Sorted A) (hA3 : A.length ≤ 300) (hall : ∀ v, Gen N a.2 k B v → v ∈ A) (htA : ∀ u ∈ A, TupN N k u) :
    ∃ out, yH (a.1, a.2) (k : Int) (NLL B) = some (if vF out = true then (out, true) else ([], false)) ∧ TB N a.2 k B A out ∧ FinT N a.2 k B A out := by
  obtain ⟨out, e, h1, h2⟩ := zbq (B := B) ha hs hA3 hall htA (by omega) (by omega)
  refine ⟨out, ?_, h1, h2⟩
  unfold yH
  have hlo := h1.len
  rw [hG]
  simp only [Option.bind_some, Bool.not_true, cond_false, show decide (6 < ((NLL B).length : Int)) = false by simp; omega, hc, e]
  have := zbf (out := out) (by omega) h1.le60 out.length 0 FU (by omega) (by unfold FU; omega) (fun i hi => by omega)
  rw [show ((0 : Nat) : Int) = 0 from rfl] at this
  rw [this]
  by_cases h : vF out = true
  · rw [if_pos h, if_pos h]; rfl
  · rw [if_neg h, if_neg h]; rfl

theorem specTF_no {L : List (List Int)} (hG : Yf (a.1, a.2) (k : Int) (NLL B) = some true) (hBl : B.length ≤ 6) (hc : Zb (a.1, a.2) (k : Int) (NLL B) = some (L, false)) : yH (a.1, a.2) (k : Int) (NLL B) = some ([], false) := by
  unfold yH
  rw [hG]
  simp only [Option.bind_some, Bool.not_true, cond_false, show decide (6 < ((NLL B).length : Int)) = false by simp; omega, hc]
  rfl

theorem Vn {ops : List (Int × List Int)} {out : List (List Int)} (h : TB N ops k B A out) (nd : A.Nodup) : A.map (fun v => gI out (A.idxOf v)) = out := by
  refine List.ext_getElem (by rw [List.length_map, h.len]) (fun i h1 h2 => ?_)
  rw [List.getElem_map, nd.idxOf_getElem, vJ h2]

theorem sorted_nd {L : List (List Nat)} (h : Sorted L) : L.Nodup := xE yL h

end

set_option linter.unusedVariables false

section
variable {N k : Nat} {a : Int × List (Int × List Int)} {A : List (List Nat)} {M : MI}
theorem Vq (ha : AlgN a N) (hk : k ≤ 3) (h64 : N ^ k ≤ 64) (hF : FrI N k a.2 A M) (hr : zU (a.1, a.2) (k : Int) = some true) (hg : Zk (a.1, a.2) = some true) (hc : Zb (a.1, a.2) ((N ^ k : Nat) : Int) (NLL (genL N k)) = some (NLL A, true)) :
    ∃ out, yF (a.1, a.2) (k : Int) = some (if vF out = true then (out, true) else ([], false)) ∧ yS ((k : Int), NLL (genL N k)) (a.1, a.2, ((N ^ k : Nat) : Int), NLL A, M) = some (if vF out = true then (out, true) else ([], false)) ∧ TB N a.2 (N ^ k) (genL N k) A out ∧ FinT N a.2 (N ^ k) (genL N k) A out := by
  have h1 := ha.n1
  have hB := wR (N := N) (k := k) h1
  have hBl := um N k
  have hp1 : 1 ≤ N ^ k := Nat.pow_pos (by omega)
  have hle := hF.len
  have hall : ∀ v, Gen N a.2 (N ^ k) (genL N k) v → v ∈ A := fun v h => (hF.mem v).2 h
  have hgen : ∀ v ∈ A, Gen N a.2 (N ^ k) (genL N k) v := fun v h => (hF.mem v).1 h
  have htA := hF.tup ha
  have hG := Vo ha hg hB (by omega) hp1 h64
  obtain ⟨out, e1, t1, f1⟩ := specTF_ok ha hG (by omega) h64 hc hF.srt hF.len hall htA
  obtain ⟨best, e2, t2, f2⟩ := uW ha hF.key hF.len hall hgen hB (by omega) (by omega)
  have nd := sorted_nd hF.srt
  have eo : best = out := by
    rw [← Vn t1 nd, ← Vn t2 nd]
    exact List.map_congr_left fun v hv => fin_same t2 t1 f2 f1 hv hv
  subst eo
  refine ⟨best, ?_, ?_, t1, f1⟩
  · have epw : Zv a.1 (k : Int) = some ((N ^ k : Nat) : Int) := Xw ha.eN rfl h1 (by omega) (by omega)
    unfold yF
    rw [hr]
    simp only [Option.bind_some, Bool.not_true, cond_false, epw, WT ha hk, e1]
  · unfold yS
    simp only [e2, Option.bind_some]
    rw [vB (fun r => !List.isEmpty r) (([] : List (List Int)), false) () 0 best (fun i x hx => by cases List.isEmpty x <;> rfl)]
    unfold vF
    cases best.all fun r => !r.isEmpty <;> rfl

end

theorem terms_no {a : Int × List (Int × List Int)} {k : Int} (h : zU (a.1, a.2) k = some false ∨ ∃ (N kk : Nat) (A : List (List Nat)), AlgN a N ∧ k = (kk : Int) ∧ kk ≤ 3 ∧ N ^ kk ≤ 64 ∧ zU (a.1, a.2) k = some true ∧ Zb (a.1, a.2) ((N ^ kk : Nat) : Int) (NLL (genL N kk)) = some (NLL A, false) ∧ Zk (a.1, a.2) = some true) : yF (a.1, a.2) k = some ([], false) := by
  unfold yF
  rcases h with h | ⟨N, kk, A, hN, rfl, hk, h64, hr, hc, hg⟩
  · rw [h]; rfl
  · have h1 := hN.n1
    have hp1 : 1 ≤ N ^ kk := Nat.pow_pos (by omega)
    have epw : Zv a.1 (kk : Int) = some ((N ^ kk : Nat) : Int) := Xw hN.eN rfl h1 (by omega) (by omega)
    have hBl := um N kk
    have hG := Vo hN hg (wR (N := N) (k := kk) h1) (by omega) hp1 h64
    rw [hr]
    simp only [Option.bind_some, Bool.not_true, cond_false, epw, WT hN hk, specTF_no hG (by omega) hc]

theorem Vv (a : Int × List (Int × List Int)) (k : Int) (t : List Int) (ha : BA a) (hT : B1 t) : ∃ z, yZ (a.1, a.2) k t = some z ∧ yD (a.1, a.2) k t = some z ∧ B1 z.1 := by
  have hT' : t.length ≤ 1048576 := hT
  have hnil : B1 [] := by unfold B1; simp
  unfold yZ yD yY
  rcases zbT a k ha with ⟨N, kk, A, M, hN, rfl, hk3, h64, f1, f2, hF, hr, hc, hg⟩ | ⟨f1, f2, hno⟩
  · obtain ⟨out, e1, e2, t1, _⟩ := Vq hN hk3 h64 hF hr hg hc
    rw [e1, f1, f2]
    simp only [Option.bind_some, Bool.not_true, cond_false, zbQ hN hT', zbO hN hk3 hF hT', e2]
    cases h : tmB a.2 (kk : Int) t with
    | false => exact ⟨_, rfl, rfl, hnil⟩
    | true =>
      obtain ⟨h60, hok, hx⟩ := vH h
      have hm : ttb N a.2 kk t ∈ A := (hF.mem _).2 (ttb_gen hN hok hx)
      have hl := List.idxOf_lt_length_of_mem hm
      simp only [Bool.not_true, cond_false, Option.bind_some, l11Of_eq hN hk3 h, if_true]
      rw [ul hF.srt hF.len (by omega) (fun u hu => (hF.tup hN u hu).1) hm]
      simp only [Option.bind_some, Bool.not_true, Bool.false_or]
      by_cases ho : vF out = true
      · have hlo : A.idxOf (ttb N a.2 kk t) < out.length := by rw [t1.len]; exact hl
        have hmo : idx (List.map some out) ((A.idxOf (ttb N a.2 kk t) : Nat) : Int) = some (some (gI out (A.idxOf (ttb N a.2 kk t)))) := by
          rw [Zf, List.getElem?_map, List.getElem?_eq_getElem hlo, vJ hlo]; rfl
        rw [if_pos ho]
        simp only [Bool.not_true, cond_false, xL hlo, Option.bind_some, hmo]
        have := t1.le60 (A.idxOf (ttb N a.2 kk t))
        exact ⟨_, rfl, rfl, by unfold B1; show (gI out _).length ≤ _; omega⟩
      · rw [if_neg ho]
        exact ⟨_, rfl, rfl, hnil⟩
  · rw [terms_no hno, f1, f2]
    exact ⟨_, rfl, rfl, hnil⟩

theorem Xe (a : Int × List (Int × List Int)) (k : Int) (t : List Int) (ha : OkP OkI (OkL (OkP OkI (OkL OkI))) a) (_ : OkI k) (_ : OkL OkI t) : yq a k t = some true := by
  unfold yq
  by_cases hl : 1048576 < (t.length : Int)
  · rw [decide_eq_true hl]; rfl
  rw [decide_eq_false hl, cond_false]
  have hT : B1 t := by unfold B1; omega
  refine alg_head ha fun hb => ?_
  have e1 : ZK (a.1, a.2) = some a := Uy a hb
  have e2 : yQ (a.1, a.2) (a.1, a.2) = some true := VO a hb
  have e3 : ZS t = some t := Uk t hT
  have e4 : ZG t t = some true := wO t hT
  obtain ⟨⟨g, b⟩, z1, z2, hg⟩ := Vv a k t hb hT
  have hg : B1 g := hg
  have hT' : t.length ≤ 1048576 := hT
  have hg' : g.length ≤ 1048576 := hg
  have e5 : ZG g g = some true := wO g hg
  obtain ⟨k1, t1, m1, m2, m3⟩ := uc a hb 1 (by omega) (by omega)
  have m1 : yj (a.1, a.2) 1 = some (k1, t1) := m1
  have m5 := wN t k1 (by omega) m2 (by omega)
  have m6 := wN g 1 (by omega) (by omega) (by omega)
  have m7 := zbc g.length 1 (by omega) (by omega) (by omega)
  simp only [e1, e2, e3, e4, e5, Option.bind_some, z1, z2, m1, m5, m6, m7, zbd (show 0 ≤ k1 + (t.length : Int) by omega), zbd (show 0 ≤ 1 + (g.length : Int) by omega), beq_self_eq_true, bne_self_eq_false, Bool.not_true, cond_false]

end Go.Proofs
