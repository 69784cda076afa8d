/- What functions of the program compute, as plain functions, and that a call gives just that. Conditions: those named in each theorem. -/
import Derived.Test.YtkbacbikbndakaaGreatF3
set_option linter.unusedVariables false
namespace Go.Proofs
open Go.G Go.RowKit
set_option maxRecDepth 100000
set_option maxHeartbeats 4000000

def yu (M : Nat → Prop) (w0 : World) (r : (List Int) × Bool) (a : Act) (w : World) : Prop :=
  ∃ (σ : Nat → Value) (ra0 : Option Addr) (rn0 rc0 : Nat) (rf0 : List Nat), a = fr 137 (ovl σ [(10, (.slice ra0 rn0 rc0)), (11, (.bool r.2))]) ∧ Chg [] w0 w ∧ (RT.os 3 (RT.int .i64)).val M w (.slice ra0 rn0 rc0) r.1 rf0 ∧ Own (Nw w0 []) (fun _ => True) w (rf0 ++ ([]))
def ZE (b : Int × (List (Int × (List Int)))) (terms : List (List Int)) (tables : List (List Int)) (images : List Int) (b0 : Int × (List (List Int))) (b1 : Int × (List (Int × (List Int))) × Int × (List (List Int)) × (List (ByteArray × Int))) : Option ((List Int) × Bool) :=
  (forR (S := (List Int)) (R := (List Int) × Bool) (fun _ x29 s26 =>
  (Xg (b.1, b.2) x29 images).bind fun r40 =>
  (app s26 ([r40])).bind fun y44 =>
  some (.nx y44)) 0 terms ([])).bind fun o30 => after o30 (fun r_ => some r_) (fun s26 =>
  (yh (b0.1, b0.2) (b1.1, b1.2.1, b1.2.2.1, b1.2.2.2.1, b1.2.2.2.2)).bind fun r47 =>
  (forC (S := Unit) (R := (List Int) × Bool) (fun k59 s57 =>
  (idx r47 k59).bind fun x63 =>
  (idx s26 x63).bind fun x67 =>
  (idx images k59).bind fun x69 =>
  (bif (x67 != x69) then some (.rt ([], false)) else some (.nx ()))) 0 (r47.length : Int) ()).bind fun o61 => after o61 (fun r_ => some r_) (fun s57 =>
  (forC (S := Unit) (R := (List Int) × Bool) (fun k144 s142 =>
  (idx b1.2.1 k144).bind fun x148 =>
  (idx tables k144).bind fun x154 =>
  (forC (S := Unit) (R := (List Int) × Bool) (fun k187 s185 =>
  (idx x154 k187).bind fun x191 =>
  (forC (S := Int × Int × Int) (R := (List Int) × Bool) (fun k199 s197 =>
  (nz (b1.2.2.2.1.length : Int)).bind fun u203 =>
  (idx s26 (Int.tmod s197.2.2 (b1.2.2.2.1.length : Int))).bind fun x204 =>
  (nz (b1.2.2.2.1.length : Int)).bind fun u206 =>
  some (.nx (w64 (s197.1 + (w64 (x204 * s197.2.1))), w64 (s197.2.1 * b.1), w64 (Int.tdiv s197.2.2 (b1.2.2.2.1.length : Int))))) 0 x148.1 (0, 1, k187)).bind fun o201 => after o201 (fun r_ => some (.rt r_)) (fun s197 =>
  (idx s26 x191).bind fun x208 =>
  (idx b.2 k144).bind fun x210 =>
  (idx x210.2 s197.1).bind fun x215 =>
  (bif (x208 != x215) then some (.rt ([], false)) else some (.nx ())))) 0 (x154.length : Int) ()).bind fun o189 => after o189 (fun r_ => some (.rt r_)) (fun s185 =>
  some (.nx ()))) 0 (b1.2.1.length : Int) ()).bind fun o146 => after o146 (fun r_ => some r_) (fun s142 =>
  some (s26, true))))
theorem WX {M : Nat → Prop} {w : World} {vg0 : Nat} {vg1 : Nat} {pa0 : OA} {pn0 pc0 : Nat} {pa1 : OA} {pn1 pc1 : Nat} {pa2 : OA} {pn2 pc2 : Nat} {pa3 : OA} {pn3 pc3 : Nat} {va0x2 : OA} {vn0x2 vc0x2 : Nat} {va1x1 : OA} {vn1x1 vc1x1 : Nat} {va1x3 : OA} {vn1x3 vc1x3 : Nat} {vn1x4 : Nat} (b : tA) (terms : tM) (tables : tM) (images : List Int) (b0 : Int × tM) (b1 : Int × (List (Int × (List Int))) × Int × tM × (List (ByteArray × Int))) (h0 : rp.val M w (sv pa0 pn0 pc0) b.2 []) (h1 : rm.val M w (sv pa1 pn1 pc1) terms []) (h2 : rm.val M w (sv pa2 pn2 pc2) tables []) (h3 : rl.val M w (sv pa3 pn3 pc3) images []) (hb0 : RBox M w vg0 59 [(pq vg1 0), (iv b0.1), (sv va0x2 vn0x2 vc0x2)]) (hl0x2 : rm.val M w (sv va0x2 vn0x2 vc0x2) b0.2 []) (hb1 : RBox M w vg1 90 [(iv b1.1), (sv va1x1 vn1x1 vc1x1), (iv b1.2.2.1), (sv va1x3 vn1x3 vc1x3), (.map (some vn1x4))]) (hl1x1 : rp.val M w (sv va1x1 vn1x1 vc1x1) b1.2.1 []) (hl1x3 : rm.val M w (sv va1x3 vn1x3 vc1x3) b1.2.2.2.1 []) (hl1x4 : (RT.mr (Value.int .i64)).val M w (.map (some vn1x4)) b1.2.2.2.2 []) (hM : Hm w M) {r : (List Int) × Bool} (hs : ZE b terms tables images b0 b1 = some r) :
    Gives Tryz.prog 33 [(pq vg0 0), (.agg #[(iv b.1), (sv pa0 pn0 pc0)]), (sv pa1 pn1 pc1), (sv pa2 pn2 pc2), (sv pa3 pn3 pc3)] w (fun v w' => ∃ (ra0 : OA) (rn0 rc0 : Nat) (rf0 : List Nat), v = (.tuple #[(sv ra0 rn0 rc0), (.bool r.2)]) ∧ Chg [] w w' ∧ (RT.os 3 ri).val M w' (sv ra0 rn0 rc0) r.1 rf0 ∧ Own (Nw w []) (fun _ => True) w' (rf0 ++ [])) := by
 refine zr Tryz.func33 rfl Tryz.ntmps33 (nl rfl) ?_
 have hO := Own.start (N := Nw w []) hM Nw.fut
 have hC := Chg.refl [] w
 unfold ZE at hs
 refine wp_k (K := (yu M w r)) (by rintro _ _ ⟨σ, ra0, rn0, rc0, rf0, rfl, hrest⟩; exact XP Tryz.results33 (zB rfl) (zB rfl) ⟨ra0, rn0, rc0, rf0, rfl, hrest⟩) (c_sr ?_)
 obtain ⟨g3, a3, i1, g4, d1, a0⟩ := zf w [(iv b.1), (sv pa0 pn0 pc0)] 30
 refine za (w' := g3) (pq a3 0) (Zn rfl (by rw [i1, g4]; kernel_rfl)) ?_
 obtain ⟨h0, h1, h2, h3, hl0x2, hb0, hl1x1, hl1x3⟩ := xt8 d1 h0 h1 h2 h3 hl0x2 hb0 hl1x1 hl1x3
 obtain ⟨hl1x4, hb1, hC⟩ := xt3 d1 hl1x4 hb1 hC
 have hO := hO.new1 d1 g4 a0.lt
 refine ax rfl (ab rfl (zb (c_sr ?_)))
 obtain ⟨g5, e0, i2, g6, c5, g7⟩ := zf g3 [] 3
 refine za (w' := g5) (sv (some ⟨e0, 0, none⟩) 0 0) (zz rfl (by rw [i2, g6]; kernel_rfl)) ?_
 obtain ⟨h0, h1, h2, h3, hl0x2, hb0, hl1x1, hl1x3⟩ := xt8 c5 h0 h1 h2 h3 hl0x2 hb0 hl1x1 hl1x3
 obtain ⟨hl1x4, hb1, a0, hC⟩ := xt4 c5 hl1x4 hb1 a0 hC
 have hO := hO.new1 c5 g6 g7.lt
 have e7 := os0 (r := ri) (M := M) g7
 refine ax rfl (zb (zd (c_sr (ms rfl (za _ (zn Sl45 (zt h1) rfl) (mi rfl (zb ?_)))))))
 obtain ⟨o30, i3, hs⟩ := bind_some hs
 refine wp_block (YB (id := 0) (I := fun i_ xs_ s26 a a6 => ∃ d3 : Nat, i_ = (d3 : Int) ∧ List.drop d3 terms = xs_ ∧ (∃ (σ : Nv) (e1 : OA) (e2 : Nat) (e3 : Nat) (e5 : List Nat), a = fr 137 (ovl σ [(0, (pq vg0 0)), (3, (sv pa2 pn2 pc2)), (4, (sv pa3 pn3 pc3)), (6, (pq a3 0)), (12, (sv e1 e2 e3)), (26, (sv pa1 pn1 pc1)), (27, (iv (terms.length : Int))), (28, (iv (d3 : Int)))]) ∧ Chg [] w a6 ∧ Own (Nw w []) M a6 (e5 ++ ([a3] ++ [])) ∧ rp.val M a6 (sv pa0 pn0 pc0) b.2 [] ∧ rm.val M a6 (sv pa1 pn1 pc1) terms [] ∧ rm.val M a6 (sv pa2 pn2 pc2) tables [] ∧ rl.val M a6 (sv pa3 pn3 pc3) images [] ∧ rm.val M a6 (sv va0x2 vn0x2 vc0x2) b0.2 [] ∧ RBox M a6 vg0 59 [(pq vg1 0), (iv b0.1), (sv va0x2 vn0x2 vc0x2)] ∧ rp.val M a6 (sv va1x1 vn1x1 vc1x1) b1.2.1 [] ∧ rm.val M a6 (sv va1x3 vn1x3 vc1x3) b1.2.2.2.1 [] ∧ (RT.mr (Value.int .i64)).val M a6 (.map (some vn1x4)) b1.2.2.2.2 [] ∧ RBox M a6 vg1 90 [(iv b1.1), (sv va1x1 vn1x1 vc1x1), (iv b1.2.2.1), (sv va1x3 vn1x3 vc1x3), (.map (some vn1x4))] ∧ BoxV a6 a3 30 [(iv b.1), (sv pa0 pn0 pc0)] ∧ (RT.os 3 ri).val M a6 (sv e1 e2 e3) s26 e5)) (J := fun s26 a a6 => ∃ (σ : Nv) (a8 : OA) (a9 : Nat) (b2 : Nat) (b3 : List Nat), a = fr 137 (ovl σ [(0, (pq vg0 0)), (3, (sv pa2 pn2 pc2)), (4, (sv pa3 pn3 pc3)), (6, (pq a3 0)), (12, (sv a8 a9 b2))]) ∧ Chg [] w a6 ∧ Own (Nw w []) M a6 (b3 ++ ([a3] ++ [])) ∧ rp.val M a6 (sv pa0 pn0 pc0) b.2 [] ∧ rm.val M a6 (sv pa1 pn1 pc1) terms [] ∧ rm.val M a6 (sv pa2 pn2 pc2) tables [] ∧ rl.val M a6 (sv pa3 pn3 pc3) images [] ∧ rm.val M a6 (sv va0x2 vn0x2 vc0x2) b0.2 [] ∧ RBox M a6 vg0 59 [(pq vg1 0), (iv b0.1), (sv va0x2 vn0x2 vc0x2)] ∧ rp.val M a6 (sv va1x1 vn1x1 vc1x1) b1.2.1 [] ∧ rm.val M a6 (sv va1x3 vn1x3 vc1x3) b1.2.2.2.1 [] ∧ (RT.mr (Value.int .i64)).val M a6 (.map (some vn1x4)) b1.2.2.2.2 [] ∧ RBox M a6 vg1 90 [(iv b1.1), (sv va1x1 vn1x1 vc1x1), (iv b1.2.2.1), (sv va1x3 vn1x3 vc1x3), (.map (some vn1x4))] ∧ BoxV a6 a3 30 [(iv b.1), (sv pa0 pn0 pc0)] ∧ (RT.os 3 ri).val M a6 (sv a8 a9 b2) s26 b3) (K := (yu M w)) ?_ ?_ terms 0 [] o30 _ _ ?_ i3 ?_)
 ·rintro _ s26 a a6 ⟨d3, rfl, hd, σ, e1, e2, e3, e5, rfl, hC, hO, h0, h1, h2, h3, hl0x2, hb0, hl1x1, hl1x3, hl1x4, hb1, a0, d5⟩
  have hlt := ZJ hd
  refine c_sr (za _ (zu rfl rfl) (zb (zd (zi (df hlt) (wp_exit ?_)))))
  have hO := hO.fr1.fr1
  exact ⟨rfl, _, e1, e2, e3, e5, fr_m 137 rfl, hC, hO, h0, h1, h2, h3, hl0x2, hb0, hl1x1, hl1x3, hl1x4, hb1, a0, d5⟩
 ·rintro _ x29 xs_ s26 o30 a a6 ⟨d3, rfl, hd, σ, e1, e2, e3, e5, rfl, hC, hO, h0, h1, h2, h3, hl0x2, hb0, hl1x1, hl1x3, hl1x4, hb1, a0, d5⟩ hs
  have hlt := ZD hd
  have i4 := Zu hd
  refine c_sr (za _ (zu rfl rfl) (zb (zd (zh (dt hlt) (wp_skip (zd (wp_block (c_sr ?_))))))))
  obtain ⟨i5, i6, i7, i9⟩ := zH Sl45 Sz34 h1 i4
  refine za _ (ip i7 rfl rfl) ?_
  obtain ⟨q6, j0, d6⟩ := Zd Ag34 Sz34 (fun _ => rfl) i9
  obtain ⟨e8, e9, f0, rfl⟩ := yp d6
  refine za (sv e8 e9 f0) (zo rfl (j0 _ (Chg.refl _ _))) (ax rfl (zb (ze (ms rfl (za _ (ldw rfl Ag30 a0 Sz30) (ms rfl (ms rfl ?_)))))))
  obtain ⟨r40, j1, hs⟩ := bind_some hs
  refine zA Bd64 rfl (zaK (M := M) (b.1, b.2) x29 images h0 d6 h3 hO.fut j1) ?_
  rintro _ j2 ⟨rfl, b8⟩
  obtain ⟨h0, h1, h2, h3, hl0x2, hb0, hl1x1, hl1x3⟩ := xt8 b8 h0 h1 h2 h3 hl0x2 hb0 hl1x1 hl1x3
  obtain ⟨hl1x4, hb1, a0, d5, d6, hC, hO⟩ := xt7 b8 hl1x4 hb1 a0 d5 d6 hC hO
  obtain ⟨g8, f1, j3, g9, b9, h4⟩ := zf j2 [(iv r40)] 3
  refine za (w' := g8) (sv (some ⟨f1, 0, none⟩) 1 1) (zz rfl (by rw [j3, g9]; kernel_rfl)) ?_
  obtain ⟨h0, h1, h2, h3, hl0x2, hb0, hl1x1, hl1x3⟩ := xt8 b9 h0 h1 h2 h3 hl0x2 hb0 hl1x1 hl1x3
  obtain ⟨hl1x4, hb1, a0, d5, d6, hC⟩ := xt6 b9 hl1x4 hb1 a0 d5 d6 hC
  have hO := hO.new1 b9 g9 h4.lt
  have f2 := os1 (M := M) h4
  obtain ⟨y44, j4, hs⟩ := bind_some hs
  have hO := hO.fr1
  obtain ⟨f3, f4, f5, j5, j6, j7, c2, j8, f6⟩ := ye Rw34 j4 d5 f2 hO.inM (fun g hg hq => hO.apart g hq (zF hg))
  have c6 := zC d5
  refine za (w' := j5) (sv f3 f4 f5) (zQ rfl rfl (j7 _)) ?_
  have hO := hO.fr1.fr1
  have h0 := h0.mt c2 hO c6
  have h1 := h1.mt c2 hO c6
  have h2 := h2.mt c2 hO c6
  have h3 := h3.mt c2 hO c6
  have hl0x2 := hl0x2.mt c2 hO c6
  have hb0 := hb0.mut c2 (fun q hq => hO.inM q (c6 q hq))
  have hl1x1 := hl1x1.mt c2 hO c6
  have hl1x3 := hl1x3.mt c2 hO c6
  have hl1x4 := hl1x4.mt c2 hO c6
  have hb1 := hb1.mut c2 (fun q hq => hO.inM q (c6 q hq))
  have a0 := a0.ap c2 hO c6 (zl mS)
  have d6 := d6.mt c2 hO c6
  have hC := hC.st c2 hO c6
  have hO := hO.eat c2 j8 (zw f6) f6.fpl
  refine ax rfl (zb (ze (za _ (yad rfl rfl) (mi rfl (zb ?_)))))
  cases hs
  have hO := hO.fr1.fr1
  exact ⟨_, rfl, Zi hd, _, f3, f4, f5, j6, zE 137 ⟨rfl, rfl, rfl, rfl, rfl, rfl, rfl, congrArg (Value.int .i64) (Yb hlt (Int.natCast_nonneg _) (Xm h1)), trivial⟩, hC, hO, h0, h1, h2, h3, hl0x2, hb0, hl1x1, hl1x3, hl1x4, hb1, a0, f6⟩
 ·skip
  have hO := hO.fr1.fr1
  exact ⟨0, rfl, rfl, _, (some ⟨e0, 0, none⟩), 0, 0, [e0], fr_m 137 rfl, hC, hO, h0, h1, h2, h3, hl0x2, hb0, hl1x1, hl1x3, hl1x4, hb1, a0, e7⟩
 cases o30 with
 | nx _ => exact True.intro
 | rt r_ =>
  have hs := zq hs
  intro d4 e4 hK
  cases hs
  exact hK
 | br s26 =>
  have hs := zp hs
  rintro d4 a6 ⟨σ, a8, a9, b2, b3, rfl, hC, hO, h0, h1, h2, h3, hl0x2, hb0, hl1x1, hl1x3, hl1x4, hb1, a0, a1⟩
  refine zd (c_sr (mp rfl ?_))
  obtain ⟨r47, j9, hs⟩ := bind_some hs
  refine zA Bd65 rfl (wg (M := M) (b0.1, b0.2) (b1.1, b1.2.1, b1.2.2.1, b1.2.2.2.1, b1.2.2.2.2) (show RBox M _ vg0 59 [(pq vg1 0), (iv b0.1), (sv va0x2 vn0x2 vc0x2)] from hb0) hl0x2 (show RBox M _ vg1 90 [(iv b1.1), (sv va1x1 vn1x1 vc1x1), (iv b1.2.2.1), (sv va1x3 vn1x3 vc1x3), (.map (some vn1x4))] from hb1) hl1x1 hl1x3 hl1x4 hO.fut j9) ?_
  rintro _ q7 ⟨f7, f8, f9, e6, rfl, c3, d2, k0⟩
  have hO := hO.perm (R := [] ++ (b3 ++ ([a3] ++ []))) (by simp)
  obtain ⟨h0, h1, h2, h3, hl0x2, hb0, hl1x1, hl1x3⟩ := xt8 c3 h0 h1 h2 h3 hl0x2 hb0 hl1x1 hl1x3
  obtain ⟨hl1x4, hb1, a0, a1, hC⟩ := xt5 c3 hl1x4 hb1 a0 a1 hC
  have hO := Own.join hO c3 k0
  have hO := hO.perm (R := e6 ++ (b3 ++ ([a3] ++ []))) (by simp)
  refine za _ (zn Sl34 (ZR d2) rfl) (mi rfl (zb ?_))
  obtain ⟨o61, k1, hs⟩ := bind_some hs
  refine wp_block (zV (id := 2) (r47.length : Int) (I := fun k59 s57 a a4 => ∃ (σ : Nv), a = fr 137 (ovl σ [(0, (pq vg0 0)), (3, (sv pa2 pn2 pc2)), (4, (sv pa3 pn3 pc3)), (6, (pq a3 0)), (12, (sv a8 a9 b2)), (41, (sv f7 f8 f9)), (42, (iv (r47.length : Int))), (43, (iv k59))]) ∧ Chg [] w a4 ∧ Own (Nw w []) M a4 (e6 ++ (b3 ++ ([a3] ++ []))) ∧ rp.val M a4 (sv pa0 pn0 pc0) b.2 [] ∧ rm.val M a4 (sv pa2 pn2 pc2) tables [] ∧ rl.val M a4 (sv pa3 pn3 pc3) images [] ∧ rm.val M a4 (sv va0x2 vn0x2 vc0x2) b0.2 [] ∧ RBox M a4 vg0 59 [(pq vg1 0), (iv b0.1), (sv va0x2 vn0x2 vc0x2)] ∧ rp.val M a4 (sv va1x1 vn1x1 vc1x1) b1.2.1 [] ∧ rm.val M a4 (sv va1x3 vn1x3 vc1x3) b1.2.2.2.1 [] ∧ (RT.mr (Value.int .i64)).val M a4 (.map (some vn1x4)) b1.2.2.2.2 [] ∧ RBox M a4 vg1 90 [(iv b1.1), (sv va1x1 vn1x1 vc1x1), (iv b1.2.2.1), (sv va1x3 vn1x3 vc1x3), (.map (some vn1x4))] ∧ BoxV a4 a3 30 [(iv b.1), (sv pa0 pn0 pc0)] ∧ (RT.os 3 ri).val M a4 (sv a8 a9 b2) s26 b3 ∧ (RT.os 3 ri).val M a4 (sv f7 f8 f9) r47 e6) (J := fun s57 a a4 => ∃ (σ : Nv), a = fr 137 (ovl σ [(0, (pq vg0 0)), (3, (sv pa2 pn2 pc2)), (6, (pq a3 0)), (12, (sv a8 a9 b2))]) ∧ Chg [] w a4 ∧ Own (Nw w []) M a4 (e6 ++ (b3 ++ ([a3] ++ []))) ∧ rp.val M a4 (sv pa0 pn0 pc0) b.2 [] ∧ rm.val M a4 (sv pa2 pn2 pc2) tables [] ∧ rl.val M a4 (sv pa3 pn3 pc3) images [] ∧ rm.val M a4 (sv va0x2 vn0x2 vc0x2) b0.2 [] ∧ RBox M a4 vg0 59 [(pq vg1 0), (iv b0.1), (sv va0x2 vn0x2 vc0x2)] ∧ rp.val M a4 (sv va1x1 vn1x1 vc1x1) b1.2.1 [] ∧ rm.val M a4 (sv va1x3 vn1x3 vc1x3) b1.2.2.2.1 [] ∧ (RT.mr (Value.int .i64)).val M a4 (.map (some vn1x4)) b1.2.2.2.2 [] ∧ RBox M a4 vg1 90 [(iv b1.1), (sv va1x1 vn1x1 vc1x1), (iv b1.2.2.1), (sv va1x3 vn1x3 vc1x3), (.map (some vn1x4))] ∧ BoxV a4 a3 30 [(iv b.1), (sv pa0 pn0 pc0)] ∧ (RT.os 3 ri).val M a4 (sv a8 a9 b2) s26 b3 ∧ (RT.os 3 ri).val M a4 (sv f7 f8 f9) r47 e6) (K := (yu M w)) ?_ ?_ 0 () o61 _ _ ?_ k1 ?_)
  ·rintro k59 s57 a a4 ⟨σ, rfl, hC, hO, h0, h2, h3, hl0x2, hb0, hl1x1, hl1x3, hl1x4, hb1, a0, a1, d2⟩ hlt
   refine c_sr (za _ (zu rfl rfl) (zb (zd (zi (df hlt) (wp_exit ?_)))))
   have hO := hO.fr2.fr2.fr2
   exact ⟨rfl, _, fr_m 137 rfl, hC, hO, h0, h2, h3, hl0x2, hb0, hl1x1, hl1x3, hl1x4, hb1, a0, a1, d2⟩
  ·rintro k59 s57 o61 a a4 ⟨σ, rfl, hC, hO, h0, h2, h3, hl0x2, hb0, hl1x1, hl1x3, hl1x4, hb1, a0, a1, d2⟩ hlt hw hs
   refine c_sr (za _ (zu rfl rfl) (zb (zd (zh (dt hlt) (wp_skip (zd (wp_block (c_sr (mi rfl ?_)))))))))
   obtain ⟨x63, k2, hs⟩ := bind_some hs
   obtain ⟨k3, q8, q9, r0, k4, k5, r1⟩ := zW Sl34 Sz3 d2 k2
   refine za _ (ip k4 rfl rfl) (za (iv x63) (zo rfl ((zm Ag3 Sz3 k5) _ (Chg.refl _ _))) (ai rfl (ai rfl (zb (zd (zS [] Mx rfl ?_))))))
   have c0 := Chg.drew a4
   generalize World.drew a4 = k6 at c0 ⊢
   obtain ⟨h0, h2, h3, hl0x2, hb0, hl1x1, hl1x3, hl1x4⟩ := xt8 c0 h0 h2 h3 hl0x2 hb0 hl1x1 hl1x3 hl1x4
   obtain ⟨hb1, a0, a1, d2, hC, hO⟩ := xt6 c0 hb1 a0 a1 d2 hC hO
   have hS := Chg.refl [] k6
   refine xms 0 rfl rfl hS (xmi 1 rfl rfl hS ?_)
   obtain ⟨x67, k7, hs⟩ := bind_some hs
   obtain ⟨k8, r2, r3, r4, k9, l0, r5⟩ := zW Sl34 Sz3 a1 k7
   refine xq 2 _ rfl (ip k9 rfl rfl) hS (x_l 3 (iv x67) rfl (by kernel_rfl) (fun w' hw' => zo rfl ((zm Ag3 Sz3 l0) w' hw')) hS (xms 4 rfl rfl hS (xmi 5 rfl rfl hS ?_)))
   obtain ⟨x69, l1, hs⟩ := bind_some hs
   obtain ⟨l2, l3, l4, l5⟩ := zH Sl34 Sz3 h3 l1
   refine xq 6 _ rfl (ip l4 rfl rfl) hS (x_l 7 (iv x69) rfl (by kernel_rfl) (fun w' hw' => zo rfl ((zm Ag3 Sz3 l5) w' hw')) hS (xq 8 (.bool (x67 != x69)) rfl (xy rfl rfl) hS (xe ?_)))
   clear hS
   rcases zg hs with ⟨g0, hs⟩ | ⟨g0, hs⟩
   ·refine zh (cb g0) (c_sr (ax rfl (ab rfl (zb (wp_ret ?_)))))
    cases hs
    have hO := hO.drop.drop.drop.nil
    exact ⟨_, none, 0, 0, [], fr_m 137 rfl, hC, xF, hO.top⟩
   refine zi (cb g0) (wp_skip (ze (za _ (yad rfl rfl) (mi rfl (zb ?_)))))
   cases hs
   have hO := hO.fr2.fr2.fr2
   exact ⟨_, zE 137 ⟨rfl, rfl, rfl, rfl, rfl, rfl, rfl, congrArg (Value.int .i64) hw, trivial⟩, hC, hO, h0, h2, h3, hl0x2, hb0, hl1x1, hl1x3, hl1x4, hb1, a0, a1, d2⟩
  ·skip
   have hO := hO.fr2.fr2.fr2
   exact ⟨_, fr_m 137 rfl, hC, hO, h0, h2, h3, hl0x2, hb0, hl1x1, hl1x3, hl1x4, hb1, a0, a1, d2⟩
  cases o61 with
  | nx _ => exact True.intro
  | rt r_ =>
   have hs := zq hs
   intro d4 e4 hK
   cases hs
   exact hK
  | br s57 =>
   have hs := zp hs
   rintro d4 a4 ⟨σ, rfl, hC, hO, h0, h2, h3, hl0x2, hb0, hl1x1, hl1x3, hl1x4, hb1, a0, a1, d2⟩
   refine zd (c_sr (mp rfl (za _ (Zs rfl) (za (pq vg0 0) (zj rfl ve) (za _ (ld rfl Ag57 Sz57 hb0.1 rfl) (za _ (Zs rfl) (za (pq vg1 0) (zj rfl vP) (za (pq vg1 1) (zj rfl Zr) (za _ (ld rfl Ag28 Sz28 hb1.1 rfl) (za _ (zn Sl28 (zt hl1x1) rfl) (mi rfl (zb ?_))))))))))))
   have hO := hO.drop
   obtain ⟨o146, l6, hs⟩ := bind_some hs
   refine wp_block (zV (id := 4) (b1.2.1.length : Int) (I := fun k144 s142 a a7 => ∃ (σ : Nv), a = fr 137 (ovl σ [(0, (pq vg0 0)), (3, (sv pa2 pn2 pc2)), (6, (pq a3 0)), (12, (sv a8 a9 b2)), (65, (sv va1x1 vn1x1 vc1x1)), (66, (iv (b1.2.1.length : Int))), (67, (iv k144))]) ∧ Chg [] w a7 ∧ Own (Nw w []) M a7 (b3 ++ ([a3] ++ [])) ∧ rp.val M a7 (sv pa0 pn0 pc0) b.2 [] ∧ rm.val M a7 (sv pa2 pn2 pc2) tables [] ∧ rm.val M a7 (sv va0x2 vn0x2 vc0x2) b0.2 [] ∧ RBox M a7 vg0 59 [(pq vg1 0), (iv b0.1), (sv va0x2 vn0x2 vc0x2)] ∧ rp.val M a7 (sv va1x1 vn1x1 vc1x1) b1.2.1 [] ∧ rm.val M a7 (sv va1x3 vn1x3 vc1x3) b1.2.2.2.1 [] ∧ (RT.mr (Value.int .i64)).val M a7 (.map (some vn1x4)) b1.2.2.2.2 [] ∧ RBox M a7 vg1 90 [(iv b1.1), (sv va1x1 vn1x1 vc1x1), (iv b1.2.2.1), (sv va1x3 vn1x3 vc1x3), (.map (some vn1x4))] ∧ BoxV a7 a3 30 [(iv b.1), (sv pa0 pn0 pc0)] ∧ (RT.os 3 ri).val M a7 (sv a8 a9 b2) s26 b3) (J := fun s142 a a7 => ∃ (σ : Nv), a = fr 137 (ovl σ [(12, (sv a8 a9 b2))]) ∧ Chg [] w a7 ∧ Own (Nw w []) M a7 (b3 ++ ([a3] ++ [])) ∧ rp.val M a7 (sv pa0 pn0 pc0) b.2 [] ∧ rm.val M a7 (sv pa2 pn2 pc2) tables [] ∧ rm.val M a7 (sv va0x2 vn0x2 vc0x2) b0.2 [] ∧ RBox M a7 vg0 59 [(pq vg1 0), (iv b0.1), (sv va0x2 vn0x2 vc0x2)] ∧ rp.val M a7 (sv va1x1 vn1x1 vc1x1) b1.2.1 [] ∧ rm.val M a7 (sv va1x3 vn1x3 vc1x3) b1.2.2.2.1 [] ∧ (RT.mr (Value.int .i64)).val M a7 (.map (some vn1x4)) b1.2.2.2.2 [] ∧ RBox M a7 vg1 90 [(iv b1.1), (sv va1x1 vn1x1 vc1x1), (iv b1.2.2.1), (sv va1x3 vn1x3 vc1x3), (.map (some vn1x4))] ∧ BoxV a7 a3 30 [(iv b.1), (sv pa0 pn0 pc0)] ∧ (RT.os 3 ri).val M a7 (sv a8 a9 b2) s26 b3) (K := (yu M w)) ?_ ?_ 0 () o146 _ _ ?_ l6 ?_)
   ·rintro k144 s142 a a7 ⟨σ, rfl, hC, hO, h0, h2, hl0x2, hb0, hl1x1, hl1x3, hl1x4, hb1, a0, a1⟩ hlt
    refine c_sr (za _ (zu rfl rfl) (zb (zd (zi (df hlt) (wp_exit ?_)))))
    have hO := hO.fr1.fr1
    exact ⟨rfl, _, fr_m 137 rfl, hC, hO, h0, h2, hl0x2, hb0, hl1x1, hl1x3, hl1x4, hb1, a0, a1⟩
   ·rintro k144 s142 o146 a a7 ⟨σ, rfl, hC, hO, h0, h2, hl0x2, hb0, hl1x1, hl1x3, hl1x4, hb1, a0, a1⟩ hlt hw hs
    refine c_sr (za _ (zu rfl rfl) (zb (zd (zh (dt hlt) (wp_skip (zd (wp_block (c_sr (mi rfl ?_)))))))))
    obtain ⟨x148, l7, hs⟩ := bind_some hs
    obtain ⟨l8, l9, m0, g1⟩ := zH Sl28 Sz77 hl1x1 l7
    refine za _ (ip m0 rfl rfl) ?_
    obtain ⟨r6, m1, m2⟩ := Zd Ag77 Sz77 (by intro h; cases h) g1
    obtain ⟨r7, rfl, m3⟩ := m2
    obtain ⟨r8, r9, rfl, m4, m5⟩ := Yo m3
    obtain rfl := Yy m4
    obtain ⟨c7, c8, c9, rfl, b4⟩ := xc m5
    refine za (.agg #[(iv x148.1), (sv c7 c8 c9)]) (zo rfl (m1 _ (Chg.refl _ _))) ?_
    obtain ⟨m6, c1, m7, h5, c4, h6⟩ := zf a7 [(iv 0), (sv none 0 0)] 77
    refine za (w' := m6) (pq c1 0) (YC (by rw [m7, h5]; kernel_rfl)) ?_
    obtain ⟨h0, h2, hl0x2, hb0, hl1x1, hl1x3, hl1x4, hb1⟩ := xt8 c4 h0 h2 hl0x2 hb0 hl1x1 hl1x3 hl1x4 hb1
    obtain ⟨a0, a1, b4, g1, hC⟩ := xt5 c4 a0 a1 b4 g1 hC
    have hO := hO.new1 c4 h5 h6.lt
    refine ai rfl ?_
    obtain ⟨h7, m8, d0, b5⟩ := Zy (P := Tryz.prog) h6 [] [(iv 0), (sv none 0 0)] [] [(iv x148.1), (sv c7 c8 c9)] rfl rfl (oc rfl)
    refine Zp (w' := h7) (zZ rfl rfl (m8 _ _ rfl Sz77)) ?_
    have h0 := h0.mt d0 hO zk
    have h2 := h2.mt d0 hO zk
    have hl0x2 := hl0x2.mt d0 hO zk
    have hb0 := hb0.mut d0 (fun q hq => hO.inM q ((fun _ h => h) q hq))
    have hl1x1 := hl1x1.mt d0 hO zk
    have hl1x3 := hl1x3.mt d0 hO zk
    have hl1x4 := hl1x4.mt d0 hO zk
    have hb1 := hb1.mut d0 (fun q hq => hO.inM q ((fun _ h => h) q hq))
    have a0 := a0.ap d0 hO zk (zl mS)
    have a1 := a1.ma d0 hO zk (fun _ e => (zF (e)))
    have b4 := b4.mt d0 hO zk
    have hC := hC.st d0 hO zk
    have hO := hO.ext d0
    have b5 : BoxV h7 c1 77 [(iv x148.1), (sv c7 c8 c9)] := b5
    refine zb (c_sr (ms rfl (mi rfl ?_)))
    obtain ⟨x154, m9, hs⟩ := bind_some hs
    obtain ⟨n0, n1, n2, n3⟩ := zH Sl45 Sz34 h2 m9
    refine za _ (ip n2 rfl rfl) ?_
    obtain ⟨s0, n4, b6⟩ := Zd Ag34 Sz34 (fun _ => rfl) n3
    obtain ⟨d7, d8, d9, rfl⟩ := yp b6
    refine za (sv d7 d8 d9) (zo rfl (n4 _ (Chg.refl _ _))) (za _ (zn Sl34 (zt b6) rfl) (mi rfl (zb ?_)))
    obtain ⟨o189, n5, hs⟩ := bind_some hs
    refine wp_block (zV (id := 6) (x154.length : Int) (I := fun k187 s185 a a5 => ∃ (σ : Nv), a = fr 137 (ovl σ [(0, (pq vg0 0)), (3, (sv pa2 pn2 pc2)), (6, (pq a3 0)), (12, (sv a8 a9 b2)), (17, (iv k144)), (18, (pq c1 0)), (65, (sv va1x1 vn1x1 vc1x1)), (66, (iv (b1.2.1.length : Int))), (67, (iv k144)), (75, (sv d7 d8 d9)), (76, (iv (x154.length : Int))), (77, (iv k187))]) ∧ Chg [] w a5 ∧ Own (Nw w []) M a5 ([c1] ++ (b3 ++ ([a3] ++ []))) ∧ rp.val M a5 (sv pa0 pn0 pc0) b.2 [] ∧ rm.val M a5 (sv pa2 pn2 pc2) tables [] ∧ rm.val M a5 (sv va0x2 vn0x2 vc0x2) b0.2 [] ∧ RBox M a5 vg0 59 [(pq vg1 0), (iv b0.1), (sv va0x2 vn0x2 vc0x2)] ∧ rp.val M a5 (sv va1x1 vn1x1 vc1x1) b1.2.1 [] ∧ rm.val M a5 (sv va1x3 vn1x3 vc1x3) b1.2.2.2.1 [] ∧ (RT.mr (Value.int .i64)).val M a5 (.map (some vn1x4)) b1.2.2.2.2 [] ∧ RBox M a5 vg1 90 [(iv b1.1), (sv va1x1 vn1x1 vc1x1), (iv b1.2.2.1), (sv va1x3 vn1x3 vc1x3), (.map (some vn1x4))] ∧ BoxV a5 a3 30 [(iv b.1), (sv pa0 pn0 pc0)] ∧ (RT.os 3 ri).val M a5 (sv a8 a9 b2) s26 b3 ∧ rl.val M a5 (sv c7 c8 c9) x148.2 [] ∧ BoxV a5 c1 77 [(iv x148.1), (sv c7 c8 c9)] ∧ rl.val M a5 (sv d7 d8 d9) x154 []) (J := fun s185 a a5 => ∃ (σ : Nv), a = fr 137 (ovl σ [(0, (pq vg0 0)), (3, (sv pa2 pn2 pc2)), (6, (pq a3 0)), (12, (sv a8 a9 b2)), (65, (sv va1x1 vn1x1 vc1x1)), (66, (iv (b1.2.1.length : Int))), (67, (iv k144))]) ∧ Chg [] w a5 ∧ Own (Nw w []) M a5 ([c1] ++ (b3 ++ ([a3] ++ []))) ∧ rp.val M a5 (sv pa0 pn0 pc0) b.2 [] ∧ rm.val M a5 (sv pa2 pn2 pc2) tables [] ∧ rm.val M a5 (sv va0x2 vn0x2 vc0x2) b0.2 [] ∧ RBox M a5 vg0 59 [(pq vg1 0), (iv b0.1), (sv va0x2 vn0x2 vc0x2)] ∧ rp.val M a5 (sv va1x1 vn1x1 vc1x1) b1.2.1 [] ∧ rm.val M a5 (sv va1x3 vn1x3 vc1x3) b1.2.2.2.1 [] ∧ (RT.mr (Value.int .i64)).val M a5 (.map (some vn1x4)) b1.2.2.2.2 [] ∧ RBox M a5 vg1 90 [(iv b1.1), (sv va1x1 vn1x1 vc1x1), (iv b1.2.2.1), (sv va1x3 vn1x3 vc1x3), (.map (some vn1x4))] ∧ BoxV a5 a3 30 [(iv b.1), (sv pa0 pn0 pc0)] ∧ (RT.os 3 ri).val M a5 (sv a8 a9 b2) s26 b3 ∧ rl.val M a5 (sv c7 c8 c9) x148.2 [] ∧ BoxV a5 c1 77 [(iv x148.1), (sv c7 c8 c9)] ∧ rl.val M a5 (sv d7 d8 d9) x154 []) (K := (yu M w)) ?_ ?_ 0 () o189 _ _ ?_ n5 ?_)
    ·rintro k187 s185 a a5 ⟨σ, rfl, hC, hO, h0, h2, hl0x2, hb0, hl1x1, hl1x3, hl1x4, hb1, a0, a1, b4, b5, b6⟩ hlt
     refine c_sr (za _ (zu rfl rfl) (zb (zd (zi (df hlt) (wp_exit ?_)))))
     have hO := hO.fr2.fr2.fr2
     exact ⟨rfl, _, fr_m 137 rfl, hC, hO, h0, h2, hl0x2, hb0, hl1x1, hl1x3, hl1x4, hb1, a0, a1, b4, b5, b6⟩
    ·rintro k187 s185 o189 a a5 ⟨σ, rfl, hC, hO, h0, h2, hl0x2, hb0, hl1x1, hl1x3, hl1x4, hb1, a0, a1, b4, b5, b6⟩ hlt hw hs
     refine c_sr (za _ (zu rfl rfl) (zb (zd (zh (dt hlt) (wp_skip (zd (wp_block (c_sr (mi rfl ?_)))))))))
     obtain ⟨x191, n6, hs⟩ := bind_some hs
     obtain ⟨n7, n8, n9, o0⟩ := zH Sl34 Sz3 b6 n6
     refine za _ (ip n9 rfl rfl) (za (iv x191) (zo rfl ((zm Ag3 Sz3 o0) _ (Chg.refl _ _))) (ai rfl (ai rfl (zb (c_sr (mi rfl (ai rfl (ai rfl (ai rfl (zb (zd (c_sr (ai rfl (zb ?_))))))))))))))
     obtain ⟨o201, o1, hs⟩ := bind_some hs
     refine wp_block (zV (id := 8) x148.1 (I := fun k199 s197 a a2 => ∃ (σ : Nv), a = fr 137 (ovl σ [(0, (pq vg0 0)), (3, (sv pa2 pn2 pc2)), (6, (pq a3 0)), (12, (sv a8 a9 b2)), (17, (iv k144)), (18, (pq c1 0)), (20, (iv x191)), (21, (iv s197.1)), (22, (iv s197.2.1)), (23, (iv s197.2.2)), (24, (iv k199)), (65, (sv va1x1 vn1x1 vc1x1)), (66, (iv (b1.2.1.length : Int))), (67, (iv k144)), (75, (sv d7 d8 d9)), (76, (iv (x154.length : Int))), (77, (iv k187))]) ∧ Chg [] w a2 ∧ Own (Nw w []) M a2 ([c1] ++ (b3 ++ ([a3] ++ []))) ∧ rp.val M a2 (sv pa0 pn0 pc0) b.2 [] ∧ rm.val M a2 (sv pa2 pn2 pc2) tables [] ∧ rm.val M a2 (sv va0x2 vn0x2 vc0x2) b0.2 [] ∧ RBox M a2 vg0 59 [(pq vg1 0), (iv b0.1), (sv va0x2 vn0x2 vc0x2)] ∧ rp.val M a2 (sv va1x1 vn1x1 vc1x1) b1.2.1 [] ∧ rm.val M a2 (sv va1x3 vn1x3 vc1x3) b1.2.2.2.1 [] ∧ (RT.mr (Value.int .i64)).val M a2 (.map (some vn1x4)) b1.2.2.2.2 [] ∧ RBox M a2 vg1 90 [(iv b1.1), (sv va1x1 vn1x1 vc1x1), (iv b1.2.2.1), (sv va1x3 vn1x3 vc1x3), (.map (some vn1x4))] ∧ BoxV a2 a3 30 [(iv b.1), (sv pa0 pn0 pc0)] ∧ (RT.os 3 ri).val M a2 (sv a8 a9 b2) s26 b3 ∧ rl.val M a2 (sv c7 c8 c9) x148.2 [] ∧ BoxV a2 c1 77 [(iv x148.1), (sv c7 c8 c9)] ∧ rl.val M a2 (sv d7 d8 d9) x154 []) (J := fun s197 a a2 => ∃ (σ : Nv), a = fr 137 (ovl σ [(0, (pq vg0 0)), (3, (sv pa2 pn2 pc2)), (6, (pq a3 0)), (12, (sv a8 a9 b2)), (17, (iv k144)), (18, (pq c1 0)), (20, (iv x191)), (21, (iv s197.1)), (65, (sv va1x1 vn1x1 vc1x1)), (66, (iv (b1.2.1.length : Int))), (67, (iv k144)), (75, (sv d7 d8 d9)), (76, (iv (x154.length : Int))), (77, (iv k187))]) ∧ Chg [] w a2 ∧ Own (Nw w []) M a2 ([c1] ++ (b3 ++ ([a3] ++ []))) ∧ rp.val M a2 (sv pa0 pn0 pc0) b.2 [] ∧ rm.val M a2 (sv pa2 pn2 pc2) tables [] ∧ rm.val M a2 (sv va0x2 vn0x2 vc0x2) b0.2 [] ∧ RBox M a2 vg0 59 [(pq vg1 0), (iv b0.1), (sv va0x2 vn0x2 vc0x2)] ∧ rp.val M a2 (sv va1x1 vn1x1 vc1x1) b1.2.1 [] ∧ rm.val M a2 (sv va1x3 vn1x3 vc1x3) b1.2.2.2.1 [] ∧ (RT.mr (Value.int .i64)).val M a2 (.map (some vn1x4)) b1.2.2.2.2 [] ∧ RBox M a2 vg1 90 [(iv b1.1), (sv va1x1 vn1x1 vc1x1), (iv b1.2.2.1), (sv va1x3 vn1x3 vc1x3), (.map (some vn1x4))] ∧ BoxV a2 a3 30 [(iv b.1), (sv pa0 pn0 pc0)] ∧ (RT.os 3 ri).val M a2 (sv a8 a9 b2) s26 b3 ∧ rl.val M a2 (sv c7 c8 c9) x148.2 [] ∧ BoxV a2 c1 77 [(iv x148.1), (sv c7 c8 c9)] ∧ rl.val M a2 (sv d7 d8 d9) x154 []) (K := (yu M w)) ?_ ?_ 0 (0, 1, k187) o201 _ _ ?_ o1 ?_)
     ·rintro k199 s197 a a2 ⟨σ, rfl, hC, hO, h0, h2, hl0x2, hb0, hl1x1, hl1x3, hl1x4, hb1, a0, a1, b4, b5, b6⟩ hlt
      refine zd (c_sr (mi rfl (za (pq c1 0) (zj rfl ZZ) (za _ (ld rfl Ag3 Sz3 b5 rfl) (za _ (zu rfl rfl) (zb (zi (df hlt) (wp_exit ?_))))))))
      have hO := hO.fr2.fr2.fr2
      exact ⟨rfl, _, fr_m 137 rfl, hC, hO, h0, h2, hl0x2, hb0, hl1x1, hl1x3, hl1x4, hb1, a0, a1, b4, b5, b6⟩
     ·rintro k199 s197 o201 a a2 ⟨σ, rfl, hC, hO, h0, h2, hl0x2, hb0, hl1x1, hl1x3, hl1x4, hb1, a0, a1, b4, b5, b6⟩ hlt hw hs
      refine zd (c_sr (mi rfl (za (pq c1 0) (zj rfl ZZ) (za _ (ld rfl Ag3 Sz3 b5 rfl) (za _ (zu rfl rfl) (zb (zh (dt hlt) (wp_skip (zd (wp_block (c_sr (mi rfl (ms rfl (mi rfl (mp rfl (za _ (Zs rfl) (za (pq vg0 0) (zj rfl ve) (za _ (ld rfl Ag57 Sz57 hb0.1 rfl) (za _ (Zs rfl) (za (pq vg1 3) (zj rfl YA) (za _ (ld rfl Ag45 Sz45 hb1.1 rfl) (za _ (zn Sl45 (zt hl1x3) rfl) ?_))))))))))))))))))))))
      obtain ⟨u203, o2, hs⟩ := bind_some hs
      refine za (iv (Int.tmod s197.2.2 (b1.2.2.2.1.length : Int))) (y_rem rfl rfl (Uv o2)) ?_
      obtain ⟨x204, o3, hs⟩ := bind_some hs
      obtain ⟨o4, s1, s2, s3, o5, o6, s4⟩ := zW Sl34 Sz3 a1 o3
      refine za _ (ip o5 rfl rfl) (za (iv x204) (zo rfl ((zm Ag3 Sz3 o6) _ (Chg.refl _ _))) (mi rfl (za _ (ymu rfl rfl) (za _ (yad rfl rfl) (ai rfl (zb (c_sr (mi rfl (mp rfl (za _ (Zs rfl) (za (pq vg0 0) (zj rfl ve) (za _ (ld rfl Ag57 Sz57 hb0.1 rfl) (za _ (Zs rfl) (za (pq vg1 3) (zj rfl YA) (za _ (ld rfl Ag45 Sz45 hb1.1 rfl) (za _ (zn Sl45 (zt hl1x3) rfl) ?_))))))))))))))))
      obtain ⟨u206, o7, hs⟩ := bind_some hs
      refine za (iv (w64 (Int.tdiv s197.2.2 (b1.2.2.2.1.length : Int)))) (y_quo rfl rfl (Uv o7)) (ai rfl (zb (ze (mi rfl (za (pq a3 0) (zj rfl yw) (za _ (ld rfl Ag3 Sz3 a0 rfl) (za _ (ymu rfl rfl) (ai rfl (zb (ze (mi rfl (za _ (yad rfl rfl) (ai rfl (zb ?_))))))))))))))
      cases hs
      have hO := hO.fr2.fr2.fr2
      exact ⟨_, zE 137 ⟨rfl, rfl, rfl, rfl, rfl, rfl, rfl, rfl, rfl, rfl, congrArg (Value.int .i64) hw, rfl, rfl, rfl, rfl, rfl, rfl, trivial⟩, hC, hO, h0, h2, hl0x2, hb0, hl1x1, hl1x3, hl1x4, hb1, a0, a1, b4, b5, b6⟩
     ·skip
      have hO := hO.fr2.fr2.fr2
      exact ⟨_, fr_m 137 rfl, hC, hO, h0, h2, hl0x2, hb0, hl1x1, hl1x3, hl1x4, hb1, a0, a1, b4, b5, b6⟩
     cases o201 with
     | nx _ => exact True.intro
     | rt r_ =>
      have hs := zq hs
      intro d4 e4 hK
      cases hs
      exact hK
     | br s197 =>
      have hs := zp hs
      rintro d4 a2 ⟨σ, rfl, hC, hO, h0, h2, hl0x2, hb0, hl1x1, hl1x3, hl1x4, hb1, a0, a1, b4, b5, b6⟩
      refine zd (zS [] Mx rfl ?_)
      have b7 := Chg.drew a2
      generalize World.drew a2 = o8 at b7 ⊢
      obtain ⟨h0, h2, hl0x2, hb0, hl1x1, hl1x3, hl1x4, hb1⟩ := xt8 b7 h0 h2 hl0x2 hb0 hl1x1 hl1x3 hl1x4 hb1
      obtain ⟨a0, a1, b4, b5, b6, hC, hO⟩ := xt7 b7 a0 a1 b4 b5 b6 hC hO
      have hS := Chg.refl [] o8
      refine xms 0 rfl rfl hS (xmi 1 rfl rfl hS ?_)
      obtain ⟨x208, o9, hs⟩ := bind_some hs
      obtain ⟨p0, s5, s6, s7, p1, p2, s8⟩ := zW Sl34 Sz3 a1 o9
      refine xq 2 _ rfl (ip p1 rfl rfl) hS (x_l 3 (iv x208) rfl (by kernel_rfl) (fun w' hw' => zo rfl ((zm Ag3 Sz3 p2) w' hw')) hS (xq 4 (pq a3 1) rfl (zj rfl Zr) hS (xl 5 rfl (ldx rfl Ag28 Sz28 a0 rfl) hS (xmi 6 rfl rfl hS ?_))))
      obtain ⟨x210, p3, hs⟩ := bind_some hs
      obtain ⟨h8, h9, p4, p5⟩ := zH Sl28 Sz77 h0 p3
      refine xq 7 _ rfl (ip p4 rfl rfl) hS ?_
      obtain ⟨_, p6⟩ := XV p5
      refine xq 8 (.pointer (some ⟨h8, h9 + 1, none⟩)) rfl (zj rfl xP) hS ?_
      obtain ⟨s9, p7, i0⟩ := Zd Ag34 Sz34 (fun _ => rfl) p6
      obtain ⟨p8, p9, q0, rfl⟩ := yp i0
      refine x_l 9 (sv p8 p9 q0) rfl (by kernel_rfl) (fun w' hw' => zo rfl (p7 w' hw')) hS (xmi 10 rfl rfl hS ?_)
      obtain ⟨x215, q1, hs⟩ := bind_some hs
      obtain ⟨q2, q3, q4, q5⟩ := zH Sl34 Sz3 i0 q1
      refine xq 11 _ rfl (ip q4 rfl rfl) hS (x_l 12 (iv x215) rfl (by kernel_rfl) (fun w' hw' => zo rfl ((zm Ag3 Sz3 q5) w' hw')) hS (xq 13 (.bool (x208 != x215)) rfl (xy rfl rfl) hS (xe ?_)))
      clear hS
      rcases zg hs with ⟨g2, hs⟩ | ⟨g2, hs⟩
      ·refine zh (cb g2) (c_sr (ax rfl (ab rfl (zb (wp_ret ?_)))))
       cases hs
       have hO := hO.drop.drop.drop.nil
       exact ⟨_, none, 0, 0, [], fr_m 137 rfl, hC, xF, hO.top⟩
      refine zi (cb g2) (wp_skip (ze (za _ (yad rfl rfl) (mi rfl (zb ?_)))))
      cases hs
      have hO := hO.fr2.fr2.fr2
      exact ⟨_, zE 137 ⟨rfl, rfl, rfl, rfl, rfl, rfl, rfl, rfl, rfl, rfl, rfl, congrArg (Value.int .i64) hw, trivial⟩, hC, hO, h0, h2, hl0x2, hb0, hl1x1, hl1x3, hl1x4, hb1, a0, a1, b4, b5, b6⟩
    ·skip
     have hO := hO.fr2.fr2.fr2
     exact ⟨_, fr_m 137 rfl, hC, hO, h0, h2, hl0x2, hb0, hl1x1, hl1x3, hl1x4, hb1, a0, a1, b4, b5, b6⟩
    cases o189 with
    | nx _ => exact True.intro
    | rt r_ =>
     have hs := zq hs
     intro d4 e4 hK
     cases hs
     exact hK
    | br s185 =>
     have hs := zp hs
     rintro d4 a5 ⟨σ, rfl, hC, hO, h0, h2, hl0x2, hb0, hl1x1, hl1x3, hl1x4, hb1, a0, a1, b4, b5, b6⟩
     refine ze (za _ (yad rfl rfl) (mi rfl (zb ?_)))
     cases hs
     have hO := hO.drop.fr1.fr1
     exact ⟨_, zE 137 ⟨rfl, rfl, rfl, rfl, rfl, rfl, congrArg (Value.int .i64) hw, trivial⟩, hC, hO, h0, h2, hl0x2, hb0, hl1x1, hl1x3, hl1x4, hb1, a0, a1⟩
   ·skip
    have hO := hO.fr1.fr1
    exact ⟨_, fr_m 137 rfl, hC, hO, h0, h2, hl0x2, hb0, hl1x1, hl1x3, hl1x4, hb1, a0, a1⟩
   cases o146 with
   | nx _ => exact True.intro
   | rt r_ =>
    have hs := zq hs
    intro d4 e4 hK
    cases hs
    exact hK
   | br s142 =>
    have hs := zp hs
    rintro d4 a7 ⟨σ, rfl, hC, hO, h0, h2, hl0x2, hb0, hl1x1, hl1x3, hl1x4, hb1, a0, a1⟩
    refine c_sr (ms rfl (ax rfl (ab rfl (zb (wp_ret ?_)))))
    cases hs
    have hO := hO.fr1.drop
    exact ⟨_, a8, a9, b2, b3, fr_m 137 rfl, hC, a1, hO.top⟩

theorem Bd28 : zG Tryz.prog 28 := zK Tryz.func28 (by kernel_rfl) rfl

theorem Bd29 : zG Tryz.prog 29 := zK Tryz.func29 (by kernel_rfl) rfl

theorem Bd30 : zG Tryz.prog 30 := zK Tryz.func30 (by kernel_rfl) rfl

theorem Bd33 : zG Tryz.prog 33 := zK Tryz.func33 (by kernel_rfl) rfl

def xn (M : Nat → Prop) (w0 : World) (r : Bool × Bool) (a : Act) (w : World) : Prop :=
  ∃ (σ : Nat → Value) , a = fr 64 (ovl σ [(6, (.bool r.1)), (7, (.bool r.2))]) ∧ Chg [] w0 w
def ZT (a_ : Int × (List (Int × (List Int)))) (k : Int) (b : Int × (List (Int × (List Int)))) : Option (Bool × Bool) :=
  (yq (a_.1, a_.2) k).bind fun r6 =>
  ((bif (!r6.2) then some true else (Yf (a_.1, a_.2) (b.1, b.2)).bind fun r13 =>
  some (!r13))).bind fun s8 =>
  (bif s8 then some (false, false) else (r6.1).bind fun p16 =>
  (yX (p16.2.1, p16.2.2) (p16.1.1.1, p16.1.1.2, p16.1.2.1, p16.1.2.2.1, p16.1.2.2.2)).bind fun r24 =>
  (bif (!r24.2) then some (false, false) else (Zv (p16.1.1.1, p16.1.1.2, p16.1.2.1, p16.1.2.2.1, p16.1.2.2.2)).bind fun r28 =>
  (iter (S := Int) (R := Bool × Bool) (fun s48 =>
  (ZG b.1 k).bind fun r55 =>
  (bif (decide (s48 < r55)) then (ZW s48 k b.1).bind fun r67 =>
  (ZE (b.1, b.2) r24.1 r28 r67 (p16.2.1, p16.2.2) (p16.1.1.1, p16.1.1.2, p16.1.2.1, p16.1.2.2.1, p16.1.2.2.2)).bind fun r70 =>
  (bif (!r70.2) then some (.rt (false, true)) else some (.nx (w64 (s48 + 1)))) else some (.br s48))) FU 0).bind fun o52 => after o52 (fun r_ => some r_) (fun s48 =>
  some (true, true))))
theorem XZ {M : Nat → Prop} {w : World} {pa0 : OA} {pn0 pc0 : Nat} {pa1 : OA} {pn1 pc1 : Nat} (a_ : tA) (k : Int) (b : tA) (h0 : rp.val M w (sv pa0 pn0 pc0) a_.2 []) (h1 : rp.val M w (sv pa1 pn1 pc1) b.2 []) (hM : Hm w M) {r : Bool × Bool} (hs : ZT a_ k b = some r) :
    Gives Tryz.prog 9 [(.agg #[(iv a_.1), (sv pa0 pn0 pc0)]), (iv k), (.agg #[(iv b.1), (sv pa1 pn1 pc1)])] w (fun v w' => v = (.tuple #[(.bool r.1), (.bool r.2)]) ∧ Chg [] w w') := by
 refine zr Tryz.func9 rfl Tryz.ntmps9 (nl rfl) ?_
 have hO := Own.start (N := Nw w []) hM Nw.fut
 have hC := Chg.refl [] w
 unfold ZT at hs
 refine wp_k (K := (xn M w r)) (by rintro _ _ ⟨σ, rfl, hrest⟩; exact XP Tryz.results9 (zB rfl) (zB rfl) ⟨rfl, hrest⟩) (c_sr ?_)
 obtain ⟨g2, c8, h2, g3, f2, b8⟩ := zf w [(iv a_.1), (sv pa0 pn0 pc0)] 30
 refine za (w' := g2) (pq c8 0) (Zn rfl (by rw [h2, g3]; kernel_rfl)) ?_
 obtain ⟨h0, h1, hC⟩ := xt3 f2 h0 h1 hC
 have hO := hO.new1 f2 g3 b8.lt
 obtain ⟨a1, b4, h3, g4, e6, a4⟩ := zf g2 [(iv b.1), (sv pa1 pn1 pc1)] 30
 refine za (w' := a1) (pq b4 0) (Zn rfl (by rw [h3, g4]; kernel_rfl)) ?_
 obtain ⟨h0, h1, b8, hC⟩ := xt4 e6 h0 h1 b8 hC
 have hO := hO.new1 e6 g4 a4.lt
 refine ab rfl (ab rfl (zb (c_sr (za _ (ldw rfl Ag30 b8 Sz30) (mi rfl ?_)))))
 obtain ⟨r6, h4, hs⟩ := bind_some hs
 refine zA Bd28 rfl (uN (M := M) (a_.1, a_.2) k h0 hO.fut h4) ?_
 rintro _ a0 ⟨e7, a2, rfl, e4, e8, h5⟩
 have hO := hO.perm (R := [] ++ ([b4] ++ ([c8] ++ []))) (by simp)
 have h6 := Own.pastL hO e4 h5
 have hK := (show Keeps w M (PastL M [] a1 a0 (a2 ++ [])) from Keeps.pastL hC.size (fun g hg => (hO.inN g hg).resolve_left (fun h => nomatch h)))
 obtain ⟨h0, h1, b8, a4, hC⟩ := xt5 e4 h0 h1 b8 a4 hC
 have hO := h6
 have h0 := h0.sub (M' := (PastL M [] a1 a0 (a2 ++ []))) (fun g hg => .inl hg.1)
 have h1 := h1.sub (M' := (PastL M [] a1 a0 (a2 ++ []))) (fun g hg => .inl hg.1)
 have hO := hO.perm (R := a2 ++ ([b4] ++ ([c8] ++ []))) (by simp)
 refine za (.tuple #[e7, (.bool r6.2)]) (zx rfl) (za e7 (zJ rfl (by kernel_rfl)) (za (.bool r6.2) (zJ rfl (by kernel_rfl)) (za e7 (zy rfl) (ab rfl (zb (zd (zd ?_)))))))
 obtain ⟨s8, h7, hs⟩ := bind_some hs
 refine yR (I := fun a f3 => ∃ (σ : Nv), a = fr 64 (ovl σ [(1, (iv k)), (5, (pq b4 0)), (6, (.bool false)), (7, (.bool false)), (8, e7), (9, (.bool r6.2)), (28, (.bool s8))]) ∧ Chg [] a0 f3) ?_ ?_
 ·replace hs := h7
  have hMid := Chg.refl [] a0
  refine ze (mb rfl (za _ (ZH rfl) (mb rfl ?_)))
  rcases zg hs with ⟨c5, hs⟩ | ⟨c5, hs⟩
  ·skip
   refine pn 23 (cb c5) (pn 23 (cb c5) (pn 23 (cb c5) (pn 23 (cb c5) (za _ (ptb (cb c5) rfl) (zb ?_)))))
   cases hs
   exact ⟨_, fr_m 64 rfl, hMid⟩
  refine py 23 _ (cb c5) (ldw rfl Ag30 b8 Sz30) (py 23 _ (cb c5) (ldw rfl Ag30 a4 Sz30) ?_)
  obtain ⟨r13, h8, hs⟩ := bind_some hs
  refine Ya (tg := 23) (by kernel_rfl) (cb c5) Bd29 rfl (Vs (M := (PastL M [] a1 a0 (a2 ++ []))) (a_.1, a_.2) (b.1, b.2) h0 h1 hO.fut h8) ?_
  rintro _ l2 ⟨rfl, c9⟩
  obtain ⟨h0, h1, b8, a4, e8, hMid, hC, hO⟩ := xt8 c9 h0 h1 b8 a4 e8 hMid hC hO
  refine py 23 _ (cb c5) (ZH rfl) (za _ (pfb (cb c5) rfl) (zb ?_))
  cases hs
  exact ⟨_, fr_m 64 rfl, hMid⟩
 rintro g5 f3 ⟨σ, rfl, e5⟩
 obtain ⟨h1, b8, a4, e8, hC, hO⟩ := xt6 e5 h1 b8 a4 e8 hC hO
 rcases zg hs with ⟨f5, hs⟩ | ⟨f5, hs⟩
 ·refine zh (cb f5) (c_sr (ab rfl (ab rfl (zb (wp_ret ?_)))))
  cases hs
  exact ⟨_, fr_m 64 rfl, hC⟩
 refine zi (cb f5) (wp_skip (c_sr (za e7 (zx rfl) ?_)))
 obtain ⟨p16, h9, hs⟩ := bind_some hs
 obtain ⟨a6, rfl, i0⟩ := op_get e8 h9
 obtain ⟨l3, l4, i1, a7, i2⟩ := UV i0
 obtain ⟨l5, l6, l7, l8, rfl, rfl, i3, i4⟩ := i2
 obtain ⟨a3, rfl, i5⟩ := po_rel i3
 obtain ⟨l9, m0, rfl, a8, i6⟩ := UV i5
 obtain ⟨m1, m2, m3, m4, rfl, rfl, i7, i9⟩ := i6
 obtain ⟨m5, m6, m7, m8, rfl, rfl, j0, j1⟩ := i7
 obtain ⟨rfl, rfl⟩ := j0
 obtain ⟨d0, d1, d2, rfl, rfl, a9⟩ := UT j1
 obtain ⟨m9, n0, n1, n2, rfl, rfl, j2, j3⟩ := i9
 obtain ⟨rfl, rfl⟩ := j2
 obtain ⟨n3, n4, b0, b1, rfl, rfl, j4, j5⟩ := j3
 obtain ⟨d3, d4, d5, rfl, b2⟩ := os_rel' j4
 obtain ⟨d6, rfl, b3⟩ := mo_rel' j5
 have a8 : BoxV f3 a3 90 [(iv p16.1.1.1), (sv d0 d1 d2), (iv p16.1.2.1), (sv d3 d4 d5), (.map (some d6))] := a8
 obtain ⟨n5, n6, n7, n8, rfl, rfl, j6, j7⟩ := i4
 obtain ⟨rfl, rfl⟩ := j6
 obtain ⟨d7, d8, d9, rfl, rfl, b5⟩ := UT j7
 have a7 : BoxV f3 a6 59 [(pq a3 0), (iv p16.2.1), (sv d7 d8 d9)] := a7
 have hO := ((((hO.perm (R := [a6] ++ ([a3] ++ (b0 ++ (b1 ++ ([b4] ++ ([c8] ++ [])))))) (by rw [i1]; simp)).fr3).fr3).fr3).fr3
 obtain ⟨r24, j8, hs⟩ := bind_some hs
 refine zA Bd30 rfl (WW (M := (Less (Less (Less (Less (PastL M [] a1 a0 (a2 ++ [])) [a6]) [a3]) b0) b1)) (p16.2.1, p16.2.2) (p16.1.1.1, p16.1.1.2, p16.1.2.1, p16.1.2.2.1, p16.1.2.2.2) (show RBox (Less (Less (Less (Less (PastL M [] a1 a0 (a2 ++ [])) [a6]) [a3]) b0) b1) _ a6 59 [(pq a3 0), (iv p16.2.1), (sv d7 d8 d9)] from ⟨a7, fun h => by simp [Less] at h⟩) ((((b5.sub Less.sub).sub Less.sub).sub Less.sub).sub Less.sub) (show RBox (Less (Less (Less (Less (PastL M [] a1 a0 (a2 ++ [])) [a6]) [a3]) b0) b1) _ a3 90 [(iv p16.1.1.1), (sv d0 d1 d2), (iv p16.1.2.1), (sv d3 d4 d5), (.map (some d6))] from ⟨a8, fun h => by simp [Less] at h⟩) ((((a9.sub Less.sub).sub Less.sub).sub Less.sub).sub Less.sub) ((((Frz.os (Frz.rs Frz.int))).val ((b2.sub Less.sub).sub Less.sub) Less.sub Less.not).sub Less.sub) ((Frz.mo).val (((b3.sub Less.sub).sub Less.sub).sub Less.sub) Less.sub Less.not) (((hO.less).less).less).less.fut j8) ?_
 rintro _ n9 ⟨e0, e1, e2, c0, rfl, c6, b6, j9⟩
 have hO := hO.fr3.fr3.fr3.fr3.perm (R := [] ++ ([a6] ++ ([a3] ++ (b0 ++ (b1 ++ ([b4] ++ ([c8] ++ []))))))) (by simp)
 obtain ⟨h1, b8, a4, a9, b2, b3, a8, b5⟩ := xt8 c6 h1 b8 a4 a9 b2 b3 a8 b5
 obtain ⟨a7, hC⟩ := xt2 c6 a7 hC
 have hO := Own.join hO c6 j9
 have hO := hO.perm (R := c0 ++ ([a6] ++ ([a3] ++ (b0 ++ (b1 ++ ([b4] ++ ([c8] ++ []))))))) (by simp)
 have b6 := b6.free (M' := (PastL M [] a1 a0 (a2 ++ []))) (Free.os (Free.os Free.int))
 refine za (.tuple #[(sv e0 e1 e2), (.bool r24.2)]) (zx rfl) (za (sv e0 e1 e2) (zJ rfl (by kernel_rfl)) (za (.bool r24.2) (zJ rfl (by kernel_rfl)) (ax rfl (ab rfl (zb (zd (c_sr (mb rfl (za _ (ZH rfl) (zb ?_))))))))))
 rcases zg hs with ⟨f6, hs⟩ | ⟨f6, hs⟩
 ·refine zh (cb f6) (c_sr (ab rfl (ab rfl (zb (wp_ret ?_)))))
  cases hs
  exact ⟨_, fr_m 64 rfl, hC⟩
 refine zi (cb f6) (wp_skip (c_sr (mp rfl (za _ (Zs rfl) (za (pq a6 0) (zj rfl ve) (za _ (ld rfl Ag57 Sz57 a7 rfl) ?_))))))
 have hO := hO.fr4.fr4.fr4
 obtain ⟨r28, k0, hs⟩ := bind_some hs
 refine zA Bd31 rfl (xj (M := (Less (Less (Less (PastL M [] a1 a0 (a2 ++ [])) [a3]) b0) b1)) (p16.1.1.1, p16.1.1.2, p16.1.2.1, p16.1.2.2.1, p16.1.2.2.2) (show RBox (Less (Less (Less (PastL M [] a1 a0 (a2 ++ [])) [a3]) b0) b1) _ a3 90 [(iv p16.1.1.1), (sv d0 d1 d2), (iv p16.1.2.1), (sv d3 d4 d5), (.map (some d6))] from ⟨a8, fun h => by simp [Less] at h⟩) (((a9.sub Less.sub).sub Less.sub).sub Less.sub) ((((Frz.os (Frz.rs Frz.int))).val (b2.sub Less.sub) Less.sub Less.not).sub Less.sub) ((Frz.mo).val ((b3.sub Less.sub).sub Less.sub) Less.sub Less.not) ((hO.less).less).less.fut k0) ?_
 rintro _ o0 ⟨e9, f0, f1, c7, rfl, c3, b7, k1⟩
 have hO := hO.fr2.fr2.fr2.perm (R := [] ++ ([a3] ++ (b0 ++ (b1 ++ (c0 ++ ([a6] ++ ([b4] ++ ([c8] ++ [])))))))) (by simp)
 obtain ⟨h1, b8, a4, a9, b2, b3, a8, b5⟩ := xt8 c3 h1 b8 a4 a9 b2 b3 a8 b5
 obtain ⟨a7, b6, hC⟩ := xt3 c3 a7 b6 hC
 have hO := Own.join hO c3 k1
 have hO := hO.perm (R := c7 ++ ([a3] ++ (b0 ++ (b1 ++ (c0 ++ ([a6] ++ ([b4] ++ ([c8] ++ [])))))))) (by simp)
 have b7 := b7.free (M' := (PastL M [] a1 a0 (a2 ++ []))) (Free.os (Free.os Free.int))
 refine ax rfl (zb (zd (c_sr (ai rfl (zb ?_)))))
 have hO := hO.fr7.drop
 obtain ⟨o52, k2, hs⟩ := bind_some hs
 refine wp_block (Zx (id := 0) (I := fun s48 a a5 => ∃ (σ : Nv), a = fr 64 (ovl σ [(1, (iv k)), (5, (pq b4 0)), (8, (pq a6 0)), (10, (sv e0 e1 e2)), (11, (sv e9 f0 f1)), (12, (iv s48))]) ∧ Chg [] w a5 ∧ Own (Nw w []) (PastL M [] a1 a0 (a2 ++ [])) a5 (c7 ++ ([a3] ++ (b0 ++ (b1 ++ (c0 ++ ([a6] ++ ([b4] ++ []))))))) ∧ rp.val (PastL M [] a1 a0 (a2 ++ [])) a5 (sv pa1 pn1 pc1) b.2 [] ∧ BoxV a5 b4 30 [(iv b.1), (sv pa1 pn1 pc1)] ∧ rp.val (PastL M [] a1 a0 (a2 ++ [])) a5 (sv d0 d1 d2) p16.1.1.2 [] ∧ (RT.os 34 rl).val (PastL M [] a1 a0 (a2 ++ [])) a5 (sv d3 d4 d5) p16.1.2.2.1 b0 ∧ (RT.mo (Value.int .i64)).val (PastL M [] a1 a0 (a2 ++ [])) a5 (.map (some d6)) p16.1.2.2.2 b1 ∧ BoxV a5 a3 90 [(iv p16.1.1.1), (sv d0 d1 d2), (iv p16.1.2.1), (sv d3 d4 d5), (.map (some d6))] ∧ rm.val (PastL M [] a1 a0 (a2 ++ [])) a5 (sv d7 d8 d9) p16.2.2 [] ∧ BoxV a5 a6 59 [(pq a3 0), (iv p16.2.1), (sv d7 d8 d9)] ∧ (RT.os 34 (RT.os 3 ri)).val (PastL M [] a1 a0 (a2 ++ [])) a5 (sv e0 e1 e2) r24.1 c0 ∧ (RT.os 34 (RT.os 3 ri)).val (PastL M [] a1 a0 (a2 ++ [])) a5 (sv e9 f0 f1) r28 c7) (J := fun s48 a a5 => ∃ (σ : Nv), a = fr 64 (ovl σ []) ∧ Chg [] w a5 ∧ Own (Nw w []) (PastL M [] a1 a0 (a2 ++ [])) a5 (c7 ++ ([a3] ++ (b0 ++ (b1 ++ (c0 ++ ([a6] ++ ([b4] ++ []))))))) ∧ rp.val (PastL M [] a1 a0 (a2 ++ [])) a5 (sv pa1 pn1 pc1) b.2 [] ∧ BoxV a5 b4 30 [(iv b.1), (sv pa1 pn1 pc1)] ∧ rp.val (PastL M [] a1 a0 (a2 ++ [])) a5 (sv d0 d1 d2) p16.1.1.2 [] ∧ (RT.os 34 rl).val (PastL M [] a1 a0 (a2 ++ [])) a5 (sv d3 d4 d5) p16.1.2.2.1 b0 ∧ (RT.mo (Value.int .i64)).val (PastL M [] a1 a0 (a2 ++ [])) a5 (.map (some d6)) p16.1.2.2.2 b1 ∧ BoxV a5 a3 90 [(iv p16.1.1.1), (sv d0 d1 d2), (iv p16.1.2.1), (sv d3 d4 d5), (.map (some d6))] ∧ rm.val (PastL M [] a1 a0 (a2 ++ [])) a5 (sv d7 d8 d9) p16.2.2 [] ∧ BoxV a5 a6 59 [(pq a3 0), (iv p16.2.1), (sv d7 d8 d9)] ∧ (RT.os 34 (RT.os 3 ri)).val (PastL M [] a1 a0 (a2 ++ [])) a5 (sv e0 e1 e2) r24.1 c0 ∧ (RT.os 34 (RT.os 3 ri)).val (PastL M [] a1 a0 (a2 ++ [])) a5 (sv e9 f0 f1) r28 c7) (K := (xn M w)) ?_ FU 0 o52 _ _ ?_ k2 ?_)
 ·rintro s48 o52 a a5 ⟨σ, rfl, hC, hO, h1, a4, a9, b2, b3, a8, b5, a7, b6, b7⟩ hs
  refine zd (c_sr (mi rfl (za (pq b4 0) (zj rfl yw) (za _ (ld rfl Ag3 Sz3 a4 rfl) (mi rfl ?_)))))
  obtain ⟨r55, k3, hs⟩ := bind_some hs
  refine zA Bd32 rfl (xE (M := (PastL M [] a1 a0 (a2 ++ []))) b.1 k  hO.fut k3) ?_
  rintro _ g6 ⟨rfl, c4⟩
  obtain ⟨h1, a4, a9, b2, b3, a8, b5, a7⟩ := xt8 c4 h1 a4 a9 b2 b3 a8 b5 a7
  obtain ⟨b6, b7, hC, hO⟩ := xt4 c4 b6 b7 hC hO
  refine za _ (zu rfl rfl) (zb ?_)
  rcases zg hs with ⟨f7, hs⟩ | ⟨f7, hs⟩
  ·refine zh (cb f7) (wp_skip (zd (wp_block (zd (zS [9] Mx rfl ?_)))))
   have c1 := Chg.drew g6
   generalize World.drew g6 = k4 at c1 ⊢
   obtain ⟨h1, a4, a9, b2, b3, a8, b5, a7⟩ := xt8 c1 h1 a4 a9 b2 b3 a8 b5 a7
   obtain ⟨b6, b7, hC, hO⟩ := xt4 c1 b6 b7 hC hO
   have hS := Chg.refl [] k4
   refine xmp 0 rfl rfl hS (xl 1 rfl (ldxw rfl Ag30 a4 Sz30) hS (xms 2 rfl rfl hS (xms 3 rfl rfl hS (xmi 4 rfl rfl hS (xmi 5 rfl rfl hS (xq 6 (pq b4 0) rfl (zj rfl yw) hS (xl 7 rfl (ldx rfl Ag3 Sz3 a4 rfl) hS (zI (i := 8) (by kernel_rfl) ?_))))))))
   obtain ⟨r67, k5, hs⟩ := bind_some hs
   refine zN (b := false) rfl Bd34 rfl (Xe (M := (PastL M [] a1 a0 (a2 ++ []))) s48 k b.1  hO.fut k5) rfl (by rintro _ _ _ ⟨k6, k7, k8, e3, rfl, b9, f4, g7⟩; exact hS.ext b9) ?_
   rintro _ o1 ⟨k6, k7, k8, e3, rfl, b9, f4, g7⟩
   obtain ⟨h1, a4, a9, b2, b3, a8, b5, a7⟩ := xt8 b9 h1 a4 a9 b2 b3 a8 b5 a7
   obtain ⟨b6, b7, hC⟩ := xt3 b9 b6 b7 hC
   have hO := Own.join0 hO b9 g7
   have hO := hO.perm (R := e3 ++ (c7 ++ ([a3] ++ (b0 ++ (b1 ++ (c0 ++ ([a6] ++ ([b4] ++ [])))))))) (by simp)
   have hS := hS.ext b9
   refine zI (i := 9) (by kernel_rfl) ?_
   have hO := hO.fr4.fr4.fr4.fr6.fr4.fr5.fr6
   obtain ⟨r70, k9, hs⟩ := bind_some hs
   refine zN (b := true) rfl Bd33 rfl (WX (M := (Less (Less (Less (Less (Less (Less (Less (PastL M [] a1 a0 (a2 ++ [])) c0) c7) e3) [a6]) [a3]) b0) b1)) (b.1, b.2) r24.1 r28 r67 (p16.2.1, p16.2.2) (p16.1.1.1, p16.1.1.2, p16.1.2.1, p16.1.2.2.1, p16.1.2.2.2) (((((((h1.sub Less.sub).sub Less.sub).sub Less.sub).sub Less.sub).sub Less.sub).sub Less.sub).sub Less.sub) (((((((((Frz.os (Frz.os Frz.int))).val b6 Less.sub Less.not).sub Less.sub).sub Less.sub).sub Less.sub).sub Less.sub).sub Less.sub).sub Less.sub) ((((((((Frz.os (Frz.os Frz.int))).val (b7.sub Less.sub) Less.sub Less.not).sub Less.sub).sub Less.sub).sub Less.sub).sub Less.sub).sub Less.sub) (((((((Frz.os Frz.int)).val ((f4.sub Less.sub).sub Less.sub) Less.sub Less.not).sub Less.sub).sub Less.sub).sub Less.sub).sub Less.sub) (show RBox (Less (Less (Less (Less (Less (Less (Less (PastL M [] a1 a0 (a2 ++ [])) c0) c7) e3) [a6]) [a3]) b0) b1) _ a6 59 [(pq a3 0), (iv p16.2.1), (sv d7 d8 d9)] from ⟨a7, fun h => by simp [Less] at h⟩) (((((((b5.sub Less.sub).sub Less.sub).sub Less.sub).sub Less.sub).sub Less.sub).sub Less.sub).sub Less.sub) (show RBox (Less (Less (Less (Less (Less (Less (Less (PastL M [] a1 a0 (a2 ++ [])) c0) c7) e3) [a6]) [a3]) b0) b1) _ a3 90 [(iv p16.1.1.1), (sv d0 d1 d2), (iv p16.1.2.1), (sv d3 d4 d5), (.map (some d6))] from ⟨a8, fun h => by simp [Less] at h⟩) (((((((a9.sub Less.sub).sub Less.sub).sub Less.sub).sub Less.sub).sub Less.sub).sub Less.sub).sub Less.sub) ((((Frz.os (Frz.rs Frz.int))).val (((((b2.sub Less.sub).sub Less.sub).sub Less.sub).sub Less.sub).sub Less.sub) Less.sub Less.not).sub Less.sub) ((Frz.mo).val ((((((b3.sub Less.sub).sub Less.sub).sub Less.sub).sub Less.sub).sub Less.sub).sub Less.sub) Less.sub Less.not) ((((((hO.less).less).less).less).less).less).less.fut k9) rfl (fun h => nomatch h) ?_
   rintro _ o2 ⟨f8, f9, g0, l0, rfl, c2, g8, l1⟩
   have hO := hO.fr6.fr6.fr6.fr6.fr6.fr6.fr6.perm (R := [] ++ (c0 ++ (c7 ++ (e3 ++ ([a6] ++ ([a3] ++ (b0 ++ (b1 ++ ([b4] ++ []))))))))) (by simp)
   obtain ⟨h1, a4, a9, b2, b3, a8, b5, a7⟩ := xt8 c2 h1 a4 a9 b2 b3 a8 b5 a7
   obtain ⟨b6, b7, f4, hC⟩ := xt4 c2 b6 b7 f4 hC
   have hO := Own.join hO c2 l1
   have hO := hO.perm (R := l0 ++ (c0 ++ (c7 ++ (e3 ++ ([a6] ++ ([a3] ++ (b0 ++ (b1 ++ ([b4] ++ []))))))))) (by simp)
   have g8 := g8.free (M' := (PastL M [] a1 a0 (a2 ++ []))) (Free.os Free.int)
   refine x_p 10 (.tuple #[(sv f8 f9 g0), (.bool r70.2)]) rfl (by kernel_rfl) (fun _ => zx rfl) (fun h => nomatch h) (x_p 11 (sv f8 f9 g0) rfl (by kernel_rfl) (fun _ => zJ rfl (by kernel_rfl)) (fun h => nomatch h) (x_p 12 (.bool r70.2) rfl (by kernel_rfl) (fun _ => zJ rfl (by kernel_rfl)) (fun h => nomatch h) (x_p 13 (sv f8 f9 g0) rfl (by kernel_rfl) (fun _ => zy rfl) (fun h => nomatch h) (x_p 14 (.bool r70.2) rfl (by kernel_rfl) (fun _ => zy rfl) (fun h => nomatch h) (xe ?_)))))
   clear hS
   refine c_sr (mb rfl (za _ (ZH rfl) (zb ?_)))
   rcases zg hs with ⟨g1, hs⟩ | ⟨g1, hs⟩
   ·refine zh (cb g1) (c_sr (ab rfl (ab rfl (zb (wp_ret ?_)))))
    cases hs
    exact ⟨_, fr_m 64 rfl, hC⟩
   refine zi (cb g1) (wp_skip (ze (mi rfl (za _ (yad rfl rfl) (ai rfl (zb ?_))))))
   cases hs
   have hO := hO.drop.fr2.drop.fr6.fr3.fr2.fr6.fr6.fr6.fr6
   exact ⟨_, fr_m 64 rfl, hC, hO, h1, a4, a9, b2, b3, a8, b5, a7, b6, b7⟩
  refine zi (cb f7) (wp_exit ?_)
  cases hs
  have hO := hO.fr6.fr6.fr6.fr6.fr6.fr6.fr6
  exact ⟨rfl, _, zE 64 trivial, hC, hO, h1, a4, a9, b2, b3, a8, b5, a7, b6, b7⟩
 ·skip
  have hO := hO.fr6.fr6.fr6.fr6.fr6.fr6.fr6
  exact ⟨_, fr_m 64 rfl, hC, hO, h1, a4, a9, b2, b3, a8, b5, a7, b6, b7⟩
 cases o52 with
 | nx _ => exact True.intro
 | rt r_ =>
  have hs := zq hs
  intro g5 g9 hK
  cases hs
  exact hK
 | br s48 =>
  have hs := zp hs
  rintro g5 a5 ⟨σ, rfl, hC, hO, h1, a4, a9, b2, b3, a8, b5, a7, b6, b7⟩
  refine c_sr (ab rfl (ab rfl (zb (wp_ret ?_))))
  cases hs
  exact ⟨_, fr_m 64 rfl, hC⟩

def Wv (M : Nat → Prop) (w0 : World) (r : Bool) (a : Act) (w : World) : Prop :=
  ∃ (σ : Nat → Value) , a = fr 26 (ovl σ [(4, (.bool r))]) ∧ Chg [] w0 w
def YI (a_ : List Int) (b : List Int) : Option (Bool) :=
  (bif ((a_.length : Int) != (b.length : Int)) then some false else (forC (S := Unit) (R := Bool) (fun k12 s10 =>
  (idx a_ k12).bind fun x17 =>
  (idx b k12).bind fun x19 =>
  (bif (x17 != x19) then some (.rt false) else some (.nx ()))) 0 (a_.length : Int) ()).bind fun o14 => after o14 (fun r_ => some r_) (fun s10 =>
  some true))
theorem uH {M : Nat → Prop} {w : World} {pa0 : OA} {pn0 pc0 : Nat} {pa1 : OA} {pn1 pc1 : Nat} (a_ : List Int) (b : List Int) (h0 : rl.val M w (sv pa0 pn0 pc0) a_ []) (h1 : rl.val M w (sv pa1 pn1 pc1) b []) (hM : Hm w M) {r : Bool} (hs : YI a_ b = some r) :
    Gives Tryz.prog 14 [(sv pa0 pn0 pc0), (sv pa1 pn1 pc1)] w (fun v w' => v = (.bool r) ∧ Chg [] w w') := by
 refine zr Tryz.func14 rfl Tryz.ntmps14 (nl rfl) ?_
 have hO := Own.start (N := Nw w []) hM Nw.fut
 have hC := Chg.refl [] w
 unfold YI at hs
 refine wp_k (K := (Wv M w r)) (by rintro _ _ ⟨σ, rfl, hrest⟩; exact Ze Tryz.results14 (zB rfl) ⟨rfl, hrest⟩) (c_sr (ab rfl (zb (zd (c_sr (ms rfl (za _ (zn Sl34 (zt h0) rfl) (ms rfl (za _ (zn Sl34 (zt h1) rfl) (za (.bool ((a_.length : Int) != (b.length : Int))) (xy rfl rfl) (zb ?_)))))))))))
 rcases zg hs with ⟨a2, hs⟩ | ⟨a2, hs⟩
 ·refine zh (cb a2) (c_sr (ab rfl (zb (wp_ret ?_))))
  cases hs
  exact ⟨_, fr_m 26 rfl, hC⟩
 refine zi (cb a2) (wp_skip (zd (c_sr (ai rfl (zb ?_)))))
 obtain ⟨o14, a5, hs⟩ := bind_some hs
 refine wp_block (zV (id := 0) (a_.length : Int) (I := fun k12 s10 a a0 => ∃ (σ : Nv), a = fr 26 (ovl σ [(0, (sv pa0 pn0 pc0)), (1, (sv pa1 pn1 pc1)), (5, (iv k12))]) ∧ Chg [] w a0 ∧ Own (Nw w []) M a0 [] ∧ rl.val M a0 (sv pa0 pn0 pc0) a_ [] ∧ rl.val M a0 (sv pa1 pn1 pc1) b []) (J := fun s10 a a0 => ∃ (σ : Nv), a = fr 26 (ovl σ []) ∧ Chg [] w a0 ∧ Own (Nw w []) M a0 [] ∧ rl.val M a0 (sv pa0 pn0 pc0) a_ [] ∧ rl.val M a0 (sv pa1 pn1 pc1) b []) (K := (Wv M w)) ?_ ?_ 0 () o14 _ _ ?_ a5 ?_)
 ·rintro k12 s10 a a0 ⟨σ, rfl, hC, hO, h0, h1⟩ hlt
  refine zd (c_sr (mi rfl (ms rfl (za _ (zn Sl34 (zt h0) rfl) (za _ (zu rfl rfl) (zb (zi (df hlt) (wp_exit ?_))))))))
  exact ⟨rfl, _, zE 26 trivial, hC, hO, h0, h1⟩
 ·rintro k12 s10 o14 a a0 ⟨σ, rfl, hC, hO, h0, h1⟩ hlt hw hs
  refine zd (c_sr (mi rfl (ms rfl (za _ (zn Sl34 (zt h0) rfl) (za _ (zu rfl rfl) (zb (zh (dt hlt) (wp_skip (zd (wp_block (zd (zS [] Mx rfl ?_))))))))))))
  have a1 := Chg.drew a0
  generalize World.drew a0 = a6 at a1 ⊢
  obtain ⟨h0, h1, hC, hO⟩ := xt4 a1 h0 h1 hC hO
  have hS := Chg.refl [] a6
  refine xms 0 rfl rfl hS (xmi 1 rfl rfl hS ?_)
  obtain ⟨x17, a7, hs⟩ := bind_some hs
  obtain ⟨a8, a9, b0, b1⟩ := zH Sl34 Sz3 h0 a7
  refine xq 2 _ rfl (ip b0 rfl rfl) hS (x_l 3 (iv x17) rfl (by kernel_rfl) (fun w' hw' => zo rfl ((zm Ag3 Sz3 b1) w' hw')) hS (xms 4 rfl rfl hS (xmi 5 rfl rfl hS ?_)))
  obtain ⟨x19, b2, hs⟩ := bind_some hs
  obtain ⟨b3, b4, b5, b6⟩ := zH Sl34 Sz3 h1 b2
  refine xq 6 _ rfl (ip b5 rfl rfl) hS (x_l 7 (iv x19) rfl (by kernel_rfl) (fun w' hw' => zo rfl ((zm Ag3 Sz3 b6) w' hw')) hS (xq 8 (.bool (x17 != x19)) rfl (xy rfl rfl) hS (xe ?_)))
  clear hS
  rcases zg hs with ⟨a3, hs⟩ | ⟨a3, hs⟩
  ·refine zh (cb a3) (c_sr (ab rfl (zb (wp_ret ?_))))
   cases hs
   exact ⟨_, fr_m 26 rfl, hC⟩
  refine zi (cb a3) (wp_skip (ze (mi rfl (za _ (yad rfl rfl) (ai rfl (zb ?_))))))
  cases hs
  exact ⟨_, zE 26 ⟨rfl, rfl, congrArg (Value.int .i64) hw, trivial⟩, hC, hO, h0, h1⟩
 ·skip
  exact ⟨_, fr_m 26 rfl, hC, hO, h0, h1⟩
 cases o14 with
 | nx _ => exact True.intro
 | rt r_ =>
  have hs := zq hs
  intro b7 a4 hK
  cases hs
  exact hK
 | br s10 =>
  have hs := zp hs
  rintro b7 a0 ⟨σ, rfl, hC, hO, h0, h1⟩
  refine c_sr (ab rfl (zb (wp_ret ?_)))
  cases hs
  exact ⟨_, fr_m 26 rfl, hC⟩

theorem Bd14 : zG Tryz.prog 14 := zK Tryz.func14 (by kernel_rfl) rfl

def zaD (M : Nat → Prop) (w0 : World) (r : Bool) (a : Act) (w : World) : Prop :=
  ∃ (σ : Nat → Value) , a = fr 16 (ovl σ [(4, (.bool r))]) ∧ Chg [] w0 w
def xw (a_ : Int × (List Int)) (b : Int × (List Int)) : Option (Bool) :=
  (bif (a_.1 != b.1) then some false else (YI a_.2 b.2).bind fun r7 =>
  (bif (!r7) then some false else some true))
theorem zaF {M : Nat → Prop} {w : World} {pa0 : OA} {pn0 pc0 : Nat} {pa1 : OA} {pn1 pc1 : Nat} (a_ : Int × (List Int)) (b : Int × (List Int)) (h0 : rl.val M w (sv pa0 pn0 pc0) a_.2 []) (h1 : rl.val M w (sv pa1 pn1 pc1) b.2 []) (hM : Hm w M) {r : Bool} (hs : xw a_ b = some r) :
    Gives Tryz.prog 66 [(.agg #[(iv a_.1), (sv pa0 pn0 pc0)]), (.agg #[(iv b.1), (sv pa1 pn1 pc1)])] w (fun v w' => v = (.bool r) ∧ Chg [] w w') := by
 refine zr Tryz.func66 rfl Tryz.ntmps66 (nl rfl) ?_
 have hO := Own.start (N := Nw w []) hM Nw.fut
 have hC := Chg.refl [] w
 unfold xw at hs
 refine wp_k (K := (zaD M w r)) (by rintro _ _ ⟨σ, rfl, hrest⟩; exact Ze Tryz.results66 (zB rfl) ⟨rfl, hrest⟩) (c_sr ?_)
 obtain ⟨a9, a5, b2, b0, a4, a0⟩ := zf w [(iv a_.1), (sv pa0 pn0 pc0)] 77
 refine za (w' := a9) (pq a5 0) (Zn rfl (by rw [b2, b0]; kernel_rfl)) ?_
 obtain ⟨h0, h1, hC⟩ := xt3 a4 h0 h1 hC
 have hO := hO.new1 a4 b0 a0.lt
 obtain ⟨b3, a6, b4, b1, a2, a3⟩ := zf a9 [(iv b.1), (sv pa1 pn1 pc1)] 77
 refine za (w' := b3) (pq a6 0) (Zn rfl (by rw [b4, b1]; kernel_rfl)) ?_
 obtain ⟨h0, h1, a0, hC⟩ := xt4 a2 h0 h1 a0 hC
 have hO := hO.new1 a2 b1 a3.lt
 refine ab rfl (zb (zd (c_sr (za (pq a5 0) (zj rfl ZZ) (za _ (ld rfl Ag3 Sz3 a0 rfl) (za (pq a6 0) (zj rfl ZZ) (za _ (ld rfl Ag3 Sz3 a3 rfl) (za (.bool (a_.1 != b.1)) (xy rfl rfl) (zb ?_)))))))))
 rcases zg hs with ⟨a7, hs⟩ | ⟨a7, hs⟩
 ·refine zh (cb a7) (c_sr (ab rfl (zb (wp_ret ?_))))
  cases hs
  exact ⟨_, fr_m 16 rfl, hC⟩
 refine zi (cb a7) (wp_skip (zd (c_sr (za (pq a5 1) (zj rfl xP) (za _ (ld rfl Ag34 Sz34 a0 rfl) (za (pq a6 1) (zj rfl xP) (za _ (ld rfl Ag34 Sz34 a3 rfl) ?_)))))))
 obtain ⟨r7, b5, hs⟩ := bind_some hs
 refine zA Bd14 rfl (uH (M := M) a_.2 b.2 h0 h1 hO.fut b5) ?_
 rintro _ b7 ⟨rfl, a1⟩
 obtain ⟨h0, h1, a0, a3, hC, hO⟩ := xt6 a1 h0 h1 a0 a3 hC hO
 refine za _ (ZH rfl) (zb ?_)
 have hO := hO.drop.drop
 rcases zg hs with ⟨a8, hs⟩ | ⟨a8, hs⟩
 ·refine zh (cb a8) (c_sr (ab rfl (zb (wp_ret ?_))))
  cases hs
  exact ⟨_, fr_m 16 rfl, hC⟩
 refine zi (cb a8) (wp_skip (c_sr (ab rfl (zb (wp_ret ?_)))))
 cases hs
 exact ⟨_, fr_m 16 rfl, hC⟩

theorem Bd66 : zG Tryz.prog 66 := zK Tryz.func66 (by kernel_rfl) rfl

def vE (M : Nat → Prop) (w0 : World) (r : Bool) (a : Act) (w : World) : Prop :=
  ∃ (σ : Nat → Value) , a = fr 27 (ovl σ [(4, (.bool r))]) ∧ Chg [] w0 w
def Xv (a_ : List (Int × (List Int))) (b : List (Int × (List Int))) : Option (Bool) :=
  (bif ((a_.length : Int) != (b.length : Int)) then some false else (forC (S := Unit) (R := Bool) (fun k18 s16 =>
  (idx a_ k18).bind fun x23 =>
  (idx b k18).bind fun x27 =>
  (xw (x23.1, x23.2) (x27.1, x27.2)).bind fun r32 =>
  (bif (!r32) then some (.rt false) else some (.nx ()))) 0 (a_.length : Int) ()).bind fun o20 => after o20 (fun r_ => some r_) (fun s16 =>
  some true))
theorem UN {M : Nat → Prop} {w : World} {pa0 : OA} {pn0 pc0 : Nat} {pa1 : OA} {pn1 pc1 : Nat} (a_ : List (Int × (List Int))) (b : List (Int × (List Int))) (h0 : rp.val M w (sv pa0 pn0 pc0) a_ []) (h1 : rp.val M w (sv pa1 pn1 pc1) b []) (hM : Hm w M) {r : Bool} (hs : Xv a_ b = some r) :
    Gives Tryz.prog 35 [(sv pa0 pn0 pc0), (sv pa1 pn1 pc1)] w (fun v w' => v = (.bool r) ∧ Chg [] w w') := by
 refine zr Tryz.func35 rfl Tryz.ntmps35 (nl rfl) ?_
 have hO := Own.start (N := Nw w []) hM Nw.fut
 have hC := Chg.refl [] w
 unfold Xv at hs
 refine wp_k (K := (vE M w r)) (by rintro _ _ ⟨σ, rfl, hrest⟩; exact Ze Tryz.results35 (zB rfl) ⟨rfl, hrest⟩) (c_sr (ab rfl (zb (zd (c_sr (ms rfl (za _ (zn Sl28 (zt h0) rfl) (ms rfl (za _ (zn Sl28 (zt h1) rfl) (za (.bool ((a_.length : Int) != (b.length : Int))) (xy rfl rfl) (zb ?_)))))))))))
 rcases zg hs with ⟨a3, hs⟩ | ⟨a3, hs⟩
 ·refine zh (cb a3) (c_sr (ab rfl (zb (wp_ret ?_))))
  cases hs
  exact ⟨_, fr_m 27 rfl, hC⟩
 refine zi (cb a3) (wp_skip (zd (c_sr (ai rfl (zb ?_)))))
 obtain ⟨o20, b0, hs⟩ := bind_some hs
 refine wp_block (zV (id := 0) (a_.length : Int) (I := fun k18 s16 a a0 => ∃ (σ : Nv), a = fr 27 (ovl σ [(0, (sv pa0 pn0 pc0)), (1, (sv pa1 pn1 pc1)), (5, (iv k18))]) ∧ Chg [] w a0 ∧ Own (Nw w []) M a0 [] ∧ rp.val M a0 (sv pa0 pn0 pc0) a_ [] ∧ rp.val M a0 (sv pa1 pn1 pc1) b []) (J := fun s16 a a0 => ∃ (σ : Nv), a = fr 27 (ovl σ []) ∧ Chg [] w a0 ∧ Own (Nw w []) M a0 [] ∧ rp.val M a0 (sv pa0 pn0 pc0) a_ [] ∧ rp.val M a0 (sv pa1 pn1 pc1) b []) (K := (vE M w)) ?_ ?_ 0 () o20 _ _ ?_ b0 ?_)
 ·rintro k18 s16 a a0 ⟨σ, rfl, hC, hO, h0, h1⟩ hlt
  refine zd (c_sr (mi rfl (ms rfl (za _ (zn Sl28 (zt h0) rfl) (za _ (zu rfl rfl) (zb (zi (df hlt) (wp_exit ?_))))))))
  exact ⟨rfl, _, zE 27 trivial, hC, hO, h0, h1⟩
 ·rintro k18 s16 o20 a a0 ⟨σ, rfl, hC, hO, h0, h1⟩ hlt hw hs
  refine zd (c_sr (mi rfl (ms rfl (za _ (zn Sl28 (zt h0) rfl) (za _ (zu rfl rfl) (zb (zh (dt hlt) (wp_skip (zd (wp_block (zd (zS [] Mx rfl ?_))))))))))))
  have a2 := Chg.drew a0
  generalize World.drew a0 = b1 at a2 ⊢
  obtain ⟨h0, h1, hC, hO⟩ := xt4 a2 h0 h1 hC hO
  have hS := Chg.refl [] b1
  refine xms 0 rfl rfl hS (xmi 1 rfl rfl hS ?_)
  obtain ⟨x23, b2, hs⟩ := bind_some hs
  obtain ⟨b3, b4, b5, a4⟩ := zH Sl28 Sz77 h0 b2
  refine xq 2 _ rfl (ip b5 rfl rfl) hS ?_
  obtain ⟨d8, b6, b7⟩ := Zd Ag77 Sz77 (by intro h; cases h) a4
  obtain ⟨d9, rfl, b8⟩ := b7
  obtain ⟨e0, e1, rfl, b9, c0⟩ := Yo b8
  obtain rfl := Yy b9
  obtain ⟨c1, c2, c3, rfl, a5⟩ := xc c0
  refine x_l 3 (.agg #[(iv x23.1), (sv c1 c2 c3)]) rfl (by kernel_rfl) (fun w' hw' => zo rfl (b6 w' hw')) hS (xms 4 rfl rfl hS (xmi 5 rfl rfl hS ?_))
  obtain ⟨x27, c4, hs⟩ := bind_some hs
  obtain ⟨c5, c6, c7, a6⟩ := zH Sl28 Sz77 h1 c4
  refine xq 6 _ rfl (ip c7 rfl rfl) hS ?_
  obtain ⟨e2, c8, c9⟩ := Zd Ag77 Sz77 (by intro h; cases h) a6
  obtain ⟨e3, rfl, d0⟩ := c9
  obtain ⟨e4, e5, rfl, d1, d2⟩ := Yo d0
  obtain rfl := Yy d1
  obtain ⟨d3, d4, d5, rfl, a7⟩ := xc d2
  refine x_l 7 (.agg #[(iv x27.1), (sv d3 d4 d5)]) rfl (by kernel_rfl) (fun w' hw' => zo rfl (c8 w' hw')) hS (zI (i := 8) (by kernel_rfl) ?_)
  obtain ⟨r32, d6, hs⟩ := bind_some hs
  refine zN (b := false) rfl Bd66 rfl (zaF (M := M) (x23.1, x23.2) (x27.1, x27.2) a5 a7 hO.fut d6) rfl (by rintro _ _ _ ⟨rfl, a1⟩; exact hS.ext a1) ?_
  rintro _ e6 ⟨rfl, a1⟩
  obtain ⟨h0, h1, a5, a7, a4, a6, hC, hO⟩ := xt8 a1 h0 h1 a5 a7 a4 a6 hC hO
  have hS := hS.ext a1
  refine xq 9 _ rfl (ZH rfl) hS (xe ?_)
  clear hS
  rcases zg hs with ⟨a8, hs⟩ | ⟨a8, hs⟩
  ·refine zh (cb a8) (c_sr (ab rfl (zb (wp_ret ?_))))
   cases hs
   exact ⟨_, fr_m 27 rfl, hC⟩
  refine zi (cb a8) (wp_skip (ze (mi rfl (za _ (yad rfl rfl) (ai rfl (zb ?_))))))
  cases hs
  exact ⟨_, zE 27 ⟨rfl, rfl, congrArg (Value.int .i64) hw, trivial⟩, hC, hO, h0, h1⟩
 ·skip
  exact ⟨_, fr_m 27 rfl, hC, hO, h0, h1⟩
 cases o20 with
 | nx _ => exact True.intro
 | rt r_ =>
  have hs := zq hs
  intro d7 a9 hK
  cases hs
  exact hK
 | br s16 =>
  have hs := zp hs
  rintro d7 a0 ⟨σ, rfl, hC, hO, h0, h1⟩
  refine c_sr (ab rfl (zb (wp_ret ?_)))
  cases hs
  exact ⟨_, fr_m 27 rfl, hC⟩

theorem Bd35 : zG Tryz.prog 35 := zK Tryz.func35 (by kernel_rfl) rfl

def vQ (M : Nat → Prop) (w0 : World) (r : Bool) (a : Act) (w : World) : Prop :=
  ∃ (σ : Nat → Value) , a = fr 16 (ovl σ [(4, (.bool r))]) ∧ Chg [] w0 w
def ym (a_ : Int × (List (Int × (List Int)))) (b : Int × (List (Int × (List Int)))) : Option (Bool) :=
  (bif (a_.1 != b.1) then some false else (Xv a_.2 b.2).bind fun r7 =>
  (bif (!r7) then some false else some true))
theorem wh {M : Nat → Prop} {w : World} {pa0 : OA} {pn0 pc0 : Nat} {pa1 : OA} {pn1 pc1 : Nat} (a_ : tA) (b : tA) (h0 : rp.val M w (sv pa0 pn0 pc0) a_.2 []) (h1 : rp.val M w (sv pa1 pn1 pc1) b.2 []) (hM : Hm w M) {r : Bool} (hs : ym a_ b = some r) :
    Gives Tryz.prog 10 [(.agg #[(iv a_.1), (sv pa0 pn0 pc0)]), (.agg #[(iv b.1), (sv pa1 pn1 pc1)])] w (fun v w' => v = (.bool r) ∧ Chg [] w w') := by
 refine zr Tryz.func10 rfl Tryz.ntmps10 (nl rfl) ?_
 have hO := Own.start (N := Nw w []) hM Nw.fut
 have hC := Chg.refl [] w
 unfold ym at hs
 refine wp_k (K := (vQ M w r)) (by rintro _ _ ⟨σ, rfl, hrest⟩; exact Ze Tryz.results10 (zB rfl) ⟨rfl, hrest⟩) (c_sr ?_)
 obtain ⟨a9, a5, b2, b0, a4, a0⟩ := zf w [(iv a_.1), (sv pa0 pn0 pc0)] 30
 refine za (w' := a9) (pq a5 0) (Zn rfl (by rw [b2, b0]; kernel_rfl)) ?_
 obtain ⟨h0, h1, hC⟩ := xt3 a4 h0 h1 hC
 have hO := hO.new1 a4 b0 a0.lt
 obtain ⟨b3, a6, b4, b1, a2, a3⟩ := zf a9 [(iv b.1), (sv pa1 pn1 pc1)] 30
 refine za (w' := b3) (pq a6 0) (Zn rfl (by rw [b4, b1]; kernel_rfl)) ?_
 obtain ⟨h0, h1, a0, hC⟩ := xt4 a2 h0 h1 a0 hC
 have hO := hO.new1 a2 b1 a3.lt
 refine ab rfl (zb (zd (c_sr (za (pq a5 0) (zj rfl yw) (za _ (ld rfl Ag3 Sz3 a0 rfl) (za (pq a6 0) (zj rfl yw) (za _ (ld rfl Ag3 Sz3 a3 rfl) (za (.bool (a_.1 != b.1)) (xy rfl rfl) (zb ?_)))))))))
 rcases zg hs with ⟨a7, hs⟩ | ⟨a7, hs⟩
 ·refine zh (cb a7) (c_sr (ab rfl (zb (wp_ret ?_))))
  cases hs
  exact ⟨_, fr_m 16 rfl, hC⟩
 refine zi (cb a7) (wp_skip (zd (c_sr (za (pq a5 1) (zj rfl Zr) (za _ (ld rfl Ag28 Sz28 a0 rfl) (za (pq a6 1) (zj rfl Zr) (za _ (ld rfl Ag28 Sz28 a3 rfl) ?_)))))))
 obtain ⟨r7, b5, hs⟩ := bind_some hs
 refine zA Bd35 rfl (UN (M := M) a_.2 b.2 h0 h1 hO.fut b5) ?_
 rintro _ b7 ⟨rfl, a1⟩
 obtain ⟨h0, h1, a0, a3, hC, hO⟩ := xt6 a1 h0 h1 a0 a3 hC hO
 refine za _ (ZH rfl) (zb ?_)
 have hO := hO.drop.drop
 rcases zg hs with ⟨a8, hs⟩ | ⟨a8, hs⟩
 ·refine zh (cb a8) (c_sr (ab rfl (zb (wp_ret ?_))))
  cases hs
  exact ⟨_, fr_m 16 rfl, hC⟩
 refine zi (cb a8) (wp_skip (c_sr (ab rfl (zb (wp_ret ?_)))))
 cases hs
 exact ⟨_, fr_m 16 rfl, hC⟩

theorem Ag24 : AggT Tryz.prog 24 true := fun _ => by kernel_rfl

theorem Sz24 : SzT Tryz.prog 24 2 := ⟨_, rfl, rfl⟩

theorem Bd6 : zG Tryz.prog 6 := zK Tryz.func6 (by kernel_rfl) rfl

theorem Bd8 : zG Tryz.prog 8 := zK Tryz.func8 (by kernel_rfl) rfl

theorem Bd7 : zG Tryz.prog 7 := zK Tryz.func7 (by kernel_rfl) rfl

theorem Bd9 : zG Tryz.prog 9 := zK Tryz.func9 (by kernel_rfl) rfl

theorem Bd10 : zG Tryz.prog 10 := zK Tryz.func10 (by kernel_rfl) rfl

def xR (M : Nat → Prop) (w0 : World) (r : Bool) (a : Act) (w : World) : Prop :=
  ∃ (σ : Nat → Value) , a = fr 62 (ovl σ [(6, (.bool r))]) ∧ Chg [] w0 w
def ZI (aA : Int × (List (Int × (List Int)))) (aK : Int) (aB : Int × (List (Int × (List Int)))) : Option (Bool) :=
  (ZK (aA.1, aA.2) 1048576).bind fun r6 =>
  (bif (decide (r6 < 0)) then some true else (ZK (aB.1, aB.2) r6).bind fun r9 =>
  (bif (decide (r9 < 0)) then some true else (Zt (aA.1, aA.2)).bind fun r22 =>
  (Zt (aB.1, aB.2)).bind fun r25 =>
  (ZS (r22.1, r22.2) aK (r25.1, r25.2)).bind fun r28 =>
  (Zt (aA.1, aA.2)).bind fun r30 =>
  (Zt (aB.1, aB.2)).bind fun r35 =>
  (ZT (r30.1, r30.2) aK (r35.1, r35.2)).bind fun r40 =>
  (bif ((!(r40.1 == r28.1)) || (!(r40.2 == r28.2))) then some false else (Zt (aA.1, aA.2)).bind fun r54 =>
  (ym (r30.1, r30.2) (r54.1, r54.2)).bind fun r57 =>
  (bif (!r57) then some false else (Zt (aB.1, aB.2)).bind fun r61 =>
  (ym (r35.1, r35.2) (r61.1, r61.2)).bind fun r64 =>
  (bif (!r64) then some false else some true)))))
theorem xQ {M : Nat → Prop} {w : World} {pa0 : OA} {pn0 pc0 : Nat} {pa1 : OA} {pn1 pc1 : Nat} (aA : tA) (aK : Int) (aB : tA) (h0 : rp.val M w (sv pa0 pn0 pc0) aA.2 []) (h1 : rp.val M w (sv pa1 pn1 pc1) aB.2 []) (hM : Hm w M) {r : Bool} (hs : ZI aA aK aB = some r) :
    Gives Tryz.prog 3 [(.agg #[(iv aA.1), (sv pa0 pn0 pc0)]), (iv aK), (.agg #[(iv aB.1), (sv pa1 pn1 pc1)])] w (fun v w' => v = (.bool r) ∧ Chg [] w w') := by
 refine zr Tryz.func3 rfl Tryz.ntmps3 (nl rfl) ?_
 have hO := Own.start (N := Nw w []) hM Nw.fut
 have hC := Chg.refl [] w
 unfold ZI at hs
 refine wp_k (K := (xR M w r)) (by rintro _ _ ⟨σ, rfl, hrest⟩; exact Ze Tryz.results3 (zB rfl) ⟨rfl, hrest⟩) (c_sr ?_)
 obtain ⟨f5, c5, h3, f6, e4, a0⟩ := zf w [(iv aA.1), (sv pa0 pn0 pc0)] 24
 refine za (w' := f5) (pq c5 0) (Zn rfl (by rw [h3, f6]; kernel_rfl)) ?_
 obtain ⟨h0, h1, hC⟩ := xt3 e4 h0 h1 hC
 have hO := hO.new1 e4 f6 a0.lt
 obtain ⟨h4, c6, h5, f7, e0, a1⟩ := zf f5 [(iv aB.1), (sv pa1 pn1 pc1)] 24
 refine za (w' := h4) (pq c6 0) (Zn rfl (by rw [h5, f7]; kernel_rfl)) ?_
 obtain ⟨h0, h1, a0, hC⟩ := xt4 e0 h0 h1 a0 hC
 have hO := hO.new1 e0 f7 a1.lt
 refine ab rfl (zb (c_sr (ai rfl (zb (c_sr (za _ (ldw rfl Ag24 a0 Sz24) (mi rfl ?_)))))))
 obtain ⟨r6, h6, hs⟩ := bind_some hs
 refine zA Bd6 rfl (wn (M := M) (aA.1, aA.2) 1048576 h0 hO.fut h6) ?_
 rintro _ l5 ⟨rfl, d0⟩
 obtain ⟨h0, h1, a0, a1, hC, hO⟩ := xt6 d0 h0 h1 a0 a1 hC hO
 refine ai rfl (zb (zd (c_sr (mi rfl (za _ (zu rfl rfl) (zb ?_))))))
 rcases zg hs with ⟨e9, hs⟩ | ⟨e9, hs⟩
 ·refine zh (cb e9) (c_sr (ab rfl (zb (wp_ret ?_))))
  cases hs
  exact ⟨_, fr_m 62 rfl, hC⟩
 refine zi (cb e9) (wp_skip (c_sr (za _ (ldw rfl Ag24 a1 Sz24) (mi rfl ?_))))
 obtain ⟨r9, h7, hs⟩ := bind_some hs
 refine zA Bd6 rfl (wn (M := M) (aB.1, aB.2) r6 h1 hO.fut h7) ?_
 rintro _ f8 ⟨rfl, d1⟩
 obtain ⟨h0, h1, a0, a1, hC, hO⟩ := xt6 d1 h0 h1 a0 a1 hC hO
 refine ai rfl (zb (zd (c_sr (mi rfl (za _ (zu rfl rfl) (zb ?_))))))
 rcases zg hs with ⟨f0, hs⟩ | ⟨f0, hs⟩
 ·refine zh (cb f0) (c_sr (ab rfl (zb (wp_ret ?_))))
  cases hs
  exact ⟨_, fr_m 62 rfl, hC⟩
 refine zi (cb f0) (wp_skip (zd (zS [] Mx rfl ?_)))
 have c9 := Chg.drew f8
 generalize World.drew f8 = h8 at c9 ⊢
 obtain ⟨h0, h1, a0, a1, hC, hO⟩ := xt6 c9 h0 h1 a0 a1 hC hO
 have hS := Chg.refl [] h8
 refine xl 0 rfl (ldxw rfl Ag24 a0 Sz24) hS (xmi 2 rfl rfl hS (xl 3 rfl (ldxw rfl Ag24 a1 Sz24) hS (zI (i := 1) (by kernel_rfl) ?_)))
 obtain ⟨r22, h9, hs⟩ := bind_some hs
 refine zN (b := false) rfl Bd8 rfl (yU (M := M) (aA.1, aA.2) h0 hO.fut h9) rfl (by rintro _ _ _ ⟨i0, i1, i2, e1, rfl, c0, b0, f9⟩; exact hS.ext c0) ?_
 rintro _ l6 ⟨i0, i1, i2, e1, rfl, c0, b0, f9⟩
 obtain ⟨h0, h1, a0, a1, hC⟩ := xt5 c0 h0 h1 a0 a1 hC
 have hO := Own.join0 hO c0 f9
 have hO := hO.perm (R := e1 ++ ([c6] ++ ([c5] ++ []))) (by simp)
 have hS := hS.ext c0
 refine zI (i := 4) (by kernel_rfl) ?_
 obtain ⟨r25, i3, hs⟩ := bind_some hs
 refine zN (b := false) rfl Bd8 rfl (yU (M := M) (aB.1, aB.2) h1 hO.fut i3) rfl (by rintro _ _ _ ⟨i4, i5, i6, e5, rfl, b5, b6, g0⟩; exact hS.ext b5) ?_
 rintro _ l7 ⟨i4, i5, i6, e5, rfl, b5, b6, g0⟩
 obtain ⟨h0, h1, a0, a1, b0, hC⟩ := xt6 b5 h0 h1 a0 a1 b0 hC
 have hO := Own.join0 hO b5 g0
 have hO := hO.perm (R := e5 ++ (e1 ++ ([c6] ++ ([c5] ++ [])))) (by simp)
 have hS := hS.ext b5
 refine zI (i := 5) (by kernel_rfl) ?_
 have hO := hO.fr1
 obtain ⟨r28, i7, hs⟩ := bind_some hs
 refine zN (b := false) rfl Bd7 rfl (wa (M := (Less (Less M e1) e5)) (r22.1, r22.2) aK (r25.1, r25.2) ((((Frz.os (Frz.pr Frz.int (Frz.os Frz.int)))).val b0 Less.sub Less.not).sub Less.sub) (((Frz.os (Frz.pr Frz.int (Frz.os Frz.int)))).val (b6.sub Less.sub) Less.sub Less.not) (hO.less).less.fut i7) rfl (by rintro _ _ _ ⟨rfl, b2⟩; exact hS.ext b2) ?_
 rintro _ l8 ⟨rfl, b2⟩
 obtain ⟨h0, h1, a0, a1, b0, b6, hC, hO⟩ := xt8 b2 h0 h1 a0 a1 b0 b6 hC hO
 have hS := hS.ext b2
 refine xq 6 (.tuple #[(.bool r28.1), (.bool r28.2)]) rfl (zx rfl) hS (xq 7 (.bool r28.1) rfl (zJ rfl (by kernel_rfl)) hS (xq 8 (.bool r28.2) rfl (zJ rfl (by kernel_rfl)) hS (xq 9 (.bool r28.1) rfl (zy rfl) hS (xq 10 (.bool r28.2) rfl (zy rfl) hS (xe ?_)))))
 clear hS
 refine c_sr (za _ (ldw rfl Ag24 a0 Sz24) ?_)
 obtain ⟨r30, i9, hs⟩ := bind_some hs
 refine zA Bd8 rfl (yU (M := M) (aA.1, aA.2) h0 hO.fut i9) ?_
 rintro _ j0 ⟨d2, d3, d4, d5, rfl, c7, a2, j1⟩
 obtain ⟨h0, h1, a0, a1, b0, b6, hC⟩ := xt7 c7 h0 h1 a0 a1 b0 b6 hC
 have hO := Own.join0 hO c7 j1
 have hO := hO.perm (R := d5 ++ (e1 ++ (e5 ++ ([c6] ++ ([c5] ++ []))))) (by simp)
 obtain ⟨j2, d6, j3, g1, c1, g2⟩ := zf j0 [(iv 0), (sv none 0 0)] 30
 refine za (w' := j2) (pq d6 0) (YC (by rw [j3, g1]; kernel_rfl)) ?_
 obtain ⟨h0, h1, a0, a1, b0, b6, a2, hC⟩ := xt8 c1 h0 h1 a0 a1 b0 b6 a2 hC
 have hO := hO.new1 c1 g1 g2.lt
 obtain ⟨g3, j4, c2, a3⟩ := Zy (P := Tryz.prog) g2 [] [(iv 0), (sv none 0 0)] [] [(iv r30.1), (sv d2 d3 d4)] rfl rfl (oc rfl)
 refine Zp (w' := g3) (zZ rfl rfl (j4 _ _ rfl Sz30)) ?_
 have h0 := h0.mt c2 hO zk
 have h1 := h1.mt c2 hO zk
 have a0 := a0.ap c2 hO zk (zl (zl (zl (zl mS))))
 have a1 := a1.ap c2 hO zk (zl (zl (zl mS)))
 have b0 := b0.ma c2 hO zk (fun _ e => (zl (zF (e))))
 have b6 := b6.ma c2 hO zk (fun _ e => (zl (zl (zF (e)))))
 have a2 := a2.ma c2 hO zk (fun _ e => (zF (e)))
 have hC := hC.st c2 hO zk
 have hO := hO.ext c2
 have a3 : BoxV g3 d6 30 [(iv r30.1), (sv d2 d3 d4)] := a3
 refine zb ?_
 have hO := hO.fr2.drop.fr2.drop
 refine c_sr (za _ (ldw rfl Ag24 a1 Sz24) ?_)
 obtain ⟨r35, j5, hs⟩ := bind_some hs
 refine zA Bd8 rfl (yU (M := M) (aB.1, aB.2) h1 hO.fut j5) ?_
 rintro _ j6 ⟨d7, d8, d9, e2, rfl, c8, a4, j7⟩
 obtain ⟨h0, h1, a0, a1, a2, a3, hC⟩ := xt7 c8 h0 h1 a0 a1 a2 a3 hC
 have hO := Own.join0 hO c8 j7
 have hO := hO.perm (R := e2 ++ ([d6] ++ (d5 ++ ([c6] ++ ([c5] ++ []))))) (by simp)
 obtain ⟨j8, e3, j9, g4, c3, g5⟩ := zf j6 [(iv 0), (sv none 0 0)] 30
 refine za (w' := j8) (pq e3 0) (YC (by rw [j9, g4]; kernel_rfl)) ?_
 obtain ⟨h0, h1, a0, a1, a2, a3, a4, hC⟩ := xt8 c3 h0 h1 a0 a1 a2 a3 a4 hC
 have hO := hO.new1 c3 g4 g5.lt
 obtain ⟨g6, k0, c4, a5⟩ := Zy (P := Tryz.prog) g5 [] [(iv 0), (sv none 0 0)] [] [(iv r35.1), (sv d7 d8 d9)] rfl rfl (oc rfl)
 refine Zp (w' := g6) (zZ rfl rfl (k0 _ _ rfl Sz30)) ?_
 have h0 := h0.mt c4 hO zk
 have h1 := h1.mt c4 hO zk
 have a0 := a0.ap c4 hO zk (zl (zl (zl (zl mS))))
 have a1 := a1.ap c4 hO zk (zl (zl (zl mS)))
 have a2 := a2.ma c4 hO zk (fun _ e => (zl (zl (zF (e)))))
 have a3 := a3.ap c4 hO zk (zl mS)
 have a4 := a4.ma c4 hO zk (fun _ e => (zF (e)))
 have hC := hC.st c4 hO zk
 have hO := hO.ext c4
 have a5 : BoxV g6 e3 30 [(iv r35.1), (sv d7 d8 d9)] := a5
 refine zb (c_sr (za _ (ldw rfl Ag30 a3 Sz30) (mi rfl (za _ (ldw rfl Ag30 a5 Sz30) ?_))))
 have hO := hO.fr1.fr3
 obtain ⟨r40, k1, hs⟩ := bind_some hs
 refine zA Bd9 rfl (XZ (M := (Less (Less M d5) e2)) (r30.1, r30.2) aK (r35.1, r35.2) ((((Frz.os (Frz.pr Frz.int (Frz.os Frz.int)))).val a2 Less.sub Less.not).sub Less.sub) (((Frz.os (Frz.pr Frz.int (Frz.os Frz.int)))).val (a4.sub Less.sub) Less.sub Less.not) (hO.less).less.fut k1) ?_
 rintro _ g7 ⟨rfl, b7⟩
 obtain ⟨h0, h1, a0, a1, a2, a3, a4, a5⟩ := xt8 b7 h0 h1 a0 a1 a2 a3 a4 a5
 obtain ⟨hC, hO⟩ := xt2 b7 hC hO
 refine za (.tuple #[(.bool r40.1), (.bool r40.2)]) (zx rfl) (za (.bool r40.1) (zJ rfl (by kernel_rfl)) (za (.bool r40.2) (zJ rfl (by kernel_rfl)) (ab rfl (ab rfl (zb (zd (zd (yR (I := fun a e6 => ∃ (σ : Nv), a = fr 62 (ovl σ [(3, (pq c5 0)), (5, (pq c6 0)), (6, (.bool false)), (10, (pq d6 0)), (11, (pq e3 0)), (51, (.bool ((!(r40.1 == r28.1)) || (!(r40.2 == r28.2)))))]) ∧ Chg [] g7 e6) ?_ ?_))))))))
 ·have hMid := Chg.refl [] g7
  refine ze (mb rfl (mb rfl (za (.bool (!(r40.1 == r28.1))) (y_bneq Tryz.underlying4 rfl rfl) (mb rfl ?_))))
  rcases Bool.eq_false_or_eq_true ((!(r40.1 == r28.1))) with b3 | b3
  ·skip
   refine pn 47 (cb b3) (pn 47 (cb b3) (pn 47 (cb b3) (za (.bool ((!(r40.1 == r28.1)) || (!(r40.2 == r28.2)))) (ZV (cb b3) (cb (by rw [b3]; rfl))) (zb ?_))))
   exact ⟨_, fr_m 62 rfl, hMid⟩
  refine py 47 (.bool r40.2) (cb b3) (zx rfl) (py 47 (.bool r28.2) (cb b3) (zx rfl) (py 47 (.bool (!(r40.2 == r28.2))) (cb b3) (y_bneq Tryz.underlying4 rfl rfl) (za (.bool ((!(r40.1 == r28.1)) || (!(r40.2 == r28.2)))) (ZP (cb b3) (cb (by rw [b3]; rfl))) (zb ?_))))
  exact ⟨_, fr_m 62 rfl, hMid⟩
 rintro l9 e6 ⟨σ, rfl, b8⟩
 obtain ⟨h0, h1, a0, a1, a2, a3, a4, a5⟩ := xt8 b8 h0 h1 a0 a1 a2 a3 a4 a5
 obtain ⟨hC, hO⟩ := xt2 b8 hC hO
 rcases zg hs with ⟨f1, hs⟩ | ⟨f1, hs⟩
 ·refine zh (cb f1) (c_sr (ab rfl (zb (wp_ret ?_))))
  cases hs
  exact ⟨_, fr_m 62 rfl, hC⟩
 refine zi (cb f1) (wp_skip (zd (zd (zS [] Mx rfl ?_))))
 have b4 := Chg.drew e6
 generalize World.drew e6 = k2 at b4 ⊢
 obtain ⟨h0, h1, a0, a1, a2, a3, a4, a5⟩ := xt8 b4 h0 h1 a0 a1 a2 a3 a4 a5
 obtain ⟨hC, hO⟩ := xt2 b4 hC hO
 have hS := Chg.refl [] k2
 refine xl 0 rfl (ldxw rfl Ag30 a3 Sz30) hS (xl 1 rfl (ldxw rfl Ag24 a0 Sz24) hS (zI (i := 2) (by kernel_rfl) ?_))
 obtain ⟨r54, k3, hs⟩ := bind_some hs
 refine zN (b := false) rfl Bd8 rfl (yU (M := M) (aA.1, aA.2) h0 hO.fut k3) rfl (by rintro _ _ _ ⟨k4, k5, k6, e7, rfl, a9, b9, g8⟩; exact hS.ext a9) ?_
 rintro _ m0 ⟨k4, k5, k6, e7, rfl, a9, b9, g8⟩
 obtain ⟨h0, h1, a0, a1, a2, a3, a4, a5⟩ := xt8 a9 h0 h1 a0 a1 a2 a3 a4 a5
 have hC := hC.ext a9
 have hO := Own.join0 hO a9 g8
 have hO := hO.perm (R := e7 ++ (d5 ++ (e2 ++ ([e3] ++ ([d6] ++ ([c6] ++ ([c5] ++ []))))))) (by simp)
 have hS := hS.ext a9
 refine zI (i := 3) (by kernel_rfl) ?_
 have hO := hO.fr1
 obtain ⟨r57, k7, hs⟩ := bind_some hs
 refine zN (b := false) rfl Bd10 rfl (wh (M := (Less (Less M d5) e7)) (r30.1, r30.2) (r54.1, r54.2) ((((Frz.os (Frz.pr Frz.int (Frz.os Frz.int)))).val a2 Less.sub Less.not).sub Less.sub) (((Frz.os (Frz.pr Frz.int (Frz.os Frz.int)))).val (b9.sub Less.sub) Less.sub Less.not) (hO.less).less.fut k7) rfl (by rintro _ _ _ ⟨rfl, a7⟩; exact hS.ext a7) ?_
 rintro _ g9 ⟨rfl, a7⟩
 obtain ⟨h0, h1, a0, a1, a2, a3, a4, a5⟩ := xt8 a7 h0 h1 a0 a1 a2 a3 a4 a5
 obtain ⟨b9, hC, hO, hS⟩ := xt4 a7 b9 hC hO hS
 refine xq 4 _ rfl (ZH rfl) hS (xe ?_)
 clear hS
 rcases zg hs with ⟨f2, hs⟩ | ⟨f2, hs⟩
 ·refine zh (cb f2) (c_sr (ab rfl (zb ?_)))
  have hO := hO.drop.drop.fr2.drop.fr3.drop
  refine wp_ret ?_
  cases hs
  exact ⟨_, fr_m 62 rfl, hC⟩
 refine zi (cb f2) (wp_skip (zd (zd (zS [] Mx rfl ?_))))
 have b1 := Chg.drew g9
 generalize World.drew g9 = k8 at b1 ⊢
 obtain ⟨h0, h1, a0, a1, a2, a3, a4, a5⟩ := xt8 b1 h0 h1 a0 a1 a2 a3 a4 a5
 obtain ⟨b9, hC, hO⟩ := xt3 b1 b9 hC hO
 have hS := Chg.refl [] k8
 refine xl 0 rfl (ldxw rfl Ag30 a5 Sz30) hS (xl 1 rfl (ldxw rfl Ag24 a1 Sz24) hS (zI (i := 2) (by kernel_rfl) ?_))
 obtain ⟨r61, k9, hs⟩ := bind_some hs
 refine zN (b := false) rfl Bd8 rfl (yU (M := M) (aB.1, aB.2) h1 hO.fut k9) rfl (by rintro _ _ _ ⟨l0, l1, l2, f3, rfl, a8, e8, h2⟩; exact hS.ext a8) ?_
 rintro _ m1 ⟨l0, l1, l2, f3, rfl, a8, e8, h2⟩
 obtain ⟨h0, h1, a0, a1, a2, a3, a4, a5⟩ := xt8 a8 h0 h1 a0 a1 a2 a3 a4 a5
 obtain ⟨b9, hC⟩ := xt2 a8 b9 hC
 have hO := Own.join0 hO a8 h2
 have hO := hO.perm (R := f3 ++ (d5 ++ (e7 ++ (e2 ++ ([e3] ++ ([d6] ++ ([c6] ++ ([c5] ++ [])))))))) (by simp)
 have hS := hS.ext a8
 refine zI (i := 3) (by kernel_rfl) ?_
 have hO := hO.fr3
 obtain ⟨r64, l3, hs⟩ := bind_some hs
 refine zN (b := false) rfl Bd10 rfl (wh (M := (Less (Less M e2) f3)) (r35.1, r35.2) (r61.1, r61.2) ((((Frz.os (Frz.pr Frz.int (Frz.os Frz.int)))).val a4 Less.sub Less.not).sub Less.sub) (((Frz.os (Frz.pr Frz.int (Frz.os Frz.int)))).val (e8.sub Less.sub) Less.sub Less.not) (hO.less).less.fut l3) rfl (by rintro _ _ _ ⟨rfl, a6⟩; exact hS.ext a6) ?_
 rintro _ m2 ⟨rfl, a6⟩
 obtain ⟨h0, h1, a0, a1, a2, a3, a4, a5⟩ := xt8 a6 h0 h1 a0 a1 a2 a3 a4 a5
 obtain ⟨b9, e8, hC, hO, hS⟩ := xt5 a6 b9 e8 hC hO hS
 refine xq 4 _ rfl (ZH rfl) hS (xe ?_)
 clear hS
 rcases zg hs with ⟨f4, hs⟩ | ⟨f4, hs⟩
 ·refine zh (cb f4) (c_sr (ab rfl (zb ?_)))
  have hO := hO.drop.drop.drop.drop.drop.drop.drop.drop
  refine wp_ret ?_
  cases hs
  exact ⟨_, fr_m 62 rfl, hC⟩
 refine zi (cb f4) (wp_skip (c_sr (ab rfl (zb ?_))))
 have hO := hO.drop.drop.drop.drop.drop.drop.drop.drop
 refine wp_ret ?_
 cases hs
 exact ⟨_, fr_m 62 rfl, hC⟩

end Go.Proofs
