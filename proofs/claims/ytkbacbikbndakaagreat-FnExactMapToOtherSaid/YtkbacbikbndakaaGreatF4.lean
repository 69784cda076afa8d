/- What functions of the program compute, as plain functions, and that a call gives just that. Conditions: those named in each theorem. -/
import Derived.Test.YtkbacbikbndakaaGreatF3
set_option linter.unusedVariables false
namespace Go.Proofs
open Go.G Go.RowKit
set_option maxRecDepth 100000
set_option maxHeartbeats 4000000

def yw (M : Nat → Prop) (w0 : World) (r : (List Int) × Bool) (a : Act) (w : World) : Prop :=
  ∃ (σ : Nv) (ra0 : OA) (rn0 rc0 : Nat) (rf0 : List Nat), a = fr 137 (ovl σ [(10, (sv ra0 rn0 rc0)), (11, (.bool r.2))]) ∧ Chg [] w0 w ∧ (RT.os 3 ri).val M w (sv ra0 rn0 rc0) r.1 rf0 ∧ Own (Nw w0 []) (fun _ => True) w (rf0 ++ [])
def yx (b : Int × (List (Int × (List Int)))) (terms : List (List Int)) (tables : List (List Int)) (images : List Int) (b0 : Int × (List (List Int))) (b1 : Int × (List (Int × (List Int))) × Int × (List (List Int)) × (List (ByteArray × Int))) : Option ((List Int) × Bool) :=
  (forR (S := (List Int)) (R := (List Int) × Bool) (fun _ x29 s26 =>
  (Xl (b.1, b.2) x29 images).bind fun r40 =>
  (app s26 ([r40])).bind fun y44 =>
  some (.nx y44)) 0 terms ([])).bind fun o30 => after o30 (fun r_ => some r_) (fun s26 =>
  (yc (b0.1, b0.2) (b1.1, b1.2.1, b1.2.2.1, b1.2.2.2.1, b1.2.2.2.2)).bind fun r47 =>
  (forC (S := Unit) (R := (List Int) × Bool) (fun k59 s57 =>
  (idx r47 k59).bind fun x63 =>
  (idx s26 x63).bind fun x67 =>
  (idx images k59).bind fun x69 =>
  (bif (x67 != x69) then some (.rt ([], false)) else some (.nx ()))) 0 (r47.length : Int) ()).bind fun o61 => after o61 (fun r_ => some r_) (fun s57 =>
  (forC (S := Unit) (R := (List Int) × Bool) (fun k144 s142 =>
  (idx b1.2.1 k144).bind fun x148 =>
  (idx tables k144).bind fun x154 =>
  (forC (S := Unit) (R := (List Int) × Bool) (fun k187 s185 =>
  (idx x154 k187).bind fun x191 =>
  (forC (S := Int × Int × Int) (R := (List Int) × Bool) (fun k199 s197 =>
  (nz (b1.2.2.2.1.length : Int)).bind fun u203 =>
  (idx s26 (Int.tmod s197.2.2 (b1.2.2.2.1.length : Int))).bind fun x204 =>
  (nz (b1.2.2.2.1.length : Int)).bind fun u206 =>
  some (.nx (w64 (s197.1 + (w64 (x204 * s197.2.1))), w64 (s197.2.1 * b.1), w64 (Int.tdiv s197.2.2 (b1.2.2.2.1.length : Int))))) 0 x148.1 (0, 1, k187)).bind fun o201 => after o201 (fun r_ => some (.rt r_)) (fun s197 =>
  (idx s26 x191).bind fun x208 =>
  (idx b.2 k144).bind fun x210 =>
  (idx x210.2 s197.1).bind fun x215 =>
  (bif (x208 != x215) then some (.rt ([], false)) else some (.nx ())))) 0 (x154.length : Int) ()).bind fun o189 => after o189 (fun r_ => some (.rt r_)) (fun s185 =>
  some (.nx ()))) 0 (b1.2.1.length : Int) ()).bind fun o146 => after o146 (fun r_ => some r_) (fun s142 =>
  some (s26, true))))
theorem XP {M : Nat → Prop} {w : World} {vg0 : Nat} {vg1 : Nat} {pa0 : OA} {pn0 pc0 : Nat} {pa1 : OA} {pn1 pc1 : Nat} {pa2 : OA} {pn2 pc2 : Nat} {pa3 : OA} {pn3 pc3 : Nat} {va0x2 : OA} {vn0x2 vc0x2 : Nat} {va1x1 : OA} {vn1x1 vc1x1 : Nat} {va1x3 : OA} {vn1x3 vc1x3 : Nat} {vn1x4 : Nat} (b : tA) (terms : tM) (tables : tM) (images : List Int) (b0 : Int × tM) (b1 : Int × (List (Int × (List Int))) × Int × tM × (List (ByteArray × Int))) (h0 : rp.val M w (sv pa0 pn0 pc0) b.2 []) (h1 : rm.val M w (sv pa1 pn1 pc1) terms []) (h2 : rm.val M w (sv pa2 pn2 pc2) tables []) (h3 : rl.val M w (sv pa3 pn3 pc3) images []) (hb0 : RBox M w vg0 59 [(pq vg1 0), (iv b0.1), (sv va0x2 vn0x2 vc0x2)]) (hl0x2 : rm.val M w (sv va0x2 vn0x2 vc0x2) b0.2 []) (hb1 : RBox M w vg1 90 [(iv b1.1), (sv va1x1 vn1x1 vc1x1), (iv b1.2.2.1), (sv va1x3 vn1x3 vc1x3), (.map (some vn1x4))]) (hl1x1 : rp.val M w (sv va1x1 vn1x1 vc1x1) b1.2.1 []) (hl1x3 : rm.val M w (sv va1x3 vn1x3 vc1x3) b1.2.2.2.1 []) (hl1x4 : (RT.mr (Value.int .i64)).val M w (.map (some vn1x4)) b1.2.2.2.2 []) (hM : Hm w M) {r : (List Int) × Bool} (hs : yx b terms tables images b0 b1 = some r) :
    Gives Tryz.prog 33 [(pq vg0 0), (.agg #[(iv b.1), (sv pa0 pn0 pc0)]), (sv pa1 pn1 pc1), (sv pa2 pn2 pc2), (sv pa3 pn3 pc3)] w (fun v w' => ∃ (ra0 : OA) (rn0 rc0 : Nat) (rf0 : List Nat), v = (.tuple #[(sv ra0 rn0 rc0), (.bool r.2)]) ∧ Chg [] w w' ∧ (RT.os 3 ri).val M w' (sv ra0 rn0 rc0) r.1 rf0 ∧ Own (Nw w []) (fun _ => True) w' (rf0 ++ [])) := by
 refine zr Tryz.func33 rfl Tryz.ntmps33 (nl rfl) ?_
 have hO := Own.start (N := Nw w []) hM Nw.fut
 have hC := Chg.refl [] w
 unfold yx at hs
 refine wp_k (K := (yw M w r)) (by rintro _ _ ⟨σ, ra0, rn0, rc0, rf0, rfl, hrest⟩; exact wb Tryz.results33 (zB rfl) (zB rfl) ⟨ra0, rn0, rc0, rf0, rfl, hrest⟩) (c_sr ?_)
 obtain ⟨g3, a3, i1, g4, d1, a0⟩ := zg w [(iv b.1), (sv pa0 pn0 pc0)] 30
 refine za (w' := g3) (pq a3 0) (Zj rfl (by rw [i1, g4]; kernel_rfl)) ?_
 obtain ⟨h0, h1, h2, h3, hl0x2, hb0, hl1x1, hl1x3⟩ := xt8 d1 h0 h1 h2 h3 hl0x2 hb0 hl1x1 hl1x3
 obtain ⟨hl1x4, hb1, hC⟩ := xt3 d1 hl1x4 hb1 hC
 have hO := hO.new1 d1 g4 a0.lt
 refine ax rfl (ab rfl (zb (c_sr ?_)))
 obtain ⟨g5, e0, i2, g6, c5, g7⟩ := zg g3 [] 3
 refine za (w' := g5) (sv (some ⟨e0, 0, none⟩) 0 0) (zz rfl (by rw [i2, g6]; kernel_rfl)) ?_
 obtain ⟨h0, h1, h2, h3, hl0x2, hb0, hl1x1, hl1x3⟩ := xt8 c5 h0 h1 h2 h3 hl0x2 hb0 hl1x1 hl1x3
 obtain ⟨hl1x4, hb1, a0, hC⟩ := xt4 c5 hl1x4 hb1 a0 hC
 have hO := hO.new1 c5 g6 g7.lt
 have e7 := os0 (r := ri) (M := M) g7
 refine ax rfl (zb (zd (c_sr (ms rfl (za _ (zn Sl45 (zt h1) rfl) (mi rfl (zb ?_)))))))
 obtain ⟨o30, i3, hs⟩ := bind_some hs
 refine wp_block (YE (id := 0) (I := fun i_ xs_ s26 a a6 => ∃ d3 : Nat, i_ = (d3 : Int) ∧ List.drop d3 terms = xs_ ∧ (∃ (σ : Nv) (e1 : OA) (e2 : Nat) (e3 : Nat) (e5 : List Nat), a = fr 137 (ovl σ [(0, (pq vg0 0)), (3, (sv pa2 pn2 pc2)), (4, (sv pa3 pn3 pc3)), (6, (pq a3 0)), (12, (sv e1 e2 e3)), (26, (sv pa1 pn1 pc1)), (27, (iv (terms.length : Int))), (28, (iv (d3 : Int)))]) ∧ Chg [] w a6 ∧ Own (Nw w []) M a6 (e5 ++ ([a3] ++ [])) ∧ rp.val M a6 (sv pa0 pn0 pc0) b.2 [] ∧ rm.val M a6 (sv pa1 pn1 pc1) terms [] ∧ rm.val M a6 (sv pa2 pn2 pc2) tables [] ∧ rl.val M a6 (sv pa3 pn3 pc3) images [] ∧ rm.val M a6 (sv va0x2 vn0x2 vc0x2) b0.2 [] ∧ RBox M a6 vg0 59 [(pq vg1 0), (iv b0.1), (sv va0x2 vn0x2 vc0x2)] ∧ rp.val M a6 (sv va1x1 vn1x1 vc1x1) b1.2.1 [] ∧ rm.val M a6 (sv va1x3 vn1x3 vc1x3) b1.2.2.2.1 [] ∧ (RT.mr (Value.int .i64)).val M a6 (.map (some vn1x4)) b1.2.2.2.2 [] ∧ RBox M a6 vg1 90 [(iv b1.1), (sv va1x1 vn1x1 vc1x1), (iv b1.2.2.1), (sv va1x3 vn1x3 vc1x3), (.map (some vn1x4))] ∧ BoxV a6 a3 30 [(iv b.1), (sv pa0 pn0 pc0)] ∧ (RT.os 3 ri).val M a6 (sv e1 e2 e3) s26 e5)) (J := fun s26 a a6 => ∃ (σ : Nv) (a8 : OA) (a9 : Nat) (b2 : Nat) (b3 : List Nat), a = fr 137 (ovl σ [(0, (pq vg0 0)), (3, (sv pa2 pn2 pc2)), (4, (sv pa3 pn3 pc3)), (6, (pq a3 0)), (12, (sv a8 a9 b2))]) ∧ Chg [] w a6 ∧ Own (Nw w []) M a6 (b3 ++ ([a3] ++ [])) ∧ rp.val M a6 (sv pa0 pn0 pc0) b.2 [] ∧ rm.val M a6 (sv pa1 pn1 pc1) terms [] ∧ rm.val M a6 (sv pa2 pn2 pc2) tables [] ∧ rl.val M a6 (sv pa3 pn3 pc3) images [] ∧ rm.val M a6 (sv va0x2 vn0x2 vc0x2) b0.2 [] ∧ RBox M a6 vg0 59 [(pq vg1 0), (iv b0.1), (sv va0x2 vn0x2 vc0x2)] ∧ rp.val M a6 (sv va1x1 vn1x1 vc1x1) b1.2.1 [] ∧ rm.val M a6 (sv va1x3 vn1x3 vc1x3) b1.2.2.2.1 [] ∧ (RT.mr (Value.int .i64)).val M a6 (.map (some vn1x4)) b1.2.2.2.2 [] ∧ RBox M a6 vg1 90 [(iv b1.1), (sv va1x1 vn1x1 vc1x1), (iv b1.2.2.1), (sv va1x3 vn1x3 vc1x3), (.map (some vn1x4))] ∧ BoxV a6 a3 30 [(iv b.1), (sv pa0 pn0 pc0)] ∧ (RT.os 3 ri).val M a6 (sv a8 a9 b2) s26 b3) (K := (yw M w)) ?_ ?_ terms 0 [] o30 _ _ ?_ i3 ?_)
 ·rintro _ s26 a a6 ⟨d3, rfl, hd, σ, e1, e2, e3, e5, rfl, hC, hO, h0, h1, h2, h3, hl0x2, hb0, hl1x1, hl1x3, hl1x4, hb1, a0, d5⟩
  have hlt := ZI hd
  refine c_sr (za _ (zw rfl rfl) (zb (zd (zi (df hlt) (wp_exit ?_)))))
  have hO := hO.fr1.fr1
  exact ⟨rfl, _, e1, e2, e3, e5, fr_m 137 rfl, hC, hO, h0, h1, h2, h3, hl0x2, hb0, hl1x1, hl1x3, hl1x4, hb1, a0, d5⟩
 ·rintro _ x29 xs_ s26 o30 a a6 ⟨d3, rfl, hd, σ, e1, e2, e3, e5, rfl, hC, hO, h0, h1, h2, h3, hl0x2, hb0, hl1x1, hl1x3, hl1x4, hb1, a0, d5⟩ hs
  have hlt := ZB hd
  have i4 := Zt hd
  refine c_sr (za _ (zw rfl rfl) (zb (zd (zh (dt hlt) (wp_skip (zd (wp_block (c_sr ?_))))))))
  obtain ⟨i5, i6, i7, i9⟩ := zK Sl45 Sz34 h1 i4
  refine za _ (ip i7 rfl rfl) ?_
  obtain ⟨q6, j0, d6⟩ := Zc Ag34 Sz34 (fun _ => rfl) i9
  obtain ⟨e8, e9, f0, rfl⟩ := yl d6
  refine za (sv e8 e9 f0) (zo rfl (j0 _ (Chg.refl _ _))) (ax rfl (zb (ze (ms rfl (za _ (ldw rfl Ag30 a0 Sz30) (ms rfl (ms rfl ?_)))))))
  obtain ⟨r40, j1, hs⟩ := bind_some hs
  refine zy Bd64 rfl (zaK (M := M) (b.1, b.2) x29 images h0 d6 h3 hO.fut j1) ?_
  rintro _ j2 ⟨rfl, b8⟩
  obtain ⟨h0, h1, h2, h3, hl0x2, hb0, hl1x1, hl1x3⟩ := xt8 b8 h0 h1 h2 h3 hl0x2 hb0 hl1x1 hl1x3
  obtain ⟨hl1x4, hb1, a0, d5, d6, hC, hO⟩ := xt7 b8 hl1x4 hb1 a0 d5 d6 hC hO
  obtain ⟨g8, f1, j3, g9, b9, h4⟩ := zg j2 [(iv r40)] 3
  refine za (w' := g8) (sv (some ⟨f1, 0, none⟩) 1 1) (zz rfl (by rw [j3, g9]; kernel_rfl)) ?_
  obtain ⟨h0, h1, h2, h3, hl0x2, hb0, hl1x1, hl1x3⟩ := xt8 b9 h0 h1 h2 h3 hl0x2 hb0 hl1x1 hl1x3
  obtain ⟨hl1x4, hb1, a0, d5, d6, hC⟩ := xt6 b9 hl1x4 hb1 a0 d5 d6 hC
  have hO := hO.new1 b9 g9 h4.lt
  have f2 := os1 (M := M) h4
  obtain ⟨y44, j4, hs⟩ := bind_some hs
  have hO := hO.fr1
  obtain ⟨f3, f4, f5, j5, j6, j7, c2, j8, f6⟩ := ya Rw34 j4 d5 f2 hO.inM (fun g hg hq => hO.apart g hq (zD hg))
  have c6 := zC d5
  refine za (w' := j5) (sv f3 f4 f5) (zN rfl rfl (j7 _)) ?_
  have hO := hO.fr1.fr1
  have h0 := h0.mt c2 hO c6
  have h1 := h1.mt c2 hO c6
  have h2 := h2.mt c2 hO c6
  have h3 := h3.mt c2 hO c6
  have hl0x2 := hl0x2.mt c2 hO c6
  have hb0 := hb0.mut c2 (fun q hq => hO.inM q (c6 q hq))
  have hl1x1 := hl1x1.mt c2 hO c6
  have hl1x3 := hl1x3.mt c2 hO c6
  have hl1x4 := hl1x4.mt c2 hO c6
  have hb1 := hb1.mut c2 (fun q hq => hO.inM q (c6 q hq))
  have a0 := a0.ap c2 hO c6 (zj mS)
  have d6 := d6.mt c2 hO c6
  have hC := hC.st c2 hO c6
  have hO := hO.eat c2 j8 (zu f6) f6.fpl
  refine ax rfl (zb (ze (za _ (yad rfl rfl) (mi rfl (zb ?_)))))
  cases hs
  have hO := hO.fr1.fr1
  exact ⟨_, rfl, Zk hd, _, f3, f4, f5, j6, zG 137 ⟨rfl, rfl, rfl, rfl, rfl, rfl, rfl, congrArg (Value.int .i64) (Yc hlt (Int.natCast_nonneg _) (Xo h1)), trivial⟩, hC, hO, h0, h1, h2, h3, hl0x2, hb0, hl1x1, hl1x3, hl1x4, hb1, a0, f6⟩
 ·skip
  have hO := hO.fr1.fr1
  exact ⟨0, rfl, rfl, _, (some ⟨e0, 0, none⟩), 0, 0, [e0], fr_m 137 rfl, hC, hO, h0, h1, h2, h3, hl0x2, hb0, hl1x1, hl1x3, hl1x4, hb1, a0, e7⟩
 cases o30 with
 | nx _ => exact True.intro
 | rt r_ =>
  have hs := zq hs
  intro d4 e4 hK
  cases hs
  exact hK
 | br s26 =>
  have hs := zp hs
  rintro d4 a6 ⟨σ, a8, a9, b2, b3, rfl, hC, hO, h0, h1, h2, h3, hl0x2, hb0, hl1x1, hl1x3, hl1x4, hb1, a0, a1⟩
  refine zd (c_sr (mp rfl ?_))
  obtain ⟨r47, j9, hs⟩ := bind_some hs
  refine zy Bd65 rfl (wq (M := M) (b0.1, b0.2) (b1.1, b1.2.1, b1.2.2.1, b1.2.2.2.1, b1.2.2.2.2) (show RBox M _ vg0 59 [(pq vg1 0), (iv b0.1), (sv va0x2 vn0x2 vc0x2)] from hb0) hl0x2 (show RBox M _ vg1 90 [(iv b1.1), (sv va1x1 vn1x1 vc1x1), (iv b1.2.2.1), (sv va1x3 vn1x3 vc1x3), (.map (some vn1x4))] from hb1) hl1x1 hl1x3 hl1x4 hO.fut j9) ?_
  rintro _ q7 ⟨f7, f8, f9, e6, rfl, c3, d2, k0⟩
  have hO := hO.perm (R := [] ++ (b3 ++ ([a3] ++ []))) (by simp)
  obtain ⟨h0, h1, h2, h3, hl0x2, hb0, hl1x1, hl1x3⟩ := xt8 c3 h0 h1 h2 h3 hl0x2 hb0 hl1x1 hl1x3
  obtain ⟨hl1x4, hb1, a0, a1, hC⟩ := xt5 c3 hl1x4 hb1 a0 a1 hC
  have hO := Own.join hO c3 k0
  have hO := hO.perm (R := e6 ++ (b3 ++ ([a3] ++ []))) (by simp)
  refine za _ (zn Sl34 (ZH d2) rfl) (mi rfl (zb ?_))
  obtain ⟨o61, k1, hs⟩ := bind_some hs
  refine wp_block (zT (id := 2) (r47.length : Int) (I := fun k59 s57 a a4 => ∃ (σ : Nv), a = fr 137 (ovl σ [(0, (pq vg0 0)), (3, (sv pa2 pn2 pc2)), (4, (sv pa3 pn3 pc3)), (6, (pq a3 0)), (12, (sv a8 a9 b2)), (41, (sv f7 f8 f9)), (42, (iv (r47.length : Int))), (43, (iv k59))]) ∧ Chg [] w a4 ∧ Own (Nw w []) M a4 (e6 ++ (b3 ++ ([a3] ++ []))) ∧ rp.val M a4 (sv pa0 pn0 pc0) b.2 [] ∧ rm.val M a4 (sv pa2 pn2 pc2) tables [] ∧ rl.val M a4 (sv pa3 pn3 pc3) images [] ∧ rm.val M a4 (sv va0x2 vn0x2 vc0x2) b0.2 [] ∧ RBox M a4 vg0 59 [(pq vg1 0), (iv b0.1), (sv va0x2 vn0x2 vc0x2)] ∧ rp.val M a4 (sv va1x1 vn1x1 vc1x1) b1.2.1 [] ∧ rm.val M a4 (sv va1x3 vn1x3 vc1x3) b1.2.2.2.1 [] ∧ (RT.mr (Value.int .i64)).val M a4 (.map (some vn1x4)) b1.2.2.2.2 [] ∧ RBox M a4 vg1 90 [(iv b1.1), (sv va1x1 vn1x1 vc1x1), (iv b1.2.2.1), (sv va1x3 vn1x3 vc1x3), (.map (some vn1x4))] ∧ BoxV a4 a3 30 [(iv b.1), (sv pa0 pn0 pc0)] ∧ (RT.os 3 ri).val M a4 (sv a8 a9 b2) s26 b3 ∧ (RT.os 3 ri).val M a4 (sv f7 f8 f9) r47 e6) (J := fun s57 a a4 => ∃ (σ : Nv), a = fr 137 (ovl σ [(0, (pq vg0 0)), (3, (sv pa2 pn2 pc2)), (6, (pq a3 0)), (12, (sv a8 a9 b2))]) ∧ Chg [] w a4 ∧ Own (Nw w []) M a4 (e6 ++ (b3 ++ ([a3] ++ []))) ∧ rp.val M a4 (sv pa0 pn0 pc0) b.2 [] ∧ rm.val M a4 (sv pa2 pn2 pc2) tables [] ∧ rl.val M a4 (sv pa3 pn3 pc3) images [] ∧ rm.val M a4 (sv va0x2 vn0x2 vc0x2) b0.2 [] ∧ RBox M a4 vg0 59 [(pq vg1 0), (iv b0.1), (sv va0x2 vn0x2 vc0x2)] ∧ rp.val M a4 (sv va1x1 vn1x1 vc1x1) b1.2.1 [] ∧ rm.val M a4 (sv va1x3 vn1x3 vc1x3) b1.2.2.2.1 [] ∧ (RT.mr (Value.int .i64)).val M a4 (.map (some vn1x4)) b1.2.2.2.2 [] ∧ RBox M a4 vg1 90 [(iv b1.1), (sv va1x1 vn1x1 vc1x1), (iv b1.2.2.1), (sv va1x3 vn1x3 vc1x3), (.map (some vn1x4))] ∧ BoxV a4 a3 30 [(iv b.1), (sv pa0 pn0 pc0)] ∧ (RT.os 3 ri).val M a4 (sv a8 a9 b2) s26 b3 ∧ (RT.os 3 ri).val M a4 (sv f7 f8 f9) r47 e6) (K := (yw M w)) ?_ ?_ 0 () o61 _ _ ?_ k1 ?_)
  ·rintro k59 s57 a a4 ⟨σ, rfl, hC, hO, h0, h2, h3, hl0x2, hb0, hl1x1, hl1x3, hl1x4, hb1, a0, a1, d2⟩ hlt
   refine c_sr (za _ (zw rfl rfl) (zb (zd (zi (df hlt) (wp_exit ?_)))))
   have hO := hO.fr2.fr2.fr2
   exact ⟨rfl, _, fr_m 137 rfl, hC, hO, h0, h2, h3, hl0x2, hb0, hl1x1, hl1x3, hl1x4, hb1, a0, a1, d2⟩
  ·rintro k59 s57 o61 a a4 ⟨σ, rfl, hC, hO, h0, h2, h3, hl0x2, hb0, hl1x1, hl1x3, hl1x4, hb1, a0, a1, d2⟩ hlt hw hs
   refine c_sr (za _ (zw rfl rfl) (zb (zd (zh (dt hlt) (wp_skip (zd (wp_block (c_sr (mi rfl ?_)))))))))
   obtain ⟨x63, k2, hs⟩ := bind_some hs
   obtain ⟨k3, q8, q9, r0, k4, k5, r1⟩ := zS Sl34 Sz3 d2 k2
   refine za _ (ip k4 rfl rfl) (za (iv x63) (zo rfl ((zm Ag3 Sz3 k5) _ (Chg.refl _ _))) (ai rfl (ai rfl (zb (zd (zQ [] Mx rfl ?_))))))
   have c0 := Chg.drew a4
   generalize World.drew a4 = k6 at c0 ⊢
   obtain ⟨h0, h2, h3, hl0x2, hb0, hl1x1, hl1x3, hl1x4⟩ := xt8 c0 h0 h2 h3 hl0x2 hb0 hl1x1 hl1x3 hl1x4
   obtain ⟨hb1, a0, a1, d2, hC, hO⟩ := xt6 c0 hb1 a0 a1 d2 hC hO
   have hS := Chg.refl [] k6
   refine xms 0 rfl rfl hS (xmi 1 rfl rfl hS ?_)
   obtain ⟨x67, k7, hs⟩ := bind_some hs
   obtain ⟨k8, r2, r3, r4, k9, l0, r5⟩ := zS Sl34 Sz3 a1 k7
   refine xq 2 _ rfl (ip k9 rfl rfl) hS (x_l 3 (iv x67) rfl (by kernel_rfl) (fun w' hw' => zo rfl ((zm Ag3 Sz3 l0) w' hw')) hS (xms 4 rfl rfl hS (xmi 5 rfl rfl hS ?_)))
   obtain ⟨x69, l1, hs⟩ := bind_some hs
   obtain ⟨l2, l3, l4, l5⟩ := zK Sl34 Sz3 h3 l1
   refine xq 6 _ rfl (ip l4 rfl rfl) hS (x_l 7 (iv x69) rfl (by kernel_rfl) (fun w' hw' => zo rfl ((zm Ag3 Sz3 l5) w' hw')) hS (xq 8 (.bool (x67 != x69)) rfl (YJ rfl rfl) hS (xe ?_)))
   clear hS
   rcases zf hs with ⟨g0, hs⟩ | ⟨g0, hs⟩
   ·refine zh (cb g0) (c_sr (ax rfl (ab rfl (zb (wp_ret ?_)))))
    cases hs
    have hO := hO.drop.drop.drop.nil
    exact ⟨_, none, 0, 0, [], fr_m 137 rfl, hC, xJ, hO.top⟩
   refine zi (cb g0) (wp_skip (ze (za _ (yad rfl rfl) (mi rfl (zb ?_)))))
   cases hs
   have hO := hO.fr2.fr2.fr2
   exact ⟨_, zG 137 ⟨rfl, rfl, rfl, rfl, rfl, rfl, rfl, congrArg (Value.int .i64) hw, trivial⟩, hC, hO, h0, h2, h3, hl0x2, hb0, hl1x1, hl1x3, hl1x4, hb1, a0, a1, d2⟩
  ·skip
   have hO := hO.fr2.fr2.fr2
   exact ⟨_, fr_m 137 rfl, hC, hO, h0, h2, h3, hl0x2, hb0, hl1x1, hl1x3, hl1x4, hb1, a0, a1, d2⟩
  cases o61 with
  | nx _ => exact True.intro
  | rt r_ =>
   have hs := zq hs
   intro d4 e4 hK
   cases hs
   exact hK
  | br s57 =>
   have hs := zp hs
   rintro d4 a4 ⟨σ, rfl, hC, hO, h0, h2, h3, hl0x2, hb0, hl1x1, hl1x3, hl1x4, hb1, a0, a1, d2⟩
   refine zd (c_sr (mp rfl (za _ (Zs rfl) (za (pq vg0 0) (zk rfl vq) (za _ (ld rfl Ag57 Sz57 hb0.1 rfl) (za _ (Zs rfl) (za (pq vg1 0) (zk rfl Vr) (za (pq vg1 1) (zk rfl Zq) (za _ (ld rfl Ag28 Sz28 hb1.1 rfl) (za _ (zn Sl28 (zt hl1x1) rfl) (mi rfl (zb ?_))))))))))))
   have hO := hO.drop
   obtain ⟨o146, l6, hs⟩ := bind_some hs
   refine wp_block (zT (id := 4) (b1.2.1.length : Int) (I := fun k144 s142 a a7 => ∃ (σ : Nv), a = fr 137 (ovl σ [(0, (pq vg0 0)), (3, (sv pa2 pn2 pc2)), (6, (pq a3 0)), (12, (sv a8 a9 b2)), (65, (sv va1x1 vn1x1 vc1x1)), (66, (iv (b1.2.1.length : Int))), (67, (iv k144))]) ∧ Chg [] w a7 ∧ Own (Nw w []) M a7 (b3 ++ ([a3] ++ [])) ∧ rp.val M a7 (sv pa0 pn0 pc0) b.2 [] ∧ rm.val M a7 (sv pa2 pn2 pc2) tables [] ∧ rm.val M a7 (sv va0x2 vn0x2 vc0x2) b0.2 [] ∧ RBox M a7 vg0 59 [(pq vg1 0), (iv b0.1), (sv va0x2 vn0x2 vc0x2)] ∧ rp.val M a7 (sv va1x1 vn1x1 vc1x1) b1.2.1 [] ∧ rm.val M a7 (sv va1x3 vn1x3 vc1x3) b1.2.2.2.1 [] ∧ (RT.mr (Value.int .i64)).val M a7 (.map (some vn1x4)) b1.2.2.2.2 [] ∧ RBox M a7 vg1 90 [(iv b1.1), (sv va1x1 vn1x1 vc1x1), (iv b1.2.2.1), (sv va1x3 vn1x3 vc1x3), (.map (some vn1x4))] ∧ BoxV a7 a3 30 [(iv b.1), (sv pa0 pn0 pc0)] ∧ (RT.os 3 ri).val M a7 (sv a8 a9 b2) s26 b3) (J := fun s142 a a7 => ∃ (σ : Nv), a = fr 137 (ovl σ [(12, (sv a8 a9 b2))]) ∧ Chg [] w a7 ∧ Own (Nw w []) M a7 (b3 ++ ([a3] ++ [])) ∧ rp.val M a7 (sv pa0 pn0 pc0) b.2 [] ∧ rm.val M a7 (sv pa2 pn2 pc2) tables [] ∧ rm.val M a7 (sv va0x2 vn0x2 vc0x2) b0.2 [] ∧ RBox M a7 vg0 59 [(pq vg1 0), (iv b0.1), (sv va0x2 vn0x2 vc0x2)] ∧ rp.val M a7 (sv va1x1 vn1x1 vc1x1) b1.2.1 [] ∧ rm.val M a7 (sv va1x3 vn1x3 vc1x3) b1.2.2.2.1 [] ∧ (RT.mr (Value.int .i64)).val M a7 (.map (some vn1x4)) b1.2.2.2.2 [] ∧ RBox M a7 vg1 90 [(iv b1.1), (sv va1x1 vn1x1 vc1x1), (iv b1.2.2.1), (sv va1x3 vn1x3 vc1x3), (.map (some vn1x4))] ∧ BoxV a7 a3 30 [(iv b.1), (sv pa0 pn0 pc0)] ∧ (RT.os 3 ri).val M a7 (sv a8 a9 b2) s26 b3) (K := (yw M w)) ?_ ?_ 0 () o146 _ _ ?_ l6 ?_)
   ·rintro k144 s142 a a7 ⟨σ, rfl, hC, hO, h0, h2, hl0x2, hb0, hl1x1, hl1x3, hl1x4, hb1, a0, a1⟩ hlt
    refine c_sr (za _ (zw rfl rfl) (zb (zd (zi (df hlt) (wp_exit ?_)))))
    have hO := hO.fr1.fr1
    exact ⟨rfl, _, fr_m 137 rfl, hC, hO, h0, h2, hl0x2, hb0, hl1x1, hl1x3, hl1x4, hb1, a0, a1⟩
   ·rintro k144 s142 o146 a a7 ⟨σ, rfl, hC, hO, h0, h2, hl0x2, hb0, hl1x1, hl1x3, hl1x4, hb1, a0, a1⟩ hlt hw hs
    refine c_sr (za _ (zw rfl rfl) (zb (zd (zh (dt hlt) (wp_skip (zd (wp_block (c_sr (mi rfl ?_)))))))))
    obtain ⟨x148, l7, hs⟩ := bind_some hs
    obtain ⟨l8, l9, m0, g1⟩ := zK Sl28 Sz77 hl1x1 l7
    refine za _ (ip m0 rfl rfl) ?_
    obtain ⟨r6, m1, m2⟩ := Zc Ag77 Sz77 (by intro h; cases h) g1
    obtain ⟨r7, rfl, m3⟩ := m2
    obtain ⟨r8, r9, rfl, m4, m5⟩ := Yn m3
    obtain rfl := Yx m4
    obtain ⟨c7, c8, c9, rfl, b4⟩ := YV m5
    refine za (.agg #[(iv x148.1), (sv c7 c8 c9)]) (zo rfl (m1 _ (Chg.refl _ _))) ?_
    obtain ⟨m6, c1, m7, h5, c4, h6⟩ := zg a7 [(iv 0), (sv none 0 0)] 77
    refine za (w' := m6) (pq c1 0) (YF (by rw [m7, h5]; kernel_rfl)) ?_
    obtain ⟨h0, h2, hl0x2, hb0, hl1x1, hl1x3, hl1x4, hb1⟩ := xt8 c4 h0 h2 hl0x2 hb0 hl1x1 hl1x3 hl1x4 hb1
    obtain ⟨a0, a1, b4, g1, hC⟩ := xt5 c4 a0 a1 b4 g1 hC
    have hO := hO.new1 c4 h5 h6.lt
    refine ai rfl ?_
    obtain ⟨h7, m8, d0, b5⟩ := Zx (P := Tryz.prog) h6 [] [(iv 0), (sv none 0 0)] [] [(iv x148.1), (sv c7 c8 c9)] rfl rfl (oc rfl)
    refine Zh (w' := h7) (zY rfl rfl (m8 _ _ rfl Sz77)) ?_
    have h0 := h0.mt d0 hO zl
    have h2 := h2.mt d0 hO zl
    have hl0x2 := hl0x2.mt d0 hO zl
    have hb0 := hb0.mut d0 (fun q hq => hO.inM q ((fun _ h => h) q hq))
    have hl1x1 := hl1x1.mt d0 hO zl
    have hl1x3 := hl1x3.mt d0 hO zl
    have hl1x4 := hl1x4.mt d0 hO zl
    have hb1 := hb1.mut d0 (fun q hq => hO.inM q ((fun _ h => h) q hq))
    have a0 := a0.ap d0 hO zl (zj mS)
    have a1 := a1.ma d0 hO zl (fun _ e => (zD (e)))
    have b4 := b4.mt d0 hO zl
    have hC := hC.st d0 hO zl
    have hO := hO.ext d0
    have b5 : BoxV h7 c1 77 [(iv x148.1), (sv c7 c8 c9)] := b5
    refine zb (c_sr (ms rfl (mi rfl ?_)))
    obtain ⟨x154, m9, hs⟩ := bind_some hs
    obtain ⟨n0, n1, n2, n3⟩ := zK Sl45 Sz34 h2 m9
    refine za _ (ip n2 rfl rfl) ?_
    obtain ⟨s0, n4, b6⟩ := Zc Ag34 Sz34 (fun _ => rfl) n3
    obtain ⟨d7, d8, d9, rfl⟩ := yl b6
    refine za (sv d7 d8 d9) (zo rfl (n4 _ (Chg.refl _ _))) (za _ (zn Sl34 (zt b6) rfl) (mi rfl (zb ?_)))
    obtain ⟨o189, n5, hs⟩ := bind_some hs
    refine wp_block (zT (id := 6) (x154.length : Int) (I := fun k187 s185 a a5 => ∃ (σ : Nv), a = fr 137 (ovl σ [(0, (pq vg0 0)), (3, (sv pa2 pn2 pc2)), (6, (pq a3 0)), (12, (sv a8 a9 b2)), (17, (iv k144)), (18, (pq c1 0)), (65, (sv va1x1 vn1x1 vc1x1)), (66, (iv (b1.2.1.length : Int))), (67, (iv k144)), (75, (sv d7 d8 d9)), (76, (iv (x154.length : Int))), (77, (iv k187))]) ∧ Chg [] w a5 ∧ Own (Nw w []) M a5 ([c1] ++ (b3 ++ ([a3] ++ []))) ∧ rp.val M a5 (sv pa0 pn0 pc0) b.2 [] ∧ rm.val M a5 (sv pa2 pn2 pc2) tables [] ∧ rm.val M a5 (sv va0x2 vn0x2 vc0x2) b0.2 [] ∧ RBox M a5 vg0 59 [(pq vg1 0), (iv b0.1), (sv va0x2 vn0x2 vc0x2)] ∧ rp.val M a5 (sv va1x1 vn1x1 vc1x1) b1.2.1 [] ∧ rm.val M a5 (sv va1x3 vn1x3 vc1x3) b1.2.2.2.1 [] ∧ (RT.mr (Value.int .i64)).val M a5 (.map (some vn1x4)) b1.2.2.2.2 [] ∧ RBox M a5 vg1 90 [(iv b1.1), (sv va1x1 vn1x1 vc1x1), (iv b1.2.2.1), (sv va1x3 vn1x3 vc1x3), (.map (some vn1x4))] ∧ BoxV a5 a3 30 [(iv b.1), (sv pa0 pn0 pc0)] ∧ (RT.os 3 ri).val M a5 (sv a8 a9 b2) s26 b3 ∧ rl.val M a5 (sv c7 c8 c9) x148.2 [] ∧ BoxV a5 c1 77 [(iv x148.1), (sv c7 c8 c9)] ∧ rl.val M a5 (sv d7 d8 d9) x154 []) (J := fun s185 a a5 => ∃ (σ : Nv), a = fr 137 (ovl σ [(0, (pq vg0 0)), (3, (sv pa2 pn2 pc2)), (6, (pq a3 0)), (12, (sv a8 a9 b2)), (65, (sv va1x1 vn1x1 vc1x1)), (66, (iv (b1.2.1.length : Int))), (67, (iv k144))]) ∧ Chg [] w a5 ∧ Own (Nw w []) M a5 ([c1] ++ (b3 ++ ([a3] ++ []))) ∧ rp.val M a5 (sv pa0 pn0 pc0) b.2 [] ∧ rm.val M a5 (sv pa2 pn2 pc2) tables [] ∧ rm.val M a5 (sv va0x2 vn0x2 vc0x2) b0.2 [] ∧ RBox M a5 vg0 59 [(pq vg1 0), (iv b0.1), (sv va0x2 vn0x2 vc0x2)] ∧ rp.val M a5 (sv va1x1 vn1x1 vc1x1) b1.2.1 [] ∧ rm.val M a5 (sv va1x3 vn1x3 vc1x3) b1.2.2.2.1 [] ∧ (RT.mr (Value.int .i64)).val M a5 (.map (some vn1x4)) b1.2.2.2.2 [] ∧ RBox M a5 vg1 90 [(iv b1.1), (sv va1x1 vn1x1 vc1x1), (iv b1.2.2.1), (sv va1x3 vn1x3 vc1x3), (.map (some vn1x4))] ∧ BoxV a5 a3 30 [(iv b.1), (sv pa0 pn0 pc0)] ∧ (RT.os 3 ri).val M a5 (sv a8 a9 b2) s26 b3 ∧ rl.val M a5 (sv c7 c8 c9) x148.2 [] ∧ BoxV a5 c1 77 [(iv x148.1), (sv c7 c8 c9)] ∧ rl.val M a5 (sv d7 d8 d9) x154 []) (K := (yw M w)) ?_ ?_ 0 () o189 _ _ ?_ n5 ?_)
    ·rintro k187 s185 a a5 ⟨σ, rfl, hC, hO, h0, h2, hl0x2, hb0, hl1x1, hl1x3, hl1x4, hb1, a0, a1, b4, b5, b6⟩ hlt
     refine c_sr (za _ (zw rfl rfl) (zb (zd (zi (df hlt) (wp_exit ?_)))))
     have hO := hO.fr2.fr2.fr2
     exact ⟨rfl, _, fr_m 137 rfl, hC, hO, h0, h2, hl0x2, hb0, hl1x1, hl1x3, hl1x4, hb1, a0, a1, b4, b5, b6⟩
    ·rintro k187 s185 o189 a a5 ⟨σ, rfl, hC, hO, h0, h2, hl0x2, hb0, hl1x1, hl1x3, hl1x4, hb1, a0, a1, b4, b5, b6⟩ hlt hw hs
     refine c_sr (za _ (zw rfl rfl) (zb (zd (zh (dt hlt) (wp_skip (zd (wp_block (c_sr (mi rfl ?_)))))))))
     obtain ⟨x191, n6, hs⟩ := bind_some hs
     obtain ⟨n7, n8, n9, o0⟩ := zK Sl34 Sz3 b6 n6
     refine za _ (ip n9 rfl rfl) (za (iv x191) (zo rfl ((zm Ag3 Sz3 o0) _ (Chg.refl _ _))) (ai rfl (ai rfl (zb (c_sr (mi rfl (ai rfl (ai rfl (ai rfl (zb (zd (c_sr (ai rfl (zb ?_))))))))))))))
     obtain ⟨o201, o1, hs⟩ := bind_some hs
     refine wp_block (zT (id := 8) x148.1 (I := fun k199 s197 a a2 => ∃ (σ : Nv), a = fr 137 (ovl σ [(0, (pq vg0 0)), (3, (sv pa2 pn2 pc2)), (6, (pq a3 0)), (12, (sv a8 a9 b2)), (17, (iv k144)), (18, (pq c1 0)), (20, (iv x191)), (21, (iv s197.1)), (22, (iv s197.2.1)), (23, (iv s197.2.2)), (24, (iv k199)), (65, (sv va1x1 vn1x1 vc1x1)), (66, (iv (b1.2.1.length : Int))), (67, (iv k144)), (75, (sv d7 d8 d9)), (76, (iv (x154.length : Int))), (77, (iv k187))]) ∧ Chg [] w a2 ∧ Own (Nw w []) M a2 ([c1] ++ (b3 ++ ([a3] ++ []))) ∧ rp.val M a2 (sv pa0 pn0 pc0) b.2 [] ∧ rm.val M a2 (sv pa2 pn2 pc2) tables [] ∧ rm.val M a2 (sv va0x2 vn0x2 vc0x2) b0.2 [] ∧ RBox M a2 vg0 59 [(pq vg1 0), (iv b0.1), (sv va0x2 vn0x2 vc0x2)] ∧ rp.val M a2 (sv va1x1 vn1x1 vc1x1) b1.2.1 [] ∧ rm.val M a2 (sv va1x3 vn1x3 vc1x3) b1.2.2.2.1 [] ∧ (RT.mr (Value.int .i64)).val M a2 (.map (some vn1x4)) b1.2.2.2.2 [] ∧ RBox M a2 vg1 90 [(iv b1.1), (sv va1x1 vn1x1 vc1x1), (iv b1.2.2.1), (sv va1x3 vn1x3 vc1x3), (.map (some vn1x4))] ∧ BoxV a2 a3 30 [(iv b.1), (sv pa0 pn0 pc0)] ∧ (RT.os 3 ri).val M a2 (sv a8 a9 b2) s26 b3 ∧ rl.val M a2 (sv c7 c8 c9) x148.2 [] ∧ BoxV a2 c1 77 [(iv x148.1), (sv c7 c8 c9)] ∧ rl.val M a2 (sv d7 d8 d9) x154 []) (J := fun s197 a a2 => ∃ (σ : Nv), a = fr 137 (ovl σ [(0, (pq vg0 0)), (3, (sv pa2 pn2 pc2)), (6, (pq a3 0)), (12, (sv a8 a9 b2)), (17, (iv k144)), (18, (pq c1 0)), (20, (iv x191)), (21, (iv s197.1)), (65, (sv va1x1 vn1x1 vc1x1)), (66, (iv (b1.2.1.length : Int))), (67, (iv k144)), (75, (sv d7 d8 d9)), (76, (iv (x154.length : Int))), (77, (iv k187))]) ∧ Chg [] w a2 ∧ Own (Nw w []) M a2 ([c1] ++ (b3 ++ ([a3] ++ []))) ∧ rp.val M a2 (sv pa0 pn0 pc0) b.2 [] ∧ rm.val M a2 (sv pa2 pn2 pc2) tables [] ∧ rm.val M a2 (sv va0x2 vn0x2 vc0x2) b0.2 [] ∧ RBox M a2 vg0 59 [(pq vg1 0), (iv b0.1), (sv va0x2 vn0x2 vc0x2)] ∧ rp.val M a2 (sv va1x1 vn1x1 vc1x1) b1.2.1 [] ∧ rm.val M a2 (sv va1x3 vn1x3 vc1x3) b1.2.2.2.1 [] ∧ (RT.mr (Value.int .i64)).val M a2 (.map (some vn1x4)) b1.2.2.2.2 [] ∧ RBox M a2 vg1 90 [(iv b1.1), (sv va1x1 vn1x1 vc1x1), (iv b1.2.2.1), (sv va1x3 vn1x3 vc1x3), (.map (some vn1x4))] ∧ BoxV a2 a3 30 [(iv b.1), (sv pa0 pn0 pc0)] ∧ (RT.os 3 ri).val M a2 (sv a8 a9 b2) s26 b3 ∧ rl.val M a2 (sv c7 c8 c9) x148.2 [] ∧ BoxV a2 c1 77 [(iv x148.1), (sv c7 c8 c9)] ∧ rl.val M a2 (sv d7 d8 d9) x154 []) (K := (yw M w)) ?_ ?_ 0 (0, 1, k187) o201 _ _ ?_ o1 ?_)
     ·rintro k199 s197 a a2 ⟨σ, rfl, hC, hO, h0, h2, hl0x2, hb0, hl1x1, hl1x3, hl1x4, hb1, a0, a1, b4, b5, b6⟩ hlt
      refine zd (c_sr (mi rfl (za (pq c1 0) (zk rfl ZP) (za _ (ld rfl Ag3 Sz3 b5 rfl) (za _ (zw rfl rfl) (zb (zi (df hlt) (wp_exit ?_))))))))
      have hO := hO.fr2.fr2.fr2
      exact ⟨rfl, _, fr_m 137 rfl, hC, hO, h0, h2, hl0x2, hb0, hl1x1, hl1x3, hl1x4, hb1, a0, a1, b4, b5, b6⟩
     ·rintro k199 s197 o201 a a2 ⟨σ, rfl, hC, hO, h0, h2, hl0x2, hb0, hl1x1, hl1x3, hl1x4, hb1, a0, a1, b4, b5, b6⟩ hlt hw hs
      refine zd (c_sr (mi rfl (za (pq c1 0) (zk rfl ZP) (za _ (ld rfl Ag3 Sz3 b5 rfl) (za _ (zw rfl rfl) (zb (zh (dt hlt) (wp_skip (zd (wp_block (c_sr (mi rfl (ms rfl (mi rfl (mp rfl (za _ (Zs rfl) (za (pq vg0 0) (zk rfl vq) (za _ (ld rfl Ag57 Sz57 hb0.1 rfl) (za _ (Zs rfl) (za (pq vg1 3) (zk rfl YD) (za _ (ld rfl Ag45 Sz45 hb1.1 rfl) (za _ (zn Sl45 (zt hl1x3) rfl) ?_))))))))))))))))))))))
      obtain ⟨u203, o2, hs⟩ := bind_some hs
      refine za (iv (Int.tmod s197.2.2 (b1.2.2.2.1.length : Int))) (y_rem rfl rfl (Us o2)) ?_
      obtain ⟨x204, o3, hs⟩ := bind_some hs
      obtain ⟨o4, s1, s2, s3, o5, o6, s4⟩ := zS Sl34 Sz3 a1 o3
      refine za _ (ip o5 rfl rfl) (za (iv x204) (zo rfl ((zm Ag3 Sz3 o6) _ (Chg.refl _ _))) (mi rfl (za _ (ymu rfl rfl) (za _ (yad rfl rfl) (ai rfl (zb (c_sr (mi rfl (mp rfl (za _ (Zs rfl) (za (pq vg0 0) (zk rfl vq) (za _ (ld rfl Ag57 Sz57 hb0.1 rfl) (za _ (Zs rfl) (za (pq vg1 3) (zk rfl YD) (za _ (ld rfl Ag45 Sz45 hb1.1 rfl) (za _ (zn Sl45 (zt hl1x3) rfl) ?_))))))))))))))))
      obtain ⟨u206, o7, hs⟩ := bind_some hs
      refine za (iv (w64 (Int.tdiv s197.2.2 (b1.2.2.2.1.length : Int)))) (y_quo rfl rfl (Us o7)) (ai rfl (zb (ze (mi rfl (za (pq a3 0) (zk rfl yO) (za _ (ld rfl Ag3 Sz3 a0 rfl) (za _ (ymu rfl rfl) (ai rfl (zb (ze (mi rfl (za _ (yad rfl rfl) (ai rfl (zb ?_))))))))))))))
      cases hs
      have hO := hO.fr2.fr2.fr2
      exact ⟨_, zG 137 ⟨rfl, rfl, rfl, rfl, rfl, rfl, rfl, rfl, rfl, rfl, congrArg (Value.int .i64) hw, rfl, rfl, rfl, rfl, rfl, rfl, trivial⟩, hC, hO, h0, h2, hl0x2, hb0, hl1x1, hl1x3, hl1x4, hb1, a0, a1, b4, b5, b6⟩
     ·skip
      have hO := hO.fr2.fr2.fr2
      exact ⟨_, fr_m 137 rfl, hC, hO, h0, h2, hl0x2, hb0, hl1x1, hl1x3, hl1x4, hb1, a0, a1, b4, b5, b6⟩
     cases o201 with
     | nx _ => exact True.intro
     | rt r_ =>
      have hs := zq hs
      intro d4 e4 hK
      cases hs
      exact hK
     | br s197 =>
      have hs := zp hs
      rintro d4 a2 ⟨σ, rfl, hC, hO, h0, h2, hl0x2, hb0, hl1x1, hl1x3, hl1x4, hb1, a0, a1, b4, b5, b6⟩
      refine zd (zQ [] Mx rfl ?_)
      have b7 := Chg.drew a2
      generalize World.drew a2 = o8 at b7 ⊢
      obtain ⟨h0, h2, hl0x2, hb0, hl1x1, hl1x3, hl1x4, hb1⟩ := xt8 b7 h0 h2 hl0x2 hb0 hl1x1 hl1x3 hl1x4 hb1
      obtain ⟨a0, a1, b4, b5, b6, hC, hO⟩ := xt7 b7 a0 a1 b4 b5 b6 hC hO
      have hS := Chg.refl [] o8
      refine xms 0 rfl rfl hS (xmi 1 rfl rfl hS ?_)
      obtain ⟨x208, o9, hs⟩ := bind_some hs
      obtain ⟨p0, s5, s6, s7, p1, p2, s8⟩ := zS Sl34 Sz3 a1 o9
      refine xq 2 _ rfl (ip p1 rfl rfl) hS (x_l 3 (iv x208) rfl (by kernel_rfl) (fun w' hw' => zo rfl ((zm Ag3 Sz3 p2) w' hw')) hS (xq 4 (pq a3 1) rfl (zk rfl Zq) hS (xl 5 rfl (ldx rfl Ag28 Sz28 a0 rfl) hS (xmi 6 rfl rfl hS ?_))))
      obtain ⟨x210, p3, hs⟩ := bind_some hs
      obtain ⟨h8, h9, p4, p5⟩ := zK Sl28 Sz77 h0 p3
      refine xq 7 _ rfl (ip p4 rfl rfl) hS ?_
      obtain ⟨_, p6⟩ := Xt p5
      refine xq 8 (.pointer (some ⟨h8, h9 + 1, none⟩)) rfl (zk rfl xA) hS ?_
      obtain ⟨s9, p7, i0⟩ := Zc Ag34 Sz34 (fun _ => rfl) p6
      obtain ⟨p8, p9, q0, rfl⟩ := yl i0
      refine x_l 9 (sv p8 p9 q0) rfl (by kernel_rfl) (fun w' hw' => zo rfl (p7 w' hw')) hS (xmi 10 rfl rfl hS ?_)
      obtain ⟨x215, q1, hs⟩ := bind_some hs
      obtain ⟨q2, q3, q4, q5⟩ := zK Sl34 Sz3 i0 q1
      refine xq 11 _ rfl (ip q4 rfl rfl) hS (x_l 12 (iv x215) rfl (by kernel_rfl) (fun w' hw' => zo rfl ((zm Ag3 Sz3 q5) w' hw')) hS (xq 13 (.bool (x208 != x215)) rfl (YJ rfl rfl) hS (xe ?_)))
      clear hS
      rcases zf hs with ⟨g2, hs⟩ | ⟨g2, hs⟩
      ·refine zh (cb g2) (c_sr (ax rfl (ab rfl (zb (wp_ret ?_)))))
       cases hs
       have hO := hO.drop.drop.drop.nil
       exact ⟨_, none, 0, 0, [], fr_m 137 rfl, hC, xJ, hO.top⟩
      refine zi (cb g2) (wp_skip (ze (za _ (yad rfl rfl) (mi rfl (zb ?_)))))
      cases hs
      have hO := hO.fr2.fr2.fr2
      exact ⟨_, zG 137 ⟨rfl, rfl, rfl, rfl, rfl, rfl, rfl, rfl, rfl, rfl, rfl, congrArg (Value.int .i64) hw, trivial⟩, hC, hO, h0, h2, hl0x2, hb0, hl1x1, hl1x3, hl1x4, hb1, a0, a1, b4, b5, b6⟩
    ·skip
     have hO := hO.fr2.fr2.fr2
     exact ⟨_, fr_m 137 rfl, hC, hO, h0, h2, hl0x2, hb0, hl1x1, hl1x3, hl1x4, hb1, a0, a1, b4, b5, b6⟩
    cases o189 with
    | nx _ => exact True.intro
    | rt r_ =>
     have hs := zq hs
     intro d4 e4 hK
     cases hs
     exact hK
    | br s185 =>
     have hs := zp hs
     rintro d4 a5 ⟨σ, rfl, hC, hO, h0, h2, hl0x2, hb0, hl1x1, hl1x3, hl1x4, hb1, a0, a1, b4, b5, b6⟩
     refine ze (za _ (yad rfl rfl) (mi rfl (zb ?_)))
     cases hs
     have hO := hO.drop.fr1.fr1
     exact ⟨_, zG 137 ⟨rfl, rfl, rfl, rfl, rfl, rfl, congrArg (Value.int .i64) hw, trivial⟩, hC, hO, h0, h2, hl0x2, hb0, hl1x1, hl1x3, hl1x4, hb1, a0, a1⟩
   ·skip
    have hO := hO.fr1.fr1
    exact ⟨_, fr_m 137 rfl, hC, hO, h0, h2, hl0x2, hb0, hl1x1, hl1x3, hl1x4, hb1, a0, a1⟩
   cases o146 with
   | nx _ => exact True.intro
   | rt r_ =>
    have hs := zq hs
    intro d4 e4 hK
    cases hs
    exact hK
   | br s142 =>
    have hs := zp hs
    rintro d4 a7 ⟨σ, rfl, hC, hO, h0, h2, hl0x2, hb0, hl1x1, hl1x3, hl1x4, hb1, a0, a1⟩
    refine c_sr (ms rfl (ax rfl (ab rfl (zb (wp_ret ?_)))))
    cases hs
    have hO := hO.fr1.drop
    exact ⟨_, a8, a9, b2, b3, fr_m 137 rfl, hC, a1, hO.top⟩

theorem Bd28 : zF Tryz.prog 28 := zJ Tryz.func28 (by kernel_rfl) rfl

theorem Bd29 : zF Tryz.prog 29 := zJ Tryz.func29 (by kernel_rfl) rfl

theorem Bd30 : zF Tryz.prog 30 := zJ Tryz.func30 (by kernel_rfl) rfl

theorem Bd33 : zF Tryz.prog 33 := zJ Tryz.func33 (by kernel_rfl) rfl

def vZ (M : Nat → Prop) (w0 : World) (r : (List Int) × Bool) (a : Act) (w : World) : Prop :=
  ∃ (σ : Nv) (ra0 : OA) (rn0 rc0 : Nat) (rf0 : List Nat), a = fr 67 (ovl σ [(8, (sv ra0 rn0 rc0)), (9, (.bool r.2))]) ∧ Chg [] w0 w ∧ (RT.os 3 ri).val M w (sv ra0 rn0 rc0) r.1 rf0 ∧ Own (Nw w0 []) (fun _ => True) w (rf0 ++ [])
def yK (a_ : Int × (List (Int × (List Int)))) (k : Int) (b : Int × (List (Int × (List Int)))) (images : List Int) : Option ((List Int) × Bool) :=
  (ym (a_.1, a_.2) k).bind fun r7 =>
  ((bif (!r7.2) then some true else (Yi (a_.1, a_.2) (b.1, b.2)).bind fun r14 =>
  (bif (!r14) then some true else (bif ((images.length : Int) != k) then some true else (Yu images b.1).bind fun r18 =>
  some (!r18))))).bind fun s9 =>
  (bif s9 then some ([], false) else (r7.1).bind fun p23 =>
  (Yd (p23.2.1, p23.2.2) (p23.1.1.1, p23.1.1.2, p23.1.2.1, p23.1.2.2.1, p23.1.2.2.2)).bind fun r31 =>
  (bif (!r31.2) then some ([], false) else (Zu (p23.1.1.1, p23.1.1.2, p23.1.2.1, p23.1.2.2.1, p23.1.2.2.2)).bind fun r38 =>
  (yx (b.1, b.2) r31.1 r38 images (p23.2.1, p23.2.2) (p23.1.1.1, p23.1.1.2, p23.1.2.1, p23.1.2.2.1, p23.1.2.2.2)).bind fun r41 =>
  (bif (!r41.2) then some ([], false) else some (r41.1, true))))
theorem we {M : Nat → Prop} {w : World} {pa0 : OA} {pn0 pc0 : Nat} {pa1 : OA} {pn1 pc1 : Nat} {pa2 : OA} {pn2 pc2 : Nat} (a_ : tA) (k : Int) (b : tA) (images : List Int) (h0 : rp.val M w (sv pa0 pn0 pc0) a_.2 []) (h1 : rp.val M w (sv pa1 pn1 pc1) b.2 []) (h2 : rl.val M w (sv pa2 pn2 pc2) images []) (hM : Hm w M) {r : (List Int) × Bool} (hs : yK a_ k b images = some r) :
    Gives Tryz.prog 19 [(.agg #[(iv a_.1), (sv pa0 pn0 pc0)]), (iv k), (.agg #[(iv b.1), (sv pa1 pn1 pc1)]), (sv pa2 pn2 pc2)] w (fun v w' => ∃ (ra0 : OA) (rn0 rc0 : Nat) (rf0 : List Nat), v = (.tuple #[(sv ra0 rn0 rc0), (.bool r.2)]) ∧ Chg [] w w' ∧ (RT.os 3 ri).val M w' (sv ra0 rn0 rc0) r.1 rf0 ∧ Own (Nw w []) (fun _ => True) w' (rf0 ++ [])) := by
 refine zr Tryz.func19 rfl Tryz.ntmps19 (nl rfl) ?_
 have hO := Own.start (N := Nw w []) hM Nw.fut
 have hC := Chg.refl [] w
 unfold yK at hs
 refine wp_k (K := (vZ M w r)) (by rintro _ _ ⟨σ, ra0, rn0, rc0, rf0, rfl, hrest⟩; exact wb Tryz.results19 (zB rfl) (zB rfl) ⟨ra0, rn0, rc0, rf0, rfl, hrest⟩) (c_sr ?_)
 obtain ⟨i4, b8, k1, i5, f1, a4⟩ := zg w [(iv a_.1), (sv pa0 pn0 pc0)] 30
 refine za (w' := i4) (pq b8 0) (Zj rfl (by rw [k1, i5]; kernel_rfl)) ?_
 obtain ⟨h0, h1, h2, hC⟩ := xt4 f1 h0 h1 h2 hC
 have hO := hO.new1 f1 i5 a4.lt
 obtain ⟨a2, b5, k2, i6, d5, a5⟩ := zg i4 [(iv b.1), (sv pa1 pn1 pc1)] 30
 refine za (w' := a2) (pq b5 0) (Zj rfl (by rw [k2, i6]; kernel_rfl)) ?_
 obtain ⟨h0, h1, h2, a4, hC⟩ := xt5 d5 h0 h1 h2 a4 hC
 have hO := hO.new1 d5 i6 a5.lt
 refine ax rfl (ab rfl (zb (c_sr (za _ (ldw rfl Ag30 a4 Sz30) (mi rfl ?_)))))
 obtain ⟨r7, k3, hs⟩ := bind_some hs
 refine zy Bd28 rfl (uZ (M := M) (a_.1, a_.2) k h0 hO.fut k3) ?_
 rintro _ a1 ⟨f2, a3, rfl, d2, c9, k4⟩
 have hO := hO.perm (R := [] ++ ([b5] ++ ([b8] ++ []))) (by simp)
 have k5 := Own.pastL hO d2 k4
 have hK := (show Keeps w M (PastL M [] a2 a1 (a3 ++ [])) from Keeps.pastL hC.size (fun g hg => (hO.inN g hg).resolve_left (fun h => nomatch h)))
 obtain ⟨h0, h1, h2, a4, a5, hC⟩ := xt6 d2 h0 h1 h2 a4 a5 hC
 have hO := k5
 have h0 := h0.sub (M' := (PastL M [] a2 a1 (a3 ++ []))) (fun g hg => .inl hg.1)
 have h1 := h1.sub (M' := (PastL M [] a2 a1 (a3 ++ []))) (fun g hg => .inl hg.1)
 have h2 := h2.sub (M' := (PastL M [] a2 a1 (a3 ++ []))) (fun g hg => .inl hg.1)
 have hO := hO.perm (R := a3 ++ ([b5] ++ ([b8] ++ []))) (by simp)
 refine za (.tuple #[f2, (.bool r7.2)]) (zx rfl) (za f2 (zH rfl (by kernel_rfl)) (za (.bool r7.2) (zH rfl (by kernel_rfl)) (za f2 (zA rfl) (ab rfl (zb (zd (zd ?_)))))))
 obtain ⟨s9, k6, hs⟩ := bind_some hs
 refine yB (I := fun a f3 => ∃ (σ : Nv), a = fr 67 (ovl σ [(3, (sv pa2 pn2 pc2)), (6, (pq b5 0)), (8, (sv none 0 0)), (9, (.bool false)), (10, f2), (11, (.bool r7.2)), (40, (.bool s9))]) ∧ Chg [] a1 f3) ?_ ?_
 ·replace hs := k6
  have hMid := Chg.refl [] a1
  refine ze (mb rfl (za _ (ZA rfl) (mb rfl ?_)))
  rcases zf hs with ⟨c7, hs⟩ | ⟨c7, hs⟩
  ·skip
   refine pn 22 (cb c7) (pn 22 (cb c7) (pn 22 (cb c7) (pn 22 (cb c7) (za _ (ptb (cb c7) rfl) (mb rfl (pn 28 (by rfl) (pn 28 (by rfl) (pn 28 (by rfl) (pn 28 (by rfl) (za _ (ptb (by rfl) rfl) (mb rfl (pn 34 (by rfl) (pn 34 (by rfl) (pn 34 (by rfl) (pn 34 (by rfl) (pn 34 (by rfl) (za _ (ptb (by rfl) rfl) (zb ?_))))))))))))))))))
   cases hs
   exact ⟨_, fr_m 67 rfl, hMid⟩
  refine py 22 _ (cb c7) (ldw rfl Ag30 a4 Sz30) (py 22 _ (cb c7) (ldw rfl Ag30 a5 Sz30) ?_)
  obtain ⟨r14, k7, hs⟩ := bind_some hs
  refine yt (tg := 22) (by kernel_rfl) (cb c7) Bd29 rfl (VV (M := (PastL M [] a2 a1 (a3 ++ []))) (a_.1, a_.2) (b.1, b.2) h0 h1 hO.fut k7) ?_
  rintro _ n9 ⟨rfl, d0⟩
  obtain ⟨h0, h1, h2, a4, a5, c9, hMid, hC⟩ := xt8 d0 h0 h1 h2 a4 a5 c9 hMid hC
  have hO := hO.ext d0
  refine py 22 _ (cb c7) (ZA rfl) (za _ (pfb (cb c7) rfl) (mb rfl ?_))
  rcases zf hs with ⟨c8, hs⟩ | ⟨c8, hs⟩
  ·skip
   refine pn 28 (cb c8) (pn 28 (cb c8) (pn 28 (cb c8) (pn 28 (cb c8) (za _ (ptb (cb c8) rfl) (mb rfl (pn 34 (by rfl) (pn 34 (by rfl) (pn 34 (by rfl) (pn 34 (by rfl) (pn 34 (by rfl) (za _ (ptb (by rfl) rfl) (zb ?_))))))))))))
   cases hs
   exact ⟨_, fr_m 67 rfl, hMid⟩
  refine py 28 (sv pa2 pn2 pc2) (cb c8) (zx rfl) (py 28 _ (cb c8) (zn Sl34 (zt h2) rfl) (py 28 (iv k) (cb c8) (zx rfl) (py 28 (.bool ((images.length : Int) != k)) (cb c8) (YJ rfl rfl) (za _ (pfb (cb c8) rfl) (mb rfl ?_)))))
  rcases zf hs with ⟨c2, hs⟩ | ⟨c2, hs⟩
  ·skip
   refine pn 34 (cb c2) (pn 34 (cb c2) (pn 34 (cb c2) (pn 34 (cb c2) (pn 34 (cb c2) (za _ (ptb (cb c2) rfl) (zb ?_))))))
   cases hs
   exact ⟨_, fr_m 67 rfl, hMid⟩
  refine py 34 (sv pa2 pn2 pc2) (cb c2) (zx rfl) (py 34 (pq b5 0) (cb c2) (zk rfl yO) (py 34 _ (cb c2) (ld rfl Ag3 Sz3 a5 rfl) ?_))
  obtain ⟨r18, k8, hs⟩ := bind_some hs
  refine yt (tg := 34) (by kernel_rfl) (cb c2) Bd40 rfl (vb (M := (PastL M [] a2 a1 (a3 ++ []))) images b.1 h2 hO.fut k8) ?_
  rintro _ o0 ⟨rfl, d1⟩
  obtain ⟨h0, h1, h2, a4, a5, c9, hMid, hC⟩ := xt8 d1 h0 h1 h2 a4 a5 c9 hMid hC
  have hO := hO.ext d1
  refine py 34 _ (cb c2) (ZA rfl) (za _ (pfb (cb c2) rfl) (zb ?_))
  cases hs
  exact ⟨_, fr_m 67 rfl, hMid⟩
 rintro k9 f3 ⟨σ, rfl, d3⟩
 obtain ⟨h1, h2, a4, a5, c9, hC, hO⟩ := xt7 d3 h1 h2 a4 a5 c9 hC hO
 rcases zf hs with ⟨h3, hs⟩ | ⟨h3, hs⟩
 ·refine zh (cb h3) (c_sr ?_)
  obtain ⟨i7, d6, l0, i9, d4, j0⟩ := zg f3 [] 3
  refine za (w' := i7) (sv (some ⟨d6, 0, none⟩) 0 0) (zz rfl (by rw [l0, i9]; kernel_rfl)) ?_
  obtain ⟨h1, h2, a4, a5, c9, hC⟩ := xt6 d4 h1 h2 a4 a5 c9 hC
  have hO := hO.new1 d4 i9 j0.lt
  have h4 := os0 (r := ri) (M := (PastL M [] a2 a1 (a3 ++ []))) j0
  refine ax rfl (ab rfl (zb (wp_ret ?_)))
  cases hs
  have hO := hO.fr1.drop.fr1.drop.fr1.drop
  exact ⟨_, (some ⟨d6, 0, none⟩), 0, 0, [d6], fr_m 67 rfl, hC, (h4.free (Free.os Free.int)), hO.top⟩
 refine zi (cb h3) (wp_skip (c_sr (za f2 (zx rfl) ?_)))
 obtain ⟨p23, l1, hs⟩ := bind_some hs
 obtain ⟨a6, rfl, l2⟩ := op_get c9 l1
 obtain ⟨o1, o2, l3, b0, l4⟩ := zae l2
 obtain ⟨o3, o4, o5, o6, rfl, rfl, l5, l6⟩ := l4
 obtain ⟨a0, rfl, l7⟩ := po_rel l5
 obtain ⟨o7, o8, rfl, a9, l8⟩ := zae l7
 obtain ⟨o9, p0, p1, p2, rfl, rfl, l9, m0⟩ := l8
 obtain ⟨p3, p4, p5, p6, rfl, rfl, m1, m2⟩ := l9
 obtain ⟨rfl, rfl⟩ := m1
 obtain ⟨d7, d8, d9, rfl, rfl, b1⟩ := zac m2
 obtain ⟨p7, p8, p9, q0, rfl, rfl, m3, m4⟩ := m0
 obtain ⟨rfl, rfl⟩ := m3
 obtain ⟨q1, q2, a7, a8, rfl, rfl, m5, m6⟩ := m4
 obtain ⟨e0, e1, e2, rfl, b2⟩ := os_rel' m5
 obtain ⟨e3, rfl, b3⟩ := mo_rel' m6
 have a9 : BoxV f3 a0 90 [(iv p23.1.1.1), (sv d7 d8 d9), (iv p23.1.2.1), (sv e0 e1 e2), (.map (some e3))] := a9
 obtain ⟨q3, q4, q5, q6, rfl, rfl, m7, m8⟩ := l6
 obtain ⟨rfl, rfl⟩ := m7
 obtain ⟨f4, f5, f6, rfl, rfl, b4⟩ := zac m8
 have b0 : BoxV f3 a6 59 [(pq a0 0), (iv p23.2.1), (sv f4 f5 f6)] := b0
 have hO := ((((hO.perm (R := [a6] ++ ([a0] ++ (a7 ++ (a8 ++ ([b5] ++ ([b8] ++ [])))))) (by rw [l3]; simp)).fr3).fr3).fr3).fr3
 obtain ⟨r31, m9, hs⟩ := bind_some hs
 refine zy Bd30 rfl (vi (M := (Less (Less (Less (Less (PastL M [] a2 a1 (a3 ++ [])) [a6]) [a0]) a7) a8)) (p23.2.1, p23.2.2) (p23.1.1.1, p23.1.1.2, p23.1.2.1, p23.1.2.2.1, p23.1.2.2.2) (show RBox (Less (Less (Less (Less (PastL M [] a2 a1 (a3 ++ [])) [a6]) [a0]) a7) a8) _ a6 59 [(pq a0 0), (iv p23.2.1), (sv f4 f5 f6)] from ⟨b0, fun h => by simp [Less] at h⟩) ((((b4.sub Less.sub).sub Less.sub).sub Less.sub).sub Less.sub) (show RBox (Less (Less (Less (Less (PastL M [] a2 a1 (a3 ++ [])) [a6]) [a0]) a7) a8) _ a0 90 [(iv p23.1.1.1), (sv d7 d8 d9), (iv p23.1.2.1), (sv e0 e1 e2), (.map (some e3))] from ⟨a9, fun h => by simp [Less] at h⟩) ((((b1.sub Less.sub).sub Less.sub).sub Less.sub).sub Less.sub) ((((Frz.os (Frz.rs Frz.int))).val ((b2.sub Less.sub).sub Less.sub) Less.sub Less.not).sub Less.sub) ((Frz.mo).val (((b3.sub Less.sub).sub Less.sub).sub Less.sub) Less.sub Less.not) (((hO.less).less).less).less.fut m9) ?_
 rintro _ h5 ⟨g0, g1, g2, b7, rfl, c6, b6, n0⟩
 have hO := hO.fr3.fr3.fr3.fr3.perm (R := [] ++ ([a6] ++ ([a0] ++ (a7 ++ (a8 ++ ([b5] ++ ([b8] ++ []))))))) (by simp)
 obtain ⟨h1, h2, a4, a5, b1, b2, b3, a9⟩ := xt8 c6 h1 h2 a4 a5 b1 b2 b3 a9
 obtain ⟨b4, b0, hC⟩ := xt3 c6 b4 b0 hC
 have hO := Own.join hO c6 n0
 have hO := hO.perm (R := b7 ++ ([a6] ++ ([a0] ++ (a7 ++ (a8 ++ ([b5] ++ ([b8] ++ []))))))) (by simp)
 have b6 := b6.free (M' := (PastL M [] a2 a1 (a3 ++ []))) (Free.os (Free.os Free.int))
 refine za (.tuple #[(sv g0 g1 g2), (.bool r31.2)]) (zx rfl) (za (sv g0 g1 g2) (zH rfl (by kernel_rfl)) (za (.bool r31.2) (zH rfl (by kernel_rfl)) (ax rfl (ab rfl (zb (zd (c_sr (mb rfl (za _ (ZA rfl) (zb ?_))))))))))
 rcases zf hs with ⟨h6, hs⟩ | ⟨h6, hs⟩
 ·refine zh (cb h6) (c_sr ?_)
  obtain ⟨j1, e4, n1, j2, c3, j3⟩ := zg h5 [] 3
  refine za (w' := j1) (sv (some ⟨e4, 0, none⟩) 0 0) (zz rfl (by rw [n1, j2]; kernel_rfl)) ?_
  obtain ⟨h1, h2, a4, a5, b1, b2, b3, a9⟩ := xt8 c3 h1 h2 a4 a5 b1 b2 b3 a9
  obtain ⟨b4, b0, b6, hC⟩ := xt4 c3 b4 b0 b6 hC
  have hO := hO.new1 c3 j2 j3.lt
  have h7 := os0 (r := ri) (M := (PastL M [] a2 a1 (a3 ++ []))) j3
  refine ax rfl (ab rfl (zb (wp_ret ?_)))
  cases hs
  have hO := hO.fr1.drop.fr1.drop.fr1.drop.fr1.drop.fr1.drop.fr1.drop.fr1.drop
  exact ⟨_, (some ⟨e4, 0, none⟩), 0, 0, [e4], fr_m 67 rfl, hC, (h7.free (Free.os Free.int)), hO.top⟩
 refine zi (cb h6) (wp_skip (zd ?_))
 obtain ⟨r38, j4, hs⟩ := bind_some hs
 obtain ⟨r41, j5, hs⟩ := bind_some hs
 refine yB (I := fun a f7 => ∃ (σ : Nv) (e5 : OA) (e6 : Nat) (g3 : List Nat) (e7 : Nat), a = fr 67 (ovl σ [(8, (sv none 0 0)), (9, (.bool false)), (11, (.bool r41.2)), (13, (sv e5 e7 e6))]) ∧ Chg [] w f7 ∧ Own (Nw w []) (PastL M [] a2 a1 (a3 ++ [])) f7 (g3 ++ []) ∧ (RT.os 3 ri).val (PastL M [] a2 a1 (a3 ++ [])) f7 (sv e5 e7 e6) r41.1 g3) ?_ ?_
 ·skip
  refine zQ [7, 9] Mx rfl ?_
  have b9 := Chg.drew h5
  generalize World.drew h5 = n2 at b9 ⊢
  obtain ⟨h1, h2, a4, a5, b1, b2, b3, a9⟩ := xt8 b9 h1 h2 a4 a5 b1 b2 b3 a9
  obtain ⟨b4, b0, b6, hC, hO⟩ := xt5 b9 b4 b0 b6 hC hO
  have hS := Chg.refl [] n2
  refine xmp 0 rfl rfl hS (xms 2 rfl rfl hS (xmp 3 rfl rfl hS (xq 4 _ rfl (Zs rfl) hS (xq 5 (pq a6 0) rfl (zk rfl vq) hS (xl 6 rfl (ldx rfl Ag57 Sz57 b0 rfl) hS (xms 8 rfl rfl hS (wX (i := 1) (j := 7) (by kernel_rfl) ?_ ?_)))))))
  ·skip
   refine zR (b := false) (.agg #[(iv b.1), (sv pa1 pn1 pc1)]) rfl (zo rfl ((Zz Ag30 Sz30 a5 [] [(iv b.1), (sv pa1 pn1 pc1)] [] rfl rfl (fun h => nomatch h)) _ (Chg.refl _ _))) rfl (fun _ => hS) (zI (i := 7) (by kernel_rfl) ?_)
   have hO := hO.fr4.fr4.fr4
   refine zL (b := true) rfl Bd31 rfl (Yw (M := (Less (Less (Less (PastL M [] a2 a1 (a3 ++ [])) [a0]) a7) a8)) (p23.1.1.1, p23.1.1.2, p23.1.2.1, p23.1.2.2.1, p23.1.2.2.2) (show RBox (Less (Less (Less (PastL M [] a2 a1 (a3 ++ [])) [a0]) a7) a8) _ a0 90 [(iv p23.1.1.1), (sv d7 d8 d9), (iv p23.1.2.1), (sv e0 e1 e2), (.map (some e3))] from ⟨a9, fun h => by simp [Less] at h⟩) (((b1.sub Less.sub).sub Less.sub).sub Less.sub) ((((Frz.os (Frz.rs Frz.int))).val (b2.sub Less.sub) Less.sub Less.not).sub Less.sub) ((Frz.mo).val ((b3.sub Less.sub).sub Less.sub) Less.sub Less.not) ((hO.less).less).less.fut j4) rfl (fun h => nomatch h) ?_
   rintro _ q7 ⟨q8, q9, r0, e8, rfl, c4, f8, n3⟩
   have hO := hO.fr2.fr2.fr2.perm (R := [] ++ ([a0] ++ (a7 ++ (a8 ++ (b7 ++ ([a6] ++ ([b5] ++ ([b8] ++ [])))))))) (by simp)
   obtain ⟨h1, h2, a4, a5, b1, b2, b3, a9⟩ := xt8 c4 h1 h2 a4 a5 b1 b2 b3 a9
   obtain ⟨b4, b0, b6, hC⟩ := xt4 c4 b4 b0 b6 hC
   have hO := Own.join hO c4 n3
   have hO := hO.perm (R := e8 ++ ([a0] ++ (a7 ++ (a8 ++ (b7 ++ ([a6] ++ ([b5] ++ ([b8] ++ [])))))))) (by simp)
   have f8 := f8.free (M' := (PastL M [] a2 a1 (a3 ++ []))) (Free.os (Free.os Free.int))
   refine zI (i := 9) (by kernel_rfl) ?_
   have hO := hO.fr3.fr3.fr3.fr5.fr4.fr5
   refine zL (b := true) rfl Bd33 rfl (XP (M := (Less (Less (Less (Less (Less (Less (PastL M [] a2 a1 (a3 ++ [])) b7) e8) [a6]) [a0]) a7) a8)) (b.1, b.2) r31.1 r38 images (p23.2.1, p23.2.2) (p23.1.1.1, p23.1.1.2, p23.1.2.1, p23.1.2.2.1, p23.1.2.2.2) ((((((h1.sub Less.sub).sub Less.sub).sub Less.sub).sub Less.sub).sub Less.sub).sub Less.sub) ((((((((Frz.os (Frz.os Frz.int))).val b6 Less.sub Less.not).sub Less.sub).sub Less.sub).sub Less.sub).sub Less.sub).sub Less.sub) (((((((Frz.os (Frz.os Frz.int))).val (f8.sub Less.sub) Less.sub Less.not).sub Less.sub).sub Less.sub).sub Less.sub).sub Less.sub) ((((((h2.sub Less.sub).sub Less.sub).sub Less.sub).sub Less.sub).sub Less.sub).sub Less.sub) (show RBox (Less (Less (Less (Less (Less (Less (PastL M [] a2 a1 (a3 ++ [])) b7) e8) [a6]) [a0]) a7) a8) _ a6 59 [(pq a0 0), (iv p23.2.1), (sv f4 f5 f6)] from ⟨b0, fun h => by simp [Less] at h⟩) ((((((b4.sub Less.sub).sub Less.sub).sub Less.sub).sub Less.sub).sub Less.sub).sub Less.sub) (show RBox (Less (Less (Less (Less (Less (Less (PastL M [] a2 a1 (a3 ++ [])) b7) e8) [a6]) [a0]) a7) a8) _ a0 90 [(iv p23.1.1.1), (sv d7 d8 d9), (iv p23.1.2.1), (sv e0 e1 e2), (.map (some e3))] from ⟨a9, fun h => by simp [Less] at h⟩) ((((((b1.sub Less.sub).sub Less.sub).sub Less.sub).sub Less.sub).sub Less.sub).sub Less.sub) ((((Frz.os (Frz.rs Frz.int))).val ((((b2.sub Less.sub).sub Less.sub).sub Less.sub).sub Less.sub) Less.sub Less.not).sub Less.sub) ((Frz.mo).val (((((b3.sub Less.sub).sub Less.sub).sub Less.sub).sub Less.sub).sub Less.sub) Less.sub Less.not) (((((hO.less).less).less).less).less).less.fut j5) rfl (fun h => nomatch h) ?_
   rintro _ r1 ⟨g4, g5, g6, j6, rfl, c0, h8, n4⟩
   have hO := hO.fr5.fr5.fr5.fr5.fr5.fr5.perm (R := [] ++ (b7 ++ (e8 ++ ([a6] ++ ([a0] ++ (a7 ++ (a8 ++ ([b5] ++ ([b8] ++ []))))))))) (by simp)
   obtain ⟨h1, h2, a4, a5, b1, b2, b3, a9⟩ := xt8 c0 h1 h2 a4 a5 b1 b2 b3 a9
   obtain ⟨b4, b0, b6, f8, hC⟩ := xt5 c0 b4 b0 b6 f8 hC
   have hO := Own.join hO c0 n4
   have hO := hO.perm (R := j6 ++ (b7 ++ (e8 ++ ([a6] ++ ([a0] ++ (a7 ++ (a8 ++ ([b5] ++ ([b8] ++ []))))))))) (by simp)
   have h8 := h8.free (M' := (PastL M [] a2 a1 (a3 ++ []))) (Free.os Free.int)
   refine x_p 10 (.tuple #[(sv g4 g5 g6), (.bool r41.2)]) rfl (by kernel_rfl) (fun _ => zx rfl) (fun h => nomatch h) (x_p 11 (sv g4 g5 g6) rfl (by kernel_rfl) (fun _ => zH rfl (by kernel_rfl)) (fun h => nomatch h) (x_p 12 (.bool r41.2) rfl (by kernel_rfl) (fun _ => zH rfl (by kernel_rfl)) (fun h => nomatch h) (x_p 13 (sv g4 g5 g6) rfl (by kernel_rfl) (fun _ => zA rfl) (fun h => nomatch h) (x_p 14 (.bool r41.2) rfl (by kernel_rfl) (fun _ => zA rfl) (fun h => nomatch h) (xe ?_)))))
   clear hS
   have hO := hO.fr1.drop.fr1.drop.fr1.drop.fr1.drop.fr1.drop.fr1.drop.fr1.drop.fr1.drop
   exact ⟨_, g4, g6, j6, g5, fr_m 67 rfl, hC, hO, h8⟩
  ·skip
   have hO := hO.fr4.fr4.fr4
   refine zL (b := true) rfl Bd31 rfl (Yw (M := (Less (Less (Less (PastL M [] a2 a1 (a3 ++ [])) [a0]) a7) a8)) (p23.1.1.1, p23.1.1.2, p23.1.2.1, p23.1.2.2.1, p23.1.2.2.2) (show RBox (Less (Less (Less (PastL M [] a2 a1 (a3 ++ [])) [a0]) a7) a8) _ a0 90 [(iv p23.1.1.1), (sv d7 d8 d9), (iv p23.1.2.1), (sv e0 e1 e2), (.map (some e3))] from ⟨a9, fun h => by simp [Less] at h⟩) (((b1.sub Less.sub).sub Less.sub).sub Less.sub) ((((Frz.os (Frz.rs Frz.int))).val (b2.sub Less.sub) Less.sub Less.not).sub Less.sub) ((Frz.mo).val ((b3.sub Less.sub).sub Less.sub) Less.sub Less.not) ((hO.less).less).less.fut j4) rfl (fun h => nomatch h) ?_
   rintro _ r2 ⟨r3, r4, r5, e9, rfl, c5, f9, n5⟩
   have hO := hO.fr2.fr2.fr2.perm (R := [] ++ ([a0] ++ (a7 ++ (a8 ++ (b7 ++ ([a6] ++ ([b5] ++ ([b8] ++ [])))))))) (by simp)
   obtain ⟨h1, h2, a4, a5, b1, b2, b3, a9⟩ := xt8 c5 h1 h2 a4 a5 b1 b2 b3 a9
   obtain ⟨b4, b0, b6, hC⟩ := xt4 c5 b4 b0 b6 hC
   have hO := Own.join hO c5 n5
   have hO := hO.perm (R := e9 ++ ([a0] ++ (a7 ++ (a8 ++ (b7 ++ ([a6] ++ ([b5] ++ ([b8] ++ [])))))))) (by simp)
   have f9 := f9.free (M' := (PastL M [] a2 a1 (a3 ++ []))) (Free.os (Free.os Free.int))
   refine zI (i := 1) (by kernel_rfl) (zR (b := true) (.agg #[(iv b.1), (sv pa1 pn1 pc1)]) rfl (zo rfl ((Zz Ag30 Sz30 a5 [] [(iv b.1), (sv pa1 pn1 pc1)] [] rfl rfl (fun h => nomatch h)) _ (Chg.refl _ _))) rfl (fun h => nomatch h) (zI (i := 9) (by kernel_rfl) ?_))
   have hO := hO.fr3.fr3.fr3.fr5.fr4.fr5
   refine zL (b := true) rfl Bd33 rfl (XP (M := (Less (Less (Less (Less (Less (Less (PastL M [] a2 a1 (a3 ++ [])) b7) e9) [a6]) [a0]) a7) a8)) (b.1, b.2) r31.1 r38 images (p23.2.1, p23.2.2) (p23.1.1.1, p23.1.1.2, p23.1.2.1, p23.1.2.2.1, p23.1.2.2.2) ((((((h1.sub Less.sub).sub Less.sub).sub Less.sub).sub Less.sub).sub Less.sub).sub Less.sub) ((((((((Frz.os (Frz.os Frz.int))).val b6 Less.sub Less.not).sub Less.sub).sub Less.sub).sub Less.sub).sub Less.sub).sub Less.sub) (((((((Frz.os (Frz.os Frz.int))).val (f9.sub Less.sub) Less.sub Less.not).sub Less.sub).sub Less.sub).sub Less.sub).sub Less.sub) ((((((h2.sub Less.sub).sub Less.sub).sub Less.sub).sub Less.sub).sub Less.sub).sub Less.sub) (show RBox (Less (Less (Less (Less (Less (Less (PastL M [] a2 a1 (a3 ++ [])) b7) e9) [a6]) [a0]) a7) a8) _ a6 59 [(pq a0 0), (iv p23.2.1), (sv f4 f5 f6)] from ⟨b0, fun h => by simp [Less] at h⟩) ((((((b4.sub Less.sub).sub Less.sub).sub Less.sub).sub Less.sub).sub Less.sub).sub Less.sub) (show RBox (Less (Less (Less (Less (Less (Less (PastL M [] a2 a1 (a3 ++ [])) b7) e9) [a6]) [a0]) a7) a8) _ a0 90 [(iv p23.1.1.1), (sv d7 d8 d9), (iv p23.1.2.1), (sv e0 e1 e2), (.map (some e3))] from ⟨a9, fun h => by simp [Less] at h⟩) ((((((b1.sub Less.sub).sub Less.sub).sub Less.sub).sub Less.sub).sub Less.sub).sub Less.sub) ((((Frz.os (Frz.rs Frz.int))).val ((((b2.sub Less.sub).sub Less.sub).sub Less.sub).sub Less.sub) Less.sub Less.not).sub Less.sub) ((Frz.mo).val (((((b3.sub Less.sub).sub Less.sub).sub Less.sub).sub Less.sub).sub Less.sub) Less.sub Less.not) (((((hO.less).less).less).less).less).less.fut j5) rfl (fun h => nomatch h) ?_
   rintro _ r6 ⟨g7, g8, g9, j7, rfl, c1, h9, n6⟩
   have hO := hO.fr5.fr5.fr5.fr5.fr5.fr5.perm (R := [] ++ (b7 ++ (e9 ++ ([a6] ++ ([a0] ++ (a7 ++ (a8 ++ ([b5] ++ ([b8] ++ []))))))))) (by simp)
   obtain ⟨h1, h2, a4, a5, b1, b2, b3, a9⟩ := xt8 c1 h1 h2 a4 a5 b1 b2 b3 a9
   obtain ⟨b4, b0, b6, f9, hC⟩ := xt5 c1 b4 b0 b6 f9 hC
   have hO := Own.join hO c1 n6
   have hO := hO.perm (R := j7 ++ (b7 ++ (e9 ++ ([a6] ++ ([a0] ++ (a7 ++ (a8 ++ ([b5] ++ ([b8] ++ []))))))))) (by simp)
   have h9 := h9.free (M' := (PastL M [] a2 a1 (a3 ++ []))) (Free.os Free.int)
   refine x_p 10 (.tuple #[(sv g7 g8 g9), (.bool r41.2)]) rfl (by kernel_rfl) (fun _ => zx rfl) (fun h => nomatch h) (x_p 11 (sv g7 g8 g9) rfl (by kernel_rfl) (fun _ => zH rfl (by kernel_rfl)) (fun h => nomatch h) (x_p 12 (.bool r41.2) rfl (by kernel_rfl) (fun _ => zH rfl (by kernel_rfl)) (fun h => nomatch h) (x_p 13 (sv g7 g8 g9) rfl (by kernel_rfl) (fun _ => zA rfl) (fun h => nomatch h) (x_p 14 (.bool r41.2) rfl (by kernel_rfl) (fun _ => zA rfl) (fun h => nomatch h) (xe ?_)))))
   clear hS
   have hO := hO.fr1.drop.fr1.drop.fr1.drop.fr1.drop.fr1.drop.fr1.drop.fr1.drop.fr1.drop
   exact ⟨_, g7, g9, j7, g8, fr_m 67 rfl, hC, hO, h9⟩
 rintro k9 f7 ⟨σ, e5, e6, g3, e7, rfl, hC, hO, i0⟩
 refine zd (c_sr (mb rfl (za _ (ZA rfl) (zb ?_))))
 rcases zf hs with ⟨i1, hs⟩ | ⟨i1, hs⟩
 ·refine zh (cb i1) (c_sr ?_)
  obtain ⟨j8, f0, n7, j9, i2, k0⟩ := zg f7 [] 3
  refine za (w' := j8) (sv (some ⟨f0, 0, none⟩) 0 0) (zz rfl (by rw [n7, j9]; kernel_rfl)) ?_
  obtain ⟨i0, hC⟩ := xt2 i2 i0 hC
  have hO := hO.new1 i2 j9 k0.lt
  have i3 := os0 (r := ri) (M := (PastL M [] a2 a1 (a3 ++ []))) k0
  refine ax rfl (ab rfl (zb (wp_ret ?_)))
  cases hs
  have hO := hO.fr1.drop
  exact ⟨_, (some ⟨f0, 0, none⟩), 0, 0, [f0], fr_m 67 rfl, hC, (i3.free (Free.os Free.int)), hO.top⟩
 refine zi (cb i1) (wp_skip (c_sr (ms rfl (ax rfl (ab rfl (zb (wp_ret ?_)))))))
 cases hs
 exact ⟨_, e5, e7, e6, g3, fr_m 67 rfl, hC, (i0.free (Free.os Free.int)), hO.top⟩

def WX (M : Nat → Prop) (w0 : World) (r : Bool) (a : Act) (w : World) : Prop :=
  ∃ (σ : Nv) , a = fr 26 (ovl σ [(4, (.bool r))]) ∧ Chg [] w0 w
def ZL (a_ : List Int) (b : List Int) : Option (Bool) :=
  (bif ((a_.length : Int) != (b.length : Int)) then some false else (forC (S := Unit) (R := Bool) (fun k12 s10 =>
  (idx a_ k12).bind fun x17 =>
  (idx b k12).bind fun x19 =>
  (bif (x17 != x19) then some (.rt false) else some (.nx ()))) 0 (a_.length : Int) ()).bind fun o14 => after o14 (fun r_ => some r_) (fun s10 =>
  some true))
theorem xt {M : Nat → Prop} {w : World} {pa0 : OA} {pn0 pc0 : Nat} {pa1 : OA} {pn1 pc1 : Nat} (a_ : List Int) (b : List Int) (h0 : rl.val M w (sv pa0 pn0 pc0) a_ []) (h1 : rl.val M w (sv pa1 pn1 pc1) b []) (hM : Hm w M) {r : Bool} (hs : ZL a_ b = some r) :
    Gives Tryz.prog 14 [(sv pa0 pn0 pc0), (sv pa1 pn1 pc1)] w (fun v w' => v = (.bool r) ∧ Chg [] w w') := by
 refine zr Tryz.func14 rfl Tryz.ntmps14 (nl rfl) ?_
 have hO := Own.start (N := Nw w []) hM Nw.fut
 have hC := Chg.refl [] w
 unfold ZL at hs
 refine wp_k (K := (WX M w r)) (by rintro _ _ ⟨σ, rfl, hrest⟩; exact Za Tryz.results14 (zB rfl) ⟨rfl, hrest⟩) (c_sr (ab rfl (zb (zd (c_sr (ms rfl (za _ (zn Sl34 (zt h0) rfl) (ms rfl (za _ (zn Sl34 (zt h1) rfl) (za (.bool ((a_.length : Int) != (b.length : Int))) (YJ rfl rfl) (zb ?_)))))))))))
 rcases zf hs with ⟨a2, hs⟩ | ⟨a2, hs⟩
 ·refine zh (cb a2) (c_sr (ab rfl (zb (wp_ret ?_))))
  cases hs
  exact ⟨_, fr_m 26 rfl, hC⟩
 refine zi (cb a2) (wp_skip (zd (c_sr (ai rfl (zb ?_)))))
 obtain ⟨o14, a5, hs⟩ := bind_some hs
 refine wp_block (zT (id := 0) (a_.length : Int) (I := fun k12 s10 a a0 => ∃ (σ : Nv), a = fr 26 (ovl σ [(0, (sv pa0 pn0 pc0)), (1, (sv pa1 pn1 pc1)), (5, (iv k12))]) ∧ Chg [] w a0 ∧ Own (Nw w []) M a0 [] ∧ rl.val M a0 (sv pa0 pn0 pc0) a_ [] ∧ rl.val M a0 (sv pa1 pn1 pc1) b []) (J := fun s10 a a0 => ∃ (σ : Nv), a = fr 26 (ovl σ []) ∧ Chg [] w a0 ∧ Own (Nw w []) M a0 [] ∧ rl.val M a0 (sv pa0 pn0 pc0) a_ [] ∧ rl.val M a0 (sv pa1 pn1 pc1) b []) (K := (WX M w)) ?_ ?_ 0 () o14 _ _ ?_ a5 ?_)
 ·rintro k12 s10 a a0 ⟨σ, rfl, hC, hO, h0, h1⟩ hlt
  refine zd (c_sr (mi rfl (ms rfl (za _ (zn Sl34 (zt h0) rfl) (za _ (zw rfl rfl) (zb (zi (df hlt) (wp_exit ?_))))))))
  exact ⟨rfl, _, zG 26 trivial, hC, hO, h0, h1⟩
 ·rintro k12 s10 o14 a a0 ⟨σ, rfl, hC, hO, h0, h1⟩ hlt hw hs
  refine zd (c_sr (mi rfl (ms rfl (za _ (zn Sl34 (zt h0) rfl) (za _ (zw rfl rfl) (zb (zh (dt hlt) (wp_skip (zd (wp_block (zd (zQ [] Mx rfl ?_))))))))))))
  have a1 := Chg.drew a0
  generalize World.drew a0 = a6 at a1 ⊢
  obtain ⟨h0, h1, hC, hO⟩ := xt4 a1 h0 h1 hC hO
  have hS := Chg.refl [] a6
  refine xms 0 rfl rfl hS (xmi 1 rfl rfl hS ?_)
  obtain ⟨x17, a7, hs⟩ := bind_some hs
  obtain ⟨a8, a9, b0, b1⟩ := zK Sl34 Sz3 h0 a7
  refine xq 2 _ rfl (ip b0 rfl rfl) hS (x_l 3 (iv x17) rfl (by kernel_rfl) (fun w' hw' => zo rfl ((zm Ag3 Sz3 b1) w' hw')) hS (xms 4 rfl rfl hS (xmi 5 rfl rfl hS ?_)))
  obtain ⟨x19, b2, hs⟩ := bind_some hs
  obtain ⟨b3, b4, b5, b6⟩ := zK Sl34 Sz3 h1 b2
  refine xq 6 _ rfl (ip b5 rfl rfl) hS (x_l 7 (iv x19) rfl (by kernel_rfl) (fun w' hw' => zo rfl ((zm Ag3 Sz3 b6) w' hw')) hS (xq 8 (.bool (x17 != x19)) rfl (YJ rfl rfl) hS (xe ?_)))
  clear hS
  rcases zf hs with ⟨a3, hs⟩ | ⟨a3, hs⟩
  ·refine zh (cb a3) (c_sr (ab rfl (zb (wp_ret ?_))))
   cases hs
   exact ⟨_, fr_m 26 rfl, hC⟩
  refine zi (cb a3) (wp_skip (ze (mi rfl (za _ (yad rfl rfl) (ai rfl (zb ?_))))))
  cases hs
  exact ⟨_, zG 26 ⟨rfl, rfl, congrArg (Value.int .i64) hw, trivial⟩, hC, hO, h0, h1⟩
 ·skip
  exact ⟨_, fr_m 26 rfl, hC, hO, h0, h1⟩
 cases o14 with
 | nx _ => exact True.intro
 | rt r_ =>
  have hs := zq hs
  intro b7 a4 hK
  cases hs
  exact hK
 | br s10 =>
  have hs := zp hs
  rintro b7 a0 ⟨σ, rfl, hC, hO, h0, h1⟩
  refine c_sr (ab rfl (zb (wp_ret ?_)))
  cases hs
  exact ⟨_, fr_m 26 rfl, hC⟩

theorem Bd14 : zF Tryz.prog 14 := zJ Tryz.func14 (by kernel_rfl) rfl

def zbf (M : Nat → Prop) (w0 : World) (r : Bool) (a : Act) (w : World) : Prop :=
  ∃ (σ : Nv) , a = fr 16 (ovl σ [(4, (.bool r))]) ∧ Chg [] w0 w
def xB (a_ : Int × (List Int)) (b : Int × (List Int)) : Option (Bool) :=
  (bif (a_.1 != b.1) then some false else (ZL a_.2 b.2).bind fun r7 =>
  (bif (!r7) then some false else some true))
theorem zaS {M : Nat → Prop} {w : World} {pa0 : OA} {pn0 pc0 : Nat} {pa1 : OA} {pn1 pc1 : Nat} (a_ : Int × (List Int)) (b : Int × (List Int)) (h0 : rl.val M w (sv pa0 pn0 pc0) a_.2 []) (h1 : rl.val M w (sv pa1 pn1 pc1) b.2 []) (hM : Hm w M) {r : Bool} (hs : xB a_ b = some r) :
    Gives Tryz.prog 66 [(.agg #[(iv a_.1), (sv pa0 pn0 pc0)]), (.agg #[(iv b.1), (sv pa1 pn1 pc1)])] w (fun v w' => v = (.bool r) ∧ Chg [] w w') := by
 refine zr Tryz.func66 rfl Tryz.ntmps66 (nl rfl) ?_
 have hO := Own.start (N := Nw w []) hM Nw.fut
 have hC := Chg.refl [] w
 unfold xB at hs
 refine wp_k (K := (zbf M w r)) (by rintro _ _ ⟨σ, rfl, hrest⟩; exact Za Tryz.results66 (zB rfl) ⟨rfl, hrest⟩) (c_sr ?_)
 obtain ⟨a9, a5, b2, b0, a4, a0⟩ := zg w [(iv a_.1), (sv pa0 pn0 pc0)] 77
 refine za (w' := a9) (pq a5 0) (Zj rfl (by rw [b2, b0]; kernel_rfl)) ?_
 obtain ⟨h0, h1, hC⟩ := xt3 a4 h0 h1 hC
 have hO := hO.new1 a4 b0 a0.lt
 obtain ⟨b3, a6, b4, b1, a2, a3⟩ := zg a9 [(iv b.1), (sv pa1 pn1 pc1)] 77
 refine za (w' := b3) (pq a6 0) (Zj rfl (by rw [b4, b1]; kernel_rfl)) ?_
 obtain ⟨h0, h1, a0, hC⟩ := xt4 a2 h0 h1 a0 hC
 have hO := hO.new1 a2 b1 a3.lt
 refine ab rfl (zb (zd (c_sr (za (pq a5 0) (zk rfl ZP) (za _ (ld rfl Ag3 Sz3 a0 rfl) (za (pq a6 0) (zk rfl ZP) (za _ (ld rfl Ag3 Sz3 a3 rfl) (za (.bool (a_.1 != b.1)) (YJ rfl rfl) (zb ?_)))))))))
 rcases zf hs with ⟨a7, hs⟩ | ⟨a7, hs⟩
 ·refine zh (cb a7) (c_sr (ab rfl (zb (wp_ret ?_))))
  cases hs
  exact ⟨_, fr_m 16 rfl, hC⟩
 refine zi (cb a7) (wp_skip (zd (c_sr (za (pq a5 1) (zk rfl xA) (za _ (ld rfl Ag34 Sz34 a0 rfl) (za (pq a6 1) (zk rfl xA) (za _ (ld rfl Ag34 Sz34 a3 rfl) ?_)))))))
 obtain ⟨r7, b5, hs⟩ := bind_some hs
 refine zy Bd14 rfl (xt (M := M) a_.2 b.2 h0 h1 hO.fut b5) ?_
 rintro _ b7 ⟨rfl, a1⟩
 obtain ⟨h0, h1, a0, a3, hC, hO⟩ := xt6 a1 h0 h1 a0 a3 hC hO
 refine za _ (ZA rfl) (zb ?_)
 have hO := hO.drop.drop
 rcases zf hs with ⟨a8, hs⟩ | ⟨a8, hs⟩
 ·refine zh (cb a8) (c_sr (ab rfl (zb (wp_ret ?_))))
  cases hs
  exact ⟨_, fr_m 16 rfl, hC⟩
 refine zi (cb a8) (wp_skip (c_sr (ab rfl (zb (wp_ret ?_)))))
 cases hs
 exact ⟨_, fr_m 16 rfl, hC⟩

theorem Bd66 : zF Tryz.prog 66 := zJ Tryz.func66 (by kernel_rfl) rfl

def vX (M : Nat → Prop) (w0 : World) (r : Bool) (a : Act) (w : World) : Prop :=
  ∃ (σ : Nv) , a = fr 27 (ovl σ [(4, (.bool r))]) ∧ Chg [] w0 w
def Xv (a_ : List (Int × (List Int))) (b : List (Int × (List Int))) : Option (Bool) :=
  (bif ((a_.length : Int) != (b.length : Int)) then some false else (forC (S := Unit) (R := Bool) (fun k18 s16 =>
  (idx a_ k18).bind fun x23 =>
  (idx b k18).bind fun x27 =>
  (xB (x23.1, x23.2) (x27.1, x27.2)).bind fun r32 =>
  (bif (!r32) then some (.rt false) else some (.nx ()))) 0 (a_.length : Int) ()).bind fun o20 => after o20 (fun r_ => some r_) (fun s16 =>
  some true))
theorem zap {M : Nat → Prop} {w : World} {pa0 : OA} {pn0 pc0 : Nat} {pa1 : OA} {pn1 pc1 : Nat} (a_ : List (Int × (List Int))) (b : List (Int × (List Int))) (h0 : rp.val M w (sv pa0 pn0 pc0) a_ []) (h1 : rp.val M w (sv pa1 pn1 pc1) b []) (hM : Hm w M) {r : Bool} (hs : Xv a_ b = some r) :
    Gives Tryz.prog 35 [(sv pa0 pn0 pc0), (sv pa1 pn1 pc1)] w (fun v w' => v = (.bool r) ∧ Chg [] w w') := by
 refine zr Tryz.func35 rfl Tryz.ntmps35 (nl rfl) ?_
 have hO := Own.start (N := Nw w []) hM Nw.fut
 have hC := Chg.refl [] w
 unfold Xv at hs
 refine wp_k (K := (vX M w r)) (by rintro _ _ ⟨σ, rfl, hrest⟩; exact Za Tryz.results35 (zB rfl) ⟨rfl, hrest⟩) (c_sr (ab rfl (zb (zd (c_sr (ms rfl (za _ (zn Sl28 (zt h0) rfl) (ms rfl (za _ (zn Sl28 (zt h1) rfl) (za (.bool ((a_.length : Int) != (b.length : Int))) (YJ rfl rfl) (zb ?_)))))))))))
 rcases zf hs with ⟨a3, hs⟩ | ⟨a3, hs⟩
 ·refine zh (cb a3) (c_sr (ab rfl (zb (wp_ret ?_))))
  cases hs
  exact ⟨_, fr_m 27 rfl, hC⟩
 refine zi (cb a3) (wp_skip (zd (c_sr (ai rfl (zb ?_)))))
 obtain ⟨o20, b0, hs⟩ := bind_some hs
 refine wp_block (zT (id := 0) (a_.length : Int) (I := fun k18 s16 a a0 => ∃ (σ : Nv), a = fr 27 (ovl σ [(0, (sv pa0 pn0 pc0)), (1, (sv pa1 pn1 pc1)), (5, (iv k18))]) ∧ Chg [] w a0 ∧ Own (Nw w []) M a0 [] ∧ rp.val M a0 (sv pa0 pn0 pc0) a_ [] ∧ rp.val M a0 (sv pa1 pn1 pc1) b []) (J := fun s16 a a0 => ∃ (σ : Nv), a = fr 27 (ovl σ []) ∧ Chg [] w a0 ∧ Own (Nw w []) M a0 [] ∧ rp.val M a0 (sv pa0 pn0 pc0) a_ [] ∧ rp.val M a0 (sv pa1 pn1 pc1) b []) (K := (vX M w)) ?_ ?_ 0 () o20 _ _ ?_ b0 ?_)
 ·rintro k18 s16 a a0 ⟨σ, rfl, hC, hO, h0, h1⟩ hlt
  refine zd (c_sr (mi rfl (ms rfl (za _ (zn Sl28 (zt h0) rfl) (za _ (zw rfl rfl) (zb (zi (df hlt) (wp_exit ?_))))))))
  exact ⟨rfl, _, zG 27 trivial, hC, hO, h0, h1⟩
 ·rintro k18 s16 o20 a a0 ⟨σ, rfl, hC, hO, h0, h1⟩ hlt hw hs
  refine zd (c_sr (mi rfl (ms rfl (za _ (zn Sl28 (zt h0) rfl) (za _ (zw rfl rfl) (zb (zh (dt hlt) (wp_skip (zd (wp_block (zd (zQ [] Mx rfl ?_))))))))))))
  have a2 := Chg.drew a0
  generalize World.drew a0 = b1 at a2 ⊢
  obtain ⟨h0, h1, hC, hO⟩ := xt4 a2 h0 h1 hC hO
  have hS := Chg.refl [] b1
  refine xms 0 rfl rfl hS (xmi 1 rfl rfl hS ?_)
  obtain ⟨x23, b2, hs⟩ := bind_some hs
  obtain ⟨b3, b4, b5, a4⟩ := zK Sl28 Sz77 h0 b2
  refine xq 2 _ rfl (ip b5 rfl rfl) hS ?_
  obtain ⟨d8, b6, b7⟩ := Zc Ag77 Sz77 (by intro h; cases h) a4
  obtain ⟨d9, rfl, b8⟩ := b7
  obtain ⟨e0, e1, rfl, b9, c0⟩ := Yn b8
  obtain rfl := Yx b9
  obtain ⟨c1, c2, c3, rfl, a5⟩ := YV c0
  refine x_l 3 (.agg #[(iv x23.1), (sv c1 c2 c3)]) rfl (by kernel_rfl) (fun w' hw' => zo rfl (b6 w' hw')) hS (xms 4 rfl rfl hS (xmi 5 rfl rfl hS ?_))
  obtain ⟨x27, c4, hs⟩ := bind_some hs
  obtain ⟨c5, c6, c7, a6⟩ := zK Sl28 Sz77 h1 c4
  refine xq 6 _ rfl (ip c7 rfl rfl) hS ?_
  obtain ⟨e2, c8, c9⟩ := Zc Ag77 Sz77 (by intro h; cases h) a6
  obtain ⟨e3, rfl, d0⟩ := c9
  obtain ⟨e4, e5, rfl, d1, d2⟩ := Yn d0
  obtain rfl := Yx d1
  obtain ⟨d3, d4, d5, rfl, a7⟩ := YV d2
  refine x_l 7 (.agg #[(iv x27.1), (sv d3 d4 d5)]) rfl (by kernel_rfl) (fun w' hw' => zo rfl (c8 w' hw')) hS (zI (i := 8) (by kernel_rfl) ?_)
  obtain ⟨r32, d6, hs⟩ := bind_some hs
  refine zL (b := false) rfl Bd66 rfl (zaS (M := M) (x23.1, x23.2) (x27.1, x27.2) a5 a7 hO.fut d6) rfl (by rintro _ _ _ ⟨rfl, a1⟩; exact hS.ext a1) ?_
  rintro _ e6 ⟨rfl, a1⟩
  obtain ⟨h0, h1, a5, a7, a4, a6, hC, hO⟩ := xt8 a1 h0 h1 a5 a7 a4 a6 hC hO
  have hS := hS.ext a1
  refine xq 9 _ rfl (ZA rfl) hS (xe ?_)
  clear hS
  rcases zf hs with ⟨a8, hs⟩ | ⟨a8, hs⟩
  ·refine zh (cb a8) (c_sr (ab rfl (zb (wp_ret ?_))))
   cases hs
   exact ⟨_, fr_m 27 rfl, hC⟩
  refine zi (cb a8) (wp_skip (ze (mi rfl (za _ (yad rfl rfl) (ai rfl (zb ?_))))))
  cases hs
  exact ⟨_, zG 27 ⟨rfl, rfl, congrArg (Value.int .i64) hw, trivial⟩, hC, hO, h0, h1⟩
 ·skip
  exact ⟨_, fr_m 27 rfl, hC, hO, h0, h1⟩
 cases o20 with
 | nx _ => exact True.intro
 | rt r_ =>
  have hs := zq hs
  intro d7 a9 hK
  cases hs
  exact hK
 | br s16 =>
  have hs := zp hs
  rintro d7 a0 ⟨σ, rfl, hC, hO, h0, h1⟩
  refine c_sr (ab rfl (zb (wp_ret ?_)))
  cases hs
  exact ⟨_, fr_m 27 rfl, hC⟩

theorem Bd35 : zF Tryz.prog 35 := zJ Tryz.func35 (by kernel_rfl) rfl

def Vn (M : Nat → Prop) (w0 : World) (r : Bool) (a : Act) (w : World) : Prop :=
  ∃ (σ : Nv) , a = fr 16 (ovl σ [(4, (.bool r))]) ∧ Chg [] w0 w
def yf (a_ : Int × (List (Int × (List Int)))) (b : Int × (List (Int × (List Int)))) : Option (Bool) :=
  (bif (a_.1 != b.1) then some false else (Xv a_.2 b.2).bind fun r7 =>
  (bif (!r7) then some false else some true))
theorem wt {M : Nat → Prop} {w : World} {pa0 : OA} {pn0 pc0 : Nat} {pa1 : OA} {pn1 pc1 : Nat} (a_ : tA) (b : tA) (h0 : rp.val M w (sv pa0 pn0 pc0) a_.2 []) (h1 : rp.val M w (sv pa1 pn1 pc1) b.2 []) (hM : Hm w M) {r : Bool} (hs : yf a_ b = some r) :
    Gives Tryz.prog 10 [(.agg #[(iv a_.1), (sv pa0 pn0 pc0)]), (.agg #[(iv b.1), (sv pa1 pn1 pc1)])] w (fun v w' => v = (.bool r) ∧ Chg [] w w') := by
 refine zr Tryz.func10 rfl Tryz.ntmps10 (nl rfl) ?_
 have hO := Own.start (N := Nw w []) hM Nw.fut
 have hC := Chg.refl [] w
 unfold yf at hs
 refine wp_k (K := (Vn M w r)) (by rintro _ _ ⟨σ, rfl, hrest⟩; exact Za Tryz.results10 (zB rfl) ⟨rfl, hrest⟩) (c_sr ?_)
 obtain ⟨a9, a5, b2, b0, a4, a0⟩ := zg w [(iv a_.1), (sv pa0 pn0 pc0)] 30
 refine za (w' := a9) (pq a5 0) (Zj rfl (by rw [b2, b0]; kernel_rfl)) ?_
 obtain ⟨h0, h1, hC⟩ := xt3 a4 h0 h1 hC
 have hO := hO.new1 a4 b0 a0.lt
 obtain ⟨b3, a6, b4, b1, a2, a3⟩ := zg a9 [(iv b.1), (sv pa1 pn1 pc1)] 30
 refine za (w' := b3) (pq a6 0) (Zj rfl (by rw [b4, b1]; kernel_rfl)) ?_
 obtain ⟨h0, h1, a0, hC⟩ := xt4 a2 h0 h1 a0 hC
 have hO := hO.new1 a2 b1 a3.lt
 refine ab rfl (zb (zd (c_sr (za (pq a5 0) (zk rfl yO) (za _ (ld rfl Ag3 Sz3 a0 rfl) (za (pq a6 0) (zk rfl yO) (za _ (ld rfl Ag3 Sz3 a3 rfl) (za (.bool (a_.1 != b.1)) (YJ rfl rfl) (zb ?_)))))))))
 rcases zf hs with ⟨a7, hs⟩ | ⟨a7, hs⟩
 ·refine zh (cb a7) (c_sr (ab rfl (zb (wp_ret ?_))))
  cases hs
  exact ⟨_, fr_m 16 rfl, hC⟩
 refine zi (cb a7) (wp_skip (zd (c_sr (za (pq a5 1) (zk rfl Zq) (za _ (ld rfl Ag28 Sz28 a0 rfl) (za (pq a6 1) (zk rfl Zq) (za _ (ld rfl Ag28 Sz28 a3 rfl) ?_)))))))
 obtain ⟨r7, b5, hs⟩ := bind_some hs
 refine zy Bd35 rfl (zap (M := M) a_.2 b.2 h0 h1 hO.fut b5) ?_
 rintro _ b7 ⟨rfl, a1⟩
 obtain ⟨h0, h1, a0, a3, hC, hO⟩ := xt6 a1 h0 h1 a0 a3 hC hO
 refine za _ (ZA rfl) (zb ?_)
 have hO := hO.drop.drop
 rcases zf hs with ⟨a8, hs⟩ | ⟨a8, hs⟩
 ·refine zh (cb a8) (c_sr (ab rfl (zb (wp_ret ?_))))
  cases hs
  exact ⟨_, fr_m 16 rfl, hC⟩
 refine zi (cb a8) (wp_skip (c_sr (ab rfl (zb (wp_ret ?_)))))
 cases hs
 exact ⟨_, fr_m 16 rfl, hC⟩

def wT (M : Nat → Prop) (w0 : World) (qa0 : OA) (qn0 qc0 : Nat) (qf0 : List Nat) (r : Int × (List Int)) (a : Act) (w : World) : Prop :=
  ∃ (σ : Nv) (rfi0 : List Nat), a = fr 19 (ovl σ [(4, (iv r.1))]) ∧ Chg (qf0 ++ []) w0 w ∧ (RT.os 3 ri).val M w (sv qa0 qn0 qc0) r.2 rfi0 ∧ Own (Nw w0 (qf0 ++ [])) (fun _ => True) w (rfi0 ++ [])
def ZY (a_ : List Int) (k : Int) : Option (Int × (List Int)) :=
  (iter (S := Int × Int × (List Int)) (R := Int × (List Int)) (fun s25 =>
  (bif (decide (s25.2.1 < (s25.2.2.length : Int))) then (idx s25.2.2 s25.2.1).bind fun x34 =>
  some (.nx (w64 (s25.1 + 1), w64 (s25.2.1 + 1), List.set s25.2.2 (Int.toNat s25.2.1) s25.1)) else some (.br (s25.1, s25.2.1, s25.2.2)))) FU (k, 0, a_)).bind fun o29 => after o29 (fun r_ => some r_) (fun s25 =>
  some (s25.1, s25.2.2))
theorem Xn {M : Nat → Prop} {w : World} {pa0 : OA} {pn0 pc0 : Nat} {pf0 : List Nat} (a_ : List Int) (k : Int) (h0 : (RT.os 3 ri).val M w (sv pa0 pn0 pc0) a_ pf0) (hI : Own (Nw w (pf0 ++ [])) M w (pf0 ++ [])) (hM : Hm w M) {r : Int × (List Int)} (hs : ZY a_ k = some r) :
    Gives Tryz.prog 16 [(sv pa0 pn0 pc0), (iv k)] w (fun v w' => ∃ (rfi0 : List Nat), v = (iv r.1) ∧ Chg (pf0 ++ []) w w' ∧ (RT.os 3 ri).val M w' (sv pa0 pn0 pc0) r.2 rfi0 ∧ Own (Nw w (pf0 ++ [])) (fun _ => True) w' (rfi0 ++ [])) := by
 refine zr Tryz.func16 rfl Tryz.ntmps16 (nl rfl) ?_
 have hO := hI
 have hC := Chg.refl (pf0 ++ []) w
 unfold ZY at hs
 refine wp_k (K := (wT M w pa0 pn0 pc0 pf0 r)) (by rintro _ _ ⟨σ, rfi0, rfl, hrest⟩; exact Za Tryz.results16 (zB rfl) ⟨rfi0, rfl, hrest⟩) (c_sr (ai rfl (zb (zd (c_sr (ai rfl (zb ?_)))))))
 obtain ⟨o29, b0, hs⟩ := bind_some hs
 refine wp_block (Zy (id := 0) (I := fun s25 a a0 => ∃ (σ : Nv) (a2 : List Nat), a = fr 19 (ovl σ [(0, (sv pa0 pn0 pc0)), (1, (iv s25.1)), (5, (iv s25.2.1))]) ∧ Chg (pf0 ++ []) w a0 ∧ Own (Nw w (pf0 ++ [])) M a0 (a2 ++ []) ∧ (RT.os 3 ri).val M a0 (sv pa0 pn0 pc0) s25.2.2 a2) (J := fun s25 a a0 => ∃ (σ : Nv) (a3 : List Nat), a = fr 19 (ovl σ [(1, (iv s25.1))]) ∧ Chg (pf0 ++ []) w a0 ∧ Own (Nw w (pf0 ++ [])) M a0 (a3 ++ []) ∧ (RT.os 3 ri).val M a0 (sv pa0 pn0 pc0) s25.2.2 a3) (K := (wT M w pa0 pn0 pc0 pf0)) ?_ FU (k, 0, a_) o29 _ _ ?_ b0 ?_)
 ·rintro s25 o29 a a0 ⟨σ, a2, rfl, hC, hO, a1⟩ hs
  refine zd (c_sr (mi rfl (ms rfl (za _ (zn Sl34 (ZH a1) rfl) (za _ (zw rfl rfl) (zb ?_))))))
  rcases zf hs with ⟨a4, hs⟩ | ⟨a4, hs⟩
  ·refine zh (cb a4) (wp_skip (zd (wp_block (c_sr (ms rfl (mi rfl (mi rfl ?_)))))))
   obtain ⟨x34, b1, hs⟩ := bind_some hs
   obtain ⟨a6, c1, a7, b2, b3, c2, c3⟩ := zS Sl34 Sz3 a1 b1
   refine za _ (ip b3 rfl rfl) ?_
   obtain ⟨b4, b5, b6, a8, b7, a5⟩ := yH (P := Tryz.prog) (c' := [(iv s25.1)]) a7 a1 b2 (fun g hg => hO.inM g (zC a1 g (by simpa using hg))) ⟨rfl, rfl⟩ List.nodup_nil (fun _ h => nomatch h) (fun _ h => .inl h)
   have b8 : ∀ q ∈ [a6], q ∈ a2 := fun q hq => zC a1 q (by rw [a7]; exact hq)
   refine Zh (w' := b4) (zY rfl rfl (b6 _ _ rfl Sz3)) ?_
   have hC := hC.st a8 hO b8
   have hO := hO.grow a8 (fun q hq => .inl ((b7 q hq).resolve_right (fun h => nomatch h))) (zu a5) a5.fpl
   refine zb (ze (mi rfl (za _ (yad rfl rfl) (ai rfl (zb (ze (mi rfl (za _ (yad rfl rfl) (ai rfl (zb ?_))))))))))
   cases hs
   exact ⟨_, b5, fr_m 19 rfl, hC, hO, a5⟩
  refine zi (cb a4) (wp_exit ?_)
  cases hs
  exact ⟨rfl, _, a2, fr_m 19 rfl, hC, hO, a1⟩
 ·skip
  exact ⟨_, pf0, fr_m 19 rfl, hC, hO, h0⟩
 cases o29 with
 | nx _ => exact True.intro
 | rt r_ =>
  have hs := zq hs
  intro b9 a9 hK
  cases hs
  exact hK
 | br s25 =>
  have hs := zp hs
  rintro b9 a0 ⟨σ, a3, rfl, hC, hO, c0⟩
  refine c_sr (mi rfl (ai rfl (zb (wp_ret ?_))))
  cases hs
  exact ⟨_, a3, fr_m 19 rfl, hC, c0, hO.top⟩

theorem Bd16 : zF Tryz.prog 16 := zJ Tryz.func16 (by kernel_rfl) rfl

def Wr (M : Nat → Prop) (w0 : World) (qa0 : OA) (qn0 qc0 : Nat) (qf0 : List Nat) (r : tA) (a : Act) (w : World) : Prop :=
  ∃ (σ : Nv) (rfi0 : List Nat), a = fr 27 (ovl σ [(4, (iv r.1))]) ∧ Chg (qf0 ++ []) w0 w ∧ (RT.os 77 (RT.pr ri (RT.os 3 ri))).val M w (sv qa0 qn0 qc0) r.2 rfi0 ∧ Own (Nw w0 (qf0 ++ [])) (fun _ => True) w (rfi0 ++ [])
def xP (a_ : List (Int × (List Int))) (k : Int) : Option (Int × (List (Int × (List Int)))) :=
  (iter (S := Int × Int × (List (Int × (List Int)))) (R := Int × (List (Int × (List Int)))) (fun s57 =>
  (bif (decide (s57.2.1 < (s57.2.2.length : Int))) then (idx s57.2.2 s57.2.1).bind fun x67 =>
  (idx (List.set s57.2.2 (Int.toNat s57.2.1) (s57.1, x67.2)) s57.2.1).bind fun x71 =>
  (ZY x71.2 (w64 (s57.1 + 1))).bind fun r77 =>
  some (.nx (r77.1, w64 (s57.2.1 + 1), List.set (List.set s57.2.2 (Int.toNat s57.2.1) (s57.1, x67.2)) (Int.toNat s57.2.1) (x71.1, r77.2))) else some (.br (s57.1, s57.2.1, s57.2.2)))) FU (k, 0, a_)).bind fun o61 => after o61 (fun r_ => some r_) (fun s57 =>
  some (s57.1, s57.2.2))
theorem uI {M : Nat → Prop} {w : World} {pa0 : OA} {pn0 pc0 : Nat} {pf0 : List Nat} (a_ : List (Int × (List Int))) (k : Int) (h0 : (RT.os 77 (RT.pr ri (RT.os 3 ri))).val M w (sv pa0 pn0 pc0) a_ pf0) (hI : Own (Nw w (pf0 ++ [])) M w (pf0 ++ [])) (hM : Hm w M) {r : tA} (hs : xP a_ k = some r) :
    Gives Tryz.prog 38 [(sv pa0 pn0 pc0), (iv k)] w (fun v w' => ∃ (rfi0 : List Nat), v = (iv r.1) ∧ Chg (pf0 ++ []) w w' ∧ (RT.os 77 (RT.pr ri (RT.os 3 ri))).val M w' (sv pa0 pn0 pc0) r.2 rfi0 ∧ Own (Nw w (pf0 ++ [])) (fun _ => True) w' (rfi0 ++ [])) := by
 refine zr Tryz.func38 rfl Tryz.ntmps38 (nl rfl) ?_
 have hO := hI
 have hC := Chg.refl (pf0 ++ []) w
 unfold xP at hs
 refine wp_k (K := (Wr M w pa0 pn0 pc0 pf0 r)) (by rintro _ _ ⟨σ, rfi0, rfl, hrest⟩; exact Za Tryz.results38 (zB rfl) ⟨rfi0, rfl, hrest⟩) (c_sr (ai rfl (zb (zd (c_sr (ai rfl (zb ?_)))))))
 obtain ⟨o61, c8, hs⟩ := bind_some hs
 refine wp_block (Zy (id := 0) (I := fun s57 a a0 => ∃ (σ : Nv) (a1 : List Nat), a = fr 27 (ovl σ [(0, (sv pa0 pn0 pc0)), (1, (iv s57.1)), (5, (iv s57.2.1))]) ∧ Chg (pf0 ++ []) w a0 ∧ Own (Nw w (pf0 ++ [])) M a0 (a1 ++ []) ∧ (RT.os 77 (RT.pr ri (RT.os 3 ri))).val M a0 (sv pa0 pn0 pc0) s57.2.2 a1) (J := fun s57 a a0 => ∃ (σ : Nv) (a4 : List Nat), a = fr 27 (ovl σ [(1, (iv s57.1))]) ∧ Chg (pf0 ++ []) w a0 ∧ Own (Nw w (pf0 ++ [])) M a0 (a4 ++ []) ∧ (RT.os 77 (RT.pr ri (RT.os 3 ri))).val M a0 (sv pa0 pn0 pc0) s57.2.2 a4) (K := (Wr M w pa0 pn0 pc0 pf0)) ?_ FU (k, 0, a_) o61 _ _ ?_ c8 ?_)
 ·rintro s57 o61 a a0 ⟨σ, a1, rfl, hC, hO, a5⟩ hs
  refine zd (c_sr (mi rfl (ms rfl (za _ (zn Sl28 (ZH a5) rfl) (za _ (zw rfl rfl) (zb ?_))))))
  rcases zf hs with ⟨b1, hs⟩ | ⟨b1, hs⟩
  ·refine zh (cb b1) (wp_skip (zd (wp_block (c_sr (ms rfl (mi rfl (mi rfl ?_)))))))
   obtain ⟨x67, b5, hs⟩ := bind_some hs
   obtain ⟨a2, h2, c9, h3, d0, d1, d2⟩ := zS Sl28 Sz77 a5 b5
   have d3 := ZG (Frz.pr Frz.int (Frz.os Frz.int)) d1 d2
   refine za _ (ip d0 rfl rfl) ?_
   obtain ⟨h4, _⟩ := Xt d3
   refine za (.pointer (some ⟨a2, (0 + Int.toNat s57.2.1 * 2) + 0, none⟩)) (zk rfl ZP) ?_
   obtain ⟨b6, h5, d4, h6, d5, h7, d6, d7, h8, d8, b7, d9, hput70⟩ := os_focus c9 a5 b5 hO.inM
   obtain ⟨h9, b8, i0, e0, rfl, rfl, e1, b9⟩ := d7
   obtain ⟨rfl, rfl⟩ := e1
   have i1 := RT.len _ b9
   obtain ⟨b2, c0, a6, e2⟩ := Zx (P := Tryz.prog) d6 (b6) [(Value.int .i64 x67.1)] (b8 ++ (d4)) [(Value.int .i64 s57.1)] (by simp) rfl (by intro u hu; rw [List.mem_singleton.1 hu]; rfl)
   have e3 : (b6).length = ((0 + Int.toNat s57.2.1 * 2) + 0) := by
    simp only [List.length_append, d5]
    try rfl
   rw [e3] at c0
   have e4 : ∀ q ∈ [a2], M q ∨ (a0).heap.size ≤ q := fun q hq => .inl (by rw [List.mem_singleton.1 hq]; exact hO.inM _ b7)
   obtain ⟨e5, a7, e6⟩ := hput70 b2 [a2] ([(Value.int .i64 s57.1)] ++ b8) (s57.1, x67.2) (([] : List Nat) ++ e0) a6 (fun q hq => .inl (List.mem_singleton.1 hq)) (by simpa using e2) ⟨_, _, _, _, rfl, rfl, ⟨rfl, rfl⟩, (RT.mono _ b9 a6 e4 (fun q hq hq' => d9 (by rw [List.mem_singleton.1 hq] at hq'; simp [hq'])) (fun _ h => .inl h))⟩ d8 (fun q hq => .inl hq)
   refine Zh (w' := b2) (zY rfl rfl (c0 _ _ rfl Sz3)) ?_
   have e7 : ∀ q ∈ [a2], q ∈ a1 := fun q hq => by rw [List.mem_singleton.1 hq]; exact b7
   have hC := hC.st a6 hO e7
   have hO := hO.grow a6 e6 (zu a7) a7.fpl
   refine zb (c_sr (mi rfl (za _ (yad rfl rfl) (ai rfl (zb (ze (ms rfl (mi rfl ?_))))))))
   obtain ⟨x71, c1, hs⟩ := bind_some hs
   obtain ⟨c2, i2, e8, i3, e9, f0, f1⟩ := zS Sl28 Sz77 a7 c1
   have c3 := ZG (Frz.pr Frz.int (Frz.os Frz.int)) f0 f1
   refine za _ (ip e9 rfl rfl) ?_
   obtain ⟨_, i4⟩ := Xt c3
   refine za (.pointer (some ⟨c2, (0 + Int.toNat s57.2.1 * 2) + 1, none⟩)) (zk rfl xA) ?_
   obtain ⟨i5, hrow74, f2⟩ := at_open c3
   obtain ⟨i6, i7, rfl, f3, f4⟩ := Yn f2
   obtain rfl := Yx f3
   obtain ⟨a8, a9, b0, rfl, i9⟩ := YV f4
   refine za (sv a8 a9 b0) (zo rfl ((part_load (l1 := [(iv x71.1)]) (c := [(sv a8 a9 b0)]) (l2 := []) Ag34 Sz34 hrow74 rfl rfl (fun _ => rfl)) _ (Chg.refl _ _))) (mi rfl ?_)
   obtain ⟨j0, f5, f6, f7, hput76⟩ := os_put e8 a7 c1 hrow74 rfl hO.inM
   obtain ⟨j1, a3, rfl, f8, f9⟩ := pr_split (c := [(iv x71.1)]) (d := [(sv a8 a9 b0)]) f5 rfl
   obtain rfl := int_fp f8
   have g0 : (RT.os 3 ri).val M b2 (sv a8 a9 b0) x71.2 a3 := ⟨[_], rfl, f9⟩
   have c4 : ∀ q ∈ (a3 ++ []), q ∈ e5 := fun q hq => f6 q (by simpa using hq)
   have g1 : List.Nodup (a3 ++ []) := by simpa using f7
   have g2 := hO
   have c5 := Own.part (X := (a3 ++ [])) (g2) c4 g1
   obtain ⟨r77, g3, hs⟩ := bind_some hs
   refine zy Bd16 rfl (Xn (M := M) x71.2 (w64 (s57.1 + 1)) g0 c5 c5.fut g3) ?_
   rintro _ g4 ⟨g5, rfl, b3, g6, c6⟩
   obtain ⟨g7, b4, g8⟩ := hput76 g4 (a3 ++ []) (x71.1, r77.2) (([] : List Nat) ++ g5) b3 (fun q hq => by simpa using hq) ⟨_, _, _, _, rfl, rfl, ⟨rfl, rfl⟩, (ZJ g6)⟩ (by simpa using c6.1) (fun q hq => (c6.2.1 q (by simpa using hq)).2.2.imp (fun h => by simpa using h) id)
   have hC := hC.st b3 hO c4
   have hO := hO.grow b3 g8 (zu b4) b4.fpl
   refine ai rfl (zb (ze (mi rfl (za _ (yad rfl rfl) (ai rfl (zb ?_))))))
   cases hs
   exact ⟨_, g7, fr_m 27 rfl, hC, hO, b4⟩
  refine zi (cb b1) (wp_exit ?_)
  cases hs
  exact ⟨rfl, _, a1, fr_m 27 rfl, hC, hO, a5⟩
 ·skip
  exact ⟨_, pf0, fr_m 27 rfl, hC, hO, h0⟩
 cases o61 with
 | nx _ => exact True.intro
 | rt r_ =>
  have hs := zq hs
  intro g9 c7 hK
  cases hs
  exact hK
 | br s57 =>
  have hs := zp hs
  rintro g9 a0 ⟨σ, a4, rfl, hC, hO, h1⟩
  refine c_sr (mi rfl (ai rfl (zb (wp_ret ?_))))
  cases hs
  exact ⟨_, a4, fr_m 27 rfl, hC, h1, hO.top⟩

theorem Bd38 : zF Tryz.prog 38 := zJ Tryz.func38 (by kernel_rfl) rfl

def vv (M : Nat → Prop) (w0 : World) (qa0 : OA) (qn0 qc0 : Nat) (qf0 : List Nat) (r : tA) (a : Act) (w : World) : Prop :=
  ∃ (σ : Nv) (rfi0 : List Nat), a = fr 10 (ovl σ [(4, (iv r.1))]) ∧ Chg (qf0 ++ []) w0 w ∧ (RT.os 77 (RT.pr ri (RT.os 3 ri))).val M w (sv qa0 qn0 qc0) r.2 rfi0 ∧ Own (Nw w0 (qf0 ++ [])) (fun _ => True) w (rfi0 ++ [])
def ZK (a_ : Int × (List (Int × (List Int)))) (k : Int) : Option (Int × (List (Int × (List Int)))) :=
  (xP a_.2 k).bind fun r4 =>
  some (r4.1, r4.2)
theorem XL {M : Nat → Prop} {w : World} {pa0 : OA} {pn0 pc0 : Nat} {pf0 : List Nat} (a_ : tA) (k : Int) (h0 : (RT.os 77 (RT.pr ri (RT.os 3 ri))).val M w (sv pa0 pn0 pc0) a_.2 pf0) (hI : Own (Nw w (pf0 ++ [])) M w (pf0 ++ [])) (hM : Hm w M) {r : tA} (hs : ZK a_ k = some r) :
    Gives Tryz.prog 15 [(.agg #[(iv a_.1), (sv pa0 pn0 pc0)]), (iv k)] w (fun v w' => ∃ (rfi0 : List Nat), v = (iv r.1) ∧ Chg (pf0 ++ []) w w' ∧ (RT.os 77 (RT.pr ri (RT.os 3 ri))).val M w' (sv pa0 pn0 pc0) r.2 rfi0 ∧ Own (Nw w (pf0 ++ [])) (fun _ => True) w' (rfi0 ++ [])) := by
 refine zr Tryz.func15 rfl Tryz.ntmps15 (nl rfl) ?_
 have hO := hI
 have hC := Chg.refl (pf0 ++ []) w
 unfold ZK at hs
 refine wp_k (K := (vv M w pa0 pn0 pc0 pf0 r)) (by rintro _ _ ⟨σ, rfi0, rfl, hrest⟩; exact Za Tryz.results15 (zB rfl) ⟨rfi0, rfl, hrest⟩) (c_sr ?_)
 obtain ⟨a7, a0, a8, a4, a2, a1⟩ := zg w [(iv a_.1), (sv pa0 pn0 pc0)] 30
 refine za (w' := a7) (pq a0 0) (Zj rfl (by rw [a8, a4]; kernel_rfl)) ?_
 obtain ⟨h0, hC⟩ := xt2 a2 h0 hC
 have hO := hO.new1 a2 a4 a1.lt
 refine ai rfl (zb (c_sr (za (pq a0 1) (zk rfl Zq) (za _ (ld rfl Ag28 Sz28 a1 rfl) (mi rfl ?_)))))
 have hO := hO.fr1
 have a9 := hO
 have a5 := Own.lend (F := (pf0 ++ [])) (R := [a0] ++ []) (Own.perm (a9) (by simp))
 obtain ⟨r4, b0, hs⟩ := bind_some hs
 refine zy Bd38 rfl (uI (M := M) a_.2 k h0 a5 a5.fut b0) ?_
 rintro _ b4 ⟨a6, rfl, a3, b1, b2⟩
 have hO := hO.perm (R := (pf0 ++ []) ++ ([a0] ++ [])) (by simp)
 have a1 := a1.ap a3 hO zl mS
 have hC := hC.st a3 hO zl
 have hO := Own.join hO a3 b2
 have hO := hO.perm (R := a6 ++ ([a0] ++ [])) (by simp)
 refine ai rfl (zb ?_)
 have hO := hO.fr1.drop
 refine c_sr (mi rfl (ai rfl (zb (wp_ret ?_))))
 cases hs
 exact ⟨_, a6, fr_m 10 rfl, hC, b1, hO.top⟩

def wP (M : Nat → Prop) (w0 : World) (r : Int) (a : Act) (w : World) : Prop :=
  ∃ (σ : Nv) , a = fr 21 (ovl σ [(4, (iv r))]) ∧ Chg [] w0 w
def Yh (a_ : List Int) (k : Int) : Option (Int) :=
  (forC (S := Int) (R := Int) (fun k7 s5 =>
  (idx a_ k7).bind fun x11 =>
  (bif (x11 != s5) then some (.rt (-1)) else some (.nx (w64 (s5 + 1))))) 0 (a_.length : Int) k).bind fun o9 => after o9 (fun r_ => some r_) (fun s5 =>
  some s5)
theorem wS {M : Nat → Prop} {w : World} {pa0 : OA} {pn0 pc0 : Nat} (a_ : List Int) (k : Int) (h0 : rl.val M w (sv pa0 pn0 pc0) a_ []) (hM : Hm w M) {r : Int} (hs : Yh a_ k = some r) :
    Gives Tryz.prog 17 [(sv pa0 pn0 pc0), (iv k)] w (fun v w' => v = (iv r) ∧ Chg [] w w') := by
 refine zr Tryz.func17 rfl Tryz.ntmps17 (nl rfl) ?_
 have hO := Own.start (N := Nw w []) hM Nw.fut
 have hC := Chg.refl [] w
 unfold Yh at hs
 refine wp_k (K := (wP M w r)) (by rintro _ _ ⟨σ, rfl, hrest⟩; exact Za Tryz.results17 (zB rfl) ⟨rfl, hrest⟩) (c_sr (ai rfl (zb (zd (c_sr (ai rfl (zb ?_)))))))
 obtain ⟨o9, a3, hs⟩ := bind_some hs
 refine wp_block (zT (id := 0) (a_.length : Int) (I := fun k7 s5 a a0 => ∃ (σ : Nv), a = fr 21 (ovl σ [(0, (sv pa0 pn0 pc0)), (1, (iv s5)), (5, (iv k7))]) ∧ Chg [] w a0 ∧ Own (Nw w []) M a0 [] ∧ rl.val M a0 (sv pa0 pn0 pc0) a_ []) (J := fun s5 a a0 => ∃ (σ : Nv), a = fr 21 (ovl σ [(1, (iv s5))]) ∧ Chg [] w a0 ∧ Own (Nw w []) M a0 [] ∧ rl.val M a0 (sv pa0 pn0 pc0) a_ []) (K := (wP M w)) ?_ ?_ 0 k o9 _ _ ?_ a3 ?_)
 ·rintro k7 s5 a a0 ⟨σ, rfl, hC, hO, h0⟩ hlt
  refine zd (c_sr (mi rfl (ms rfl (za _ (zn Sl34 (zt h0) rfl) (za _ (zw rfl rfl) (zb (zi (df hlt) (wp_exit ?_))))))))
  exact ⟨rfl, _, fr_m 21 rfl, hC, hO, h0⟩
 ·rintro k7 s5 o9 a a0 ⟨σ, rfl, hC, hO, h0⟩ hlt hw hs
  refine zd (c_sr (mi rfl (ms rfl (za _ (zn Sl34 (zt h0) rfl) (za _ (zw rfl rfl) (zb (zh (dt hlt) (wp_skip (zd (wp_block (zd (c_sr (ms rfl (mi rfl ?_))))))))))))))
  obtain ⟨x11, a4, hs⟩ := bind_some hs
  obtain ⟨a5, a6, a7, a8⟩ := zK Sl34 Sz3 h0 a4
  refine za _ (ip a7 rfl rfl) (za (iv x11) (zo rfl ((zm Ag3 Sz3 a8) _ (Chg.refl _ _))) (mi rfl (za (.bool (x11 != s5)) (YJ rfl rfl) (zb ?_))))
  rcases zf hs with ⟨a1, hs⟩ | ⟨a1, hs⟩
  ·refine zh (cb a1) (c_sr (ai rfl (zb (wp_ret ?_))))
   cases hs
   exact ⟨_, fr_m 21 rfl, hC⟩
  refine zi (cb a1) (wp_skip (ze (mi rfl (za _ (yad rfl rfl) (ai rfl (zb (ze (mi rfl (za _ (yad rfl rfl) (ai rfl (zb ?_)))))))))))
  cases hs
  exact ⟨_, zG 21 ⟨rfl, rfl, congrArg (Value.int .i64) hw, trivial⟩, hC, hO, h0⟩
 ·skip
  exact ⟨_, fr_m 21 rfl, hC, hO, h0⟩
 cases o9 with
 | nx _ => exact True.intro
 | rt r_ =>
  have hs := zq hs
  intro a9 a2 hK
  cases hs
  exact hK
 | br s5 =>
  have hs := zp hs
  rintro a9 a0 ⟨σ, rfl, hC, hO, h0⟩
  refine c_sr (mi rfl (ai rfl (zb (wp_ret ?_))))
  cases hs
  exact ⟨_, fr_m 21 rfl, hC⟩

theorem Ag24 : AggT Tryz.prog 24 true := fun _ => by kernel_rfl

theorem Sz24 : SzT Tryz.prog 24 2 := ⟨_, rfl, rfl⟩

theorem Bd6 : zF Tryz.prog 6 := zJ Tryz.func6 (by kernel_rfl) rfl

theorem Bd8 : zF Tryz.prog 8 := zJ Tryz.func8 (by kernel_rfl) rfl

theorem Bd18 : zF Tryz.prog 18 := zJ Tryz.func18 (by kernel_rfl) rfl

theorem Bd19 : zF Tryz.prog 19 := zJ Tryz.func19 (by kernel_rfl) rfl

theorem Bd10 : zF Tryz.prog 10 := zJ Tryz.func10 (by kernel_rfl) rfl

theorem Bd15 : zF Tryz.prog 15 := zJ Tryz.func15 (by kernel_rfl) rfl

theorem Bd17 : zF Tryz.prog 17 := zJ Tryz.func17 (by kernel_rfl) rfl

def wn (M : Nat → Prop) (w0 : World) (r : Bool) (a : Act) (w : World) : Prop :=
  ∃ (σ : Nv) , a = fr 145 (ovl σ [(8, (.bool r))]) ∧ Chg [] w0 w
def yA (aA : Int × (List (Int × (List Int)))) (aK : Int) (aB : Int × (List (Int × (List Int)))) (aImages : List Int) : Option (Bool) :=
  (bif (decide (1048576 < (aImages.length : Int))) then some true else (ZN (aA.1, aA.2) 1048576).bind fun r8 =>
  (bif (decide (r8 < 0)) then some true else (ZN (aB.1, aB.2) r8).bind fun r11 =>
  (bif (decide (r11 < 0)) then some true else (Zd (aA.1, aA.2)).bind fun r28 =>
  (Zd (aB.1, aB.2)).bind fun r31 =>
  (ZT aImages).bind fun r34 =>
  (Yl (r28.1, r28.2) aK (r31.1, r31.2) r34).bind fun r37 =>
  (Zd (aA.1, aA.2)).bind fun r40 =>
  (Zd (aB.1, aB.2)).bind fun r45 =>
  (ZT aImages).bind fun r50 =>
  (yK (r40.1, r40.2) aK (r45.1, r45.2) r50).bind fun r53 =>
  ((ZL r53.1 r37.1).bind fun r59 =>
  (bif (!r59) then some true else some (!(r53.2 == r37.2)))).bind fun s55 =>
  (bif s55 then some false else (Zd (aA.1, aA.2)).bind fun r70 =>
  (yf (r40.1, r40.2) (r70.1, r70.2)).bind fun r73 =>
  (bif (!r73) then some false else (Zd (aB.1, aB.2)).bind fun r83 =>
  (yf (r45.1, r45.2) (r83.1, r83.2)).bind fun r86 =>
  (bif (!r86) then some false else (ZT aImages).bind fun r89 =>
  (ZL r50 r89).bind fun r92 =>
  (bif (!r92) then some false else (ZK (r40.1, r40.2) 1).bind fun r95 =>
  (ZK (r45.1, r45.2) r95.1).bind fun r97 =>
  (ZY r50 r97.1).bind fun r99 =>
  ((bif (decide (r99.1 < 0)) then some true else (ZL r53.1 r37.1).bind fun r105 =>
  (bif (!r105) then some true else some (!(r53.2 == r37.2))))).bind fun s100 =>
  (bif s100 then some false else (ZY r53.1 1).bind fun r109 =>
  (Yh r109.2 1).bind fun r111 =>
  (bif (decide (r111 < 0)) then some false else (bif (r111 != r109.1) then some false else (Zd (aA.1, aA.2)).bind fun r129 =>
  (Zd (aB.1, aB.2)).bind fun r132 =>
  (ZT aImages).bind fun r135 =>
  (yK (r129.1, r129.2) aK (r132.1, r132.2) r135).bind fun r138 =>
  ((ZL r138.1 r37.1).bind fun r144 =>
  (bif (!r144) then some true else some (!(r138.2 == r37.2)))).bind fun s140 =>
  (bif s140 then some false else (Yh r109.2 1).bind fun r148 =>
  (bif (decide (r148 < 0)) then some false else (bif (r148 != r109.1) then some false else some true)))))))))))))
theorem wm {M : Nat → Prop} {w : World} {pa0 : OA} {pn0 pc0 : Nat} {pa1 : OA} {pn1 pc1 : Nat} {pa2 : OA} {pn2 pc2 : Nat} (aA : tA) (aK : Int) (aB : tA) (aImages : List Int) (h0 : rp.val M w (sv pa0 pn0 pc0) aA.2 []) (h1 : rp.val M w (sv pa1 pn1 pc1) aB.2 []) (h2 : rl.val M w (sv pa2 pn2 pc2) aImages []) (hM : Hm w M) {r : Bool} (hs : yA aA aK aB aImages = some r) :
    Gives Tryz.prog 5 [(.agg #[(iv aA.1), (sv pa0 pn0 pc0)]), (iv aK), (.agg #[(iv aB.1), (sv pa1 pn1 pc1)]), (sv pa2 pn2 pc2)] w (fun v w' => v = (.bool r) ∧ Chg [] w w') := by
 refine zr Tryz.func5 rfl Tryz.ntmps5 (nl rfl) ?_
 have hO := Own.start (N := Nw w []) hM Nw.fut
 have hC := Chg.refl [] w
 unfold yA at hs
 refine wp_k (K := (wn M w r)) (by rintro _ _ ⟨σ, rfl, hrest⟩; exact Za Tryz.results5 (zB rfl) ⟨rfl, hrest⟩) (c_sr ?_)
 obtain ⟨m1, a8, p4, m2, j2, a0⟩ := zg w [(iv aA.1), (sv pa0 pn0 pc0)] 24
 refine za (w' := m1) (pq a8 0) (Zj rfl (by rw [p4, m2]; kernel_rfl)) ?_
 obtain ⟨h0, h1, h2, hC⟩ := xt4 j2 h0 h1 h2 hC
 have hO := hO.new1 j2 m2 a0.lt
 obtain ⟨p5, a9, p6, m3, i9, a1⟩ := zg m1 [(iv aB.1), (sv pa1 pn1 pc1)] 24
 refine za (w' := p5) (pq a9 0) (Zj rfl (by rw [p6, m3]; kernel_rfl)) ?_
 obtain ⟨h0, h1, h2, a0, hC⟩ := xt5 i9 h0 h1 h2 a0 hC
 have hO := hO.new1 i9 m3 a1.lt
 refine ab rfl (zb (zd (c_sr (ms rfl (za _ (zn Sl34 (zt h2) rfl) (za _ (YY rfl rfl) (zb ?_)))))))
 rcases zf hs with ⟨k5, hs⟩ | ⟨k5, hs⟩
 ·refine zh (cb k5) (c_sr (ab rfl (zb (wp_ret ?_))))
  cases hs
  exact ⟨_, fr_m 145 rfl, hC⟩
 refine zi (cb k5) (wp_skip (c_sr (ai rfl (zb (c_sr (za _ (ldw rfl Ag24 a0 Sz24) (mi rfl ?_)))))))
 obtain ⟨r8, p7, hs⟩ := bind_some hs
 refine zy Bd6 rfl (wA (M := M) (aA.1, aA.2) 1048576 h0 hO.fut p7) ?_
 rintro _ y5 ⟨rfl, i4⟩
 obtain ⟨h0, h1, h2, a0, a1, hC, hO⟩ := xt7 i4 h0 h1 h2 a0 a1 hC hO
 refine ai rfl (zb (zd (c_sr (mi rfl (za _ (zw rfl rfl) (zb ?_))))))
 rcases zf hs with ⟨k6, hs⟩ | ⟨k6, hs⟩
 ·refine zh (cb k6) (c_sr (ab rfl (zb (wp_ret ?_))))
  cases hs
  exact ⟨_, fr_m 145 rfl, hC⟩
 refine zi (cb k6) (wp_skip (c_sr (za _ (ldw rfl Ag24 a1 Sz24) (mi rfl ?_))))
 obtain ⟨r11, p8, hs⟩ := bind_some hs
 refine zy Bd6 rfl (wA (M := M) (aB.1, aB.2) r8 h1 hO.fut p8) ?_
 rintro _ m4 ⟨rfl, i5⟩
 obtain ⟨h0, h1, h2, a0, a1, hC, hO⟩ := xt7 i5 h0 h1 h2 a0 a1 hC hO
 refine ai rfl (zb (zd (c_sr (mi rfl (za _ (zw rfl rfl) (zb ?_))))))
 rcases zf hs with ⟨k7, hs⟩ | ⟨k7, hs⟩
 ·refine zh (cb k7) (c_sr (ab rfl (zb (wp_ret ?_))))
  cases hs
  exact ⟨_, fr_m 145 rfl, hC⟩
 refine zi (cb k7) (wp_skip (zd (zQ [] Mx rfl ?_)))
 have h3 := Chg.drew m4
 generalize World.drew m4 = p9 at h3 ⊢
 obtain ⟨h0, h1, h2, a0, a1, hC, hO⟩ := xt7 h3 h0 h1 h2 a0 a1 hC hO
 have hS := Chg.refl [] p9
 refine xl 0 rfl (ldxw rfl Ag24 a0 Sz24) hS (xmi 2 rfl rfl hS (xl 3 rfl (ldxw rfl Ag24 a1 Sz24) hS (xms 5 rfl rfl hS (zI (i := 1) (by kernel_rfl) ?_))))
 obtain ⟨r28, q0, hs⟩ := bind_some hs
 refine zL (b := false) rfl Bd8 rfl (yd (M := M) (aA.1, aA.2) h0 hO.fut q0) rfl (by rintro _ _ _ ⟨q1, q2, q3, i6, rfl, f4, c5, m5⟩; exact hS.ext f4) ?_
 rintro _ y6 ⟨q1, q2, q3, i6, rfl, f4, c5, m5⟩
 obtain ⟨h0, h1, h2, a0, a1, hC⟩ := xt6 f4 h0 h1 h2 a0 a1 hC
 have hO := Own.join0 hO f4 m5
 have hO := hO.perm (R := i6 ++ ([a9] ++ ([a8] ++ []))) (by simp)
 have hS := hS.ext f4
 refine zI (i := 4) (by kernel_rfl) ?_
 obtain ⟨r31, q4, hs⟩ := bind_some hs
 refine zL (b := false) rfl Bd8 rfl (yd (M := M) (aB.1, aB.2) h1 hO.fut q4) rfl (by rintro _ _ _ ⟨q5, q6, q7, j0, rfl, e4, d6, m6⟩; exact hS.ext e4) ?_
 rintro _ y7 ⟨q5, q6, q7, j0, rfl, e4, d6, m6⟩
 obtain ⟨h0, h1, h2, a0, a1, c5, hC⟩ := xt7 e4 h0 h1 h2 a0 a1 c5 hC
 have hO := Own.join0 hO e4 m6
 have hO := hO.perm (R := j0 ++ (i6 ++ ([a9] ++ ([a8] ++ [])))) (by simp)
 have hS := hS.ext e4
 refine zI (i := 6) (by kernel_rfl) ?_
 obtain ⟨r34, q8, hs⟩ := bind_some hs
 refine zL (b := false) rfl Bd12 rfl (xn (M := M) aImages h2 hO.fut q8) rfl (by rintro _ _ _ ⟨q9, r0, r1, j3, rfl, d7, f5, m7⟩; exact hS.ext d7) ?_
 rintro _ y8 ⟨q9, r0, r1, j3, rfl, d7, f5, m7⟩
 obtain ⟨h0, h1, h2, a0, a1, c5, d6, hC⟩ := xt8 d7 h0 h1 h2 a0 a1 c5 d6 hC
 have hO := Own.join0 hO d7 m7
 have hO := hO.perm (R := j3 ++ (j0 ++ (i6 ++ ([a9] ++ ([a8] ++ []))))) (by simp)
 have hS := hS.ext d7
 refine zI (i := 7) (by kernel_rfl) ?_
 have hO := hO.fr1.fr2
 obtain ⟨r37, r2, hs⟩ := bind_some hs
 refine zL (b := false) rfl Bd18 rfl (vS (M := (Less (Less (Less M i6) j0) j3)) (r28.1, r28.2) aK (r31.1, r31.2) r34 (((((Frz.os (Frz.pr Frz.int (Frz.os Frz.int)))).val c5 Less.sub Less.not).sub Less.sub).sub Less.sub) ((((Frz.os (Frz.pr Frz.int (Frz.os Frz.int)))).val (d6.sub Less.sub) Less.sub Less.not).sub Less.sub) (((Frz.os Frz.int)).val ((f5.sub Less.sub).sub Less.sub) Less.sub Less.not) ((hO.less).less).less.fut r2) rfl (by rintro _ _ _ ⟨g1, g2, g3, b1, rfl, d1, a2, m8⟩; exact hS.ext d1) ?_
 rintro _ y9 ⟨g1, g2, g3, b1, rfl, d1, a2, m8⟩
 obtain ⟨h0, h1, h2, a0, a1, c5, d6, f5⟩ := xt8 d1 h0 h1 h2 a0 a1 c5 d6 f5
 have hC := hC.ext d1
 have hO := Own.join0 hO d1 m8
 have hO := hO.perm (R := b1 ++ (i6 ++ (j0 ++ (j3 ++ ([a9] ++ ([a8] ++ [])))))) (by simp)
 have a2 := a2.free (M' := M) (Free.os Free.int)
 have hS := hS.ext d1
 refine xq 8 (.tuple #[(sv g1 g2 g3), (.bool r37.2)]) rfl (zx rfl) hS (xq 9 (sv g1 g2 g3) rfl (zH rfl (by kernel_rfl)) hS (xq 10 (.bool r37.2) rfl (zH rfl (by kernel_rfl)) hS (xq 11 (sv g1 g2 g3) rfl (zA rfl) hS (xq 12 (.bool r37.2) rfl (zA rfl) hS (xe ?_)))))
 clear hS
 refine c_sr (za _ (ldw rfl Ag24 a0 Sz24) ?_)
 obtain ⟨r40, r3, hs⟩ := bind_some hs
 refine zy Bd8 rfl (yd (M := M) (aA.1, aA.2) h0 hO.fut r3) ?_
 rintro _ r4 ⟨h4, h5, h6, e5, rfl, e6, a3, r5⟩
 obtain ⟨h0, h1, h2, a0, a1, c5, d6, f5⟩ := xt8 e6 h0 h1 h2 a0 a1 c5 d6 f5
 obtain ⟨a2, hC⟩ := xt2 e6 a2 hC
 have hO := Own.join0 hO e6 r5
 have hO := hO.perm (R := e5 ++ (b1 ++ (i6 ++ (j0 ++ (j3 ++ ([a9] ++ ([a8] ++ []))))))) (by simp)
 obtain ⟨r6, d8, r7, m9, d9, n0⟩ := zg r4 [(iv 0), (sv none 0 0)] 30
 refine za (w' := r6) (pq d8 0) (YF (by rw [r7, m9]; kernel_rfl)) ?_
 obtain ⟨h0, h1, h2, a0, a1, c5, d6, f5⟩ := xt8 d9 h0 h1 h2 a0 a1 c5 d6 f5
 obtain ⟨a2, a3, hC⟩ := xt3 d9 a2 a3 hC
 have hO := hO.new1 d9 m9 n0.lt
 obtain ⟨n1, r9, e0, a4⟩ := Zx (P := Tryz.prog) n0 [] [(iv 0), (sv none 0 0)] [] [(iv r40.1), (sv h4 h5 h6)] rfl rfl (oc rfl)
 refine Zh (w' := n1) (zY rfl rfl (r9 _ _ rfl Sz30)) ?_
 have h0 := h0.mt e0 hO zl
 have h1 := h1.mt e0 hO zl
 have h2 := h2.mt e0 hO zl
 have a0 := a0.ap e0 hO zl (zj (zj (zj (zj (zj (zj mS))))))
 have a1 := a1.ap e0 hO zl (zj (zj (zj (zj (zj mS)))))
 have c5 := c5.ma e0 hO zl (fun _ e => (zj (zj (zD (e)))))
 have d6 := d6.ma e0 hO zl (fun _ e => (zj (zj (zj (zD (e))))))
 have f5 := f5.ma e0 hO zl (fun _ e => (zj (zj (zj (zj (zD (e)))))))
 have a2 := a2.ma e0 hO zl (fun _ e => (zj (zD (e))))
 have a3 := a3.ma e0 hO zl (fun _ e => (zD (e)))
 have hC := hC.st e0 hO zl
 have hO := hO.ext e0
 have a4 : BoxV n1 d8 30 [(iv r40.1), (sv h4 h5 h6)] := a4
 refine zb ?_
 have hO := hO.fr3.drop.fr3.drop.fr3.drop
 refine c_sr (za _ (ldw rfl Ag24 a1 Sz24) ?_)
 obtain ⟨r45, s0, hs⟩ := bind_some hs
 refine zy Bd8 rfl (yd (M := M) (aB.1, aB.2) h1 hO.fut s0) ?_
 rintro _ s1 ⟨h7, h8, h9, d2, rfl, f6, a6, s2⟩
 obtain ⟨h0, h1, h2, a0, a1, a2, a3, a4⟩ := xt8 f6 h0 h1 h2 a0 a1 a2 a3 a4
 have hC := hC.ext f6
 have hO := Own.join0 hO f6 s2
 have hO := hO.perm (R := d2 ++ ([d8] ++ (e5 ++ (b1 ++ ([a9] ++ ([a8] ++ [])))))) (by simp)
 obtain ⟨s3, c6, s4, n2, e7, n3⟩ := zg s1 [(iv 0), (sv none 0 0)] 30
 refine za (w' := s3) (pq c6 0) (YF (by rw [s4, n2]; kernel_rfl)) ?_
 obtain ⟨h0, h1, h2, a0, a1, a2, a3, a4⟩ := xt8 e7 h0 h1 h2 a0 a1 a2 a3 a4
 obtain ⟨a6, hC⟩ := xt2 e7 a6 hC
 have hO := hO.new1 e7 n2 n3.lt
 obtain ⟨n4, s5, e8, a7⟩ := Zx (P := Tryz.prog) n3 [] [(iv 0), (sv none 0 0)] [] [(iv r45.1), (sv h7 h8 h9)] rfl rfl (oc rfl)
 refine Zh (w' := n4) (zY rfl rfl (s5 _ _ rfl Sz30)) ?_
 have h0 := h0.mt e8 hO zl
 have h1 := h1.mt e8 hO zl
 have h2 := h2.mt e8 hO zl
 have a0 := a0.ap e8 hO zl (zj (zj (zj (zj (zj mS)))))
 have a1 := a1.ap e8 hO zl (zj (zj (zj (zj mS))))
 have a2 := a2.ma e8 hO zl (fun _ e => (zj (zj (zj (zD (e))))))
 have a3 := a3.ma e8 hO zl (fun _ e => (zj (zj (zD (e)))))
 have a4 := a4.ap e8 hO zl (zj mS)
 have a6 := a6.ma e8 hO zl (fun _ e => (zD (e)))
 have hC := hC.st e8 hO zl
 have hO := hO.ext e8
 have a7 : BoxV n4 c6 30 [(iv r45.1), (sv h7 h8 h9)] := a7
 refine zb (c_sr (ms rfl ?_))
 obtain ⟨r50, s6, hs⟩ := bind_some hs
 refine zy Bd12 rfl (xn (M := M) aImages h2 hO.fut s6) ?_
 rintro _ z0 ⟨j4, j5, j6, c1, rfl, e1, b0, s7⟩
 obtain ⟨h0, h1, h2, a0, a1, a2, a3, a4⟩ := xt8 e1 h0 h1 h2 a0 a1 a2 a3 a4
 obtain ⟨a6, a7, hC⟩ := xt3 e1 a6 a7 hC
 have hO := Own.join0 hO e1 s7
 have hO := hO.perm (R := c1 ++ ([c6] ++ (d2 ++ ([d8] ++ (e5 ++ (b1 ++ ([a9] ++ ([a8] ++ [])))))))) (by simp)
 refine ax rfl (zb (c_sr (za _ (ldw rfl Ag30 a4 Sz30) (mi rfl (za _ (ldw rfl Ag30 a7 Sz30) (ms rfl ?_))))))
 have hO := hO.fr2.fr4
 obtain ⟨r53, s8, hs⟩ := bind_some hs
 refine zy Bd19 rfl (we (M := (Less (Less (Less M e5) d2) c1)) (r40.1, r40.2) aK (r45.1, r45.2) r50 (((((Frz.os (Frz.pr Frz.int (Frz.os Frz.int)))).val a3 Less.sub Less.not).sub Less.sub).sub Less.sub) ((((Frz.os (Frz.pr Frz.int (Frz.os Frz.int)))).val (a6.sub Less.sub) Less.sub Less.not).sub Less.sub) (((Frz.os Frz.int)).val ((b0.sub Less.sub).sub Less.sub) Less.sub Less.not) ((hO.less).less).less.fut s8) ?_
 rintro _ n5 ⟨e9, f0, f1, b6, rfl, d3, a5, s9⟩
 obtain ⟨h0, h1, h2, a0, a1, a2, a3, a4⟩ := xt8 d3 h0 h1 h2 a0 a1 a2 a3 a4
 obtain ⟨a6, a7, b0, hC⟩ := xt4 d3 a6 a7 b0 hC
 have hO := Own.join0 hO d3 s9
 have hO := hO.perm (R := b6 ++ (e5 ++ (d2 ++ (c1 ++ ([c6] ++ ([d8] ++ (b1 ++ ([a9] ++ ([a8] ++ []))))))))) (by simp)
 have a5 := a5.free (M' := M) (Free.os Free.int)
 refine za (.tuple #[(sv e9 f0 f1), (.bool r53.2)]) (zx rfl) (za (sv e9 f0 f1) (zH rfl (by kernel_rfl)) (za (.bool r53.2) (zH rfl (by kernel_rfl)) (ax rfl (ab rfl (zb (zd (zd ?_)))))))
 obtain ⟨s55, t0, hs⟩ := bind_some hs
 refine yB (I := fun a k2 => ∃ (σ : Nv), a = fr 145 (ovl σ [(1, (iv aK)), (3, (sv pa2 pn2 pc2)), (4, (pq a8 0)), (6, (pq a9 0)), (8, (.bool false)), (10, (sv g1 g2 g3)), (11, (.bool r37.2)), (12, (pq d8 0)), (13, (pq c6 0)), (14, (sv j4 j5 j6)), (15, (sv e9 f0 f1)), (16, (.bool r53.2)), (68, (.bool s55))]) ∧ Chg [] n5 k2) ?_ ?_
 ·replace hs := t0
  have hMid := Chg.refl [] n5
  refine ze (ms rfl (ms rfl ?_))
  have hO := hO.fr6.fr1
  obtain ⟨r59, t1, hs⟩ := bind_some hs
  refine zy Bd14 rfl (xt (M := (Less (Less M b6) b1)) r53.1 r37.1 ((((Frz.os Frz.int)).val a5 Less.sub Less.not).sub Less.sub) (((Frz.os Frz.int)).val (a2.sub Less.sub) Less.sub Less.not) (hO.less).less.fut t1) ?_
  rintro _ z1 ⟨rfl, c2⟩
  obtain ⟨h0, h1, h2, a0, a1, a2, a3, a4⟩ := xt8 c2 h0 h1 h2 a0 a1 a2 a3 a4
  obtain ⟨a6, a7, b0, a5, hMid, hC, hO⟩ := xt7 c2 a6 a7 b0 a5 hMid hC hO
  refine za _ (ZA rfl) (mb rfl ?_)
  rcases zf hs with ⟨g4, hs⟩ | ⟨g4, hs⟩
  ·skip
   refine pn 64 (cb g4) (pn 64 (cb g4) (pn 64 (cb g4) (za _ (ptb (cb g4) rfl) (zb ?_))))
   cases hs
   exact ⟨_, fr_m 145 rfl, hMid⟩
  refine py 64 (.bool r53.2) (cb g4) (zx rfl) (py 64 (.bool r37.2) (cb g4) (zx rfl) (py 64 (.bool (!(r53.2 == r37.2))) (cb g4) (zbF Tryz.underlying4 rfl rfl) (za _ (pfb (cb g4) rfl) (zb ?_))))
  cases hs
  exact ⟨_, fr_m 145 rfl, hMid⟩
 rintro n6 k2 ⟨σ, rfl, c7⟩
 obtain ⟨h0, h1, h2, a0, a1, a2, a3, a4⟩ := xt8 c7 h0 h1 h2 a0 a1 a2 a3 a4
 obtain ⟨a6, a7, b0, a5, hC, hO⟩ := xt6 c7 a6 a7 b0 a5 hC hO
 rcases zf hs with ⟨k8, hs⟩ | ⟨k8, hs⟩
 ·refine zh (cb k8) (c_sr (ab rfl (zb (wp_ret ?_))))
  cases hs
  exact ⟨_, fr_m 145 rfl, hC⟩
 refine zi (cb k8) (wp_skip (zd (zd (zQ [] Mx rfl ?_))))
 have c3 := Chg.drew k2
 generalize World.drew k2 = t2 at c3 ⊢
 obtain ⟨h0, h1, h2, a0, a1, a2, a3, a4⟩ := xt8 c3 h0 h1 h2 a0 a1 a2 a3 a4
 obtain ⟨a6, a7, b0, a5, hC, hO⟩ := xt6 c3 a6 a7 b0 a5 hC hO
 have hS := Chg.refl [] t2
 refine xl 0 rfl (ldxw rfl Ag30 a4 Sz30) hS (xl 1 rfl (ldxw rfl Ag24 a0 Sz24) hS (zI (i := 2) (by kernel_rfl) ?_))
 obtain ⟨r70, t3, hs⟩ := bind_some hs
 refine zL (b := false) rfl Bd8 rfl (yd (M := M) (aA.1, aA.2) h0 hO.fut t3) rfl (by rintro _ _ _ ⟨t4, t5, t6, j7, rfl, b7, c8, n7⟩; exact hS.ext b7) ?_
 rintro _ z2 ⟨t4, t5, t6, j7, rfl, b7, c8, n7⟩
 obtain ⟨h0, h1, h2, a0, a1, a2, a3, a4⟩ := xt8 b7 h0 h1 h2 a0 a1 a2 a3 a4
 obtain ⟨a6, a7, b0, a5, hC⟩ := xt5 b7 a6 a7 b0 a5 hC
 have hO := Own.join0 hO b7 n7
 have hO := hO.perm (R := j7 ++ (b6 ++ (e5 ++ (d2 ++ (c1 ++ ([c6] ++ ([d8] ++ (b1 ++ ([a9] ++ ([a8] ++ [])))))))))) (by simp)
 have hS := hS.ext b7
 refine zI (i := 3) (by kernel_rfl) ?_
 have hO := hO.fr2
 obtain ⟨r73, t7, hs⟩ := bind_some hs
 refine zL (b := false) rfl Bd10 rfl (wt (M := (Less (Less M e5) j7)) (r40.1, r40.2) (r70.1, r70.2) ((((Frz.os (Frz.pr Frz.int (Frz.os Frz.int)))).val a3 Less.sub Less.not).sub Less.sub) (((Frz.os (Frz.pr Frz.int (Frz.os Frz.int)))).val (c8.sub Less.sub) Less.sub Less.not) (hO.less).less.fut t7) rfl (by rintro _ _ _ ⟨rfl, b4⟩; exact hS.ext b4) ?_
 rintro _ n8 ⟨rfl, b4⟩
 obtain ⟨h0, h1, h2, a0, a1, a2, a3, a4⟩ := xt8 b4 h0 h1 h2 a0 a1 a2 a3 a4
 obtain ⟨a6, a7, b0, a5, c8, hC, hO, hS⟩ := xt8 b4 a6 a7 b0 a5 c8 hC hO hS
 refine xq 4 _ rfl (ZA rfl) hS (xe ?_)
 clear hS
 rcases zf hs with ⟨k9, hs⟩ | ⟨k9, hs⟩
 ·refine zh (cb k9) (c_sr (ab rfl (zb ?_)))
  have hO := hO.fr1.drop
  refine wp_ret ?_
  cases hs
  exact ⟨_, fr_m 145 rfl, hC⟩
 refine zi (cb k9) (wp_skip (zd (zd (zQ [] Mx rfl ?_))))
 have b9 := Chg.drew n8
 generalize World.drew n8 = t8 at b9 ⊢
 obtain ⟨h0, h1, h2, a0, a1, a2, a3, a4⟩ := xt8 b9 h0 h1 h2 a0 a1 a2 a3 a4
 obtain ⟨a6, a7, b0, a5, c8, hC, hO⟩ := xt7 b9 a6 a7 b0 a5 c8 hC hO
 have hS := Chg.refl [] t8
 refine xl 0 rfl (ldxw rfl Ag30 a7 Sz30) hS (xl 1 rfl (ldxw rfl Ag24 a1 Sz24) hS (zI (i := 2) (by kernel_rfl) ?_))
 obtain ⟨r83, t9, hs⟩ := bind_some hs
 refine zL (b := false) rfl Bd8 rfl (yd (M := M) (aB.1, aB.2) h1 hO.fut t9) rfl (by rintro _ _ _ ⟨u0, u1, u2, k3, rfl, b5, i0, n9⟩; exact hS.ext b5) ?_
 rintro _ z3 ⟨u0, u1, u2, k3, rfl, b5, i0, n9⟩
 obtain ⟨h0, h1, h2, a0, a1, a2, a3, a4⟩ := xt8 b5 h0 h1 h2 a0 a1 a2 a3 a4
 obtain ⟨a6, a7, b0, a5, c8, hC⟩ := xt6 b5 a6 a7 b0 a5 c8 hC
 have hO := Own.join0 hO b5 n9
 have hO := hO.perm (R := k3 ++ (e5 ++ (j7 ++ (b6 ++ (d2 ++ (c1 ++ ([c6] ++ ([d8] ++ (b1 ++ ([a9] ++ ([a8] ++ []))))))))))) (by simp)
 have hS := hS.ext b5
 refine zI (i := 3) (by kernel_rfl) ?_
 have hO := hO.fr4
 obtain ⟨r86, u3, hs⟩ := bind_some hs
 refine zL (b := false) rfl Bd10 rfl (wt (M := (Less (Less M d2) k3)) (r45.1, r45.2) (r83.1, r83.2) ((((Frz.os (Frz.pr Frz.int (Frz.os Frz.int)))).val a6 Less.sub Less.not).sub Less.sub) (((Frz.os (Frz.pr Frz.int (Frz.os Frz.int)))).val (i0.sub Less.sub) Less.sub Less.not) (hO.less).less.fut u3) rfl (by rintro _ _ _ ⟨rfl, b3⟩; exact hS.ext b3) ?_
 rintro _ z4 ⟨rfl, b3⟩
 obtain ⟨h0, h1, h2, a0, a1, a2, a3, a4⟩ := xt8 b3 h0 h1 h2 a0 a1 a2 a3 a4
 obtain ⟨a6, a7, b0, a5, c8, i0, hC, hO⟩ := xt8 b3 a6 a7 b0 a5 c8 i0 hC hO
 have hS := hS.ext b3
 refine xq 4 _ rfl (ZA rfl) hS (xe ?_)
 clear hS
 rcases zf hs with ⟨l0, hs⟩ | ⟨l0, hs⟩
 ·refine zh (cb l0) (c_sr (ab rfl (zb ?_)))
  have hO := hO.fr1.drop.fr2.drop
  refine wp_ret ?_
  cases hs
  exact ⟨_, fr_m 145 rfl, hC⟩
 refine zi (cb l0) (wp_skip (zd (c_sr (ms rfl (ms rfl ?_)))))
 obtain ⟨r89, u4, hs⟩ := bind_some hs
 refine zy Bd12 rfl (xn (M := M) aImages h2 hO.fut u4) ?_
 rintro _ z5 ⟨z6, z7, z8, o0, rfl, c0, l1, u5⟩
 obtain ⟨h0, h1, h2, a0, a1, a2, a3, a4⟩ := xt8 c0 h0 h1 h2 a0 a1 a2 a3 a4
 obtain ⟨a6, a7, b0, a5, c8, i0, hC⟩ := xt7 c0 a6 a7 b0 a5 c8 i0 hC
 have hO := Own.join0 hO c0 u5
 have hO := (hO.perm (R := o0 ++ (d2 ++ (k3 ++ (e5 ++ (j7 ++ (b6 ++ (c1 ++ ([c6] ++ ([d8] ++ (b1 ++ ([a9] ++ ([a8] ++ [])))))))))))) (by simp)).fr6
 obtain ⟨r92, u6, hs⟩ := bind_some hs
 refine zy Bd14 rfl (xt (M := (Less (Less M c1) o0)) r50 r89 ((((Frz.os Frz.int)).val b0 Less.sub Less.not).sub Less.sub) (((Frz.os Frz.int)).val (l1.sub Less.sub) Less.sub Less.not) (hO.less).less.fut u6) ?_
 rintro _ z9 ⟨rfl, b8⟩
 obtain ⟨h0, h1, h2, a0, a1, a2, a3, a4⟩ := xt8 b8 h0 h1 h2 a0 a1 a2 a3 a4
 obtain ⟨a6, a7, b0, a5, c8, i0, l1, hC⟩ := xt8 b8 a6 a7 b0 a5 c8 i0 l1 hC
 have hO := hO.ext b8
 refine za _ (ZA rfl) (zb ?_)
 have hO := hO.fr1.drop.fr2.drop.fr3.drop
 rcases zf hs with ⟨l2, hs⟩ | ⟨l2, hs⟩
 ·refine zh (cb l2) (c_sr (ab rfl (zb (wp_ret ?_))))
  cases hs
  exact ⟨_, fr_m 145 rfl, hC⟩
 refine zi (cb l2) (wp_skip (c_sr (ai rfl (zb (c_sr (za _ (ldw rfl Ag30 a4 Sz30) (mi rfl ?_)))))))
 have hO := hO.fr2
 have u7 := hO
 have o1 := Own.lend (F := (e5 ++ [])) (R := c1 ++ (d2 ++ (b6 ++ ([c6] ++ ([d8] ++ (b1 ++ ([a9] ++ ([a8] ++ [])))))))) (Own.perm (u7) (by simp))
 obtain ⟨r95, u9, hs⟩ := bind_some hs
 refine zy Bd15 rfl (XL (M := M) (r40.1, r40.2) 1 a3 o1 o1.fut u9) ?_
 rintro _ A0 ⟨v0, rfl, d4, A1, v1⟩
 have hO := hO.perm (R := (e5 ++ []) ++ (c1 ++ (d2 ++ (b6 ++ ([c6] ++ ([d8] ++ (b1 ++ ([a9] ++ ([a8] ++ []))))))))) (by simp)
 have h0 := h0.mt d4 hO zl
 have h1 := h1.mt d4 hO zl
 have h2 := h2.mt d4 hO zl
 have a0 := a0.ap d4 hO zl (zj (zj (zj (zj (zj (zj (zj mS)))))))
 have a1 := a1.ap d4 hO zl (zj (zj (zj (zj (zj (zj mS))))))
 have a2 := a2.ma d4 hO zl (fun _ e => (zj (zj (zj (zj (zj (zD (e))))))))
 have a4 := a4.ap d4 hO zl (zj (zj (zj (zj mS))))
 have a6 := a6.ma d4 hO zl (fun _ e => (zj (zD (e))))
 have a7 := a7.ap d4 hO zl (zj (zj (zj mS)))
 have b0 := b0.ma d4 hO zl (fun _ e => (zD (e)))
 have a5 := a5.ma d4 hO zl (fun _ e => (zj (zj (zD (e)))))
 have hC := hC.st d4 hO zl
 have hO := Own.join hO d4 v1
 have hO := hO.perm (R := v0 ++ (c1 ++ (d2 ++ (b6 ++ ([c6] ++ ([d8] ++ (b1 ++ ([a9] ++ ([a8] ++ []))))))))) (by simp)
 refine ai rfl (zb ?_)
 have hO := hO.drop.fr4.drop
 refine c_sr (za _ (ldw rfl Ag30 a7 Sz30) (mi rfl ?_))
 have hO := hO.fr1
 have v2 := hO
 have o2 := Own.lend (F := (d2 ++ [])) (R := c1 ++ (b6 ++ ([c6] ++ (b1 ++ ([a9] ++ ([a8] ++ [])))))) (Own.perm (v2) (by simp))
 obtain ⟨r97, v3, hs⟩ := bind_some hs
 refine zy Bd15 rfl (XL (M := M) (r45.1, r45.2) r95.1 a6 o2 o2.fut v3) ?_
 rintro _ A2 ⟨v4, rfl, f2, A3, v5⟩
 have hO := hO.perm (R := (d2 ++ []) ++ (c1 ++ (b6 ++ ([c6] ++ (b1 ++ ([a9] ++ ([a8] ++ []))))))) (by simp)
 have h0 := h0.mt f2 hO zl
 have h1 := h1.mt f2 hO zl
 have h2 := h2.mt f2 hO zl
 have a0 := a0.ap f2 hO zl (zj (zj (zj (zj (zj mS)))))
 have a1 := a1.ap f2 hO zl (zj (zj (zj (zj mS))))
 have a2 := a2.ma f2 hO zl (fun _ e => (zj (zj (zj (zD (e))))))
 have a7 := a7.ap f2 hO zl (zj (zj mS))
 have b0 := b0.ma f2 hO zl (fun _ e => (zD (e)))
 have a5 := a5.ma f2 hO zl (fun _ e => (zj (zD (e))))
 have hC := hC.st f2 hO zl
 have hO := Own.join hO f2 v5
 have hO := hO.perm (R := v4 ++ (c1 ++ (b6 ++ ([c6] ++ (b1 ++ ([a9] ++ ([a8] ++ []))))))) (by simp)
 refine ai rfl (zb ?_)
 have hO := hO.drop.fr2.drop
 refine c_sr (ms rfl (mi rfl ?_))
 have v6 := hO
 have o3 := Own.lend (F := (c1 ++ [])) (R := b6 ++ (b1 ++ ([a9] ++ ([a8] ++ [])))) (Own.perm (v6) (by simp))
 obtain ⟨r99, v7, hs⟩ := bind_some hs
 refine zy Bd16 rfl (Xn (M := M) r50 r97.1 b0 o3 o3.fut v7) ?_
 rintro _ o4 ⟨v8, rfl, g5, A4, v9⟩
 have hO := hO.perm (R := (c1 ++ []) ++ (b6 ++ (b1 ++ ([a9] ++ ([a8] ++ []))))) (by simp)
 have h0 := h0.mt g5 hO zl
 have h1 := h1.mt g5 hO zl
 have h2 := h2.mt g5 hO zl
 have a0 := a0.ap g5 hO zl (zj (zj (zj mS)))
 have a1 := a1.ap g5 hO zl (zj (zj mS))
 have a2 := a2.ma g5 hO zl (fun _ e => (zj (zD (e))))
 have a5 := a5.ma g5 hO zl (fun _ e => (zD (e)))
 have hC := hC.st g5 hO zl
 have hO := Own.join hO g5 v9
 have hO := hO.perm (R := v8 ++ (b6 ++ (b1 ++ ([a9] ++ ([a8] ++ []))))) (by simp)
 refine ai rfl (zb ?_)
 have hO := hO.drop
 refine zd (zd ?_)
 obtain ⟨s100, w1, hs⟩ := bind_some hs
 refine yB (I := fun a o5 => ∃ (σ : Nv), a = fr 145 (ovl σ [(1, (iv aK)), (3, (sv pa2 pn2 pc2)), (4, (pq a8 0)), (6, (pq a9 0)), (8, (.bool false)), (10, (sv g1 g2 g3)), (11, (.bool r37.2)), (15, (sv e9 f0 f1)), (105, (.bool s100))]) ∧ Chg [] o4 o5) ?_ ?_
 ·replace hs := w1
  have hMid := Chg.refl [] o4
  refine ze (mi rfl (za _ (zw rfl rfl) (mb rfl ?_)))
  rcases zf hs with ⟨f3, hs⟩ | ⟨f3, hs⟩
  ·skip
   refine pn 95 (cb f3) (pn 95 (cb f3) (pn 95 (cb f3) (pn 95 (cb f3) (za _ (ptb (cb f3) rfl) (mb rfl (pn 101 (by rfl) (pn 101 (by rfl) (pn 101 (by rfl) (za _ (ptb (by rfl) rfl) (zb ?_))))))))))
   cases hs
   exact ⟨_, fr_m 145 rfl, hMid⟩
  refine py 95 (sv e9 f0 f1) (cb f3) (zx rfl) (py 95 (sv g1 g2 g3) (cb f3) (zx rfl) ?_)
  have hO := hO.fr1.fr1
  obtain ⟨r105, w2, hs⟩ := bind_some hs
  refine yt (tg := 95) (by kernel_rfl) (cb f3) Bd14 rfl (xt (M := (Less (Less M b6) b1)) r53.1 r37.1 ((((Frz.os Frz.int)).val a5 Less.sub Less.not).sub Less.sub) (((Frz.os Frz.int)).val (a2.sub Less.sub) Less.sub Less.not) (hO.less).less.fut w2) ?_
  rintro _ A5 ⟨rfl, f7⟩
  obtain ⟨h0, h1, h2, a0, a1, a2, a5, hMid⟩ := xt8 f7 h0 h1 h2 a0 a1 a2 a5 hMid
  obtain ⟨hC, hO⟩ := xt2 f7 hC hO
  refine py 95 _ (cb f3) (ZA rfl) (za _ (pfb (cb f3) rfl) (mb rfl ?_))
  rcases zf hs with ⟨g6, hs⟩ | ⟨g6, hs⟩
  ·skip
   refine pn 101 (cb g6) (pn 101 (cb g6) (pn 101 (cb g6) (za _ (ptb (cb g6) rfl) (zb ?_))))
   cases hs
   exact ⟨_, fr_m 145 rfl, hMid⟩
  refine py 101 (.bool r53.2) (cb g6) (zx rfl) (py 101 (.bool r37.2) (cb g6) (zx rfl) (py 101 (.bool (!(r53.2 == r37.2))) (cb g6) (zbF Tryz.underlying4 rfl rfl) (za _ (pfb (cb g6) rfl) (zb ?_))))
  cases hs
  exact ⟨_, fr_m 145 rfl, hMid⟩
 rintro n6 o5 ⟨σ, rfl, g7⟩
 obtain ⟨h0, h1, h2, a0, a1, a2, a5, hC⟩ := xt8 g7 h0 h1 h2 a0 a1 a2 a5 hC
 have hO := hO.ext g7
 rcases zf hs with ⟨l3, hs⟩ | ⟨l3, hs⟩
 ·refine zh (cb l3) (c_sr (ab rfl (zb (wp_ret ?_))))
  cases hs
  exact ⟨_, fr_m 145 rfl, hC⟩
 refine zi (cb l3) (wp_skip (c_sr (ai rfl (zb (c_sr (ms rfl (mi rfl ?_)))))))
 have w3 := hO
 have o6 := Own.lend (F := (b6 ++ [])) (R := b1 ++ ([a9] ++ ([a8] ++ []))) (Own.perm (w3) (by simp))
 obtain ⟨r109, w4, hs⟩ := bind_some hs
 refine zy Bd16 rfl (Xn (M := M) r53.1 1 a5 o6 o6.fut w4) ?_
 rintro _ A6 ⟨i7, rfl, i1, b2, w5⟩
 have hO := hO.perm (R := (b6 ++ []) ++ (b1 ++ ([a9] ++ ([a8] ++ [])))) (by simp)
 have h0 := h0.mt i1 hO zl
 have h1 := h1.mt i1 hO zl
 have h2 := h2.mt i1 hO zl
 have a0 := a0.ap i1 hO zl (zj (zj mS))
 have a1 := a1.ap i1 hO zl (zj mS)
 have a2 := a2.ma i1 hO zl (fun _ e => (zD (e)))
 have hC := hC.st i1 hO zl
 have hO := Own.join hO i1 w5
 have hO := hO.perm (R := i7 ++ (b1 ++ ([a9] ++ ([a8] ++ [])))) (by simp)
 refine ai rfl (zb (c_sr (ai rfl (zb (c_sr (ms rfl (mi rfl ?_)))))))
 obtain ⟨r111, w6, hs⟩ := bind_some hs
 refine zy Bd17 rfl (wS (M := (Less M i7)) r109.2 1 (((Frz.os Frz.int)).val b2 Less.sub Less.not) hO.less.fut w6) ?_
 rintro _ o7 ⟨rfl, g8⟩
 obtain ⟨h0, h1, h2, a0, a1, a2, b2, hC⟩ := xt8 g8 h0 h1 h2 a0 a1 a2 b2 hC
 have hO := hO.ext g8
 refine ai rfl (zb (zd (c_sr (mi rfl (za _ (zw rfl rfl) (zb ?_))))))
 rcases zf hs with ⟨l4, hs⟩ | ⟨l4, hs⟩
 ·refine zh (cb l4) (c_sr (ab rfl (zb (wp_ret ?_))))
  cases hs
  exact ⟨_, fr_m 145 rfl, hC⟩
 refine zi (cb l4) (wp_skip (zd (c_sr (mi rfl (mi rfl (za (.bool (r111 != r109.1)) (YJ rfl rfl) (zb ?_)))))))
 rcases zf hs with ⟨l5, hs⟩ | ⟨l5, hs⟩
 ·refine zh (cb l5) (c_sr (ab rfl (zb (wp_ret ?_))))
  cases hs
  exact ⟨_, fr_m 145 rfl, hC⟩
 refine zi (cb l5) (wp_skip (zd (zQ [] Mx rfl ?_)))
 have f8 := Chg.drew o7
 generalize World.drew o7 = w7 at f8 ⊢
 obtain ⟨h0, h1, h2, a0, a1, a2, b2, hC⟩ := xt8 f8 h0 h1 h2 a0 a1 a2 b2 hC
 have hO := hO.ext f8
 have hS := Chg.refl [] w7
 refine xl 0 rfl (ldxw rfl Ag24 a0 Sz24) hS (xmi 2 rfl rfl hS (xl 3 rfl (ldxw rfl Ag24 a1 Sz24) hS (xms 5 rfl rfl hS (zI (i := 1) (by kernel_rfl) ?_))))
 obtain ⟨r129, w8, hs⟩ := bind_some hs
 refine zL (b := false) rfl Bd8 rfl (yd (M := M) (aA.1, aA.2) h0 hO.fut w8) rfl (by rintro _ _ _ ⟨w9, x0, x1, j1, rfl, e2, e3, o8⟩; exact hS.ext e2) ?_
 rintro _ A7 ⟨w9, x0, x1, j1, rfl, e2, e3, o8⟩
 obtain ⟨h0, h1, h2, a0, a1, a2, b2, hC⟩ := xt8 e2 h0 h1 h2 a0 a1 a2 b2 hC
 have hO := Own.join0 hO e2 o8
 have hO := hO.perm (R := j1 ++ (i7 ++ (b1 ++ ([a9] ++ ([a8] ++ []))))) (by simp)
 have hS := hS.ext e2
 refine zI (i := 4) (by kernel_rfl) ?_
 obtain ⟨r132, x2, hs⟩ := bind_some hs
 refine zL (b := false) rfl Bd8 rfl (yd (M := M) (aB.1, aB.2) h1 hO.fut x2) rfl (by rintro _ _ _ ⟨x3, x4, x5, j8, rfl, d5, f9, o9⟩; exact hS.ext d5) ?_
 rintro _ A8 ⟨x3, x4, x5, j8, rfl, d5, f9, o9⟩
 obtain ⟨h0, h1, h2, a0, a1, a2, b2, e3⟩ := xt8 d5 h0 h1 h2 a0 a1 a2 b2 e3
 have hC := hC.ext d5
 have hO := Own.join0 hO d5 o9
 have hO := hO.perm (R := j8 ++ (j1 ++ (i7 ++ (b1 ++ ([a9] ++ ([a8] ++ [])))))) (by simp)
 have hS := hS.ext d5
 refine zI (i := 6) (by kernel_rfl) ?_
 obtain ⟨r135, x6, hs⟩ := bind_some hs
 refine zL (b := false) rfl Bd12 rfl (xn (M := M) aImages h2 hO.fut x6) rfl (by rintro _ _ _ ⟨x7, x8, x9, k4, rfl, c9, i2, p0⟩; exact hS.ext c9) ?_
 rintro _ A9 ⟨x7, x8, x9, k4, rfl, c9, i2, p0⟩
 obtain ⟨h0, h1, h2, a0, a1, a2, b2, e3⟩ := xt8 c9 h0 h1 h2 a0 a1 a2 b2 e3
 obtain ⟨f9, hC⟩ := xt2 c9 f9 hC
 have hO := Own.join0 hO c9 p0
 have hO := hO.perm (R := k4 ++ (j8 ++ (j1 ++ (i7 ++ (b1 ++ ([a9] ++ ([a8] ++ []))))))) (by simp)
 have hS := hS.ext c9
 refine zI (i := 7) (by kernel_rfl) ?_
 have hO := hO.fr1.fr2
 obtain ⟨r138, y0, hs⟩ := bind_some hs
 refine zL (b := false) rfl Bd19 rfl (we (M := (Less (Less (Less M j1) j8) k4)) (r129.1, r129.2) aK (r132.1, r132.2) r135 (((((Frz.os (Frz.pr Frz.int (Frz.os Frz.int)))).val e3 Less.sub Less.not).sub Less.sub).sub Less.sub) ((((Frz.os (Frz.pr Frz.int (Frz.os Frz.int)))).val (f9.sub Less.sub) Less.sub Less.not).sub Less.sub) (((Frz.os Frz.int)).val ((i2.sub Less.sub).sub Less.sub) Less.sub Less.not) ((hO.less).less).less.fut y0) rfl (by rintro _ _ _ ⟨j9, k0, k1, l6, rfl, c4, i3, p1⟩; exact hS.ext c4) ?_
 rintro _ p2 ⟨j9, k0, k1, l6, rfl, c4, i3, p1⟩
 obtain ⟨h0, h1, h2, a0, a1, a2, b2, e3⟩ := xt8 c4 h0 h1 h2 a0 a1 a2 b2 e3
 obtain ⟨f9, i2, hC⟩ := xt3 c4 f9 i2 hC
 have hO := Own.join0 hO c4 p1
 have hO := hO.perm (R := l6 ++ (j1 ++ (j8 ++ (k4 ++ (i7 ++ (b1 ++ ([a9] ++ ([a8] ++ [])))))))) (by simp)
 have i3 := i3.free (M' := M) (Free.os Free.int)
 have hS := hS.ext c4
 refine xq 8 (.tuple #[(sv j9 k0 k1), (.bool r138.2)]) rfl (zx rfl) hS (xq 9 (sv j9 k0 k1) rfl (zH rfl (by kernel_rfl)) hS (xq 10 (.bool r138.2) rfl (zH rfl (by kernel_rfl)) hS (xq 11 (sv j9 k0 k1) rfl (zA rfl) hS (xq 12 (.bool r138.2) rfl (zA rfl) hS (xe ?_)))))
 clear hS
 refine zd (zd ?_)
 obtain ⟨s140, y1, hs⟩ := bind_some hs
 refine yB (I := fun a p3 => ∃ (σ : Nv), a = fr 145 (ovl σ [(8, (.bool false)), (15, (sv e9 f0 f1)), (18, (iv r109.1)), (19, (iv r111)), (136, (.bool s140))]) ∧ Chg [] p2 p3) ?_ ?_
 ·replace hs := y1
  have hMid := Chg.refl [] p2
  refine ze (ms rfl (ms rfl ?_))
  have hO := hO.fr5.fr1
  obtain ⟨r144, y2, hs⟩ := bind_some hs
  refine zy Bd14 rfl (xt (M := (Less (Less M l6) b1)) r138.1 r37.1 ((((Frz.os Frz.int)).val i3 Less.sub Less.not).sub Less.sub) (((Frz.os Frz.int)).val (a2.sub Less.sub) Less.sub Less.not) (hO.less).less.fut y2) ?_
  rintro _ B0 ⟨rfl, d0⟩
  obtain ⟨h0, h1, h2, a0, a1, a2, b2, e3⟩ := xt8 d0 h0 h1 h2 a0 a1 a2 b2 e3
  obtain ⟨f9, i2, i3, hMid, hC, hO⟩ := xt6 d0 f9 i2 i3 hMid hC hO
  refine za _ (ZA rfl) (mb rfl ?_)
  rcases zf hs with ⟨g9, hs⟩ | ⟨g9, hs⟩
  ·skip
   refine pn 132 (cb g9) (pn 132 (cb g9) (pn 132 (cb g9) (za _ (ptb (cb g9) rfl) (zb ?_))))
   have hO := hO.drop.drop.drop.drop.drop.fr1.drop.fr1.drop
   cases hs
   exact ⟨_, fr_m 145 rfl, hMid⟩
  refine py 132 (.bool r138.2) (cb g9) (zx rfl) (py 132 (.bool r37.2) (cb g9) (zx rfl) (py 132 (.bool (!(r138.2 == r37.2))) (cb g9) (zbF Tryz.underlying4 rfl rfl) (za _ (pfb (cb g9) rfl) (zb ?_))))
  have hO := hO.drop.drop.drop.drop.drop.fr1.drop.fr1.drop
  cases hs
  exact ⟨_, fr_m 145 rfl, hMid⟩
 rintro n6 p3 ⟨σ, rfl, g0⟩
 obtain ⟨a0, a1, a2, b2, e3, f9, i2, i3⟩ := xt8 g0 a0 a1 a2 b2 e3 f9 i2 i3
 obtain ⟨hC, hO⟩ := xt2 g0 hC hO
 rcases zf hs with ⟨l7, hs⟩ | ⟨l7, hs⟩
 ·refine zh (cb l7) (c_sr (ab rfl (zb ?_)))
  have hO := hO.drop.drop.drop.drop.fr1.drop.fr1.drop.fr1.drop
  refine wp_ret ?_
  cases hs
  exact ⟨_, fr_m 145 rfl, hC⟩
 refine zi (cb l7) (wp_skip (c_sr (ai rfl (zb ?_))))
 have hO := hO.drop.drop.drop.drop.fr1.drop.fr1.drop.fr1.drop
 refine c_sr (ms rfl (mi rfl ?_))
 obtain ⟨r148, y3, hs⟩ := bind_some hs
 refine zy Bd17 rfl (wS (M := (Less M i7)) r109.2 1 (((Frz.os Frz.int)).val b2 Less.sub Less.not) hO.less.fut y3) ?_
 rintro _ B1 ⟨rfl, l8⟩
 obtain ⟨b2, hC, hO⟩ := xt3 l8 b2 hC hO
 refine ai rfl (zb ?_)
 have hO := hO.drop
 refine zd (c_sr (mi rfl (za _ (zw rfl rfl) (zb ?_))))
 rcases zf hs with ⟨l9, hs⟩ | ⟨l9, hs⟩
 ·refine zh (cb l9) (c_sr (ab rfl (zb (wp_ret ?_))))
  cases hs
  exact ⟨_, fr_m 145 rfl, hC⟩
 refine zi (cb l9) (wp_skip (zd (c_sr (mi rfl (mi rfl (za (.bool (r148 != r109.1)) (YJ rfl rfl) (zb ?_)))))))
 rcases zf hs with ⟨m0, hs⟩ | ⟨m0, hs⟩
 ·refine zh (cb m0) (c_sr (ab rfl (zb (wp_ret ?_))))
  cases hs
  exact ⟨_, fr_m 145 rfl, hC⟩
 refine zi (cb m0) (wp_skip (c_sr (ab rfl (zb (wp_ret ?_)))))
 cases hs
 exact ⟨_, fr_m 145 rfl, hC⟩

end Go.Proofs
