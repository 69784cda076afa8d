/- What functions of the program compute, as plain functions, and that a call gives just that. Conditions: those named in each theorem. -/
import Derived.Test.YtkbacbikbndakaaGreatF0
set_option linter.unusedVariables false
namespace Go.Proofs
open Go.G Go.RowKit
set_option maxRecDepth 100000

def vt (M : Nat → Prop) (w0 : World) (r : Int) (a : Act) (w : World) : Prop :=
  ∃ (σ : Nat → Value) , a = fr 54 (ovl σ [(6, (.int .i64 r))]) ∧ Chg [] w0 w
def Xg (a_ : Int × (List (Int × (List Int)))) (t : List Int) (at_ : Int) : Option (Int) :=
  (forC (S := Int) (R := Int) (fun k37 s35 =>
  (idx t k37).bind fun x41 =>
  (bif (decide (x41 < 0)) then (idx t k37).bind fun x50 =>
  (yh x50 (w64 (-(a_.2.length : Int))) (-1)).bind fun r53 =>
  (bif (!r53) then some (.rt (-1)) else (idx t k37).bind fun x62 =>
  (idx a_.2 (w64 ((-1) - x62))).bind fun x64 =>
  (bif ((w64 ((w64 (s35 - 1)) + x64.1)) == 0) then some (.rt (w64 (k37 + 1))) else some (.nx (w64 ((w64 (s35 - 1)) + x64.1))))) else (idx t k37).bind fun x68 =>
  (bif (decide (6 ≤ x68)) then some (.rt (-1)) else (bif ((w64 (s35 - 1)) == 0) then some (.rt (w64 (k37 + 1))) else some (.nx (w64 (s35 - 1))))))) at_ (t.length : Int) 1).bind fun o39 => after o39 (fun r_ => some r_) (fun s35 =>
  some (-1))
set_option maxHeartbeats 4000000 in
theorem UW {M : Nat → Prop} {w : World} {pa0 : Option Addr} {pn0 pc0 : Nat} {pa1 : Option Addr} {pn1 pc1 : Nat} (a_ : Int × (List (Int × (List Int)))) (t : List Int) (at_ : Int) (h0 : (RT.rs (RT.pr ri rl)).val M w (.slice pa0 pn0 pc0) a_.2 ([])) (h1 : rl.val M w (.slice pa1 pn1 pc1) t ([])) (hM : ∀ g, w.heap.size ≤ g → M g) {r : Int} (hs : Xg a_ t at_ = some r) :
    Gives Tryz.prog 106 [(.agg #[(iv a_.1), (.slice pa0 pn0 pc0)]), (.slice pa1 pn1 pc1), (iv at_)] w (fun v w' => v = (iv r) ∧ Chg [] w w') := by
 refine zq Tryz.func106 rfl Tryz.ntmps106 (Nat.le_of_ble_eq_true rfl) ?_
 have hO := Own.start (N := Nw w []) hM Nw.fut
 have hC := Chg.refl [] w
 unfold Xg at hs
 refine wp_k (K := (vt M w r)) (by rintro _ _ ⟨σ, rfl, hrest⟩; exact Zc Tryz.results106 (zA rfl) ⟨rfl, hrest⟩) (c_sr ?_)
 obtain ⟨b8, a3, b9, b3, a7, a0⟩ := zi w [(iv a_.1), (.slice pa0 pn0 pc0)] 30
 refine za (w' := b8) (pq a3 0) (Zx rfl (by rw [b9, b3]; kernel_rfl)) ?_
 obtain ⟨h0, h1, hC⟩ := xt3 a7 h0 h1 hC
 have hO := hO.new1 a7 b3 a0.lt
 refine ai rfl (zb (c_sr (ai rfl (zb (zd (c_sr (mi rfl (ai rfl (zb ?_)))))))))
 obtain ⟨o39, c0, hs⟩ := bind_some hs
 refine wp_block (zZ (id := 0) (t.length : Int) (I := fun k37 s35 a a1 => ∃ (σ : Nat → Value), a = fr 54 (ovl σ [(1, (.slice pa1 pn1 pc1)), (3, (pq a3 0)), (7, (iv s35)), (8, (iv k37))]) ∧ Chg [] w a1 ∧ Own (Nw w []) M a1 (([a3]) ++ []) ∧ (RT.rs (RT.pr ri rl)).val M a1 (.slice pa0 pn0 pc0) a_.2 ([]) ∧ rl.val M a1 (.slice pa1 pn1 pc1) t ([]) ∧ BoxV a1 a3 30 [(iv a_.1), (.slice pa0 pn0 pc0)]) (J := fun s35 a a1 => ∃ (σ : Nat → Value), a = fr 54 (ovl σ []) ∧ Chg [] w a1 ∧ Own (Nw w []) M a1 (([a3]) ++ []) ∧ (RT.rs (RT.pr ri rl)).val M a1 (.slice pa0 pn0 pc0) a_.2 ([]) ∧ rl.val M a1 (.slice pa1 pn1 pc1) t ([]) ∧ BoxV a1 a3 30 [(iv a_.1), (.slice pa0 pn0 pc0)]) (K := (vt M w)) ?_ ?_ at_ 1 o39 _ _ ?_ c0 ?_)
 ·rintro k37 s35 a a1 ⟨σ, rfl, hC, hO, h0, h1, a0⟩ hlt
  refine zd (c_sr (mi rfl (ms rfl (za _ (zn Sl34 (zx h1) rfl) (za _ (zz rfl rfl) (zb (zh (cb (decide_eq_false hlt)) (wp_exit ?_))))))))
  exact ⟨rfl, _, zF 54 trivial, hC, hO, h0, h1, a0⟩
 ·rintro k37 s35 o39 a a1 ⟨σ, rfl, hC, hO, h0, h1, a0⟩ hlt hw hs
  refine zd (c_sr (mi rfl (ms rfl (za _ (zn Sl34 (zx h1) rfl) (za _ (zz rfl rfl) (zb (zg (cb (decide_eq_true hlt)) (wp_skip (zd (wp_block (c_sr (mi rfl (za _ (ysu rfl rfl) (ai rfl (zb (zd (c_sr (ms rfl (mi rfl ?_)))))))))))))))))))
  obtain ⟨x41, c1, hs⟩ := bind_some hs
  obtain ⟨c2, c3, c4, c5⟩ := zJ Sl34 Sz3 h1 c1
  refine za _ (c4 _ _ _ _ _ _ _ _ _ rfl rfl) (za (iv x41) (zp rfl ((zo Ag3 Sz3 c5) _ (Chg.refl _ _))) (za _ (zz rfl rfl) (zb ?_)))
  rcases zf hs with ⟨a8, hs⟩ | ⟨a8, hs⟩
  ·refine zg (cb a8) (zd (zd (zX [] Mx rfl ?_)))
   have a5 := Chg.drew a1
   generalize World.drew a1 = c6 at a5 ⊢
   obtain ⟨h0, h1, a0, hC, hO⟩ := xt5 a5 h0 h1 a0 hC hO
   have hS := Chg.refl [] c6
   refine xms 0 rfl rfl hS (xmi 1 rfl rfl hS ?_)
   obtain ⟨x50, c7, hs⟩ := bind_some hs
   obtain ⟨c8, c9, d0, a6⟩ := zJ Sl34 Sz3 h1 c7
   refine xq 2 _ rfl (d0 _ _ _ _ _ _ _ _ _ rfl rfl) hS (x_l 3 (iv x50) rfl (by kernel_rfl)  (fun w' hw' => zp rfl ((zo Ag3 Sz3 a6) w' hw')) hS (xq 4 (pq a3 1) rfl (zj rfl Zs) hS (xl 5 rfl (ldx rfl Ag28 Sz28 a0 rfl) hS (xq 6 _ rfl (zn Sl28 (zx h0) rfl) hS (xq 7 (iv (w64 (-(a_.2.length : Int)))) rfl (y_neg rfl) hS (zM (i := 8) (by kernel_rfl) ?_))))))
   obtain ⟨r53, d1, hs⟩ := bind_some hs
   refine zV (b := false) rfl  Bd72 rfl (YI (M := M) x50 (w64 (-(a_.2.length : Int))) (-1)  hO.fut d1) rfl (by rintro _ _ _ ⟨rfl, a2⟩; exact hS.ext a2) ?_
   rintro _ b4 ⟨rfl, a2⟩
   obtain ⟨h0, h1, a0, a6, hC, hO, hS⟩ := xt7 a2 h0 h1 a0 a6 hC hO hS
   refine xq 9 _ rfl (Zy rfl) hS (Za (by kernel_rfl) ?_)
   clear hS
   rcases zf hs with ⟨a9, hs⟩ | ⟨a9, hs⟩
   ·refine zg (cb a9) (c_sr (ai rfl (zb (wp_ret ?_))))
    cases hs
    exact ⟨_, fr_m 54 rfl, hC⟩
   refine zh (cb a9) (wp_skip (zX [] Mx rfl ?_))
   have a4 := Chg.drew b4
   generalize World.drew b4 = d2 at a4 ⊢
   obtain ⟨h0, h1, a0, a6, hC, hO⟩ := xt6 a4 h0 h1 a0 a6 hC hO
   have hS := Chg.refl [] d2
   refine xmi 0 rfl rfl hS (xq 1 (pq a3 1) rfl (zj rfl Zs) hS (xl 2 rfl (ldx rfl Ag28 Sz28 a0 rfl) hS (xms 3 rfl rfl hS (xmi 4 rfl rfl hS ?_))))
   obtain ⟨x62, d3, hs⟩ := bind_some hs
   obtain ⟨d4, d5, d6, d7⟩ := zJ Sl34 Sz3 h1 d3
   refine xq 5 _ rfl (d6 _ _ _ _ _ _ _ _ _ rfl rfl) hS (x_l 6 (iv x62) rfl (by kernel_rfl)  (fun w' hw' => zp rfl ((zo Ag3 Sz3 d7) w' hw')) hS (xq 7 _ rfl (ysu rfl rfl) hS ?_))
   obtain ⟨x64, d8, hs⟩ := bind_some hs
   obtain ⟨b5, b6, d9, e0⟩ := zJ Sl28 Sz77 h0 d8
   refine xq 8 _ rfl (d9 _ _ _ _ _ _ _ _ _ rfl rfl) hS ?_
   obtain ⟨e1, _⟩ := XM e0
   refine xq 9 (.pointer (some ⟨b5, b6 + 0, none⟩)) rfl (zj rfl yf) hS (x_l 10 (iv x64.1) rfl (by kernel_rfl)  (fun w' hw' => zp rfl ((zo Ag3 Sz3 e1) w' hw')) hS (xq 11 _ rfl (yad rfl rfl) hS (xq 12 (iv (w64 ((w64 (s35 - 1)) + x64.1))) rfl (zD rfl) hS (Za (by kernel_rfl) ?_))))
   clear hS
   refine c_sr (mi rfl (za (.bool ((w64 ((w64 (s35 - 1)) + x64.1)) == 0)) (xe rfl rfl) (zb ?_)))
   rcases zf hs with ⟨b0, hs⟩ | ⟨b0, hs⟩
   ·refine zg (cb b0) (c_sr (mi rfl (za _ (yad rfl rfl) (ai rfl (zb (wp_ret ?_))))))
    cases hs
    exact ⟨_, fr_m 54 rfl, hC⟩
   refine zh (cb b0) (wp_skip (ze (mi rfl (za _ (yad rfl rfl) (ai rfl (zb ?_))))))
   cases hs
   exact ⟨_, zF 54 ⟨rfl, rfl, rfl, congrArg (Value.int .i64) hw, trivial⟩, hC, hO, h0, h1, a0⟩
  refine zh (cb a8) (c_sr (ms rfl (mi rfl ?_)))
  obtain ⟨x68, e2, hs⟩ := bind_some hs
  obtain ⟨e3, e4, e5, e6⟩ := zJ Sl34 Sz3 h1 e2
  refine za _ (e5 _ _ _ _ _ _ _ _ _ rfl rfl) (za (iv x68) (zp rfl ((zo Ag3 Sz3 e6) _ (Chg.refl _ _))) (za _ (YR rfl rfl) (zb ?_)))
  rcases zf hs with ⟨b1, hs⟩ | ⟨b1, hs⟩
  ·refine zg (cb b1) (c_sr (ai rfl (zb (wp_ret ?_))))
   cases hs
   exact ⟨_, fr_m 54 rfl, hC⟩
  refine zh (cb b1) (wp_skip (c_sr (mi rfl (za (.bool ((w64 (s35 - 1)) == 0)) (xe rfl rfl) (zb ?_)))))
  rcases zf hs with ⟨b2, hs⟩ | ⟨b2, hs⟩
  ·refine zg (cb b2) (c_sr (mi rfl (za _ (yad rfl rfl) (ai rfl (zb (wp_ret ?_))))))
   cases hs
   exact ⟨_, fr_m 54 rfl, hC⟩
  refine zh (cb b2) (wp_skip (ze (mi rfl (za _ (yad rfl rfl) (ai rfl (zb ?_))))))
  cases hs
  exact ⟨_, zF 54 ⟨rfl, rfl, rfl, congrArg (Value.int .i64) hw, trivial⟩, hC, hO, h0, h1, a0⟩
 ·skip
  exact ⟨_, fr_m 54 rfl, hC, hO, h0, h1, a0⟩
 cases o39 with
 | nx _ => exact True.intro
 | rt r_ =>
  have hs := zu hs
  intro e7 b7 hK
  cases hs
  exact hK
 | br s35 =>
  have hs := zt hs
  rintro e7 a1 ⟨σ, rfl, hC, hO, h0, h1, a0⟩
  refine c_sr (ai rfl (zb (wp_ret ?_)))
  cases hs
  exact ⟨_, fr_m 54 rfl, hC⟩

theorem Bd106 : zE Tryz.prog 106 := zH Tryz.func106 (by kernel_rfl) rfl

def uJ (M : Nat → Prop) (w0 : World) (r : Bool) (a : Act) (w : World) : Prop :=
  ∃ (σ : Nat → Value) , a = fr 21 (ovl σ [(4, (.bool r))]) ∧ Chg [] w0 w
def YZ (a_ : Int × (List (Int × (List Int)))) (t : List Int) : Option (Bool) :=
  (bif (decide (0 < (t.length : Int))) then (bif (decide ((t.length : Int) ≤ 60)) then (Xg (a_.1, a_.2) t 0).bind fun r7 =>
  some (r7 == (t.length : Int)) else some false) else some false)
set_option maxHeartbeats 4000000 in
theorem uL {M : Nat → Prop} {w : World} {pa0 : Option Addr} {pn0 pc0 : Nat} {pa1 : Option Addr} {pn1 pc1 : Nat} (a_ : Int × (List (Int × (List Int)))) (t : List Int) (h0 : (RT.rs (RT.pr ri rl)).val M w (.slice pa0 pn0 pc0) a_.2 ([])) (h1 : rl.val M w (.slice pa1 pn1 pc1) t ([])) (hM : ∀ g, w.heap.size ≤ g → M g) {r : Bool} (hs : YZ a_ t = some r) :
    Gives Tryz.prog 94 [(.agg #[(iv a_.1), (.slice pa0 pn0 pc0)]), (.slice pa1 pn1 pc1)] w (fun v w' => v = (.bool r) ∧ Chg [] w w') := by
 refine zq Tryz.func94 rfl Tryz.ntmps94 (Nat.le_of_ble_eq_true rfl) ?_
 have hO := Own.start (N := Nw w []) hM Nw.fut
 have hC := Chg.refl [] w
 unfold YZ at hs
 refine wp_k (K := (uJ M w r)) (by rintro _ _ ⟨σ, rfl, hrest⟩; exact Zc Tryz.results94 (zA rfl) ⟨rfl, hrest⟩) (c_sr ?_)
 obtain ⟨a6, a7, a8, a5, a3, a4⟩ := zi w [(iv a_.1), (.slice pa0 pn0 pc0)] 30
 refine za (w' := a6) (pq a7 0) (Zx rfl (by rw [a8, a5]; kernel_rfl)) ?_
 obtain ⟨h0, h1, hC⟩ := xt3 a3 h0 h1 hC
 have hO := hO.new1 a3 a5 a4.lt
 refine ab rfl (zb (c_sr (ms rfl (za _ (zn Sl34 (zx h1) rfl) (za _ (YB rfl rfl) (mb rfl ?_))))))
 rcases zf hs with ⟨a1, hs⟩ | ⟨a1, hs⟩
 ·skip
  refine py 8 (.slice pa1 pn1 pc1) (cb a1) (zr rfl) (py 8 _ (cb a1) (zn Sl34 (zx h1) rfl) (py 8 _ (cb a1) (Xs rfl rfl) (za _ (ptb (cb a1) rfl) (mb rfl ?_))))
  rcases zf hs with ⟨a0, hs⟩ | ⟨a0, hs⟩
  ·skip
   refine py 13 _ (cb a0) (ldw rfl Ag30 a4 Sz30) (py 13 (.slice pa1 pn1 pc1) (cb a0) (zr rfl) ?_)
   obtain ⟨r7, a9, hs⟩ := bind_some hs
   refine Ya (tg := 13) (by kernel_rfl) (cb a0) Bd106 rfl (UW (M := M) (a_.1, a_.2) t 0 h0 h1 hO.fut a9) ?_
   rintro _ b1 ⟨rfl, a2⟩
   obtain ⟨h0, h1, a4, hC, hO⟩ := xt5 a2 h0 h1 a4 hC hO
   refine py 13 (.slice pa1 pn1 pc1) (cb a0) (zr rfl) (py 13 _ (cb a0) (zn Sl34 (zx h1) rfl) (py 13 (.bool (r7 == (t.length : Int))) (cb a0) (xe rfl rfl) (za _ (ptb (cb a0) rfl) (ab rfl (zb (wp_ret ?_))))))
   cases hs
   exact ⟨_, fr_m 21 rfl, hC⟩
  refine pn 13 (cb a0) (pn 13 (cb a0) (pn 13 (cb a0) (pn 13 (cb a0) (pn 13 (cb a0) (pn 13 (cb a0) (za _ (pfb (cb a0) rfl) (ab rfl (zb (wp_ret ?_)))))))))
  cases hs
  exact ⟨_, fr_m 21 rfl, hC⟩
 refine pn 8 (cb a1) (pn 8 (cb a1) (pn 8 (cb a1) (za _ (pfb (cb a1) rfl) (mb rfl (pn 13 (by rfl) (pn 13 (by rfl) (pn 13 (by rfl) (pn 13 (by rfl) (pn 13 (by rfl) (pn 13 (by rfl) (za _ (pfb (by rfl) rfl) (ab rfl (zb (wp_ret ?_))))))))))))))
 cases hs
 exact ⟨_, fr_m 21 rfl, hC⟩

def Ww (M : Nat → Prop) (w0 : World) (r : Bool) (a : Act) (w : World) : Prop :=
  ∃ (σ : Nat → Value) , a = fr 18 (ovl σ [(4, (.bool r))]) ∧ Chg [] w0 w
def xb (t : List Int) (n : Int) : Option (Bool) :=
  (forC (S := Unit) (R := Bool) (fun k7 s5 =>
  (idx t k7).bind fun x11 =>
  (bif (decide (n ≤ x11)) then some (.rt false) else some (.nx ()))) 0 (t.length : Int) ()).bind fun o9 => after o9 (fun r_ => some r_) (fun s5 =>
  some true)
set_option maxHeartbeats 4000000 in
theorem uS {M : Nat → Prop} {w : World} {pa0 : Option Addr} {pn0 pc0 : Nat} (t : List Int) (n : Int) (h0 : rl.val M w (.slice pa0 pn0 pc0) t ([])) (hM : ∀ g, w.heap.size ≤ g → M g) {r : Bool} (hs : xb t n = some r) :
    Gives Tryz.prog 95 [(.slice pa0 pn0 pc0), (iv n)] w (fun v w' => v = (.bool r) ∧ Chg [] w w') := by
 refine zq Tryz.func95 rfl Tryz.ntmps95 (Nat.le_of_ble_eq_true rfl) ?_
 have hO := Own.start (N := Nw w []) hM Nw.fut
 have hC := Chg.refl [] w
 unfold xb at hs
 refine wp_k (K := (Ww M w r)) (by rintro _ _ ⟨σ, rfl, hrest⟩; exact Zc Tryz.results95 (zA rfl) ⟨rfl, hrest⟩) (c_sr (ab rfl (zb (zd (c_sr (ai rfl (zb ?_)))))))
 obtain ⟨o9, a3, hs⟩ := bind_some hs
 refine wp_block (zZ (id := 0) (t.length : Int) (I := fun k7 s5 a a0 => ∃ (σ : Nat → Value), a = fr 18 (ovl σ [(0, (.slice pa0 pn0 pc0)), (1, (iv n)), (5, (iv k7))]) ∧ Chg [] w a0 ∧ Own (Nw w []) M a0 ([]) ∧ rl.val M a0 (.slice pa0 pn0 pc0) t ([])) (J := fun s5 a a0 => ∃ (σ : Nat → Value), a = fr 18 (ovl σ []) ∧ Chg [] w a0 ∧ Own (Nw w []) M a0 ([]) ∧ rl.val M a0 (.slice pa0 pn0 pc0) t ([])) (K := (Ww M w)) ?_ ?_ 0 () o9 _ _ ?_ a3 ?_)
 ·rintro k7 s5 a a0 ⟨σ, rfl, hC, hO, h0⟩ hlt
  refine zd (c_sr (mi rfl (ms rfl (za _ (zn Sl34 (zx h0) rfl) (za _ (zz rfl rfl) (zb (zh (cb (decide_eq_false hlt)) (wp_exit ?_))))))))
  exact ⟨rfl, _, zF 18 trivial, hC, hO, h0⟩
 ·rintro k7 s5 o9 a a0 ⟨σ, rfl, hC, hO, h0⟩ hlt hw hs
  refine zd (c_sr (mi rfl (ms rfl (za _ (zn Sl34 (zx h0) rfl) (za _ (zz rfl rfl) (zb (zg (cb (decide_eq_true hlt)) (wp_skip (zd (wp_block (c_sr (ms rfl (mi rfl ?_)))))))))))))
  obtain ⟨x11, a4, hs⟩ := bind_some hs
  obtain ⟨a5, a6, a7, a8⟩ := zJ Sl34 Sz3 h0 a4
  refine za _ (a7 _ _ _ _ _ _ _ _ _ rfl rfl) (za (iv x11) (zp rfl ((zo Ag3 Sz3 a8) _ (Chg.refl _ _))) (mi rfl (za _ (YR rfl rfl) (zb ?_))))
  rcases zf hs with ⟨a1, hs⟩ | ⟨a1, hs⟩
  ·refine zg (cb a1) (c_sr (ab rfl (zb (wp_ret ?_))))
   cases hs
   exact ⟨_, fr_m 18 rfl, hC⟩
  refine zh (cb a1) (wp_skip (ze (mi rfl (za _ (yad rfl rfl) (ai rfl (zb ?_))))))
  cases hs
  exact ⟨_, zF 18 ⟨rfl, rfl, congrArg (Value.int .i64) hw, trivial⟩, hC, hO, h0⟩
 ·skip
  exact ⟨_, fr_m 18 rfl, hC, hO, h0⟩
 cases o9 with
 | nx _ => exact True.intro
 | rt r_ =>
  have hs := zu hs
  intro a9 a2 hK
  cases hs
  exact hK
 | br s5 =>
  have hs := zt hs
  rintro a9 a0 ⟨σ, rfl, hC, hO, h0⟩
  refine c_sr (ab rfl (zb (wp_ret ?_)))
  cases hs
  exact ⟨_, fr_m 18 rfl, hC⟩

theorem Bd94 : zE Tryz.prog 94 := zH Tryz.func94 (by kernel_rfl) rfl

theorem Bd95 : zE Tryz.prog 95 := zH Tryz.func95 (by kernel_rfl) rfl

def uv (M : Nat → Prop) (w0 : World) (r : Bool) (a : Act) (w : World) : Prop :=
  ∃ (σ : Nat → Value) , a = fr 15 (ovl σ [(6, (.bool r))]) ∧ Chg [] w0 w
def YG (a_ : Int × (List (Int × (List Int)))) (k : Int) (t : List Int) : Option (Bool) :=
  (YZ (a_.1, a_.2) t).bind fun r5 =>
  (bif r5 then (xb t k).bind fun r8 =>
  some r8 else some false)
set_option maxHeartbeats 4000000 in
theorem VM {M : Nat → Prop} {w : World} {pa0 : Option Addr} {pn0 pc0 : Nat} {pa1 : Option Addr} {pn1 pc1 : Nat} (a_ : Int × (List (Int × (List Int)))) (k : Int) (t : List Int) (h0 : (RT.rs (RT.pr ri rl)).val M w (.slice pa0 pn0 pc0) a_.2 ([])) (h1 : rl.val M w (.slice pa1 pn1 pc1) t ([])) (hM : ∀ g, w.heap.size ≤ g → M g) {r : Bool} (hs : YG a_ k t = some r) :
    Gives Tryz.prog 67 [(.agg #[(iv a_.1), (.slice pa0 pn0 pc0)]), (iv k), (.slice pa1 pn1 pc1)] w (fun v w' => v = (.bool r) ∧ Chg [] w w') := by
 refine zq Tryz.func67 rfl Tryz.ntmps67 (Nat.le_of_ble_eq_true rfl) ?_
 have hO := Own.start (N := Nw w []) hM Nw.fut
 have hC := Chg.refl [] w
 unfold YG at hs
 refine wp_k (K := (uv M w r)) (by rintro _ _ ⟨σ, rfl, hrest⟩; exact Zc Tryz.results67 (zA rfl) ⟨rfl, hrest⟩) (c_sr ?_)
 obtain ⟨a6, a7, a8, a5, a4, a1⟩ := zi w [(iv a_.1), (.slice pa0 pn0 pc0)] 30
 refine za (w' := a6) (pq a7 0) (Zx rfl (by rw [a8, a5]; kernel_rfl)) ?_
 obtain ⟨h0, h1, hC⟩ := xt3 a4 h0 h1 hC
 have hO := hO.new1 a4 a5 a1.lt
 refine ab rfl (zb (c_sr (za _ (ldw rfl Ag30 a1 Sz30) (ms rfl ?_))))
 obtain ⟨r5, a9, hs⟩ := bind_some hs
 refine zw Bd94 rfl (uL (M := M) (a_.1, a_.2) t h0 h1 hO.fut a9) ?_
 rintro _ b2 ⟨rfl, a2⟩
 obtain ⟨h0, h1, a1, hC, hO⟩ := xt5 a2 h0 h1 a1 hC hO
 refine mb rfl ?_
 rcases zf hs with ⟨a0, hs⟩ | ⟨a0, hs⟩
 ·skip
  refine py 10 (.slice pa1 pn1 pc1) (cb a0) (zr rfl) (py 10 (iv k) (cb a0) (zr rfl) ?_)
  obtain ⟨r8, b0, hs⟩ := bind_some hs
  refine Ya (tg := 10) (by kernel_rfl) (cb a0) Bd95 rfl (uS (M := M) t k h1 hO.fut b0) ?_
  rintro _ b3 ⟨rfl, a3⟩
  obtain ⟨h0, h1, a1, hC, hO⟩ := xt5 a3 h0 h1 a1 hC hO
  refine za _ (ptb (cb a0) rfl) (ab rfl (zb (wp_ret ?_)))
  cases hs
  exact ⟨_, fr_m 15 rfl, hC⟩
 refine pn 10 (cb a0) (pn 10 (cb a0) (pn 10 (cb a0) (za _ (pfb (cb a0) rfl) (ab rfl (zb (wp_ret ?_))))))
 cases hs
 exact ⟨_, fr_m 15 rfl, hC⟩

def wV (M : Nat → Prop) (w0 : World) (r : Int) (a : Act) (w : World) : Prop :=
  ∃ (σ : Nat → Value) , a = fr 33 (ovl σ [(6, (.int .i64 r))]) ∧ Chg [] w0 w
def YE (a_ : Int × (List (Int × (List Int)))) (op : Int) (args : List Int) : Option (Int) :=
  (forC (S := Int) (R := Int) (fun k9 s7 =>
  (idx args k9).bind fun x14 =>
  some (.nx (w64 ((w64 (s7 * a_.1)) + x14)))) 0 (args.length : Int) 0).bind fun o11 => after o11 (fun r_ => some r_) (fun s7 =>
  (idx a_.2 op).bind fun x16 =>
  (idx x16.2 s7).bind fun x21 =>
  some x21)
set_option maxHeartbeats 4000000 in
theorem uw {M : Nat → Prop} {w : World} {pa0 : Option Addr} {pn0 pc0 : Nat} {pa1 : Option Addr} {pn1 pc1 : Nat} (a_ : Int × (List (Int × (List Int)))) (op : Int) (args : List Int) (h0 : (RT.rs (RT.pr ri rl)).val M w (.slice pa0 pn0 pc0) a_.2 ([])) (h1 : rl.val M w (.slice pa1 pn1 pc1) args ([])) (hM : ∀ g, w.heap.size ≤ g → M g) {r : Int} (hs : YE a_ op args = some r) :
    Gives Tryz.prog 53 [(.agg #[(iv a_.1), (.slice pa0 pn0 pc0)]), (iv op), (.slice pa1 pn1 pc1)] w (fun v w' => v = (iv r) ∧ Chg [] w w') := by
 refine zq Tryz.func53 rfl Tryz.ntmps53 (Nat.le_of_ble_eq_true rfl) ?_
 have hO := Own.start (N := Nw w []) hM Nw.fut
 have hC := Chg.refl [] w
 unfold YE at hs
 refine wp_k (K := (wV M w r)) (by rintro _ _ ⟨σ, rfl, hrest⟩; exact Zc Tryz.results53 (zA rfl) ⟨rfl, hrest⟩) (c_sr ?_)
 obtain ⟨b0, a2, b1, a5, a4, a1⟩ := zi w [(iv a_.1), (.slice pa0 pn0 pc0)] 30
 refine za (w' := b0) (pq a2 0) (Zx rfl (by rw [b1, a5]; kernel_rfl)) ?_
 obtain ⟨h0, h1, hC⟩ := xt3 a4 h0 h1 hC
 have hO := hO.new1 a4 a5 a1.lt
 refine ai rfl (zb (c_sr (ai rfl (zb (zd (c_sr (ai rfl (zb ?_))))))))
 obtain ⟨o11, b2, hs⟩ := bind_some hs
 refine wp_block (zZ (id := 0) (args.length : Int) (I := fun k9 s7 a a0 => ∃ (σ : Nat → Value), a = fr 33 (ovl σ [(1, (iv op)), (2, (.slice pa1 pn1 pc1)), (3, (pq a2 0)), (7, (iv s7)), (8, (iv k9))]) ∧ Chg [] w a0 ∧ Own (Nw w []) M a0 (([a2]) ++ []) ∧ (RT.rs (RT.pr ri rl)).val M a0 (.slice pa0 pn0 pc0) a_.2 ([]) ∧ rl.val M a0 (.slice pa1 pn1 pc1) args ([]) ∧ BoxV a0 a2 30 [(iv a_.1), (.slice pa0 pn0 pc0)]) (J := fun s7 a a0 => ∃ (σ : Nat → Value), a = fr 33 (ovl σ [(1, (iv op)), (3, (pq a2 0)), (7, (iv s7))]) ∧ Chg [] w a0 ∧ Own (Nw w []) M a0 (([a2]) ++ []) ∧ (RT.rs (RT.pr ri rl)).val M a0 (.slice pa0 pn0 pc0) a_.2 ([]) ∧ rl.val M a0 (.slice pa1 pn1 pc1) args ([]) ∧ BoxV a0 a2 30 [(iv a_.1), (.slice pa0 pn0 pc0)]) (K := (wV M w)) ?_ ?_ 0 0 o11 _ _ ?_ b2 ?_)
 ·rintro k9 s7 a a0 ⟨σ, rfl, hC, hO, h0, h1, a1⟩ hlt
  refine zd (c_sr (mi rfl (ms rfl (za _ (zn Sl34 (zx h1) rfl) (za _ (zz rfl rfl) (zb (zh (cb (decide_eq_false hlt)) (wp_exit ?_))))))))
  exact ⟨rfl, _, fr_m 33 rfl, hC, hO, h0, h1, a1⟩
 ·rintro k9 s7 o11 a a0 ⟨σ, rfl, hC, hO, h0, h1, a1⟩ hlt hw hs
  refine zd (c_sr (mi rfl (ms rfl (za _ (zn Sl34 (zx h1) rfl) (za _ (zz rfl rfl) (zb (zg (cb (decide_eq_true hlt)) (wp_skip (zd (wp_block (zX [] Mx rfl ?_)))))))))))
  have a3 := Chg.drew a0
  generalize World.drew a0 = b3 at a3 ⊢
  obtain ⟨h0, h1, a1, hC, hO⟩ := xt5 a3 h0 h1 a1 hC hO
  have hS := Chg.refl [] b3
  refine xmi 0 rfl rfl hS (xq 1 (pq a2 0) rfl (zj rfl yG) hS (xl 2 rfl (ldx rfl Ag3 Sz3 a1 rfl) hS (xq 3 _ rfl (ymu rfl rfl) hS (xms 4 rfl rfl hS (xmi 5 rfl rfl hS ?_)))))
  obtain ⟨x14, b4, hs⟩ := bind_some hs
  obtain ⟨b5, b6, b7, b8⟩ := zJ Sl34 Sz3 h1 b4
  refine xq 6 _ rfl (b7 _ _ _ _ _ _ _ _ _ rfl rfl) hS (x_l 7 (iv x14) rfl (by kernel_rfl)  (fun w' hw' => zp rfl ((zo Ag3 Sz3 b8) w' hw')) hS (xq 8 _ rfl (yad rfl rfl) hS (xq 9 (iv (w64 ((w64 (s7 * a_.1)) + x14))) rfl (zD rfl) hS (Za (by kernel_rfl) ?_))))
  clear hS
  refine ze (mi rfl (za _ (yad rfl rfl) (ai rfl (zb ?_))))
  cases hs
  exact ⟨_, zF 33 ⟨rfl, rfl, rfl, rfl, congrArg (Value.int .i64) hw, trivial⟩, hC, hO, h0, h1, a1⟩
 ·skip
  exact ⟨_, fr_m 33 rfl, hC, hO, h0, h1, a1⟩
 cases o11 with
 | nx _ => exact True.intro
 | rt r_ =>
  have hs := zu hs
  intro b9 a9 hK
  cases hs
  exact hK
 | br s7 =>
  have hs := zt hs
  rintro b9 a0 ⟨σ, rfl, hC, hO, h0, h1, a1⟩
  refine c_sr (za (pq a2 1) (zj rfl Zs) (za _ (ld rfl Ag28 Sz28 a1 rfl) (mi rfl ?_)))
  obtain ⟨x16, c0, hs⟩ := bind_some hs
  obtain ⟨a6, a7, c1, c2⟩ := zJ Sl28 Sz77 h0 c0
  refine za _ (c1 _ _ _ _ _ _ _ _ _ rfl rfl) ?_
  obtain ⟨_, c3⟩ := XM c2
  refine za (.pointer (some ⟨a6, a7 + 1, none⟩)) (zj rfl xF) ?_
  obtain ⟨d3, c4, a8⟩ := Zp Ag34 Sz34 (fun _ => rfl) c3
  obtain ⟨c5, c6, c7, rfl⟩ := yn a8
  refine za (.slice c5 c6 c7) (zp rfl (c4 _ (Chg.refl _ _))) (mi rfl ?_)
  obtain ⟨x21, c8, hs⟩ := bind_some hs
  obtain ⟨c9, d0, d1, d2⟩ := zJ Sl34 Sz3 a8 c8
  refine za _ (d1 _ _ _ _ _ _ _ _ _ rfl rfl) (za (iv x21) (zp rfl ((zo Ag3 Sz3 d2) _ (Chg.refl _ _))) (ai rfl (zb (wp_ret ?_))))
  cases hs
  exact ⟨_, fr_m 33 rfl, hC⟩

theorem Bd53 : zE Tryz.prog 53 := zH Tryz.func53 (by kernel_rfl) rfl

def XA (M : Nat → Prop) (w0 : World) (r : Int) (a : Act) (w : World) : Prop :=
  ∃ (σ : Nat → Value) , a = fr 79 (ovl σ [(6, (.int .i64 r))]) ∧ Chg [] w0 w
def YF (a_ : Int × (List (Int × (List Int)))) (t : List Int) (values : List Int) : Option (Int) :=
  (iter (S := (List Int) × Int) (R := Int) (fun s75 =>
  (bif (decide (0 ≤ s75.2)) then (idx t s75.2).bind fun x86 =>
  (bif (decide (0 ≤ x86)) then (idx t s75.2).bind fun x89 =>
  (idx values x89).bind fun x91 =>
  (app s75.1 ([x91])).bind fun y96 =>
  some (.nx (y96, w64 (s75.2 - 1))) else (idx t s75.2).bind fun x98 =>
  (iter (S := (List Int) × Int) (R := Int) (fun s115 =>
  (idx a_.2 (w64 ((-1) - x98))).bind fun x125 =>
  (bif (decide (s115.2 < x125.1)) then (idx s75.1 (w64 ((w64 ((s75.1.length : Int) - 1)) - s115.2))).bind fun x129 =>
  (app s115.1 ([x129])).bind fun y134 =>
  some (.nx (y134, w64 (s115.2 + 1))) else some (.br (s115.1, s115.2)))) FU ([], 0)).bind fun o119 => after o119 (fun r_ => some (.rt r_)) (fun s115 =>
  (slc s75.1 0 (w64 ((s75.1.length : Int) - (s115.1.length : Int)))).bind fun y138 =>
  (yM y138).bind fun r141 =>
  (YE (a_.1, a_.2) (w64 ((-1) - x98)) s115.1).bind fun r144 =>
  (app r141 ([r144])).bind fun y148 =>
  some (.nx (y148, w64 (s75.2 - 1))))) else some (.br (s75.1, s75.2)))) FU ([], w64 ((t.length : Int) - 1))).bind fun o79 => after o79 (fun r_ => some r_) (fun s75 =>
  (idx s75.1 0).bind fun x150 =>
  some x150)
set_option maxHeartbeats 4000000 in
theorem VK {M : Nat → Prop} {w : World} {pa0 : Option Addr} {pn0 pc0 : Nat} {pa1 : Option Addr} {pn1 pc1 : Nat} {pa2 : Option Addr} {pn2 pc2 : Nat} (a_ : Int × (List (Int × (List Int)))) (t : List Int) (values : List Int) (h0 : (RT.rs (RT.pr ri rl)).val M w (.slice pa0 pn0 pc0) a_.2 ([])) (h1 : rl.val M w (.slice pa1 pn1 pc1) t ([])) (h2 : rl.val M w (.slice pa2 pn2 pc2) values ([])) (hM : ∀ g, w.heap.size ≤ g → M g) {r : Int} (hs : YF a_ t values = some r) :
    Gives Tryz.prog 48 [(.agg #[(iv a_.1), (.slice pa0 pn0 pc0)]), (.slice pa1 pn1 pc1), (.slice pa2 pn2 pc2)] w (fun v w' => v = (iv r) ∧ Chg [] w w') := by
 refine zq Tryz.func48 rfl Tryz.ntmps48 (Nat.le_of_ble_eq_true rfl) ?_
 have hO := Own.start (N := Nw w []) hM Nw.fut
 have hC := Chg.refl [] w
 unfold YF at hs
 refine wp_k (K := (XA M w r)) (by rintro _ _ ⟨σ, rfl, hrest⟩; exact Zc Tryz.results48 (zA rfl) ⟨rfl, hrest⟩) (c_sr ?_)
 obtain ⟨h4, a4, j6, h5, c7, a0⟩ := zi w [(iv a_.1), (.slice pa0 pn0 pc0)] 30
 refine za (w' := h4) (pq a4 0) (Zx rfl (by rw [j6, h5]; kernel_rfl)) ?_
 obtain ⟨h0, h1, h2, hC⟩ := xt4 c7 h0 h1 h2 hC
 have hO := hO.new1 c7 h5 a0.lt
 refine ai rfl (zb (c_sr ?_))
 obtain ⟨h6, c2, j7, h7, c3, h8⟩ := zi h4 [] 3
 refine za (w' := h6) (.slice (some ⟨c2, 0, none⟩) 0 0) (zC rfl (by rw [j7, h7]; kernel_rfl)) ?_
 obtain ⟨h0, h1, h2, a0, hC⟩ := xt5 c3 h0 h1 h2 a0 hC
 have hO := hO.new1 c3 h7 h8.lt
 have e1 := os0 (r := ri) (M := M) h8
 refine ax rfl (zb (zd (c_sr (ms rfl (za _ (zn Sl34 (zx h1) rfl) (za _ (ysu rfl rfl) (ai rfl (zb ?_))))))))
 obtain ⟨o79, j8, hs⟩ := bind_some hs
 refine wp_block (Zo (id := 0) (I := fun s75 a a3 => ∃ (σ : Nat → Value) (a5 : Option Addr) (a6 : Nat) (a7 : Nat) (b2 : List Nat), a = fr 79 (ovl σ [(1, (.slice pa1 pn1 pc1)), (2, (.slice pa2 pn2 pc2)), (3, (pq a4 0)), (7, (.slice a5 a6 a7)), (8, (iv s75.2))]) ∧ Chg [] w a3 ∧ Own (Nw w []) M a3 (b2 ++ (([a4]) ++ [])) ∧ (RT.rs (RT.pr ri rl)).val M a3 (.slice pa0 pn0 pc0) a_.2 ([]) ∧ rl.val M a3 (.slice pa1 pn1 pc1) t ([]) ∧ rl.val M a3 (.slice pa2 pn2 pc2) values ([]) ∧ BoxV a3 a4 30 [(iv a_.1), (.slice pa0 pn0 pc0)] ∧ (RT.os 3 ri).val M a3 (.slice a5 a6 a7) s75.1 b2) (J := fun s75 a a3 => ∃ (σ : Nat → Value) (d7 : Option Addr) (d8 : Nat) (d9 : Nat) (e2 : List Nat), a = fr 79 (ovl σ [(7, (.slice d7 d8 d9))]) ∧ Chg [] w a3 ∧ Own (Nw w []) M a3 (e2 ++ (([a4]) ++ [])) ∧ (RT.rs (RT.pr ri rl)).val M a3 (.slice pa0 pn0 pc0) a_.2 ([]) ∧ rl.val M a3 (.slice pa1 pn1 pc1) t ([]) ∧ rl.val M a3 (.slice pa2 pn2 pc2) values ([]) ∧ BoxV a3 a4 30 [(iv a_.1), (.slice pa0 pn0 pc0)] ∧ (RT.os 3 ri).val M a3 (.slice d7 d8 d9) s75.1 e2) (K := (XA M w)) ?_ FU ([], w64 ((t.length : Int) - 1)) o79 _ _ ?_ j8 ?_)
 ·rintro s75 o79 a a3 ⟨σ, a5, a6, a7, b2, rfl, hC, hO, h0, h1, h2, a0, a1⟩ hs
  refine zd (c_sr (mi rfl (za _ (YR rfl rfl) (zb ?_))))
  rcases zf hs with ⟨e3, hs⟩ | ⟨e3, hs⟩
  ·refine zg (cb e3) (wp_skip (zd (wp_block (zd (c_sr (ms rfl (mi rfl ?_)))))))
   obtain ⟨x86, j9, hs⟩ := bind_some hs
   obtain ⟨k0, k1, k2, k3⟩ := zJ Sl34 Sz3 h1 j9
   refine za _ (k2 _ _ _ _ _ _ _ _ _ rfl rfl) (za (iv x86) (zp rfl ((zo Ag3 Sz3 k3) _ (Chg.refl _ _))) (za _ (YR rfl rfl) (zb ?_)))
   rcases zf hs with ⟨e4, hs⟩ | ⟨e4, hs⟩
   ·refine zg (cb e4) (c_sr (ms rfl (ms rfl (ms rfl (mi rfl ?_)))))
    obtain ⟨x89, k4, hs⟩ := bind_some hs
    obtain ⟨k5, k6, k7, e5⟩ := zJ Sl34 Sz3 h1 k4
    refine za _ (k7 _ _ _ _ _ _ _ _ _ rfl rfl) (za (iv x89) (zp rfl ((zo Ag3 Sz3 e5) _ (Chg.refl _ _))) ?_)
    obtain ⟨x91, k8, hs⟩ := bind_some hs
    obtain ⟨k9, l0, l1, e6⟩ := zJ Sl34 Sz3 h2 k8
    refine za _ (l1 _ _ _ _ _ _ _ _ _ rfl rfl) (za (iv x91) (zp rfl ((zo Ag3 Sz3 e6) _ (Chg.refl _ _))) ?_)
    obtain ⟨h9, e7, l2, i0, b3, i1⟩ := zi a3 [(iv x91)] 3
    refine za (w' := h9) (.slice (some ⟨e7, 0, none⟩) 1 1) (zC rfl (by rw [l2, i0]; kernel_rfl)) ?_
    obtain ⟨h0, h1, h2, a0, a1, e5, e6, hC⟩ := xt8 b3 h0 h1 h2 a0 a1 e5 e6 hC
    have hO := hO.new1 b3 i0 i1.lt
    have e8 := zQ (r := ri) (M := M) (css := [[(iv x91)]]) (fps := [([] : List Nat)]) (xs := ([x91] : List Int)) i1 ⟨⟨rfl, rfl⟩, trivial⟩ (Nat.le_of_ble_eq_true rfl) (List.nodup_cons.2 ⟨(fun h => nomatch h), List.nodup_nil⟩)
    have e8 : (RT.os 3 ri).val M h9 (.slice (some ⟨e7, 0, none⟩) 1 1) [x91] [e7] := e8
    obtain ⟨y96, l3, hs⟩ := bind_some hs
    have hO := hO.fr1
    obtain ⟨e9, f0, f1, l4, l5, l6, c4, l7, f2⟩ := yz Rw34 l3 a1 e8 hO.inM (fun g hg hq => hO.apart g hq (zm hg))
    have c8 := zB a1
    refine za (w' := l4) (.slice e9 f0 f1) (zS rfl rfl (l6 _)) ?_
    have hO := hO.fr1.fr1
    have h0 := h0.mt c4 hO c8
    have h1 := h1.mt c4 hO c8
    have h2 := h2.mt c4 hO c8
    have a0 := a0.ap c4 hO c8 (zl (zm (List.mem_singleton.2 rfl)))
    have hC := hC.st c4 hO c8
    have hO := hO.eat c4 l7 (zy f2) f2.fpl
    refine ax rfl (zb (wp_exit (ze (mi rfl (za _ (ysu rfl rfl) (ai rfl (zb ?_)))))))
    cases hs
    have hO := hO.fr1.fr1
    exact ⟨_, e9, f0, f1, l5, fr_m 79 rfl, hC, hO, h0, h1, h2, a0, f2⟩
   refine zh (cb e4) (wp_skip (c_sr (ms rfl (mi rfl ?_))))
   obtain ⟨x98, l8, hs⟩ := bind_some hs
   obtain ⟨l9, m0, m1, f3⟩ := zJ Sl34 Sz3 h1 l8
   refine za _ (m1 _ _ _ _ _ _ _ _ _ rfl rfl) (za (iv x98) (zp rfl ((zo Ag3 Sz3 f3) _ (Chg.refl _ _))) (za _ (ysu rfl rfl) ?_))
   obtain ⟨i2, c5, m2, i3, c0, i4⟩ := zi a3 [] 3
   refine za (w' := i2) (.slice (some ⟨c5, 0, none⟩) 0 0) (zC rfl (by rw [m2, i3]; kernel_rfl)) ?_
   obtain ⟨h0, h1, h2, a0, a1, f3, hC⟩ := xt7 c0 h0 h1 h2 a0 a1 f3 hC
   have hO := hO.new1 c0 i3 i4.lt
   have f4 := os0 (r := ri) (M := M) i4
   refine ai rfl (ax rfl (zb (zd (c_sr (ai rfl (zb ?_))))))
   obtain ⟨o119, m3, hs⟩ := bind_some hs
   refine wp_block (Zo (id := 2) (I := fun s115 a a2 => ∃ (σ : Nat → Value) (c9 : Option Addr) (d0 : Nat) (d1 : Nat) (e0 : List Nat), a = fr 79 (ovl σ [(1, (.slice pa1 pn1 pc1)), (2, (.slice pa2 pn2 pc2)), (3, (pq a4 0)), (7, (.slice a5 a6 a7)), (8, (iv s75.2)), (9, (iv (w64 ((-1) - x98)))), (10, (.slice c9 d0 d1)), (11, (iv s115.2))]) ∧ Chg [] w a2 ∧ Own (Nw w []) M a2 (e0 ++ (b2 ++ (([a4]) ++ []))) ∧ (RT.rs (RT.pr ri rl)).val M a2 (.slice pa0 pn0 pc0) a_.2 ([]) ∧ rl.val M a2 (.slice pa1 pn1 pc1) t ([]) ∧ rl.val M a2 (.slice pa2 pn2 pc2) values ([]) ∧ BoxV a2 a4 30 [(iv a_.1), (.slice pa0 pn0 pc0)] ∧ (RT.os 3 ri).val M a2 (.slice a5 a6 a7) s75.1 b2 ∧ (RT.os 3 ri).val M a2 (.slice c9 d0 d1) s115.1 e0) (J := fun s115 a a2 => ∃ (σ : Nat → Value) (d2 : Option Addr) (d3 : Nat) (d4 : Nat) (d5 : List Nat), a = fr 79 (ovl σ [(1, (.slice pa1 pn1 pc1)), (2, (.slice pa2 pn2 pc2)), (3, (pq a4 0)), (7, (.slice a5 a6 a7)), (8, (iv s75.2)), (9, (iv (w64 ((-1) - x98)))), (10, (.slice d2 d3 d4))]) ∧ Chg [] w a2 ∧ Own (Nw w []) M a2 (d5 ++ (b2 ++ (([a4]) ++ []))) ∧ (RT.rs (RT.pr ri rl)).val M a2 (.slice pa0 pn0 pc0) a_.2 ([]) ∧ rl.val M a2 (.slice pa1 pn1 pc1) t ([]) ∧ rl.val M a2 (.slice pa2 pn2 pc2) values ([]) ∧ BoxV a2 a4 30 [(iv a_.1), (.slice pa0 pn0 pc0)] ∧ (RT.os 3 ri).val M a2 (.slice a5 a6 a7) s75.1 b2 ∧ (RT.os 3 ri).val M a2 (.slice d2 d3 d4) s115.1 d5) (K := (XA M w)) ?_ FU ([], 0) o119 _ _ ?_ m3 ?_)
   ·rintro s115 o119 a a2 ⟨σ, c9, d0, d1, e0, rfl, hC, hO, h0, h1, h2, a0, a1, d6⟩ hs
    refine zd (c_sr (mi rfl (za (pq a4 1) (zj rfl Zs) (za _ (ld rfl Ag28 Sz28 a0 rfl) (mi rfl ?_)))))
    obtain ⟨x125, m4, hs⟩ := bind_some hs
    obtain ⟨i5, i6, m5, m6⟩ := zJ Sl28 Sz77 h0 m4
    refine za _ (m5 _ _ _ _ _ _ _ _ _ rfl rfl) ?_
    obtain ⟨m7, _⟩ := XM m6
    refine za (.pointer (some ⟨i5, i6 + 0, none⟩)) (zj rfl yf) (za (iv x125.1) (zp rfl ((zo Ag3 Sz3 m7) _ (Chg.refl _ _))) (za _ (zz rfl rfl) (zb ?_)))
    rcases zf hs with ⟨f5, hs⟩ | ⟨f5, hs⟩
    ·refine zg (cb f5) (wp_skip (zd (wp_block (ze (ms rfl (ms rfl (ms rfl (za _ (zn Sl34 (ZL a1) rfl) (za _ (ysu rfl rfl) (mi rfl (za _ (ysu rfl rfl) ?_)))))))))))
     obtain ⟨x129, m8, hs⟩ := bind_some hs
     obtain ⟨m9, q0, q1, q2, n0, f6, q3⟩ := zW Sl34 Sz3 a1 m8
     refine za _ (n0 _ _ _ _ _ _ _ _ _ rfl rfl) (za (iv x129) (zp rfl ((zo Ag3 Sz3 f6) _ (Chg.refl _ _))) ?_)
     obtain ⟨i7, f7, n1, i9, b4, j0⟩ := zi a2 [(iv x129)] 3
     refine za (w' := i7) (.slice (some ⟨f7, 0, none⟩) 1 1) (zC rfl (by rw [n1, i9]; kernel_rfl)) ?_
     obtain ⟨h0, h1, h2, a0, a1, d6, f6, hC⟩ := xt8 b4 h0 h1 h2 a0 a1 d6 f6 hC
     have hO := hO.new1 b4 i9 j0.lt
     have f8 := zQ (r := ri) (M := M) (css := [[(iv x129)]]) (fps := [([] : List Nat)]) (xs := ([x129] : List Int)) j0 ⟨⟨rfl, rfl⟩, trivial⟩ (Nat.le_of_ble_eq_true rfl) (List.nodup_cons.2 ⟨(fun h => nomatch h), List.nodup_nil⟩)
     have f8 : (RT.os 3 ri).val M i7 (.slice (some ⟨f7, 0, none⟩) 1 1) [x129] [f7] := f8
     obtain ⟨y134, n2, hs⟩ := bind_some hs
     have hO := hO.fr1
     obtain ⟨f9, g0, g1, n3, n4, n5, c1, n6, g2⟩ := yz Rw34 n2 d6 f8 hO.inM (fun g hg hq => hO.apart g hq (zm hg))
     have c6 := zB d6
     refine za (w' := n3) (.slice f9 g0 g1) (zS rfl rfl (n5 _)) ?_
     have hO := hO.fr1.fr1
     have h0 := h0.mt c1 hO c6
     have h1 := h1.mt c1 hO c6
     have h2 := h2.mt c1 hO c6
     have a0 := a0.ap c1 hO c6 (zl (zl (zm (List.mem_singleton.2 rfl))))
     have a1 := a1.ma c1 hO c6 (fun _ e => (zl (zm (e))))
     have hC := hC.st c1 hO c6
     have hO := hO.eat c1 n6 (zy g2) g2.fpl
     refine ax rfl (zb (ze (mi rfl (za _ (yad rfl rfl) (ai rfl (zb ?_))))))
     cases hs
     have hO := hO.fr2.fr2.fr2
     exact ⟨_, f9, g0, g1, n4, fr_m 79 rfl, hC, hO, h0, h1, h2, a0, a1, g2⟩
    refine zh (cb f5) (wp_exit ?_)
    cases hs
    have hO := hO.fr2.fr2.fr2
    exact ⟨rfl, _, c9, d0, d1, e0, fr_m 79 rfl, hC, hO, h0, h1, h2, a0, a1, d6⟩
   ·skip
    have hO := hO.fr2.fr2.fr2
    exact ⟨_, (some ⟨c5, 0, none⟩), 0, 0, ([c5]), fr_m 79 rfl, hC, hO, h0, h1, h2, a0, a1, f4⟩
   cases o119 with
   | nx _ => exact True.intro
   | rt r_ =>
    have hs := zu hs
    intro g3 h3 hK
    cases hs
    exact hK
   | br s115 =>
    have hs := zt hs
    rintro g3 a2 ⟨σ, d2, d3, d4, d5, rfl, hC, hO, h0, h1, h2, a0, a1, a9⟩
    refine zX [13] Mx rfl ?_
    have b5 := Chg.drew a2
    generalize World.drew a2 = n7 at b5 ⊢
    obtain ⟨h0, h1, h2, a0, a1, a9, hC, hO⟩ := xt8 b5 h0 h1 h2 a0 a1 a9 hC hO
    have hS := Chg.refl [] n7
    refine xms 0 rfl rfl hS (xms 1 rfl rfl hS (xq 2 _ rfl (zn Sl34 (ZL a1) rfl) hS (xms 3 rfl rfl hS (xq 4 _ rfl (zn Sl34 (ZL a9) rfl) hS (xq 5 _ rfl (ysu rfl rfl) hS ?_)))))
    obtain ⟨y138, n8, hs⟩ := bind_some hs
    obtain ⟨n9, o0, o1, b6, q4, o2, q5⟩ := zah Tryz.underlying34 Sz3 (((Frz.os Frz.int)).val a1 (M' := (Less M b2)) Less.sub Less.not) n8
    refine xq 6 (.slice n9 o0 o1) rfl (VH rfl rfl rfl (o2 rfl _)) hS (xl 8 rfl (ldxw rfl Ag30 a0 Sz30) hS (xmi 9 rfl rfl hS (xms 10 rfl rfl hS (zM (i := 7) (by kernel_rfl) ?_))))
    have hO := hO.fr1
    obtain ⟨r141, o3, hs⟩ := bind_some hs
    refine zV (b := false) rfl  Bd75 rfl (Xi (M := (Less M b2)) y138 b6 hO.less.fut o3) rfl (by rintro _ _ _ ⟨o4, o5, o6, j1, rfl, b0, b7, j2⟩; exact hS.ext b0) ?_
    rintro _ q6 ⟨o4, o5, o6, j1, rfl, b0, b7, j2⟩
    obtain ⟨h0, h1, h2, a0, a1, a9, b6, hC⟩ := xt8 b0 h0 h1 h2 a0 a1 a9 b6 hC
    have hO := Own.join0 hO b0 j2
    have hO := hO.perm (R := j1 ++ (b2 ++ (d5 ++ (([a4]) ++ ([]))))) (by simp)
    have b7 := b7.free (M' := M) (Free.os Free.int)
    have hS := hS.ext b0
    refine zM (i := 11) (by kernel_rfl) ?_
    have hO := hO.fr2
    obtain ⟨r144, o7, hs⟩ := bind_some hs
    refine zV (b := false) rfl  Bd53 rfl (uw (M := (Less M d5)) (a_.1, a_.2) (w64 ((-1) - x98)) s115.1 (h0.sub Less.sub) (((Frz.os Frz.int)).val a9 Less.sub Less.not) hO.less.fut o7) rfl (by rintro _ _ _ ⟨rfl, a8⟩; exact hS.ext a8) ?_
    rintro _ o8 ⟨rfl, a8⟩
    obtain ⟨h0, h1, h2, a0, a1, a9, b6, b7⟩ := xt8 a8 h0 h1 h2 a0 a1 a9 b6 b7
    obtain ⟨hC, hO, hS⟩ := xt3 a8 hC hO hS
    refine zM (i := 12) (by kernel_rfl) ?_
    obtain ⟨j3, g4, o9, j4, b1, j5⟩ := zi o8 [(iv r144)] 3
    refine zT (w' := j3) (b := false) (.slice (some ⟨g4, 0, none⟩) 1 1) rfl  (zC rfl (by rw [o9, j4]; kernel_rfl)) rfl (fun _ => hS.ext b1) ?_
    obtain ⟨h0, h1, h2, a0, a1, a9, b6, b7⟩ := xt8 b1 h0 h1 h2 a0 a1 a9 b6 b7
    have hC := hC.ext b1
    have hO := hO.new1 b1 j4 j5.lt
    have g5 := zQ (r := ri) (M := M) (css := [[(iv r144)]]) (fps := [([] : List Nat)]) (xs := ([r144] : List Int)) j5 ⟨⟨rfl, rfl⟩, trivial⟩ (Nat.le_of_ble_eq_true rfl) (List.nodup_cons.2 ⟨(fun h => nomatch h), List.nodup_nil⟩)
    have g5 : (RT.os 3 ri).val M j3 (.slice (some ⟨g4, 0, none⟩) 1 1) [r144] [g4] := g5
    have hS := hS.ext b1
    refine zM (i := 13) (by kernel_rfl) ?_
    obtain ⟨y148, p0, hs⟩ := bind_some hs
    have hO := hO.fr2
    obtain ⟨g6, g7, g8, p1, p2, p3, b8, p4, g9⟩ := yz Rw34 p0 b7 g5 hO.inM (fun g hg hq => hO.apart g hq (zm hg))
    have b9 := zB b7
    refine zT (w' := p1) (b := true) (.slice g6 g7 g8) rfl  (zS rfl rfl (p3 _)) rfl (fun h => nomatch h) ?_
    have hO := hO.fr1.fr1
    have h0 := h0.mt b8 hO b9
    have h1 := h1.mt b8 hO b9
    have h2 := h2.mt b8 hO b9
    have a0 := a0.ap b8 hO b9 (zl (zl (zl (zm (List.mem_singleton.2 rfl)))))
    have a1 := a1.ma b8 hO b9 (fun _ e => (zl (zl (zm (e)))))
    have a9 := a9.ma b8 hO b9 (fun _ e => (zl (zm (e))))
    have b6 := b6.mut b8 (fun g hg => ⟨hO.inM g (b9 g hg), fun e => hO.apart g (b9 g hg) (zl (zl (zm (e))))⟩) (fun _ _ h => nomatch h)
    have hC := hC.st b8 hO b9
    have hO := hO.eat b8 p4 (zy g9) g9.fpl
    refine x_p 14 (.slice g6 g7 g8) rfl (by kernel_rfl)  (fun _ => zD rfl) (fun h => nomatch h) (Za (by kernel_rfl) ?_)
    clear hS
    refine ze (mi rfl (za _ (ysu rfl rfl) (ai rfl (zb ?_))))
    cases hs
    have hO := hO.fr1.drop.fr1.drop.fr1.fr1
    exact ⟨_, g6, g7, g8, p2, fr_m 79 rfl, hC, hO, h0, h1, h2, a0, g9⟩
  refine zh (cb e3) (wp_exit ?_)
  cases hs
  have hO := hO.fr1.fr1
  exact ⟨rfl, _, a5, a6, a7, b2, fr_m 79 rfl, hC, hO, h0, h1, h2, a0, a1⟩
 ·skip
  have hO := hO.fr1.fr1
  exact ⟨_, (some ⟨c2, 0, none⟩), 0, 0, ([c2]), fr_m 79 rfl, hC, hO, h0, h1, h2, a0, e1⟩
 cases o79 with
 | nx _ => exact True.intro
 | rt r_ =>
  have hs := zu hs
  intro g3 h3 hK
  cases hs
  exact hK
 | br s75 =>
  have hs := zt hs
  rintro g3 a3 ⟨σ, d7, d8, d9, e2, rfl, hC, hO, h0, h1, h2, a0, p5⟩
  refine c_sr (ms rfl ?_)
  obtain ⟨x150, p6, hs⟩ := bind_some hs
  obtain ⟨p7, q7, q8, q9, p8, p9, r0⟩ := zW Sl34 Sz3 p5 p6
  refine za _ (p8 _ _ _ _ _ _ _ _ _ rfl rfl) (za (iv x150) (zp rfl ((zo Ag3 Sz3 p9) _ (Chg.refl _ _))) (ai rfl (zb (wp_ret ?_))))
  cases hs
  exact ⟨_, fr_m 79 rfl, hC⟩

theorem Bd48 : zE Tryz.prog 48 := zH Tryz.func48 (by kernel_rfl) rfl

def vd (M : Nat → Prop) (w0 : World) (r : (List Int)) (a : Act) (w : World) : Prop :=
  ∃ (σ : Nat → Value) (ra0 : Option Addr) (rn0 rc0 : Nat) (rf0 : List Nat), a = fr 30 (ovl σ [(6, (.slice ra0 rn0 rc0))]) ∧ Chg [] w0 w ∧ (RT.os 3 (RT.int .i64)).val M w (.slice ra0 rn0 rc0) r rf0 ∧ Own (Nw w0 []) (fun _ => True) w (rf0 ++ ([]))
def xB (a_ : Int × (List (Int × (List Int)))) (k : Int) (t : List Int) : Option ((List Int)) :=
  (iter (S := (List Int) × Int) (R := (List Int)) (fun s22 =>
  (Zv a_.1 k).bind fun r33 =>
  (bif (decide (s22.2 < r33)) then (Yy a_.1 k s22.2).bind fun r37 =>
  (YF (a_.1, a_.2) t r37).bind fun r40 =>
  (app s22.1 ([r40])).bind fun y44 =>
  some (.nx (y44, w64 (s22.2 + 1))) else some (.br (s22.1, s22.2)))) FU ([], 0)).bind fun o26 => after o26 (fun r_ => some r_) (fun s22 =>
  some s22.1)
set_option maxHeartbeats 4000000 in
theorem UP {M : Nat → Prop} {w : World} {pa0 : Option Addr} {pn0 pc0 : Nat} {pa1 : Option Addr} {pn1 pc1 : Nat} (a_ : Int × (List (Int × (List Int)))) (k : Int) (t : List Int) (h0 : (RT.rs (RT.pr ri rl)).val M w (.slice pa0 pn0 pc0) a_.2 ([])) (h1 : rl.val M w (.slice pa1 pn1 pc1) t ([])) (hM : ∀ g, w.heap.size ≤ g → M g) {r : (List Int)} (hs : xB a_ k t = some r) :
    Gives Tryz.prog 68 [(.agg #[(iv a_.1), (.slice pa0 pn0 pc0)]), (iv k), (.slice pa1 pn1 pc1)] w (fun v w' => ∃ (ra0 : Option Addr) (rn0 rc0 : Nat) (rf0 : List Nat), v = (.slice ra0 rn0 rc0) ∧ Chg [] w w' ∧ (RT.os 3 ri).val M w' (.slice ra0 rn0 rc0) r rf0 ∧ Own (Nw w []) (fun _ => True) w' (rf0 ++ ([]))) := by
 refine zq Tryz.func68 rfl Tryz.ntmps68 (Nat.le_of_ble_eq_true rfl) ?_
 have hO := Own.start (N := Nw w []) hM Nw.fut
 have hC := Chg.refl [] w
 unfold xB at hs
 refine wp_k (K := (vd M w r)) (by rintro _ _ ⟨σ, ra0, rn0, rc0, rf0, rfl, hrest⟩; exact Zc Tryz.results68 (zA rfl) ⟨ra0, rn0, rc0, rf0, rfl, hrest⟩) (c_sr ?_)
 obtain ⟨d2, a4, e3, d3, c1, a0⟩ := zi w [(iv a_.1), (.slice pa0 pn0 pc0)] 30
 refine za (w' := d2) (pq a4 0) (Zx rfl (by rw [e3, d3]; kernel_rfl)) ?_
 obtain ⟨h0, h1, hC⟩ := xt3 c1 h0 h1 hC
 have hO := hO.new1 c1 d3 a0.lt
 refine ax rfl (zb (c_sr ?_))
 obtain ⟨d4, a9, e4, d5, b5, d6⟩ := zi d2 [] 3
 refine za (w' := d4) (.slice (some ⟨a9, 0, none⟩) 0 0) (zC rfl (by rw [e4, d5]; kernel_rfl)) ?_
 obtain ⟨h0, h1, a0, hC⟩ := xt4 b5 h0 h1 a0 hC
 have hO := hO.new1 b5 d5 d6.lt
 have c3 := os0 (r := ri) (M := M) d6
 refine ax rfl (zb (zd (c_sr (ai rfl (zb ?_)))))
 obtain ⟨o26, e5, hs⟩ := bind_some hs
 refine wp_block (Zo (id := 0) (I := fun s22 a a1 => ∃ (σ : Nat → Value) (b6 : Option Addr) (b7 : Nat) (b8 : Nat) (b9 : List Nat), a = fr 30 (ovl σ [(1, (iv k)), (2, (.slice pa1 pn1 pc1)), (3, (pq a4 0)), (7, (.slice b6 b7 b8)), (8, (iv s22.2))]) ∧ Chg [] w a1 ∧ Own (Nw w []) M a1 (b9 ++ (([a4]) ++ [])) ∧ (RT.rs (RT.pr ri rl)).val M a1 (.slice pa0 pn0 pc0) a_.2 ([]) ∧ rl.val M a1 (.slice pa1 pn1 pc1) t ([]) ∧ BoxV a1 a4 30 [(iv a_.1), (.slice pa0 pn0 pc0)] ∧ (RT.os 3 ri).val M a1 (.slice b6 b7 b8) s22.1 b9) (J := fun s22 a a1 => ∃ (σ : Nat → Value) (b0 : Option Addr) (b1 : Nat) (b2 : Nat) (c2 : List Nat), a = fr 30 (ovl σ [(7, (.slice b0 b1 b2))]) ∧ Chg [] w a1 ∧ Own (Nw w []) M a1 (c2 ++ (([a4]) ++ [])) ∧ (RT.rs (RT.pr ri rl)).val M a1 (.slice pa0 pn0 pc0) a_.2 ([]) ∧ rl.val M a1 (.slice pa1 pn1 pc1) t ([]) ∧ BoxV a1 a4 30 [(iv a_.1), (.slice pa0 pn0 pc0)] ∧ (RT.os 3 ri).val M a1 (.slice b0 b1 b2) s22.1 c2) (K := (vd M w)) ?_ FU ([], 0) o26 _ _ ?_ e5 ?_)
 ·rintro s22 o26 a a1 ⟨σ, b6, b7, b8, b9, rfl, hC, hO, h0, h1, a0, a2⟩ hs
  refine zd (c_sr (mi rfl (za (pq a4 0) (zj rfl yG) (za _ (ld rfl Ag3 Sz3 a0 rfl) (mi rfl ?_)))))
  obtain ⟨r33, e6, hs⟩ := bind_some hs
  refine zw Bd24 rfl (Yc (M := M) a_.1 k  hO.fut e6) ?_
  rintro _ d7 ⟨rfl, b3⟩
  obtain ⟨h0, h1, a0, a2, hC, hO⟩ := xt6 b3 h0 h1 a0 a2 hC hO
  refine za _ (zz rfl rfl) (zb ?_)
  rcases zf hs with ⟨c4, hs⟩ | ⟨c4, hs⟩
  ·refine zg (cb c4) (wp_skip (zd (wp_block (zX [10] Mx rfl ?_))))
   have a8 := Chg.drew d7
   generalize World.drew d7 = e7 at a8 ⊢
   obtain ⟨h0, h1, a0, a2, hC, hO⟩ := xt6 a8 h0 h1 a0 a2 hC hO
   have hS := Chg.refl [] e7
   refine xms 0 rfl rfl hS (xl 1 rfl (ldxw rfl Ag30 a0 Sz30) hS (xms 2 rfl rfl hS (xq 3 (pq a4 0) rfl (zj rfl yG) hS (xl 4 rfl (ldx rfl Ag3 Sz3 a0 rfl) hS (xmi 5 rfl rfl hS (xmi 6 rfl rfl hS (zM (i := 7) (by kernel_rfl) ?_)))))))
   obtain ⟨r37, e8, hs⟩ := bind_some hs
   refine zV (b := false) rfl  Bd26 rfl (WE (M := M) a_.1 k s22.2  hO.fut e8) rfl (by rintro _ _ _ ⟨e9, f0, f1, c5, rfl, a5, a7, d8⟩; exact hS.ext a5) ?_
   rintro _ g2 ⟨e9, f0, f1, c5, rfl, a5, a7, d8⟩
   obtain ⟨h0, h1, a0, a2, hC⟩ := xt5 a5 h0 h1 a0 a2 hC
   have hO := Own.join0 hO a5 d8
   have hO := hO.perm (R := c5 ++ (b9 ++ (([a4]) ++ ([])))) (by simp)
   have hS := hS.ext a5
   refine zM (i := 8) (by kernel_rfl) ?_
   obtain ⟨r40, f2, hs⟩ := bind_some hs
   refine zV (b := false) rfl  Bd48 rfl (VK (M := (Less M c5)) (a_.1, a_.2) t r37 (h0.sub Less.sub) (h1.sub Less.sub) (((Frz.os Frz.int)).val a7 Less.sub Less.not) hO.less.fut f2) rfl (by rintro _ _ _ ⟨rfl, a3⟩; exact hS.ext a3) ?_
   rintro _ f3 ⟨rfl, a3⟩
   obtain ⟨h0, h1, a0, a2, a7, hC, hO, hS⟩ := xt8 a3 h0 h1 a0 a2 a7 hC hO hS
   refine zM (i := 9) (by kernel_rfl) ?_
   obtain ⟨d9, c6, f4, e0, a6, e1⟩ := zi f3 [(iv r40)] 3
   refine zT (w' := d9) (b := false) (.slice (some ⟨c6, 0, none⟩) 1 1) rfl  (zC rfl (by rw [f4, e0]; kernel_rfl)) rfl (fun _ => hS.ext a6) ?_
   obtain ⟨h0, h1, a0, a2, a7, hC⟩ := xt6 a6 h0 h1 a0 a2 a7 hC
   have hO := hO.new1 a6 e0 e1.lt
   have c7 := zQ (r := ri) (M := M) (css := [[(iv r40)]]) (fps := [([] : List Nat)]) (xs := ([r40] : List Int)) e1 ⟨⟨rfl, rfl⟩, trivial⟩ (Nat.le_of_ble_eq_true rfl) (List.nodup_cons.2 ⟨(fun h => nomatch h), List.nodup_nil⟩)
   have c7 : (RT.os 3 ri).val M d9 (.slice (some ⟨c6, 0, none⟩) 1 1) [r40] [c6] := c7
   have hS := hS.ext a6
   refine zM (i := 10) (by kernel_rfl) ?_
   obtain ⟨y44, f5, hs⟩ := bind_some hs
   have hO := hO.fr2
   obtain ⟨c8, c9, d0, f6, f7, f8, b4, f9, d1⟩ := yz Rw34 f5 a2 c7 hO.inM (fun g hg hq => hO.apart g hq (zm hg))
   have c0 := zB a2
   refine zT (w' := f6) (b := true) (.slice c8 c9 d0) rfl  (zS rfl rfl (f8 _)) rfl (fun h => nomatch h) ?_
   have hO := hO.fr1.fr1
   have h0 := h0.mt b4 hO c0
   have h1 := h1.mt b4 hO c0
   have a0 := a0.ap b4 hO c0 (zl (zl (zm (List.mem_singleton.2 rfl))))
   have a7 := a7.ma b4 hO c0 (fun _ e => (zl (zm (e))))
   have hC := hC.st b4 hO c0
   have hO := hO.eat b4 f9 (zy d1) d1.fpl
   refine x_p 11 (.slice c8 c9 d0) rfl (by kernel_rfl)  (fun _ => zD rfl) (fun h => nomatch h) (Za (by kernel_rfl) ?_)
   clear hS
   refine ze (mi rfl (za _ (yad rfl rfl) (ai rfl (zb ?_))))
   cases hs
   have hO := hO.fr1.drop.fr1.fr1
   exact ⟨_, c8, c9, d0, f7, fr_m 30 rfl, hC, hO, h0, h1, a0, d1⟩
  refine zh (cb c4) (wp_exit ?_)
  cases hs
  have hO := hO.fr1.fr1
  exact ⟨rfl, _, b6, b7, b8, b9, fr_m 30 rfl, hC, hO, h0, h1, a0, a2⟩
 ·skip
  have hO := hO.fr1.fr1
  exact ⟨_, (some ⟨a9, 0, none⟩), 0, 0, ([a9]), fr_m 30 rfl, hC, hO, h0, h1, a0, c3⟩
 cases o26 with
 | nx _ => exact True.intro
 | rt r_ =>
  have hs := zu hs
  intro g0 e2 hK
  cases hs
  exact hK
 | br s22 =>
  have hs := zt hs
  rintro g0 a1 ⟨σ, b0, b1, b2, c2, rfl, hC, hO, h0, h1, a0, g1⟩
  refine c_sr (ms rfl (ax rfl (zb (wp_ret ?_))))
  cases hs
  have hO := hO.fr1.drop
  exact ⟨_, b0, b1, b2, c2, fr_m 30 rfl, hC, g1, hO.top⟩

theorem Bd21 : zE Tryz.prog 21 := zH Tryz.func21 (by kernel_rfl) rfl

theorem Bd67 : zE Tryz.prog 67 := zH Tryz.func67 (by kernel_rfl) rfl

theorem Bd68 : zE Tryz.prog 68 := zH Tryz.func68 (by kernel_rfl) rfl

def wG (M : Nat → Prop) (w0 : World) (r : Int × Bool) (a : Act) (w : World) : Prop :=
  ∃ (σ : Nat → Value) , a = fr 37 (ovl σ [(6, (.int .i64 r.1)), (7, (.bool r.2))]) ∧ Chg [] w0 w
def yY (a_ : Int × (List (Int × (List Int)))) (k : Int) (t : List Int) : Option (Int × Bool) :=
  (yu (a_.1, a_.2) k).bind fun r5 =>
  ((bif (!r5.2) then some true else (YG (a_.1, a_.2) k t).bind fun r12 =>
  some (!r12))).bind fun s7 =>
  (bif s7 then some (0, false) else (xB (a_.1, a_.2) k t).bind fun r15 =>
  (Zd r5.1 r15).bind fun r18 =>
  some (r18.1, true))
set_option maxHeartbeats 4000000 in
theorem wH {M : Nat → Prop} {w : World} {pa0 : Option Addr} {pn0 pc0 : Nat} {pa1 : Option Addr} {pn1 pc1 : Nat} (a_ : Int × (List (Int × (List Int)))) (k : Int) (t : List Int) (h0 : (RT.rs (RT.pr ri rl)).val M w (.slice pa0 pn0 pc0) a_.2 ([])) (h1 : rl.val M w (.slice pa1 pn1 pc1) t ([])) (hM : ∀ g, w.heap.size ≤ g → M g) {r : Int × Bool} (hs : yY a_ k t = some r) :
    Gives Tryz.prog 36 [(.agg #[(iv a_.1), (.slice pa0 pn0 pc0)]), (iv k), (.slice pa1 pn1 pc1)] w (fun v w' => v = (.tuple #[(iv r.1), (.bool r.2)]) ∧ Chg [] w w') := by
 refine zq Tryz.func36 rfl Tryz.ntmps36 (Nat.le_of_ble_eq_true rfl) ?_
 have hO := Own.start (N := Nw w []) hM Nw.fut
 have hC := Chg.refl [] w
 unfold yY at hs
 refine wp_k (K := (wG M w r)) (by rintro _ _ ⟨σ, rfl, hrest⟩; exact wg Tryz.results36 (zA rfl) (zA rfl) ⟨rfl, hrest⟩) (c_sr ?_)
 obtain ⟨a4, b4, c0, b7, b3, a0⟩ := zi w [(iv a_.1), (.slice pa0 pn0 pc0)] 30
 refine za (w' := a4) (pq b4 0) (Zx rfl (by rw [c0, b7]; kernel_rfl)) ?_
 obtain ⟨h0, h1, hC⟩ := xt3 b3 h0 h1 hC
 have hO := hO.new1 b3 b7 a0.lt
 refine ai rfl (ab rfl (zb (c_sr (za _ (ldw rfl Ag30 a0 Sz30) (mi rfl ?_)))))
 obtain ⟨r5, c1, hs⟩ := bind_some hs
 refine zw Bd21 rfl (VI (M := M) (a_.1, a_.2) k h0 hO.fut c1) ?_
 rintro _ a3 ⟨a9, b0, b1, rfl, b2, a2⟩
 have hK := (show Keeps w M (Past M a4 a3) from Keeps.past hC.size)
 obtain ⟨h0, h1, a0, hC⟩ := xt4 b2 h0 h1 a0 hC
 have hO := hO.past b2
 have h0 := h0.sub (M' := (Past M a4 a3)) (fun g hg => .inl hg.1)
 have h1 := h1.sub (M' := (Past M a4 a3)) (fun g hg => .inl hg.1)
 refine za (.tuple #[(.slice a9 b0 b1), (.bool r5.2)]) (zr rfl) (za (.slice a9 b0 b1) (zK rfl (by kernel_rfl)) (za (.bool r5.2) (zK rfl (by kernel_rfl)) (ax rfl (ab rfl (zb (zd (zd ?_)))))))
 obtain ⟨s7, c2, hs⟩ := bind_some hs
 refine yB (I := fun a b8 => ∃ (σ : Nat → Value), a = fr 37 (ovl σ [(1, (iv k)), (2, (.slice pa1 pn1 pc1)), (3, (pq b4 0)), (6, (iv 0)), (7, (.bool false)), (8, (.slice a9 b0 b1)), (26, (.bool s7))]) ∧ Chg [] a3 b8) ?_ ?_
 ·replace hs := c2
  have hMid := Chg.refl [] a3
  refine ze (mb rfl (za _ (Zy rfl) (mb rfl ?_)))
  rcases zf hs with ⟨a1, hs⟩ | ⟨a1, hs⟩
  ·skip
   refine pn 20 (cb a1) (pn 20 (cb a1) (pn 20 (cb a1) (pn 20 (cb a1) (pn 20 (cb a1) (za _ (ptb (cb a1) rfl) (zb ?_))))))
   cases hs
   exact ⟨_, fr_m 37 rfl, hMid⟩
  refine py 20 _ (cb a1) (ldw rfl Ag30 a0 Sz30) (py 20 (iv k) (cb a1) (zr rfl) (py 20 (.slice pa1 pn1 pc1) (cb a1) (zr rfl) ?_))
  obtain ⟨r12, c3, hs⟩ := bind_some hs
  refine Ya (tg := 20) (by kernel_rfl) (cb a1) Bd67 rfl (VM (M := (Past M a4 a3)) (a_.1, a_.2) k t h0 h1 hO.fut c3) ?_
  rintro _ c8 ⟨rfl, a5⟩
  obtain ⟨h0, h1, a0, a2, hMid, hC, hO⟩ := xt7 a5 h0 h1 a0 a2 hMid hC hO
  refine py 20 _ (cb a1) (Zy rfl) (za _ (pfb (cb a1) rfl) (zb ?_))
  cases hs
  exact ⟨_, fr_m 37 rfl, hMid⟩
 rintro c9 b8 ⟨σ, rfl, a7⟩
 obtain ⟨h0, h1, a0, a2, hC, hO⟩ := xt6 a7 h0 h1 a0 a2 hC hO
 rcases zf hs with ⟨b5, hs⟩ | ⟨b5, hs⟩
 ·refine zg (cb b5) (c_sr (ai rfl (ab rfl (zb (wp_ret ?_)))))
  cases hs
  exact ⟨_, fr_m 37 rfl, hC⟩
 refine zh (cb b5) (wp_skip (c_sr (ms rfl (za _ (ldw rfl Ag30 a0 Sz30) (mi rfl (ms rfl ?_))))))
 obtain ⟨r15, c4, hs⟩ := bind_some hs
 refine zw Bd68 rfl (UP (M := (Past M a4 a3)) (a_.1, a_.2) k t h0 h1 hO.fut c4) ?_
 rintro _ d0 ⟨d1, d2, d3, b9, rfl, a8, b6, c5⟩
 obtain ⟨h0, h1, a0, a2, hC⟩ := xt5 a8 h0 h1 a0 a2 hC
 have hO := Own.join0 hO a8 c5
 have hO := hO.perm (R := b9 ++ (([b4]) ++ ([]))) (by simp)
 obtain ⟨r18, c6, hs⟩ := bind_some hs
 refine zw Bd50 rfl (Yw (M := (Less (Past M a4 a3) b9)) r5.1 r15 (a2.sub Less.sub) (((Frz.os Frz.int)).val b6 Less.sub Less.not) hO.less.fut c6) ?_
 rintro _ d4 ⟨rfl, a6⟩
 obtain ⟨h0, h1, a0, a2, b6, hC, hO⟩ := xt7 a6 h0 h1 a0 a2 b6 hC hO
 refine za (.tuple #[(iv r18.1), (.bool r18.2)]) (zr rfl) (za (iv r18.1) (zK rfl (by kernel_rfl)) (za (.bool r18.2) (zK rfl (by kernel_rfl)) (ai rfl (ab rfl (zb (c_sr (mi rfl (ai rfl (ab rfl (zb (wp_ret ?_)))))))))))
 cases hs
 exact ⟨_, fr_m 37 rfl, hC⟩

def XN (M : Nat → Prop) (w0 : World) (r : Bool) (a : Act) (w : World) : Prop :=
  ∃ (σ : Nat → Value) , a = fr 20 (ovl σ [(4, (.bool r))]) ∧ Chg [] w0 w
def Yb (n : Int) (list : List Int) : Option (Bool) :=
  (forC (S := Unit) (R := Bool) (fun k9 s7 =>
  (idx list k9).bind fun x13 =>
  (yh x13 0 (w64 (n - 1))).bind fun r16 =>
  (bif (!r16) then some (.rt false) else some (.nx ()))) 0 (list.length : Int) ()).bind fun o11 => after o11 (fun r_ => some r_) (fun s7 =>
  some true)
set_option maxHeartbeats 4000000 in
theorem vC {M : Nat → Prop} {w : World} {pa0 : Option Addr} {pn0 pc0 : Nat} (n : Int) (list : List Int) (h0 : rl.val M w (.slice pa0 pn0 pc0) list ([])) (hM : ∀ g, w.heap.size ≤ g → M g) {r : Bool} (hs : Yb n list = some r) :
    Gives Tryz.prog 39 [(iv n), (.slice pa0 pn0 pc0)] w (fun v w' => v = (.bool r) ∧ Chg [] w w') := by
 refine zq Tryz.func39 rfl Tryz.ntmps39 (Nat.le_of_ble_eq_true rfl) ?_
 have hO := Own.start (N := Nw w []) hM Nw.fut
 have hC := Chg.refl [] w
 unfold Yb at hs
 refine wp_k (K := (XN M w r)) (by rintro _ _ ⟨σ, rfl, hrest⟩; exact Zc Tryz.results39 (zA rfl) ⟨rfl, hrest⟩) (c_sr (ab rfl (zb (zd (c_sr (ai rfl (zb ?_)))))))
 obtain ⟨o11, a5, hs⟩ := bind_some hs
 refine wp_block (zZ (id := 0) (list.length : Int) (I := fun k9 s7 a a0 => ∃ (σ : Nat → Value), a = fr 20 (ovl σ [(0, (iv n)), (1, (.slice pa0 pn0 pc0)), (5, (iv k9))]) ∧ Chg [] w a0 ∧ Own (Nw w []) M a0 ([]) ∧ rl.val M a0 (.slice pa0 pn0 pc0) list ([])) (J := fun s7 a a0 => ∃ (σ : Nat → Value), a = fr 20 (ovl σ []) ∧ Chg [] w a0 ∧ Own (Nw w []) M a0 ([]) ∧ rl.val M a0 (.slice pa0 pn0 pc0) list ([])) (K := (XN M w)) ?_ ?_ 0 () o11 _ _ ?_ a5 ?_)
 ·rintro k9 s7 a a0 ⟨σ, rfl, hC, hO, h0⟩ hlt
  refine zd (c_sr (mi rfl (ms rfl (za _ (zn Sl34 (zx h0) rfl) (za _ (zz rfl rfl) (zb (zh (cb (decide_eq_false hlt)) (wp_exit ?_))))))))
  exact ⟨rfl, _, zF 20 trivial, hC, hO, h0⟩
 ·rintro k9 s7 o11 a a0 ⟨σ, rfl, hC, hO, h0⟩ hlt hw hs
  refine zd (c_sr (mi rfl (ms rfl (za _ (zn Sl34 (zx h0) rfl) (za _ (zz rfl rfl) (zb (zg (cb (decide_eq_true hlt)) (wp_skip (zd (wp_block (c_sr (ms rfl (mi rfl ?_)))))))))))))
  obtain ⟨x13, a6, hs⟩ := bind_some hs
  obtain ⟨a7, a8, a9, a2⟩ := zJ Sl34 Sz3 h0 a6
  refine za _ (a9 _ _ _ _ _ _ _ _ _ rfl rfl) (za (iv x13) (zp rfl ((zo Ag3 Sz3 a2) _ (Chg.refl _ _))) (mi rfl (za _ (ysu rfl rfl) ?_)))
  obtain ⟨r16, b0, hs⟩ := bind_some hs
  refine zw Bd72 rfl (YI (M := M) x13 0 (w64 (n - 1))  hO.fut b0) ?_
  rintro _ b2 ⟨rfl, a1⟩
  obtain ⟨h0, a2, hC, hO⟩ := xt4 a1 h0 a2 hC hO
  refine za _ (Zy rfl) (zb ?_)
  rcases zf hs with ⟨a3, hs⟩ | ⟨a3, hs⟩
  ·refine zg (cb a3) (c_sr (ab rfl (zb (wp_ret ?_))))
   cases hs
   exact ⟨_, fr_m 20 rfl, hC⟩
  refine zh (cb a3) (wp_skip (ze (mi rfl (za _ (yad rfl rfl) (ai rfl (zb ?_))))))
  cases hs
  exact ⟨_, zF 20 ⟨rfl, rfl, congrArg (Value.int .i64) hw, trivial⟩, hC, hO, h0⟩
 ·skip
  exact ⟨_, fr_m 20 rfl, hC, hO, h0⟩
 cases o11 with
 | nx _ => exact True.intro
 | rt r_ =>
  have hs := zu hs
  intro b1 a4 hK
  cases hs
  exact hK
 | br s7 =>
  have hs := zt hs
  rintro b1 a0 ⟨σ, rfl, hC, hO, h0⟩
  refine c_sr (ab rfl (zb (wp_ret ?_)))
  cases hs
  exact ⟨_, fr_m 20 rfl, hC⟩

theorem Bd39 : zE Tryz.prog 39 := zH Tryz.func39 (by kernel_rfl) rfl

def VW (M : Nat → Prop) (w0 : World) (r : Bool) (a : Act) (w : World) : Prop :=
  ∃ (σ : Nat → Value) , a = fr 16 (ovl σ [(6, (.bool r))]) ∧ Chg [] w0 w
def YD (n : Int) (k : Int) (t : List Int) : Option (Bool) :=
  (bif ((t.length : Int) == k) then (Yb n t).bind fun r4 =>
  some r4 else some false)
set_option maxHeartbeats 4000000 in
theorem VL {M : Nat → Prop} {w : World} {pa0 : Option Addr} {pn0 pc0 : Nat} (n : Int) (k : Int) (t : List Int) (h0 : rl.val M w (.slice pa0 pn0 pc0) t ([])) (hM : ∀ g, w.heap.size ≤ g → M g) {r : Bool} (hs : YD n k t = some r) :
    Gives Tryz.prog 107 [(iv n), (iv k), (.slice pa0 pn0 pc0)] w (fun v w' => v = (.bool r) ∧ Chg [] w w') := by
 refine zq Tryz.func107 rfl Tryz.ntmps107 (Nat.le_of_ble_eq_true rfl) ?_
 have hO := Own.start (N := Nw w []) hM Nw.fut
 have hC := Chg.refl [] w
 unfold YD at hs
 refine wp_k (K := (VW M w r)) (by rintro _ _ ⟨σ, rfl, hrest⟩; exact Zc Tryz.results107 (zA rfl) ⟨rfl, hrest⟩) (c_sr (ab rfl (zb (c_sr (ms rfl (za _ (zn Sl34 (zx h0) rfl) (mi rfl (za (.bool ((t.length : Int) == k)) (xe rfl rfl) (mb rfl ?_)))))))))
 rcases zf hs with ⟨a0, hs⟩ | ⟨a0, hs⟩
 ·skip
  refine py 11 (iv n) (cb a0) (zr rfl) (py 11 (.slice pa0 pn0 pc0) (cb a0) (zr rfl) ?_)
  obtain ⟨r4, a2, hs⟩ := bind_some hs
  refine Ya (tg := 11) (by kernel_rfl) (cb a0) Bd39 rfl (vC (M := M) n t h0 hO.fut a2) ?_
  rintro _ a4 ⟨rfl, a1⟩
  obtain ⟨h0, hC, hO⟩ := xt3 a1 h0 hC hO
  refine za _ (ptb (cb a0) rfl) (ab rfl (zb (wp_ret ?_)))
  cases hs
  exact ⟨_, fr_m 16 rfl, hC⟩
 refine pn 11 (cb a0) (pn 11 (cb a0) (pn 11 (cb a0) (za _ (pfb (cb a0) rfl) (ab rfl (zb (wp_ret ?_))))))
 cases hs
 exact ⟨_, fr_m 16 rfl, hC⟩

theorem Bd107 : zE Tryz.prog 107 := zH Tryz.func107 (by kernel_rfl) rfl

def wz (M : Nat → Prop) (w0 : World) (r : Bool) (a : Act) (w : World) : Prop :=
  ∃ (σ : Nat → Value) , a = fr 24 (ovl σ [(6, (.bool r))]) ∧ Chg [] w0 w
def Yq (n : Int) (k : Int) (list : List (List Int)) : Option (Bool) :=
  (forC (S := Unit) (R := Bool) (fun k11 s9 =>
  (idx list k11).bind fun x15 =>
  (YD n k x15).bind fun r20 =>
  (bif (!r20) then some (.rt false) else some (.nx ()))) 0 (list.length : Int) ()).bind fun o13 => after o13 (fun r_ => some r_) (fun s9 =>
  (yh k 1 64).bind fun r23 =>
  some r23)
set_option maxHeartbeats 4000000 in
theorem Vt {M : Nat → Prop} {w : World} {pa0 : Option Addr} {pn0 pc0 : Nat} (n : Int) (k : Int) (list : List (List Int)) (h0 : (RT.rs rl).val M w (.slice pa0 pn0 pc0) list ([])) (hM : ∀ g, w.heap.size ≤ g → M g) {r : Bool} (hs : Yq n k list = some r) :
    Gives Tryz.prog 98 [(iv n), (iv k), (.slice pa0 pn0 pc0)] w (fun v w' => v = (.bool r) ∧ Chg [] w w') := by
 refine zq Tryz.func98 rfl Tryz.ntmps98 (Nat.le_of_ble_eq_true rfl) ?_
 have hO := Own.start (N := Nw w []) hM Nw.fut
 have hC := Chg.refl [] w
 unfold Yq at hs
 refine wp_k (K := (wz M w r)) (by rintro _ _ ⟨σ, rfl, hrest⟩; exact Zc Tryz.results98 (zA rfl) ⟨rfl, hrest⟩) (c_sr (ab rfl (zb (zd (c_sr (ai rfl (zb ?_)))))))
 obtain ⟨o13, a7, hs⟩ := bind_some hs
 refine wp_block (zZ (id := 0) (list.length : Int) (I := fun k11 s9 a a0 => ∃ (σ : Nat → Value), a = fr 24 (ovl σ [(0, (iv n)), (1, (iv k)), (2, (.slice pa0 pn0 pc0)), (7, (iv k11))]) ∧ Chg [] w a0 ∧ Own (Nw w []) M a0 ([]) ∧ (RT.rs rl).val M a0 (.slice pa0 pn0 pc0) list ([])) (J := fun s9 a a0 => ∃ (σ : Nat → Value), a = fr 24 (ovl σ [(1, (iv k))]) ∧ Chg [] w a0 ∧ Own (Nw w []) M a0 ([]) ∧ (RT.rs rl).val M a0 (.slice pa0 pn0 pc0) list ([])) (K := (wz M w)) ?_ ?_ 0 () o13 _ _ ?_ a7 ?_)
 ·rintro k11 s9 a a0 ⟨σ, rfl, hC, hO, h0⟩ hlt
  refine zd (c_sr (mi rfl (ms rfl (za _ (zn Sl45 (zx h0) rfl) (za _ (zz rfl rfl) (zb (zh (cb (decide_eq_false hlt)) (wp_exit ?_))))))))
  exact ⟨rfl, _, fr_m 24 rfl, hC, hO, h0⟩
 ·rintro k11 s9 o13 a a0 ⟨σ, rfl, hC, hO, h0⟩ hlt hw hs
  refine zd (c_sr (mi rfl (ms rfl (za _ (zn Sl45 (zx h0) rfl) (za _ (zz rfl rfl) (zb (zg (cb (decide_eq_true hlt)) (wp_skip (zd (wp_block (c_sr (mi rfl (mi rfl (ms rfl (mi rfl ?_)))))))))))))))
  obtain ⟨x15, a8, hs⟩ := bind_some hs
  obtain ⟨a9, b0, b1, a3⟩ := zJ Sl45 Sz34 h0 a8
  refine za _ (b1 _ _ _ _ _ _ _ _ _ rfl rfl) ?_
  obtain ⟨b9, b2, a2⟩ := Zp Ag34 Sz34 (fun _ => rfl) a3
  obtain ⟨b3, b4, b5, rfl⟩ := yn a2
  refine za (.slice b3 b4 b5) (zp rfl (b2 _ (Chg.refl _ _))) ?_
  obtain ⟨r20, b6, hs⟩ := bind_some hs
  refine zw Bd107 rfl (VL (M := M) n k x15 a2 hO.fut b6) ?_
  rintro _ c0 ⟨rfl, a1⟩
  obtain ⟨h0, a2, a3, hC, hO⟩ := xt5 a1 h0 a2 a3 hC hO
  refine za _ (Zy rfl) (zb ?_)
  rcases zf hs with ⟨a4, hs⟩ | ⟨a4, hs⟩
  ·refine zg (cb a4) (c_sr (ab rfl (zb (wp_ret ?_))))
   cases hs
   exact ⟨_, fr_m 24 rfl, hC⟩
  refine zh (cb a4) (wp_skip (ze (mi rfl (za _ (yad rfl rfl) (ai rfl (zb ?_))))))
  cases hs
  exact ⟨_, zF 24 ⟨rfl, rfl, rfl, congrArg (Value.int .i64) hw, trivial⟩, hC, hO, h0⟩
 ·skip
  exact ⟨_, fr_m 24 rfl, hC, hO, h0⟩
 cases o13 with
 | nx _ => exact True.intro
 | rt r_ =>
  have hs := zu hs
  intro b7 a6 hK
  cases hs
  exact hK
 | br s9 =>
  have hs := zt hs
  rintro b7 a0 ⟨σ, rfl, hC, hO, h0⟩
  refine c_sr (mi rfl ?_)
  obtain ⟨r23, b8, hs⟩ := bind_some hs
  refine zw Bd72 rfl (YI (M := M) k 1 64  hO.fut b8) ?_
  rintro _ c1 ⟨rfl, a5⟩
  obtain ⟨h0, hC, hO⟩ := xt3 a5 h0 hC hO
  refine ab rfl (zb (wp_ret ?_))
  cases hs
  exact ⟨_, fr_m 24 rfl, hC⟩

theorem Bd98 : zE Tryz.prog 98 := zH Tryz.func98 (by kernel_rfl) rfl

def uU (M : Nat → Prop) (w0 : World) (r : Bool) (a : Act) (w : World) : Prop :=
  ∃ (σ : Nat → Value) , a = fr 21 (ovl σ [(6, (.bool r))]) ∧ Chg [] w0 w
def Yf (a_ : Int × (List (Int × (List Int)))) (k : Int) (gens : List (List Int)) : Option (Bool) :=
  (Zk (a_.1, a_.2)).bind fun r5 =>
  (bif r5 then (bif (decide ((gens.length : Int) ≤ 20)) then (Yq a_.1 k gens).bind fun r9 =>
  some r9 else some false) else some false)
set_option maxHeartbeats 4000000 in
theorem uX {M : Nat → Prop} {w : World} {pa0 : Option Addr} {pn0 pc0 : Nat} {pa1 : Option Addr} {pn1 pc1 : Nat} (a_ : Int × (List (Int × (List Int)))) (k : Int) (gens : List (List Int)) (h0 : (RT.rs (RT.pr ri rl)).val M w (.slice pa0 pn0 pc0) a_.2 ([])) (h1 : (RT.rs rl).val M w (.slice pa1 pn1 pc1) gens ([])) (hM : ∀ g, w.heap.size ≤ g → M g) {r : Bool} (hs : Yf a_ k gens = some r) :
    Gives Tryz.prog 78 [(.agg #[(iv a_.1), (.slice pa0 pn0 pc0)]), (iv k), (.slice pa1 pn1 pc1)] w (fun v w' => v = (.bool r) ∧ Chg [] w w') := by
 refine zq Tryz.func78 rfl Tryz.ntmps78 (Nat.le_of_ble_eq_true rfl) ?_
 have hO := Own.start (N := Nw w []) hM Nw.fut
 have hC := Chg.refl [] w
 unfold Yf at hs
 refine wp_k (K := (uU M w r)) (by rintro _ _ ⟨σ, rfl, hrest⟩; exact Zc Tryz.results78 (zA rfl) ⟨rfl, hrest⟩) (c_sr ?_)
 obtain ⟨a8, a6, a9, a7, a5, a2⟩ := zi w [(iv a_.1), (.slice pa0 pn0 pc0)] 30
 refine za (w' := a8) (pq a6 0) (Zx rfl (by rw [a9, a7]; kernel_rfl)) ?_
 obtain ⟨h0, h1, hC⟩ := xt3 a5 h0 h1 hC
 have hO := hO.new1 a5 a7 a2.lt
 refine ab rfl (zb (c_sr (za _ (ldw rfl Ag30 a2 Sz30) ?_)))
 obtain ⟨r5, b0, hs⟩ := bind_some hs
 refine zw Bd46 rfl (WF (M := M) (a_.1, a_.2) h0 hO.fut b0) ?_
 rintro _ b3 ⟨rfl, a3⟩
 obtain ⟨h0, h1, a2, hC, hO⟩ := xt5 a3 h0 h1 a2 hC hO
 refine mb rfl ?_
 rcases zf hs with ⟨a1, hs⟩ | ⟨a1, hs⟩
 ·skip
  refine py 9 (.slice pa1 pn1 pc1) (cb a1) (zr rfl) (py 9 _ (cb a1) (zn Sl45 (zx h1) rfl) (py 9 _ (cb a1) (Xs rfl rfl) (za _ (ptb (cb a1) rfl) (mb rfl ?_))))
  rcases zf hs with ⟨a0, hs⟩ | ⟨a0, hs⟩
  ·skip
   refine py 14 (pq a6 0) (cb a0) (zj rfl yG) (py 14 _ (cb a0) (ld rfl Ag3 Sz3 a2 rfl) (py 14 (iv k) (cb a0) (zr rfl) (py 14 (.slice pa1 pn1 pc1) (cb a0) (zr rfl) ?_)))
   obtain ⟨r9, b1, hs⟩ := bind_some hs
   refine Ya (tg := 14) (by kernel_rfl) (cb a0) Bd98 rfl (Vt (M := M) a_.1 k gens h1 hO.fut b1) ?_
   rintro _ b4 ⟨rfl, a4⟩
   obtain ⟨h0, h1, a2, hC, hO⟩ := xt5 a4 h0 h1 a2 hC hO
   refine za _ (ptb (cb a0) rfl) (ab rfl (zb (wp_ret ?_)))
   cases hs
   exact ⟨_, fr_m 21 rfl, hC⟩
  refine pn 14 (cb a0) (pn 14 (cb a0) (pn 14 (cb a0) (pn 14 (cb a0) (pn 14 (cb a0) (za _ (pfb (cb a0) rfl) (ab rfl (zb (wp_ret ?_))))))))
  cases hs
  exact ⟨_, fr_m 21 rfl, hC⟩
 refine pn 9 (cb a1) (pn 9 (cb a1) (pn 9 (cb a1) (za _ (pfb (cb a1) rfl) (mb rfl (pn 14 (by rfl) (pn 14 (by rfl) (pn 14 (by rfl) (pn 14 (by rfl) (pn 14 (by rfl) (za _ (pfb (by rfl) rfl) (ab rfl (zb (wp_ret ?_)))))))))))))
 cases hs
 exact ⟨_, fr_m 21 rfl, hC⟩

def Vy (M : Nat → Prop) (w0 : World) (r : Bool) (a : Act) (w : World) : Prop :=
  ∃ (σ : Nat → Value) , a = fr 18 (ovl σ [(4, (.bool r))]) ∧ Chg [] w0 w
def ZV (s_ : List Int) (t : List Int) : Option (Bool) :=
  (bif ((s_.length : Int) != (t.length : Int)) then some (decide ((s_.length : Int) < (t.length : Int))) else (yP s_ t).bind fun r5 =>
  some r5)
set_option maxHeartbeats 4000000 in
theorem wy {M : Nat → Prop} {w : World} {pa0 : Option Addr} {pn0 pc0 : Nat} {pa1 : Option Addr} {pn1 pc1 : Nat} (s_ : List Int) (t : List Int) (h0 : rl.val M w (.slice pa0 pn0 pc0) s_ ([])) (h1 : rl.val M w (.slice pa1 pn1 pc1) t ([])) (hM : ∀ g, w.heap.size ≤ g → M g) {r : Bool} (hs : ZV s_ t = some r) :
    Gives Tryz.prog 100 [(.slice pa0 pn0 pc0), (.slice pa1 pn1 pc1)] w (fun v w' => v = (.bool r) ∧ Chg [] w w') := by
 refine zq Tryz.func100 rfl Tryz.ntmps100 (Nat.le_of_ble_eq_true rfl) ?_
 have hO := Own.start (N := Nw w []) hM Nw.fut
 have hC := Chg.refl [] w
 unfold ZV at hs
 refine wp_k (K := (Vy M w r)) (by rintro _ _ ⟨σ, rfl, hrest⟩; exact Zc Tryz.results100 (zA rfl) ⟨rfl, hrest⟩) (c_sr (ab rfl (zb (zd (c_sr (ms rfl (za _ (zn Sl34 (zx h0) rfl) (ms rfl (za _ (zn Sl34 (zx h1) rfl) (za (.bool ((s_.length : Int) != (t.length : Int))) (xX rfl rfl) (zb ?_)))))))))))
 rcases zf hs with ⟨a1, hs⟩ | ⟨a1, hs⟩
 ·refine zg (cb a1) (c_sr (ms rfl (za _ (zn Sl34 (zx h0) rfl) (ms rfl (za _ (zn Sl34 (zx h1) rfl) (za _ (zz rfl rfl) (ab rfl (zb (wp_ret ?_)))))))))
  cases hs
  exact ⟨_, fr_m 18 rfl, hC⟩
 refine zh (cb a1) (wp_skip (c_sr (ms rfl (ms rfl ?_))))
 obtain ⟨r5, a2, hs⟩ := bind_some hs
 refine zw Bd83 rfl (Wz (M := M) s_ t h0 h1 hO.fut a2) ?_
 rintro _ a4 ⟨rfl, a0⟩
 obtain ⟨h0, h1, hC, hO⟩ := xt4 a0 h0 h1 hC hO
 refine ab rfl (zb (wp_ret ?_))
 cases hs
 exact ⟨_, fr_m 18 rfl, hC⟩

theorem Bd100 : zE Tryz.prog 100 := zH Tryz.func100 (by kernel_rfl) rfl

def wv (M : Nat → Prop) (w0 : World) (qa0 : Option Addr) (qn0 qc0 : Nat) (qf0 : List Nat) (qa1 : Option Addr) (qn1 qc1 : Nat) (qf1 : List Nat) (r : (List (List Int))) (a : Act) (w : World) : Prop :=
  ∃ (σ : Nat → Value) (rfi0 : List Nat), a = fr 34 (ovl σ []) ∧ Chg (qf0 ++ (qf1 ++ ([]))) w0 w ∧ (RT.os 34 (RT.os 3 (RT.int .i64))).val M w (.slice qa0 qn0 qc0) r rfi0 ∧ Own (Nw w0 (qf0 ++ (qf1 ++ ([])))) (fun _ => True) w (rfi0 ++ ([]))
def zP (out : List (List Int)) (tuples : List (List Int)) (tuple : List Int) (t : List Int) : Option ((List (List Int))) :=
  (Zd tuples tuple).bind fun r6 =>
  ((idx out r6.1).bind fun x10 =>
  (bif ((x10.length : Int) == 0) then some true else (idx out r6.1).bind fun x15 =>
  (ZV t x15).bind fun r20 =>
  some r20)).bind fun s7 =>
  (bif s7 then (idx out r6.1).bind fun x22 =>
  some (List.set out (Int.toNat r6.1) t) else some out)
set_option maxHeartbeats 4000000 in
theorem xG {M : Nat → Prop} {w : World} {pa0 : Option Addr} {pn0 pc0 : Nat} {pf0 : List Nat} {pa1 : Option Addr} {pn1 pc1 : Nat} {pa2 : Option Addr} {pn2 pc2 : Nat} {pa3 : Option Addr} {pn3 pc3 : Nat} {pf3 : List Nat} (out : List (List Int)) (tuples : List (List Int)) (tuple : List Int) (t : List Int) (h0 : (RT.os 34 (RT.os 3 ri)).val M w (.slice pa0 pn0 pc0) out pf0) (h1 : (RT.rs rl).val M w (.slice pa1 pn1 pc1) tuples ([])) (h2 : rl.val M w (.slice pa2 pn2 pc2) tuple ([])) (h3 : (RT.os 3 ri).val M w (.slice pa3 pn3 pc3) t pf3) (hI : Own (Nw w (pf0 ++ (pf3 ++ ([])))) M w (pf0 ++ (pf3 ++ ([])))) (hM : ∀ g, w.heap.size ≤ g → M g) {r : (List (List Int))} (hs : zP out tuples tuple t = some r) :
    Gives Tryz.prog 99 [(.slice pa0 pn0 pc0), (.slice pa1 pn1 pc1), (.slice pa2 pn2 pc2), (.slice pa3 pn3 pc3)] w (fun v w' => ∃ (rfi0 : List Nat), v = (.tuple #[]) ∧ Chg (pf0 ++ (pf3 ++ ([]))) w w' ∧ (RT.os 34 (RT.os 3 ri)).val M w' (.slice pa0 pn0 pc0) r rfi0 ∧ Own (Nw w (pf0 ++ (pf3 ++ ([])))) (fun _ => True) w' (rfi0 ++ ([]))) := by
 refine zq Tryz.func99 rfl Tryz.ntmps99 (Nat.le_of_ble_eq_true rfl) ?_
 have hO := hI
 have hC := Chg.refl (pf0 ++ (pf3 ++ ([]))) w
 unfold zP at hs
 refine wp_mono (Q := wn (wv M w pa0 pn0 pc0 pf0 pa3 pn3 pc3 pf3 r)) ?_ (fun e a e6 h => ?_)
 rotate_left
 ·cases e
  case ret =>
   obtain ⟨σ, rfi0, rfl, hrest⟩ := h
   exact vo Tryz.results99  ⟨rfi0, rfl, hrest⟩
  case normal =>
   obtain ⟨σ, rfi0, rfl, hrest⟩ := h
   exact vx Tryz.results99  ⟨rfi0, rfl, hrest⟩
  all_goals exact (h : False).elim
 refine c_sr (ms rfl (ms rfl ?_))
 obtain ⟨r6, b7, hs⟩ := bind_some hs
 refine zw Bd50 rfl (Yw (M := M) tuples tuple h1 h2 hO.fut b7) ?_
 rintro _ b2 ⟨rfl, a2⟩
 obtain ⟨h0, h1, h2, h3, hC, hO⟩ := xt6 a2 h0 h1 h2 h3 hC hO
 refine za (.tuple #[(iv r6.1), (.bool r6.2)]) (zr rfl) (za (iv r6.1) (zK rfl (by kernel_rfl)) (za (.bool r6.2) (zK rfl (by kernel_rfl)) (ai rfl (ab rfl (zb (zd ?_))))))
 obtain ⟨s7, b8, hs⟩ := bind_some hs
 refine yB (I := fun a b3 => ∃ (σ : Nat → Value), a = fr 34 (ovl σ [(0, (.slice pa0 pn0 pc0)), (3, (.slice pa3 pn3 pc3)), (8, (iv r6.1)), (29, (.bool s7))]) ∧ Chg [] b2 b3) ?_ ?_
 ·replace hs := b8
  have hMid := Chg.refl [] b2
  refine ze (ms rfl (mi rfl ?_))
  obtain ⟨x10, b9, hs⟩ := bind_some hs
  obtain ⟨c0, e7, e8, e9, c1, a6, c2⟩ := zW Sl45 Sz34 h0 b9
  have a7 := Zz (Frz.os Frz.int) a6 c2
  refine za _ (c1 _ _ _ _ _ _ _ _ _ rfl rfl) ?_
  obtain ⟨f0, c3, hrow12, a3⟩ := ZN Ag34 Sz34 rfl rfl a7
  obtain ⟨c4, c5, c6, rfl⟩ := yn a3
  refine za (.slice c4 c5 c6) (zp rfl (c3 _ (Chg.refl _ _))) (za _ (zn Sl34 (zx a3) rfl) (za (.bool ((x10.length : Int) == 0)) (xe rfl rfl) (mb rfl ?_)))
  rcases zf hs with ⟨a0, hs⟩ | ⟨a0, hs⟩
  ·skip
   refine pn 22 (cb a0) (pn 22 (cb a0) (pn 22 (cb a0) (pn 22 (cb a0) (pn 22 (cb a0) (pn 22 (cb a0) (za _ (ptb (cb a0) rfl) (zb ?_)))))))
   cases hs
   exact ⟨_, fr_m 34 rfl, hMid⟩
  refine py 22 (.slice pa3 pn3 pc3) (cb a0) (zr rfl) (py 22 (.slice pa0 pn0 pc0) (cb a0) (zr rfl) (py 22 (iv r6.1) (cb a0) (zr rfl) ?_))
  obtain ⟨x15, c7, hs⟩ := bind_some hs
  obtain ⟨c8, f1, f2, f3, c9, a8, d0⟩ := zW Sl45 Sz34 h0 c7
  have a9 := Zz (Frz.os Frz.int) a8 d0
  refine py 22 _ (cb a0) (c9 _ _ _ _ _ _ _ _ _ rfl rfl) ?_
  obtain ⟨f4, d1, hrow17, a4⟩ := ZN Ag34 Sz34 rfl rfl a9
  obtain ⟨d2, d3, d4, rfl⟩ := yn a4
  refine py 22 (.slice d2 d3 d4) (cb a0) (zp rfl (d1 _ (Chg.refl _ _))) ?_
  have hO := hO.fr1
  obtain ⟨r20, d5, hs⟩ := bind_some hs
  refine Ya (tg := 22) (by kernel_rfl) (cb a0) Bd100 rfl (wy (M := (Less (Less M pf3) pf0)) t x15 ((((Frz.os Frz.int)).val h3 Less.sub Less.not).sub Less.sub) (a4.sub (M' := (Less (Less M pf3) pf0)) (fun g h => .inl (by simp only [Less] at h ⊢; simp [h]))) (hO.less).less.fut d5) ?_
  rintro _ f5 ⟨rfl, a1⟩
  obtain ⟨h0, h3, a3, hrow12, a4, hrow17, hMid, a6⟩ := xt8 a1 h0 h3 a3 hrow12 a4 hrow17 hMid a6
  obtain ⟨a7, a8, a9, hC, hO⟩ := xt5 a1 a7 a8 a9 hC hO
  refine za _ (pfb (cb a0) rfl) (zb ?_)
  cases hs
  exact ⟨_, fr_m 34 rfl, hMid⟩
 rintro f6 b3 ⟨σ, rfl, a5⟩
 obtain ⟨h0, h3, hC, hO⟩ := xt4 a5 h0 h3 hC hO
 rcases zf hs with ⟨b0, hs⟩ | ⟨b0, hs⟩
 ·refine zg (cb b0) (ze (ms rfl (mi rfl (ms rfl ?_))))
  obtain ⟨x22, d6, hs⟩ := bind_some hs
  obtain ⟨b4, f7, b5, d7, d8, d9, e0⟩ := zW Sl45 Sz34 h0 d6
  have f8 := Zz (Frz.os Frz.int) d9 e0
  refine za _ (d8 _ _ _ _ _ _ _ _ _ rfl rfl) ?_
  have hO := hO.fr1.fr1
  obtain ⟨e1, e2, e3, b6, e4, b1⟩ := yx (P := Tryz.prog) (c' := [(.slice pa3 pn3 pc3)]) b5 h0 d7 (fun g hg => hO.inM g (zB h0 g (by simpa using hg))) (ZF h3) (hO.drop.perm (R := pf3 ++ ([])) (by simp)).nd (fun g hg hq => hO.apart g hq (by simp only [List.mem_append, List.not_mem_nil, false_or, or_false] at hg ⊢; simp [hg])) (fun _ h => .inl h)
  have e5 : ∀ q ∈ [b4], q ∈ pf0 := fun q hq => zB h0 q (by rw [b5]; exact hq)
  refine Zm (w' := e1) (zY rfl rfl (e3 _ _ rfl Sz34)) ?_
  have hO := hO.fr1.fr1
  have hC := hC.st b6 hO e5
  have hO := (hO.perm (R := pf0 ++ (pf3 ++ ([]))) (by simp)).eat b6 (fun q hq => (e4 q hq).elim .inl (fun h => .inr (.inl h))) (zy b1) b1.fpl
  refine zb ?_
  cases hs
  exact ⟨_, e2, zF 34 trivial, hC, b1, hO.top⟩
 refine zh (cb b0) (wp_skip ?_)
 cases hs
 have hO := hO.fr1.drop
 exact ⟨_, pf0, zF 34 trivial, hC, h0, hO.top⟩

theorem zaY : RowT Tryz.prog 116 4 1 [(.bool false)] := ⟨Tryz.underlying116, ⟨_, _, rfl, rfl, rfl, rfl, by decide⟩, rfl, by decide⟩

theorem Bd99 : zE Tryz.prog 99 := zH Tryz.func99 (by kernel_rfl) rfl

theorem Sl116 : SlT Tryz.prog 116 4 := Tryz.underlying116

theorem Sz4 : SzT Tryz.prog 4 1 := ⟨_, rfl, rfl⟩

theorem Ag4 : AggT Tryz.prog 4 false := fun _ => by kernel_rfl

def yy (M : Nat → Prop) (w0 : World) (r : (List (List Int))) (a : Act) (w : World) : Prop :=
  ∃ (σ : Nat → Value) (ra0 : Option Addr) (rn0 rc0 : Nat) (rf0 : List Nat), a = fr 215 (ovl σ [(8, (.slice ra0 rn0 rc0))]) ∧ Chg [] w0 w ∧ (RT.os 34 (RT.os 3 (RT.int .i64))).val M w (.slice ra0 rn0 rc0) r rf0 ∧ Own (Nw w0 []) (fun _ => True) w (rf0 ++ ([]))
def YC (a_ : Int × (List (Int × (List Int)))) (k : Int) (gens : List (List Int)) (tuples : List (List Int)) : Option ((List (List Int))) :=
  (mks (tuples.length : Int) ([] : List Int)).bind fun y7 =>
  (mks (tuples.length : Int) (false : Bool)).bind fun y10 =>
  (forC (S := (List (List Int))) (R := (List (List Int))) (fun k122 s120 =>
  (idx gens k122).bind fun x128 =>
  (Zd tuples x128).bind fun r133 =>
  (idx s120 r133.1).bind fun x134 =>
  (bif ((x134.length : Int) == 0) then (idx s120 r133.1).bind fun x141 =>
  some (.nx (List.set s120 (Int.toNat r133.1) ([k122]))) else some (.nx s120))) 0 (gens.length : Int) y7).bind fun o124 => after o124 (fun r_ => some r_) (fun s120 =>
  (forC (S := (List (List Int))) (R := (List (List Int))) (fun k173 s171 =>
  (idx a_.2 k173).bind fun x179 =>
  (bif (x179.1 == 0) then (zR (a_.1, a_.2) k173 ([]) k).bind fun r186 =>
  (zP s171 tuples r186 ([w64 ((-1) - k173)])).bind fun r191 =>
  some (.nx r191) else some (.nx s171))) 0 (a_.2.length : Int) s120).bind fun o175 => after o175 (fun r_ => some r_) (fun s171 =>
  (iter (S := (List Int) × (List (List Int)) × (List Bool)) (R := (List (List Int))) (fun s3253 =>
  (forC (S := Int) (R := (List (List Int))) (fun k3295 s3293 =>
  ((idx s3253.2.2 k3295).bind fun x3303 =>
  (bif (!x3303) then (idx s3253.2.1 k3295).bind fun x3306 =>
  (bif (decide (0 < (x3306.length : Int))) then (bif (decide (s3293 < 0)) then some true else (idx s3253.2.1 k3295).bind fun x3312 =>
  (idx s3253.2.1 s3293).bind fun x3316 =>
  (ZV x3312 x3316).bind fun r3321 =>
  some r3321) else some false) else some false)).bind fun s3299 =>
  (bif s3299 then some (.nx k3295) else some (.nx s3293))) 0 (s3253.2.1.length : Int) (-1)).bind fun o3297 => after o3297 (fun r_ => some (.rt r_)) (fun s3293 =>
  (bif (decide (s3293 < 0)) then some (.rt s3253.2.1) else (idx s3253.2.2 s3293).bind fun x3324 =>
  (app s3253.1 ([s3293])).bind fun y3330 =>
  (forC (S := (List (List Int))) (R := (List (List Int))) (fun k4304 s4302 =>
  (idx a_.2 k4304).bind fun x4323 =>
  (idx a_.2 k4304).bind fun x4326 =>
  (mks x4323.1 (0 : Int)).bind fun y4330 =>
  (iter (S := (List Int) × Bool × (List (List Int))) (R := (List (List Int))) (fun s4634 =>
  (bif s4634.2.1 then (Zh s4634.1 (w64 ((y3330.length : Int) - 1))).bind fun r4650 =>
  (bif r4650 then (iter (S := (List Int) × (List (List Int)) × Int) (R := (List (List Int))) (fun s4725 =>
  (bif ((decide (s4725.2.2 < (s4634.1.length : Int))) && (decide ((s4725.1.length : Int) ≤ 60))) then (idx s4634.1 s4725.2.2).bind fun x4746 =>
  (idx y3330 x4746).bind fun x4748 =>
  (idx s4634.2.2 x4748).bind fun x4750 =>
  (app s4725.1 x4750).bind fun y4755 =>
  (idx s4634.1 s4725.2.2).bind fun x4757 =>
  (idx y3330 x4757).bind fun x4759 =>
  (idx tuples x4759).bind fun x4761 =>
  (app s4725.2.1 ([x4761])).bind fun y4768 =>
  some (.nx (y4755, y4768, w64 (s4725.2.2 + 1))) else some (.br (s4725.1, s4725.2.1, s4725.2.2)))) FU ([w64 ((-1) - k4304)], [], 0)).bind fun o4729 => after o4729 (fun r_ => some (.rt r_)) (fun s4725 =>
  (bif (decide ((s4725.1.length : Int) ≤ 60)) then (zR (a_.1, a_.2) k4304 s4725.2.1 k).bind fun r4786 =>
  (zP s4634.2.2 tuples r4786 s4725.1).bind fun r4789 =>
  some r4789 else some s4634.2.2).bind fun s4780 =>
  (zO s4634.1 (w64 ((w64 ((y3330.length : Int) - 1)) + 1))).bind fun r4791 =>
  some (.nx (r4791.1, r4791.2, s4780))) else (zO s4634.1 (w64 ((w64 ((y3330.length : Int) - 1)) + 1))).bind fun r4794 =>
  some (.nx (r4794.1, r4794.2, s4634.2.2))) else some (.br (s4634.1, s4634.2.1, s4634.2.2)))) FU (y4330, (decide (0 < x4326.1)), s4302)).bind fun o4638 => after o4638 (fun r_ => some (.rt r_)) (fun s4634 =>
  some (.nx s4634.2.2))) 0 (a_.2.length : Int) s3253.2.1).bind fun o4306 => after o4306 (fun r_ => some (.rt r_)) (fun s4302 =>
  some (.nx (y3330, s4302, List.set s3253.2.2 (Int.toNat s3293) true)))))) FU ([], s171, y10)).bind fun o3257 => after o3257 (fun r_ => some r_) (fun _ =>
  none)))
set_option maxHeartbeats 4000000 in
theorem VY {M : Nat → Prop} {w : World} {pa0 : Option Addr} {pn0 pc0 : Nat} {pa1 : Option Addr} {pn1 pc1 : Nat} {pa2 : Option Addr} {pn2 pc2 : Nat} (a_ : Int × (List (Int × (List Int)))) (k : Int) (gens : List (List Int)) (tuples : List (List Int)) (h0 : (RT.rs (RT.pr ri rl)).val M w (.slice pa0 pn0 pc0) a_.2 ([])) (h1 : (RT.rs rl).val M w (.slice pa1 pn1 pc1) gens ([])) (h2 : (RT.rs rl).val M w (.slice pa2 pn2 pc2) tuples ([])) (hM : ∀ g, w.heap.size ≤ g → M g) {r : (List (List Int))} (hs : YC a_ k gens tuples = some r) :
    Gives Tryz.prog 79 [(.agg #[(iv a_.1), (.slice pa0 pn0 pc0)]), (iv k), (.slice pa1 pn1 pc1), (.slice pa2 pn2 pc2)] w (fun v w' => ∃ (ra0 : Option Addr) (rn0 rc0 : Nat) (rf0 : List Nat), v = (.slice ra0 rn0 rc0) ∧ Chg [] w w' ∧ (RT.os 34 (RT.os 3 ri)).val M w' (.slice ra0 rn0 rc0) r rf0 ∧ Own (Nw w []) (fun _ => True) w' (rf0 ++ ([]))) := by
 refine zq Tryz.func79 rfl Tryz.ntmps79 (Nat.le_of_ble_eq_true rfl) ?_
 have hO := Own.start (N := Nw w []) hM Nw.fut
 have hC := Chg.refl [] w
 unfold YC at hs
 refine wp_k (K := (yy M w r)) (by rintro _ _ ⟨σ, ra0, rn0, rc0, rf0, rfl, hrest⟩; exact Zc Tryz.results79 (zA rfl) ⟨ra0, rn0, rc0, rf0, rfl, hrest⟩) (c_sr ?_)
 obtain ⟨t2, a1, J1, C4, n9, a0⟩ := zi w [(iv a_.1), (.slice pa0 pn0 pc0)] 30
 refine za (w' := t2) (pq a1 0) (Zx rfl (by rw [J1, C4]; kernel_rfl)) ?_
 obtain ⟨h0, h1, h2, hC⟩ := xt4 n9 h0 h1 h2 hC
 have hO := hO.new1 n9 C4 a0.lt
 refine ax rfl (zb (zd ?_))
 obtain ⟨y7, o0, hs⟩ := bind_some hs
 obtain ⟨y10, o1, hs⟩ := bind_some hs
 refine yB (I := fun a f9 => ∃ (σ : Nat → Value) (a4 : Option Addr) (a8 : Option Addr) (a5 : Nat) (a9 : Nat) (q3 : List Nat) (d3 : List Nat) (b2 : Nat) (a6 : Nat) (b0 : Nat), a = fr 215 (ovl σ [(1, (iv k)), (2, (.slice pa1 pn1 pc1)), (3, (.slice pa2 pn2 pc2)), (4, (pq a1 0)), (8, (.slice none 0 0)), (9, (.slice a4 a6 a5)), (10, (.slice a8 b0 a9)), (11, (.slice (some ⟨b2, 0, none⟩) 0 0))]) ∧ Chg [] w f9 ∧ Own (Nw w []) M f9 (([b2]) ++ (d3 ++ (q3 ++ (([a1]) ++ [])))) ∧ (RT.rs (RT.pr ri rl)).val M f9 (.slice pa0 pn0 pc0) a_.2 ([]) ∧ (RT.rs rl).val M f9 (.slice pa1 pn1 pc1) gens ([]) ∧ (RT.rs rl).val M f9 (.slice pa2 pn2 pc2) tuples ([]) ∧ BoxV f9 a1 30 [(iv a_.1), (.slice pa0 pn0 pc0)] ∧ (RT.os 34 (RT.os 3 ri)).val M f9 (.slice a4 a6 a5) y7 q3 ∧ (RT.os 4 RT.bool).val M f9 (.slice a8 b0 a9) y10 d3 ∧ (RT.os 3 ri).val M f9 (.slice (some ⟨b2, 0, none⟩) 0 0) ([]) ([b2])) ?_ ?_
 ·skip
  refine zX [] Mx rfl ?_
  have l4 := Chg.drew t2
  generalize World.drew t2 = q4 at l4 ⊢
  obtain ⟨h0, h1, h2, a0, hC, hO⟩ := xt6 l4 h0 h1 h2 a0 hC hO
  have hS := Chg.refl [] q4
  refine xms 0 rfl rfl hS (xq 1 _ rfl (zn Sl45 (zx h2) rfl) hS (xms 3 rfl rfl hS (xq 4 _ rfl (zn Sl45 (zx h2) rfl) hS (x_many [2, 5, 6] (by kernel_rfl) (fun h => nomatch h) (all3 ?_ ?_ ?_)))))
  ·skip
   obtain ⟨q5, q6, q7, t3, C5, J2, k1, J3, e7⟩ := xd (M := M) (w := q4) (r := (RT.os 3 ri)) Rw45 o0 (fun _ _ => (ZF xY))
   refine zT (w' := t3) (b := false) (.slice q5 q6 q7) rfl  (yN rfl rfl J2) rfl (fun _ => hS.ext k1) ?_
   obtain ⟨h0, h1, h2, a0, hC⟩ := xt5 k1 h0 h1 h2 a0 hC
   have hO := hO.new k1 J3 (zy e7) e7.fpl
   have hS := hS.ext k1
   refine xq 7 (.slice q5 q6 q7) rfl (zD rfl) hS (wK (i := 5) (j := 6) (by kernel_rfl) ?_ ?_)
   ·skip
    obtain ⟨t4, t5, t6, C6, J4, J5, h8, J6, o2⟩ := xd (M := M) (w := t3) (r := RT.bool) zaY o1 (fun _ _ => ⟨rfl, rfl⟩)
    refine zT (w' := C6) (b := false) (.slice t4 t5 t6) rfl  (yN rfl rfl J5) rfl (fun _ => hS.ext h8) ?_
    obtain ⟨h0, h1, h2, a0, e7, hC⟩ := xt6 h8 h0 h1 h2 a0 e7 hC
    have hO := hO.new h8 J6 (zy o2) o2.fpl
    have hS := hS.ext h8
    refine xq 8 (.slice t4 t5 t6) rfl (zD rfl) hS (zM (i := 6) (by kernel_rfl) ?_)
    obtain ⟨C7, o3, J7, C8, g0, C9⟩ := zi C6 [] 3
    refine zT (w' := C7) (b := false) (.slice (some ⟨o3, 0, none⟩) 0 0) rfl  (zC rfl (by rw [J7, C8]; kernel_rfl)) rfl (fun _ => hS.ext g0) ?_
    obtain ⟨h0, h1, h2, a0, e7, o2, hC⟩ := xt7 g0 h0 h1 h2 a0 e7 o2 hC
    have hO := hO.new1 g0 C8 C9.lt
    have t7 := os0 (r := ri) (M := M) C9
    have hS := hS.ext g0
    refine xq 9 (.slice (some ⟨o3, 0, none⟩) 0 0) rfl (zD rfl) hS (Za (by kernel_rfl) ?_)
    clear hS
    have hO := hO.fr3.fr3.fr3.fr3
    exact ⟨_, q5, t4, q7, t6, C5, J4, o3, q6, t5, fr_m 215 rfl, hC, hO, h0, h1, h2, a0, e7, o2, t7⟩
   ·skip
    obtain ⟨t8, o4, J8, D0, h9, D1⟩ := zi t3 [] 3
    refine zT (w' := t8) (b := false) (.slice (some ⟨o4, 0, none⟩) 0 0) rfl  (zC rfl (by rw [J8, D0]; kernel_rfl)) rfl (fun _ => hS.ext h9) ?_
    obtain ⟨h0, h1, h2, a0, e7, hC⟩ := xt6 h9 h0 h1 h2 a0 e7 hC
    have hO := hO.new1 h9 D0 D1.lt
    have o5 := os0 (r := ri) (M := M) D1
    have hS := hS.ext h9
    refine zM (i := 5) (by kernel_rfl) ?_
    obtain ⟨t9, u0, u1, J9, K0, K1, g1, K2, u2⟩ := xd (M := M) (w := t8) (r := RT.bool) zaY o1 (fun _ _ => ⟨rfl, rfl⟩)
    refine zT (w' := J9) (b := false) (.slice t9 u0 u1) rfl  (yN rfl rfl K1) rfl (fun _ => hS.ext g1) ?_
    obtain ⟨h0, h1, h2, a0, e7, o5, hC⟩ := xt7 g1 h0 h1 h2 a0 e7 o5 hC
    have hO := hO.new g1 K2 (zy u2) u2.fpl
    have hS := hS.ext g1
    refine xq 8 (.slice t9 u0 u1) rfl (zD rfl) hS (xq 9 (.slice (some ⟨o4, 0, none⟩) 0 0) rfl (zD rfl) hS (Za (by kernel_rfl) ?_))
    clear hS
    have hO := hO.fr3.fr3.fr2.fr3
    exact ⟨_, q5, t9, q7, u1, C5, K0, o4, q6, u0, fr_m 215 rfl, hC, hO, h0, h1, h2, a0, e7, u2, o5⟩
  ·skip
   obtain ⟨o6, o7, o8, u3, D2, K3, k2, K4, e8⟩ := xd (M := M) (w := q4) (r := RT.bool) zaY o1 (fun _ _ => ⟨rfl, rfl⟩)
   refine zT (w' := u3) (b := false) (.slice o6 o7 o8) rfl  (yN rfl rfl K3) rfl (fun _ => hS.ext k2) ?_
   obtain ⟨h0, h1, h2, a0, hC⟩ := xt5 k2 h0 h1 h2 a0 hC
   have hO := hO.new k2 K4 (zy e8) e8.fpl
   have hS := hS.ext k2
   refine wK (i := 2) (j := 6) (by kernel_rfl) ?_ ?_
   ·skip
    obtain ⟨u4, u5, u6, D3, K5, K6, i0, K7, o9⟩ := xd (M := M) (w := u3) (r := (RT.os 3 ri)) Rw45 o0 (fun _ _ => (ZF xY))
    refine zT (w' := D3) (b := false) (.slice u4 u5 u6) rfl  (yN rfl rfl K6) rfl (fun _ => hS.ext i0) ?_
    obtain ⟨h0, h1, h2, a0, e8, hC⟩ := xt6 i0 h0 h1 h2 a0 e8 hC
    have hO := hO.new i0 K7 (zy o9) o9.fpl
    have hS := hS.ext i0
    refine xq 7 (.slice u4 u5 u6) rfl (zD rfl) hS (xq 8 (.slice o6 o7 o8) rfl (zD rfl) hS (zM (i := 6) (by kernel_rfl) ?_))
    obtain ⟨D4, p0, K8, D5, g2, D6⟩ := zi D3 [] 3
    refine zT (w' := D4) (b := false) (.slice (some ⟨p0, 0, none⟩) 0 0) rfl  (zC rfl (by rw [K8, D5]; kernel_rfl)) rfl (fun _ => hS.ext g2) ?_
    obtain ⟨h0, h1, h2, a0, e8, o9, hC⟩ := xt7 g2 h0 h1 h2 a0 e8 o9 hC
    have hO := hO.new1 g2 D5 D6.lt
    have u7 := os0 (r := ri) (M := M) D6
    have hS := hS.ext g2
    refine xq 9 (.slice (some ⟨p0, 0, none⟩) 0 0) rfl (zD rfl) hS (Za (by kernel_rfl) ?_)
    clear hS
    have hO := hO.fr3.fr2.fr3.fr3
    exact ⟨_, u4, o6, u6, o8, K5, D2, p0, u5, o7, fr_m 215 rfl, hC, hO, h0, h1, h2, a0, o9, e8, u7⟩
   ·skip
    obtain ⟨u9, p1, K9, D7, i1, D8⟩ := zi u3 [] 3
    refine zT (w' := u9) (b := false) (.slice (some ⟨p1, 0, none⟩) 0 0) rfl  (zC rfl (by rw [K9, D7]; kernel_rfl)) rfl (fun _ => hS.ext i1) ?_
    obtain ⟨h0, h1, h2, a0, e8, hC⟩ := xt6 i1 h0 h1 h2 a0 e8 hC
    have hO := hO.new1 i1 D7 D8.lt
    have p2 := os0 (r := ri) (M := M) D8
    have hS := hS.ext i1
    refine zM (i := 2) (by kernel_rfl) ?_
    obtain ⟨v0, v1, v2, L0, L1, L2, g3, L3, v3⟩ := xd (M := M) (w := u9) (r := (RT.os 3 ri)) Rw45 o0 (fun _ _ => (ZF xY))
    refine zT (w' := L0) (b := false) (.slice v0 v1 v2) rfl  (yN rfl rfl L2) rfl (fun _ => hS.ext g3) ?_
    obtain ⟨h0, h1, h2, a0, e8, p2, hC⟩ := xt7 g3 h0 h1 h2 a0 e8 p2 hC
    have hO := hO.new g3 L3 (zy v3) v3.fpl
    have hS := hS.ext g3
    refine xq 7 (.slice v0 v1 v2) rfl (zD rfl) hS (xq 8 (.slice o6 o7 o8) rfl (zD rfl) hS (xq 9 (.slice (some ⟨p1, 0, none⟩) 0 0) rfl (zD rfl) hS (Za (by kernel_rfl) ?_)))
    clear hS
    have hO := hO.fr3.fr1.fr3.fr3
    exact ⟨_, v0, o6, v2, o8, L1, D2, p1, v1, o7, fr_m 215 rfl, hC, hO, h0, h1, h2, a0, v3, e8, p2⟩
  ·skip
   obtain ⟨q8, l5, L4, D9, k3, E0⟩ := zi q4 [] 3
   refine zT (w' := q8) (b := false) (.slice (some ⟨l5, 0, none⟩) 0 0) rfl  (zC rfl (by rw [L4, D9]; kernel_rfl)) rfl (fun _ => hS.ext k3) ?_
   obtain ⟨h0, h1, h2, a0, hC⟩ := xt5 k3 h0 h1 h2 a0 hC
   have hO := hO.new1 k3 D9 E0.lt
   have e9 := os0 (r := ri) (M := M) E0
   have hS := hS.ext k3
   refine wK (i := 2) (j := 5) (by kernel_rfl) ?_ ?_
   ·skip
    obtain ⟨v4, v5, v6, E1, L5, L6, i2, L7, p3⟩ := xd (M := M) (w := q8) (r := (RT.os 3 ri)) Rw45 o0 (fun _ _ => (ZF xY))
    refine zT (w' := E1) (b := false) (.slice v4 v5 v6) rfl  (yN rfl rfl L6) rfl (fun _ => hS.ext i2) ?_
    obtain ⟨h0, h1, h2, a0, e9, hC⟩ := xt6 i2 h0 h1 h2 a0 e9 hC
    have hO := hO.new i2 L7 (zy p3) p3.fpl
    have hS := hS.ext i2
    refine xq 7 (.slice v4 v5 v6) rfl (zD rfl) hS (zM (i := 5) (by kernel_rfl) ?_)
    obtain ⟨v7, v8, v9, L8, L9, M0, g4, M1, w1⟩ := xd (M := M) (w := E1) (r := RT.bool) zaY o1 (fun _ _ => ⟨rfl, rfl⟩)
    refine zT (w' := L8) (b := false) (.slice v7 v8 v9) rfl  (yN rfl rfl M0) rfl (fun _ => hS.ext g4) ?_
    obtain ⟨h0, h1, h2, a0, e9, p3, hC⟩ := xt7 g4 h0 h1 h2 a0 e9 p3 hC
    have hO := hO.new g4 M1 (zy w1) w1.fpl
    have hS := hS.ext g4
    refine xq 8 (.slice v7 v8 v9) rfl (zD rfl) hS (xq 9 (.slice (some ⟨l5, 0, none⟩) 0 0) rfl (zD rfl) hS (Za (by kernel_rfl) ?_))
    clear hS
    have hO := hO.fr3.fr2.fr2.fr3
    exact ⟨_, v4, v7, v6, v9, L5, L9, l5, v5, v8, fr_m 215 rfl, hC, hO, h0, h1, h2, a0, p3, w1, e9⟩
   ·skip
    obtain ⟨w2, w3, w4, E2, M2, M3, i3, M4, p4⟩ := xd (M := M) (w := q8) (r := RT.bool) zaY o1 (fun _ _ => ⟨rfl, rfl⟩)
    refine zT (w' := E2) (b := false) (.slice w2 w3 w4) rfl  (yN rfl rfl M3) rfl (fun _ => hS.ext i3) ?_
    obtain ⟨h0, h1, h2, a0, e9, hC⟩ := xt6 i3 h0 h1 h2 a0 e9 hC
    have hO := hO.new i3 M4 (zy p4) p4.fpl
    have hS := hS.ext i3
    refine zM (i := 2) (by kernel_rfl) ?_
    obtain ⟨w5, w6, w7, M5, M6, M7, g5, M8, w8⟩ := xd (M := M) (w := E2) (r := (RT.os 3 ri)) Rw45 o0 (fun _ _ => (ZF xY))
    refine zT (w' := M5) (b := false) (.slice w5 w6 w7) rfl  (yN rfl rfl M7) rfl (fun _ => hS.ext g5) ?_
    obtain ⟨h0, h1, h2, a0, e9, p4, hC⟩ := xt7 g5 h0 h1 h2 a0 e9 p4 hC
    have hO := hO.new g5 M8 (zy w8) w8.fpl
    have hS := hS.ext g5
    refine xq 7 (.slice w5 w6 w7) rfl (zD rfl) hS (xq 8 (.slice w2 w3 w4) rfl (zD rfl) hS (xq 9 (.slice (some ⟨l5, 0, none⟩) 0 0) rfl (zD rfl) hS (Za (by kernel_rfl) ?_)))
    clear hS
    have hO := hO.fr3.fr1.fr2.fr3
    exact ⟨_, w5, w2, w7, w4, M6, M2, l5, w6, w3, fr_m 215 rfl, hC, hO, h0, h1, h2, a0, w8, p4, e9⟩
 rintro e1 f9 ⟨σ, a4, a8, a5, a9, q3, d3, b2, a6, b0, rfl, hC, hO, h0, h1, h2, a0, M9, b3, b4⟩
 refine zd (c_sr (ai rfl (zb ?_)))
 obtain ⟨o124, N0, hs⟩ := bind_some hs
 refine wp_block (zZ (id := 0) (gens.length : Int) (I := fun k122 s120 a c1 => ∃ (σ : Nat → Value) (k4 : List Nat), a = fr 215 (ovl σ [(1, (iv k)), (2, (.slice pa1 pn1 pc1)), (3, (.slice pa2 pn2 pc2)), (4, (pq a1 0)), (9, (.slice a4 a6 a5)), (10, (.slice a8 b0 a9)), (11, (.slice (some ⟨b2, 0, none⟩) 0 0)), (12, (iv k122))]) ∧ Chg [] w c1 ∧ Own (Nw w []) M c1 (([b2]) ++ (d3 ++ (k4 ++ (([a1]) ++ [])))) ∧ (RT.rs (RT.pr ri rl)).val M c1 (.slice pa0 pn0 pc0) a_.2 ([]) ∧ (RT.rs rl).val M c1 (.slice pa1 pn1 pc1) gens ([]) ∧ (RT.rs rl).val M c1 (.slice pa2 pn2 pc2) tuples ([]) ∧ BoxV c1 a1 30 [(iv a_.1), (.slice pa0 pn0 pc0)] ∧ (RT.os 34 (RT.os 3 ri)).val M c1 (.slice a4 a6 a5) s120 k4 ∧ (RT.os 4 RT.bool).val M c1 (.slice a8 b0 a9) y10 d3 ∧ (RT.os 3 ri).val M c1 (.slice (some ⟨b2, 0, none⟩) 0 0) ([]) ([b2])) (J := fun s120 a c1 => ∃ (σ : Nat → Value) (q9 : List Nat), a = fr 215 (ovl σ [(1, (iv k)), (3, (.slice pa2 pn2 pc2)), (4, (pq a1 0)), (9, (.slice a4 a6 a5)), (10, (.slice a8 b0 a9)), (11, (.slice (some ⟨b2, 0, none⟩) 0 0))]) ∧ Chg [] w c1 ∧ Own (Nw w []) M c1 (([b2]) ++ (d3 ++ (q9 ++ (([a1]) ++ [])))) ∧ (RT.rs (RT.pr ri rl)).val M c1 (.slice pa0 pn0 pc0) a_.2 ([]) ∧ (RT.rs rl).val M c1 (.slice pa1 pn1 pc1) gens ([]) ∧ (RT.rs rl).val M c1 (.slice pa2 pn2 pc2) tuples ([]) ∧ BoxV c1 a1 30 [(iv a_.1), (.slice pa0 pn0 pc0)] ∧ (RT.os 34 (RT.os 3 ri)).val M c1 (.slice a4 a6 a5) s120 q9 ∧ (RT.os 4 RT.bool).val M c1 (.slice a8 b0 a9) y10 d3 ∧ (RT.os 3 ri).val M c1 (.slice (some ⟨b2, 0, none⟩) 0 0) ([]) ([b2])) (K := (yy M w)) ?_ ?_ 0 y7 o124 _ _ ?_ N0 ?_)
 ·rintro k122 s120 a c1 ⟨σ, k4, rfl, hC, hO, h0, h1, h2, a0, f0, b3, b4⟩ hlt
  refine zd (c_sr (mi rfl (ms rfl (za _ (zn Sl45 (zx h1) rfl) (za _ (zz rfl rfl) (zb (zh (cb (decide_eq_false hlt)) (wp_exit ?_))))))))
  have hO := hO.fr3.fr3.fr3.fr3
  exact ⟨rfl, _, k4, fr_m 215 rfl, hC, hO, h0, h1, h2, a0, f0, b3, b4⟩
 ·rintro k122 s120 o124 a c1 ⟨σ, k4, rfl, hC, hO, h0, h1, h2, a0, f0, b3, b4⟩ hlt hw hs
  refine zd (c_sr (mi rfl (ms rfl (za _ (zn Sl45 (zx h1) rfl) (za _ (zz rfl rfl) (zb (zg (cb (decide_eq_true hlt)) (wp_skip (zd (wp_block (c_sr (ms rfl (ms rfl (mi rfl ?_))))))))))))))
  obtain ⟨x128, N1, hs⟩ := bind_some hs
  obtain ⟨N2, N3, N4, w9⟩ := zJ Sl45 Sz34 h1 N1
  refine za _ (N4 _ _ _ _ _ _ _ _ _ rfl rfl) ?_
  obtain ⟨a39, N5, r0⟩ := Zp Ag34 Sz34 (fun _ => rfl) w9
  obtain ⟨N6, N7, N8, rfl⟩ := yn r0
  refine za (.slice N6 N7 N8) (zp rfl (N5 _ (Chg.refl _ _))) ?_
  obtain ⟨r133, N9, hs⟩ := bind_some hs
  refine zw Bd50 rfl (Yw (M := M) tuples x128 h2 r0 hO.fut N9) ?_
  rintro _ O0 ⟨rfl, f2⟩
  obtain ⟨h0, h1, h2, a0, f0, b3, b4, r0⟩ := xt8 f2 h0 h1 h2 a0 f0 b3 b4 r0
  obtain ⟨w9, hC, hO⟩ := xt3 f2 w9 hC hO
  refine za (.tuple #[(iv r133.1), (.bool r133.2)]) (zr rfl) (za (iv r133.1) (zK rfl (by kernel_rfl)) (za (.bool r133.2) (zK rfl (by kernel_rfl)) (ai rfl (ab rfl (zb (c_sr (ms rfl (mi rfl ?_))))))))
  obtain ⟨x134, O1, hs⟩ := bind_some hs
  obtain ⟨O2, a40, a41, a42, O3, O4, O5⟩ := zW Sl45 Sz34 f0 O1
  have O6 := Zz (Frz.os Frz.int) O4 O5
  refine za _ (O3 _ _ _ _ _ _ _ _ _ rfl rfl) ?_
  obtain ⟨a43, O7, hrow136, E3⟩ := ZN Ag34 Sz34 rfl rfl O6
  obtain ⟨O8, O9, P0, rfl⟩ := yn E3
  refine za (.slice O8 O9 P0) (zp rfl (O7 _ (Chg.refl _ _))) (za _ (zn Sl34 (zx E3) rfl) (za (.bool ((x134.length : Int) == 0)) (xe rfl rfl) (zb ?_)))
  rcases zf hs with ⟨x0, hs⟩ | ⟨x0, hs⟩
  ·refine zg (cb x0) (ze (ms rfl (mi rfl (mi rfl ?_))))
   obtain ⟨E4, m8, P1, E5, i4, E6⟩ := zi O0 [(iv k122)] 3
   refine za (w' := E4) (.slice (some ⟨m8, 0, none⟩) 1 1) (zC rfl (by rw [P1, E5]; kernel_rfl)) ?_
   obtain ⟨h0, h1, h2, a0, f0, b3, b4, hC⟩ := xt8 i4 h0 h1 h2 a0 f0 b3 b4 hC
   have hO := hO.new1 i4 E5 E6.lt
   have x1 := zQ (r := ri) (M := M) (css := [[(iv k122)]]) (fps := [([] : List Nat)]) (xs := ([k122] : List Int)) E6 ⟨⟨rfl, rfl⟩, trivial⟩ (Nat.le_of_ble_eq_true rfl) (List.nodup_cons.2 ⟨(fun h => nomatch h), List.nodup_nil⟩)
   have x1 : (RT.os 3 ri).val M E4 (.slice (some ⟨m8, 0, none⟩) 1 1) [k122] [m8] := x1
   obtain ⟨x141, P2, hs⟩ := bind_some hs
   obtain ⟨E7, a44, E8, P3, P4, P5, P6⟩ := zW Sl45 Sz34 f0 P2
   have a45 := Zz (Frz.os Frz.int) P5 P6
   refine za _ (P4 _ _ _ _ _ _ _ _ _ rfl rfl) ?_
   have hO := hO.fr3
   obtain ⟨P7, P8, P9, k5, Q0, x2⟩ := yx (P := Tryz.prog) (c' := [(.slice (some ⟨m8, 0, none⟩) 1 1)]) E8 f0 P3 (fun g hg => hO.inM g (zB f0 g (by simpa using hg))) (ZF x1) (hO.drop.perm (R := ([m8]) ++ (([b2]) ++ (d3 ++ (([a1]) ++ ([]))))) (by simp)).nd (fun g hg hq => hO.apart g hq (by simp only [List.mem_append, List.not_mem_nil, false_or, or_false] at hg ⊢; simp [hg])) (fun _ h => .inl h)
   have l6 : ∀ q ∈ [E7], q ∈ k4 := fun q hq => zB f0 q (by rw [E8]; exact hq)
   refine Zm (w' := P7) (zY rfl rfl (P9 _ _ rfl Sz34)) ?_
   have hO := hO.fr1.fr1
   have h0 := h0.mt k5 hO l6
   have h1 := h1.mt k5 hO l6
   have h2 := h2.mt k5 hO l6
   have a0 := a0.ap k5 hO l6 (zl (zl (zl (zm (List.mem_singleton.2 rfl)))))
   have b3 := b3.ma k5 hO l6 (fun _ e => (zl (zl (zm (e)))))
   have b4 := b4.ma k5 hO l6 (fun _ e => (zl (zm (e))))
   have hC := hC.st k5 hO l6
   have hO := (hO.perm (R := k4 ++ (([m8]) ++ (([b2]) ++ (d3 ++ (([a1]) ++ ([])))))) (by simp)).eat k5 (fun q hq => (Q0 q hq).elim .inl (fun h => .inr (.inl h))) (zy x2) x2.fpl
   refine zb (ze (mi rfl (za _ (yad rfl rfl) (ai rfl (zb ?_)))))
   cases hs
   have hO := hO.fr3.fr1.fr3.fr3
   exact ⟨_, P8, zF 215 ⟨rfl, rfl, rfl, rfl, rfl, rfl, rfl, congrArg (Value.int .i64) hw, trivial⟩, hC, hO, h0, h1, h2, a0, x2, b3, b4⟩
  refine zh (cb x0) (wp_skip (ze (mi rfl (za _ (yad rfl rfl) (ai rfl (zb ?_))))))
  cases hs
  have hO := hO.fr3.fr3.fr3.fr3
  exact ⟨_, k4, zF 215 ⟨rfl, rfl, rfl, rfl, rfl, rfl, rfl, congrArg (Value.int .i64) hw, trivial⟩, hC, hO, h0, h1, h2, a0, f0, b3, b4⟩
 ·skip
  have hO := hO.fr3.fr3.fr3.fr3
  exact ⟨_, q3, fr_m 215 rfl, hC, hO, h0, h1, h2, a0, M9, b3, b4⟩
 cases o124 with
 | nx _ => exact True.intro
 | rt r_ =>
  have hs := zu hs
  intro e1 l3 hK
  cases hs
  exact hK
 | br s120 =>
  have hs := zt hs
  rintro e1 c1 ⟨σ, q9, rfl, hC, hO, h0, h1, h2, a0, Q1, b3, b4⟩
  refine zd (c_sr (ai rfl (zb ?_)))
  obtain ⟨o175, Q2, hs⟩ := bind_some hs
  refine wp_block (zZ (id := 2) (a_.2.length : Int) (I := fun k173 s171 a c3 => ∃ (σ : Nat → Value) (i5 : List Nat), a = fr 215 (ovl σ [(1, (iv k)), (3, (.slice pa2 pn2 pc2)), (4, (pq a1 0)), (9, (.slice a4 a6 a5)), (10, (.slice a8 b0 a9)), (11, (.slice (some ⟨b2, 0, none⟩) 0 0)), (15, (iv k173))]) ∧ Chg [] w c3 ∧ Own (Nw w []) M c3 (([b2]) ++ (d3 ++ (i5 ++ (([a1]) ++ [])))) ∧ (RT.rs (RT.pr ri rl)).val M c3 (.slice pa0 pn0 pc0) a_.2 ([]) ∧ (RT.rs rl).val M c3 (.slice pa2 pn2 pc2) tuples ([]) ∧ BoxV c3 a1 30 [(iv a_.1), (.slice pa0 pn0 pc0)] ∧ (RT.os 34 (RT.os 3 ri)).val M c3 (.slice a4 a6 a5) s171 i5 ∧ (RT.os 4 RT.bool).val M c3 (.slice a8 b0 a9) y10 d3 ∧ (RT.os 3 ri).val M c3 (.slice (some ⟨b2, 0, none⟩) 0 0) ([]) ([b2])) (J := fun s171 a c3 => ∃ (σ : Nat → Value) (r1 : List Nat), a = fr 215 (ovl σ [(1, (iv k)), (3, (.slice pa2 pn2 pc2)), (4, (pq a1 0)), (9, (.slice a4 a6 a5)), (10, (.slice a8 b0 a9)), (11, (.slice (some ⟨b2, 0, none⟩) 0 0))]) ∧ Chg [] w c3 ∧ Own (Nw w []) M c3 (([b2]) ++ (d3 ++ (r1 ++ (([a1]) ++ [])))) ∧ (RT.rs (RT.pr ri rl)).val M c3 (.slice pa0 pn0 pc0) a_.2 ([]) ∧ (RT.rs rl).val M c3 (.slice pa2 pn2 pc2) tuples ([]) ∧ BoxV c3 a1 30 [(iv a_.1), (.slice pa0 pn0 pc0)] ∧ (RT.os 34 (RT.os 3 ri)).val M c3 (.slice a4 a6 a5) s171 r1 ∧ (RT.os 4 RT.bool).val M c3 (.slice a8 b0 a9) y10 d3 ∧ (RT.os 3 ri).val M c3 (.slice (some ⟨b2, 0, none⟩) 0 0) ([]) ([b2])) (K := (yy M w)) ?_ ?_ 0 s120 o175 _ _ ?_ Q2 ?_)
  ·rintro k173 s171 a c3 ⟨σ, i5, rfl, hC, hO, h0, h2, a0, g6, b3, b4⟩ hlt
   refine zd (c_sr (mi rfl (za (pq a1 1) (zj rfl Zs) (za _ (ld rfl Ag28 Sz28 a0 rfl) (za _ (zn Sl28 (zx h0) rfl) (za _ (zz rfl rfl) (zb (zh (cb (decide_eq_false hlt)) (wp_exit ?_)))))))))
   have hO := hO.fr3.fr3.fr3.fr3
   exact ⟨rfl, _, i5, fr_m 215 rfl, hC, hO, h0, h2, a0, g6, b3, b4⟩
  ·rintro k173 s171 o175 a c3 ⟨σ, i5, rfl, hC, hO, h0, h2, a0, g6, b3, b4⟩ hlt hw hs
   refine zd (c_sr (mi rfl (za (pq a1 1) (zj rfl Zs) (za _ (ld rfl Ag28 Sz28 a0 rfl) (za _ (zn Sl28 (zx h0) rfl) (za _ (zz rfl rfl) (zb (zg (cb (decide_eq_true hlt)) (wp_skip (zd (wp_block (c_sr (za (pq a1 1) (zj rfl Zs) (za _ (ld rfl Ag28 Sz28 a0 rfl) (mi rfl ?_)))))))))))))))
   obtain ⟨x179, Q3, hs⟩ := bind_some hs
   obtain ⟨E9, F0, Q4, Q5⟩ := zJ Sl28 Sz77 h0 Q3
   refine za _ (Q4 _ _ _ _ _ _ _ _ _ rfl rfl) ?_
   obtain ⟨Q6, _⟩ := XM Q5
   refine za (.pointer (some ⟨E9, F0 + 0, none⟩)) (zj rfl yf) (za (iv x179.1) (zp rfl ((zo Ag3 Sz3 Q6) _ (Chg.refl _ _))) (za (.bool (x179.1 == 0)) (xe rfl rfl) (zb ?_)))
   rcases zf hs with ⟨x3, hs⟩ | ⟨x3, hs⟩
   ·refine zg (cb x3) (ze (ms rfl (ms rfl (za _ (ldw rfl Ag30 a0 Sz30) (mi rfl ?_)))))
    obtain ⟨F1, k6, Q7, F2, k7, F3⟩ := zi c3 [] 34
    refine za (w' := F1) (.slice (some ⟨k6, 0, none⟩) 0 0) (zC rfl (by rw [Q7, F2]; kernel_rfl)) ?_
    obtain ⟨h0, h2, a0, g6, b3, b4, hC⟩ := xt7 k7 h0 h2 a0 g6 b3 b4 hC
    have hO := hO.new1 k7 F2 F3.lt
    have i6 := os0 (r := (RT.os 3 ri)) (M := M) F3
    refine mi rfl ?_
    obtain ⟨r186, Q8, hs⟩ := bind_some hs
    refine zw Bd51 rfl (xw (M := (Less M ([k6]))) (a_.1, a_.2) k173 ([]) k (h0.sub Less.sub) (((Frz.os (Frz.os Frz.int))).val i6 Less.sub Less.not) hO.less.fut Q8) ?_
    rintro _ Q9 ⟨a46, a47, a48, r2, rfl, i7, l7, R0⟩
    obtain ⟨h0, h2, a0, g6, b3, b4, i6, hC⟩ := xt8 i7 h0 h2 a0 g6 b3 b4 i6 hC
    have hO := Own.join0 hO i7 R0
    have hO := hO.perm (R := r2 ++ (([k6]) ++ (([b2]) ++ (d3 ++ (i5 ++ (([a1]) ++ ([]))))))) (by simp)
    have l7 := l7.free (M' := M) (Free.os Free.int)
    refine mi rfl (za _ (ysu rfl rfl) ?_)
    obtain ⟨F4, p5, R1, F5, g7, F6⟩ := zi Q9 [(iv (w64 ((-1) - k173)))] 3
    refine za (w' := F4) (.slice (some ⟨p5, 0, none⟩) 1 1) (zC rfl (by rw [R1, F5]; kernel_rfl)) ?_
    obtain ⟨h0, h2, a0, g6, b3, b4, i6, l7⟩ := xt8 g7 h0 h2 a0 g6 b3 b4 i6 l7
    have hC := hC.ext g7
    have hO := hO.new1 g7 F5 F6.lt
    have x4 := zQ (r := ri) (M := M) (css := [[(iv (w64 ((-1) - k173)))]]) (fps := [([] : List Nat)]) (xs := ([w64 ((-1) - k173)] : List Int)) F6 ⟨⟨rfl, rfl⟩, trivial⟩ (Nat.le_of_ble_eq_true rfl) (List.nodup_cons.2 ⟨(fun h => nomatch h), List.nodup_nil⟩)
    have x4 : (RT.os 3 ri).val M F4 (.slice (some ⟨p5, 0, none⟩) 1 1) [w64 ((-1) - k173)] [p5] := x4
    have hO := hO.fr1.fr1.fr5
    have x5 := hO
    have x5 := x5.fr2
    have F7 := Own.lend (F := (i5 ++ (([p5]) ++ ([])))) (R := ([k6]) ++ (([b2]) ++ (d3 ++ (([a1]) ++ ([]))))) (Own.perm (x5.less) (by simp))
    obtain ⟨r191, R2, hs⟩ := bind_some hs
    refine zw Bd99 rfl (xG (M := (Less M r2)) s171 tuples r186 ([w64 ((-1) - k173)]) (g6.sub Less.sub) (h2.sub Less.sub) (((Frz.os Frz.int)).val l7 Less.sub Less.not) (x4.sub Less.sub) F7 F7.fut R2) ?_
    rintro _ a49 ⟨F8, rfl, i9, x6, R3⟩
    have hO := hO.fr2.fr2.fr2.perm (R := (i5 ++ (([p5]) ++ ([]))) ++ (r2 ++ (([k6]) ++ (([b2]) ++ (d3 ++ (([a1]) ++ ([]))))))) (by simp)
    have h0 := h0.mt i9 hO zk
    have h2 := h2.mt i9 hO zk
    have a0 := a0.ap i9 hO zk (zl (zl (zl (zl (zm (List.mem_singleton.2 rfl))))))
    have b3 := b3.ma i9 hO zk (fun _ e => (zl (zl (zl (zm (e))))))
    have b4 := b4.ma i9 hO zk (fun _ e => (zl (zl (zm (e)))))
    have i6 := i6.ma i9 hO zk (fun _ e => (zl (zm (e))))
    have l7 := l7.ma i9 hO zk (fun _ e => (zm (e)))
    have hC := hC.st i9 hO zk
    have hO := Own.join hO i9 R3
    have hO := hO.perm (R := F8 ++ (r2 ++ (([k6]) ++ (([b2]) ++ (d3 ++ (([a1]) ++ ([]))))))) (by simp)
    have x6 := x6.free (M' := M) (Free.os (Free.os Free.int))
    refine zb (ze (mi rfl (za _ (yad rfl rfl) (ai rfl (zb ?_)))))
    cases hs
    have hO := hO.fr1.drop.fr1.drop.fr3.fr1.fr3.fr3
    exact ⟨_, F8, zF 215 ⟨rfl, rfl, rfl, rfl, rfl, rfl, congrArg (Value.int .i64) hw, trivial⟩, hC, hO, h0, h2, a0, x6, b3, b4⟩
   refine zh (cb x3) (wp_skip (ze (mi rfl (za _ (yad rfl rfl) (ai rfl (zb ?_))))))
   cases hs
   have hO := hO.fr3.fr3.fr3.fr3
   exact ⟨_, i5, zF 215 ⟨rfl, rfl, rfl, rfl, rfl, rfl, congrArg (Value.int .i64) hw, trivial⟩, hC, hO, h0, h2, a0, g6, b3, b4⟩
  ·skip
   have hO := hO.fr3.fr3.fr3.fr3
   exact ⟨_, q9, fr_m 215 rfl, hC, hO, h0, h2, a0, Q1, b3, b4⟩
  cases o175 with
  | nx _ => exact True.intro
  | rt r_ =>
   have hs := zu hs
   intro e1 l3 hK
   cases hs
   exact hK
  | br s171 =>
   have hs := zt hs
   rintro e1 c3 ⟨σ, r1, rfl, hC, hO, h0, h2, a0, R4, b3, b4⟩
   obtain ⟨o3257, R5, hs⟩ := bind_some hs
   refine wp_block (Zo (id := 4) (I := fun s3253 a d4 => ∃ (σ : Nat → Value) (b9 : Nat → Prop) (j0 : Option Addr) (j1 : Nat) (j2 : Nat) (l8 : List Nat) (g8 : List Nat) (k8 : List Nat), a = fr 215 (ovl σ [(1, (iv k)), (3, (.slice pa2 pn2 pc2)), (4, (pq a1 0)), (9, (.slice a4 a6 a5)), (10, (.slice a8 b0 a9)), (11, (.slice j0 j1 j2))]) ∧ Chg [] w d4 ∧ Own (Nw w []) b9 d4 (l8 ++ (k8 ++ (g8 ++ (([a1]) ++ [])))) ∧ Keeps w M b9 ∧ (RT.rs (RT.pr ri rl)).val b9 d4 (.slice pa0 pn0 pc0) a_.2 ([]) ∧ (RT.rs rl).val b9 d4 (.slice pa2 pn2 pc2) tuples ([]) ∧ BoxV d4 a1 30 [(iv a_.1), (.slice pa0 pn0 pc0)] ∧ (RT.os 34 (RT.os 3 ri)).val b9 d4 (.slice a4 a6 a5) s3253.2.1 g8 ∧ (RT.os 4 RT.bool).val b9 d4 (.slice a8 b0 a9) s3253.2.2 k8 ∧ (RT.os 3 ri).val b9 d4 (.slice j0 j1 j2) s3253.1 l8) (J := fun s3253 a d4 => ∃ (σ : Nat → Value) (l9 : Nat → Prop) (R6 : Option Addr) (R7 : Nat) (R8 : Nat) (F9 : List Nat) (G0 : List Nat) (G1 : List Nat), a = fr 215 (ovl σ []) ∧ Chg [] w d4 ∧ Own (Nw w []) l9 d4 (F9 ++ (G1 ++ (G0 ++ (([a1]) ++ [])))) ∧ Keeps w M l9 ∧ (RT.rs (RT.pr ri rl)).val l9 d4 (.slice pa0 pn0 pc0) a_.2 ([]) ∧ (RT.rs rl).val l9 d4 (.slice pa2 pn2 pc2) tuples ([]) ∧ BoxV d4 a1 30 [(iv a_.1), (.slice pa0 pn0 pc0)] ∧ (RT.os 34 (RT.os 3 ri)).val l9 d4 (.slice a4 a6 a5) s3253.2.1 G0 ∧ (RT.os 4 RT.bool).val l9 d4 (.slice a8 b0 a9) s3253.2.2 G1 ∧ (RT.os 3 ri).val l9 d4 (.slice R6 R7 R8) s3253.1 F9) (K := (yy M w)) ?_ FU ([], s171, y10) o3257 _ _ ?_ R5 ?_)
   ·rintro s3253 o3257 a d4 ⟨σ, b9, j0, j1, j2, l8, g8, k8, rfl, hC, hO, hK, h0, h2, a0, b6, d5, d1⟩ hs
    refine wp_block (c_sr (ai rfl (zb (zd (c_sr (ai rfl (zb ?_)))))))
    obtain ⟨o3297, R9, hs⟩ := bind_some hs
    refine wp_block (zZ (id := 6) (s3253.2.1.length : Int) (I := fun k3295 s3293 a c0 => ∃ (σ : Nat → Value), a = fr 215 (ovl σ [(1, (iv k)), (3, (.slice pa2 pn2 pc2)), (4, (pq a1 0)), (9, (.slice a4 a6 a5)), (10, (.slice a8 b0 a9)), (11, (.slice j0 j1 j2)), (16, (iv s3293)), (17, (iv k3295))]) ∧ Chg [] w c0 ∧ Own (Nw w []) b9 c0 (l8 ++ (k8 ++ (g8 ++ (([a1]) ++ [])))) ∧ (RT.rs (RT.pr ri rl)).val b9 c0 (.slice pa0 pn0 pc0) a_.2 ([]) ∧ (RT.rs rl).val b9 c0 (.slice pa2 pn2 pc2) tuples ([]) ∧ BoxV c0 a1 30 [(iv a_.1), (.slice pa0 pn0 pc0)] ∧ (RT.os 34 (RT.os 3 ri)).val b9 c0 (.slice a4 a6 a5) s3253.2.1 g8 ∧ (RT.os 4 RT.bool).val b9 c0 (.slice a8 b0 a9) s3253.2.2 k8 ∧ (RT.os 3 ri).val b9 c0 (.slice j0 j1 j2) s3253.1 l8) (J := fun s3293 a c0 => ∃ (σ : Nat → Value), a = fr 215 (ovl σ [(1, (iv k)), (3, (.slice pa2 pn2 pc2)), (4, (pq a1 0)), (9, (.slice a4 a6 a5)), (10, (.slice a8 b0 a9)), (11, (.slice j0 j1 j2)), (16, (iv s3293))]) ∧ Chg [] w c0 ∧ Own (Nw w []) b9 c0 (l8 ++ (k8 ++ (g8 ++ (([a1]) ++ [])))) ∧ (RT.rs (RT.pr ri rl)).val b9 c0 (.slice pa0 pn0 pc0) a_.2 ([]) ∧ (RT.rs rl).val b9 c0 (.slice pa2 pn2 pc2) tuples ([]) ∧ BoxV c0 a1 30 [(iv a_.1), (.slice pa0 pn0 pc0)] ∧ (RT.os 34 (RT.os 3 ri)).val b9 c0 (.slice a4 a6 a5) s3253.2.1 g8 ∧ (RT.os 4 RT.bool).val b9 c0 (.slice a8 b0 a9) s3253.2.2 k8 ∧ (RT.os 3 ri).val b9 c0 (.slice j0 j1 j2) s3253.1 l8) (K := (yy M w)) ?_ ?_ 0 (-1) o3297 _ _ ?_ R9 ?_)
    ·rintro k3295 s3293 a c0 ⟨σ, rfl, hC, hO, h0, h2, a0, b6, d5, d1⟩ hlt
     refine zd (c_sr (mi rfl (ms rfl (za _ (zn Sl45 (ZL b6) rfl) (za _ (zz rfl rfl) (zb (zh (cb (decide_eq_false hlt)) (wp_exit ?_))))))))
     have hO := hO.fr3.fr3.fr3.fr3
     exact ⟨rfl, _, fr_m 215 rfl, hC, hO, h0, h2, a0, b6, d5, d1⟩
    ·rintro k3295 s3293 o3297 a c0 ⟨σ, rfl, hC, hO, h0, h2, a0, b6, d5, d1⟩ hlt hw hs
     refine zd (c_sr (mi rfl (ms rfl (za _ (zn Sl45 (ZL b6) rfl) (za _ (zz rfl rfl) (zb (zg (cb (decide_eq_true hlt)) (wp_skip (zd (wp_block (zd ?_)))))))))))
     obtain ⟨s3299, S0, hs⟩ := bind_some hs
     refine yB (I := fun a G2 => ∃ (σ : Nat → Value), a = fr 215 (ovl σ [(1, (iv k)), (3, (.slice pa2 pn2 pc2)), (4, (pq a1 0)), (9, (.slice a4 a6 a5)), (10, (.slice a8 b0 a9)), (11, (.slice j0 j1 j2)), (16, (iv s3293)), (17, (iv k3295)), (116, (.bool s3299))]) ∧ Chg [] c0 G2) ?_ ?_
     ·replace hs := S0
      have hMid := Chg.refl [] c0
      refine zX [] Mx rfl ?_
      have g9 := Chg.drew c0
      generalize World.drew c0 = S1 at g9 ⊢
      obtain ⟨h0, h2, a0, b6, d5, d1, hMid, hC⟩ := xt8 g9 h0 h2 a0 b6 d5 d1 hMid hC
      have hO := hO.ext g9
      have hS := Chg.refl [] S1
      refine xms 0 rfl rfl hS (xmi 1 rfl rfl hS ?_)
      obtain ⟨x3303, S2, hs⟩ := bind_some hs
      obtain ⟨S3, a50, a51, a52, S4, x7, a53⟩ := zW Sl116 Sz4 d5 S2
      refine xq 2 _ rfl (S4 _ _ _ _ _ _ _ _ _ rfl rfl) hS (x_l 3 (.bool x3303) rfl (by kernel_rfl)  (fun w' hw' => zp rfl ((UN Ag4 Sz4 x7) w' hw')) hS (xq 4 _ rfl (Zy rfl) hS (xmb 5 rfl rfl hS ?_)))
      rcases zf hs with ⟨e2, hs⟩ | ⟨e2, hs⟩
      ·skip
       refine xpy 6 94 (.slice a4 a6 a5) rfl (cb e2) (zr rfl) hS (xpy 7 94 (iv k3295) rfl (cb e2) (zr rfl) hS ?_)
       obtain ⟨x3306, S5, hs⟩ := bind_some hs
       obtain ⟨S6, a54, a55, a56, S7, x8, S8⟩ := zW Sl45 Sz34 b6 S5
       have x9 := Zz (Frz.os Frz.int) x8 S8
       refine xpy 8 94 _ rfl (cb e2) (S7 _ _ _ _ _ _ _ _ _ rfl rfl) hS ?_
       obtain ⟨a57, S9, hrow3308, r3⟩ := ZN Ag34 Sz34 rfl rfl x9
       obtain ⟨T0, T1, T2, rfl⟩ := yn r3
       refine x_ly 9 (.slice T0 T1 T2) rfl (by kernel_rfl) (tg := 94) (by kernel_rfl) (cb e2) (fun w' hw' => zp rfl (S9 w' hw')) hS (xpy 10 94 _ rfl (cb e2) (zn Sl34 (zx r3) rfl) hS (xpy 11 94 _ rfl (cb e2) (YB rfl rfl) hS (xq 12 _ rfl (ptb (cb e2) rfl) hS (xmb 13 rfl rfl hS ?_))))
       rcases zf hs with ⟨e6, hs⟩ | ⟨e6, hs⟩
       ·skip
        refine xpy 14 102 (iv s3293) rfl (cb e6) (zr rfl) hS (xpy 15 102 _ rfl (cb e6) (zz rfl rfl) hS (xpy 16 102 (.bool (decide (s3293 < 0))) rfl (cb e6) (zr rfl) hS ?_))
        rcases zf hs with ⟨c4, hs⟩ | ⟨c4, hs⟩
        ·skip
         refine xpn 17 105 rfl (cb c4) hS (xpn 18 105 rfl (cb c4) hS (xpn 19 105 rfl (cb c4) hS (xpn 20 105 rfl (cb c4) hS (xpn 21 105 rfl (cb c4) hS (xpn 22 105 rfl (cb c4) hS (xpn 23 105 rfl (cb c4) hS (xpn 24 105 rfl (cb c4) hS (xpn 25 105 rfl (cb c4) hS (xpy 26 102 _ rfl (cb e6) (ptb (cb c4) rfl) hS (xq 27 _ rfl (ptb (cb e6) rfl) hS (Za (by kernel_rfl) ?_)))))))))))
         clear hS
         cases hs
         exact ⟨_, fr_m 215 rfl, hMid⟩
        refine xpy 17 105 (.slice a4 a6 a5) rfl (cb c4) (zr rfl) hS (xpy 18 105 (iv k3295) rfl (cb c4) (zr rfl) hS ?_)
        obtain ⟨x3312, T3, hs⟩ := bind_some hs
        obtain ⟨T4, a58, a59, a60, T5, y0, T6⟩ := zW Sl45 Sz34 b6 T3
        have y1 := Zz (Frz.os Frz.int) y0 T6
        refine xpy 19 105 _ rfl (cb c4) (T5 _ _ _ _ _ _ _ _ _ rfl rfl) hS ?_
        obtain ⟨a61, T7, hrow3314, r4⟩ := ZN Ag34 Sz34 rfl rfl y1
        obtain ⟨T8, T9, U0, rfl⟩ := yn r4
        refine x_ly 20 (.slice T8 T9 U0) rfl (by kernel_rfl) (tg := 105) (by kernel_rfl) (cb c4) (fun w' hw' => zp rfl (T7 w' hw')) hS (xpy 21 105 (.slice a4 a6 a5) rfl (cb c4) (zr rfl) hS (xpy 22 105 (iv s3293) rfl (cb c4) (zr rfl) hS ?_))
        obtain ⟨x3316, U1, hs⟩ := bind_some hs
        obtain ⟨U2, a62, a63, a64, U3, y2, U4⟩ := zW Sl45 Sz34 b6 U1
        have y3 := Zz (Frz.os Frz.int) y2 U4
        refine xpy 23 105 _ rfl (cb c4) (U3 _ _ _ _ _ _ _ _ _ rfl rfl) hS ?_
        obtain ⟨a65, U5, hrow3318, r5⟩ := ZN Ag34 Sz34 rfl rfl y3
        obtain ⟨U6, U7, U8, rfl⟩ := yn r5
        refine x_ly 24 (.slice U6 U7 U8) rfl (by kernel_rfl) (tg := 105) (by kernel_rfl) (cb c4) (fun w' hw' => zp rfl (U5 w' hw')) hS (zM (i := 25) (by kernel_rfl) ?_)
        have hO := hO.fr2
        obtain ⟨r3321, U9, hs⟩ := bind_some hs
        refine wh (b := false) rfl (tg := 105) (by kernel_rfl) (cb c4) Bd100 rfl (wy (M := (Less b9 g8)) x3312 x3316 r4 r5 hO.less.fut U9) rfl (by rintro _ _ _ ⟨rfl, b7⟩; exact hS.ext b7) ?_
        rintro _ a66 ⟨rfl, b7⟩
        obtain ⟨h0, h2, a0, b6, d5, d1, r3, hrow3308⟩ := xt8 b7 h0 h2 a0 b6 d5 d1 r3 hrow3308
        obtain ⟨r4, hrow3314, r5, hrow3318, hMid, x7, x8, x9⟩ := xt8 b7 r4 hrow3314 r5 hrow3318 hMid x7 x8 x9
        obtain ⟨y0, y1, y2, y3, hC, hO, hS⟩ := xt7 b7 y0 y1 y2 y3 hC hO hS
        refine xpy 26 102 _ rfl (cb e6) (pfb (cb c4) rfl) hS (xq 27 _ rfl (ptb (cb e6) rfl) hS (Za (by kernel_rfl) ?_))
        clear hS
        cases hs
        exact ⟨_, fr_m 215 rfl, hMid⟩
       refine xpn 14 102 rfl (cb e6) hS (xpn 15 102 rfl (cb e6) hS (xpn 16 102 rfl (cb e6) hS (xI 17 rfl (by kernel_rfl) (tg := 105) (by kernel_rfl) rfl (fun _ => hS) (xI 18 rfl (by kernel_rfl) (tg := 105) (by kernel_rfl) rfl (fun _ => hS) (xI 19 rfl (by kernel_rfl) (tg := 105) (by kernel_rfl) rfl (fun _ => hS) (xI 20 rfl (by kernel_rfl) (tg := 105) (by kernel_rfl) rfl (fun _ => hS) (xI 21 rfl (by kernel_rfl) (tg := 105) (by kernel_rfl) rfl (fun _ => hS) (xI 22 rfl (by kernel_rfl) (tg := 105) (by kernel_rfl) rfl (fun _ => hS) (xI 23 rfl (by kernel_rfl) (tg := 105) (by kernel_rfl) rfl (fun _ => hS) (xI 24 rfl (by kernel_rfl) (tg := 105) (by kernel_rfl) rfl (fun _ => hS) (xI 25 rfl (by kernel_rfl) (tg := 105) (by kernel_rfl) rfl (fun _ => hS) (xpn 26 102 rfl (cb e6) hS (xq 27 _ rfl (pfb (cb e6) rfl) hS (Za (by kernel_rfl) ?_))))))))))))))
       clear hS
       cases hs
       exact ⟨_, fr_m 215 rfl, hMid⟩
      refine xpn 6 94 rfl (cb e2) hS (xpn 7 94 rfl (cb e2) hS (xpn 8 94 rfl (cb e2) hS (xpn 9 94 rfl (cb e2) hS (xpn 10 94 rfl (cb e2) hS (xpn 11 94 rfl (cb e2) hS (xq 12 _ rfl (pfb (cb e2) rfl) hS (xmb 13 rfl rfl hS (xpn 14 102 rfl (by rfl) hS (xpn 15 102 rfl (by rfl) hS (xpn 16 102 rfl (by rfl) hS (xI 17 rfl (by kernel_rfl) (tg := 105) (by kernel_rfl) rfl (fun _ => hS) (xI 18 rfl (by kernel_rfl) (tg := 105) (by kernel_rfl) rfl (fun _ => hS) (xI 19 rfl (by kernel_rfl) (tg := 105) (by kernel_rfl) rfl (fun _ => hS) (xI 20 rfl (by kernel_rfl) (tg := 105) (by kernel_rfl) rfl (fun _ => hS) (xI 21 rfl (by kernel_rfl) (tg := 105) (by kernel_rfl) rfl (fun _ => hS) (xI 22 rfl (by kernel_rfl) (tg := 105) (by kernel_rfl) rfl (fun _ => hS) (xI 23 rfl (by kernel_rfl) (tg := 105) (by kernel_rfl) rfl (fun _ => hS) (xI 24 rfl (by kernel_rfl) (tg := 105) (by kernel_rfl) rfl (fun _ => hS) (xI 25 rfl (by kernel_rfl) (tg := 105) (by kernel_rfl) rfl (fun _ => hS) (xpn 26 102 rfl (by rfl) hS (xq 27 _ rfl (pfb (by rfl) rfl) hS (Za (by kernel_rfl) ?_))))))))))))))))))))))
      clear hS
      cases hs
      exact ⟨_, fr_m 215 rfl, hMid⟩
     rintro e1 G2 ⟨σ, rfl, k9⟩
     obtain ⟨h0, h2, a0, b6, d5, d1, hC, hO⟩ := xt8 k9 h0 h2 a0 b6 d5 d1 hC hO
     rcases zf hs with ⟨y4, hs⟩ | ⟨y4, hs⟩
     ·refine zg (cb y4) (ze (mi rfl (ai rfl (zb (ze (mi rfl (za _ (yad rfl rfl) (ai rfl (zb ?_)))))))))
      cases hs
      have hO := hO.fr3.fr3.fr3.fr3
      exact ⟨_, zF 215 ⟨rfl, rfl, rfl, rfl, rfl, rfl, rfl, congrArg (Value.int .i64) hw, trivial⟩, hC, hO, h0, h2, a0, b6, d5, d1⟩
     refine zh (cb y4) (wp_skip (ze (mi rfl (za _ (yad rfl rfl) (ai rfl (zb ?_))))))
     cases hs
     have hO := hO.fr3.fr3.fr3.fr3
     exact ⟨_, zF 215 ⟨rfl, rfl, rfl, rfl, rfl, rfl, rfl, congrArg (Value.int .i64) hw, trivial⟩, hC, hO, h0, h2, a0, b6, d5, d1⟩
    ·skip
     have hO := hO.fr3.fr3.fr3.fr3
     exact ⟨_, fr_m 215 rfl, hC, hO, h0, h2, a0, b6, d5, d1⟩
    cases o3297 with
    | nx _ => exact True.intro
    | rt r_ =>
     have hs := zu hs
     intro e1 l3 hK
     cases hs
     exact hK
    | br s3293 =>
     have hs := zt hs
     rintro e1 c0 ⟨σ, rfl, hC, hO, h0, h2, a0, b6, d5, d1⟩
     refine zd (c_sr (mi rfl (za _ (zz rfl rfl) (zb ?_))))
     rcases zf hs with ⟨y5, hs⟩ | ⟨y5, hs⟩
     ·refine zg (cb y5) (c_sr (ms rfl (ax rfl (zb (wp_ret ?_)))))
      cases hs
      have hO := hO.drop.drop.fr1.drop
      exact ⟨_, a4, a6, a5, g8, fr_m 215 rfl, hC, (b6.free (Free.os (Free.os Free.int))), hO.top⟩
     refine zh (cb y5) (wp_skip (c_sr (ms rfl (mi rfl ?_))))
     obtain ⟨x3324, V0, hs⟩ := bind_some hs
     obtain ⟨G3, a67, G4, V1, V2, a68, a69⟩ := zW Sl116 Sz4 d5 V0
     refine za _ (V2 _ _ _ _ _ _ _ _ _ rfl rfl) ?_
     have hO := hO.fr1
     obtain ⟨G5, c5, V3, m0, V4, a2⟩ := yx (P := Tryz.prog) (c' := [(.bool true)]) G4 d5 V1 (fun g hg => hO.inM g (zB d5 g (by simpa using hg))) ⟨rfl, rfl⟩ List.nodup_nil (fun _ h => nomatch h) (fun _ h => .inl h)
     have m9 : ∀ q ∈ [G3], q ∈ k8 := fun q hq => zB d5 q (by rw [G4]; exact hq)
     refine Zm (w' := G5) (zY rfl rfl (V3 _ _ rfl Sz4)) ?_
     have h0 := h0.mt m0 hO m9
     have h2 := h2.mt m0 hO m9
     have a0 := a0.ap m0 hO m9 (zl (zl (zm (List.mem_singleton.2 rfl))))
     have b6 := b6.ma m0 hO m9 (fun _ e => (zl (zm (e))))
     have d1 := d1.ma m0 hO m9 (fun _ e => (zm (e)))
     have hC := hC.st m0 hO m9
     have hO := hO.grow m0 (fun q hq => .inl ((V4 q hq).resolve_right (fun h => nomatch h))) (zy a2) a2.fpl
     refine zb (c_sr (ms rfl (mi rfl ?_)))
     obtain ⟨G6, y6, V5, G7, l0, G8⟩ := zi G5 [(iv s3293)] 3
     refine za (w' := G6) (.slice (some ⟨y6, 0, none⟩) 1 1) (zC rfl (by rw [V5, G7]; kernel_rfl)) ?_
     obtain ⟨h0, h2, a0, b6, a2, d1, hC⟩ := xt7 l0 h0 h2 a0 b6 a2 d1 hC
     have hO := hO.new1 l0 G7 G8.lt
     have y8 := zQ (r := ri) (M := b9) (css := [[(iv s3293)]]) (fps := [([] : List Nat)]) (xs := ([s3293] : List Int)) G8 ⟨⟨rfl, rfl⟩, trivial⟩ (Nat.le_of_ble_eq_true rfl) (List.nodup_cons.2 ⟨(fun h => nomatch h), List.nodup_nil⟩)
     have y8 : (RT.os 3 ri).val b9 G6 (.slice (some ⟨y6, 0, none⟩) 1 1) [s3293] [y6] := y8
     obtain ⟨y3330, V6, hs⟩ := bind_some hs
     have hO := hO.fr2
     obtain ⟨c6, c7, c8, V7, c9, V8, m1, V9, a3⟩ := yz Rw34 V6 d1 y8 hO.inM (fun g hg hq => hO.apart g hq (zm hg))
     have n0 := zB d1
     refine za (w' := V7) (.slice c6 c7 c8) (zS rfl rfl (V8 _)) ?_
     have hO := hO.fr1.fr1
     have h0 := h0.mt m1 hO n0
     have h2 := h2.mt m1 hO n0
     have a0 := a0.ap m1 hO n0 (zl (zl (zl (zm (List.mem_singleton.2 rfl)))))
     have b6 := b6.ma m1 hO n0 (fun _ e => (zl (zl (zm (e)))))
     have a2 := a2.ma m1 hO n0 (fun _ e => (zl (zm (e))))
     have hC := hC.st m1 hO n0
     have hO := hO.eat m1 V9 (zy a3) a3.fpl
     refine ax rfl (zb (c_sr (ms rfl (za _ (zn Sl34 (ZL a3) rfl) (za _ (ysu rfl rfl) (ai rfl (zb (c_sr (ai rfl (zb ?_))))))))))
     obtain ⟨o4306, W0, hs⟩ := bind_some hs
     refine wp_block (zZ (id := 8) (a_.2.length : Int) (I := fun k4304 s4302 a c2 => ∃ (σ : Nat → Value) (f1 : Nat → Prop) (n1 : List Nat), a = fr 215 (ovl σ [(1, (iv k)), (3, (.slice pa2 pn2 pc2)), (4, (pq a1 0)), (9, (.slice a4 a6 a5)), (10, (.slice a8 b0 a9)), (11, (.slice c6 c7 c8)), (18, (iv (w64 ((y3330.length : Int) - 1)))), (19, (iv k4304))]) ∧ Chg [] w c2 ∧ Own (Nw w []) f1 c2 (c9 ++ (c5 ++ (n1 ++ (([a1]) ++ [])))) ∧ Keeps w M f1 ∧ (RT.rs (RT.pr ri rl)).val f1 c2 (.slice pa0 pn0 pc0) a_.2 ([]) ∧ (RT.rs rl).val f1 c2 (.slice pa2 pn2 pc2) tuples ([]) ∧ BoxV c2 a1 30 [(iv a_.1), (.slice pa0 pn0 pc0)] ∧ (RT.os 34 (RT.os 3 ri)).val f1 c2 (.slice a4 a6 a5) s4302 n1 ∧ (RT.os 4 RT.bool).val f1 c2 (.slice a8 b0 a9) (List.set s3253.2.2 (Int.toNat s3293) true) c5 ∧ (RT.os 3 ri).val f1 c2 (.slice c6 c7 c8) y3330 c9) (J := fun s4302 a c2 => ∃ (σ : Nat → Value) (j3 : Nat → Prop) (r6 : List Nat), a = fr 215 (ovl σ [(1, (iv k)), (3, (.slice pa2 pn2 pc2)), (4, (pq a1 0)), (9, (.slice a4 a6 a5)), (10, (.slice a8 b0 a9)), (11, (.slice c6 c7 c8))]) ∧ Chg [] w c2 ∧ Own (Nw w []) j3 c2 (c9 ++ (c5 ++ (r6 ++ (([a1]) ++ [])))) ∧ Keeps w M j3 ∧ (RT.rs (RT.pr ri rl)).val j3 c2 (.slice pa0 pn0 pc0) a_.2 ([]) ∧ (RT.rs rl).val j3 c2 (.slice pa2 pn2 pc2) tuples ([]) ∧ BoxV c2 a1 30 [(iv a_.1), (.slice pa0 pn0 pc0)] ∧ (RT.os 34 (RT.os 3 ri)).val j3 c2 (.slice a4 a6 a5) s4302 r6 ∧ (RT.os 4 RT.bool).val j3 c2 (.slice a8 b0 a9) (List.set s3253.2.2 (Int.toNat s3293) true) c5 ∧ (RT.os 3 ri).val j3 c2 (.slice c6 c7 c8) y3330 c9) (K := (yy M w)) ?_ ?_ 0 s3253.2.1 o4306 _ _ ?_ W0 ?_)
     ·rintro k4304 s4302 a c2 ⟨σ, f1, n1, rfl, hC, hO, hK, h0, h2, a0, m2, a2, a3⟩ hlt
      refine zd (c_sr (mi rfl (za (pq a1 1) (zj rfl Zs) (za _ (ld rfl Ag28 Sz28 a0 rfl) (za _ (zn Sl28 (zx h0) rfl) (za _ (zz rfl rfl) (zb (zh (cb (decide_eq_false hlt)) (wp_exit ?_)))))))))
      have hO := hO.fr3.fr3.fr3.fr3
      exact ⟨rfl, _, f1, n1, fr_m 215 rfl, hC, hO, hK, h0, h2, a0, m2, a2, a3⟩
     ·rintro k4304 s4302 o4306 a c2 ⟨σ, f1, n1, rfl, hC, hO, hK, h0, h2, a0, m2, a2, a3⟩ hlt hw hs
      refine zd (c_sr (mi rfl (za (pq a1 1) (zj rfl Zs) (za _ (ld rfl Ag28 Sz28 a0 rfl) (za _ (zn Sl28 (zx h0) rfl) (za _ (zz rfl rfl) (zb (zg (cb (decide_eq_true hlt)) (wp_skip (zd (wp_block (zd (zX [] Mx rfl ?_)))))))))))))
      have j4 := Chg.drew c2
      generalize World.drew c2 = G9 at j4 ⊢
      obtain ⟨h0, h2, a0, m2, a2, a3, hC, hO⟩ := xt8 j4 h0 h2 a0 m2 a2 a3 hC hO
      have hS := Chg.refl [] G9
      refine xq 0 (pq a1 1) rfl (zj rfl Zs) hS (xl 1 rfl (ldx rfl Ag28 Sz28 a0 rfl) hS (xmi 2 rfl rfl hS ?_))
      obtain ⟨x4323, W1, hs⟩ := bind_some hs
      obtain ⟨H0, H1, W2, y9⟩ := zJ Sl28 Sz77 h0 W1
      refine xq 3 _ rfl (W2 _ _ _ _ _ _ _ _ _ rfl rfl) hS ?_
      obtain ⟨z0, _⟩ := XM y9
      refine xq 4 (.pointer (some ⟨H0, H1 + 0, none⟩)) rfl (zj rfl yf) hS (x_l 5 (iv x4323.1) rfl (by kernel_rfl)  (fun w' hw' => zp rfl ((zo Ag3 Sz3 z0) w' hw')) hS (xq 7 (pq a1 1) rfl (zj rfl Zs) hS (xl 8 rfl (ldx rfl Ag28 Sz28 a0 rfl) hS (xmi 9 rfl rfl hS ?_))))
      obtain ⟨x4326, W3, hs⟩ := bind_some hs
      obtain ⟨H2, H3, W4, z1⟩ := zJ Sl28 Sz77 h0 W3
      refine xq 10 _ rfl (W4 _ _ _ _ _ _ _ _ _ rfl rfl) hS ?_
      obtain ⟨z2, _⟩ := XM z1
      refine xq 11 (.pointer (some ⟨H2, H3 + 0, none⟩)) rfl (zj rfl yf) hS (x_l 12 (iv x4326.1) rfl (by kernel_rfl)  (fun w' hw' => zp rfl ((zo Ag3 Sz3 z2) w' hw')) hS (xq 13 _ rfl (YB rfl rfl) hS (zM (i := 6) (by kernel_rfl) ?_)))
      obtain ⟨y4330, W5, hs⟩ := bind_some hs
      obtain ⟨z3, z4, z5, W6, W7, W8, e5, W9, z6⟩ := xd (M := f1) (w := G9) (r := ri) Rw34 W5 (fun _ _ => ⟨rfl, rfl⟩)
      refine zT (w' := W6) (b := false) (.slice z3 z4 z5) rfl  (yN rfl rfl W8) rfl (fun _ => hS.ext e5) ?_
      obtain ⟨h0, h2, a0, m2, a2, a3, y9, z0⟩ := xt8 e5 h0 h2 a0 m2 a2 a3 y9 z0
      obtain ⟨z1, z2, hC⟩ := xt3 e5 z1 z2 hC
      have hO := hO.new e5 W9 (zy z6) z6.fpl
      have hS := hS.ext e5
      refine xq 14 (.slice z3 z4 z5) rfl (zD rfl) hS (xq 15 (.bool (decide (0 < x4326.1))) rfl (zD rfl) hS (Za (by kernel_rfl) ?_))
      clear hS
      obtain ⟨o4638, X0, hs⟩ := bind_some hs
      refine wp_block (Zo (id := 10) (I := fun s4634 a d0 => ∃ (σ : Nat → Value) (d6 : Nat → Prop) (d7 : Option Addr) (d8 : Nat) (d9 : Nat) (d2 : List Nat) (e3 : List Nat), a = fr 215 (ovl σ [(1, (iv k)), (3, (.slice pa2 pn2 pc2)), (4, (pq a1 0)), (9, (.slice a4 a6 a5)), (10, (.slice a8 b0 a9)), (11, (.slice c6 c7 c8)), (18, (iv (w64 ((y3330.length : Int) - 1)))), (19, (iv k4304)), (20, (.slice d7 d8 d9)), (21, (.bool s4634.2.1))]) ∧ Chg [] w d0 ∧ Own (Nw w []) d6 d0 (d2 ++ (c9 ++ (c5 ++ (e3 ++ (([a1]) ++ []))))) ∧ Keeps w M d6 ∧ (RT.rs (RT.pr ri rl)).val d6 d0 (.slice pa0 pn0 pc0) a_.2 ([]) ∧ (RT.rs rl).val d6 d0 (.slice pa2 pn2 pc2) tuples ([]) ∧ BoxV d0 a1 30 [(iv a_.1), (.slice pa0 pn0 pc0)] ∧ (RT.os 34 (RT.os 3 ri)).val d6 d0 (.slice a4 a6 a5) s4634.2.2 e3 ∧ (RT.os 4 RT.bool).val d6 d0 (.slice a8 b0 a9) (List.set s3253.2.2 (Int.toNat s3293) true) c5 ∧ (RT.os 3 ri).val d6 d0 (.slice c6 c7 c8) y3330 c9 ∧ (RT.os 3 ri).val d6 d0 (.slice d7 d8 d9) s4634.1 d2) (J := fun s4634 a d0 => ∃ (σ : Nat → Value) (h3 : Nat → Prop) (H4 : Option Addr) (H5 : Nat) (H6 : Nat) (z7 : List Nat) (r7 : List Nat), a = fr 215 (ovl σ [(1, (iv k)), (3, (.slice pa2 pn2 pc2)), (4, (pq a1 0)), (9, (.slice a4 a6 a5)), (10, (.slice a8 b0 a9)), (11, (.slice c6 c7 c8)), (18, (iv (w64 ((y3330.length : Int) - 1)))), (19, (iv k4304))]) ∧ Chg [] w d0 ∧ Own (Nw w []) h3 d0 (z7 ++ (c9 ++ (c5 ++ (r7 ++ (([a1]) ++ []))))) ∧ Keeps w M h3 ∧ (RT.rs (RT.pr ri rl)).val h3 d0 (.slice pa0 pn0 pc0) a_.2 ([]) ∧ (RT.rs rl).val h3 d0 (.slice pa2 pn2 pc2) tuples ([]) ∧ BoxV d0 a1 30 [(iv a_.1), (.slice pa0 pn0 pc0)] ∧ (RT.os 34 (RT.os 3 ri)).val h3 d0 (.slice a4 a6 a5) s4634.2.2 r7 ∧ (RT.os 4 RT.bool).val h3 d0 (.slice a8 b0 a9) (List.set s3253.2.2 (Int.toNat s3293) true) c5 ∧ (RT.os 3 ri).val h3 d0 (.slice c6 c7 c8) y3330 c9 ∧ (RT.os 3 ri).val h3 d0 (.slice H4 H5 H6) s4634.1 z7) (K := (yy M w)) ?_ FU (y4330, (decide (0 < x4326.1)), s4302) o4638 _ _ ?_ X0 ?_)
      ·rintro s4634 o4638 a d0 ⟨σ, d6, d7, d8, d9, d2, e3, rfl, hC, hO, hK, h0, h2, a0, b1, a2, a3, a7⟩ hs
       refine zd (c_sr (mb rfl (zb ?_)))
       rcases zf hs with ⟨z8, hs⟩ | ⟨z8, hs⟩
       ·refine zg (cb z8) (wp_skip (wp_block (zd (c_sr (ms rfl (mi rfl ?_))))))
        obtain ⟨r4650, X1, hs⟩ := bind_some hs
        refine zw Bd77 rfl (vu (M := (Less d6 d2)) s4634.1 (w64 ((y3330.length : Int) - 1)) (((Frz.os Frz.int)).val a7 Less.sub Less.not) hO.less.fut X1) ?_
        rintro _ X2 ⟨rfl, j5⟩
        obtain ⟨h0, h2, a0, b1, a2, a3, a7, hC⟩ := xt8 j5 h0 h2 a0 b1 a2 a3 a7 hC
        have hO := hO.ext j5
        refine zb ?_
        rcases zf hs with ⟨z9, hs⟩ | ⟨z9, hs⟩
        ·refine zg (cb z9) (c_sr (mi rfl (za _ (ysu rfl rfl) ?_)))
         obtain ⟨A0, n2, X3, H7, j6, H8⟩ := zi X2 [(iv (w64 ((-1) - k4304)))] 3
         refine za (w' := A0) (.slice (some ⟨n2, 0, none⟩) 1 1) (zC rfl (by rw [X3, H7]; kernel_rfl)) ?_
         obtain ⟨h0, h2, a0, b1, a2, a3, a7, hC⟩ := xt8 j6 h0 h2 a0 b1 a2 a3 a7 hC
         have hO := hO.new1 j6 H7 H8.lt
         have m3 := zQ (r := ri) (M := d6) (css := [[(iv (w64 ((-1) - k4304)))]]) (fps := [([] : List Nat)]) (xs := ([w64 ((-1) - k4304)] : List Int)) H8 ⟨⟨rfl, rfl⟩, trivial⟩ (Nat.le_of_ble_eq_true rfl) (List.nodup_cons.2 ⟨(fun h => nomatch h), List.nodup_nil⟩)
         have m3 : (RT.os 3 ri).val d6 A0 (.slice (some ⟨n2, 0, none⟩) 1 1) [w64 ((-1) - k4304)] [n2] := m3
         obtain ⟨H9, p6, X4, I0, h4, I1⟩ := zi A0 [] 34
         refine za (w' := H9) (.slice (some ⟨p6, 0, none⟩) 0 0) (zC rfl (by rw [X4, I0]; kernel_rfl)) ?_
         obtain ⟨h0, h2, a0, b1, a2, a3, a7, m3⟩ := xt8 h4 h0 h2 a0 b1 a2 a3 a7 m3
         have hC := hC.ext h4
         have hO := hO.new1 h4 I0 I1.lt
         have A1 := os0 (r := (RT.os 3 ri)) (M := d6) I1
         refine ax rfl (ax rfl (zb (zd (c_sr (ai rfl (zb ?_))))))
         obtain ⟨l1, X5, m4, X6, hO, X7⟩ := xT (Frz.os Frz.int) A1 hO
         have h0 := h0.sub m4
         have h2 := h2.sub m4
         have b1 := b1.sub m4
         have a2 := a2.sub m4
         have a3 := a3.sub m4
         have a7 := a7.sub m4
         have m3 := m3.sub m4
         have hK := hK.trans X6
         obtain ⟨o4729, X8, hs⟩ := bind_some hs
         refine wp_block (Zo (id := 12) (I := fun s4725 a b5 => ∃ (σ : Nat → Value) (e0 : Nat → Prop) (m5 : Option Addr) (m6 : Nat) (m7 : Nat) (r8 : List Nat) (n3 : Option Addr) (n4 : Nat) (n5 : Nat) (r9 : List Nat), a = fr 215 (ovl σ [(1, (iv k)), (3, (.slice pa2 pn2 pc2)), (4, (pq a1 0)), (9, (.slice a4 a6 a5)), (10, (.slice a8 b0 a9)), (11, (.slice c6 c7 c8)), (18, (iv (w64 ((y3330.length : Int) - 1)))), (19, (iv k4304)), (20, (.slice d7 d8 d9)), (21, (.bool s4634.2.1)), (22, (.slice m5 m6 m7)), (23, (.slice n3 n4 n5)), (24, (iv s4725.2.2))]) ∧ Chg [] w b5 ∧ Own (Nw w []) e0 b5 (r8 ++ (r9 ++ (d2 ++ (c9 ++ (c5 ++ (e3 ++ (([a1]) ++ []))))))) ∧ Keeps w M e0 ∧ (RT.rs (RT.pr ri rl)).val e0 b5 (.slice pa0 pn0 pc0) a_.2 ([]) ∧ (RT.rs rl).val e0 b5 (.slice pa2 pn2 pc2) tuples ([]) ∧ BoxV b5 a1 30 [(iv a_.1), (.slice pa0 pn0 pc0)] ∧ (RT.os 34 (RT.os 3 ri)).val e0 b5 (.slice a4 a6 a5) s4634.2.2 e3 ∧ (RT.os 4 RT.bool).val e0 b5 (.slice a8 b0 a9) (List.set s3253.2.2 (Int.toNat s3293) true) c5 ∧ (RT.os 3 ri).val e0 b5 (.slice c6 c7 c8) y3330 c9 ∧ (RT.os 3 ri).val e0 b5 (.slice d7 d8 d9) s4634.1 d2 ∧ (RT.os 3 ri).val e0 b5 (.slice m5 m6 m7) s4725.1 r8 ∧ (RT.os 34 rl).val e0 b5 (.slice n3 n4 n5) s4725.2.1 r9) (J := fun s4725 a b5 => ∃ (σ : Nat → Value) (b8 : Nat → Prop) (p7 : Option Addr) (p8 : Nat) (p9 : Nat) (n6 : List Nat) (s0 : Option Addr) (s1 : Nat) (s2 : Nat) (l2 : List Nat), a = fr 215 (ovl σ [(1, (iv k)), (3, (.slice pa2 pn2 pc2)), (4, (pq a1 0)), (9, (.slice a4 a6 a5)), (10, (.slice a8 b0 a9)), (11, (.slice c6 c7 c8)), (18, (iv (w64 ((y3330.length : Int) - 1)))), (19, (iv k4304)), (20, (.slice d7 d8 d9)), (21, (.bool s4634.2.1)), (22, (.slice p7 p8 p9)), (23, (.slice s0 s1 s2))]) ∧ Chg [] w b5 ∧ Own (Nw w []) b8 b5 (n6 ++ (l2 ++ (d2 ++ (c9 ++ (c5 ++ (e3 ++ (([a1]) ++ []))))))) ∧ Keeps w M b8 ∧ (RT.rs (RT.pr ri rl)).val b8 b5 (.slice pa0 pn0 pc0) a_.2 ([]) ∧ (RT.rs rl).val b8 b5 (.slice pa2 pn2 pc2) tuples ([]) ∧ BoxV b5 a1 30 [(iv a_.1), (.slice pa0 pn0 pc0)] ∧ (RT.os 34 (RT.os 3 ri)).val b8 b5 (.slice a4 a6 a5) s4634.2.2 e3 ∧ (RT.os 4 RT.bool).val b8 b5 (.slice a8 b0 a9) (List.set s3253.2.2 (Int.toNat s3293) true) c5 ∧ (RT.os 3 ri).val b8 b5 (.slice c6 c7 c8) y3330 c9 ∧ (RT.os 3 ri).val b8 b5 (.slice d7 d8 d9) s4634.1 d2 ∧ (RT.os 3 ri).val b8 b5 (.slice p7 p8 p9) s4725.1 n6 ∧ (RT.os 34 rl).val b8 b5 (.slice s0 s1 s2) s4725.2.1 l2) (K := (yy M w)) ?_ FU ([w64 ((-1) - k4304)], [], 0) o4729 _ _ ?_ X8 ?_)
         ·rintro s4725 o4729 a b5 ⟨σ, e0, m5, m6, m7, r8, n3, n4, n5, r9, rfl, hC, hO, hK, h0, h2, a0, b1, a2, a3, a7, n7, j7⟩ hs
          refine zd (zd (yB (I := fun a I2 => ∃ (σ : Nat → Value), a = fr 215 (ovl σ [(1, (iv k)), (3, (.slice pa2 pn2 pc2)), (4, (pq a1 0)), (9, (.slice a4 a6 a5)), (10, (.slice a8 b0 a9)), (11, (.slice c6 c7 c8)), (18, (iv (w64 ((y3330.length : Int) - 1)))), (19, (iv k4304)), (20, (.slice d7 d8 d9)), (21, (.bool s4634.2.1)), (22, (.slice m5 m6 m7)), (23, (.slice n3 n4 n5)), (24, (iv s4725.2.2)), (168, (.bool ((decide (s4725.2.2 < (s4634.1.length : Int))) && (decide ((s4725.1.length : Int) ≤ 60)))))]) ∧ Chg [] b5 I2) ?_ ?_))
          ·have hMid := Chg.refl [] b5
           refine ze (mi rfl (ms rfl (za _ (zn Sl34 (ZL a7) rfl) (za _ (zz rfl rfl) (mb rfl ?_)))))
           rcases Bool.eq_false_or_eq_true ((decide (s4725.2.2 < (s4634.1.length : Int)))) with f3 | f3
           ·skip
            refine py 164 (.slice m5 m6 m7) (cb f3) (zr rfl) (py 164 _ (cb f3) (zn Sl34 (ZL n7) rfl) (py 164 _ (cb f3) (Xs rfl rfl) (za (.bool ((decide (s4725.2.2 < (s4634.1.length : Int))) && (decide ((s4725.1.length : Int) ≤ 60)))) (ZM (cb f3) (cb (by rw [f3]; rfl))) (zb ?_))))
            exact ⟨_, fr_m 215 rfl, hMid⟩
           refine pn 164 (cb f3) (pn 164 (cb f3) (pn 164 (cb f3) (za (.bool ((decide (s4725.2.2 < (s4634.1.length : Int))) && (decide ((s4725.1.length : Int) ≤ 60)))) (ZE (cb f3) (cb (by rw [f3]; rfl))) (zb ?_))))
           exact ⟨_, fr_m 215 rfl, hMid⟩
          rintro e1 I2 ⟨σ, rfl, f4⟩
          obtain ⟨h0, h2, a0, b1, a2, a3, a7, n7⟩ := xt8 f4 h0 h2 a0 b1 a2 a3 a7 n7
          obtain ⟨j7, hC, hO⟩ := xt3 f4 j7 hC hO
          rcases zf hs with ⟨A2, hs⟩ | ⟨A2, hs⟩
          ·refine zg (cb A2) (wp_skip (zd (wp_block (c_sr (ms rfl (ms rfl (ms rfl (ms rfl (mi rfl ?_)))))))))
           obtain ⟨x4746, X9, hs⟩ := bind_some hs
           obtain ⟨Y0, a70, a71, a72, Y1, Y2, a73⟩ := zW Sl34 Sz3 a7 X9
           refine za _ (Y1 _ _ _ _ _ _ _ _ _ rfl rfl) (za (iv x4746) (zp rfl ((zo Ag3 Sz3 Y2) _ (Chg.refl _ _))) ?_)
           obtain ⟨x4748, Y3, hs⟩ := bind_some hs
           obtain ⟨Y4, a74, a75, a76, Y5, Y6, a77⟩ := zW Sl34 Sz3 a3 Y3
           refine za _ (Y5 _ _ _ _ _ _ _ _ _ rfl rfl) (za (iv x4748) (zp rfl ((zo Ag3 Sz3 Y6) _ (Chg.refl _ _))) ?_)
           obtain ⟨x4750, Y7, hs⟩ := bind_some hs
           obtain ⟨Y8, a78, a79, a80, Y9, Z0, Z1⟩ := zW Sl45 Sz34 b1 Y7
           have Z2 := Zz (Frz.os Frz.int) Z0 Z1
           refine za _ (Y9 _ _ _ _ _ _ _ _ _ rfl rfl) ?_
           obtain ⟨a81, Z3, hrow4752, s3⟩ := ZN Ag34 Sz34 rfl rfl Z2
           obtain ⟨Z4, Z5, Z6, rfl⟩ := yn s3
           refine za (.slice Z4 Z5 Z6) (zp rfl (Z3 _ (Chg.refl _ _))) ?_
           obtain ⟨y4755, Z7, hs⟩ := bind_some hs
           have hO := hO.fr5.fr1
           obtain ⟨A3, A4, A5, I3, Z8, Z9, f5, a10, j8⟩ := XO Rw34 Z7 (n7.sub (M' := (Less e0 e3)) Less.sub) s3 (fun g hg => ⟨hO.inM g hg, fun hq => hO.apart g hg (zm hq)⟩)
           have j8 := j8.free (M' := e0) (Free.os Free.int)
           have f6 := zB n7
           refine za (w' := I3) (.slice A3 A4 A5) (zS rfl rfl (Z9 _)) ?_
           have h0 := h0.mt f5 hO f6
           have h2 := h2.mt f5 hO f6
           have a0 := a0.ap f5 hO f6 (zl (zl (zl (zl (zl (zm (List.mem_singleton.2 rfl)))))))
           have b1 := b1.ma f5 hO f6 (fun _ e => (zm (e)))
           have a2 := a2.ma f5 hO f6 (fun _ e => (zl (zl (zl (zl (zm (e)))))))
           have a3 := a3.ma f5 hO f6 (fun _ e => (zl (zl (zl (zm (e))))))
           have a7 := a7.ma f5 hO f6 (fun _ e => (zl (zl (zm (e)))))
           have j7 := j7.ma f5 hO f6 (fun _ e => (zl (zm (e))))
           have s3 := s3.mut f5 (fun g hg => ⟨hO.inM g (f6 g hg), fun e => hO.apart g (f6 g hg) (zm (e))⟩) (fun _ _ h => nomatch h)
           have hC := hC.st f5 hO f6
           have hO := hO.grow f5 a10 (zy j8) j8.fpl
           refine ax rfl (zb (ze (ms rfl (ms rfl (ms rfl (ms rfl (mi rfl ?_)))))))
           obtain ⟨x4757, a11, hs⟩ := bind_some hs
           obtain ⟨a12, a82, a83, a84, a13, A6, a85⟩ := zW Sl34 Sz3 a7 a11
           refine za _ (a13 _ _ _ _ _ _ _ _ _ rfl rfl) (za (iv x4757) (zp rfl ((zo Ag3 Sz3 A6) _ (Chg.refl _ _))) ?_)
           obtain ⟨x4759, a14, hs⟩ := bind_some hs
           obtain ⟨a15, a86, a87, a88, a16, A7, a89⟩ := zW Sl34 Sz3 a3 a14
           refine za _ (a16 _ _ _ _ _ _ _ _ _ rfl rfl) (za (iv x4759) (zp rfl ((zo Ag3 Sz3 A7) _ (Chg.refl _ _))) ?_)
           obtain ⟨x4761, a17, hs⟩ := bind_some hs
           obtain ⟨a18, a19, a20, A8⟩ := zJ Sl45 Sz34 h2 a17
           refine za _ (a20 _ _ _ _ _ _ _ _ _ rfl rfl) ?_
           obtain ⟨a90, a21, n8⟩ := Zp Ag34 Sz34 (fun _ => rfl) A8
           obtain ⟨A9, B0, B1, rfl⟩ := yn n8
           refine za (.slice A9 B0 B1) (zp rfl (a21 _ (Chg.refl _ _))) ?_
           obtain ⟨I4, B2, a22, I5, e4, I6⟩ := zi I3 [(.slice A9 B0 B1)] 34
           refine za (w' := I4) (.slice (some ⟨B2, 0, none⟩) 1 1) (zC rfl (by rw [a22, I5]; kernel_rfl)) ?_
           obtain ⟨h0, h2, a0, b1, a2, a3, a7, j7⟩ := xt8 e4 h0 h2 a0 b1 a2 a3 a7 j7
           obtain ⟨j8, n8, A6, A7, A8, hC⟩ := xt6 e4 j8 n8 A6 A7 A8 hC
           have hO := hO.new1 e4 I5 I6.lt
           have B3 := zQ (r := rl) (M := e0) (css := [[(.slice A9 B0 B1)]]) (fps := [([] : List Nat)]) (xs := ([x4761] : List (List Int))) I6 ⟨(yw n8), trivial⟩ (Nat.le_of_ble_eq_true rfl) (List.nodup_cons.2 ⟨(fun h => nomatch h), List.nodup_nil⟩)
           have B3 : (RT.os 34 rl).val e0 I4 (.slice (some ⟨B2, 0, none⟩) 1 1) [x4761] [B2] := B3
           obtain ⟨y4768, a23, hs⟩ := bind_some hs
           have hO := hO.fr3
           obtain ⟨B4, B5, B6, a24, a25, a26, f7, a27, B7⟩ := yz Rw45 a23 j7 B3 hO.inM (fun g hg hq => hO.apart g hq (zm hg))
           have h5 := zB j7
           refine za (w' := a24) (.slice B4 B5 B6) (zS rfl rfl (a26 _)) ?_
           have hO := hO.fr1.fr1
           have h0 := h0.mt f7 hO h5
           have h2 := h2.mt f7 hO h5
           have a0 := a0.ap f7 hO h5 (zl (zl (zl (zl (zl (zl (zm (List.mem_singleton.2 rfl))))))))
           have b1 := b1.ma f7 hO h5 (fun _ e => (zl (zl (zm (e)))))
           have a2 := a2.ma f7 hO h5 (fun _ e => (zl (zl (zl (zl (zl (zm (e))))))))
           have a3 := a3.ma f7 hO h5 (fun _ e => (zl (zl (zl (zl (zm (e)))))))
           have a7 := a7.ma f7 hO h5 (fun _ e => (zl (zl (zl (zm (e))))))
           have j8 := j8.ma f7 hO h5 (fun _ e => (zl (zm (e))))
           have n8 := n8.mt f7 hO h5
           have hC := hC.st f7 hO h5
           have hO := hO.eat f7 a27 (zy B7) B7.fpl
           refine ax rfl (zb (ze (mi rfl (za _ (yad rfl rfl) (ai rfl (zb ?_))))))
           cases hs
           have hO := hO.fr6.fr3.fr6.fr6.fr6.fr5.fr6
           exact ⟨_, e0, A3, A4, A5, Z8, B4, B5, B6, a25, fr_m 215 rfl, hC, hO, hK, h0, h2, a0, b1, a2, a3, a7, j8, B7⟩
          refine zh (cb A2) (wp_exit ?_)
          cases hs
          have hO := hO.fr6.fr6.fr6.fr6.fr6.fr6.fr6
          exact ⟨rfl, _, e0, m5, m6, m7, r8, n3, n4, n5, r9, fr_m 215 rfl, hC, hO, hK, h0, h2, a0, b1, a2, a3, a7, n7, j7⟩
         ·skip
          have hO := hO.fr6.fr6.fr6.fr6.fr6.fr5.fr6
          exact ⟨_, l1, (some ⟨n2, 0, none⟩), 1, 1, ([n2]), (some ⟨p6, 0, none⟩), 0, 0, X5, fr_m 215 rfl, hC, hO, hK, h0, h2, a0, b1, a2, a3, a7, m3, X7⟩
         cases o4729 with
         | nx _ => exact True.intro
         | rt r_ =>
          have hs := zu hs
          intro e1 l3 hK
          cases hs
          exact hK
         | br s4725 =>
          have hs := zt hs
          rintro e1 b5 ⟨σ, b8, p7, p8, p9, n6, s0, s1, s2, l2, rfl, hC, hO, hK, h0, h2, a0, b1, a2, a3, a7, s4, q0⟩
          refine c_sr (ms rfl (za _ (zn Sl34 (ZL s4) rfl) (za _ (Xs rfl rfl) (zb ?_))))
          obtain ⟨s4780, a28, hs⟩ := bind_some hs
          refine yB (I := fun a h6 => ∃ (σ : Nat → Value) (q1 : List Nat), a = fr 215 (ovl σ [(1, (iv k)), (3, (.slice pa2 pn2 pc2)), (4, (pq a1 0)), (9, (.slice a4 a6 a5)), (10, (.slice a8 b0 a9)), (11, (.slice c6 c7 c8)), (18, (iv (w64 ((y3330.length : Int) - 1)))), (19, (iv k4304)), (20, (.slice d7 d8 d9)), (21, (.bool s4634.2.1))]) ∧ Chg [] w h6 ∧ Own (Nw w []) b8 h6 (d2 ++ (c9 ++ (c5 ++ (q1 ++ (([a1]) ++ []))))) ∧ (RT.rs (RT.pr ri rl)).val b8 h6 (.slice pa0 pn0 pc0) a_.2 ([]) ∧ (RT.rs rl).val b8 h6 (.slice pa2 pn2 pc2) tuples ([]) ∧ BoxV h6 a1 30 [(iv a_.1), (.slice pa0 pn0 pc0)] ∧ (RT.os 34 (RT.os 3 ri)).val b8 h6 (.slice a4 a6 a5) s4780 q1 ∧ (RT.os 4 RT.bool).val b8 h6 (.slice a8 b0 a9) (List.set s3253.2.2 (Int.toNat s3293) true) c5 ∧ (RT.os 3 ri).val b8 h6 (.slice c6 c7 c8) y3330 c9 ∧ (RT.os 3 ri).val b8 h6 (.slice d7 d8 d9) s4634.1 d2) ?_ ?_
          ·replace hs := a28
           rcases zf hs with ⟨B8, hs⟩ | ⟨B8, hs⟩
           ·refine zg (cb B8) (ze (ms rfl (ms rfl (za _ (ldw rfl Ag30 a0 Sz30) (mi rfl (ms rfl (mi rfl ?_)))))))
            have hO := hO.fr1
            obtain ⟨r4786, a29, hs⟩ := bind_some hs
            refine zw Bd51 rfl (xw (M := (Less b8 l2)) (a_.1, a_.2) k4304 s4725.2.1 k (h0.sub Less.sub) (((Frz.os (Frz.rs Frz.int))).val q0 Less.sub Less.not) hO.less.fut a29) ?_
            rintro _ a91 ⟨a92, a93, a94, s5, rfl, f8, q2, a30⟩
            obtain ⟨h0, h2, a0, b1, a2, a3, a7, s4⟩ := xt8 f8 h0 h2 a0 b1 a2 a3 a7 s4
            obtain ⟨q0, hC⟩ := xt2 f8 q0 hC
            have hO := Own.join0 hO f8 a30
            have hO := hO.perm (R := s5 ++ (l2 ++ (n6 ++ (d2 ++ (c9 ++ (c5 ++ (e3 ++ (([a1]) ++ ([]))))))))) (by simp)
            have q2 := q2.free (M' := b8) (Free.os Free.int)
            refine ms rfl ?_
            have hO := hO.fr2.fr6
            have B9 := hO
            have B9 := B9.fr2
            have I7 := Own.lend (F := (e3 ++ (n6 ++ ([])))) (R := l2 ++ (d2 ++ (c9 ++ (c5 ++ (([a1]) ++ ([])))))) (Own.perm (B9.less) (by simp))
            obtain ⟨r4789, a31, hs⟩ := bind_some hs
            refine zw Bd99 rfl (xG (M := (Less b8 s5)) s4634.2.2 tuples r4786 s4725.1 (b1.sub Less.sub) (h2.sub Less.sub) (((Frz.os Frz.int)).val q2 Less.sub Less.not) (s4.sub Less.sub) I7 I7.fut a31) ?_
            rintro _ a95 ⟨I8, rfl, h7, C0, a32⟩
            have hO := hO.fr2.fr2.fr2.perm (R := (e3 ++ (n6 ++ ([]))) ++ (s5 ++ (l2 ++ (d2 ++ (c9 ++ (c5 ++ (([a1]) ++ ([])))))))) (by simp)
            have h0 := h0.mt h7 hO zk
            have h2 := h2.mt h7 hO zk
            have a0 := a0.ap h7 hO zk (zl (zl (zl (zl (zl (zm (List.mem_singleton.2 rfl)))))))
            have a2 := a2.ma h7 hO zk (fun _ e => (zl (zl (zl (zl (zm (e)))))))
            have a3 := a3.ma h7 hO zk (fun _ e => (zl (zl (zl (zm (e))))))
            have a7 := a7.ma h7 hO zk (fun _ e => (zl (zl (zm (e)))))
            have q0 := q0.ma h7 hO zk (fun _ e => (zl (zm (e))))
            have q2 := q2.ma h7 hO zk (fun _ e => (zm (e)))
            have hC := hC.st h7 hO zk
            have hO := Own.join hO h7 a32
            have hO := hO.perm (R := I8 ++ (s5 ++ (l2 ++ (d2 ++ (c9 ++ (c5 ++ (([a1]) ++ ([])))))))) (by simp)
            have C0 := C0.free (M' := b8) (Free.os (Free.os Free.int))
            refine zb ?_
            cases hs
            have hO := hO.fr1.drop.fr1.drop.fr4.fr1.fr4.fr4.fr4
            exact ⟨_, I8, fr_m 215 rfl, hC, hO, h0, h2, a0, C0, a2, a3, a7⟩
           refine zh (cb B8) (wp_skip ?_)
           cases hs
           have hO := hO.drop.drop.fr4.fr4.fr4.fr4.fr4
           exact ⟨_, e3, fr_m 215 rfl, hC, hO, h0, h2, a0, b1, a2, a3, a7⟩
          rintro e1 h6 ⟨σ, q1, rfl, hC, hO, h0, h2, a0, C1, a2, a3, a7⟩
          refine ze (ms rfl (mi rfl (za _ (yad rfl rfl) ?_)))
          obtain ⟨r4791, a33, hs⟩ := bind_some hs
          refine zw Bd55 rfl (XV (M := (Less b8 d2)) s4634.1 (w64 ((w64 ((y3330.length : Int) - 1)) + 1)) (((Frz.os Frz.int)).val a7 Less.sub Less.not) hO.less.fut a33) ?_
          rintro _ a96 ⟨s6, s7, s8, I9, rfl, j9, C2, a34⟩
          obtain ⟨h0, h2, a0, C1, a2, a3, a7, hC⟩ := xt8 j9 h0 h2 a0 C1 a2 a3 a7 hC
          have hO := Own.join0 hO j9 a34
          have hO := hO.perm (R := I9 ++ (d2 ++ (c9 ++ (c5 ++ (q1 ++ (([a1]) ++ ([]))))))) (by simp)
          have C2 := C2.free (M' := b8) (Free.os Free.int)
          refine za (.tuple #[(.slice s6 s7 s8), (.bool r4791.2)]) (zr rfl) (za (.slice s6 s7 s8) (zK rfl (by kernel_rfl)) (za (.bool r4791.2) (zK rfl (by kernel_rfl)) (ax rfl (ab rfl (zb ?_)))))
          cases hs
          have hO := hO.fr1.drop.fr4.fr4.fr4.fr4.fr4
          exact ⟨_, b8, s6, s7, s8, I9, q1, fr_m 215 rfl, hC, hO, hK, h0, h2, a0, C1, a2, a3, C2⟩
        refine zh (cb z9) (wp_skip (ze (ms rfl (mi rfl (za _ (yad rfl rfl) ?_)))))
        obtain ⟨r4794, a35, hs⟩ := bind_some hs
        refine zw Bd55 rfl (XV (M := (Less d6 d2)) s4634.1 (w64 ((w64 ((y3330.length : Int) - 1)) + 1)) (((Frz.os Frz.int)).val a7 Less.sub Less.not) hO.less.fut a35) ?_
        rintro _ a97 ⟨s9, t0, t1, J0, rfl, k0, C3, a36⟩
        obtain ⟨h0, h2, a0, b1, a2, a3, a7, hC⟩ := xt8 k0 h0 h2 a0 b1 a2 a3 a7 hC
        have hO := Own.join0 hO k0 a36
        have hO := hO.perm (R := J0 ++ (d2 ++ (c9 ++ (c5 ++ (e3 ++ (([a1]) ++ ([]))))))) (by simp)
        have C3 := C3.free (M' := d6) (Free.os Free.int)
        refine za (.tuple #[(.slice s9 t0 t1), (.bool r4794.2)]) (zr rfl) (za (.slice s9 t0 t1) (zK rfl (by kernel_rfl)) (za (.bool r4794.2) (zK rfl (by kernel_rfl)) (ax rfl (ab rfl (zb ?_)))))
        cases hs
        have hO := hO.fr1.drop.fr4.fr4.fr4.fr4.fr4
        exact ⟨_, d6, s9, t0, t1, J0, e3, fr_m 215 rfl, hC, hO, hK, h0, h2, a0, b1, a2, a3, C3⟩
       refine zh (cb z8) (wp_exit ?_)
       cases hs
       have hO := hO.fr4.fr4.fr4.fr4.fr4
       exact ⟨rfl, _, d6, d7, d8, d9, d2, e3, fr_m 215 rfl, hC, hO, hK, h0, h2, a0, b1, a2, a3, a7⟩
      ·skip
       have hO := hO.fr4.fr4.fr4.fr4.fr4
       exact ⟨_, f1, z3, z4, z5, W7, n1, fr_m 215 rfl, hC, hO, hK, h0, h2, a0, m2, a2, a3, z6⟩
      cases o4638 with
      | nx _ => exact True.intro
      | rt r_ =>
       have hs := zu hs
       intro e1 l3 hK
       cases hs
       exact hK
      | br s4634 =>
       have hs := zt hs
       rintro e1 d0 ⟨σ, h3, H4, H5, H6, z7, r7, rfl, hC, hO, hK, h0, h2, a0, a37, a2, a3, a98⟩
       refine ze (mi rfl (za _ (yad rfl rfl) (ai rfl (zb ?_))))
       cases hs
       have hO := hO.drop.fr3.fr3.fr3.fr3
       exact ⟨_, h3, r7, zF 215 ⟨rfl, rfl, rfl, rfl, rfl, rfl, rfl, congrArg (Value.int .i64) hw, trivial⟩, hC, hO, hK, h0, h2, a0, a37, a2, a3⟩
     ·skip
      have hO := hO.fr3.fr3.fr3.fr3
      exact ⟨_, b9, g8, fr_m 215 rfl, hC, hO, hK, h0, h2, a0, b6, a2, a3⟩
     cases o4306 with
     | nx _ => exact True.intro
     | rt r_ =>
      have hs := zu hs
      intro e1 l3 hK
      cases hs
      exact hK
     | br s4302 =>
      have hs := zt hs
      rintro e1 c2 ⟨σ, j3, r6, rfl, hC, hO, hK, h0, h2, a0, a38, a2, a3⟩
      cases hs
      have hO := hO.fr3.fr3.fr3.fr3
      exact ⟨_, j3, c6, c7, c8, c9, r6, c5, fr_m 215 rfl, hC, hO, hK, h0, h2, a0, a38, a2, a3⟩
   ·skip
    have hO := hO.fr3.fr3.fr3.fr3
    exact ⟨_, M, (some ⟨b2, 0, none⟩), 0, 0, ([b2]), r1, d3, fr_m 215 rfl, hC, hO, Keeps.refl, h0, h2, a0, R4, b3, b4⟩
   cases o3257 with
   | nx _ => exact True.intro
   | rt r_ =>
    have hs := zu hs
    intro e1 l3 hK
    cases hs
    exact hK
   | br s3253 =>
    have hs := zt hs
    cases hs

theorem Bd78 : zE Tryz.prog 78 := zH Tryz.func78 (by kernel_rfl) rfl

theorem Bd79 : zE Tryz.prog 79 := zH Tryz.func79 (by kernel_rfl) rfl

def wA (M : Nat → Prop) (w0 : World) (r : (List (List Int)) × Bool) (a : Act) (w : World) : Prop :=
  ∃ (σ : Nat → Value) (ra0 : Option Addr) (rn0 rc0 : Nat) (rf0 : List Nat), a = fr 60 (ovl σ [(6, (.slice ra0 rn0 rc0)), (7, (.bool r.2))]) ∧ Chg [] w0 w ∧ (RT.os 34 (RT.os 3 (RT.int .i64))).val M w (.slice ra0 rn0 rc0) r.1 rf0 ∧ Own (Nw w0 []) (fun _ => True) w (rf0 ++ ([]))
def yH (a_ : Int × (List (Int × (List Int)))) (k : Int) (gens : List (List Int)) : Option ((List (List Int)) × Bool) :=
  ((Yf (a_.1, a_.2) k gens).bind fun r8 =>
  (bif (!r8) then some true else some (decide (6 < (gens.length : Int))))).bind fun s4 =>
  (bif s4 then some ([], false) else (Zb (a_.1, a_.2) k gens).bind fun r14 =>
  (bif (!r14.2) then some ([], false) else (YC (a_.1, a_.2) k gens r14.1).bind fun r20 =>
  (iter (S := Int × (List (List Int))) (R := (List (List Int)) × Bool) (fun s101 =>
  (bif (decide (s101.1 < (s101.2.length : Int))) then (idx s101.2 s101.1).bind fun x110 =>
  (bif ((x110.length : Int) == 0) then some (.rt ([], false)) else (idx s101.2 s101.1).bind fun x117 =>
  (yM x117).bind fun r122 =>
  (idx s101.2 s101.1).bind fun x124 =>
  some (.nx (w64 (s101.1 + 1), List.set s101.2 (Int.toNat s101.1) r122))) else some (.br (s101.1, s101.2)))) FU (0, r20)).bind fun o105 => after o105 (fun r_ => some r_) (fun s101 =>
  some (s101.2, true))))
set_option maxHeartbeats 4000000 in
theorem Vs {M : Nat → Prop} {w : World} {pa0 : Option Addr} {pn0 pc0 : Nat} {pa1 : Option Addr} {pn1 pc1 : Nat} (a_ : Int × (List (Int × (List Int)))) (k : Int) (gens : List (List Int)) (h0 : (RT.rs (RT.pr ri rl)).val M w (.slice pa0 pn0 pc0) a_.2 ([])) (h1 : (RT.rs rl).val M w (.slice pa1 pn1 pc1) gens ([])) (hM : ∀ g, w.heap.size ≤ g → M g) {r : (List (List Int)) × Bool} (hs : yH a_ k gens = some r) :
    Gives Tryz.prog 45 [(.agg #[(iv a_.1), (.slice pa0 pn0 pc0)]), (iv k), (.slice pa1 pn1 pc1)] w (fun v w' => ∃ (ra0 : Option Addr) (rn0 rc0 : Nat) (rf0 : List Nat), v = (.tuple #[(.slice ra0 rn0 rc0), (.bool r.2)]) ∧ Chg [] w w' ∧ (RT.os 34 (RT.os 3 ri)).val M w' (.slice ra0 rn0 rc0) r.1 rf0 ∧ Own (Nw w []) (fun _ => True) w' (rf0 ++ ([]))) := by
 refine zq Tryz.func45 rfl Tryz.ntmps45 (Nat.le_of_ble_eq_true rfl) ?_
 have hO := Own.start (N := Nw w []) hM Nw.fut
 have hC := Chg.refl [] w
 unfold yH at hs
 refine wp_k (K := (wA M w r)) (by rintro _ _ ⟨σ, ra0, rn0, rc0, rf0, rfl, hrest⟩; exact wg Tryz.results45 (zA rfl) (zA rfl) ⟨ra0, rn0, rc0, rf0, rfl, hrest⟩) (c_sr ?_)
 obtain ⟨c7, c8, f9, e2, c1, a1⟩ := zi w [(iv a_.1), (.slice pa0 pn0 pc0)] 30
 refine za (w' := c7) (pq c8 0) (Zx rfl (by rw [f9, e2]; kernel_rfl)) ?_
 obtain ⟨h0, h1, hC⟩ := xt3 c1 h0 h1 hC
 have hO := hO.new1 c1 e2 a1.lt
 refine ax rfl (ab rfl (zb (zd (zd ?_))))
 obtain ⟨s4, g0, hs⟩ := bind_some hs
 refine yB (I := fun a a0 => ∃ (σ : Nat → Value), a = fr 60 (ovl σ [(1, (iv k)), (2, (.slice pa1 pn1 pc1)), (3, (pq c8 0)), (6, (.slice none 0 0)), (7, (.bool false)), (21, (.bool s4))]) ∧ Chg [] c7 a0) ?_ ?_
 ·replace hs := g0
  have hMid := Chg.refl [] c7
  refine ze (za _ (ldw rfl Ag30 a1 Sz30) (mi rfl (ms rfl ?_)))
  obtain ⟨r8, g1, hs⟩ := bind_some hs
  refine zw Bd78 rfl (uX (M := M) (a_.1, a_.2) k gens h0 h1 hO.fut g1) ?_
  rintro _ k7 ⟨rfl, b1⟩
  obtain ⟨h0, h1, a1, hMid, hC, hO⟩ := xt6 b1 h0 h1 a1 hMid hC hO
  refine za _ (Zy rfl) (mb rfl ?_)
  rcases zf hs with ⟨a8, hs⟩ | ⟨a8, hs⟩
  ·skip
   refine pn 17 (cb a8) (pn 17 (cb a8) (pn 17 (cb a8) (za _ (ptb (cb a8) rfl) (zb ?_))))
   cases hs
   exact ⟨_, fr_m 60 rfl, hMid⟩
  refine py 17 (.slice pa1 pn1 pc1) (cb a8) (zr rfl) (py 17 _ (cb a8) (zn Sl45 (zx h1) rfl) (py 17 _ (cb a8) (YB rfl rfl) (za _ (pfb (cb a8) rfl) (zb ?_))))
  cases hs
  exact ⟨_, fr_m 60 rfl, hMid⟩
 rintro e3 a0 ⟨σ, rfl, b7⟩
 obtain ⟨h0, h1, a1, hC, hO⟩ := xt5 b7 h0 h1 a1 hC hO
 rcases zf hs with ⟨c9, hs⟩ | ⟨c9, hs⟩
 ·refine zg (cb c9) (c_sr ?_)
  obtain ⟨e4, b2, g2, e5, b8, e6⟩ := zi a0 [] 34
  refine za (w' := e4) (.slice (some ⟨b2, 0, none⟩) 0 0) (zC rfl (by rw [g2, e5]; kernel_rfl)) ?_
  obtain ⟨h0, h1, a1, hC⟩ := xt4 b8 h0 h1 a1 hC
  have hO := hO.new1 b8 e5 e6.lt
  have d0 := os0 (r := (RT.os 3 ri)) (M := M) e6
  refine ax rfl (ab rfl (zb (wp_ret ?_)))
  cases hs
  have hO := hO.fr1.drop
  exact ⟨_, (some ⟨b2, 0, none⟩), 0, 0, ([b2]), fr_m 60 rfl, hC, d0, hO.top⟩
 refine zh (cb c9) (wp_skip (c_sr (za _ (ldw rfl Ag30 a1 Sz30) (mi rfl (ms rfl ?_)))))
 obtain ⟨r14, g3, hs⟩ := bind_some hs
 refine zw Bd43 rfl (wJ (M := M) (a_.1, a_.2) k gens h0 h1 hO.fut g3) ?_
 rintro _ a2 ⟨c2, c3, c4, rfl, b9, c0⟩
 have hK := (show Keeps w M (Past M a0 a2) from Keeps.past hC.size)
 obtain ⟨h0, h1, a1, hC⟩ := xt4 b9 h0 h1 a1 hC
 have hO := hO.past b9
 have h0 := h0.sub (M' := (Past M a0 a2)) (fun g hg => .inl hg.1)
 have h1 := h1.sub (M' := (Past M a0 a2)) (fun g hg => .inl hg.1)
 refine za (.tuple #[(.slice c2 c3 c4), (.bool r14.2)]) (zr rfl) (za (.slice c2 c3 c4) (zK rfl (by kernel_rfl)) (za (.bool r14.2) (zK rfl (by kernel_rfl)) (ax rfl (ab rfl (zb (zd (c_sr (mb rfl (za _ (Zy rfl) (zb ?_))))))))))
 rcases zf hs with ⟨d1, hs⟩ | ⟨d1, hs⟩
 ·refine zg (cb d1) (c_sr ?_)
  obtain ⟨e7, b3, g4, e8, b4, e9⟩ := zi a2 [] 34
  refine za (w' := e7) (.slice (some ⟨b3, 0, none⟩) 0 0) (zC rfl (by rw [g4, e8]; kernel_rfl)) ?_
  obtain ⟨h0, h1, a1, c0, hC⟩ := xt5 b4 h0 h1 a1 c0 hC
  have hO := hO.new1 b4 e8 e9.lt
  have d2 := os0 (r := (RT.os 3 ri)) (M := (Past M a0 a2)) e9
  refine ax rfl (ab rfl (zb (wp_ret ?_)))
  cases hs
  have hO := hO.fr1.drop
  exact ⟨_, (some ⟨b3, 0, none⟩), 0, 0, ([b3]), fr_m 60 rfl, hC, (d2.free (Free.os (Free.os Free.int))), hO.top⟩
 refine zh (cb d1) (wp_skip (c_sr (za _ (ldw rfl Ag30 a1 Sz30) (mi rfl (ms rfl (ms rfl ?_))))))
 obtain ⟨r20, g5, hs⟩ := bind_some hs
 refine zw Bd79 rfl (VY (M := (Past M a0 a2)) (a_.1, a_.2) k gens r14.1 h0 h1 c0 hO.fut g5) ?_
 rintro _ k8 ⟨a3, a4, a5, f0, rfl, b5, g6, g7⟩
 obtain ⟨h0, h1, a1, c0, hC⟩ := xt5 b5 h0 h1 a1 c0 hC
 have hO := Own.join0 hO b5 g7
 have hO := hO.perm (R := f0 ++ (([c8]) ++ ([]))) (by simp)
 refine ax rfl (zb (zd (c_sr (ai rfl (zb ?_)))))
 have hO := hO.fr1.drop
 obtain ⟨o105, g8, hs⟩ := bind_some hs
 refine wp_block (Zo (id := 0) (I := fun s101 a a7 => ∃ (σ : Nat → Value) (a9 : List Nat), a = fr 60 (ovl σ [(10, (.slice a3 a4 a5)), (11, (iv s101.1))]) ∧ Chg [] w a7 ∧ Own (Nw w []) (Past M a0 a2) a7 (a9 ++ []) ∧ (RT.os 34 (RT.os 3 ri)).val (Past M a0 a2) a7 (.slice a3 a4 a5) s101.2 a9) (J := fun s101 a a7 => ∃ (σ : Nat → Value) (c5 : List Nat), a = fr 60 (ovl σ [(10, (.slice a3 a4 a5))]) ∧ Chg [] w a7 ∧ Own (Nw w []) (Past M a0 a2) a7 (c5 ++ []) ∧ (RT.os 34 (RT.os 3 ri)).val (Past M a0 a2) a7 (.slice a3 a4 a5) s101.2 c5) (K := (wA M w)) ?_ FU (0, r20) o105 _ _ ?_ g8 ?_)
 ·rintro s101 o105 a a7 ⟨σ, a9, rfl, hC, hO, a6⟩ hs
  refine zd (c_sr (mi rfl (ms rfl (za _ (zn Sl45 (ZL a6) rfl) (za _ (zz rfl rfl) (zb ?_))))))
  rcases zf hs with ⟨d3, hs⟩ | ⟨d3, hs⟩
  ·refine zg (cb d3) (wp_skip (zd (wp_block (zd (c_sr (ms rfl (mi rfl ?_)))))))
   obtain ⟨x110, g9, hs⟩ := bind_some hs
   obtain ⟨h2, k9, l0, l1, h3, h4, h5⟩ := zW Sl45 Sz34 a6 g9
   have h6 := Zz (Frz.os Frz.int) h4 h5
   refine za _ (h3 _ _ _ _ _ _ _ _ _ rfl rfl) ?_
   obtain ⟨l2, h7, hrow112, f1⟩ := ZN Ag34 Sz34 rfl rfl h6
   obtain ⟨h8, h9, i0, rfl⟩ := yn f1
   refine za (.slice h8 h9 i0) (zp rfl (h7 _ (Chg.refl _ _))) (za _ (zn Sl34 (zx f1) rfl) (za (.bool ((x110.length : Int) == 0)) (xe rfl rfl) (zb ?_)))
   rcases zf hs with ⟨d4, hs⟩ | ⟨d4, hs⟩
   ·refine zg (cb d4) (c_sr ?_)
    obtain ⟨f2, b6, i1, f3, d5, f4⟩ := zi a7 [] 34
    refine za (w' := f2) (.slice (some ⟨b6, 0, none⟩) 0 0) (zC rfl (by rw [i1, f3]; kernel_rfl)) ?_
    obtain ⟨a6, hC⟩ := xt2 d5 a6 hC
    have hO := hO.new1 d5 f3 f4.lt
    have d6 := os0 (r := (RT.os 3 ri)) (M := (Past M a0 a2)) f4
    refine ax rfl (ab rfl (zb (wp_ret ?_)))
    cases hs
    have hO := hO.fr1.drop
    exact ⟨_, (some ⟨b6, 0, none⟩), 0, 0, ([b6]), fr_m 60 rfl, hC, (d6.free (Free.os (Free.os Free.int))), hO.top⟩
   refine zh (cb d4) (wp_skip (ze (ms rfl (mi rfl (ms rfl (mi rfl ?_))))))
   obtain ⟨x117, i2, hs⟩ := bind_some hs
   obtain ⟨i3, l3, l4, l5, i4, d7, i5⟩ := zW Sl45 Sz34 a6 i2
   have d8 := Zz (Frz.os Frz.int) d7 i5
   refine za _ (i4 _ _ _ _ _ _ _ _ _ rfl rfl) ?_
   obtain ⟨l6, i6, hrow119, c6⟩ := ZN Ag34 Sz34 rfl rfl d8
   obtain ⟨i7, i9, j0, rfl⟩ := yn c6
   refine za (.slice i7 i9 j0) (zp rfl (i6 _ (Chg.refl _ _))) ?_
   obtain ⟨r122, j1, hs⟩ := bind_some hs
   refine zw Bd75 rfl (Xi (M := (Less (Past M a0 a2) a9)) x117 c6 hO.less.fut j1) ?_
   rintro _ l7 ⟨j2, j3, j4, d9, rfl, b0, e0, j5⟩
   obtain ⟨a6, c6, hrow119, d7, d8, hC⟩ := xt6 b0 a6 c6 hrow119 d7 d8 hC
   have hO := Own.join0 hO b0 j5
   have hO := hO.perm (R := d9 ++ (a9 ++ ([]))) (by simp)
   have e0 := e0.free (M' := (Past M a0 a2)) (Free.os Free.int)
   obtain ⟨x124, j6, hs⟩ := bind_some hs
   obtain ⟨f5, l8, f6, j7, j8, j9, k0⟩ := zW Sl45 Sz34 a6 j6
   have l9 := Zz (Frz.os Frz.int) j9 k0
   refine za _ (j8 _ _ _ _ _ _ _ _ _ rfl rfl) ?_
   have hO := hO.fr1
   obtain ⟨k1, k2, k3, f7, k4, e1⟩ := yx (P := Tryz.prog) (c' := [(.slice j2 j3 j4)]) f6 a6 j7 (fun g hg => hO.inM g (zB a6 g (by simpa using hg))) (ZF e0) (hO.drop.perm (R := d9 ++ ([])) (by simp)).nd (fun g hg hq => hO.apart g hq (by simp only [List.mem_append, List.not_mem_nil, false_or, or_false] at hg ⊢; simp [hg])) (fun _ h => .inl h)
   have k5 : ∀ q ∈ [f5], q ∈ a9 := fun q hq => zB a6 q (by rw [f6]; exact hq)
   refine Zm (w' := k1) (zY rfl rfl (k3 _ _ rfl Sz34)) ?_
   have hO := hO.fr1.fr1
   have hC := hC.st f7 hO k5
   have hO := (hO.perm (R := a9 ++ (d9 ++ ([]))) (by simp)).eat f7 (fun q hq => (k4 q hq).elim .inl (fun h => .inr (.inl h))) (zy e1) e1.fpl
   refine zb (ze (mi rfl (za _ (yad rfl rfl) (ai rfl (zb ?_)))))
   cases hs
   exact ⟨_, k2, fr_m 60 rfl, hC, hO, e1⟩
  refine zh (cb d3) (wp_exit ?_)
  cases hs
  exact ⟨rfl, _, a9, fr_m 60 rfl, hC, hO, a6⟩
 ·skip
  exact ⟨_, f0, fr_m 60 rfl, hC, hO, g6⟩
 cases o105 with
 | nx _ => exact True.intro
 | rt r_ =>
  have hs := zu hs
  intro e3 f8 hK
  cases hs
  exact hK
 | br s101 =>
  have hs := zt hs
  rintro e3 a7 ⟨σ, c5, rfl, hC, hO, k6⟩
  refine c_sr (ms rfl (ax rfl (ab rfl (zb (wp_ret ?_)))))
  cases hs
  exact ⟨_, a3, a4, a5, c5, fr_m 60 rfl, hC, (k6.free (Free.os (Free.os Free.int))), hO.top⟩

theorem Bd45 : zE Tryz.prog 45 := zH Tryz.func45 (by kernel_rfl) rfl

def Vx (M : Nat → Prop) (w0 : World) (r : (List (List Int)) × Bool) (a : Act) (w : World) : Prop :=
  ∃ (σ : Nat → Value) (ra0 : Option Addr) (rn0 rc0 : Nat) (rf0 : List Nat), a = fr 22 (ovl σ [(4, (.slice ra0 rn0 rc0)), (5, (.bool r.2))]) ∧ Chg [] w0 w ∧ (RT.os 34 (RT.os 3 (RT.int .i64))).val M w (.slice ra0 rn0 rc0) r.1 rf0 ∧ Own (Nw w0 []) (fun _ => True) w (rf0 ++ ([]))
def yF (a_ : Int × (List (Int × (List Int)))) (k : Int) : Option ((List (List Int)) × Bool) :=
  (zU (a_.1, a_.2) k).bind fun r4 =>
  (bif (!r4) then some ([], false) else (Zv a_.1 k).bind fun r10 =>
  (Ym (a_.1, a_.2) k).bind fun r12 =>
  (yH (a_.1, a_.2) r10 r12).bind fun r15 =>
  some (r15.1, r15.2))
set_option maxHeartbeats 4000000 in
theorem Vp {M : Nat → Prop} {w : World} {pa0 : Option Addr} {pn0 pc0 : Nat} (a_ : Int × (List (Int × (List Int)))) (k : Int) (h0 : (RT.rs (RT.pr ri rl)).val M w (.slice pa0 pn0 pc0) a_.2 ([])) (hM : ∀ g, w.heap.size ≤ g → M g) {r : (List (List Int)) × Bool} (hs : yF a_ k = some r) :
    Gives Tryz.prog 22 [(.agg #[(iv a_.1), (.slice pa0 pn0 pc0)]), (iv k)] w (fun v w' => ∃ (ra0 : Option Addr) (rn0 rc0 : Nat) (rf0 : List Nat), v = (.tuple #[(.slice ra0 rn0 rc0), (.bool r.2)]) ∧ Chg [] w w' ∧ (RT.os 34 (RT.os 3 ri)).val M w' (.slice ra0 rn0 rc0) r.1 rf0 ∧ Own (Nw w []) (fun _ => True) w' (rf0 ++ ([]))) := by
 refine zq Tryz.func22 rfl Tryz.ntmps22 (Nat.le_of_ble_eq_true rfl) ?_
 have hO := Own.start (N := Nw w []) hM Nw.fut
 have hC := Chg.refl [] w
 unfold yF at hs
 refine wp_k (K := (Vx M w r)) (by rintro _ _ ⟨σ, ra0, rn0, rc0, rf0, rfl, hrest⟩; exact wg Tryz.results22 (zA rfl) (zA rfl) ⟨ra0, rn0, rc0, rf0, rfl, hrest⟩) (c_sr ?_)
 obtain ⟨c6, a6, c7, c0, b5, a0⟩ := zi w [(iv a_.1), (.slice pa0 pn0 pc0)] 30
 refine za (w' := c6) (pq a6 0) (Zx rfl (by rw [c7, c0]; kernel_rfl)) ?_
 obtain ⟨h0, hC⟩ := xt2 b5 h0 hC
 have hO := hO.new1 b5 c0 a0.lt
 refine ax rfl (ab rfl (zb (zd (c_sr (za _ (ldw rfl Ag30 a0 Sz30) (mi rfl ?_))))))
 obtain ⟨r4, c8, hs⟩ := bind_some hs
 refine zw Bd42 rfl (wS (M := M) (a_.1, a_.2) k h0 hO.fut c8) ?_
 rintro _ b6 ⟨rfl, a7⟩
 obtain ⟨h0, a0, hC, hO⟩ := xt4 a7 h0 a0 hC hO
 refine za _ (Zy rfl) (zb ?_)
 rcases zf hs with ⟨b7, hs⟩ | ⟨b7, hs⟩
 ·refine zg (cb b7) (c_sr ?_)
  obtain ⟨c1, a4, c9, c2, a8, c3⟩ := zi b6 [] 34
  refine za (w' := c1) (.slice (some ⟨a4, 0, none⟩) 0 0) (zC rfl (by rw [c9, c2]; kernel_rfl)) ?_
  obtain ⟨h0, a0, hC⟩ := xt3 a8 h0 a0 hC
  have hO := hO.new1 a8 c2 c3.lt
  have b8 := os0 (r := (RT.os 3 ri)) (M := M) c3
  refine ax rfl (ab rfl (zb (wp_ret ?_)))
  cases hs
  have hO := hO.fr1.drop
  exact ⟨_, (some ⟨a4, 0, none⟩), 0, 0, ([a4]), fr_m 22 rfl, hC, b8, hO.top⟩
 refine zh (cb b7) (wp_skip (zd (zX [] Mx rfl ?_)))
 have a5 := Chg.drew b6
 generalize World.drew b6 = d0 at a5 ⊢
 obtain ⟨h0, a0, hC, hO⟩ := xt4 a5 h0 a0 hC hO
 have hS := Chg.refl [] d0
 refine xl 0 rfl (ldxw rfl Ag30 a0 Sz30) hS (xq 1 (pq a6 0) rfl (zj rfl yG) hS (xl 2 rfl (ldx rfl Ag3 Sz3 a0 rfl) hS (xmi 3 rfl rfl hS (xl 5 rfl (ldxw rfl Ag30 a0 Sz30) hS (xmi 6 rfl rfl hS (zM (i := 4) (by kernel_rfl) ?_))))))
 obtain ⟨r10, d1, hs⟩ := bind_some hs
 refine zV (b := false) rfl  Bd24 rfl (Yc (M := M) a_.1 k  hO.fut d1) rfl (by rintro _ _ _ ⟨rfl, a2⟩; exact hS.ext a2) ?_
 rintro _ d8 ⟨rfl, a2⟩
 obtain ⟨h0, a0, hC, hO, hS⟩ := xt5 a2 h0 a0 hC hO hS
 refine zM (i := 7) (by kernel_rfl) ?_
 obtain ⟨r12, d2, hs⟩ := bind_some hs
 refine zV (b := false) rfl  Bd44 rfl (wW (M := M) (a_.1, a_.2) k h0 hO.fut d2) rfl (by rintro _ _ _ ⟨d3, d4, d5, a9, rfl, a3, b0, c4⟩; exact hS.ext a3) ?_
 rintro _ d9 ⟨d3, d4, d5, a9, rfl, a3, b0, c4⟩
 obtain ⟨h0, a0, hC⟩ := xt3 a3 h0 a0 hC
 have hO := Own.join0 hO a3 c4
 have hO := hO.perm (R := a9 ++ (([a6]) ++ ([]))) (by simp)
 have hS := hS.ext a3
 refine zM (i := 8) (by kernel_rfl) ?_
 obtain ⟨r15, d6, hs⟩ := bind_some hs
 refine zV (b := false) rfl  Bd45 rfl (Vs (M := (Less M a9)) (a_.1, a_.2) r10 r12 (h0.sub Less.sub) (((Frz.os (Frz.os Frz.int))).val b0 Less.sub Less.not) hO.less.fut d6) rfl (by rintro _ _ _ ⟨b1, b2, b3, b9, rfl, a1, b4, c5⟩; exact hS.ext a1) ?_
 rintro _ e0 ⟨b1, b2, b3, b9, rfl, a1, b4, c5⟩
 obtain ⟨h0, a0, b0, hC⟩ := xt4 a1 h0 a0 b0 hC
 have hO := Own.join0 hO a1 c5
 have hO := hO.perm (R := b9 ++ (a9 ++ (([a6]) ++ ([])))) (by simp)
 have b4 := b4.free (M' := M) (Free.os (Free.os Free.int))
 have hS := hS.ext a1
 refine xq 9 (.slice b1 b2 b3) rfl (zK rfl (by kernel_rfl)) hS (xq 10 (.bool r15.2) rfl (zK rfl (by kernel_rfl)) hS (xq 11 (.slice b1 b2 b3) rfl (zD rfl) hS (xq 12 (.bool r15.2) rfl (zD rfl) hS (Za (by kernel_rfl) ?_))))
 clear hS
 refine wp_ret ?_
 cases hs
 have hO := hO.fr1.drop.fr1.drop
 exact ⟨_, b1, b2, b3, b9, fr_m 22 rfl, hC, b4, hO.top⟩

theorem Bd36 : zE Tryz.prog 36 := zH Tryz.func36 (by kernel_rfl) rfl

theorem Bd22 : zE Tryz.prog 22 := zH Tryz.func22 (by kernel_rfl) rfl

def vj (M : Nat → Prop) (w0 : World) (r : (List Int) × Bool) (a : Act) (w : World) : Prop :=
  ∃ (σ : Nat → Value) (ra0 : Option Addr) (rn0 rc0 : Nat) (rf0 : List Nat), a = fr 36 (ovl σ [(6, (.slice ra0 rn0 rc0)), (7, (.bool r.2))]) ∧ Chg [] w0 w ∧ (RT.os 3 (RT.int .i64)).val M w (.slice ra0 rn0 rc0) r.1 rf0 ∧ Own (Nw w0 []) (fun _ => True) w (rf0 ++ ([]))
def yZ (a_ : Int × (List (Int × (List Int)))) (k : Int) (t : List Int) : Option ((List Int) × Bool) :=
  (yY (a_.1, a_.2) k t).bind fun r5 =>
  (yF (a_.1, a_.2) k).bind fun r7 =>
  (bif ((!r5.2) || (!r7.2)) then some ([], false) else (idx r7.1 r5.1).bind fun x16 =>
  (idx (List.map some r7.1) r5.1).bind fun o21 =>
  (o21).bind fun x22 =>
  some (x22, true))
set_option maxHeartbeats 4000000 in
theorem vr {M : Nat → Prop} {w : World} {pa0 : Option Addr} {pn0 pc0 : Nat} {pa1 : Option Addr} {pn1 pc1 : Nat} (a_ : Int × (List (Int × (List Int)))) (k : Int) (t : List Int) (h0 : (RT.rs (RT.pr ri rl)).val M w (.slice pa0 pn0 pc0) a_.2 ([])) (h1 : rl.val M w (.slice pa1 pn1 pc1) t ([])) (hM : ∀ g, w.heap.size ≤ g → M g) {r : (List Int) × Bool} (hs : yZ a_ k t = some r) :
    Gives Tryz.prog 11 [(.agg #[(iv a_.1), (.slice pa0 pn0 pc0)]), (iv k), (.slice pa1 pn1 pc1)] w (fun v w' => ∃ (ra0 : Option Addr) (rn0 rc0 : Nat) (rf0 : List Nat), v = (.tuple #[(.slice ra0 rn0 rc0), (.bool r.2)]) ∧ Chg [] w w' ∧ (RT.os 3 ri).val M w' (.slice ra0 rn0 rc0) r.1 rf0 ∧ Own (Nw w []) (fun _ => True) w' (rf0 ++ ([]))) := by
 refine zq Tryz.func11 rfl Tryz.ntmps11 (Nat.le_of_ble_eq_true rfl) ?_
 have hO := Own.start (N := Nw w []) hM Nw.fut
 have hC := Chg.refl [] w
 unfold yZ at hs
 refine wp_k (K := (vj M w r)) (by rintro _ _ ⟨σ, ra0, rn0, rc0, rf0, rfl, hrest⟩; exact wg Tryz.results11 (zA rfl) (zA rfl) ⟨ra0, rn0, rc0, rf0, rfl, hrest⟩) (c_sr ?_)
 obtain ⟨c5, b8, c6, b9, b1, a0⟩ := zi w [(iv a_.1), (.slice pa0 pn0 pc0)] 30
 refine za (w' := c5) (pq b8 0) (Zx rfl (by rw [c6, b9]; kernel_rfl)) ?_
 obtain ⟨h0, h1, hC⟩ := xt3 b1 h0 h1 hC
 have hO := hO.new1 b1 b9 a0.lt
 refine ax rfl (ab rfl (zb (c_sr (za _ (ldw rfl Ag30 a0 Sz30) (mi rfl (ms rfl ?_))))))
 obtain ⟨r5, c7, hs⟩ := bind_some hs
 refine zw Bd36 rfl (wH (M := M) (a_.1, a_.2) k t h0 h1 hO.fut c7) ?_
 rintro _ e7 ⟨rfl, a4⟩
 obtain ⟨h0, h1, a0, hC, hO⟩ := xt5 a4 h0 h1 a0 hC hO
 refine za (.tuple #[(iv r5.1), (.bool r5.2)]) (zr rfl) (za (iv r5.1) (zK rfl (by kernel_rfl)) (za (.bool r5.2) (zK rfl (by kernel_rfl)) (ai rfl (ab rfl (zb (c_sr (za _ (ldw rfl Ag30 a0 Sz30) (mi rfl ?_))))))))
 obtain ⟨r7, c8, hs⟩ := bind_some hs
 refine zw Bd22 rfl (Vp (M := M) (a_.1, a_.2) k h0 hO.fut c8) ?_
 rintro _ c0 ⟨a5, a6, a7, c9, rfl, b2, a2, d0⟩
 obtain ⟨h0, a0, hC⟩ := xt3 b2 h0 a0 hC
 have hO := Own.join0 hO b2 d0
 have hO := hO.perm (R := c9 ++ (([b8]) ++ ([]))) (by simp)
 refine za (.tuple #[(.slice a5 a6 a7), (.bool r7.2)]) (zr rfl) (za (.slice a5 a6 a7) (zK rfl (by kernel_rfl)) (za (.bool r7.2) (zK rfl (by kernel_rfl)) (ax rfl (ab rfl (zb (zd (zd (yB (I := fun a b3 => ∃ (σ : Nat → Value), a = fr 36 (ovl σ [(6, (.slice none 0 0)), (7, (.bool false)), (8, (iv r5.1)), (10, (.slice a5 a6 a7)), (30, (.bool ((!r5.2) || (!r7.2))))]) ∧ Chg [] c0 b3) ?_ ?_))))))))
 ·have hMid := Chg.refl [] c0
  refine ze (mb rfl (za _ (Zy rfl) (mb rfl ?_)))
  rcases Bool.eq_false_or_eq_true ((!r5.2)) with a1 | a1
  ·skip
   refine pn 27 (cb a1) (pn 27 (cb a1) (za (.bool ((!r5.2) || (!r7.2))) (ZM (cb a1) (cb (by rw [a1]; rfl))) (zb ?_)))
   exact ⟨_, fr_m 36 rfl, hMid⟩
  refine py 27 (.bool r7.2) (cb a1) (zr rfl) (py 27 _ (cb a1) (Zy rfl) (za (.bool ((!r5.2) || (!r7.2))) (ZE (cb a1) (cb (by rw [a1]; rfl))) (zb ?_)))
  exact ⟨_, fr_m 36 rfl, hMid⟩
 rintro e8 b3 ⟨σ, rfl, b4⟩
 obtain ⟨a0, a2, hC, hO⟩ := xt4 b4 a0 a2 hC hO
 rcases zf hs with ⟨b6, hs⟩ | ⟨b6, hs⟩
 ·refine zg (cb b6) (c_sr ?_)
  obtain ⟨c1, a3, d1, c2, b5, c3⟩ := zi b3 [] 3
  refine za (w' := c1) (.slice (some ⟨a3, 0, none⟩) 0 0) (zC rfl (by rw [d1, c2]; kernel_rfl)) ?_
  obtain ⟨a0, a2, hC⟩ := xt3 b5 a0 a2 hC
  have hO := hO.new1 b5 c2 c3.lt
  have b7 := os0 (r := ri) (M := M) c3
  refine ax rfl (ab rfl (zb (wp_ret ?_)))
  cases hs
  have hO := hO.fr1.drop.fr1.drop
  exact ⟨_, (some ⟨a3, 0, none⟩), 0, 0, ([a3]), fr_m 36 rfl, hC, b7, hO.top⟩
 refine zh (cb b6) (wp_skip (c_sr (ms rfl (mi rfl ?_))))
 obtain ⟨x16, d2, hs⟩ := bind_some hs
 obtain ⟨d3, e9, d4, f0, d5, d6, d7⟩ := zW Sl45 Sz34 a2 d2
 have d8 := Zz (Frz.os Frz.int) d6 d7
 refine za _ (d5 _ _ _ _ _ _ _ _ _ rfl rfl) ?_
 obtain ⟨f1, d9, hrow18, e0⟩ := ZN Ag34 Sz34 rfl rfl d8
 obtain ⟨a8, a9, b0, rfl⟩ := yn e0
 refine za (.slice a8 a9 b0) (zp rfl (d9 _ (Chg.refl _ _))) (ax rfl (ab rfl (zb (wp_ret ?_))))
 have a2 := zbZ a2
 obtain ⟨o21, e1, hs⟩ := bind_some hs
 obtain ⟨x22, e2, hs⟩ := bind_some hs
 obtain ⟨c4, f2, e3, f3, e4, f4⟩ := oh_take (c := [(.slice a8 a9 b0)]) d4 a2 (e1.trans (congrArg some e2)) hrow18 rfl
 have hO := hO.split e4
 have e5 : (RT.os 3 ri).val M b3 (.slice a8 a9 b0) x22 c4 := ⟨[_], rfl, e3⟩
 cases hs
 have hO := hO.fr1.drop.fr1.drop
 exact ⟨_, a8, a9, b0, c4, fr_m 36 rfl, hC, e5, hO.top⟩

def WZ (M : Nat → Prop) (w0 : World) (r : Int) (a : Act) (w : World) : Prop :=
  ∃ (σ : Nat → Value) , a = fr 14 (ovl σ [(4, (.int .i64 r))]) ∧ Chg [] w0 w
def ZH (n : Int) (k : Int) : Option (Int) :=
  (iter (S := Int × Int) (R := Int) (fun s2 =>
  (bif (decide (0 < s2.1)) then some (.nx (w64 (s2.1 - 1), w64 (s2.2 * n))) else some (.br (s2.1, s2.2)))) FU (k, 1)).bind fun o6 => after o6 (fun r_ => some r_) (fun s2 =>
  some s2.2)
set_option maxHeartbeats 4000000 in
theorem xv {M : Nat → Prop} {w : World}  (n : Int) (k : Int)  (hM : ∀ g, w.heap.size ≤ g → M g) {r : Int} (hs : ZH n k = some r) :
    Gives Tryz.prog 32 [(iv n), (iv k)] w (fun v w' => v = (iv r) ∧ Chg [] w w') := by
 refine zq Tryz.func32 rfl Tryz.ntmps32 (Nat.le_of_ble_eq_true rfl) ?_
 have hO := Own.start (N := Nw w []) hM Nw.fut
 have hC := Chg.refl [] w
 unfold ZH at hs
 refine wp_k (K := (WZ M w r)) (by rintro _ _ ⟨σ, rfl, hrest⟩; exact Zc Tryz.results32 (zA rfl) ⟨rfl, hrest⟩) (c_sr (ai rfl (zb (c_sr (ai rfl (zb (zd ?_)))))))
 obtain ⟨o6, a3, hs⟩ := bind_some hs
 refine wp_block (Zo (id := 0) (I := fun s2 a a0 => ∃ (σ : Nat → Value), a = fr 14 (ovl σ [(0, (iv n)), (1, (iv s2.1)), (5, (iv s2.2))]) ∧ Chg [] w a0 ∧ Own (Nw w []) M a0 ([])) (J := fun s2 a a0 => ∃ (σ : Nat → Value), a = fr 14 (ovl σ [(5, (iv s2.2))]) ∧ Chg [] w a0 ∧ Own (Nw w []) M a0 ([])) (K := (WZ M w)) ?_ FU (k, 1) o6 _ _ ?_ a3 ?_)
 ·rintro s2 o6 a a0 ⟨σ, rfl, hC, hO⟩ hs
  refine zd (c_sr (mi rfl (za _ (YB rfl rfl) (zb ?_))))
  rcases zf hs with ⟨a1, hs⟩ | ⟨a1, hs⟩
  ·refine zg (cb a1) (wp_skip (zd (wp_block (ze (mi rfl (mi rfl (za _ (ymu rfl rfl) (ai rfl (zb (ze (mi rfl (za _ (ysu rfl rfl) (ai rfl (zb ?_))))))))))))))
   cases hs
   exact ⟨_, fr_m 14 rfl, hC, hO⟩
  refine zh (cb a1) (wp_exit ?_)
  cases hs
  exact ⟨rfl, _, fr_m 14 rfl, hC, hO⟩
 ·skip
  exact ⟨_, fr_m 14 rfl, hC, hO⟩
 cases o6 with
 | nx _ => exact True.intro
 | rt r_ =>
  have hs := zu hs
  intro a4 a2 hK
  cases hs
  exact hK
 | br s2 =>
  have hs := zt hs
  rintro a4 a0 ⟨σ, rfl, hC, hO⟩
  refine c_sr (mi rfl (ai rfl (zb (wp_ret ?_))))
  cases hs
  exact ⟨_, fr_m 14 rfl, hC⟩

def Wx (M : Nat → Prop) (w0 : World) (r : Bool) (a : Act) (w : World) : Prop :=
  ∃ (σ : Nat → Value) , a = fr 21 (ovl σ [(4, (.bool r))]) ∧ Chg [] w0 w
def Yt (list : List Int) (n : Int) : Option (Bool) :=
  (forR (S := Unit) (R := Bool) (fun _ x8 s5 =>
  (bif (decide (x8 < 0)) then some (.rt false) else (bif (decide (n ≤ x8)) then some (.rt false) else some (.nx ())))) 0 list ()).bind fun o9 => after o9 (fun r_ => some r_) (fun s5 =>
  some true)
set_option maxHeartbeats 4000000 in
theorem uN {M : Nat → Prop} {w : World} {pa0 : Option Addr} {pn0 pc0 : Nat} (list : List Int) (n : Int) (h0 : rl.val M w (.slice pa0 pn0 pc0) list ([])) (hM : ∀ g, w.heap.size ≤ g → M g) {r : Bool} (hs : Yt list n = some r) :
    Gives Tryz.prog 40 [(.slice pa0 pn0 pc0), (iv n)] w (fun v w' => v = (.bool r) ∧ Chg [] w w') := by
 refine zq Tryz.func40 rfl Tryz.ntmps40 (Nat.le_of_ble_eq_true rfl) ?_
 have hO := Own.start (N := Nw w []) hM Nw.fut
 have hC := Chg.refl [] w
 unfold Yt at hs
 refine wp_k (K := (Wx M w r)) (by rintro _ _ ⟨σ, rfl, hrest⟩; exact Zc Tryz.results40 (zA rfl) ⟨rfl, hrest⟩) (c_sr (ab rfl (zb (zd (c_sr (ms rfl (za _ (zn Sl34 (zx h0) rfl) (mi rfl (zb ?_)))))))))
 obtain ⟨o9, a5, hs⟩ := bind_some hs
 refine wp_block (YL (id := 0) (I := fun i_ xs_ s5 a a0 => ∃ a1 : Nat, i_ = (a1 : Int) ∧ List.drop a1 list = xs_ ∧ (∃ (σ : Nat → Value), a = fr 21 (ovl σ [(1, (iv n)), (7, (.slice pa0 pn0 pc0)), (8, (iv (list.length : Int))), (9, (iv (a1 : Int)))]) ∧ Chg [] w a0 ∧ Own (Nw w []) M a0 ([]) ∧ rl.val M a0 (.slice pa0 pn0 pc0) list ([]))) (J := fun s5 a a0 => ∃ (σ : Nat → Value), a = fr 21 (ovl σ []) ∧ Chg [] w a0 ∧ Own (Nw w []) M a0 ([]) ∧ rl.val M a0 (.slice pa0 pn0 pc0) list ([])) (K := (Wx M w)) ?_ ?_ list 0 () o9 _ _ ?_ a5 ?_)
 ·rintro _ s5 a a0 ⟨a1, rfl, hd, σ, rfl, hC, hO, h0⟩
  have hlt := yc hd
  refine c_sr (za _ (zz rfl rfl) (zb (zd (zh (cb (decide_eq_false hlt)) (wp_exit ?_)))))
  exact ⟨rfl, _, zF 21 trivial, hC, hO, h0⟩
 ·rintro _ x8 xs_ s5 o9 a a0 ⟨a1, rfl, hd, σ, rfl, hC, hO, h0⟩ hs
  have hlt := ZJ hd
  have a6 := ZA hd
  refine c_sr (za _ (zz rfl rfl) (zb (zd (zg (cb (decide_eq_true hlt)) (wp_skip (zd (wp_block (c_sr ?_))))))))
  obtain ⟨a7, a8, a9, b0⟩ := zJ Sl34 Sz3 h0 a6
  refine za _ (a9 _ _ _ _ _ _ _ _ _ rfl rfl) (za (iv x8) (zp rfl ((zo Ag3 Sz3 b0) _ (Chg.refl _ _))) (ai rfl (zb (c_sr (mi rfl (za _ (zz rfl rfl) (mb rfl ?_)))))))
  rcases zf hs with ⟨a2, hs⟩ | ⟨a2, hs⟩
  ·skip
   refine pn 15 (cb a2) (pn 15 (cb a2) (pn 15 (cb a2) (za _ (ptb (cb a2) rfl) (zb (zg (by rfl) (c_sr (ab rfl (zb (wp_ret ?_)))))))))
   cases hs
   exact ⟨_, fr_m 21 rfl, hC⟩
  refine py 15 (iv x8) (cb a2) (zr rfl) (py 15 (iv n) (cb a2) (zr rfl) (py 15 _ (cb a2) (YR rfl rfl) (za _ (pfb (cb a2) rfl) (zb ?_))))
  rcases zf hs with ⟨a3, hs⟩ | ⟨a3, hs⟩
  ·refine zg (cb a3) (c_sr (ab rfl (zb (wp_ret ?_))))
   cases hs
   exact ⟨_, fr_m 21 rfl, hC⟩
  refine zh (cb a3) (wp_skip (ze (za _ (yad rfl rfl) (mi rfl (zb ?_)))))
  cases hs
  exact ⟨_, rfl, Zr hd, _, zF 21 ⟨rfl, rfl, rfl, congrArg (Value.int .i64) (Yk hlt (Int.natCast_nonneg _) (XR h0)), trivial⟩, hC, hO, h0⟩
 ·skip
  exact ⟨0, rfl, rfl, _, fr_m 21 rfl, hC, hO, h0⟩
 cases o9 with
 | nx _ => exact True.intro
 | rt r_ =>
  have hs := zu hs
  intro b1 a4 hK
  cases hs
  exact hK
 | br s5 =>
  have hs := zt hs
  rintro b1 a0 ⟨σ, rfl, hC, hO, h0⟩
  refine c_sr (ab rfl (zb (wp_ret ?_)))
  cases hs
  exact ⟨_, fr_m 21 rfl, hC⟩

theorem Bd32 : zE Tryz.prog 32 := zH Tryz.func32 (by kernel_rfl) rfl

theorem Bd40 : zE Tryz.prog 40 := zH Tryz.func40 (by kernel_rfl) rfl

def zaD (M : Nat → Prop) (w0 : World) (r : Bool) (a : Act) (w : World) : Prop :=
  ∃ (σ : Nat → Value) , a = fr 29 (ovl σ [(4, (.bool r))]) ∧ Chg [] w0 w
def YJ (f : Int × (List Int)) (n : Int) : Option (Bool) :=
  (bif (decide (0 ≤ f.1)) then (bif (decide (f.1 ≤ 3)) then (ZH n f.1).bind fun r7 =>
  (bif ((f.2.length : Int) == r7) then (Yt f.2 n).bind fun r10 =>
  some r10 else some false) else some false) else some false)
set_option maxHeartbeats 4000000 in
theorem zay {M : Nat → Prop} {w : World} {pa0 : Option Addr} {pn0 pc0 : Nat} (f : Int × (List Int)) (n : Int) (h0 : rl.val M w (.slice pa0 pn0 pc0) f.2 ([])) (hM : ∀ g, w.heap.size ≤ g → M g) {r : Bool} (hs : YJ f n = some r) :
    Gives Tryz.prog 84 [(.agg #[(iv f.1), (.slice pa0 pn0 pc0)]), (iv n)] w (fun v w' => v = (.bool r) ∧ Chg [] w w') := by
 refine zq Tryz.func84 rfl Tryz.ntmps84 (Nat.le_of_ble_eq_true rfl) ?_
 have hO := Own.start (N := Nw w []) hM Nw.fut
 have hC := Chg.refl [] w
 unfold YJ at hs
 refine wp_k (K := (zaD M w r)) (by rintro _ _ ⟨σ, rfl, hrest⟩; exact Zc Tryz.results84 (zA rfl) ⟨rfl, hrest⟩) (c_sr ?_)
 obtain ⟨a8, a6, b1, b0, a9, a1⟩ := zi w [(iv f.1), (.slice pa0 pn0 pc0)] 77
 refine za (w' := a8) (pq a6 0) (Zx rfl (by rw [b1, b0]; kernel_rfl)) ?_
 obtain ⟨h0, hC⟩ := xt2 a9 h0 hC
 have hO := hO.new1 a9 b0 a1.lt
 refine ab rfl (zb (zd (zX [] Mx rfl ?_)))
 have a7 := Chg.drew a8
 generalize World.drew a8 = b2 at a7 ⊢
 obtain ⟨h0, a1, hC, hO⟩ := xt4 a7 h0 a1 hC hO
 have hS := Chg.refl [] b2
 refine xq 0 (pq a6 0) rfl (zj rfl yf) hS (xl 1 rfl (ldx rfl Ag3 Sz3 a1 rfl) hS (xq 2 _ rfl (YR rfl rfl) hS (xmb 3 rfl rfl hS ?_)))
 rcases zf hs with ⟨a3, hs⟩ | ⟨a3, hs⟩
 ·skip
  refine xpy 4 8 (pq a6 0) rfl (cb a3) (zj rfl yf) hS (x_ly 5 (iv f.1) rfl (by kernel_rfl) (tg := 8) (by kernel_rfl) (cb a3) (fun w' hw' => zp rfl ((Zt Ag3 Sz3 a1 [] [(iv f.1)] [(.slice pa0 pn0 pc0)] rfl rfl (fun _ => rfl)) w' hw')) hS (xpy 6 8 _ rfl (cb a3) (Xs rfl rfl) hS (xq 7 _ rfl (ptb (cb a3) rfl) hS (xmb 8 rfl rfl hS ?_))))
  rcases zf hs with ⟨a0, hs⟩ | ⟨a0, hs⟩
  ·skip
   refine xpy 9 13 (pq a6 1) rfl (cb a0) (zj rfl xF) hS (x_ly 10 (.slice pa0 pn0 pc0) rfl (by kernel_rfl) (tg := 13) (by kernel_rfl) (cb a0) (fun w' hw' => zp rfl ((Zt Ag34 Sz34 a1 [(iv f.1)] [(.slice pa0 pn0 pc0)] [] rfl rfl (fun _ => rfl)) w' hw')) hS (xpy 11 13 _ rfl (cb a0) (zn Sl34 (zx h0) rfl) hS (xpy 12 13 (iv n) rfl (cb a0) (zr rfl) hS (xpy 13 13 (pq a6 0) rfl (cb a0) (zj rfl yf) hS (x_ly 14 (iv f.1) rfl (by kernel_rfl) (tg := 13) (by kernel_rfl) (cb a0) (fun w' hw' => zp rfl ((Zt Ag3 Sz3 a1 [] [(iv f.1)] [(.slice pa0 pn0 pc0)] rfl rfl (fun _ => rfl)) w' hw')) hS (zM (i := 15) (by kernel_rfl) ?_))))))
   obtain ⟨r7, b3, hs⟩ := bind_some hs
   refine wh (b := false) rfl (tg := 13) (by kernel_rfl) (cb a0) Bd32 rfl (xv (M := M) n f.1  hO.fut b3) rfl (by rintro _ _ _ ⟨rfl, a4⟩; exact hS.ext a4) ?_
   rintro _ b6 ⟨rfl, a4⟩
   obtain ⟨h0, a1, hC, hO, hS⟩ := xt5 a4 h0 a1 hC hO hS
   refine xpy 16 13 (.bool ((f.2.length : Int) == r7)) rfl (cb a0) (xe rfl rfl) hS (xq 17 _ rfl (ptb (cb a0) rfl) hS (xmb 18 rfl rfl hS ?_))
   rcases zf hs with ⟨a2, hs⟩ | ⟨a2, hs⟩
   ·skip
    refine xpy 19 23 (pq a6 1) rfl (cb a2) (zj rfl xF) hS (xpy 21 23 (iv n) rfl (cb a2) (zr rfl) hS (zM (i := 20) (by kernel_rfl) (Wh (b := false) (.slice pa0 pn0 pc0) rfl (tg := 23) (by kernel_rfl) (cb a2) (zp rfl ((Zt Ag34 Sz34 a1 [(iv f.1)] [(.slice pa0 pn0 pc0)] [] rfl rfl (fun _ => rfl)) _ (Chg.refl _ _))) rfl (fun _ => hS) (zM (i := 22) (by kernel_rfl) ?_))))
    obtain ⟨r10, b4, hs⟩ := bind_some hs
    refine wh (b := false) rfl (tg := 23) (by kernel_rfl) (cb a2) Bd40 rfl (uN (M := M) f.2 n h0 hO.fut b4) rfl (by rintro _ _ _ ⟨rfl, a5⟩; exact hS.ext a5) ?_
    rintro _ b7 ⟨rfl, a5⟩
    obtain ⟨h0, a1, hC, hO, hS⟩ := xt5 a5 h0 a1 hC hO hS
    refine xq 23 _ rfl (ptb (cb a2) rfl) hS (xq 24 (.bool r10) rfl (zD rfl) hS (Za (by kernel_rfl) ?_))
    clear hS
    refine wp_ret ?_
    cases hs
    exact ⟨_, fr_m 29 rfl, hC⟩
   refine xpn 19 23 rfl (cb a2) hS (xpn 20 23 rfl (cb a2) hS (xpn 21 23 rfl (cb a2) hS (xpn 22 23 rfl (cb a2) hS (xq 23 _ rfl (pfb (cb a2) rfl) hS (xq 24 (.bool false) rfl (zD rfl) hS (Za (by kernel_rfl) ?_))))))
   clear hS
   refine wp_ret ?_
   cases hs
   exact ⟨_, fr_m 29 rfl, hC⟩
  refine xpn 9 13 rfl (cb a0) hS (xpn 10 13 rfl (cb a0) hS (xpn 11 13 rfl (cb a0) hS (xpn 12 13 rfl (cb a0) hS (xpn 13 13 rfl (cb a0) hS (xpn 14 13 rfl (cb a0) hS (xpn 15 13 rfl (cb a0) hS (xpn 16 13 rfl (cb a0) hS (xq 17 _ rfl (pfb (cb a0) rfl) hS (xmb 18 rfl rfl hS (xpn 19 23 rfl (by rfl) hS (xpn 20 23 rfl (by rfl) hS (xpn 21 23 rfl (by rfl) hS (xpn 22 23 rfl (by rfl) hS (xq 23 _ rfl (pfb (by rfl) rfl) hS (xq 24 (.bool false) rfl (zD rfl) hS (Za (by kernel_rfl) ?_))))))))))))))))
  clear hS
  refine wp_ret ?_
  cases hs
  exact ⟨_, fr_m 29 rfl, hC⟩
 refine xpn 4 8 rfl (cb a3) hS (xpn 5 8 rfl (cb a3) hS (xpn 6 8 rfl (cb a3) hS (xq 7 _ rfl (pfb (cb a3) rfl) hS (xmb 8 rfl rfl hS (xpn 9 13 rfl (by rfl) hS (xpn 10 13 rfl (by rfl) hS (xpn 11 13 rfl (by rfl) hS (xpn 12 13 rfl (by rfl) hS (xpn 13 13 rfl (by rfl) hS (xpn 14 13 rfl (by rfl) hS (xpn 15 13 rfl (by rfl) hS (xpn 16 13 rfl (by rfl) hS (xq 17 _ rfl (pfb (by rfl) rfl) hS (xmb 18 rfl rfl hS (xpn 19 23 rfl (by rfl) hS (xpn 20 23 rfl (by rfl) hS (xpn 21 23 rfl (by rfl) hS (xpn 22 23 rfl (by rfl) hS (xq 23 _ rfl (pfb (by rfl) rfl) hS (xq 24 (.bool false) rfl (zD rfl) hS (Za (by kernel_rfl) ?_)))))))))))))))))))))
 clear hS
 refine wp_ret ?_
 cases hs
 exact ⟨_, fr_m 29 rfl, hC⟩

theorem Bd84 : zE Tryz.prog 84 := zH Tryz.func84 (by kernel_rfl) rfl

def we (M : Nat → Prop) (w0 : World) (r : Bool) (a : Act) (w : World) : Prop :=
  ∃ (σ : Nat → Value) , a = fr 32 (ovl σ [(2, (.bool r))]) ∧ Chg [] w0 w
def ym (a_ : Int × (List (Int × (List Int)))) : Option (Bool) :=
  (bif (((decide (a_.1 < 1)) || (decide (8 < a_.1))) || (decide (4 < (a_.2.length : Int)))) then some false else (forR (S := Unit) (R := Bool) (fun _ x21 s18 =>
  (YJ (x21.1, x21.2) a_.1).bind fun r30 =>
  (bif (!r30) then some (.rt false) else some (.nx ()))) 0 a_.2 ()).bind fun o22 => after o22 (fun r_ => some r_) (fun s18 =>
  some true))
set_option maxHeartbeats 4000000 in
theorem Vc {M : Nat → Prop} {w : World} {pa0 : Option Addr} {pn0 pc0 : Nat} (a_ : Int × (List (Int × (List Int)))) (h0 : (RT.rs (RT.pr ri rl)).val M w (.slice pa0 pn0 pc0) a_.2 ([])) (hM : ∀ g, w.heap.size ≤ g → M g) {r : Bool} (hs : ym a_ = some r) :
    Gives Tryz.prog 57 [(.agg #[(iv a_.1), (.slice pa0 pn0 pc0)])] w (fun v w' => v = (.bool r) ∧ Chg [] w w') := by
 refine zq Tryz.func57 rfl Tryz.ntmps57 (Nat.le_of_ble_eq_true rfl) ?_
 have hO := Own.start (N := Nw w []) hM Nw.fut
 have hC := Chg.refl [] w
 unfold ym at hs
 refine wp_k (K := (we M w r)) (by rintro _ _ ⟨σ, rfl, hrest⟩; exact Zc Tryz.results57 (zA rfl) ⟨rfl, hrest⟩) (c_sr ?_)
 obtain ⟨b6, a1, c9, c1, b7, a0⟩ := zi w [(iv a_.1), (.slice pa0 pn0 pc0)] 30
 refine za (w' := b6) (pq a1 0) (Zx rfl (by rw [c9, c1]; kernel_rfl)) ?_
 obtain ⟨h0, hC⟩ := xt2 b7 h0 hC
 have hO := hO.new1 b7 c1 a0.lt
 refine ab rfl (zb (zd (zd (yB (I := fun a c2 => ∃ (σ : Nat → Value), a = fr 32 (ovl σ [(1, (pq a1 0)), (2, (.bool false)), (18, (.bool (((decide (a_.1 < 1)) || (decide (8 < a_.1))) || (decide (4 < (a_.2.length : Int))))))]) ∧ Chg [] b6 c2) ?_ ?_))))
 ·have hMid := Chg.refl [] b6
  refine ze (za (pq a1 0) (zj rfl yG) (za _ (ld rfl Ag3 Sz3 a0 rfl) (za _ (zz rfl rfl) (mb rfl ?_))))
  rcases Bool.eq_false_or_eq_true ((decide (a_.1 < 1))) with a5 | a5
  ·skip
   refine pn 8 (cb a5) (pn 8 (cb a5) (pn 8 (cb a5) (za (.bool ((decide (a_.1 < 1)) || (decide (8 < a_.1)))) (ZM (cb a5) (cb (by rw [a5]; rfl))) (mb rfl ?_))))
   rcases Bool.eq_false_or_eq_true (((decide (a_.1 < 1)) || (decide (8 < a_.1)))) with a2 | a2
   ·skip
    refine pn 13 (cb a2) (pn 13 (cb a2) (pn 13 (cb a2) (pn 13 (cb a2) (za (.bool (((decide (a_.1 < 1)) || (decide (8 < a_.1))) || (decide (4 < (a_.2.length : Int))))) (ZM (cb a2) (cb (by rw [a2]; rfl))) (zb ?_)))))
    exact ⟨_, fr_m 32 rfl, hMid⟩
   refine py 13 (pq a1 1) (cb a2) (zj rfl Zs) (py 13 _ (cb a2) (ld rfl Ag28 Sz28 a0 rfl) (py 13 _ (cb a2) (zn Sl28 (zx h0) rfl) (py 13 _ (cb a2) (YB rfl rfl) (za (.bool (((decide (a_.1 < 1)) || (decide (8 < a_.1))) || (decide (4 < (a_.2.length : Int))))) (ZE (cb a2) (cb (by rw [a2]; rfl))) (zb ?_)))))
   exact ⟨_, fr_m 32 rfl, hMid⟩
  refine py 8 (pq a1 0) (cb a5) (zj rfl yG) (py 8 _ (cb a5) (ld rfl Ag3 Sz3 a0 rfl) (py 8 _ (cb a5) (YB rfl rfl) (za (.bool ((decide (a_.1 < 1)) || (decide (8 < a_.1)))) (ZE (cb a5) (cb (by rw [a5]; rfl))) (mb rfl ?_))))
  rcases Bool.eq_false_or_eq_true (((decide (a_.1 < 1)) || (decide (8 < a_.1)))) with a3 | a3
  ·skip
   refine pn 13 (cb a3) (pn 13 (cb a3) (pn 13 (cb a3) (pn 13 (cb a3) (za (.bool (((decide (a_.1 < 1)) || (decide (8 < a_.1))) || (decide (4 < (a_.2.length : Int))))) (ZM (cb a3) (cb (by rw [a3]; rfl))) (zb ?_)))))
   exact ⟨_, fr_m 32 rfl, hMid⟩
  refine py 13 (pq a1 1) (cb a3) (zj rfl Zs) (py 13 _ (cb a3) (ld rfl Ag28 Sz28 a0 rfl) (py 13 _ (cb a3) (zn Sl28 (zx h0) rfl) (py 13 _ (cb a3) (YB rfl rfl) (za (.bool (((decide (a_.1 < 1)) || (decide (8 < a_.1))) || (decide (4 < (a_.2.length : Int))))) (ZE (cb a3) (cb (by rw [a3]; rfl))) (zb ?_)))))
  exact ⟨_, fr_m 32 rfl, hMid⟩
 rintro c3 c2 ⟨σ, rfl, b5⟩
 obtain ⟨h0, a0, hC, hO⟩ := xt4 b5 h0 a0 hC hO
 rcases zf hs with ⟨b8, hs⟩ | ⟨b8, hs⟩
 ·refine zg (cb b8) (c_sr (ab rfl (zb (wp_ret ?_))))
  cases hs
  exact ⟨_, fr_m 32 rfl, hC⟩
 refine zh (cb b8) (wp_skip (zd (c_sr (za (pq a1 1) (zj rfl Zs) (za _ (ld rfl Ag28 Sz28 a0 rfl) (za _ (zn Sl28 (zx h0) rfl) (mi rfl (zb ?_))))))))
 obtain ⟨o22, d0, hs⟩ := bind_some hs
 refine wp_block (YL (id := 0) (I := fun i_ xs_ s18 a a4 => ∃ a6 : Nat, i_ = (a6 : Int) ∧ List.drop a6 a_.2 = xs_ ∧ (∃ (σ : Nat → Value), a = fr 32 (ovl σ [(1, (pq a1 0)), (20, (.slice pa0 pn0 pc0)), (21, (iv (a_.2.length : Int))), (22, (iv (a6 : Int)))]) ∧ Chg [] w a4 ∧ Own (Nw w []) M a4 (([a1]) ++ []) ∧ (RT.rs (RT.pr ri rl)).val M a4 (.slice pa0 pn0 pc0) a_.2 ([]) ∧ BoxV a4 a1 30 [(iv a_.1), (.slice pa0 pn0 pc0)])) (J := fun s18 a a4 => ∃ (σ : Nat → Value), a = fr 32 (ovl σ []) ∧ Chg [] w a4 ∧ Own (Nw w []) M a4 (([a1]) ++ []) ∧ (RT.rs (RT.pr ri rl)).val M a4 (.slice pa0 pn0 pc0) a_.2 ([]) ∧ BoxV a4 a1 30 [(iv a_.1), (.slice pa0 pn0 pc0)]) (K := (we M w)) ?_ ?_ a_.2 0 () o22 _ _ ?_ d0 ?_)
 ·rintro _ s18 a a4 ⟨a6, rfl, hd, σ, rfl, hC, hO, h0, a0⟩
  have hlt := yc hd
  refine c_sr (za _ (zz rfl rfl) (zb (zd (zh (cb (decide_eq_false hlt)) (wp_exit ?_)))))
  exact ⟨rfl, _, zF 32 trivial, hC, hO, h0, a0⟩
 ·rintro _ x21 xs_ s18 o22 a a4 ⟨a6, rfl, hd, σ, rfl, hC, hO, h0, a0⟩ hs
  have hlt := ZJ hd
  have d1 := ZA hd
  refine c_sr (za _ (zz rfl rfl) (zb (zd (zg (cb (decide_eq_true hlt)) (wp_skip (zd (wp_block (c_sr ?_))))))))
  obtain ⟨d2, d3, d4, b9⟩ := zJ Sl28 Sz77 h0 d1
  refine za _ (d4 _ _ _ _ _ _ _ _ _ rfl rfl) ?_
  obtain ⟨e4, d5, d6⟩ := Zp Ag77 Sz77 (by intro h; cases h) b9
  obtain ⟨e5, rfl, d7⟩ := d6
  obtain ⟨e6, e7, rfl, d8, d9⟩ := YA d7
  obtain rfl := YP d8
  obtain ⟨b0, b1, b2, rfl, a7⟩ := xx d9
  refine za (.agg #[(iv x21.1), (.slice b0 b1 b2)]) (zp rfl (d5 _ (Chg.refl _ _))) ?_
  obtain ⟨e0, c4, e1, c5, a8, c6⟩ := zi a4 [(iv 0), (.slice none 0 0)] 77
  refine za (w' := e0) (pq c4 0) (xg (by rw [e1, c5]; kernel_rfl)) ?_
  obtain ⟨h0, a0, a7, b9, hC⟩ := xt5 a8 h0 a0 a7 b9 hC
  have hO := hO.new1 a8 c5 c6.lt
  obtain ⟨c7, e2, b3, b4⟩ := ZB (P := Tryz.prog) c6 [] [(iv 0), (.slice none 0 0)] [] [(iv x21.1), (.slice b0 b1 b2)] rfl rfl (by intro u hu; simp only [List.mem_cons, List.not_mem_nil, or_false] at hu; rcases hu with rfl | rfl <;> rfl)
  refine Zm (w' := c7) (zY rfl rfl (e2 _ _ rfl Sz77)) ?_
  have h0 := h0.mt b3 hO zk
  have a0 := a0.ap b3 hO zk (zm (List.mem_singleton.2 rfl))
  have a7 := a7.mt b3 hO zk
  have hC := hC.st b3 hO zk
  have hO := hO.ext b3
  have b4 : BoxV c7 c4 77 [(iv x21.1), (.slice b0 b1 b2)] := b4
  refine zb (c_sr (za _ (ldw rfl Ag77 b4 Sz77) (za (pq a1 0) (zj rfl yG) (za _ (ld rfl Ag3 Sz3 a0 rfl) ?_))))
  obtain ⟨r30, e3, hs⟩ := bind_some hs
  refine zw Bd84 rfl (zay (M := M) (x21.1, x21.2) a_.1 a7 hO.fut e3) ?_
  rintro _ e8 ⟨rfl, a9⟩
  obtain ⟨h0, a0, a7, b4, hC, hO⟩ := xt6 a9 h0 a0 a7 b4 hC hO
  refine za _ (Zy rfl) (zb ?_)
  rcases zf hs with ⟨c0, hs⟩ | ⟨c0, hs⟩
  ·refine zg (cb c0) (c_sr (ab rfl (zb (wp_ret ?_))))
   cases hs
   exact ⟨_, fr_m 32 rfl, hC⟩
  refine zh (cb c0) (wp_skip (ze (za _ (yad rfl rfl) (mi rfl (zb ?_)))))
  cases hs
  have hO := hO.drop
  exact ⟨_, rfl, Zr hd, _, zF 32 ⟨rfl, rfl, rfl, congrArg (Value.int .i64) (Yk hlt (Int.natCast_nonneg _) (XR h0)), trivial⟩, hC, hO, h0, a0⟩
 ·skip
  exact ⟨0, rfl, rfl, _, fr_m 32 rfl, hC, hO, h0, a0⟩
 cases o22 with
 | nx _ => exact True.intro
 | rt r_ =>
  have hs := zu hs
  intro c3 c8 hK
  cases hs
  exact hK
 | br s18 =>
  have hs := zt hs
  rintro c3 a4 ⟨σ, rfl, hC, hO, h0, a0⟩
  refine c_sr (ab rfl (zb (wp_ret ?_)))
  cases hs
  exact ⟨_, fr_m 32 rfl, hC⟩

def WB (M : Nat → Prop) (w0 : World) (r : (List Int)) (a : Act) (w : World) : Prop :=
  ∃ (σ : Nat → Value) (ra0 : Option Addr) (rn0 rc0 : Nat) (rf0 : List Nat), a = fr 27 (ovl σ [(6, (.slice ra0 rn0 rc0))]) ∧ Chg [] w0 w ∧ (RT.os 3 (RT.int .i64)).val M w (.slice ra0 rn0 rc0) r rf0 ∧ Own (Nw w0 []) (fun _ => True) w (rf0 ++ ([]))
def ye (i : Int) (k : Int) (n : Int) : Option ((List Int)) :=
  (mks k (0 : Int)).bind fun y2 =>
  (iter (S := Int × Int × (List Int)) (R := (List Int)) (fun s17 =>
  (bif (decide (0 ≤ s17.2.1)) then (nz n).bind fun u26 =>
  (idx s17.2.2 s17.2.1).bind fun x27 =>
  (nz n).bind fun u30 =>
  some (.nx (w64 (Int.tdiv s17.1 n), w64 (s17.2.1 - 1), List.set s17.2.2 (Int.toNat s17.2.1) (Int.tmod s17.1 n))) else some (.br (s17.1, s17.2.1, s17.2.2)))) FU (i, w64 (k - 1), y2)).bind fun o21 => after o21 (fun r_ => some r_) (fun s17 =>
  some s17.2.2)
set_option maxHeartbeats 4000000 in
theorem xP {M : Nat → Prop} {w : World}  (i : Int) (k : Int) (n : Int)  (hM : ∀ g, w.heap.size ≤ g → M g) {r : (List Int)} (hs : ye i k n = some r) :
    Gives Tryz.prog 34 [(iv i), (iv k), (iv n)] w (fun v w' => ∃ (ra0 : Option Addr) (rn0 rc0 : Nat) (rf0 : List Nat), v = (.slice ra0 rn0 rc0) ∧ Chg [] w w' ∧ (RT.os 3 ri).val M w' (.slice ra0 rn0 rc0) r rf0 ∧ Own (Nw w []) (fun _ => True) w' (rf0 ++ ([]))) := by
 refine zq Tryz.func34 rfl Tryz.ntmps34 (Nat.le_of_ble_eq_true rfl) ?_
 have hO := Own.start (N := Nw w []) hM Nw.fut
 have hC := Chg.refl [] w
 unfold ye at hs
 refine wp_k (K := (WB M w r)) (by rintro _ _ ⟨σ, ra0, rn0, rc0, rf0, rfl, hrest⟩; exact Zc Tryz.results34 (zA rfl) ⟨ra0, rn0, rc0, rf0, rfl, hrest⟩) (c_sr (ax rfl (zb (c_sr (mi rfl ?_)))))
 obtain ⟨y2, b5, hs⟩ := bind_some hs
 obtain ⟨a0, a1, a2, a7, b6, b7, b1, b8, a8⟩ := xd (M := M) (w := w) (r := ri) Rw34 b5 (fun _ _ => ⟨rfl, rfl⟩)
 refine za (w' := a7) (.slice a0 a1 a2) (yN rfl rfl b7) ?_
 have hC := hC.ext b1
 have hO := hO.new b1 b8 (zy a8) a8.fpl
 refine ax rfl (zb (zd (c_sr (mi rfl (za _ (ysu rfl rfl) (ai rfl (zb ?_)))))))
 obtain ⟨o21, b9, hs⟩ := bind_some hs
 refine wp_block (Zo (id := 0) (I := fun s17 a a3 => ∃ (σ : Nat → Value) (a4 : List Nat), a = fr 27 (ovl σ [(0, (iv s17.1)), (2, (iv n)), (7, (.slice a0 a1 a2)), (8, (iv s17.2.1))]) ∧ Chg [] w a3 ∧ Own (Nw w []) M a3 (a4 ++ []) ∧ (RT.os 3 ri).val M a3 (.slice a0 a1 a2) s17.2.2 a4) (J := fun s17 a a3 => ∃ (σ : Nat → Value) (a6 : List Nat), a = fr 27 (ovl σ [(7, (.slice a0 a1 a2))]) ∧ Chg [] w a3 ∧ Own (Nw w []) M a3 (a6 ++ []) ∧ (RT.os 3 ri).val M a3 (.slice a0 a1 a2) s17.2.2 a6) (K := (WB M w)) ?_ FU (i, w64 (k - 1), y2) o21 _ _ ?_ b9 ?_)
 ·rintro s17 o21 a a3 ⟨σ, a4, rfl, hC, hO, a5⟩ hs
  refine zd (c_sr (mi rfl (za _ (YR rfl rfl) (zb ?_))))
  rcases zf hs with ⟨a9, hs⟩ | ⟨a9, hs⟩
  ·refine zg (cb a9) (wp_skip (zd (wp_block (c_sr (ms rfl (mi rfl (mi rfl (mi rfl ?_))))))))
   obtain ⟨u26, c0, hs⟩ := bind_some hs
   refine za (iv (Int.tmod s17.1 n)) (y_rem rfl rfl (nz_ne c0)) ?_
   obtain ⟨x27, c1, hs⟩ := bind_some hs
   obtain ⟨b2, d1, b3, c2, c3, d2, d3⟩ := zW Sl34 Sz3 a5 c1
   refine za _ (c3 _ _ _ _ _ _ _ _ _ rfl rfl) ?_
   obtain ⟨c4, c5, c6, b4, c7, b0⟩ := yx (P := Tryz.prog) (c' := [(iv (Int.tmod s17.1 n))]) b3 a5 c2 (fun g hg => hO.inM g (zB a5 g (by simpa using hg))) ⟨rfl, rfl⟩ List.nodup_nil (fun _ h => nomatch h) (fun _ h => .inl h)
   have c8 : ∀ q ∈ [b2], q ∈ a4 := fun q hq => zB a5 q (by rw [b3]; exact hq)
   refine Zm (w' := c4) (zY rfl rfl (c6 _ _ rfl Sz3)) ?_
   have hC := hC.st b4 hO c8
   have hO := hO.grow b4 (fun q hq => .inl ((c7 q hq).resolve_right (fun h => nomatch h))) (zy b0) b0.fpl
   refine zb (ze (mi rfl (mi rfl ?_)))
   obtain ⟨u30, c9, hs⟩ := bind_some hs
   refine za (iv (w64 (Int.tdiv s17.1 n))) (y_quo rfl rfl (nz_ne c9)) (ai rfl (zb (ze (mi rfl (za _ (ysu rfl rfl) (ai rfl (zb ?_)))))))
   cases hs
   exact ⟨_, c5, fr_m 27 rfl, hC, hO, b0⟩
  refine zh (cb a9) (wp_exit ?_)
  cases hs
  exact ⟨rfl, _, a4, fr_m 27 rfl, hC, hO, a5⟩
 ·skip
  exact ⟨_, b6, fr_m 27 rfl, hC, hO, a8⟩
 cases o21 with
 | nx _ => exact True.intro
 | rt r_ =>
  have hs := zu hs
  intro a0 a7 hK
  cases hs
  exact hK
 | br s17 =>
  have hs := zt hs
  rintro a0 a3 ⟨σ, a6, rfl, hC, hO, d0⟩
  refine c_sr (ms rfl (ax rfl (zb (wp_ret ?_))))
  cases hs
  exact ⟨_, a0, a1, a2, a6, fr_m 27 rfl, hC, d0, hO.top⟩

def UI (M : Nat → Prop) (w0 : World) (r : (List Int)) (a : Act) (w : World) : Prop :=
  ∃ (σ : Nat → Value) (ra0 : Option Addr) (rn0 rc0 : Nat) (rf0 : List Nat), a = fr 6 (ovl σ [(2, (.slice ra0 rn0 rc0))]) ∧ Chg [] w0 w ∧ (RT.os 3 (RT.int .i64)).val M w (.slice ra0 rn0 rc0) r rf0 ∧ Option.isNone ra0 = false ∧ Own (Nw w0 []) (fun _ => True) w (rf0 ++ ([]))
def yK (list : List Int) : Option ((List Int)) :=
  (app ([]) list).bind fun y5 =>
  some y5
set_option maxHeartbeats 4000000 in
theorem vh {M : Nat → Prop} {w : World} {pa0 : Option Addr} {pn0 pc0 : Nat} (list : List Int) (h0 : rl.val M w (.slice pa0 pn0 pc0) list ([])) (hM : ∀ g, w.heap.size ≤ g → M g) {r : (List Int)} (hs : yK list = some r) :
    Gives Tryz.prog 86 [(.slice pa0 pn0 pc0)] w (fun v w' => ∃ (ra0 : Option Addr) (rn0 rc0 : Nat) (rf0 : List Nat), v = (.slice ra0 rn0 rc0) ∧ Chg [] w w' ∧ (RT.os 3 ri).val M w' (.slice ra0 rn0 rc0) r rf0 ∧ Option.isNone ra0 = false ∧ Own (Nw w []) (fun _ => True) w' (rf0 ++ ([]))) := by
 refine zq Tryz.func86 rfl Tryz.ntmps86 (Nat.le_of_ble_eq_true rfl) ?_
 have hO := Own.start (N := Nw w []) hM Nw.fut
 have hC := Chg.refl [] w
 unfold yK at hs
 refine wp_k (K := (UI M w r)) (by rintro _ _ ⟨σ, ra0, rn0, rc0, rf0, rfl, hrest⟩; exact Zc Tryz.results86 (zA rfl) ⟨ra0, rn0, rc0, rf0, rfl, hrest⟩) (c_sr (ax rfl (zb (c_sr ?_))))
 obtain ⟨a8, a1, b2, a9, a2, b0⟩ := zi w [] 3
 refine za (w' := a8) (.slice (some ⟨a1, 0, none⟩) 0 0) (zC rfl (by rw [b2, a9]; kernel_rfl)) ?_
 obtain ⟨h0, hC⟩ := xt2 a2 h0 hC
 have hO := hO.new1 a2 a9 b0.lt
 have a0 := os0 (r := ri) (M := M) b0
 refine ms rfl ?_
 obtain ⟨y5, b3, hs⟩ := bind_some hs
 obtain ⟨a3, a4, a5, b4, b5, b6, a6, b7, a7, b8⟩ := app_rs_nn Rw34 b3 a0 h0 hO.inM
 have b1 := zB a0
 refine za (w' := b4) (.slice a3 a4 a5) (zS rfl rfl (b6 _)) ?_
 have h0 := h0.mt a6 hO b1
 have hC := hC.st a6 hO b1
 have hO := hO.grow a6 b7 (zy a7) a7.fpl
 refine ax rfl (zb (wp_ret ?_))
 cases hs
 exact ⟨_, a3, a4, a5, b5, fr_m 6 rfl, hC, a7, b8, hO.top⟩

theorem Rw110 : RowT Tryz.prog 110 5 1 [(.int .u8 0)] := ⟨Tryz.underlying110, ⟨_, _, rfl, rfl, rfl, rfl, by decide⟩, rfl, by decide⟩

end Go.Proofs
