/- What functions of the program compute, as plain functions, and that a call gives just that. Conditions: those named in each theorem. -/
import Derived.Test.YtkbacbikbndakaaGreatF3
set_option linter.unusedVariables false
namespace Go.Proofs
open Go.G Go.RowKit
set_option maxRecDepth 100000

def zaN (M : Nat → Prop) (w0 : World) (r : Bool) (a : Act) (w : World) : Prop :=
  ∃ (σ : Nat → Value) , a = fr 16 (ovl σ [(4, (.bool r))]) ∧ Chg [] w0 w
def xt (a_ : Int × (List Int)) (b : Int × (List Int)) : Option (Bool) :=
  (bif (a_.1 != b.1) then some false else (ZG a_.2 b.2).bind fun r7 =>
  (bif (!r7) then some false else some true))
set_option maxHeartbeats 4000000 in
theorem zaC {M : Nat → Prop} {w : World} {pa0 : Option Addr} {pn0 pc0 : Nat} {pa1 : Option Addr} {pn1 pc1 : Nat} (a_ : Int × (List Int)) (b : Int × (List Int)) (h0 : rl.val M w (.slice pa0 pn0 pc0) a_.2 ([])) (h1 : rl.val M w (.slice pa1 pn1 pc1) b.2 ([])) (hM : ∀ g, w.heap.size ≤ g → M g) {r : Bool} (hs : xt a_ b = some r) :
    Gives Tryz.prog 66 [(.agg #[(iv a_.1), (.slice pa0 pn0 pc0)]), (.agg #[(iv b.1), (.slice pa1 pn1 pc1)])] w (fun v w' => v = (.bool r) ∧ Chg [] w w') := by
 refine zq Tryz.func66 rfl Tryz.ntmps66 (Nat.le_of_ble_eq_true rfl) ?_
 have hO := Own.start (N := Nw w []) hM Nw.fut
 have hC := Chg.refl [] w
 unfold xt at hs
 refine wp_k (K := (zaN M w r)) (by rintro _ _ ⟨σ, rfl, hrest⟩; exact Zc Tryz.results66 (zA rfl) ⟨rfl, hrest⟩) (c_sr ?_)
 obtain ⟨a9, a5, b2, b0, a4, a0⟩ := zi w [(iv a_.1), (.slice pa0 pn0 pc0)] 77
 refine za (w' := a9) (pq a5 0) (Zx rfl (by rw [b2, b0]; kernel_rfl)) ?_
 obtain ⟨h0, h1, hC⟩ := xt3 a4 h0 h1 hC
 have hO := hO.new1 a4 b0 a0.lt
 obtain ⟨b3, a6, b4, b1, a2, a3⟩ := zi a9 [(iv b.1), (.slice pa1 pn1 pc1)] 77
 refine za (w' := b3) (pq a6 0) (Zx rfl (by rw [b4, b1]; kernel_rfl)) ?_
 obtain ⟨h0, h1, a0, hC⟩ := xt4 a2 h0 h1 a0 hC
 have hO := hO.new1 a2 b1 a3.lt
 refine ab rfl (zb (zd (c_sr (za (pq a5 0) (zj rfl yf) (za _ (ld rfl Ag3 Sz3 a0 rfl) (za (pq a6 0) (zj rfl yf) (za _ (ld rfl Ag3 Sz3 a3 rfl) (za (.bool (a_.1 != b.1)) (xX rfl rfl) (zb ?_)))))))))
 rcases zf hs with ⟨a7, hs⟩ | ⟨a7, hs⟩
 ·refine zg (cb a7) (c_sr (ab rfl (zb (wp_ret ?_))))
  cases hs
  exact ⟨_, fr_m 16 rfl, hC⟩
 refine zh (cb a7) (wp_skip (zd (c_sr (za (pq a5 1) (zj rfl xF) (za _ (ld rfl Ag34 Sz34 a0 rfl) (za (pq a6 1) (zj rfl xF) (za _ (ld rfl Ag34 Sz34 a3 rfl) ?_)))))))
 obtain ⟨r7, b5, hs⟩ := bind_some hs
 refine zw Bd14 rfl (YY (M := M) a_.2 b.2 h0 h1 hO.fut b5) ?_
 rintro _ b7 ⟨rfl, a1⟩
 obtain ⟨h0, h1, a0, a3, hC, hO⟩ := xt6 a1 h0 h1 a0 a3 hC hO
 refine za _ (Zy rfl) (zb ?_)
 have hO := hO.drop.drop
 rcases zf hs with ⟨a8, hs⟩ | ⟨a8, hs⟩
 ·refine zg (cb a8) (c_sr (ab rfl (zb (wp_ret ?_))))
  cases hs
  exact ⟨_, fr_m 16 rfl, hC⟩
 refine zh (cb a8) (wp_skip (c_sr (ab rfl (zb (wp_ret ?_)))))
 cases hs
 exact ⟨_, fr_m 16 rfl, hC⟩

theorem Bd66 : zE Tryz.prog 66 := zH Tryz.func66 (by kernel_rfl) rfl

def vA (M : Nat → Prop) (w0 : World) (r : Bool) (a : Act) (w : World) : Prop :=
  ∃ (σ : Nat → Value) , a = fr 27 (ovl σ [(4, (.bool r))]) ∧ Chg [] w0 w
def Xo (a_ : List (Int × (List Int))) (b : List (Int × (List Int))) : Option (Bool) :=
  (bif ((a_.length : Int) != (b.length : Int)) then some false else (forC (S := Unit) (R := Bool) (fun k18 s16 =>
  (idx a_ k18).bind fun x23 =>
  (idx b k18).bind fun x27 =>
  (xt (x23.1, x23.2) (x27.1, x27.2)).bind fun r32 =>
  (bif (!r32) then some (.rt false) else some (.nx ()))) 0 (a_.length : Int) ()).bind fun o20 => after o20 (fun r_ => some r_) (fun s16 =>
  some true))
set_option maxHeartbeats 4000000 in
theorem UA {M : Nat → Prop} {w : World} {pa0 : Option Addr} {pn0 pc0 : Nat} {pa1 : Option Addr} {pn1 pc1 : Nat} (a_ : List (Int × (List Int))) (b : List (Int × (List Int))) (h0 : (RT.rs (RT.pr ri rl)).val M w (.slice pa0 pn0 pc0) a_ ([])) (h1 : (RT.rs (RT.pr ri rl)).val M w (.slice pa1 pn1 pc1) b ([])) (hM : ∀ g, w.heap.size ≤ g → M g) {r : Bool} (hs : Xo a_ b = some r) :
    Gives Tryz.prog 35 [(.slice pa0 pn0 pc0), (.slice pa1 pn1 pc1)] w (fun v w' => v = (.bool r) ∧ Chg [] w w') := by
 refine zq Tryz.func35 rfl Tryz.ntmps35 (Nat.le_of_ble_eq_true rfl) ?_
 have hO := Own.start (N := Nw w []) hM Nw.fut
 have hC := Chg.refl [] w
 unfold Xo at hs
 refine wp_k (K := (vA M w r)) (by rintro _ _ ⟨σ, rfl, hrest⟩; exact Zc Tryz.results35 (zA rfl) ⟨rfl, hrest⟩) (c_sr (ab rfl (zb (zd (c_sr (ms rfl (za _ (zn Sl28 (zx h0) rfl) (ms rfl (za _ (zn Sl28 (zx h1) rfl) (za (.bool ((a_.length : Int) != (b.length : Int))) (xX rfl rfl) (zb ?_)))))))))))
 rcases zf hs with ⟨a3, hs⟩ | ⟨a3, hs⟩
 ·refine zg (cb a3) (c_sr (ab rfl (zb (wp_ret ?_))))
  cases hs
  exact ⟨_, fr_m 27 rfl, hC⟩
 refine zh (cb a3) (wp_skip (zd (c_sr (ai rfl (zb ?_)))))
 obtain ⟨o20, b0, hs⟩ := bind_some hs
 refine wp_block (zZ (id := 0) (a_.length : Int) (I := fun k18 s16 a a0 => ∃ (σ : Nat → Value), a = fr 27 (ovl σ [(0, (.slice pa0 pn0 pc0)), (1, (.slice pa1 pn1 pc1)), (5, (iv k18))]) ∧ Chg [] w a0 ∧ Own (Nw w []) M a0 ([]) ∧ (RT.rs (RT.pr ri rl)).val M a0 (.slice pa0 pn0 pc0) a_ ([]) ∧ (RT.rs (RT.pr ri rl)).val M a0 (.slice pa1 pn1 pc1) b ([])) (J := fun s16 a a0 => ∃ (σ : Nat → Value), a = fr 27 (ovl σ []) ∧ Chg [] w a0 ∧ Own (Nw w []) M a0 ([]) ∧ (RT.rs (RT.pr ri rl)).val M a0 (.slice pa0 pn0 pc0) a_ ([]) ∧ (RT.rs (RT.pr ri rl)).val M a0 (.slice pa1 pn1 pc1) b ([])) (K := (vA M w)) ?_ ?_ 0 () o20 _ _ ?_ b0 ?_)
 ·rintro k18 s16 a a0 ⟨σ, rfl, hC, hO, h0, h1⟩ hlt
  refine zd (c_sr (mi rfl (ms rfl (za _ (zn Sl28 (zx h0) rfl) (za _ (zz rfl rfl) (zb (zh (cb (decide_eq_false hlt)) (wp_exit ?_))))))))
  exact ⟨rfl, _, zF 27 trivial, hC, hO, h0, h1⟩
 ·rintro k18 s16 o20 a a0 ⟨σ, rfl, hC, hO, h0, h1⟩ hlt hw hs
  refine zd (c_sr (mi rfl (ms rfl (za _ (zn Sl28 (zx h0) rfl) (za _ (zz rfl rfl) (zb (zg (cb (decide_eq_true hlt)) (wp_skip (zd (wp_block (zd (zX [] Mx rfl ?_))))))))))))
  have a2 := Chg.drew a0
  generalize World.drew a0 = b1 at a2 ⊢
  obtain ⟨h0, h1, hC, hO⟩ := xt4 a2 h0 h1 hC hO
  have hS := Chg.refl [] b1
  refine xms 0 rfl rfl hS (xmi 1 rfl rfl hS ?_)
  obtain ⟨x23, b2, hs⟩ := bind_some hs
  obtain ⟨b3, b4, b5, a4⟩ := zJ Sl28 Sz77 h0 b2
  refine xq 2 _ rfl (b5 _ _ _ _ _ _ _ _ _ rfl rfl) hS ?_
  obtain ⟨d8, b6, b7⟩ := Zp Ag77 Sz77 (by intro h; cases h) a4
  obtain ⟨d9, rfl, b8⟩ := b7
  obtain ⟨e0, e1, rfl, b9, c0⟩ := YA b8
  obtain rfl := YP b9
  obtain ⟨c1, c2, c3, rfl, a5⟩ := xx c0
  refine x_l 3 (.agg #[(iv x23.1), (.slice c1 c2 c3)]) rfl (by kernel_rfl)  (fun w' hw' => zp rfl (b6 w' hw')) hS (xms 4 rfl rfl hS (xmi 5 rfl rfl hS ?_))
  obtain ⟨x27, c4, hs⟩ := bind_some hs
  obtain ⟨c5, c6, c7, a6⟩ := zJ Sl28 Sz77 h1 c4
  refine xq 6 _ rfl (c7 _ _ _ _ _ _ _ _ _ rfl rfl) hS ?_
  obtain ⟨e2, c8, c9⟩ := Zp Ag77 Sz77 (by intro h; cases h) a6
  obtain ⟨e3, rfl, d0⟩ := c9
  obtain ⟨e4, e5, rfl, d1, d2⟩ := YA d0
  obtain rfl := YP d1
  obtain ⟨d3, d4, d5, rfl, a7⟩ := xx d2
  refine x_l 7 (.agg #[(iv x27.1), (.slice d3 d4 d5)]) rfl (by kernel_rfl)  (fun w' hw' => zp rfl (c8 w' hw')) hS (zM (i := 8) (by kernel_rfl) ?_)
  obtain ⟨r32, d6, hs⟩ := bind_some hs
  refine zV (b := false) rfl  Bd66 rfl (zaC (M := M) (x23.1, x23.2) (x27.1, x27.2) a5 a7 hO.fut d6) rfl (by rintro _ _ _ ⟨rfl, a1⟩; exact hS.ext a1) ?_
  rintro _ e6 ⟨rfl, a1⟩
  obtain ⟨h0, h1, a5, a7, a4, a6, hC, hO⟩ := xt8 a1 h0 h1 a5 a7 a4 a6 hC hO
  have hS := hS.ext a1
  refine xq 9 _ rfl (Zy rfl) hS (Za (by kernel_rfl) ?_)
  clear hS
  rcases zf hs with ⟨a8, hs⟩ | ⟨a8, hs⟩
  ·refine zg (cb a8) (c_sr (ab rfl (zb (wp_ret ?_))))
   cases hs
   exact ⟨_, fr_m 27 rfl, hC⟩
  refine zh (cb a8) (wp_skip (ze (mi rfl (za _ (yad rfl rfl) (ai rfl (zb ?_))))))
  cases hs
  exact ⟨_, zF 27 ⟨rfl, rfl, congrArg (Value.int .i64) hw, trivial⟩, hC, hO, h0, h1⟩
 ·skip
  exact ⟨_, fr_m 27 rfl, hC, hO, h0, h1⟩
 cases o20 with
 | nx _ => exact True.intro
 | rt r_ =>
  have hs := zu hs
  intro d7 a9 hK
  cases hs
  exact hK
 | br s16 =>
  have hs := zt hs
  rintro d7 a0 ⟨σ, rfl, hC, hO, h0, h1⟩
  refine c_sr (ab rfl (zb (wp_ret ?_)))
  cases hs
  exact ⟨_, fr_m 27 rfl, hC⟩

theorem Bd35 : zE Tryz.prog 35 := zH Tryz.func35 (by kernel_rfl) rfl

def vT (M : Nat → Prop) (w0 : World) (r : Bool) (a : Act) (w : World) : Prop :=
  ∃ (σ : Nat → Value) , a = fr 16 (ovl σ [(4, (.bool r))]) ∧ Chg [] w0 w
def yQ (a_ : Int × (List (Int × (List Int)))) (b : Int × (List (Int × (List Int)))) : Option (Bool) :=
  (bif (a_.1 != b.1) then some false else (Xo a_.2 b.2).bind fun r7 =>
  (bif (!r7) then some false else some true))
set_option maxHeartbeats 4000000 in
theorem vX {M : Nat → Prop} {w : World} {pa0 : Option Addr} {pn0 pc0 : Nat} {pa1 : Option Addr} {pn1 pc1 : Nat} (a_ : Int × (List (Int × (List Int)))) (b : Int × (List (Int × (List Int)))) (h0 : (RT.rs (RT.pr ri rl)).val M w (.slice pa0 pn0 pc0) a_.2 ([])) (h1 : (RT.rs (RT.pr ri rl)).val M w (.slice pa1 pn1 pc1) b.2 ([])) (hM : ∀ g, w.heap.size ≤ g → M g) {r : Bool} (hs : yQ a_ b = some r) :
    Gives Tryz.prog 10 [(.agg #[(iv a_.1), (.slice pa0 pn0 pc0)]), (.agg #[(iv b.1), (.slice pa1 pn1 pc1)])] w (fun v w' => v = (.bool r) ∧ Chg [] w w') := by
 refine zq Tryz.func10 rfl Tryz.ntmps10 (Nat.le_of_ble_eq_true rfl) ?_
 have hO := Own.start (N := Nw w []) hM Nw.fut
 have hC := Chg.refl [] w
 unfold yQ at hs
 refine wp_k (K := (vT M w r)) (by rintro _ _ ⟨σ, rfl, hrest⟩; exact Zc Tryz.results10 (zA rfl) ⟨rfl, hrest⟩) (c_sr ?_)
 obtain ⟨a9, a5, b2, b0, a4, a0⟩ := zi w [(iv a_.1), (.slice pa0 pn0 pc0)] 30
 refine za (w' := a9) (pq a5 0) (Zx rfl (by rw [b2, b0]; kernel_rfl)) ?_
 obtain ⟨h0, h1, hC⟩ := xt3 a4 h0 h1 hC
 have hO := hO.new1 a4 b0 a0.lt
 obtain ⟨b3, a6, b4, b1, a2, a3⟩ := zi a9 [(iv b.1), (.slice pa1 pn1 pc1)] 30
 refine za (w' := b3) (pq a6 0) (Zx rfl (by rw [b4, b1]; kernel_rfl)) ?_
 obtain ⟨h0, h1, a0, hC⟩ := xt4 a2 h0 h1 a0 hC
 have hO := hO.new1 a2 b1 a3.lt
 refine ab rfl (zb (zd (c_sr (za (pq a5 0) (zj rfl yG) (za _ (ld rfl Ag3 Sz3 a0 rfl) (za (pq a6 0) (zj rfl yG) (za _ (ld rfl Ag3 Sz3 a3 rfl) (za (.bool (a_.1 != b.1)) (xX rfl rfl) (zb ?_)))))))))
 rcases zf hs with ⟨a7, hs⟩ | ⟨a7, hs⟩
 ·refine zg (cb a7) (c_sr (ab rfl (zb (wp_ret ?_))))
  cases hs
  exact ⟨_, fr_m 16 rfl, hC⟩
 refine zh (cb a7) (wp_skip (zd (c_sr (za (pq a5 1) (zj rfl Zs) (za _ (ld rfl Ag28 Sz28 a0 rfl) (za (pq a6 1) (zj rfl Zs) (za _ (ld rfl Ag28 Sz28 a3 rfl) ?_)))))))
 obtain ⟨r7, b5, hs⟩ := bind_some hs
 refine zw Bd35 rfl (UA (M := M) a_.2 b.2 h0 h1 hO.fut b5) ?_
 rintro _ b7 ⟨rfl, a1⟩
 obtain ⟨h0, h1, a0, a3, hC, hO⟩ := xt6 a1 h0 h1 a0 a3 hC hO
 refine za _ (Zy rfl) (zb ?_)
 have hO := hO.drop.drop
 rcases zf hs with ⟨a8, hs⟩ | ⟨a8, hs⟩
 ·refine zg (cb a8) (c_sr (ab rfl (zb (wp_ret ?_))))
  cases hs
  exact ⟨_, fr_m 16 rfl, hC⟩
 refine zh (cb a8) (wp_skip (c_sr (ab rfl (zb (wp_ret ?_)))))
 cases hs
 exact ⟨_, fr_m 16 rfl, hC⟩

def wD (M : Nat → Prop) (w0 : World) (qa0 : Option Addr) (qn0 qc0 : Nat) (qf0 : List Nat) (r : Int × (List Int)) (a : Act) (w : World) : Prop :=
  ∃ (σ : Nat → Value) (rfi0 : List Nat), a = fr 19 (ovl σ [(4, (.int .i64 r.1))]) ∧ Chg (qf0 ++ ([])) w0 w ∧ (RT.os 3 (RT.int .i64)).val M w (.slice qa0 qn0 qc0) r.2 rfi0 ∧ Own (Nw w0 (qf0 ++ ([]))) (fun _ => True) w (rfi0 ++ ([]))
def ZU (a_ : List Int) (k : Int) : Option (Int × (List Int)) :=
  (iter (S := Int × Int × (List Int)) (R := Int × (List Int)) (fun s25 =>
  (bif (decide (s25.2.1 < (s25.2.2.length : Int))) then (idx s25.2.2 s25.2.1).bind fun x34 =>
  some (.nx (w64 (s25.1 + 1), w64 (s25.2.1 + 1), List.set s25.2.2 (Int.toNat s25.2.1) s25.1)) else some (.br (s25.1, s25.2.1, s25.2.2)))) FU (k, 0, a_)).bind fun o29 => after o29 (fun r_ => some r_) (fun s25 =>
  some (s25.1, s25.2.2))
set_option maxHeartbeats 4000000 in
theorem Xa {M : Nat → Prop} {w : World} {pa0 : Option Addr} {pn0 pc0 : Nat} {pf0 : List Nat} (a_ : List Int) (k : Int) (h0 : (RT.os 3 ri).val M w (.slice pa0 pn0 pc0) a_ pf0) (hI : Own (Nw w (pf0 ++ ([]))) M w (pf0 ++ ([]))) (hM : ∀ g, w.heap.size ≤ g → M g) {r : Int × (List Int)} (hs : ZU a_ k = some r) :
    Gives Tryz.prog 16 [(.slice pa0 pn0 pc0), (iv k)] w (fun v w' => ∃ (rfi0 : List Nat), v = (iv r.1) ∧ Chg (pf0 ++ ([])) w w' ∧ (RT.os 3 ri).val M w' (.slice pa0 pn0 pc0) r.2 rfi0 ∧ Own (Nw w (pf0 ++ ([]))) (fun _ => True) w' (rfi0 ++ ([]))) := by
 refine zq Tryz.func16 rfl Tryz.ntmps16 (Nat.le_of_ble_eq_true rfl) ?_
 have hO := hI
 have hC := Chg.refl (pf0 ++ ([])) w
 unfold ZU at hs
 refine wp_k (K := (wD M w pa0 pn0 pc0 pf0 r)) (by rintro _ _ ⟨σ, rfi0, rfl, hrest⟩; exact Zc Tryz.results16 (zA rfl) ⟨rfi0, rfl, hrest⟩) (c_sr (ai rfl (zb (zd (c_sr (ai rfl (zb ?_)))))))
 obtain ⟨o29, b0, hs⟩ := bind_some hs
 refine wp_block (Zo (id := 0) (I := fun s25 a a0 => ∃ (σ : Nat → Value) (a2 : List Nat), a = fr 19 (ovl σ [(0, (.slice pa0 pn0 pc0)), (1, (iv s25.1)), (5, (iv s25.2.1))]) ∧ Chg (pf0 ++ ([])) w a0 ∧ Own (Nw w (pf0 ++ ([]))) M a0 (a2 ++ []) ∧ (RT.os 3 ri).val M a0 (.slice pa0 pn0 pc0) s25.2.2 a2) (J := fun s25 a a0 => ∃ (σ : Nat → Value) (a3 : List Nat), a = fr 19 (ovl σ [(1, (iv s25.1))]) ∧ Chg (pf0 ++ ([])) w a0 ∧ Own (Nw w (pf0 ++ ([]))) M a0 (a3 ++ []) ∧ (RT.os 3 ri).val M a0 (.slice pa0 pn0 pc0) s25.2.2 a3) (K := (wD M w pa0 pn0 pc0 pf0)) ?_ FU (k, 0, a_) o29 _ _ ?_ b0 ?_)
 ·rintro s25 o29 a a0 ⟨σ, a2, rfl, hC, hO, a1⟩ hs
  refine zd (c_sr (mi rfl (ms rfl (za _ (zn Sl34 (ZL a1) rfl) (za _ (zz rfl rfl) (zb ?_))))))
  rcases zf hs with ⟨a4, hs⟩ | ⟨a4, hs⟩
  ·refine zg (cb a4) (wp_skip (zd (wp_block (c_sr (ms rfl (mi rfl (mi rfl ?_)))))))
   obtain ⟨x34, b1, hs⟩ := bind_some hs
   obtain ⟨a6, c1, a7, b2, b3, c2, c3⟩ := zW Sl34 Sz3 a1 b1
   refine za _ (b3 _ _ _ _ _ _ _ _ _ rfl rfl) ?_
   obtain ⟨b4, b5, b6, a8, b7, a5⟩ := yx (P := Tryz.prog) (c' := [(iv s25.1)]) a7 a1 b2 (fun g hg => hO.inM g (zB a1 g (by simpa using hg))) ⟨rfl, rfl⟩ List.nodup_nil (fun _ h => nomatch h) (fun _ h => .inl h)
   have b8 : ∀ q ∈ [a6], q ∈ a2 := fun q hq => zB a1 q (by rw [a7]; exact hq)
   refine Zm (w' := b4) (zY rfl rfl (b6 _ _ rfl Sz3)) ?_
   have hC := hC.st a8 hO b8
   have hO := hO.grow a8 (fun q hq => .inl ((b7 q hq).resolve_right (fun h => nomatch h))) (zy a5) a5.fpl
   refine zb (ze (mi rfl (za _ (yad rfl rfl) (ai rfl (zb (ze (mi rfl (za _ (yad rfl rfl) (ai rfl (zb ?_))))))))))
   cases hs
   exact ⟨_, b5, fr_m 19 rfl, hC, hO, a5⟩
  refine zh (cb a4) (wp_exit ?_)
  cases hs
  exact ⟨rfl, _, a2, fr_m 19 rfl, hC, hO, a1⟩
 ·skip
  exact ⟨_, pf0, fr_m 19 rfl, hC, hO, h0⟩
 cases o29 with
 | nx _ => exact True.intro
 | rt r_ =>
  have hs := zu hs
  intro b9 a9 hK
  cases hs
  exact hK
 | br s25 =>
  have hs := zt hs
  rintro b9 a0 ⟨σ, a3, rfl, hC, hO, c0⟩
  refine c_sr (mi rfl (ai rfl (zb (wp_ret ?_))))
  cases hs
  exact ⟨_, a3, fr_m 19 rfl, hC, c0, hO.top⟩

theorem Bd16 : zE Tryz.prog 16 := zH Tryz.func16 (by kernel_rfl) rfl

def wP (M : Nat → Prop) (w0 : World) (qa0 : Option Addr) (qn0 qc0 : Nat) (qf0 : List Nat) (r : Int × (List (Int × (List Int)))) (a : Act) (w : World) : Prop :=
  ∃ (σ : Nat → Value) (rfi0 : List Nat), a = fr 27 (ovl σ [(4, (.int .i64 r.1))]) ∧ Chg (qf0 ++ ([])) w0 w ∧ (RT.os 77 (RT.pr (RT.int .i64) (RT.os 3 (RT.int .i64)))).val M w (.slice qa0 qn0 qc0) r.2 rfi0 ∧ Own (Nw w0 (qf0 ++ ([]))) (fun _ => True) w (rfi0 ++ ([]))
def xD (a_ : List (Int × (List Int))) (k : Int) : Option (Int × (List (Int × (List Int)))) :=
  (iter (S := Int × Int × (List (Int × (List Int)))) (R := Int × (List (Int × (List Int)))) (fun s57 =>
  (bif (decide (s57.2.1 < (s57.2.2.length : Int))) then (idx s57.2.2 s57.2.1).bind fun x67 =>
  (idx (List.set s57.2.2 (Int.toNat s57.2.1) (s57.1, x67.2)) s57.2.1).bind fun x71 =>
  (ZU x71.2 (w64 (s57.1 + 1))).bind fun r77 =>
  some (.nx (r77.1, w64 (s57.2.1 + 1), List.set (List.set s57.2.2 (Int.toNat s57.2.1) (s57.1, x67.2)) (Int.toNat s57.2.1) (x71.1, r77.2))) else some (.br (s57.1, s57.2.1, s57.2.2)))) FU (k, 0, a_)).bind fun o61 => after o61 (fun r_ => some r_) (fun s57 =>
  some (s57.1, s57.2.2))
set_option maxHeartbeats 4000000 in
theorem VR {M : Nat → Prop} {w : World} {pa0 : Option Addr} {pn0 pc0 : Nat} {pf0 : List Nat} (a_ : List (Int × (List Int))) (k : Int) (h0 : (RT.os 77 (RT.pr ri (RT.os 3 ri))).val M w (.slice pa0 pn0 pc0) a_ pf0) (hI : Own (Nw w (pf0 ++ ([]))) M w (pf0 ++ ([]))) (hM : ∀ g, w.heap.size ≤ g → M g) {r : Int × (List (Int × (List Int)))} (hs : xD a_ k = some r) :
    Gives Tryz.prog 38 [(.slice pa0 pn0 pc0), (iv k)] w (fun v w' => ∃ (rfi0 : List Nat), v = (iv r.1) ∧ Chg (pf0 ++ ([])) w w' ∧ (RT.os 77 (RT.pr ri (RT.os 3 ri))).val M w' (.slice pa0 pn0 pc0) r.2 rfi0 ∧ Own (Nw w (pf0 ++ ([]))) (fun _ => True) w' (rfi0 ++ ([]))) := by
 refine zq Tryz.func38 rfl Tryz.ntmps38 (Nat.le_of_ble_eq_true rfl) ?_
 have hO := hI
 have hC := Chg.refl (pf0 ++ ([])) w
 unfold xD at hs
 refine wp_k (K := (wP M w pa0 pn0 pc0 pf0 r)) (by rintro _ _ ⟨σ, rfi0, rfl, hrest⟩; exact Zc Tryz.results38 (zA rfl) ⟨rfi0, rfl, hrest⟩) (c_sr (ai rfl (zb (zd (c_sr (ai rfl (zb ?_)))))))
 obtain ⟨o61, c8, hs⟩ := bind_some hs
 refine wp_block (Zo (id := 0) (I := fun s57 a a0 => ∃ (σ : Nat → Value) (a1 : List Nat), a = fr 27 (ovl σ [(0, (.slice pa0 pn0 pc0)), (1, (iv s57.1)), (5, (iv s57.2.1))]) ∧ Chg (pf0 ++ ([])) w a0 ∧ Own (Nw w (pf0 ++ ([]))) M a0 (a1 ++ []) ∧ (RT.os 77 (RT.pr ri (RT.os 3 ri))).val M a0 (.slice pa0 pn0 pc0) s57.2.2 a1) (J := fun s57 a a0 => ∃ (σ : Nat → Value) (a4 : List Nat), a = fr 27 (ovl σ [(1, (iv s57.1))]) ∧ Chg (pf0 ++ ([])) w a0 ∧ Own (Nw w (pf0 ++ ([]))) M a0 (a4 ++ []) ∧ (RT.os 77 (RT.pr ri (RT.os 3 ri))).val M a0 (.slice pa0 pn0 pc0) s57.2.2 a4) (K := (wP M w pa0 pn0 pc0 pf0)) ?_ FU (k, 0, a_) o61 _ _ ?_ c8 ?_)
 ·rintro s57 o61 a a0 ⟨σ, a1, rfl, hC, hO, a5⟩ hs
  refine zd (c_sr (mi rfl (ms rfl (za _ (zn Sl28 (ZL a5) rfl) (za _ (zz rfl rfl) (zb ?_))))))
  rcases zf hs with ⟨b1, hs⟩ | ⟨b1, hs⟩
  ·refine zg (cb b1) (wp_skip (zd (wp_block (c_sr (ms rfl (mi rfl (mi rfl ?_)))))))
   obtain ⟨x67, b5, hs⟩ := bind_some hs
   obtain ⟨a2, h2, c9, h3, d0, d1, d2⟩ := zW Sl28 Sz77 a5 b5
   have d3 := Zz (Frz.pr Frz.int (Frz.os Frz.int)) d1 d2
   refine za _ (d0 _ _ _ _ _ _ _ _ _ rfl rfl) ?_
   obtain ⟨h4, _⟩ := XM d3
   refine za (.pointer (some ⟨a2, (0 + Int.toNat s57.2.1 * 2) + 0, none⟩)) (zj rfl yf) ?_
   obtain ⟨b6, h5, d4, h6, d5, h7, d6, d7, h8, d8, b7, d9, hput70⟩ := os_focus c9 a5 b5 hO.inM
   obtain ⟨h9, b8, i0, e0, rfl, rfl, e1, b9⟩ := d7
   obtain ⟨rfl, rfl⟩ := e1
   have i1 := RT.len _ b9
   obtain ⟨b2, c0, a6, e2⟩ := ZB (P := Tryz.prog) d6 (b6) [(Value.int .i64 x67.1)] (b8 ++ (d4)) [(Value.int .i64 s57.1)] (by simp) rfl (by intro u hu; rw [List.mem_singleton.1 hu]; rfl)
   have e3 : (b6).length = ((0 + Int.toNat s57.2.1 * 2) + 0) := by
    simp only [List.length_append, d5]
    try rfl
   rw [e3] at c0
   have e4 : ∀ q ∈ [a2], M q ∨ (a0).heap.size ≤ q := fun q hq => .inl (by rw [List.mem_singleton.1 hq]; exact hO.inM _ b7)
   obtain ⟨e5, a7, e6⟩ := hput70 b2 [a2] ([(Value.int .i64 s57.1)] ++ b8) (s57.1, x67.2) (([] : List Nat) ++ e0) a6 (fun q hq => .inl (List.mem_singleton.1 hq)) (by simpa using e2) ⟨_, _, _, _, rfl, rfl, ⟨rfl, rfl⟩, (RT.mono _ b9 a6 e4 (fun q hq hq' => d9 (by rw [List.mem_singleton.1 hq] at hq'; simp [hq'])) (fun _ h => .inl h))⟩ d8 (fun q hq => .inl hq)
   refine Zm (w' := b2) (zY rfl rfl (c0 _ _ rfl Sz3)) ?_
   have e7 : ∀ q ∈ [a2], q ∈ a1 := fun q hq => by rw [List.mem_singleton.1 hq]; exact b7
   have hC := hC.st a6 hO e7
   have hO := hO.grow a6 e6 (zy a7) a7.fpl
   refine zb (c_sr (mi rfl (za _ (yad rfl rfl) (ai rfl (zb (ze (ms rfl (mi rfl ?_))))))))
   obtain ⟨x71, c1, hs⟩ := bind_some hs
   obtain ⟨c2, i2, e8, i3, e9, f0, f1⟩ := zW Sl28 Sz77 a7 c1
   have c3 := Zz (Frz.pr Frz.int (Frz.os Frz.int)) f0 f1
   refine za _ (e9 _ _ _ _ _ _ _ _ _ rfl rfl) ?_
   obtain ⟨_, i4⟩ := XM c3
   refine za (.pointer (some ⟨c2, (0 + Int.toNat s57.2.1 * 2) + 1, none⟩)) (zj rfl xF) ?_
   obtain ⟨i5, hrow74, f2⟩ := at_open c3
   obtain ⟨i6, i7, rfl, f3, f4⟩ := YA f2
   obtain rfl := YP f3
   obtain ⟨a8, a9, b0, rfl, i9⟩ := xx f4
   refine za (.slice a8 a9 b0) (zp rfl ((part_load (l1 := [(iv x71.1)]) (c := [(.slice a8 a9 b0)]) (l2 := []) Ag34 Sz34 hrow74 rfl rfl (fun _ => rfl)) _ (Chg.refl _ _))) (mi rfl ?_)
   obtain ⟨j0, f5, f6, f7, hput76⟩ := os_put e8 a7 c1 hrow74 rfl hO.inM
   obtain ⟨j1, a3, rfl, f8, f9⟩ := pr_split (c := [(iv x71.1)]) (d := [(.slice a8 a9 b0)]) f5 rfl
   obtain rfl := int_fp f8
   have g0 : (RT.os 3 ri).val M b2 (.slice a8 a9 b0) x71.2 a3 := ⟨[_], rfl, f9⟩
   have c4 : ∀ q ∈ (a3 ++ ([])), q ∈ e5 := fun q hq => f6 q (by simpa using hq)
   have g1 : List.Nodup (a3 ++ ([])) := by simpa using f7
   have g2 := hO
   have c5 := Own.part (X := (a3 ++ ([]))) (g2) c4 g1
   obtain ⟨r77, g3, hs⟩ := bind_some hs
   refine zw Bd16 rfl (Xa (M := M) x71.2 (w64 (s57.1 + 1)) g0 c5 c5.fut g3) ?_
   rintro _ g4 ⟨g5, rfl, b3, g6, c6⟩
   obtain ⟨g7, b4, g8⟩ := hput76 g4 (a3 ++ ([])) (x71.1, r77.2) (([] : List Nat) ++ g5) b3 (fun q hq => by simpa using hq) ⟨_, _, _, _, rfl, rfl, ⟨rfl, rfl⟩, (ZF g6)⟩ (by simpa using c6.1) (fun q hq => (c6.2.1 q (by simpa using hq)).2.2.imp (fun h => by simpa using h) id)
   have hC := hC.st b3 hO c4
   have hO := hO.grow b3 g8 (zy b4) b4.fpl
   refine ai rfl (zb (ze (mi rfl (za _ (yad rfl rfl) (ai rfl (zb ?_))))))
   cases hs
   exact ⟨_, g7, fr_m 27 rfl, hC, hO, b4⟩
  refine zh (cb b1) (wp_exit ?_)
  cases hs
  exact ⟨rfl, _, a1, fr_m 27 rfl, hC, hO, a5⟩
 ·skip
  exact ⟨_, pf0, fr_m 27 rfl, hC, hO, h0⟩
 cases o61 with
 | nx _ => exact True.intro
 | rt r_ =>
  have hs := zu hs
  intro g9 c7 hK
  cases hs
  exact hK
 | br s57 =>
  have hs := zt hs
  rintro g9 a0 ⟨σ, a4, rfl, hC, hO, h1⟩
  refine c_sr (mi rfl (ai rfl (zb (wp_ret ?_))))
  cases hs
  exact ⟨_, a4, fr_m 27 rfl, hC, h1, hO.top⟩

theorem Bd38 : zE Tryz.prog 38 := zH Tryz.func38 (by kernel_rfl) rfl

def WY (M : Nat → Prop) (w0 : World) (qa0 : Option Addr) (qn0 qc0 : Nat) (qf0 : List Nat) (r : Int × (List (Int × (List Int)))) (a : Act) (w : World) : Prop :=
  ∃ (σ : Nat → Value) (rfi0 : List Nat), a = fr 10 (ovl σ [(4, (.int .i64 r.1))]) ∧ Chg (qf0 ++ ([])) w0 w ∧ (RT.os 77 (RT.pr (RT.int .i64) (RT.os 3 (RT.int .i64)))).val M w (.slice qa0 qn0 qc0) r.2 rfi0 ∧ Own (Nw w0 (qf0 ++ ([]))) (fun _ => True) w (rfi0 ++ ([]))
def yj (a_ : Int × (List (Int × (List Int)))) (k : Int) : Option (Int × (List (Int × (List Int)))) :=
  (xD a_.2 k).bind fun r4 =>
  some (r4.1, r4.2)
set_option maxHeartbeats 4000000 in
theorem WU {M : Nat → Prop} {w : World} {pa0 : Option Addr} {pn0 pc0 : Nat} {pf0 : List Nat} (a_ : Int × (List (Int × (List Int)))) (k : Int) (h0 : (RT.os 77 (RT.pr ri (RT.os 3 ri))).val M w (.slice pa0 pn0 pc0) a_.2 pf0) (hI : Own (Nw w (pf0 ++ ([]))) M w (pf0 ++ ([]))) (hM : ∀ g, w.heap.size ≤ g → M g) {r : Int × (List (Int × (List Int)))} (hs : yj a_ k = some r) :
    Gives Tryz.prog 15 [(.agg #[(iv a_.1), (.slice pa0 pn0 pc0)]), (iv k)] w (fun v w' => ∃ (rfi0 : List Nat), v = (iv r.1) ∧ Chg (pf0 ++ ([])) w w' ∧ (RT.os 77 (RT.pr ri (RT.os 3 ri))).val M w' (.slice pa0 pn0 pc0) r.2 rfi0 ∧ Own (Nw w (pf0 ++ ([]))) (fun _ => True) w' (rfi0 ++ ([]))) := by
 refine zq Tryz.func15 rfl Tryz.ntmps15 (Nat.le_of_ble_eq_true rfl) ?_
 have hO := hI
 have hC := Chg.refl (pf0 ++ ([])) w
 unfold yj at hs
 refine wp_k (K := (WY M w pa0 pn0 pc0 pf0 r)) (by rintro _ _ ⟨σ, rfi0, rfl, hrest⟩; exact Zc Tryz.results15 (zA rfl) ⟨rfi0, rfl, hrest⟩) (c_sr ?_)
 obtain ⟨a7, a0, a8, a4, a2, a1⟩ := zi w [(iv a_.1), (.slice pa0 pn0 pc0)] 30
 refine za (w' := a7) (pq a0 0) (Zx rfl (by rw [a8, a4]; kernel_rfl)) ?_
 obtain ⟨h0, hC⟩ := xt2 a2 h0 hC
 have hO := hO.new1 a2 a4 a1.lt
 refine ai rfl (zb (c_sr (za (pq a0 1) (zj rfl Zs) (za _ (ld rfl Ag28 Sz28 a1 rfl) (mi rfl ?_)))))
 have hO := hO.fr1
 have a9 := hO
 have a5 := Own.lend (F := (pf0 ++ ([]))) (R := ([a0]) ++ ([])) (Own.perm (a9) (by simp))
 obtain ⟨r4, b0, hs⟩ := bind_some hs
 refine zw Bd38 rfl (VR (M := M) a_.2 k h0 a5 a5.fut b0) ?_
 rintro _ b4 ⟨a6, rfl, a3, b1, b2⟩
 have hO := hO.perm (R := (pf0 ++ ([])) ++ (([a0]) ++ ([]))) (by simp)
 have a1 := a1.ap a3 hO zk (zm (List.mem_singleton.2 rfl))
 have hC := hC.st a3 hO zk
 have hO := Own.join hO a3 b2
 have hO := hO.perm (R := a6 ++ (([a0]) ++ ([]))) (by simp)
 refine ai rfl (zb ?_)
 have hO := hO.fr1.drop
 refine c_sr (mi rfl (ai rfl (zb (wp_ret ?_))))
 cases hs
 exact ⟨_, a6, fr_m 10 rfl, hC, b1, hO.top⟩

def wB (M : Nat → Prop) (w0 : World) (r : Int) (a : Act) (w : World) : Prop :=
  ∃ (σ : Nat → Value) , a = fr 21 (ovl σ [(4, (.int .i64 r))]) ∧ Chg [] w0 w
def yW (a_ : List Int) (k : Int) : Option (Int) :=
  (forC (S := Int) (R := Int) (fun k7 s5 =>
  (idx a_ k7).bind fun x11 =>
  (bif (x11 != s5) then some (.rt (-1)) else some (.nx (w64 (s5 + 1))))) 0 (a_.length : Int) k).bind fun o9 => after o9 (fun r_ => some r_) (fun s5 =>
  some s5)
set_option maxHeartbeats 4000000 in
theorem ww {M : Nat → Prop} {w : World} {pa0 : Option Addr} {pn0 pc0 : Nat} (a_ : List Int) (k : Int) (h0 : rl.val M w (.slice pa0 pn0 pc0) a_ ([])) (hM : ∀ g, w.heap.size ≤ g → M g) {r : Int} (hs : yW a_ k = some r) :
    Gives Tryz.prog 17 [(.slice pa0 pn0 pc0), (iv k)] w (fun v w' => v = (iv r) ∧ Chg [] w w') := by
 refine zq Tryz.func17 rfl Tryz.ntmps17 (Nat.le_of_ble_eq_true rfl) ?_
 have hO := Own.start (N := Nw w []) hM Nw.fut
 have hC := Chg.refl [] w
 unfold yW at hs
 refine wp_k (K := (wB M w r)) (by rintro _ _ ⟨σ, rfl, hrest⟩; exact Zc Tryz.results17 (zA rfl) ⟨rfl, hrest⟩) (c_sr (ai rfl (zb (zd (c_sr (ai rfl (zb ?_)))))))
 obtain ⟨o9, a3, hs⟩ := bind_some hs
 refine wp_block (zZ (id := 0) (a_.length : Int) (I := fun k7 s5 a a0 => ∃ (σ : Nat → Value), a = fr 21 (ovl σ [(0, (.slice pa0 pn0 pc0)), (1, (iv s5)), (5, (iv k7))]) ∧ Chg [] w a0 ∧ Own (Nw w []) M a0 ([]) ∧ rl.val M a0 (.slice pa0 pn0 pc0) a_ ([])) (J := fun s5 a a0 => ∃ (σ : Nat → Value), a = fr 21 (ovl σ [(1, (iv s5))]) ∧ Chg [] w a0 ∧ Own (Nw w []) M a0 ([]) ∧ rl.val M a0 (.slice pa0 pn0 pc0) a_ ([])) (K := (wB M w)) ?_ ?_ 0 k o9 _ _ ?_ a3 ?_)
 ·rintro k7 s5 a a0 ⟨σ, rfl, hC, hO, h0⟩ hlt
  refine zd (c_sr (mi rfl (ms rfl (za _ (zn Sl34 (zx h0) rfl) (za _ (zz rfl rfl) (zb (zh (cb (decide_eq_false hlt)) (wp_exit ?_))))))))
  exact ⟨rfl, _, fr_m 21 rfl, hC, hO, h0⟩
 ·rintro k7 s5 o9 a a0 ⟨σ, rfl, hC, hO, h0⟩ hlt hw hs
  refine zd (c_sr (mi rfl (ms rfl (za _ (zn Sl34 (zx h0) rfl) (za _ (zz rfl rfl) (zb (zg (cb (decide_eq_true hlt)) (wp_skip (zd (wp_block (zd (c_sr (ms rfl (mi rfl ?_))))))))))))))
  obtain ⟨x11, a4, hs⟩ := bind_some hs
  obtain ⟨a5, a6, a7, a8⟩ := zJ Sl34 Sz3 h0 a4
  refine za _ (a7 _ _ _ _ _ _ _ _ _ rfl rfl) (za (iv x11) (zp rfl ((zo Ag3 Sz3 a8) _ (Chg.refl _ _))) (mi rfl (za (.bool (x11 != s5)) (xX rfl rfl) (zb ?_))))
  rcases zf hs with ⟨a1, hs⟩ | ⟨a1, hs⟩
  ·refine zg (cb a1) (c_sr (ai rfl (zb (wp_ret ?_))))
   cases hs
   exact ⟨_, fr_m 21 rfl, hC⟩
  refine zh (cb a1) (wp_skip (ze (mi rfl (za _ (yad rfl rfl) (ai rfl (zb (ze (mi rfl (za _ (yad rfl rfl) (ai rfl (zb ?_)))))))))))
  cases hs
  exact ⟨_, zF 21 ⟨rfl, rfl, congrArg (Value.int .i64) hw, trivial⟩, hC, hO, h0⟩
 ·skip
  exact ⟨_, fr_m 21 rfl, hC, hO, h0⟩
 cases o9 with
 | nx _ => exact True.intro
 | rt r_ =>
  have hs := zu hs
  intro a9 a2 hK
  cases hs
  exact hK
 | br s5 =>
  have hs := zt hs
  rintro a9 a0 ⟨σ, rfl, hC, hO, h0⟩
  refine c_sr (mi rfl (ai rfl (zb (wp_ret ?_))))
  cases hs
  exact ⟨_, fr_m 21 rfl, hC⟩

theorem Ag24 : AggT Tryz.prog 24 true := fun _ => by kernel_rfl

theorem Sz24 : SzT Tryz.prog 24 2 := ⟨_, rfl, rfl⟩

theorem Bd6 : zE Tryz.prog 6 := zH Tryz.func6 (by kernel_rfl) rfl

theorem Bd8 : zE Tryz.prog 8 := zH Tryz.func8 (by kernel_rfl) rfl

theorem Bd11 : zE Tryz.prog 11 := zH Tryz.func11 (by kernel_rfl) rfl

theorem Bd13 : zE Tryz.prog 13 := zH Tryz.func13 (by kernel_rfl) rfl

theorem Bd10 : zE Tryz.prog 10 := zH Tryz.func10 (by kernel_rfl) rfl

theorem Bd15 : zE Tryz.prog 15 := zH Tryz.func15 (by kernel_rfl) rfl

theorem Bd17 : zE Tryz.prog 17 := zH Tryz.func17 (by kernel_rfl) rfl

def XW (M : Nat → Prop) (w0 : World) (r : Bool) (a : Act) (w : World) : Prop :=
  ∃ (σ : Nat → Value) , a = fr 122 (ovl σ [(6, (.bool r))]) ∧ Chg [] w0 w
def yq (aA : Int × (List (Int × (List Int)))) (aK : Int) (aT : List Int) : Option (Bool) :=
  (bif (decide (1048576 < (aT.length : Int))) then some true else (ya (aA.1, aA.2) 1048576).bind fun r6 =>
  (bif (decide (r6 < 0)) then some true else (ZK (aA.1, aA.2)).bind fun r9 =>
  (ZS aT).bind fun r12 =>
  (yZ (r9.1, r9.2) aK r12).bind fun r15 =>
  (ZK (aA.1, aA.2)).bind fun r18 =>
  (ZS aT).bind fun r23 =>
  (yD (r18.1, r18.2) aK r23).bind fun r26 =>
  ((ZG r26.1 r15.1).bind fun r32 =>
  (bif (!r32) then some true else some (!(r26.2 == r15.2)))).bind fun s28 =>
  (bif s28 then some false else (ZK (aA.1, aA.2)).bind fun r43 =>
  (yQ (r18.1, r18.2) (r43.1, r43.2)).bind fun r46 =>
  (bif (!r46) then some false else (ZS aT).bind fun r49 =>
  (ZG r23 r49).bind fun r52 =>
  (bif (!r52) then some false else (yj (r18.1, r18.2) 1).bind fun r55 =>
  (ZU r23 r55.1).bind fun r57 =>
  ((bif (decide (r57.1 < 0)) then some true else (ZG r26.1 r15.1).bind fun r63 =>
  (bif (!r63) then some true else some (!(r26.2 == r15.2))))).bind fun s58 =>
  (bif s58 then some false else (ZU r26.1 1).bind fun r67 =>
  (yW r67.2 1).bind fun r69 =>
  (bif (decide (r69 < 0)) then some false else (bif (r69 != r67.1) then some false else (ZK (aA.1, aA.2)).bind fun r73 =>
  (ZS aT).bind fun r76 =>
  (yD (r73.1, r73.2) aK r76).bind fun r79 =>
  ((ZG r79.1 r15.1).bind fun r85 =>
  (bif (!r85) then some true else some (!(r79.2 == r15.2)))).bind fun s81 =>
  (bif s81 then some false else (yW r67.2 1).bind fun r89 =>
  (bif (decide (r89 < 0)) then some false else (bif (r89 != r67.1) then some false else some true)))))))))))
set_option maxHeartbeats 4000000 in
theorem XS {M : Nat → Prop} {w : World} {pa0 : Option Addr} {pn0 pc0 : Nat} {pa1 : Option Addr} {pn1 pc1 : Nat} (aA : Int × (List (Int × (List Int)))) (aK : Int) (aT : List Int) (h0 : (RT.rs (RT.pr ri rl)).val M w (.slice pa0 pn0 pc0) aA.2 ([])) (h1 : rl.val M w (.slice pa1 pn1 pc1) aT ([])) (hM : ∀ g, w.heap.size ≤ g → M g) {r : Bool} (hs : yq aA aK aT = some r) :
    Gives Tryz.prog 4 [(.agg #[(iv aA.1), (.slice pa0 pn0 pc0)]), (iv aK), (.slice pa1 pn1 pc1)] w (fun v w' => v = (.bool r) ∧ Chg [] w w') := by
 refine zq Tryz.func4 rfl Tryz.ntmps4 (Nat.le_of_ble_eq_true rfl) ?_
 have hO := Own.start (N := Nw w []) hM Nw.fut
 have hC := Chg.refl [] w
 unfold yq at hs
 refine wp_k (K := (XW M w r)) (by rintro _ _ ⟨σ, rfl, hrest⟩; exact Zc Tryz.results4 (zA rfl) ⟨rfl, hrest⟩) (c_sr ?_)
 obtain ⟨k5, a5, k6, i9, g1, a0⟩ := zi w [(iv aA.1), (.slice pa0 pn0 pc0)] 24
 refine za (w' := k5) (pq a5 0) (Zx rfl (by rw [k6, i9]; kernel_rfl)) ?_
 obtain ⟨h0, h1, hC⟩ := xt3 g1 h0 h1 hC
 have hO := hO.new1 g1 i9 a0.lt
 refine ab rfl (zb (zd (c_sr (ms rfl (za _ (zn Sl34 (zx h1) rfl) (za _ (YB rfl rfl) (zb ?_)))))))
 rcases zf hs with ⟨g9, hs⟩ | ⟨g9, hs⟩
 ·refine zg (cb g9) (c_sr (ab rfl (zb (wp_ret ?_))))
  cases hs
  exact ⟨_, fr_m 122 rfl, hC⟩
 refine zh (cb g9) (wp_skip (c_sr (ai rfl (zb (c_sr (za _ (ldw rfl Ag24 a0 Sz24) (mi rfl ?_)))))))
 obtain ⟨r6, k7, hs⟩ := bind_some hs
 refine zw Bd6 rfl (vZ (M := M) (aA.1, aA.2) 1048576 h0 hO.fut k7) ?_
 rintro _ p9 ⟨rfl, f3⟩
 obtain ⟨h0, h1, a0, hC, hO⟩ := xt5 f3 h0 h1 a0 hC hO
 refine ai rfl (zb (zd (c_sr (mi rfl (za _ (zz rfl rfl) (zb ?_))))))
 rcases zf hs with ⟨h2, hs⟩ | ⟨h2, hs⟩
 ·refine zg (cb h2) (c_sr (ab rfl (zb (wp_ret ?_))))
  cases hs
  exact ⟨_, fr_m 122 rfl, hC⟩
 refine zh (cb h2) (wp_skip (c_sr (za _ (ldw rfl Ag24 a0 Sz24) ?_)))
 obtain ⟨r9, k8, hs⟩ := bind_some hs
 refine zw Bd8 rfl (YO (M := M) (aA.1, aA.2) h0 hO.fut k8) ?_
 rintro _ q0 ⟨q1, q2, q3, g2, rfl, f4, f5, k9⟩
 obtain ⟨h0, h1, a0, hC⟩ := xt4 f4 h0 h1 a0 hC
 have hO := Own.join0 hO f4 k9
 have hO := hO.perm (R := g2 ++ (([a5]) ++ ([]))) (by simp)
 refine mi rfl (ms rfl ?_)
 obtain ⟨r12, l0, hs⟩ := bind_some hs
 refine zw Bd12 rfl (YX (M := M) aT h1 hO.fut l0) ?_
 rintro _ q4 ⟨q5, q6, q7, h3, rfl, e8, h4, l1⟩
 obtain ⟨h0, h1, a0, f5, hC⟩ := xt5 e8 h0 h1 a0 f5 hC
 have hO := Own.join0 hO e8 l1
 have hO := (hO.perm (R := h3 ++ (g2 ++ (([a5]) ++ ([])))) (by simp)).fr1
 obtain ⟨r15, l2, hs⟩ := bind_some hs
 refine zw Bd11 rfl (vr (M := (Less (Less M g2) h3)) (r9.1, r9.2) aK r12 ((((Frz.os (Frz.pr Frz.int (Frz.os Frz.int)))).val f5 Less.sub Less.not).sub Less.sub) (((Frz.os Frz.int)).val (h4.sub Less.sub) Less.sub Less.not) (hO.less).less.fut l2) ?_
 rintro _ q8 ⟨d0, d1, d2, a6, rfl, e0, a1, l3⟩
 obtain ⟨h0, h1, a0, f5, h4, hC⟩ := xt6 e0 h0 h1 a0 f5 h4 hC
 have hO := Own.join0 hO e0 l3
 have hO := hO.perm (R := a6 ++ (g2 ++ (h3 ++ (([a5]) ++ ([]))))) (by simp)
 have a1 := a1.free (M' := M) (Free.os Free.int)
 refine za (.tuple #[(.slice d0 d1 d2), (.bool r15.2)]) (zr rfl) (za (.slice d0 d1 d2) (zK rfl (by kernel_rfl)) (za (.bool r15.2) (zK rfl (by kernel_rfl)) (ax rfl (ab rfl (zb ?_)))))
 have hO := hO.fr1.drop.fr1.drop
 refine c_sr (za _ (ldw rfl Ag24 a0 Sz24) ?_)
 obtain ⟨r18, l4, hs⟩ := bind_some hs
 refine zw Bd8 rfl (YO (M := M) (aA.1, aA.2) h0 hO.fut l4) ?_
 rintro _ l5 ⟨d3, d4, d5, c3, rfl, e9, a3, l6⟩
 obtain ⟨h0, h1, a0, a1, hC⟩ := xt5 e9 h0 h1 a0 a1 hC
 have hO := Own.join0 hO e9 l6
 have hO := hO.perm (R := c3 ++ (a6 ++ (([a5]) ++ ([])))) (by simp)
 obtain ⟨l7, c1, l8, j0, e1, j1⟩ := zi l5 [(iv 0), (.slice none 0 0)] 30
 refine za (w' := l7) (pq c1 0) (xg (by rw [l8, j0]; kernel_rfl)) ?_
 obtain ⟨h0, h1, a0, a1, a3, hC⟩ := xt6 e1 h0 h1 a0 a1 a3 hC
 have hO := hO.new1 e1 j0 j1.lt
 obtain ⟨j2, l9, e2, a4⟩ := ZB (P := Tryz.prog) j1 [] [(iv 0), (.slice none 0 0)] [] [(iv r18.1), (.slice d3 d4 d5)] rfl rfl (by intro u hu; simp only [List.mem_cons, List.not_mem_nil, or_false] at hu; rcases hu with rfl | rfl <;> rfl)
 refine Zm (w' := j2) (zY rfl rfl (l9 _ _ rfl Sz30)) ?_
 have h0 := h0.mt e2 hO zk
 have h1 := h1.mt e2 hO zk
 have a0 := a0.ap e2 hO zk (zl (zl (zm (List.mem_singleton.2 rfl))))
 have a1 := a1.ma e2 hO zk (fun _ e => (zl (zm (e))))
 have a3 := a3.ma e2 hO zk (fun _ e => (zm (e)))
 have hC := hC.st e2 hO zk
 have hO := hO.ext e2
 have a4 : BoxV j2 c1 30 [(iv r18.1), (.slice d3 d4 d5)] := a4
 refine zb (c_sr (ms rfl ?_))
 obtain ⟨r23, m0, hs⟩ := bind_some hs
 refine zw Bd12 rfl (YX (M := M) aT h1 hO.fut m0) ?_
 rintro _ q9 ⟨f6, f7, f8, b3, rfl, d6, a7, m1⟩
 obtain ⟨h0, h1, a0, a1, a3, a4, hC⟩ := xt7 d6 h0 h1 a0 a1 a3 a4 hC
 have hO := Own.join0 hO d6 m1
 have hO := hO.perm (R := b3 ++ (([c1]) ++ (c3 ++ (a6 ++ (([a5]) ++ ([])))))) (by simp)
 refine ax rfl (zb (c_sr (za _ (ldw rfl Ag30 a4 Sz30) (mi rfl (ms rfl ?_)))))
 have hO := hO.fr2
 obtain ⟨r26, m2, hs⟩ := bind_some hs
 refine zw Bd13 rfl (XG (M := (Less (Less M c3) b3)) (r18.1, r18.2) aK r23 ((((Frz.os (Frz.pr Frz.int (Frz.os Frz.int)))).val a3 Less.sub Less.not).sub Less.sub) (((Frz.os Frz.int)).val (a7.sub Less.sub) Less.sub Less.not) (hO.less).less.fut m2) ?_
 rintro _ j3 ⟨b4, b5, b6, b0, rfl, c4, a2, m3⟩
 obtain ⟨h0, h1, a0, a1, a3, a4, a7, hC⟩ := xt8 c4 h0 h1 a0 a1 a3 a4 a7 hC
 have hO := Own.join0 hO c4 m3
 have hO := hO.perm (R := b0 ++ (c3 ++ (b3 ++ (([c1]) ++ (a6 ++ (([a5]) ++ ([]))))))) (by simp)
 have a2 := a2.free (M' := M) (Free.os Free.int)
 refine za (.tuple #[(.slice b4 b5 b6), (.bool r26.2)]) (zr rfl) (za (.slice b4 b5 b6) (zK rfl (by kernel_rfl)) (za (.bool r26.2) (zK rfl (by kernel_rfl)) (ax rfl (ab rfl (zb (zd (zd ?_)))))))
 obtain ⟨s28, m4, hs⟩ := bind_some hs
 refine yB (I := fun a g3 => ∃ (σ : Nat → Value), a = fr 122 (ovl σ [(1, (iv aK)), (2, (.slice pa1 pn1 pc1)), (3, (pq a5 0)), (6, (.bool false)), (8, (.slice d0 d1 d2)), (9, (.bool r15.2)), (10, (pq c1 0)), (11, (.slice f6 f7 f8)), (12, (.slice b4 b5 b6)), (13, (.bool r26.2)), (55, (.bool s28))]) ∧ Chg [] j3 g3) ?_ ?_
 ·replace hs := m4
  have hMid := Chg.refl [] j3
  refine ze (ms rfl (ms rfl ?_))
  have hO := hO.fr4.fr1
  obtain ⟨r32, m5, hs⟩ := bind_some hs
  refine zw Bd14 rfl (YY (M := (Less (Less M b0) a6)) r26.1 r15.1 ((((Frz.os Frz.int)).val a2 Less.sub Less.not).sub Less.sub) (((Frz.os Frz.int)).val (a1.sub Less.sub) Less.sub Less.not) (hO.less).less.fut m5) ?_
  rintro _ r0 ⟨rfl, b7⟩
  obtain ⟨h0, h1, a0, a1, a3, a4, a7, a2⟩ := xt8 b7 h0 h1 a0 a1 a3 a4 a7 a2
  obtain ⟨hMid, hC, hO⟩ := xt3 b7 hMid hC hO
  refine za _ (Zy rfl) (mb rfl ?_)
  rcases zf hs with ⟨c5, hs⟩ | ⟨c5, hs⟩
  ·skip
   refine pn 51 (cb c5) (pn 51 (cb c5) (pn 51 (cb c5) (za _ (ptb (cb c5) rfl) (zb ?_))))
   cases hs
   exact ⟨_, fr_m 122 rfl, hMid⟩
  refine py 51 (.bool r26.2) (cb c5) (zr rfl) (py 51 (.bool r15.2) (cb c5) (zr rfl) (py 51 (.bool (!(r26.2 == r15.2))) (cb c5) (zbV Tryz.underlying4 rfl rfl) (za _ (pfb (cb c5) rfl) (zb ?_))))
  cases hs
  exact ⟨_, fr_m 122 rfl, hMid⟩
 rintro j4 g3 ⟨σ, rfl, c2⟩
 obtain ⟨h0, h1, a0, a1, a3, a4, a7, a2⟩ := xt8 c2 h0 h1 a0 a1 a3 a4 a7 a2
 obtain ⟨hC, hO⟩ := xt2 c2 hC hO
 rcases zf hs with ⟨h5, hs⟩ | ⟨h5, hs⟩
 ·refine zg (cb h5) (c_sr (ab rfl (zb (wp_ret ?_))))
  cases hs
  exact ⟨_, fr_m 122 rfl, hC⟩
 refine zh (cb h5) (wp_skip (zd (zd (zX [] Mx rfl ?_))))
 have b8 := Chg.drew g3
 generalize World.drew g3 = m6 at b8 ⊢
 obtain ⟨h0, h1, a0, a1, a3, a4, a7, a2⟩ := xt8 b8 h0 h1 a0 a1 a3 a4 a7 a2
 obtain ⟨hC, hO⟩ := xt2 b8 hC hO
 have hS := Chg.refl [] m6
 refine xl 0 rfl (ldxw rfl Ag30 a4 Sz30) hS (xl 1 rfl (ldxw rfl Ag24 a0 Sz24) hS (zM (i := 2) (by kernel_rfl) ?_))
 obtain ⟨r43, m7, hs⟩ := bind_some hs
 refine zV (b := false) rfl  Bd8 rfl (YO (M := M) (aA.1, aA.2) h0 hO.fut m7) rfl (by rintro _ _ _ ⟨m8, m9, n0, g4, rfl, b1, d7, j5⟩; exact hS.ext b1) ?_
 rintro _ r1 ⟨m8, m9, n0, g4, rfl, b1, d7, j5⟩
 obtain ⟨h0, h1, a0, a1, a3, a4, a7, a2⟩ := xt8 b1 h0 h1 a0 a1 a3 a4 a7 a2
 have hC := hC.ext b1
 have hO := Own.join0 hO b1 j5
 have hO := hO.perm (R := g4 ++ (b0 ++ (c3 ++ (b3 ++ (([c1]) ++ (a6 ++ (([a5]) ++ ([])))))))) (by simp)
 have hS := hS.ext b1
 refine zM (i := 3) (by kernel_rfl) ?_
 have hO := hO.fr2
 obtain ⟨r46, n1, hs⟩ := bind_some hs
 refine zV (b := false) rfl  Bd10 rfl (vX (M := (Less (Less M c3) g4)) (r18.1, r18.2) (r43.1, r43.2) ((((Frz.os (Frz.pr Frz.int (Frz.os Frz.int)))).val a3 Less.sub Less.not).sub Less.sub) (((Frz.os (Frz.pr Frz.int (Frz.os Frz.int)))).val (d7.sub Less.sub) Less.sub Less.not) (hO.less).less.fut n1) rfl (by rintro _ _ _ ⟨rfl, a9⟩; exact hS.ext a9) ?_
 rintro _ r2 ⟨rfl, a9⟩
 obtain ⟨h0, h1, a0, a1, a3, a4, a7, a2⟩ := xt8 a9 h0 h1 a0 a1 a3 a4 a7 a2
 obtain ⟨d7, hC, hO, hS⟩ := xt4 a9 d7 hC hO hS
 refine xq 4 _ rfl (Zy rfl) hS (Za (by kernel_rfl) ?_)
 clear hS
 rcases zf hs with ⟨h6, hs⟩ | ⟨h6, hs⟩
 ·refine zg (cb h6) (c_sr (ab rfl (zb ?_)))
  have hO := hO.fr1.drop
  refine wp_ret ?_
  cases hs
  exact ⟨_, fr_m 122 rfl, hC⟩
 refine zh (cb h6) (wp_skip (zd (c_sr (ms rfl (ms rfl ?_)))))
 obtain ⟨r49, n2, hs⟩ := bind_some hs
 refine zw Bd12 rfl (YX (M := M) aT h1 hO.fut n2) ?_
 rintro _ r3 ⟨r4, r5, r7, j6, rfl, b9, h7, n3⟩
 obtain ⟨h0, h1, a0, a1, a3, a4, a7, a2⟩ := xt8 b9 h0 h1 a0 a1 a3 a4 a7 a2
 obtain ⟨d7, hC⟩ := xt2 b9 d7 hC
 have hO := Own.join0 hO b9 n3
 have hO := (hO.perm (R := j6 ++ (c3 ++ (g4 ++ (b0 ++ (b3 ++ (([c1]) ++ (a6 ++ (([a5]) ++ ([]))))))))) (by simp)).fr4
 obtain ⟨r52, n4, hs⟩ := bind_some hs
 refine zw Bd14 rfl (YY (M := (Less (Less M b3) j6)) r23 r49 ((((Frz.os Frz.int)).val a7 Less.sub Less.not).sub Less.sub) (((Frz.os Frz.int)).val (h7.sub Less.sub) Less.sub Less.not) (hO.less).less.fut n4) ?_
 rintro _ r8 ⟨rfl, b2⟩
 obtain ⟨h0, h1, a0, a1, a3, a4, a7, a2⟩ := xt8 b2 h0 h1 a0 a1 a3 a4 a7 a2
 obtain ⟨d7, h7, hC, hO⟩ := xt4 b2 d7 h7 hC hO
 refine za _ (Zy rfl) (zb ?_)
 have hO := hO.fr1.drop.fr2.drop
 rcases zf hs with ⟨h8, hs⟩ | ⟨h8, hs⟩
 ·refine zg (cb h8) (c_sr (ab rfl (zb (wp_ret ?_))))
  cases hs
  exact ⟨_, fr_m 122 rfl, hC⟩
 refine zh (cb h8) (wp_skip (c_sr (ai rfl (zb (c_sr (za _ (ldw rfl Ag30 a4 Sz30) (mi rfl ?_)))))))
 have hO := hO.fr1
 have n5 := hO
 have j7 := Own.lend (F := (c3 ++ ([]))) (R := b3 ++ (b0 ++ (([c1]) ++ (a6 ++ (([a5]) ++ ([])))))) (Own.perm (n5) (by simp))
 obtain ⟨r55, n6, hs⟩ := bind_some hs
 refine zw Bd15 rfl (WU (M := M) (r18.1, r18.2) 1 a3 j7 j7.fut n6) ?_
 rintro _ s0 ⟨n7, rfl, c6, s1, n8⟩
 have hO := hO.perm (R := (c3 ++ ([])) ++ (b3 ++ (b0 ++ (([c1]) ++ (a6 ++ (([a5]) ++ ([]))))))) (by simp)
 have h0 := h0.mt c6 hO zk
 have h1 := h1.mt c6 hO zk
 have a0 := a0.ap c6 hO zk (zl (zl (zl (zl (zm (List.mem_singleton.2 rfl))))))
 have a1 := a1.ma c6 hO zk (fun _ e => (zl (zl (zl (zm (e))))))
 have a4 := a4.ap c6 hO zk (zl (zl (zm (List.mem_singleton.2 rfl))))
 have a7 := a7.ma c6 hO zk (fun _ e => (zm (e)))
 have a2 := a2.ma c6 hO zk (fun _ e => (zl (zm (e))))
 have hC := hC.st c6 hO zk
 have hO := Own.join hO c6 n8
 have hO := hO.perm (R := n7 ++ (b3 ++ (b0 ++ (([c1]) ++ (a6 ++ (([a5]) ++ ([]))))))) (by simp)
 refine ai rfl (zb ?_)
 have hO := hO.drop.fr2.drop
 refine c_sr (ms rfl (mi rfl ?_))
 have n9 := hO
 have j8 := Own.lend (F := (b3 ++ ([]))) (R := b0 ++ (a6 ++ (([a5]) ++ ([])))) (Own.perm (n9) (by simp))
 obtain ⟨r57, o0, hs⟩ := bind_some hs
 refine zw Bd16 rfl (Xa (M := M) r23 r55.1 a7 j8 j8.fut o0) ?_
 rintro _ j9 ⟨o1, rfl, e3, s2, o2⟩
 have hO := hO.perm (R := (b3 ++ ([])) ++ (b0 ++ (a6 ++ (([a5]) ++ ([]))))) (by simp)
 have h0 := h0.mt e3 hO zk
 have h1 := h1.mt e3 hO zk
 have a0 := a0.ap e3 hO zk (zl (zl (zm (List.mem_singleton.2 rfl))))
 have a1 := a1.ma e3 hO zk (fun _ e => (zl (zm (e))))
 have a2 := a2.ma e3 hO zk (fun _ e => (zm (e)))
 have hC := hC.st e3 hO zk
 have hO := Own.join hO e3 o2
 have hO := hO.perm (R := o1 ++ (b0 ++ (a6 ++ (([a5]) ++ ([]))))) (by simp)
 refine ai rfl (zb ?_)
 have hO := hO.drop
 refine zd (zd ?_)
 obtain ⟨s58, o3, hs⟩ := bind_some hs
 refine yB (I := fun a k0 => ∃ (σ : Nat → Value), a = fr 122 (ovl σ [(1, (iv aK)), (2, (.slice pa1 pn1 pc1)), (3, (pq a5 0)), (6, (.bool false)), (8, (.slice d0 d1 d2)), (9, (.bool r15.2)), (12, (.slice b4 b5 b6)), (84, (.bool s58))]) ∧ Chg [] j9 k0) ?_ ?_
 ·replace hs := o3
  have hMid := Chg.refl [] j9
  refine ze (mi rfl (za _ (zz rfl rfl) (mb rfl ?_)))
  rcases zf hs with ⟨c0, hs⟩ | ⟨c0, hs⟩
  ·skip
   refine pn 74 (cb c0) (pn 74 (cb c0) (pn 74 (cb c0) (pn 74 (cb c0) (za _ (ptb (cb c0) rfl) (mb rfl (pn 80 (by rfl) (pn 80 (by rfl) (pn 80 (by rfl) (za _ (ptb (by rfl) rfl) (zb ?_))))))))))
   cases hs
   exact ⟨_, fr_m 122 rfl, hMid⟩
  refine py 74 (.slice b4 b5 b6) (cb c0) (zr rfl) (py 74 (.slice d0 d1 d2) (cb c0) (zr rfl) ?_)
  have hO := hO.fr1.fr1
  obtain ⟨r63, o4, hs⟩ := bind_some hs
  refine Ya (tg := 74) (by kernel_rfl) (cb c0) Bd14 rfl (YY (M := (Less (Less M b0) a6)) r26.1 r15.1 ((((Frz.os Frz.int)).val a2 Less.sub Less.not).sub Less.sub) (((Frz.os Frz.int)).val (a1.sub Less.sub) Less.sub Less.not) (hO.less).less.fut o4) ?_
  rintro _ s3 ⟨rfl, d8⟩
  obtain ⟨h0, h1, a0, a1, a2, hMid, hC, hO⟩ := xt8 d8 h0 h1 a0 a1 a2 hMid hC hO
  refine py 74 _ (cb c0) (Zy rfl) (za _ (pfb (cb c0) rfl) (mb rfl ?_))
  rcases zf hs with ⟨c7, hs⟩ | ⟨c7, hs⟩
  ·skip
   refine pn 80 (cb c7) (pn 80 (cb c7) (pn 80 (cb c7) (za _ (ptb (cb c7) rfl) (zb ?_))))
   cases hs
   exact ⟨_, fr_m 122 rfl, hMid⟩
  refine py 80 (.bool r26.2) (cb c7) (zr rfl) (py 80 (.bool r15.2) (cb c7) (zr rfl) (py 80 (.bool (!(r26.2 == r15.2))) (cb c7) (zbV Tryz.underlying4 rfl rfl) (za _ (pfb (cb c7) rfl) (zb ?_))))
  cases hs
  exact ⟨_, fr_m 122 rfl, hMid⟩
 rintro j4 k0 ⟨σ, rfl, e4⟩
 obtain ⟨h0, h1, a0, a1, a2, hC, hO⟩ := xt7 e4 h0 h1 a0 a1 a2 hC hO
 rcases zf hs with ⟨h9, hs⟩ | ⟨h9, hs⟩
 ·refine zg (cb h9) (c_sr (ab rfl (zb (wp_ret ?_))))
  cases hs
  exact ⟨_, fr_m 122 rfl, hC⟩
 refine zh (cb h9) (wp_skip (c_sr (ai rfl (zb (c_sr (ms rfl (mi rfl ?_)))))))
 have o5 := hO
 have k1 := Own.lend (F := (b0 ++ ([]))) (R := a6 ++ (([a5]) ++ ([]))) (Own.perm (o5) (by simp))
 obtain ⟨r67, o6, hs⟩ := bind_some hs
 refine zw Bd16 rfl (Xa (M := M) r26.1 1 a2 k1 k1.fut o6) ?_
 rintro _ s4 ⟨f0, rfl, f1, a8, o7⟩
 have hO := hO.perm (R := (b0 ++ ([])) ++ (a6 ++ (([a5]) ++ ([])))) (by simp)
 have h0 := h0.mt f1 hO zk
 have h1 := h1.mt f1 hO zk
 have a0 := a0.ap f1 hO zk (zl (zm (List.mem_singleton.2 rfl)))
 have a1 := a1.ma f1 hO zk (fun _ e => (zm (e)))
 have hC := hC.st f1 hO zk
 have hO := Own.join hO f1 o7
 have hO := hO.perm (R := f0 ++ (a6 ++ (([a5]) ++ ([])))) (by simp)
 refine ai rfl (zb (c_sr (ai rfl (zb (c_sr (ms rfl (mi rfl ?_)))))))
 obtain ⟨r69, o8, hs⟩ := bind_some hs
 refine zw Bd17 rfl (ww (M := (Less M f0)) r67.2 1 (((Frz.os Frz.int)).val a8 Less.sub Less.not) hO.less.fut o8) ?_
 rintro _ s5 ⟨rfl, e5⟩
 obtain ⟨h0, h1, a0, a1, a8, hC, hO⟩ := xt7 e5 h0 h1 a0 a1 a8 hC hO
 refine ai rfl (zb (zd (c_sr (mi rfl (za _ (zz rfl rfl) (zb ?_))))))
 rcases zf hs with ⟨i0, hs⟩ | ⟨i0, hs⟩
 ·refine zg (cb i0) (c_sr (ab rfl (zb (wp_ret ?_))))
  cases hs
  exact ⟨_, fr_m 122 rfl, hC⟩
 refine zh (cb i0) (wp_skip (zd (c_sr (mi rfl (mi rfl (za (.bool (r69 != r67.1)) (xX rfl rfl) (zb ?_)))))))
 rcases zf hs with ⟨i1, hs⟩ | ⟨i1, hs⟩
 ·refine zg (cb i1) (c_sr (ab rfl (zb (wp_ret ?_))))
  cases hs
  exact ⟨_, fr_m 122 rfl, hC⟩
 refine zh (cb i1) (wp_skip (c_sr (za _ (ldw rfl Ag24 a0 Sz24) ?_)))
 obtain ⟨r73, o9, hs⟩ := bind_some hs
 refine zw Bd8 rfl (YO (M := M) (aA.1, aA.2) h0 hO.fut o9) ?_
 rintro _ s6 ⟨s7, s8, s9, g5, rfl, e6, f9, p0⟩
 obtain ⟨h0, h1, a0, a1, a8, hC⟩ := xt6 e6 h0 h1 a0 a1 a8 hC
 have hO := Own.join0 hO e6 p0
 have hO := hO.perm (R := g5 ++ (f0 ++ (a6 ++ (([a5]) ++ ([]))))) (by simp)
 refine mi rfl (ms rfl ?_)
 obtain ⟨r76, p1, hs⟩ := bind_some hs
 refine zw Bd12 rfl (YX (M := M) aT h1 hO.fut p1) ?_
 rintro _ t0 ⟨t1, t2, t3, i2, rfl, d9, i3, p2⟩
 obtain ⟨h0, h1, a0, a1, a8, f9, hC⟩ := xt7 d9 h0 h1 a0 a1 a8 f9 hC
 have hO := Own.join0 hO d9 p2
 have hO := (hO.perm (R := i2 ++ (g5 ++ (f0 ++ (a6 ++ (([a5]) ++ ([])))))) (by simp)).fr1
 obtain ⟨r79, p3, hs⟩ := bind_some hs
 refine zw Bd13 rfl (XG (M := (Less (Less M g5) i2)) (r73.1, r73.2) aK r76 ((((Frz.os (Frz.pr Frz.int (Frz.os Frz.int)))).val f9 Less.sub Less.not).sub Less.sub) (((Frz.os Frz.int)).val (i3.sub Less.sub) Less.sub Less.not) (hO.less).less.fut p3) ?_
 rintro _ k2 ⟨g6, g7, g8, k3, rfl, c8, e7, p4⟩
 obtain ⟨h0, h1, a0, a1, a8, f9, i3, hC⟩ := xt8 c8 h0 h1 a0 a1 a8 f9 i3 hC
 have hO := Own.join0 hO c8 p4
 have hO := hO.perm (R := k3 ++ (g5 ++ (i2 ++ (f0 ++ (a6 ++ (([a5]) ++ ([]))))))) (by simp)
 have e7 := e7.free (M' := M) (Free.os Free.int)
 refine za (.tuple #[(.slice g6 g7 g8), (.bool r79.2)]) (zr rfl) (za (.slice g6 g7 g8) (zK rfl (by kernel_rfl)) (za (.bool r79.2) (zK rfl (by kernel_rfl)) (ax rfl (ab rfl (zb ?_)))))
 have hO := hO.fr1.drop.fr1.drop.fr3.drop
 refine zd (zd ?_)
 obtain ⟨s81, p5, hs⟩ := bind_some hs
 refine yB (I := fun a k4 => ∃ (σ : Nat → Value), a = fr 122 (ovl σ [(6, (.bool false)), (12, (.slice b4 b5 b6)), (15, (iv r67.1)), (16, (iv r69)), (113, (.bool s81))]) ∧ Chg [] k2 k4) ?_ ?_
 ·replace hs := p5
  have hMid := Chg.refl [] k2
  refine ze (ms rfl (ms rfl ?_))
  have hO := hO.fr2.fr1
  obtain ⟨r85, p6, hs⟩ := bind_some hs
  refine zw Bd14 rfl (YY (M := (Less (Less M k3) a6)) r79.1 r15.1 ((((Frz.os Frz.int)).val e7 Less.sub Less.not).sub Less.sub) (((Frz.os Frz.int)).val (a1.sub Less.sub) Less.sub Less.not) (hO.less).less.fut p6) ?_
  rintro _ t4 ⟨rfl, f2⟩
  obtain ⟨a1, a8, e7, hMid, hC, hO⟩ := xt6 f2 a1 a8 e7 hMid hC hO
  refine za _ (Zy rfl) (mb rfl ?_)
  rcases zf hs with ⟨c9, hs⟩ | ⟨c9, hs⟩
  ·skip
   refine pn 109 (cb c9) (pn 109 (cb c9) (pn 109 (cb c9) (za _ (ptb (cb c9) rfl) (zb ?_))))
   have hO := hO.drop.drop
   cases hs
   exact ⟨_, fr_m 122 rfl, hMid⟩
  refine py 109 (.bool r79.2) (cb c9) (zr rfl) (py 109 (.bool r15.2) (cb c9) (zr rfl) (py 109 (.bool (!(r79.2 == r15.2))) (cb c9) (zbV Tryz.underlying4 rfl rfl) (za _ (pfb (cb c9) rfl) (zb ?_))))
  have hO := hO.drop.drop
  cases hs
  exact ⟨_, fr_m 122 rfl, hMid⟩
 rintro j4 k4 ⟨σ, rfl, g0⟩
 obtain ⟨a1, a8, e7, hC, hO⟩ := xt5 g0 a1 a8 e7 hC hO
 rcases zf hs with ⟨i4, hs⟩ | ⟨i4, hs⟩
 ·refine zg (cb i4) (c_sr (ab rfl (zb ?_)))
  have hO := hO.drop.fr1.drop
  refine wp_ret ?_
  cases hs
  exact ⟨_, fr_m 122 rfl, hC⟩
 refine zh (cb i4) (wp_skip (c_sr (ai rfl (zb ?_))))
 have hO := hO.drop.fr1.drop
 refine c_sr (ms rfl (mi rfl ?_))
 obtain ⟨r89, p7, hs⟩ := bind_some hs
 refine zw Bd17 rfl (ww (M := (Less M f0)) r67.2 1 (((Frz.os Frz.int)).val a8 Less.sub Less.not) hO.less.fut p7) ?_
 rintro _ t5 ⟨rfl, i5⟩
 obtain ⟨a8, hC, hO⟩ := xt3 i5 a8 hC hO
 refine ai rfl (zb ?_)
 have hO := hO.drop
 refine zd (c_sr (mi rfl (za _ (zz rfl rfl) (zb ?_))))
 rcases zf hs with ⟨i6, hs⟩ | ⟨i6, hs⟩
 ·refine zg (cb i6) (c_sr (ab rfl (zb (wp_ret ?_))))
  cases hs
  exact ⟨_, fr_m 122 rfl, hC⟩
 refine zh (cb i6) (wp_skip (zd (c_sr (mi rfl (mi rfl (za (.bool (r89 != r67.1)) (xX rfl rfl) (zb ?_)))))))
 rcases zf hs with ⟨i7, hs⟩ | ⟨i7, hs⟩
 ·refine zg (cb i7) (c_sr (ab rfl (zb (wp_ret ?_))))
  cases hs
  exact ⟨_, fr_m 122 rfl, hC⟩
 refine zh (cb i7) (wp_skip (c_sr (ab rfl (zb (wp_ret ?_)))))
 cases hs
 exact ⟨_, fr_m 122 rfl, hC⟩

end Go.Proofs
