/- What functions of the program compute, as plain functions, and that a call gives just that. Conditions: those named in each theorem. -/
import Derived.Test.YtmghggenjagioaaF1
set_option linter.unusedVariables false
namespace Go.Proofs
open Go.G Go.RowKit
set_option maxRecDepth 100000

def k_spec_l17Chain (M : Nat → Prop) (w0 : World) (r : (List Int) × Bool) (a : Act) (w : World) : Prop :=
  ∃ (σ : Nat → Value) (ra0 : Option Addr) (rn0 rc0 : Nat) (rf0 : List Nat), a = fr 236 (ovl σ [(8, (.slice ra0 rn0 rc0)), (9, (.bool r.2))]) ∧ Chg [] w0 w ∧ (RT.os 3 (RT.int .i64)).val M w (.slice ra0 rn0 rc0) r.1 rf0 ∧ Own (Nw w0 []) (fun _ => True) w (rf0 ++ ([]))
def s_spec_l17Chain (from_ : List Int) (to : List Bool) (may : List (List (List Bool))) (most : Int) : Option ((List Int) × Bool) :=
  (mks (to.length : Int) (0 : Int)).bind fun y6 =>
  (forC (S := (List (List Int))) (R := (List Int) × Bool) (fun k162 s160 =>
  (forC (S := (List (List Int))) (R := (List Int) × Bool) (fun k205 s203 =>
  (idx s203 k205).bind fun x211 =>
  (idx x211 k162).bind fun x215 =>
  (idx to k162).bind fun x218 =>
  (bif x218 then (idx (List.set s203 (Int.toNat k205) (List.set x211 (Int.toNat k162) (-1))) k205).bind fun x221 =>
  (idx x221 k162).bind fun x225 =>
  some (.nx (List.set (List.set s203 (Int.toNat k205) (List.set x211 (Int.toNat k162) (-1))) (Int.toNat k205) (List.set x221 (Int.toNat k162) 0))) else some (.nx (List.set s203 (Int.toNat k205) (List.set x211 (Int.toNat k162) (-1)))))) 0 2 s160).bind fun o207 => after o207 (fun r_ => some (.rt r_)) (fun s203 =>
  some (.nx s203))) 0 (to.length : Int) ([y6, y6])).bind fun o164 => after o164 (fun r_ => some r_) (fun s160 =>
  (iter (S := Int × (List (List Int))) (R := (List Int) × Bool) (fun s2571 =>
  (bif (decide (s2571.1 ≤ most)) then (forC (S := (List (List Int))) (R := (List Int) × Bool) (fun k3357 s3355 =>
  (forC (S := (List (List Int))) (R := (List Int) × Bool) (fun k3618 s3616 =>
  (iter (S := Int × (List (List Int))) (R := (List Int) × Bool) (fun s3703 =>
  ((bif (decide (s3703.1 < (to.length : Int))) then (idx s3703.2 k3618).bind fun x3715 =>
  (idx x3715 k3357).bind fun x3719 =>
  some (decide (x3719 < 0)) else some false)).bind fun s3711 =>
  (bif s3711 then ((idx may k3618).bind fun x3725 =>
  (idx x3725 k3357).bind fun x3729 =>
  (idx x3729 s3703.1).bind fun x3733 =>
  (bif x3733 then (idx s3703.2 (w64 (1 - k3618))).bind fun x3736 =>
  (idx x3736 s3703.1).bind fun x3740 =>
  some (x3740 == (w64 (s2571.1 - 1))) else some false)).bind fun s3722 =>
  (bif s3722 then (idx s3703.2 k3618).bind fun x3743 =>
  (idx x3743 k3357).bind fun x3747 =>
  some (.nx (w64 (s3703.1 + 1), List.set s3703.2 (Int.toNat k3618) (List.set x3743 (Int.toNat k3357) s2571.1))) else some (.nx (w64 (s3703.1 + 1), s3703.2))) else some (.br (s3703.1, s3703.2)))) FU (0, s3616)).bind fun o3707 => after o3707 (fun r_ => some (.rt r_)) (fun s3703 =>
  some (.nx s3703.2))) 0 2 s3355).bind fun o3620 => after o3620 (fun r_ => some (.rt r_)) (fun s3616 =>
  some (.nx s3616))) 0 (to.length : Int) s2571.2).bind fun o3359 => after o3359 (fun r_ => some (.rt r_)) (fun s3355 =>
  some (.nx (w64 (s2571.1 + 1), s3355))) else some (.br (s2571.1, s2571.2)))) FU (1, s160)).bind fun o2575 => after o2575 (fun r_ => some r_) (fun s2571 =>
  (forC (S := Int) (R := (List Int) × Bool) (fun k3776 s3774 =>
  (idx s2571.2 0).bind fun x3790 =>
  (idx from_ k3776).bind fun x3794 =>
  (idx x3790 x3794).bind fun x3796 =>
  (bif ((decide (0 ≤ x3796)) && ((decide (s3774 < 0)) || (decide (x3796 < s3774)))) then some (.nx x3796) else some (.nx s3774))) 0 (from_.length : Int) (-1)).bind fun o3778 => after o3778 (fun r_ => some r_) (fun s3774 =>
  (bif (decide (s3774 < 0)) then some ([], false) else (forC (S := (List Int)) (R := (List Int) × Bool) (fun k3834 s3832 =>
  ((bif ((s3832.length : Int) == 0) then (idx s2571.2 0).bind fun x3847 =>
  (idx from_ k3834).bind fun x3851 =>
  (idx x3847 x3851).bind fun x3853 =>
  some (x3853 == s3774) else some false)).bind fun s3842 =>
  (bif s3842 then (idx from_ k3834).bind fun x3856 =>
  (app s3832 ([x3856])).bind fun y3861 =>
  some (.nx y3861) else some (.nx s3832))) 0 (from_.length : Int) ([])).bind fun o3836 => after o3836 (fun r_ => some r_) (fun s3832 =>
  (iter (S := (List Int) × Int) (R := (List Int) × Bool) (fun s3953 =>
  (idx s2571.2 (Int.tmod s3953.2 2)).bind fun x3973 =>
  (idx s3953.1 s3953.2).bind fun x3977 =>
  (idx x3973 x3977).bind fun x3979 =>
  (bif (decide (0 < x3979)) then (iter (S := Int) (R := (List Int) × Bool) (fun s4011 =>
  (idx may (Int.tmod s3953.2 2)).bind fun x4018 =>
  (idx x4018 x3977).bind fun x4024 =>
  (idx x4024 s4011).bind fun x4028 =>
  (bif (!x4028) then some (.nx (w64 (s4011 + 1))) else (idx s2571.2 (w64 (1 - (Int.tmod s3953.2 2)))).bind fun x4031 =>
  (idx x4031 s4011).bind fun x4035 =>
  (bif (x4035 != (w64 (x3979 - 1))) then some (.nx (w64 (s4011 + 1))) else some (.br s4011)))) FU 0).bind fun o4015 => after o4015 (fun r_ => some (.rt r_)) (fun s4011 =>
  (app s3953.1 ([s4011])).bind fun y4049 =>
  some (.nx (y4049, w64 (s3953.2 + 1)))) else some (.br (s3953.1, s3953.2)))) FU (s3832, 0)).bind fun o3957 => after o3957 (fun r_ => some r_) (fun s3953 =>
  some (s3953.1, true)))))))
set_option maxHeartbeats 4000000 in
theorem c_spec_l17Chain {M : Nat → Prop} {w : World} {pa0 : Option Addr} {pn0 pc0 : Nat} {pa1 : Option Addr} {pn1 pc1 : Nat} {pa2 : Option Addr} {pn2 pc2 : Nat} (from_ : List Int) (to : List Bool) (may : List (List (List Bool))) (most : Int) (h0 : (RT.rs (RT.int .i64)).val M w (.slice pa0 pn0 pc0) from_ ([])) (h1 : (RT.rs RT.bool).val M w (.slice pa1 pn1 pc1) to ([])) (h2 : (RT.rs (RT.rs (RT.rs RT.bool))).val M w (.slice pa2 pn2 pc2) may ([])) (hM : ∀ g, w.heap.size ≤ g → M g) {r : (List Int) × Bool} (hs : s_spec_l17Chain from_ to may most = some r) :
    Gives Try.prog 105 [(.slice pa0 pn0 pc0), (.slice pa1 pn1 pc1), (.slice pa2 pn2 pc2), (.int .i64 most)] w (fun v w' => ∃ (ra0 : Option Addr) (rn0 rc0 : Nat) (rf0 : List Nat), v = (.tuple #[(.slice ra0 rn0 rc0), (.bool r.2)]) ∧ Chg [] w w' ∧ (RT.os 3 (RT.int .i64)).val M w' (.slice ra0 rn0 rc0) r.1 rf0 ∧ Own (Nw w []) (fun _ => True) w' (rf0 ++ ([]))) := by
 refine calls_fr Try.func105 rfl Try.ntmps105 (Nat.le_of_ble_eq_true rfl) ?_
 have hO := Own.start (N := Nw w []) hM Nw.fut
 have hC := Chg.refl [] w
 unfold s_spec_l17Chain at hs
 refine wp_mono (Q := KPost (k_spec_l17Chain M w r)) ?_ (fun e a c6 h => ?_)
 rotate_left
 ·cases e
  case ret =>
   obtain ⟨σ, ra0, rn0, rc0, rf0, rfl, hrest⟩ := h
   exact ret2x Try.results105 (res_tmp rfl) (res_tmp rfl) ⟨ra0, rn0, rc0, rf0, rfl, hrest⟩
  all_goals exact (h : False).elim
 refine c_sr ?_
 refine pl_val (.slice none 0 0) (y_assign rfl) ?_
 refine pl_val (.bool false) (y_assign rfl) ?_
 refine c_nil ?_
 refine c_sr ?_
 refine pl_val (.slice pa1 pn1 pc1) (y_move rfl) ?_
 refine pl_val (.int .i64 (to.length : Int)) (y_len' Sl56 (rs_len h1) rfl) ?_
 refine pl_val (.int .i64 (to.length : Int)) (y_assign rfl) ?_
 refine c_nil ?_
 refine c_seq ?_
 obtain ⟨y6, h8, hs⟩ := bind_some hs
 refine c_mid (I := fun a d6 => ∃ (σ : Nat → Value) (h9 : List Nat) (i0 : List Nat) (a0 : Nat), a = fr 236 (ovl σ [(0, (.slice pa0 pn0 pc0)), (1, (.slice pa1 pn1 pc1)), (2, (.slice pa2 pn2 pc2)), (3, (.int .i64 most)), (8, (.slice none 0 0)), (9, (.bool false)), (10, (.int .i64 (to.length : Int))), (11, (.slice (some ⟨a0, 0, none⟩) 2 2))]) ∧ Chg [] w d6 ∧ Own (Nw w []) M d6 ((a0 :: ((h9) ++ ((i0) ++ ([])))) ++ []) ∧ (RT.rs (RT.int .i64)).val M d6 (.slice pa0 pn0 pc0) from_ ([]) ∧ (RT.rs RT.bool).val M d6 (.slice pa1 pn1 pc1) to ([]) ∧ (RT.rs (RT.rs (RT.rs RT.bool))).val M d6 (.slice pa2 pn2 pc2) may ([]) ∧ (RT.os 37 (RT.os 3 (RT.int .i64))).val M d6 (.slice (some ⟨a0, 0, none⟩) 2 2) ([y6, y6]) (a0 :: ((h9) ++ ((i0) ++ ([]))))) ?_ ?_
 ·skip
  refine x_start [] Mx rfl ?_
  have e2 := Chg.drew w
  generalize World.drew w = k3 at e2 ⊢
  have h0 := h0.ext e2
  have h1 := h1.ext e2
  have h2 := h2.ext e2
  have hC := hC.ext e2
  have hO := hO.ext e2
  have hS := Chg.refl [] k3
  refine x_p 0 (.int .i64 (to.length : Int)) rfl (by kernel_rfl)  (fun _ => y_move rfl) (fun _ => hS) ?_
  refine x_p 2 (.int .i64 (to.length : Int)) rfl (by kernel_rfl)  (fun _ => y_move rfl) (fun _ => hS) ?_
  refine x_two (i := 1) (j := 3) (by kernel_rfl) ?_ ?_
  ·skip
   obtain ⟨k4, k5, k6, p6, i1, w8, d7, w9, d8⟩ := mk_os (M := M) (w := k3) (r := (RT.int .i64)) Rw37 h8 (fun _ _ => ⟨rfl, rfl⟩)
   refine xk_val (w' := p6) (b := false) (.slice k4 k5 k6) rfl  (y_make rfl rfl w8) rfl (fun _ => hS.ext d7) ?_
   have h0 := h0.ext d7
   have h1 := h1.ext d7
   have h2 := h2.ext d7
   have hC := hC.ext d7
   have hO := hO.new d7 w9 (os_nodup d8) d8.fpl
   have hS := hS.ext d7
   refine x_one (i := 3) (by kernel_rfl) ?_
   obtain ⟨k7, k8, k9, p7, i2, x0, d2, x1, f9⟩ := mk_os (M := M) (w := p6) (r := (RT.int .i64)) Rw37 h8 (fun _ _ => ⟨rfl, rfl⟩)
   refine xk_val (w' := p7) (b := false) (.slice k7 k8 k9) rfl  (y_make rfl rfl x0) rfl (fun _ => hS.ext d2) ?_
   have h0 := h0.ext d2
   have h1 := h1.ext d2
   have h2 := h2.ext d2
   have d8 := d8.ext d2
   have hC := hC.ext d2
   have hO := hO.new d2 x1 (os_nodup f9) f9.fpl
   have hS := hS.ext d2
   refine x_one (i := 4) (by kernel_rfl) ?_
   obtain ⟨p8, e3, x2, p9, c7, q0⟩ := new_block p7 [(.slice k4 k5 k6), (.slice k7 k8 k9)] 37
   refine xk_val (w' := p8) (b := false) (.slice (some ⟨e3, 0, none⟩) 2 2) rfl  (y_bslice rfl (by rw [x2, p9]; kernel_rfl)) rfl (fun _ => hS.ext c7) ?_
   have h0 := h0.ext c7
   have h1 := h1.ext c7
   have h2 := h2.ext c7
   have d8 := d8.ext c7
   have f9 := f9.ext c7
   have hC := hC.ext c7
   have hO := hO.fr1
   have hO := hO.new1 c7 p9 q0.lt
   have hO := hO.perm (R := (e3 :: ((i1) ++ ((i2) ++ ([])))) ++ ([])) (by simp)
   have x3 := hO.nd
   have l0 := os_of_box (r := (RT.os 3 (RT.int .i64))) (M := M) (css := [[(.slice k4 k5 k6)], [(.slice k7 k8 k9)]]) (fps := [(i1 : List Nat), (i2 : List Nat)]) (xs := ([y6, y6] : List (List Int))) q0 ⟨(os_unval d8), ⟨(os_unval f9), trivial⟩⟩ (Nat.le_of_ble_eq_true rfl) x3
   have l0 : (RT.os 37 (RT.os 3 (RT.int .i64))).val M p8 (.slice (some ⟨e3, 0, none⟩) 2 2) [y6, y6] (e3 :: ((i1) ++ ((i2) ++ ([])))) := l0
   have hS := hS.ext c7
   refine x_p 5 (.slice (some ⟨e3, 0, none⟩) 2 2) rfl (by kernel_rfl)  (fun _ => y_assign rfl) (fun _ => hS) ?_
   refine x_end (by kernel_rfl) ?_
   clear hS
   exact ⟨_, i1, i2, e3, fr_ovl 236 ⟨rfl, rfl, rfl, rfl, rfl, rfl, rfl, rfl, trivial⟩, hC, hO, h0, h1, h2, l0⟩
  ·skip
   obtain ⟨l1, l2, l3, q1, i3, x4, d9, x5, e0⟩ := mk_os (M := M) (w := k3) (r := (RT.int .i64)) Rw37 h8 (fun _ _ => ⟨rfl, rfl⟩)
   refine xk_val (w' := q1) (b := false) (.slice l1 l2 l3) rfl  (y_make rfl rfl x4) rfl (fun _ => hS.ext d9) ?_
   have h0 := h0.ext d9
   have h1 := h1.ext d9
   have h2 := h2.ext d9
   have hC := hC.ext d9
   have hO := hO.new d9 x5 (os_nodup e0) e0.fpl
   have hS := hS.ext d9
   refine x_one (i := 1) (by kernel_rfl) ?_
   obtain ⟨l4, l5, l6, q2, i4, x6, d3, x7, g0⟩ := mk_os (M := M) (w := q1) (r := (RT.int .i64)) Rw37 h8 (fun _ _ => ⟨rfl, rfl⟩)
   refine xk_val (w' := q2) (b := false) (.slice l4 l5 l6) rfl  (y_make rfl rfl x6) rfl (fun _ => hS.ext d3) ?_
   have h0 := h0.ext d3
   have h1 := h1.ext d3
   have h2 := h2.ext d3
   have e0 := e0.ext d3
   have hC := hC.ext d3
   have hO := hO.new d3 x7 (os_nodup g0) g0.fpl
   have hS := hS.ext d3
   refine x_one (i := 4) (by kernel_rfl) ?_
   obtain ⟨q3, e4, x8, q4, c8, q5⟩ := new_block q2 [(.slice l4 l5 l6), (.slice l1 l2 l3)] 37
   refine xk_val (w' := q3) (b := false) (.slice (some ⟨e4, 0, none⟩) 2 2) rfl  (y_bslice rfl (by rw [x8, q4]; kernel_rfl)) rfl (fun _ => hS.ext c8) ?_
   have h0 := h0.ext c8
   have h1 := h1.ext c8
   have h2 := h2.ext c8
   have e0 := e0.ext c8
   have g0 := g0.ext c8
   have hC := hC.ext c8
   have hO := hO.fr1
   have hO := hO.fr1
   have hO := hO.new1 c8 q4 q5.lt
   have hO := hO.perm (R := (e4 :: ((i4) ++ ((i3) ++ ([])))) ++ ([])) (by simp)
   have x9 := hO.nd
   have l7 := os_of_box (r := (RT.os 3 (RT.int .i64))) (M := M) (css := [[(.slice l4 l5 l6)], [(.slice l1 l2 l3)]]) (fps := [(i4 : List Nat), (i3 : List Nat)]) (xs := ([y6, y6] : List (List Int))) q5 ⟨(os_unval g0), ⟨(os_unval e0), trivial⟩⟩ (Nat.le_of_ble_eq_true rfl) x9
   have l7 : (RT.os 37 (RT.os 3 (RT.int .i64))).val M q3 (.slice (some ⟨e4, 0, none⟩) 2 2) [y6, y6] (e4 :: ((i4) ++ ((i3) ++ ([])))) := l7
   have hS := hS.ext c8
   refine x_p 5 (.slice (some ⟨e4, 0, none⟩) 2 2) rfl (by kernel_rfl)  (fun _ => y_assign rfl) (fun _ => hS) ?_
   refine x_end (by kernel_rfl) ?_
   clear hS
   exact ⟨_, i4, i3, e4, fr_ovl 236 ⟨rfl, rfl, rfl, rfl, rfl, rfl, rfl, rfl, trivial⟩, hC, hO, h0, h1, h2, l7⟩
 rintro a5 d6 ⟨σ, h9, i0, a0, rfl, hC, hO, h0, h1, h2, y0⟩
 refine c_seq ?_
 refine c_sr ?_
 refine pl_val (.int .i64 0) (y_assign rfl) ?_
 refine c_nil ?_
 obtain ⟨o164, y1, hs⟩ := bind_some hs
 refine wp_block ?_
 refine wp_forC (id := 0) (to.length : Int) (I := fun k162 s160 a b2 => ∃ (σ : Nat → Value) (e5 : List Nat), a = fr 236 (ovl σ [(0, (.slice pa0 pn0 pc0)), (1, (.slice pa1 pn1 pc1)), (2, (.slice pa2 pn2 pc2)), (3, (.int .i64 most)), (10, (.int .i64 (to.length : Int))), (11, (.slice (some ⟨a0, 0, none⟩) 2 2)), (12, (.int .i64 k162))]) ∧ Chg [] w b2 ∧ Own (Nw w []) M b2 (e5 ++ []) ∧ (RT.rs (RT.int .i64)).val M b2 (.slice pa0 pn0 pc0) from_ ([]) ∧ (RT.rs RT.bool).val M b2 (.slice pa1 pn1 pc1) to ([]) ∧ (RT.rs (RT.rs (RT.rs RT.bool))).val M b2 (.slice pa2 pn2 pc2) may ([]) ∧ (RT.os 37 (RT.os 3 (RT.int .i64))).val M b2 (.slice (some ⟨a0, 0, none⟩) 2 2) s160 e5) (J := fun s160 a b2 => ∃ (σ : Nat → Value) (i5 : List Nat), a = fr 236 (ovl σ [(0, (.slice pa0 pn0 pc0)), (2, (.slice pa2 pn2 pc2)), (3, (.int .i64 most)), (10, (.int .i64 (to.length : Int))), (11, (.slice (some ⟨a0, 0, none⟩) 2 2))]) ∧ Chg [] w b2 ∧ Own (Nw w []) M b2 (i5 ++ []) ∧ (RT.rs (RT.int .i64)).val M b2 (.slice pa0 pn0 pc0) from_ ([]) ∧ (RT.rs RT.bool).val M b2 (.slice pa1 pn1 pc1) to ([]) ∧ (RT.rs (RT.rs (RT.rs RT.bool))).val M b2 (.slice pa2 pn2 pc2) may ([]) ∧ (RT.os 37 (RT.os 3 (RT.int .i64))).val M b2 (.slice (some ⟨a0, 0, none⟩) 2 2) s160 i5) (K := (k_spec_l17Chain M w)) ?_ ?_ 0 ([y6, y6]) o164 _ _ ?_ y1 ?_
 ·rintro k162 s160 a b2 ⟨σ, e5, rfl, hC, hO, h0, h1, h2, l8⟩ hlt
  refine c_seq ?_
  refine c_sr ?_
  refine pl_val (.int .i64 k162) (y_move rfl) ?_
  refine pl_val (.int .i64 (to.length : Int)) (y_move rfl) ?_
  refine pl_val (.bool (decide (k162 < (to.length : Int)))) (y_lss rfl rfl) ?_
  refine c_nil ?_
  refine c_condF (congrArg Value.bool (decide_eq_false hlt)) ?_
  refine wp_exit ?_
  exact ⟨rfl, _, e5, fr_ovl 236 ⟨rfl, rfl, rfl, rfl, rfl, trivial⟩, hC, hO, h0, h1, h2, l8⟩
 ·rintro k162 s160 o164 a b2 ⟨σ, e5, rfl, hC, hO, h0, h1, h2, l8⟩ hlt hw hs
  refine c_seq ?_
  refine c_sr ?_
  refine pl_val (.int .i64 k162) (y_move rfl) ?_
  refine pl_val (.int .i64 (to.length : Int)) (y_move rfl) ?_
  refine pl_val (.bool (decide (k162 < (to.length : Int)))) (y_lss rfl rfl) ?_
  refine c_nil ?_
  refine c_condT (congrArg Value.bool (decide_eq_true hlt)) ?_
  refine wp_skip ?_
  refine c_seq ?_
  refine wp_block ?_
  refine c_sr ?_
  refine pl_val (.int .i64 0) (y_assign rfl) ?_
  refine c_nil ?_
  obtain ⟨o207, y2, hs⟩ := bind_some hs
  refine wp_block ?_
  refine wp_forC (id := 2) 2 (I := fun k205 s203 a b1 => ∃ (σ : Nat → Value) (g1 : List Nat), a = fr 236 (ovl σ [(0, (.slice pa0 pn0 pc0)), (1, (.slice pa1 pn1 pc1)), (2, (.slice pa2 pn2 pc2)), (3, (.int .i64 most)), (10, (.int .i64 (to.length : Int))), (11, (.slice (some ⟨a0, 0, none⟩) 2 2)), (12, (.int .i64 k162)), (13, (.int .i64 k205))]) ∧ Chg [] w b1 ∧ Own (Nw w []) M b1 (g1 ++ []) ∧ (RT.rs (RT.int .i64)).val M b1 (.slice pa0 pn0 pc0) from_ ([]) ∧ (RT.rs RT.bool).val M b1 (.slice pa1 pn1 pc1) to ([]) ∧ (RT.rs (RT.rs (RT.rs RT.bool))).val M b1 (.slice pa2 pn2 pc2) may ([]) ∧ (RT.os 37 (RT.os 3 (RT.int .i64))).val M b1 (.slice (some ⟨a0, 0, none⟩) 2 2) s203 g1) (J := fun s203 a b1 => ∃ (σ : Nat → Value) (i6 : List Nat), a = fr 236 (ovl σ [(0, (.slice pa0 pn0 pc0)), (1, (.slice pa1 pn1 pc1)), (2, (.slice pa2 pn2 pc2)), (3, (.int .i64 most)), (10, (.int .i64 (to.length : Int))), (11, (.slice (some ⟨a0, 0, none⟩) 2 2)), (12, (.int .i64 k162))]) ∧ Chg [] w b1 ∧ Own (Nw w []) M b1 (i6 ++ []) ∧ (RT.rs (RT.int .i64)).val M b1 (.slice pa0 pn0 pc0) from_ ([]) ∧ (RT.rs RT.bool).val M b1 (.slice pa1 pn1 pc1) to ([]) ∧ (RT.rs (RT.rs (RT.rs RT.bool))).val M b1 (.slice pa2 pn2 pc2) may ([]) ∧ (RT.os 37 (RT.os 3 (RT.int .i64))).val M b1 (.slice (some ⟨a0, 0, none⟩) 2 2) s203 i6) (K := (k_spec_l17Chain M w)) ?_ ?_ 0 s160 o207 _ _ ?_ y2 ?_
  ·rintro k205 s203 a b1 ⟨σ, g1, rfl, hC, hO, h0, h1, h2, g2⟩ hlt
   refine c_seq ?_
   refine c_sr ?_
   refine pl_val (.int .i64 k205) (y_move rfl) ?_
   refine pl_val (.bool (decide (k205 < 2))) (y_lss rfl rfl) ?_
   refine c_nil ?_
   refine c_condF (congrArg Value.bool (decide_eq_false hlt)) ?_
   refine wp_exit ?_
   exact ⟨rfl, _, g1, fr_ovl 236 ⟨rfl, rfl, rfl, rfl, rfl, rfl, rfl, trivial⟩, hC, hO, h0, h1, h2, g2⟩
  ·rintro k205 s203 o207 a b1 ⟨σ, g1, rfl, hC, hO, h0, h1, h2, g2⟩ hlt hw hs
   refine c_seq ?_
   refine c_sr ?_
   refine pl_val (.int .i64 k205) (y_move rfl) ?_
   refine pl_val (.bool (decide (k205 < 2))) (y_lss rfl rfl) ?_
   refine c_nil ?_
   refine c_condT (congrArg Value.bool (decide_eq_true hlt)) ?_
   refine wp_skip ?_
   refine c_seq ?_
   refine wp_block ?_
   refine c_sr ?_
   refine pl_val (.slice (some ⟨a0, 0, none⟩) 2 2) (y_move rfl) ?_
   refine pl_val (.int .i64 k205) (y_move rfl) ?_
   obtain ⟨x211, l9, hs⟩ := bind_some hs
   obtain ⟨y3, X9, q6, Y0, y4, y5, y7⟩ := os_idx Sl47 Sz37 g2 l9
   have y8 := own_row (Frz.os Frz.int) y5 y7
   refine pl_val (.pointer (some ⟨y3, 0 + Int.toNat k205 * 1, none⟩)) (y4 _ _ _ _ _ _ _ _ _ rfl rfl) ?_
   obtain ⟨Y1, y9, hrow213, z0⟩ := at_load1 Ag37 Sz37 rfl rfl y8
   obtain ⟨q7, q8, q9, rfl⟩ := rs_sl z0
   refine pl_val (.slice q7 q8 q9) (y_load rfl (y9 _ (Chg.refl _ _))) ?_
   refine pl_val (.int .i64 k162) (y_move rfl) ?_
   obtain ⟨x215, z1, hs⟩ := bind_some hs
   obtain ⟨z2, z3, Y2, _, _⟩ := os_put q6 g2 l9 hrow213 rfl hO.inM
   obtain ⟨z4, Y3, z5, z6, z7, Y4, Y5⟩ := os_idx Sl37 Sz3 (show (RT.os 3 (RT.int .i64)).val M b1 (.slice q7 q8 q9) _ z2 from ⟨[_], rfl, z3⟩) z1
   refine pl_val (.pointer (some ⟨z4, 0 + Int.toNat k162 * 1, none⟩)) (z7 _ _ _ _ _ _ _ _ _ rfl rfl) ?_
   obtain ⟨r0, z8, z9, g3, i7, A0, e6⟩ := os_store2 (P := Try.prog) (c' := [(.int .i64 (-1))]) q6 g2 l9 hrow213 z5 z6 hO.inM ⟨rfl, rfl⟩
   refine pl_skip (w' := r0) (ys_store rfl rfl (z9 _ _ rfl Sz3)) ?_
   have h0 := h0.mt g3 hO i7
   have h1 := h1.mt g3 hO i7
   have h2 := h2.mt g3 hO i7
   have hC := hC.st g3 hO i7
   have hO := hO.grow g3 A0 (os_nodup e6) e6.fpl
   refine c_nil ?_
   refine c_sr ?_
   refine pl_val (.slice pa1 pn1 pc1) (y_move rfl) ?_
   refine pl_val (.int .i64 k162) (y_move rfl) ?_
   obtain ⟨x218, A1, hs⟩ := bind_some hs
   obtain ⟨A2, A3, A4, A5⟩ := rs_idx Sl56 Sz4 h1 A1
   refine pl_val (.pointer (some ⟨A2, A3, none⟩)) (A4 _ _ _ _ _ _ _ _ _ rfl rfl) ?_
   refine pl_val (.bool x218) (y_load rfl ((at_load_bool Ag4 Sz4 A5) _ (Chg.refl _ _))) ?_
   refine c_nil ?_
   rcases bif_some hs with ⟨m0, hs⟩ | ⟨m0, hs⟩
   ·refine c_condT (congrArg Value.bool m0) ?_
    refine c_region ?_
    refine pl_val (.slice (some ⟨a0, 0, none⟩) 2 2) (y_move rfl) ?_
    refine pl_val (.int .i64 k205) (y_move rfl) ?_
    obtain ⟨x221, m1, hs⟩ := bind_some hs
    obtain ⟨A6, Y6, r1, Y7, A7, A8, A9⟩ := os_idx Sl47 Sz37 e6 m1
    have B0 := own_row (Frz.os Frz.int) A8 A9
    refine pl_val (.pointer (some ⟨A6, 0 + Int.toNat k205 * 1, none⟩)) (A7 _ _ _ _ _ _ _ _ _ rfl rfl) ?_
    obtain ⟨Y8, B1, hrow223, B2⟩ := at_load1 Ag37 Sz37 rfl rfl B0
    obtain ⟨r2, r3, r4, rfl⟩ := rs_sl B2
    refine pl_val (.slice r2 r3 r4) (y_load rfl (B1 _ (Chg.refl _ _))) ?_
    refine pl_val (.int .i64 k162) (y_move rfl) ?_
    obtain ⟨x225, B3, hs⟩ := bind_some hs
    obtain ⟨B4, B5, Y9, _, _⟩ := os_put r1 e6 m1 hrow223 rfl hO.inM
    obtain ⟨B6, Z0, B7, B8, B9, Z1, Z2⟩ := os_idx Sl37 Sz3 (show (RT.os 3 (RT.int .i64)).val M r0 (.slice r2 r3 r4) _ B4 from ⟨[_], rfl, B5⟩) B3
    refine pl_val (.pointer (some ⟨B6, 0 + Int.toNat k162 * 1, none⟩)) (B9 _ _ _ _ _ _ _ _ _ rfl rfl) ?_
    obtain ⟨C0, C1, C2, g4, i9, C3, m2⟩ := os_store2 (P := Try.prog) (c' := [(.int .i64 0)]) r1 e6 m1 hrow223 B7 B8 hO.inM ⟨rfl, rfl⟩
    refine pl_skip (w' := C0) (ys_store rfl rfl (C2 _ _ rfl Sz3)) ?_
    have h0 := h0.mt g4 hO i9
    have h1 := h1.mt g4 hO i9
    have h2 := h2.mt g4 hO i9
    have hC := hC.st g4 hO i9
    have hO := hO.grow g4 C3 (os_nodup m2) m2.fpl
    refine c_nil ?_
    refine c_region ?_
    refine pl_val (.int .i64 k205) (y_move rfl) ?_
    refine pl_val (.int .i64 (w64 (k205 + 1))) (y_add rfl rfl) ?_
    refine pl_val (.int .i64 (w64 (k205 + 1))) (y_assign rfl) ?_
    refine c_nil ?_
    cases hs
    exact ⟨_, C1, fr_ovl 236 ⟨rfl, rfl, rfl, rfl, rfl, rfl, rfl, congrArg (Value.int .i64) hw, trivial⟩, hC, hO, h0, h1, h2, m2⟩
   refine c_condF (congrArg Value.bool m0) ?_
   refine wp_skip ?_
   refine c_region ?_
   refine pl_val (.int .i64 k205) (y_move rfl) ?_
   refine pl_val (.int .i64 (w64 (k205 + 1))) (y_add rfl rfl) ?_
   refine pl_val (.int .i64 (w64 (k205 + 1))) (y_assign rfl) ?_
   refine c_nil ?_
   cases hs
   exact ⟨_, z8, fr_ovl 236 ⟨rfl, rfl, rfl, rfl, rfl, rfl, rfl, congrArg (Value.int .i64) hw, trivial⟩, hC, hO, h0, h1, h2, e6⟩
  ·skip
   exact ⟨_, e5, fr_ovl 236 ⟨rfl, rfl, rfl, rfl, rfl, rfl, rfl, rfl, trivial⟩, hC, hO, h0, h1, h2, l8⟩
  cases o207 with
  | nx _ => exact True.intro
  | rt r_ =>
   have hs := after_rt hs
   intro a5 c6 hK
   cases hs
   exact hK
  | br s203 =>
   have hs := after_br hs
   rintro a5 b1 ⟨σ, i6, rfl, hC, hO, h0, h1, h2, C4⟩
   refine c_region ?_
   refine pl_val (.int .i64 k162) (y_move rfl) ?_
   refine pl_val (.int .i64 (w64 (k162 + 1))) (y_add rfl rfl) ?_
   refine pl_val (.int .i64 (w64 (k162 + 1))) (y_assign rfl) ?_
   refine c_nil ?_
   cases hs
   exact ⟨_, i6, fr_ovl 236 ⟨rfl, rfl, rfl, rfl, rfl, rfl, congrArg (Value.int .i64) hw, trivial⟩, hC, hO, h0, h1, h2, C4⟩
 ·skip
  exact ⟨_, (a0 :: ((h9) ++ ((i0) ++ ([])))), fr_ovl 236 ⟨rfl, rfl, rfl, rfl, rfl, rfl, rfl, trivial⟩, hC, hO, h0, h1, h2, y0⟩
 cases o164 with
 | nx _ => exact True.intro
 | rt r_ =>
  have hs := after_rt hs
  intro a5 c6 hK
  cases hs
  exact hK
 | br s160 =>
  have hs := after_br hs
  rintro a5 b2 ⟨σ, i5, rfl, hC, hO, h0, h1, h2, C5⟩
  refine c_seq ?_
  refine c_sr ?_
  refine pl_val (.int .i64 1) (y_assign rfl) ?_
  refine c_nil ?_
  obtain ⟨o2575, C6, hs⟩ := bind_some hs
  refine wp_block ?_
  refine wp_iter (id := 4) (I := fun s2571 a b9 => ∃ (σ : Nat → Value) (g5 : List Nat), a = fr 236 (ovl σ [(0, (.slice pa0 pn0 pc0)), (2, (.slice pa2 pn2 pc2)), (3, (.int .i64 most)), (10, (.int .i64 (to.length : Int))), (11, (.slice (some ⟨a0, 0, none⟩) 2 2)), (14, (.int .i64 s2571.1))]) ∧ Chg [] w b9 ∧ Own (Nw w []) M b9 (g5 ++ []) ∧ (RT.rs (RT.int .i64)).val M b9 (.slice pa0 pn0 pc0) from_ ([]) ∧ (RT.rs (RT.rs (RT.rs RT.bool))).val M b9 (.slice pa2 pn2 pc2) may ([]) ∧ (RT.os 37 (RT.os 3 (RT.int .i64))).val M b9 (.slice (some ⟨a0, 0, none⟩) 2 2) s2571.2 g5) (J := fun s2571 a b9 => ∃ (σ : Nat → Value) (a7 : List Nat), a = fr 236 (ovl σ [(0, (.slice pa0 pn0 pc0)), (2, (.slice pa2 pn2 pc2)), (11, (.slice (some ⟨a0, 0, none⟩) 2 2))]) ∧ Chg [] w b9 ∧ Own (Nw w []) M b9 (a7 ++ []) ∧ (RT.rs (RT.int .i64)).val M b9 (.slice pa0 pn0 pc0) from_ ([]) ∧ (RT.rs (RT.rs (RT.rs RT.bool))).val M b9 (.slice pa2 pn2 pc2) may ([]) ∧ (RT.os 37 (RT.os 3 (RT.int .i64))).val M b9 (.slice (some ⟨a0, 0, none⟩) 2 2) s2571.2 a7) (K := (k_spec_l17Chain M w)) ?_ FU (1, s160) o2575 _ _ ?_ C6 ?_
  ·rintro s2571 o2575 a b9 ⟨σ, g5, rfl, hC, hO, h0, h2, r5⟩ hs
   refine c_seq ?_
   refine c_sr ?_
   refine pl_val (.int .i64 s2571.1) (y_move rfl) ?_
   refine pl_val (.int .i64 most) (y_move rfl) ?_
   refine pl_val (.bool (decide (s2571.1 ≤ most))) (y_leq rfl rfl) ?_
   refine c_nil ?_
   rcases bif_some hs with ⟨m3, hs⟩ | ⟨m3, hs⟩
   ·refine c_condT (congrArg Value.bool m3) ?_
    refine wp_skip ?_
    refine c_seq ?_
    refine wp_block ?_
    refine c_sr ?_
    refine pl_val (.int .i64 0) (y_assign rfl) ?_
    refine c_nil ?_
    obtain ⟨o3359, C7, hs⟩ := bind_some hs
    refine wp_block ?_
    refine wp_forC (id := 6) (to.length : Int) (I := fun k3357 s3355 a b7 => ∃ (σ : Nat → Value) (e7 : List Nat), a = fr 236 (ovl σ [(0, (.slice pa0 pn0 pc0)), (2, (.slice pa2 pn2 pc2)), (3, (.int .i64 most)), (10, (.int .i64 (to.length : Int))), (11, (.slice (some ⟨a0, 0, none⟩) 2 2)), (14, (.int .i64 s2571.1)), (15, (.int .i64 k3357))]) ∧ Chg [] w b7 ∧ Own (Nw w []) M b7 (e7 ++ []) ∧ (RT.rs (RT.int .i64)).val M b7 (.slice pa0 pn0 pc0) from_ ([]) ∧ (RT.rs (RT.rs (RT.rs RT.bool))).val M b7 (.slice pa2 pn2 pc2) may ([]) ∧ (RT.os 37 (RT.os 3 (RT.int .i64))).val M b7 (.slice (some ⟨a0, 0, none⟩) 2 2) s3355 e7) (J := fun s3355 a b7 => ∃ (σ : Nat → Value) (j0 : List Nat), a = fr 236 (ovl σ [(0, (.slice pa0 pn0 pc0)), (2, (.slice pa2 pn2 pc2)), (3, (.int .i64 most)), (10, (.int .i64 (to.length : Int))), (11, (.slice (some ⟨a0, 0, none⟩) 2 2)), (14, (.int .i64 s2571.1))]) ∧ Chg [] w b7 ∧ Own (Nw w []) M b7 (j0 ++ []) ∧ (RT.rs (RT.int .i64)).val M b7 (.slice pa0 pn0 pc0) from_ ([]) ∧ (RT.rs (RT.rs (RT.rs RT.bool))).val M b7 (.slice pa2 pn2 pc2) may ([]) ∧ (RT.os 37 (RT.os 3 (RT.int .i64))).val M b7 (.slice (some ⟨a0, 0, none⟩) 2 2) s3355 j0) (K := (k_spec_l17Chain M w)) ?_ ?_ 0 s2571.2 o3359 _ _ ?_ C7 ?_
    ·rintro k3357 s3355 a b7 ⟨σ, e7, rfl, hC, hO, h0, h2, m4⟩ hlt
     refine c_seq ?_
     refine c_sr ?_
     refine pl_val (.int .i64 k3357) (y_move rfl) ?_
     refine pl_val (.int .i64 (to.length : Int)) (y_move rfl) ?_
     refine pl_val (.bool (decide (k3357 < (to.length : Int)))) (y_lss rfl rfl) ?_
     refine c_nil ?_
     refine c_condF (congrArg Value.bool (decide_eq_false hlt)) ?_
     refine wp_exit ?_
     exact ⟨rfl, _, e7, fr_ovl 236 ⟨rfl, rfl, rfl, rfl, rfl, rfl, trivial⟩, hC, hO, h0, h2, m4⟩
    ·rintro k3357 s3355 o3359 a b7 ⟨σ, e7, rfl, hC, hO, h0, h2, m4⟩ hlt hw hs
     refine c_seq ?_
     refine c_sr ?_
     refine pl_val (.int .i64 k3357) (y_move rfl) ?_
     refine pl_val (.int .i64 (to.length : Int)) (y_move rfl) ?_
     refine pl_val (.bool (decide (k3357 < (to.length : Int)))) (y_lss rfl rfl) ?_
     refine c_nil ?_
     refine c_condT (congrArg Value.bool (decide_eq_true hlt)) ?_
     refine wp_skip ?_
     refine c_seq ?_
     refine wp_block ?_
     refine c_sr ?_
     refine pl_val (.int .i64 0) (y_assign rfl) ?_
     refine c_nil ?_
     obtain ⟨o3620, C8, hs⟩ := bind_some hs
     refine wp_block ?_
     refine wp_forC (id := 8) 2 (I := fun k3618 s3616 a b8 => ∃ (σ : Nat → Value) (e8 : List Nat), a = fr 236 (ovl σ [(0, (.slice pa0 pn0 pc0)), (2, (.slice pa2 pn2 pc2)), (3, (.int .i64 most)), (10, (.int .i64 (to.length : Int))), (11, (.slice (some ⟨a0, 0, none⟩) 2 2)), (14, (.int .i64 s2571.1)), (15, (.int .i64 k3357)), (16, (.int .i64 k3618))]) ∧ Chg [] w b8 ∧ Own (Nw w []) M b8 (e8 ++ []) ∧ (RT.rs (RT.int .i64)).val M b8 (.slice pa0 pn0 pc0) from_ ([]) ∧ (RT.rs (RT.rs (RT.rs RT.bool))).val M b8 (.slice pa2 pn2 pc2) may ([]) ∧ (RT.os 37 (RT.os 3 (RT.int .i64))).val M b8 (.slice (some ⟨a0, 0, none⟩) 2 2) s3616 e8) (J := fun s3616 a b8 => ∃ (σ : Nat → Value) (j1 : List Nat), a = fr 236 (ovl σ [(0, (.slice pa0 pn0 pc0)), (2, (.slice pa2 pn2 pc2)), (3, (.int .i64 most)), (10, (.int .i64 (to.length : Int))), (11, (.slice (some ⟨a0, 0, none⟩) 2 2)), (14, (.int .i64 s2571.1)), (15, (.int .i64 k3357))]) ∧ Chg [] w b8 ∧ Own (Nw w []) M b8 (j1 ++ []) ∧ (RT.rs (RT.int .i64)).val M b8 (.slice pa0 pn0 pc0) from_ ([]) ∧ (RT.rs (RT.rs (RT.rs RT.bool))).val M b8 (.slice pa2 pn2 pc2) may ([]) ∧ (RT.os 37 (RT.os 3 (RT.int .i64))).val M b8 (.slice (some ⟨a0, 0, none⟩) 2 2) s3616 j1) (K := (k_spec_l17Chain M w)) ?_ ?_ 0 s3355 o3620 _ _ ?_ C8 ?_
     ·rintro k3618 s3616 a b8 ⟨σ, e8, rfl, hC, hO, h0, h2, m5⟩ hlt
      refine c_seq ?_
      refine c_sr ?_
      refine pl_val (.int .i64 k3618) (y_move rfl) ?_
      refine pl_val (.bool (decide (k3618 < 2))) (y_lss rfl rfl) ?_
      refine c_nil ?_
      refine c_condF (congrArg Value.bool (decide_eq_false hlt)) ?_
      refine wp_exit ?_
      exact ⟨rfl, _, e8, fr_ovl 236 ⟨rfl, rfl, rfl, rfl, rfl, rfl, rfl, trivial⟩, hC, hO, h0, h2, m5⟩
     ·rintro k3618 s3616 o3620 a b8 ⟨σ, e8, rfl, hC, hO, h0, h2, m5⟩ hlt hw hs
      refine c_seq ?_
      refine c_sr ?_
      refine pl_val (.int .i64 k3618) (y_move rfl) ?_
      refine pl_val (.bool (decide (k3618 < 2))) (y_lss rfl rfl) ?_
      refine c_nil ?_
      refine c_condT (congrArg Value.bool (decide_eq_true hlt)) ?_
      refine wp_skip ?_
      refine c_seq ?_
      refine wp_block ?_
      refine c_sr ?_
      refine pl_val (.int .i64 0) (y_assign rfl) ?_
      refine c_nil ?_
      obtain ⟨o3707, C9, hs⟩ := bind_some hs
      refine wp_block ?_
      refine wp_iter (id := 10) (I := fun s3703 a b3 => ∃ (σ : Nat → Value) (g6 : List Nat), a = fr 236 (ovl σ [(0, (.slice pa0 pn0 pc0)), (2, (.slice pa2 pn2 pc2)), (3, (.int .i64 most)), (10, (.int .i64 (to.length : Int))), (11, (.slice (some ⟨a0, 0, none⟩) 2 2)), (14, (.int .i64 s2571.1)), (15, (.int .i64 k3357)), (16, (.int .i64 k3618)), (17, (.int .i64 s3703.1))]) ∧ Chg [] w b3 ∧ Own (Nw w []) M b3 (g6 ++ []) ∧ (RT.rs (RT.int .i64)).val M b3 (.slice pa0 pn0 pc0) from_ ([]) ∧ (RT.rs (RT.rs (RT.rs RT.bool))).val M b3 (.slice pa2 pn2 pc2) may ([]) ∧ (RT.os 37 (RT.os 3 (RT.int .i64))).val M b3 (.slice (some ⟨a0, 0, none⟩) 2 2) s3703.2 g6) (J := fun s3703 a b3 => ∃ (σ : Nat → Value) (j2 : List Nat), a = fr 236 (ovl σ [(0, (.slice pa0 pn0 pc0)), (2, (.slice pa2 pn2 pc2)), (3, (.int .i64 most)), (10, (.int .i64 (to.length : Int))), (11, (.slice (some ⟨a0, 0, none⟩) 2 2)), (14, (.int .i64 s2571.1)), (15, (.int .i64 k3357)), (16, (.int .i64 k3618))]) ∧ Chg [] w b3 ∧ Own (Nw w []) M b3 (j2 ++ []) ∧ (RT.rs (RT.int .i64)).val M b3 (.slice pa0 pn0 pc0) from_ ([]) ∧ (RT.rs (RT.rs (RT.rs RT.bool))).val M b3 (.slice pa2 pn2 pc2) may ([]) ∧ (RT.os 37 (RT.os 3 (RT.int .i64))).val M b3 (.slice (some ⟨a0, 0, none⟩) 2 2) s3703.2 j2) (K := (k_spec_l17Chain M w)) ?_ FU (0, s3616) o3707 _ _ ?_ C9 ?_
      ·rintro s3703 o3707 a b3 ⟨σ, g6, rfl, hC, hO, h0, h2, c0⟩ hs
       refine c_seq ?_
       refine c_seq ?_
       obtain ⟨s3711, D0, hs⟩ := bind_some hs
       refine c_mid (I := fun a g7 => ∃ (σ : Nat → Value), a = fr 236 (ovl σ [(0, (.slice pa0 pn0 pc0)), (2, (.slice pa2 pn2 pc2)), (3, (.int .i64 most)), (10, (.int .i64 (to.length : Int))), (11, (.slice (some ⟨a0, 0, none⟩) 2 2)), (14, (.int .i64 s2571.1)), (15, (.int .i64 k3357)), (16, (.int .i64 k3618)), (17, (.int .i64 s3703.1)), (83, (.bool s3711))]) ∧ Chg [] b3 g7) ?_ ?_
       ·replace hs := D0
        have hMid := Chg.refl [] b3
        refine c_region ?_
        refine pl_val (.int .i64 s3703.1) (y_move rfl) ?_
        refine pl_val (.int .i64 (to.length : Int)) (y_move rfl) ?_
        refine pl_val (.bool (decide (s3703.1 < (to.length : Int)))) (y_lss rfl rfl) ?_
        refine pl_val (.bool (decide (s3703.1 < (to.length : Int)))) (y_move rfl) ?_
        rcases bif_some hs with ⟨a8, hs⟩ | ⟨a8, hs⟩
        ·skip
         refine pl_yes (.slice (some ⟨a0, 0, none⟩) 2 2) (tg := 74) (by kernel_rfl) (congrArg Value.bool a8) (y_move rfl) ?_
         refine pl_yes (.int .i64 k3618) (tg := 74) (by kernel_rfl) (congrArg Value.bool a8) (y_move rfl) ?_
         obtain ⟨x3715, r6, hs⟩ := bind_some hs
         obtain ⟨D1, Z3, D2, Z4, D3, D4, D5⟩ := os_idx Sl47 Sz37 c0 r6
         have D6 := own_row (Frz.os Frz.int) D4 D5
         refine pl_yes (.pointer (some ⟨D1, 0 + Int.toNat k3618 * 1, none⟩)) (tg := 74) (by kernel_rfl) (congrArg Value.bool a8) (D3 _ _ _ _ _ _ _ _ _ rfl rfl) ?_
         obtain ⟨Z5, D7, hrow3717, D8⟩ := at_load1 Ag37 Sz37 rfl rfl D6
         obtain ⟨r7, r8, r9, rfl⟩ := rs_sl D8
         refine pl_yes (.slice r7 r8 r9) (tg := 74) (by kernel_rfl) (congrArg Value.bool a8) (y_load rfl (D7 _ (Chg.refl _ _))) ?_
         refine pl_yes (.int .i64 k3357) (tg := 74) (by kernel_rfl) (congrArg Value.bool a8) (y_move rfl) ?_
         obtain ⟨x3719, D9, hs⟩ := bind_some hs
         obtain ⟨E0, E1, Z6, _, _⟩ := os_put D2 c0 r6 hrow3717 rfl hO.inM
         obtain ⟨E2, Z7, Z8, Z9, E3, E4, a10⟩ := os_idx Sl37 Sz3 (show (RT.os 3 (RT.int .i64)).val M b3 (.slice r7 r8 r9) _ E0 from ⟨[_], rfl, E1⟩) D9
         refine pl_yes (.pointer (some ⟨E2, 0 + Int.toNat k3357 * 1, none⟩)) (tg := 74) (by kernel_rfl) (congrArg Value.bool a8) (E3 _ _ _ _ _ _ _ _ _ rfl rfl) ?_
         refine pl_yes (.int .i64 x3719) (tg := 74) (by kernel_rfl) (congrArg Value.bool a8) (y_load rfl ((at_load_int Ag3 Sz3 E4) _ (Chg.refl _ _))) ?_
         refine pl_yes (.bool (decide (x3719 < 0))) (tg := 74) (by kernel_rfl) (congrArg Value.bool a8) (y_lss rfl rfl) ?_
         refine pl_val (.bool (decide (x3719 < 0))) (y_pick_t (congrArg Value.bool a8) rfl) ?_
         refine c_nil ?_
         cases hs
         exact ⟨_, fr_ovl 236 ⟨rfl, rfl, rfl, rfl, rfl, rfl, rfl, rfl, rfl, rfl, trivial⟩, hMid⟩
        refine pl_not (tg := 74) (by kernel_rfl) (congrArg Value.bool a8) ?_
        refine pl_not (tg := 74) (by kernel_rfl) (congrArg Value.bool a8) ?_
        refine pl_not (tg := 74) (by kernel_rfl) (congrArg Value.bool a8) ?_
        refine pl_not (tg := 74) (by kernel_rfl) (congrArg Value.bool a8) ?_
        refine pl_not (tg := 74) (by kernel_rfl) (congrArg Value.bool a8) ?_
        refine pl_not (tg := 74) (by kernel_rfl) (congrArg Value.bool a8) ?_
        refine pl_not (tg := 74) (by kernel_rfl) (congrArg Value.bool a8) ?_
        refine pl_not (tg := 74) (by kernel_rfl) (congrArg Value.bool a8) ?_
        refine pl_val (.bool false) (y_pick_f (congrArg Value.bool a8) rfl) ?_
        refine c_nil ?_
        cases hs
        exact ⟨_, fr_ovl 236 ⟨rfl, rfl, rfl, rfl, rfl, rfl, rfl, rfl, rfl, rfl, trivial⟩, hMid⟩
       rintro a5 g7 ⟨σ, rfl, g8⟩
       have h0 := h0.ext g8
       have h2 := h2.ext g8
       have c0 := c0.ext g8
       have hC := hC.ext g8
       have hO := hO.ext g8
       rcases bif_some hs with ⟨m6, hs⟩ | ⟨m6, hs⟩
       ·refine c_condT (congrArg Value.bool m6) ?_
        refine wp_skip ?_
        refine c_seq ?_
        refine wp_block ?_
        refine c_seq ?_
        obtain ⟨s3722, E5, hs⟩ := bind_some hs
        refine c_mid (I := fun a m7 => ∃ (σ : Nat → Value), a = fr 236 (ovl σ [(0, (.slice pa0 pn0 pc0)), (2, (.slice pa2 pn2 pc2)), (3, (.int .i64 most)), (10, (.int .i64 (to.length : Int))), (11, (.slice (some ⟨a0, 0, none⟩) 2 2)), (14, (.int .i64 s2571.1)), (15, (.int .i64 k3357)), (16, (.int .i64 k3618)), (17, (.int .i64 s3703.1)), (108, (.bool s3722))]) ∧ Chg [] g7 m7) ?_ ?_
        ·replace hs := E5
         have hMid := Chg.refl [] g7
         refine c_region ?_
         refine pl_val (.slice pa2 pn2 pc2) (y_move rfl) ?_
         refine pl_val (.int .i64 k3618) (y_move rfl) ?_
         obtain ⟨x3725, E6, hs⟩ := bind_some hs
         obtain ⟨E7, E8, E9, F0⟩ := rs_idx Sl111 Sz106 h2 E6
         refine pl_val (.pointer (some ⟨E7, E8, none⟩)) (E9 _ _ _ _ _ _ _ _ _ rfl rfl) ?_
         obtain ⟨a11, F1, s0⟩ := at_load Ag106 Sz106 (fun _ => rfl) F0
         obtain ⟨F2, F3, F4, rfl⟩ := rs_sl s0
         refine pl_val (.slice F2 F3 F4) (y_load rfl (F1 _ (Chg.refl _ _))) ?_
         refine pl_val (.int .i64 k3357) (y_move rfl) ?_
         obtain ⟨x3729, F5, hs⟩ := bind_some hs
         obtain ⟨F6, F7, F8, F9⟩ := rs_idx Sl106 Sz56 s0 F5
         refine pl_val (.pointer (some ⟨F6, F7, none⟩)) (F8 _ _ _ _ _ _ _ _ _ rfl rfl) ?_
         obtain ⟨a12, G0, s1⟩ := at_load Ag56 Sz56 (fun _ => rfl) F9
         obtain ⟨G1, G2, G3, rfl⟩ := rs_sl s1
         refine pl_val (.slice G1 G2 G3) (y_load rfl (G0 _ (Chg.refl _ _))) ?_
         refine pl_val (.int .i64 s3703.1) (y_move rfl) ?_
         obtain ⟨x3733, G4, hs⟩ := bind_some hs
         obtain ⟨G5, G6, G7, G8⟩ := rs_idx Sl56 Sz4 s1 G4
         refine pl_val (.pointer (some ⟨G5, G6, none⟩)) (G7 _ _ _ _ _ _ _ _ _ rfl rfl) ?_
         refine pl_val (.bool x3733) (y_load rfl ((at_load_bool Ag4 Sz4 G8) _ (Chg.refl _ _))) ?_
         refine pl_val (.bool x3733) (y_move rfl) ?_
         rcases bif_some hs with ⟨a3, hs⟩ | ⟨a3, hs⟩
         ·skip
          refine pl_yes (.slice (some ⟨a0, 0, none⟩) 2 2) (tg := 96) (by kernel_rfl) (congrArg Value.bool a3) (y_move rfl) ?_
          refine pl_yes (.int .i64 k3618) (tg := 96) (by kernel_rfl) (congrArg Value.bool a3) (y_move rfl) ?_
          refine pl_yes (.int .i64 (w64 (1 - k3618))) (tg := 96) (by kernel_rfl) (congrArg Value.bool a3) (y_sub rfl rfl) ?_
          obtain ⟨x3736, s2, hs⟩ := bind_some hs
          obtain ⟨G9, a13, H0, a14, H1, H2, H3⟩ := os_idx Sl47 Sz37 c0 s2
          have H4 := own_row (Frz.os Frz.int) H2 H3
          refine pl_yes (.pointer (some ⟨G9, 0 + Int.toNat (w64 (1 - k3618)) * 1, none⟩)) (tg := 96) (by kernel_rfl) (congrArg Value.bool a3) (H1 _ _ _ _ _ _ _ _ _ rfl rfl) ?_
          obtain ⟨a15, H5, hrow3738, H6⟩ := at_load1 Ag37 Sz37 rfl rfl H4
          obtain ⟨s3, s4, s5, rfl⟩ := rs_sl H6
          refine pl_yes (.slice s3 s4 s5) (tg := 96) (by kernel_rfl) (congrArg Value.bool a3) (y_load rfl (H5 _ (Chg.refl _ _))) ?_
          refine pl_yes (.int .i64 s3703.1) (tg := 96) (by kernel_rfl) (congrArg Value.bool a3) (y_move rfl) ?_
          obtain ⟨x3740, H7, hs⟩ := bind_some hs
          obtain ⟨H8, H9, a16, _, _⟩ := os_put H0 c0 s2 hrow3738 rfl hO.inM
          obtain ⟨I0, a17, a18, a19, I1, I2, a20⟩ := os_idx Sl37 Sz3 (show (RT.os 3 (RT.int .i64)).val M g7 (.slice s3 s4 s5) _ H8 from ⟨[_], rfl, H9⟩) H7
          refine pl_yes (.pointer (some ⟨I0, 0 + Int.toNat s3703.1 * 1, none⟩)) (tg := 96) (by kernel_rfl) (congrArg Value.bool a3) (I1 _ _ _ _ _ _ _ _ _ rfl rfl) ?_
          refine pl_yes (.int .i64 x3740) (tg := 96) (by kernel_rfl) (congrArg Value.bool a3) (y_load rfl ((at_load_int Ag3 Sz3 I2) _ (Chg.refl _ _))) ?_
          refine pl_yes (.int .i64 s2571.1) (tg := 96) (by kernel_rfl) (congrArg Value.bool a3) (y_move rfl) ?_
          refine pl_yes (.int .i64 (w64 (s2571.1 - 1))) (tg := 96) (by kernel_rfl) (congrArg Value.bool a3) (y_sub rfl rfl) ?_
          refine pl_yes (.bool (x3740 == (w64 (s2571.1 - 1)))) (tg := 96) (by kernel_rfl) (congrArg Value.bool a3) (y_eql rfl rfl) ?_
          refine pl_val (.bool (x3740 == (w64 (s2571.1 - 1)))) (y_pick_t (congrArg Value.bool a3) rfl) ?_
          refine c_nil ?_
          cases hs
          exact ⟨_, fr_ovl 236 ⟨rfl, rfl, rfl, rfl, rfl, rfl, rfl, rfl, rfl, rfl, trivial⟩, hMid⟩
         refine pl_not (tg := 96) (by kernel_rfl) (congrArg Value.bool a3) ?_
         refine pl_not (tg := 96) (by kernel_rfl) (congrArg Value.bool a3) ?_
         refine pl_not (tg := 96) (by kernel_rfl) (congrArg Value.bool a3) ?_
         refine pl_not (tg := 96) (by kernel_rfl) (congrArg Value.bool a3) ?_
         refine pl_not (tg := 96) (by kernel_rfl) (congrArg Value.bool a3) ?_
         refine pl_not (tg := 96) (by kernel_rfl) (congrArg Value.bool a3) ?_
         refine pl_not (tg := 96) (by kernel_rfl) (congrArg Value.bool a3) ?_
         refine pl_not (tg := 96) (by kernel_rfl) (congrArg Value.bool a3) ?_
         refine pl_not (tg := 96) (by kernel_rfl) (congrArg Value.bool a3) ?_
         refine pl_not (tg := 96) (by kernel_rfl) (congrArg Value.bool a3) ?_
         refine pl_not (tg := 96) (by kernel_rfl) (congrArg Value.bool a3) ?_
         refine pl_val (.bool false) (y_pick_f (congrArg Value.bool a3) rfl) ?_
         refine c_nil ?_
         cases hs
         exact ⟨_, fr_ovl 236 ⟨rfl, rfl, rfl, rfl, rfl, rfl, rfl, rfl, rfl, rfl, trivial⟩, hMid⟩
        rintro a5 m7 ⟨σ, rfl, g9⟩
        have h0 := h0.ext g9
        have h2 := h2.ext g9
        have c0 := c0.ext g9
        have hC := hC.ext g9
        have hO := hO.ext g9
        rcases bif_some hs with ⟨m8, hs⟩ | ⟨m8, hs⟩
        ·refine c_condT (congrArg Value.bool m8) ?_
         refine c_region ?_
         refine pl_val (.slice (some ⟨a0, 0, none⟩) 2 2) (y_move rfl) ?_
         refine pl_val (.int .i64 k3618) (y_move rfl) ?_
         obtain ⟨x3743, m9, hs⟩ := bind_some hs
         obtain ⟨I3, a21, s6, a22, I4, I5, I6⟩ := os_idx Sl47 Sz37 c0 m9
         have I7 := own_row (Frz.os Frz.int) I5 I6
         refine pl_val (.pointer (some ⟨I3, 0 + Int.toNat k3618 * 1, none⟩)) (I4 _ _ _ _ _ _ _ _ _ rfl rfl) ?_
         obtain ⟨a23, I8, hrow3745, I9⟩ := at_load1 Ag37 Sz37 rfl rfl I7
         obtain ⟨s7, s8, s9, rfl⟩ := rs_sl I9
         refine pl_val (.slice s7 s8 s9) (y_load rfl (I8 _ (Chg.refl _ _))) ?_
         refine pl_val (.int .i64 k3357) (y_move rfl) ?_
         refine pl_val (.int .i64 s2571.1) (y_move rfl) ?_
         obtain ⟨x3747, J0, hs⟩ := bind_some hs
         obtain ⟨J1, J2, a24, _, _⟩ := os_put s6 c0 m9 hrow3745 rfl hO.inM
         obtain ⟨J3, a25, J4, J5, J6, a26, a27⟩ := os_idx Sl37 Sz3 (show (RT.os 3 (RT.int .i64)).val M m7 (.slice s7 s8 s9) _ J1 from ⟨[_], rfl, J2⟩) J0
         refine pl_val (.pointer (some ⟨J3, 0 + Int.toNat k3357 * 1, none⟩)) (J6 _ _ _ _ _ _ _ _ _ rfl rfl) ?_
         obtain ⟨J7, J8, J9, j3, n0, K0, n1⟩ := os_store2 (P := Try.prog) (c' := [(.int .i64 s2571.1)]) s6 c0 m9 hrow3745 J4 J5 hO.inM ⟨rfl, rfl⟩
         refine pl_skip (w' := J7) (ys_store rfl rfl (J9 _ _ rfl Sz3)) ?_
         have h0 := h0.mt j3 hO n0
         have h2 := h2.mt j3 hO n0
         have hC := hC.st j3 hO n0
         have hO := hO.grow j3 K0 (os_nodup n1) n1.fpl
         refine c_nil ?_
         refine c_region ?_
         refine pl_val (.int .i64 s3703.1) (y_move rfl) ?_
         refine pl_val (.int .i64 (w64 (s3703.1 + 1))) (y_add rfl rfl) ?_
         refine pl_val (.int .i64 (w64 (s3703.1 + 1))) (y_assign rfl) ?_
         refine c_nil ?_
         cases hs
         exact ⟨_, J8, fr_ovl 236 ⟨rfl, rfl, rfl, rfl, rfl, rfl, rfl, rfl, rfl, trivial⟩, hC, hO, h0, h2, n1⟩
        refine c_condF (congrArg Value.bool m8) ?_
        refine wp_skip ?_
        refine c_region ?_
        refine pl_val (.int .i64 s3703.1) (y_move rfl) ?_
        refine pl_val (.int .i64 (w64 (s3703.1 + 1))) (y_add rfl rfl) ?_
        refine pl_val (.int .i64 (w64 (s3703.1 + 1))) (y_assign rfl) ?_
        refine c_nil ?_
        cases hs
        exact ⟨_, g6, fr_ovl 236 ⟨rfl, rfl, rfl, rfl, rfl, rfl, rfl, rfl, rfl, trivial⟩, hC, hO, h0, h2, c0⟩
       refine c_condF (congrArg Value.bool m6) ?_
       refine wp_exit ?_
       cases hs
       exact ⟨rfl, _, g6, fr_ovl 236 ⟨rfl, rfl, rfl, rfl, rfl, rfl, rfl, rfl, trivial⟩, hC, hO, h0, h2, c0⟩
      ·skip
       exact ⟨_, e8, fr_ovl 236 ⟨rfl, rfl, rfl, rfl, rfl, rfl, rfl, rfl, rfl, trivial⟩, hC, hO, h0, h2, m5⟩
      cases o3707 with
      | nx _ => exact True.intro
      | rt r_ =>
       have hs := after_rt hs
       intro a5 c6 hK
       cases hs
       exact hK
      | br s3703 =>
       have hs := after_br hs
       rintro a5 b3 ⟨σ, j2, rfl, hC, hO, h0, h2, K1⟩
       refine c_region ?_
       refine pl_val (.int .i64 k3618) (y_move rfl) ?_
       refine pl_val (.int .i64 (w64 (k3618 + 1))) (y_add rfl rfl) ?_
       refine pl_val (.int .i64 (w64 (k3618 + 1))) (y_assign rfl) ?_
       refine c_nil ?_
       cases hs
       exact ⟨_, j2, fr_ovl 236 ⟨rfl, rfl, rfl, rfl, rfl, rfl, rfl, congrArg (Value.int .i64) hw, trivial⟩, hC, hO, h0, h2, K1⟩
     ·skip
      exact ⟨_, e7, fr_ovl 236 ⟨rfl, rfl, rfl, rfl, rfl, rfl, rfl, rfl, trivial⟩, hC, hO, h0, h2, m4⟩
     cases o3620 with
     | nx _ => exact True.intro
     | rt r_ =>
      have hs := after_rt hs
      intro a5 c6 hK
      cases hs
      exact hK
     | br s3616 =>
      have hs := after_br hs
      rintro a5 b8 ⟨σ, j1, rfl, hC, hO, h0, h2, K2⟩
      refine c_region ?_
      refine pl_val (.int .i64 k3357) (y_move rfl) ?_
      refine pl_val (.int .i64 (w64 (k3357 + 1))) (y_add rfl rfl) ?_
      refine pl_val (.int .i64 (w64 (k3357 + 1))) (y_assign rfl) ?_
      refine c_nil ?_
      cases hs
      exact ⟨_, j1, fr_ovl 236 ⟨rfl, rfl, rfl, rfl, rfl, rfl, congrArg (Value.int .i64) hw, trivial⟩, hC, hO, h0, h2, K2⟩
    ·skip
     exact ⟨_, g5, fr_ovl 236 ⟨rfl, rfl, rfl, rfl, rfl, rfl, rfl, trivial⟩, hC, hO, h0, h2, r5⟩
    cases o3359 with
    | nx _ => exact True.intro
    | rt r_ =>
     have hs := after_rt hs
     intro a5 c6 hK
     cases hs
     exact hK
    | br s3355 =>
     have hs := after_br hs
     rintro a5 b7 ⟨σ, j0, rfl, hC, hO, h0, h2, K3⟩
     refine c_region ?_
     refine pl_val (.int .i64 s2571.1) (y_move rfl) ?_
     refine pl_val (.int .i64 (w64 (s2571.1 + 1))) (y_add rfl rfl) ?_
     refine pl_val (.int .i64 (w64 (s2571.1 + 1))) (y_assign rfl) ?_
     refine c_nil ?_
     cases hs
     exact ⟨_, j0, fr_ovl 236 ⟨rfl, rfl, rfl, rfl, rfl, rfl, trivial⟩, hC, hO, h0, h2, K3⟩
   refine c_condF (congrArg Value.bool m3) ?_
   refine wp_exit ?_
   cases hs
   exact ⟨rfl, _, g5, fr_ovl 236 ⟨rfl, rfl, rfl, trivial⟩, hC, hO, h0, h2, r5⟩
  ·skip
   exact ⟨_, i5, fr_ovl 236 ⟨rfl, rfl, rfl, rfl, rfl, rfl, trivial⟩, hC, hO, h0, h2, C5⟩
  cases o2575 with
  | nx _ => exact True.intro
  | rt r_ =>
   have hs := after_rt hs
   intro a5 c6 hK
   cases hs
   exact hK
  | br s2571 =>
   have hs := after_br hs
   rintro a5 b9 ⟨σ, a7, rfl, hC, hO, h0, h2, a1⟩
   refine c_sr ?_
   refine pl_val (.int .i64 (-1)) (y_assign rfl) ?_
   refine c_nil ?_
   refine c_seq ?_
   refine c_sr ?_
   refine pl_val (.int .i64 0) (y_assign rfl) ?_
   refine c_nil ?_
   obtain ⟨o3778, K4, hs⟩ := bind_some hs
   refine wp_block ?_
   refine wp_forC (id := 12) (from_.length : Int) (I := fun k3776 s3774 a a9 => ∃ (σ : Nat → Value), a = fr 236 (ovl σ [(0, (.slice pa0 pn0 pc0)), (2, (.slice pa2 pn2 pc2)), (11, (.slice (some ⟨a0, 0, none⟩) 2 2)), (18, (.int .i64 s3774)), (19, (.int .i64 k3776))]) ∧ Chg [] w a9 ∧ Own (Nw w []) M a9 (a7 ++ []) ∧ (RT.rs (RT.int .i64)).val M a9 (.slice pa0 pn0 pc0) from_ ([]) ∧ (RT.rs (RT.rs (RT.rs RT.bool))).val M a9 (.slice pa2 pn2 pc2) may ([]) ∧ (RT.os 37 (RT.os 3 (RT.int .i64))).val M a9 (.slice (some ⟨a0, 0, none⟩) 2 2) s2571.2 a7) (J := fun s3774 a a9 => ∃ (σ : Nat → Value), a = fr 236 (ovl σ [(0, (.slice pa0 pn0 pc0)), (2, (.slice pa2 pn2 pc2)), (11, (.slice (some ⟨a0, 0, none⟩) 2 2)), (18, (.int .i64 s3774))]) ∧ Chg [] w a9 ∧ Own (Nw w []) M a9 (a7 ++ []) ∧ (RT.rs (RT.int .i64)).val M a9 (.slice pa0 pn0 pc0) from_ ([]) ∧ (RT.rs (RT.rs (RT.rs RT.bool))).val M a9 (.slice pa2 pn2 pc2) may ([]) ∧ (RT.os 37 (RT.os 3 (RT.int .i64))).val M a9 (.slice (some ⟨a0, 0, none⟩) 2 2) s2571.2 a7) (K := (k_spec_l17Chain M w)) ?_ ?_ 0 (-1) o3778 _ _ ?_ K4 ?_
   ·rintro k3776 s3774 a a9 ⟨σ, rfl, hC, hO, h0, h2, a1⟩ hlt
    refine c_seq ?_
    refine c_sr ?_
    refine pl_val (.int .i64 k3776) (y_move rfl) ?_
    refine pl_val (.slice pa0 pn0 pc0) (y_move rfl) ?_
    refine pl_val (.int .i64 (from_.length : Int)) (y_len' Sl37 (rs_len h0) rfl) ?_
    refine pl_val (.bool (decide (k3776 < (from_.length : Int)))) (y_lss rfl rfl) ?_
    refine c_nil ?_
    refine c_condF (congrArg Value.bool (decide_eq_false hlt)) ?_
    refine wp_exit ?_
    exact ⟨rfl, _, fr_ovl 236 ⟨rfl, rfl, rfl, rfl, trivial⟩, hC, hO, h0, h2, a1⟩
   ·rintro k3776 s3774 o3778 a a9 ⟨σ, rfl, hC, hO, h0, h2, a1⟩ hlt hw hs
    refine c_seq ?_
    refine c_sr ?_
    refine pl_val (.int .i64 k3776) (y_move rfl) ?_
    refine pl_val (.slice pa0 pn0 pc0) (y_move rfl) ?_
    refine pl_val (.int .i64 (from_.length : Int)) (y_len' Sl37 (rs_len h0) rfl) ?_
    refine pl_val (.bool (decide (k3776 < (from_.length : Int)))) (y_lss rfl rfl) ?_
    refine c_nil ?_
    refine c_condT (congrArg Value.bool (decide_eq_true hlt)) ?_
    refine wp_skip ?_
    refine c_seq ?_
    refine wp_block ?_
    refine c_seq ?_
    refine x_start [] Mx rfl ?_
    have e9 := Chg.drew a9
    generalize World.drew a9 = j4 at e9 ⊢
    have h0 := h0.ext e9
    have h2 := h2.ext e9
    have a1 := a1.ext e9
    have hC := hC.ext e9
    have hO := hO.ext e9
    have hS := Chg.refl [] j4
    refine x_p 0 (.slice (some ⟨a0, 0, none⟩) 2 2) rfl (by kernel_rfl)  (fun _ => y_move rfl) (fun _ => hS) ?_
    obtain ⟨x3790, t0, hs⟩ := bind_some hs
    obtain ⟨K5, a28, K6, a29, K7, K8, K9⟩ := os_idx Sl47 Sz37 a1 t0
    have L0 := own_row (Frz.os Frz.int) K8 K9
    refine x_p 1 (.pointer (some ⟨K5, 0 + Int.toNat 0 * 1, none⟩)) rfl (by kernel_rfl)  (fun _ => K7 _ _ _ _ _ _ _ _ _ rfl rfl) (fun _ => hS) ?_
    obtain ⟨a30, L1, hrow3792, L2⟩ := at_load1 Ag37 Sz37 rfl rfl L0
    obtain ⟨t1, t2, t3, rfl⟩ := rs_sl L2
    refine x_l 2 (.slice t1 t2 t3) rfl (by kernel_rfl)  (fun w' hw' => y_load rfl (L1 w' hw')) hS ?_
    refine x_p 3 (.slice pa0 pn0 pc0) rfl (by kernel_rfl)  (fun _ => y_move rfl) (fun _ => hS) ?_
    refine x_p 4 (.int .i64 k3776) rfl (by kernel_rfl)  (fun _ => y_move rfl) (fun _ => hS) ?_
    obtain ⟨x3794, L3, hs⟩ := bind_some hs
    obtain ⟨L4, L5, L6, L7⟩ := rs_idx Sl37 Sz3 h0 L3
    refine x_p 5 (.pointer (some ⟨L4, L5, none⟩)) rfl (by kernel_rfl)  (fun _ => L6 _ _ _ _ _ _ _ _ _ rfl rfl) (fun _ => hS) ?_
    refine x_l 6 (.int .i64 x3794) rfl (by kernel_rfl)  (fun w' hw' => y_load rfl ((at_load_int Ag3 Sz3 L7) w' hw')) hS ?_
    obtain ⟨x3796, L8, hs⟩ := bind_some hs
    obtain ⟨L9, M0, a31, _, _⟩ := os_put K6 a1 t0 hrow3792 rfl hO.inM
    obtain ⟨M1, a32, a33, a34, M2, M3, a35⟩ := os_idx Sl37 Sz3 (show (RT.os 3 (RT.int .i64)).val M j4 (.slice t1 t2 t3) _ L9 from ⟨[_], rfl, M0⟩) L8
    refine x_p 7 (.pointer (some ⟨M1, 0 + Int.toNat x3794 * 1, none⟩)) rfl (by kernel_rfl)  (fun _ => M2 _ _ _ _ _ _ _ _ _ rfl rfl) (fun _ => hS) ?_
    refine x_l 8 (.int .i64 x3796) rfl (by kernel_rfl)  (fun w' hw' => y_load rfl ((at_load_int Ag3 Sz3 M3) w' hw')) hS ?_
    refine x_p 9 (.int .i64 x3796) rfl (by kernel_rfl)  (fun _ => y_assign rfl) (fun _ => hS) ?_
    refine x_end (by kernel_rfl) ?_
    clear hS
    refine c_seq ?_
    refine c_mid (I := fun a t4 => ∃ (σ : Nat → Value), a = fr 236 (ovl σ [(0, (.slice pa0 pn0 pc0)), (2, (.slice pa2 pn2 pc2)), (11, (.slice (some ⟨a0, 0, none⟩) 2 2)), (18, (.int .i64 s3774)), (19, (.int .i64 k3776)), (20, (.int .i64 x3796)), (141, (.bool ((decide (0 ≤ x3796)) && ((decide (s3774 < 0)) || (decide (x3796 < s3774))))))]) ∧ Chg [] j4 t4) ?_ ?_
    ·have hMid := Chg.refl [] j4
     refine c_region ?_
     refine pl_val (.int .i64 x3796) (y_move rfl) ?_
     refine pl_val (.bool (decide (0 ≤ x3796))) (y_geq rfl rfl) ?_
     refine pl_val (.bool (decide (0 ≤ x3796))) (y_move rfl) ?_
     rcases Bool.eq_false_or_eq_true ((decide (0 ≤ x3796))) with b4 | b4
     ·skip
      refine pl_yes (.int .i64 s3774) (tg := 133) (by kernel_rfl) (congrArg Value.bool b4) (y_move rfl) ?_
      refine pl_yes (.bool (decide (s3774 < 0))) (tg := 133) (by kernel_rfl) (congrArg Value.bool b4) (y_lss rfl rfl) ?_
      refine pl_yes (.bool (decide (s3774 < 0))) (tg := 133) (by kernel_rfl) (congrArg Value.bool b4) (y_move rfl) ?_
      rcases Bool.eq_false_or_eq_true ((decide (s3774 < 0))) with c5 | c5
      ·skip
       refine pl_not (tg := 136) (by kernel_rfl) (congrArg Value.bool c5) ?_
       refine pl_not (tg := 136) (by kernel_rfl) (congrArg Value.bool c5) ?_
       refine pl_not (tg := 136) (by kernel_rfl) (congrArg Value.bool c5) ?_
       refine pl_yes (.bool ((decide (s3774 < 0)) || (decide (x3796 < s3774)))) (tg := 133) (by kernel_rfl) (congrArg Value.bool b4) (y_pick_t (congrArg Value.bool c5) (congrArg Value.bool (by rw [c5]; rfl))) ?_
       refine pl_val (.bool ((decide (0 ≤ x3796)) && ((decide (s3774 < 0)) || (decide (x3796 < s3774))))) (y_pick_t (congrArg Value.bool b4) (congrArg Value.bool (by rw [b4]; rfl))) ?_
       refine c_nil ?_
       exact ⟨_, fr_ovl 236 ⟨rfl, rfl, rfl, rfl, rfl, rfl, rfl, trivial⟩, hMid⟩
      refine pl_yes (.int .i64 x3796) (tg := 136) (by kernel_rfl) (congrArg Value.bool c5) (y_move rfl) ?_
      refine pl_yes (.int .i64 s3774) (tg := 136) (by kernel_rfl) (congrArg Value.bool c5) (y_move rfl) ?_
      refine pl_yes (.bool (decide (x3796 < s3774))) (tg := 136) (by kernel_rfl) (congrArg Value.bool c5) (y_lss rfl rfl) ?_
      refine pl_yes (.bool ((decide (s3774 < 0)) || (decide (x3796 < s3774)))) (tg := 133) (by kernel_rfl) (congrArg Value.bool b4) (y_pick_f (congrArg Value.bool c5) (congrArg Value.bool (by rw [c5]; rfl))) ?_
      refine pl_val (.bool ((decide (0 ≤ x3796)) && ((decide (s3774 < 0)) || (decide (x3796 < s3774))))) (y_pick_t (congrArg Value.bool b4) (congrArg Value.bool (by rw [b4]; rfl))) ?_
      refine c_nil ?_
      exact ⟨_, fr_ovl 236 ⟨rfl, rfl, rfl, rfl, rfl, rfl, rfl, trivial⟩, hMid⟩
     refine pl_not (tg := 133) (by kernel_rfl) (congrArg Value.bool b4) ?_
     refine pl_not (tg := 133) (by kernel_rfl) (congrArg Value.bool b4) ?_
     refine pl_not (tg := 133) (by kernel_rfl) (congrArg Value.bool b4) ?_
     refine pl_nou (tg := 136) (by kernel_rfl) rfl ?_
     refine pl_nou (tg := 136) (by kernel_rfl) rfl ?_
     refine pl_nou (tg := 136) (by kernel_rfl) rfl ?_
     refine pl_not (tg := 133) (by kernel_rfl) (congrArg Value.bool b4) ?_
     refine pl_val (.bool ((decide (0 ≤ x3796)) && ((decide (s3774 < 0)) || (decide (x3796 < s3774))))) (y_pick_f (congrArg Value.bool b4) (congrArg Value.bool (by rw [b4]; rfl))) ?_
     refine c_nil ?_
     exact ⟨_, fr_ovl 236 ⟨rfl, rfl, rfl, rfl, rfl, rfl, rfl, trivial⟩, hMid⟩
    rintro a5 t4 ⟨σ, rfl, h3⟩
    have h0 := h0.ext h3
    have h2 := h2.ext h3
    have a1 := a1.ext h3
    have hC := hC.ext h3
    have hO := hO.ext h3
    rcases bif_some hs with ⟨n2, hs⟩ | ⟨n2, hs⟩
    ·refine c_condT (congrArg Value.bool n2) ?_
     refine c_region ?_
     refine pl_val (.int .i64 x3796) (y_move rfl) ?_
     refine pl_val (.int .i64 x3796) (y_assign rfl) ?_
     refine c_nil ?_
     refine c_region ?_
     refine pl_val (.int .i64 k3776) (y_move rfl) ?_
     refine pl_val (.int .i64 (w64 (k3776 + 1))) (y_add rfl rfl) ?_
     refine pl_val (.int .i64 (w64 (k3776 + 1))) (y_assign rfl) ?_
     refine c_nil ?_
     cases hs
     exact ⟨_, fr_ovl 236 ⟨rfl, rfl, rfl, rfl, congrArg (Value.int .i64) hw, trivial⟩, hC, hO, h0, h2, a1⟩
    refine c_condF (congrArg Value.bool n2) ?_
    refine wp_skip ?_
    refine c_region ?_
    refine pl_val (.int .i64 k3776) (y_move rfl) ?_
    refine pl_val (.int .i64 (w64 (k3776 + 1))) (y_add rfl rfl) ?_
    refine pl_val (.int .i64 (w64 (k3776 + 1))) (y_assign rfl) ?_
    refine c_nil ?_
    cases hs
    exact ⟨_, fr_ovl 236 ⟨rfl, rfl, rfl, rfl, congrArg (Value.int .i64) hw, trivial⟩, hC, hO, h0, h2, a1⟩
   ·skip
    exact ⟨_, fr_ovl 236 ⟨rfl, rfl, rfl, rfl, rfl, trivial⟩, hC, hO, h0, h2, a1⟩
   cases o3778 with
   | nx _ => exact True.intro
   | rt r_ =>
    have hs := after_rt hs
    intro a5 c6 hK
    cases hs
    exact hK
   | br s3774 =>
    have hs := after_br hs
    rintro a5 a9 ⟨σ, rfl, hC, hO, h0, h2, a1⟩
    refine c_seq ?_
    refine c_sr ?_
    refine pl_val (.int .i64 s3774) (y_move rfl) ?_
    refine pl_val (.bool (decide (s3774 < 0))) (y_lss rfl rfl) ?_
    refine c_nil ?_
    rcases bif_some hs with ⟨n3, hs⟩ | ⟨n3, hs⟩
    ·refine c_condT (congrArg Value.bool n3) ?_
     refine c_sr ?_
     obtain ⟨t5, f0, M4, t6, h4, t7⟩ := new_block a9 [] 3
     refine pl_val (w' := t5) (.slice (some ⟨f0, 0, none⟩) 0 0) (y_bslice rfl (by rw [M4, t6]; kernel_rfl)) ?_
     have h0 := h0.ext h4
     have h2 := h2.ext h4
     have a1 := a1.ext h4
     have hC := hC.ext h4
     have hO := hO.new1 h4 t6 t7.lt
     have n4 := os_of_box (r := (RT.int .i64)) (M := M) (css := []) (fps := []) (xs := ([] : List Int)) t7 trivial (Nat.zero_le _) (List.nodup_cons.2 ⟨(fun h => nomatch h), List.nodup_nil⟩)
     have n4 : (RT.os 3 (RT.int .i64)).val M t5 (.slice (some ⟨f0, 0, none⟩) 0 0) [] [f0] := n4
     refine pl_val (.slice (some ⟨f0, 0, none⟩) 0 0) (y_assign rfl) ?_
     refine pl_val (.bool false) (y_assign rfl) ?_
     refine c_nil ?_
     refine wp_ret ?_
     cases hs
     have hO := hO.fr1
     have hO := hO.drop
     exact ⟨_, (some ⟨f0, 0, none⟩), 0, 0, ([f0]), fr_ovl 236 ⟨rfl, rfl, trivial⟩, hC, n4, hO.top⟩
    refine c_condF (congrArg Value.bool n3) ?_
    refine wp_skip ?_
    refine c_sr ?_
    obtain ⟨t8, f1, M5, t9, h5, u0⟩ := new_block a9 [] 3
    refine pl_val (w' := t8) (.slice (some ⟨f1, 0, none⟩) 0 0) (y_bslice rfl (by rw [M5, t9]; kernel_rfl)) ?_
    have h0 := h0.ext h5
    have h2 := h2.ext h5
    have a1 := a1.ext h5
    have hC := hC.ext h5
    have hO := hO.new1 h5 t9 u0.lt
    have n5 := os_of_box (r := (RT.int .i64)) (M := M) (css := []) (fps := []) (xs := ([] : List Int)) u0 trivial (Nat.zero_le _) (List.nodup_cons.2 ⟨(fun h => nomatch h), List.nodup_nil⟩)
    have n5 : (RT.os 3 (RT.int .i64)).val M t8 (.slice (some ⟨f1, 0, none⟩) 0 0) [] [f1] := n5
    refine pl_val (.slice (some ⟨f1, 0, none⟩) 0 0) (y_assign rfl) ?_
    refine c_nil ?_
    refine c_seq ?_
    refine c_sr ?_
    refine pl_val (.int .i64 0) (y_assign rfl) ?_
    refine c_nil ?_
    obtain ⟨o3836, M6, hs⟩ := bind_some hs
    refine wp_block ?_
    refine wp_forC (id := 14) (from_.length : Int) (I := fun k3834 s3832 a a6 => ∃ (σ : Nat → Value) (c9 : Option Addr) (d0 : Nat) (d1 : Nat) (f2 : List Nat), a = fr 236 (ovl σ [(0, (.slice pa0 pn0 pc0)), (2, (.slice pa2 pn2 pc2)), (11, (.slice (some ⟨a0, 0, none⟩) 2 2)), (18, (.int .i64 s3774)), (21, (.slice c9 d0 d1)), (22, (.int .i64 k3834))]) ∧ Chg [] w a6 ∧ Own (Nw w []) M a6 (f2 ++ (a7 ++ [])) ∧ (RT.rs (RT.int .i64)).val M a6 (.slice pa0 pn0 pc0) from_ ([]) ∧ (RT.rs (RT.rs (RT.rs RT.bool))).val M a6 (.slice pa2 pn2 pc2) may ([]) ∧ (RT.os 37 (RT.os 3 (RT.int .i64))).val M a6 (.slice (some ⟨a0, 0, none⟩) 2 2) s2571.2 a7 ∧ (RT.os 3 (RT.int .i64)).val M a6 (.slice c9 d0 d1) s3832 f2) (J := fun s3832 a a6 => ∃ (σ : Nat → Value) (j5 : Option Addr) (j6 : Nat) (j7 : Nat) (j8 : List Nat), a = fr 236 (ovl σ [(2, (.slice pa2 pn2 pc2)), (11, (.slice (some ⟨a0, 0, none⟩) 2 2)), (21, (.slice j5 j6 j7))]) ∧ Chg [] w a6 ∧ Own (Nw w []) M a6 (j8 ++ (a7 ++ [])) ∧ (RT.rs (RT.int .i64)).val M a6 (.slice pa0 pn0 pc0) from_ ([]) ∧ (RT.rs (RT.rs (RT.rs RT.bool))).val M a6 (.slice pa2 pn2 pc2) may ([]) ∧ (RT.os 37 (RT.os 3 (RT.int .i64))).val M a6 (.slice (some ⟨a0, 0, none⟩) 2 2) s2571.2 a7 ∧ (RT.os 3 (RT.int .i64)).val M a6 (.slice j5 j6 j7) s3832 j8) (K := (k_spec_l17Chain M w)) ?_ ?_ 0 ([]) o3836 _ _ ?_ M6 ?_
    ·rintro k3834 s3832 a a6 ⟨σ, c9, d0, d1, f2, rfl, hC, hO, h0, h2, a1, c1⟩ hlt
     refine c_seq ?_
     refine c_sr ?_
     refine pl_val (.int .i64 k3834) (y_move rfl) ?_
     refine pl_val (.slice pa0 pn0 pc0) (y_move rfl) ?_
     refine pl_val (.int .i64 (from_.length : Int)) (y_len' Sl37 (rs_len h0) rfl) ?_
     refine pl_val (.bool (decide (k3834 < (from_.length : Int)))) (y_lss rfl rfl) ?_
     refine c_nil ?_
     refine c_condF (congrArg Value.bool (decide_eq_false hlt)) ?_
     refine wp_exit ?_
     have hO := hO.fr1
     have hO := hO.fr1
     exact ⟨rfl, _, c9, d0, d1, f2, fr_ovl 236 ⟨rfl, rfl, rfl, trivial⟩, hC, hO, h0, h2, a1, c1⟩
    ·rintro k3834 s3832 o3836 a a6 ⟨σ, c9, d0, d1, f2, rfl, hC, hO, h0, h2, a1, c1⟩ hlt hw hs
     refine c_seq ?_
     refine c_sr ?_
     refine pl_val (.int .i64 k3834) (y_move rfl) ?_
     refine pl_val (.slice pa0 pn0 pc0) (y_move rfl) ?_
     refine pl_val (.int .i64 (from_.length : Int)) (y_len' Sl37 (rs_len h0) rfl) ?_
     refine pl_val (.bool (decide (k3834 < (from_.length : Int)))) (y_lss rfl rfl) ?_
     refine c_nil ?_
     refine c_condT (congrArg Value.bool (decide_eq_true hlt)) ?_
     refine wp_skip ?_
     refine c_seq ?_
     refine wp_block ?_
     refine c_seq ?_
     obtain ⟨s3842, M7, hs⟩ := bind_some hs
     refine c_mid (I := fun a n6 => ∃ (σ : Nat → Value), a = fr 236 (ovl σ [(0, (.slice pa0 pn0 pc0)), (2, (.slice pa2 pn2 pc2)), (11, (.slice (some ⟨a0, 0, none⟩) 2 2)), (18, (.int .i64 s3774)), (21, (.slice c9 d0 d1)), (22, (.int .i64 k3834)), (168, (.bool s3842))]) ∧ Chg [] a6 n6) ?_ ?_
     ·replace hs := M7
      have hMid := Chg.refl [] a6
      refine x_start [] Mx rfl ?_
      have d4 := Chg.drew a6
      generalize World.drew a6 = u1 at d4 ⊢
      have h0 := h0.ext d4
      have h2 := h2.ext d4
      have a1 := a1.ext d4
      have c1 := c1.ext d4
      have hMid := hMid.ext d4
      have hC := hC.ext d4
      have hO := hO.ext d4
      have hS := Chg.refl [] u1
      refine x_p 0 (.slice c9 d0 d1) rfl (by kernel_rfl)  (fun _ => y_move rfl) (fun _ => hS) ?_
      refine x_p 1 (.int .i64 (s3832.length : Int)) rfl (by kernel_rfl)  (fun _ => y_len' Sl37 (os_len c1) rfl) (fun _ => hS) ?_
      refine x_p 2 (.bool ((s3832.length : Int) == 0)) rfl (by kernel_rfl)  (fun _ => y_eql rfl rfl) (fun _ => hS) ?_
      refine x_p 3 (.bool ((s3832.length : Int) == 0)) rfl (by kernel_rfl)  (fun _ => y_move rfl) (fun _ => hS) ?_
      rcases bif_some hs with ⟨a4, hs⟩ | ⟨a4, hs⟩
      ·skip
       refine x_py 4 (.slice (some ⟨a0, 0, none⟩) 2 2) rfl (by kernel_rfl) (tg := 156) (by kernel_rfl) (congrArg Value.bool a4) (fun _ => y_move rfl) (fun _ => hS) ?_
       obtain ⟨x3847, u2, hs⟩ := bind_some hs
       obtain ⟨M8, a36, M9, a37, N0, N1, N2⟩ := os_idx Sl47 Sz37 a1 u2
       have N3 := own_row (Frz.os Frz.int) N1 N2
       refine x_py 5 (.pointer (some ⟨M8, 0 + Int.toNat 0 * 1, none⟩)) rfl (by kernel_rfl) (tg := 156) (by kernel_rfl) (congrArg Value.bool a4) (fun _ => N0 _ _ _ _ _ _ _ _ _ rfl rfl) (fun _ => hS) ?_
       obtain ⟨a38, N4, hrow3849, N5⟩ := at_load1 Ag37 Sz37 rfl rfl N3
       obtain ⟨u3, u4, u5, rfl⟩ := rs_sl N5
       refine x_ly 6 (.slice u3 u4 u5) rfl (by kernel_rfl) (tg := 156) (by kernel_rfl) (congrArg Value.bool a4) (fun w' hw' => y_load rfl (N4 w' hw')) hS ?_
       refine x_py 7 (.slice pa0 pn0 pc0) rfl (by kernel_rfl) (tg := 156) (by kernel_rfl) (congrArg Value.bool a4) (fun _ => y_move rfl) (fun _ => hS) ?_
       refine x_py 8 (.int .i64 k3834) rfl (by kernel_rfl) (tg := 156) (by kernel_rfl) (congrArg Value.bool a4) (fun _ => y_move rfl) (fun _ => hS) ?_
       obtain ⟨x3851, N6, hs⟩ := bind_some hs
       obtain ⟨N7, N8, N9, O0⟩ := rs_idx Sl37 Sz3 h0 N6
       refine x_py 9 (.pointer (some ⟨N7, N8, none⟩)) rfl (by kernel_rfl) (tg := 156) (by kernel_rfl) (congrArg Value.bool a4) (fun _ => N9 _ _ _ _ _ _ _ _ _ rfl rfl) (fun _ => hS) ?_
       refine x_ly 10 (.int .i64 x3851) rfl (by kernel_rfl) (tg := 156) (by kernel_rfl) (congrArg Value.bool a4) (fun w' hw' => y_load rfl ((at_load_int Ag3 Sz3 O0) w' hw')) hS ?_
       obtain ⟨x3853, O1, hs⟩ := bind_some hs
       have hO := hO.fr1
       obtain ⟨O2, O3, a39, _, _⟩ := os_put M9 a1 u2 hrow3849 rfl hO.inM
       obtain ⟨O4, a40, a41, a42, O5, O6, a43⟩ := os_idx Sl37 Sz3 (show (RT.os 3 (RT.int .i64)).val M u1 (.slice u3 u4 u5) _ O2 from ⟨[_], rfl, O3⟩) O1
       refine x_py 11 (.pointer (some ⟨O4, 0 + Int.toNat x3851 * 1, none⟩)) rfl (by kernel_rfl) (tg := 156) (by kernel_rfl) (congrArg Value.bool a4) (fun _ => O5 _ _ _ _ _ _ _ _ _ rfl rfl) (fun _ => hS) ?_
       refine x_ly 12 (.int .i64 x3853) rfl (by kernel_rfl) (tg := 156) (by kernel_rfl) (congrArg Value.bool a4) (fun w' hw' => y_load rfl ((at_load_int Ag3 Sz3 O6) w' hw')) hS ?_
       refine x_py 13 (.int .i64 s3774) rfl (by kernel_rfl) (tg := 156) (by kernel_rfl) (congrArg Value.bool a4) (fun _ => y_move rfl) (fun _ => hS) ?_
       refine x_py 14 (.bool (x3853 == s3774)) rfl (by kernel_rfl) (tg := 156) (by kernel_rfl) (congrArg Value.bool a4) (fun _ => y_eql rfl rfl) (fun _ => hS) ?_
       refine x_p 15 (.bool (x3853 == s3774)) rfl (by kernel_rfl)  (fun _ => y_pick_t (congrArg Value.bool a4) rfl) (fun _ => hS) ?_
       refine x_end (by kernel_rfl) ?_
       clear hS
       cases hs
       exact ⟨_, fr_ovl 236 ⟨rfl, rfl, rfl, rfl, rfl, rfl, rfl, trivial⟩, hMid⟩
      refine x_pn 4 rfl (by kernel_rfl) (tg := 156) (by kernel_rfl) (congrArg Value.bool a4) (fun _ => hS) ?_
      refine x_pn 5 rfl (by kernel_rfl) (tg := 156) (by kernel_rfl) (congrArg Value.bool a4) (fun _ => hS) ?_
      refine x_pn 6 rfl (by kernel_rfl) (tg := 156) (by kernel_rfl) (congrArg Value.bool a4) (fun _ => hS) ?_
      refine x_pn 7 rfl (by kernel_rfl) (tg := 156) (by kernel_rfl) (congrArg Value.bool a4) (fun _ => hS) ?_
      refine x_pn 8 rfl (by kernel_rfl) (tg := 156) (by kernel_rfl) (congrArg Value.bool a4) (fun _ => hS) ?_
      refine x_pn 9 rfl (by kernel_rfl) (tg := 156) (by kernel_rfl) (congrArg Value.bool a4) (fun _ => hS) ?_
      refine x_pn 10 rfl (by kernel_rfl) (tg := 156) (by kernel_rfl) (congrArg Value.bool a4) (fun _ => hS) ?_
      refine x_pn 11 rfl (by kernel_rfl) (tg := 156) (by kernel_rfl) (congrArg Value.bool a4) (fun _ => hS) ?_
      refine x_pn 12 rfl (by kernel_rfl) (tg := 156) (by kernel_rfl) (congrArg Value.bool a4) (fun _ => hS) ?_
      refine x_pn 13 rfl (by kernel_rfl) (tg := 156) (by kernel_rfl) (congrArg Value.bool a4) (fun _ => hS) ?_
      refine x_pn 14 rfl (by kernel_rfl) (tg := 156) (by kernel_rfl) (congrArg Value.bool a4) (fun _ => hS) ?_
      refine x_p 15 (.bool false) rfl (by kernel_rfl)  (fun _ => y_pick_f (congrArg Value.bool a4) rfl) (fun _ => hS) ?_
      refine x_end (by kernel_rfl) ?_
      clear hS
      cases hs
      exact ⟨_, fr_ovl 236 ⟨rfl, rfl, rfl, rfl, rfl, rfl, rfl, trivial⟩, hMid⟩
     rintro a5 n6 ⟨σ, rfl, f3⟩
     have h0 := h0.ext f3
     have h2 := h2.ext f3
     have a1 := a1.ext f3
     have c1 := c1.ext f3
     have hC := hC.ext f3
     have hO := hO.ext f3
     rcases bif_some hs with ⟨n7, hs⟩ | ⟨n7, hs⟩
     ·refine c_condT (congrArg Value.bool n7) ?_
      refine c_region ?_
      refine pl_val (.slice c9 d0 d1) (y_move rfl) ?_
      refine pl_val (.slice pa0 pn0 pc0) (y_move rfl) ?_
      refine pl_val (.int .i64 k3834) (y_move rfl) ?_
      obtain ⟨x3856, O7, hs⟩ := bind_some hs
      obtain ⟨O8, O9, P0, n8⟩ := rs_idx Sl37 Sz3 h0 O7
      refine pl_val (.pointer (some ⟨O8, O9, none⟩)) (P0 _ _ _ _ _ _ _ _ _ rfl rfl) ?_
      refine pl_val (.int .i64 x3856) (y_load rfl ((at_load_int Ag3 Sz3 n8) _ (Chg.refl _ _))) ?_
      obtain ⟨u6, n9, P1, u7, e1, u9⟩ := new_block n6 [(.int .i64 x3856)] 3
      refine pl_val (w' := u6) (.slice (some ⟨n9, 0, none⟩) 1 1) (y_bslice rfl (by rw [P1, u7]; kernel_rfl)) ?_
      have h0 := h0.ext e1
      have h2 := h2.ext e1
      have a1 := a1.ext e1
      have c1 := c1.ext e1
      have n8 := at_ext n8 e1
      have hC := hC.ext e1
      have hO := hO.new1 e1 u7 u9.lt
      have o0 := os_of_box (r := (RT.int .i64)) (M := M) (css := [[(.int .i64 x3856)]]) (fps := [([] : List Nat)]) (xs := ([x3856] : List Int)) u9 ⟨⟨rfl, rfl⟩, trivial⟩ (Nat.le_of_ble_eq_true rfl) (List.nodup_cons.2 ⟨(fun h => nomatch h), List.nodup_nil⟩)
      have o0 : (RT.os 3 (RT.int .i64)).val M u6 (.slice (some ⟨n9, 0, none⟩) 1 1) [x3856] [n9] := o0
      obtain ⟨y3861, P2, hs⟩ := bind_some hs
      have hO := hO.fr1
      obtain ⟨o1, o2, o3, P3, P4, P5, h6, P6, o4⟩ := app_os Rw37 P2 c1 o0 hO.inM (fun g hg hq => hO.apart g hq (mem_l hg))
      have j9 := os_block c1
      refine pl_val (w' := P3) (.slice o1 o2 o3) (y_append rfl rfl (P5 _)) ?_
      have hO := hO.fr1
      have hO := hO.fr1
      have h0 := h0.mt h6 hO j9
      have h2 := h2.mt h6 hO j9
      have a1 := a1.ma h6 hO j9 (fun _ e => (mem_r (mem_l (e))))
      have hC := hC.st h6 hO j9
      have hO := hO.eat h6 P6 (os_nodup o4) o4.fpl
      refine pl_val (.slice o1 o2 o3) (y_assign rfl) ?_
      refine c_nil ?_
      refine c_region ?_
      refine pl_val (.int .i64 k3834) (y_move rfl) ?_
      refine pl_val (.int .i64 (w64 (k3834 + 1))) (y_add rfl rfl) ?_
      refine pl_val (.int .i64 (w64 (k3834 + 1))) (y_assign rfl) ?_
      refine c_nil ?_
      cases hs
      have hO := hO.fr1
      have hO := hO.fr1
      exact ⟨_, o1, o2, o3, P4, fr_ovl 236 ⟨rfl, rfl, rfl, rfl, rfl, congrArg (Value.int .i64) hw, trivial⟩, hC, hO, h0, h2, a1, o4⟩
     refine c_condF (congrArg Value.bool n7) ?_
     refine wp_skip ?_
     refine c_region ?_
     refine pl_val (.int .i64 k3834) (y_move rfl) ?_
     refine pl_val (.int .i64 (w64 (k3834 + 1))) (y_add rfl rfl) ?_
     refine pl_val (.int .i64 (w64 (k3834 + 1))) (y_assign rfl) ?_
     refine c_nil ?_
     cases hs
     have hO := hO.fr1
     have hO := hO.fr1
     exact ⟨_, c9, d0, d1, f2, fr_ovl 236 ⟨rfl, rfl, rfl, rfl, rfl, congrArg (Value.int .i64) hw, trivial⟩, hC, hO, h0, h2, a1, c1⟩
    ·skip
     have hO := hO.fr1
     have hO := hO.fr1
     exact ⟨_, (some ⟨f1, 0, none⟩), 0, 0, ([f1]), fr_ovl 236 ⟨rfl, rfl, rfl, rfl, rfl, rfl, trivial⟩, hC, hO, h0, h2, a1, n5⟩
    cases o3836 with
    | nx _ => exact True.intro
    | rt r_ =>
     have hs := after_rt hs
     intro a5 c6 hK
     cases hs
     exact hK
    | br s3832 =>
     have hs := after_br hs
     rintro a5 a6 ⟨σ, j5, j6, j7, j8, rfl, hC, hO, h0, h2, a1, P7⟩
     refine c_seq ?_
     refine c_sr ?_
     refine pl_val (.int .i64 0) (y_assign rfl) ?_
     refine c_nil ?_
     obtain ⟨o3957, P8, hs⟩ := bind_some hs
     refine wp_block ?_
     refine wp_iter (id := 16) (I := fun s3953 a b6 => ∃ (σ : Nat → Value) (c2 : Option Addr) (c3 : Nat) (c4 : Nat) (d5 : List Nat), a = fr 236 (ovl σ [(2, (.slice pa2 pn2 pc2)), (11, (.slice (some ⟨a0, 0, none⟩) 2 2)), (21, (.slice c2 c3 c4)), (23, (.int .i64 s3953.2))]) ∧ Chg [] w b6 ∧ Own (Nw w []) M b6 (d5 ++ (a7 ++ [])) ∧ (RT.rs (RT.rs (RT.rs RT.bool))).val M b6 (.slice pa2 pn2 pc2) may ([]) ∧ (RT.os 37 (RT.os 3 (RT.int .i64))).val M b6 (.slice (some ⟨a0, 0, none⟩) 2 2) s2571.2 a7 ∧ (RT.os 3 (RT.int .i64)).val M b6 (.slice c2 c3 c4) s3953.1 d5) (J := fun s3953 a b6 => ∃ (σ : Nat → Value) (f4 : Option Addr) (f5 : Nat) (f6 : Nat) (k0 : List Nat), a = fr 236 (ovl σ [(21, (.slice f4 f5 f6))]) ∧ Chg [] w b6 ∧ Own (Nw w []) M b6 (k0 ++ (a7 ++ [])) ∧ (RT.rs (RT.rs (RT.rs RT.bool))).val M b6 (.slice pa2 pn2 pc2) may ([]) ∧ (RT.os 37 (RT.os 3 (RT.int .i64))).val M b6 (.slice (some ⟨a0, 0, none⟩) 2 2) s2571.2 a7 ∧ (RT.os 3 (RT.int .i64)).val M b6 (.slice f4 f5 f6) s3953.1 k0) (K := (k_spec_l17Chain M w)) ?_ FU (s3832, 0) o3957 _ _ ?_ P8 ?_
     ·rintro s3953 o3957 a b6 ⟨σ, c2, c3, c4, d5, rfl, hC, hO, h2, a1, b0⟩ hs
      refine c_seq ?_
      refine c_seq ?_
      refine x_start [] Mx rfl ?_
      have f7 := Chg.drew b6
      generalize World.drew b6 = v0 at f7 ⊢
      have h2 := h2.ext f7
      have a1 := a1.ext f7
      have b0 := b0.ext f7
      have hC := hC.ext f7
      have hO := hO.ext f7
      have hS := Chg.refl [] v0
      refine x_p 0 (.slice (some ⟨a0, 0, none⟩) 2 2) rfl (by kernel_rfl)  (fun _ => y_move rfl) (fun _ => hS) ?_
      refine x_p 1 (.int .i64 s3953.2) rfl (by kernel_rfl)  (fun _ => y_move rfl) (fun _ => hS) ?_
      refine x_p 2 (.int .i64 (Int.tmod s3953.2 2)) rfl (by kernel_rfl)  (fun _ => y_rem rfl rfl (by decide)) (fun _ => hS) ?_
      obtain ⟨x3973, k1, hs⟩ := bind_some hs
      obtain ⟨P9, a44, Q0, a45, Q1, Q2, Q3⟩ := os_idx Sl47 Sz37 a1 k1
      have Q4 := own_row (Frz.os Frz.int) Q2 Q3
      refine x_p 3 (.pointer (some ⟨P9, 0 + Int.toNat (Int.tmod s3953.2 2) * 1, none⟩)) rfl (by kernel_rfl)  (fun _ => Q1 _ _ _ _ _ _ _ _ _ rfl rfl) (fun _ => hS) ?_
      obtain ⟨a46, Q5, hrow3975, Q6⟩ := at_load1 Ag37 Sz37 rfl rfl Q4
      obtain ⟨v1, v2, v3, rfl⟩ := rs_sl Q6
      refine x_l 4 (.slice v1 v2 v3) rfl (by kernel_rfl)  (fun w' hw' => y_load rfl (Q5 w' hw')) hS ?_
      refine x_p 5 (.slice c2 c3 c4) rfl (by kernel_rfl)  (fun _ => y_move rfl) (fun _ => hS) ?_
      refine x_p 6 (.int .i64 s3953.2) rfl (by kernel_rfl)  (fun _ => y_move rfl) (fun _ => hS) ?_
      obtain ⟨x3977, o5, hs⟩ := bind_some hs
      obtain ⟨Q7, a47, a48, a49, Q8, Q9, a50⟩ := os_idx Sl37 Sz3 b0 o5
      refine x_p 7 (.pointer (some ⟨Q7, 0 + Int.toNat s3953.2 * 1, none⟩)) rfl (by kernel_rfl)  (fun _ => Q8 _ _ _ _ _ _ _ _ _ rfl rfl) (fun _ => hS) ?_
      refine x_l 8 (.int .i64 x3977) rfl (by kernel_rfl)  (fun w' hw' => y_load rfl ((at_load_int Ag3 Sz3 Q9) w' hw')) hS ?_
      obtain ⟨x3979, v4, hs⟩ := bind_some hs
      have hO := hO.fr1
      obtain ⟨R0, R1, a51, _, _⟩ := os_put Q0 a1 k1 hrow3975 rfl hO.inM
      obtain ⟨R2, a52, a53, a54, R3, R4, a55⟩ := os_idx Sl37 Sz3 (show (RT.os 3 (RT.int .i64)).val M v0 (.slice v1 v2 v3) _ R0 from ⟨[_], rfl, R1⟩) v4
      refine x_p 9 (.pointer (some ⟨R2, 0 + Int.toNat x3977 * 1, none⟩)) rfl (by kernel_rfl)  (fun _ => R3 _ _ _ _ _ _ _ _ _ rfl rfl) (fun _ => hS) ?_
      refine x_l 10 (.int .i64 x3979) rfl (by kernel_rfl)  (fun w' hw' => y_load rfl ((at_load_int Ag3 Sz3 R4) w' hw')) hS ?_
      refine x_p 11 (.bool (decide (0 < x3979))) rfl (by kernel_rfl)  (fun _ => y_gtr rfl rfl) (fun _ => hS) ?_
      refine x_end (by kernel_rfl) ?_
      clear hS
      rcases bif_some hs with ⟨o6, hs⟩ | ⟨o6, hs⟩
      ·refine c_condT (congrArg Value.bool o6) ?_
       refine wp_skip ?_
       refine c_seq ?_
       refine wp_block ?_
       refine c_sr ?_
       refine pl_val (.int .i64 0) (y_assign rfl) ?_
       refine c_nil ?_
       refine c_seq ?_
       obtain ⟨o4015, R5, hs⟩ := bind_some hs
       refine wp_block ?_
       refine wp_iter (id := 18) (I := fun s4011 a b5 => ∃ (σ : Nat → Value), a = fr 236 (ovl σ [(2, (.slice pa2 pn2 pc2)), (11, (.slice (some ⟨a0, 0, none⟩) 2 2)), (21, (.slice c2 c3 c4)), (23, (.int .i64 s3953.2)), (24, (.int .i64 s4011))]) ∧ Chg [] w b5 ∧ Own (Nw w []) M b5 (a7 ++ (d5 ++ [])) ∧ (RT.rs (RT.rs (RT.rs RT.bool))).val M b5 (.slice pa2 pn2 pc2) may ([]) ∧ (RT.os 37 (RT.os 3 (RT.int .i64))).val M b5 (.slice (some ⟨a0, 0, none⟩) 2 2) s2571.2 a7 ∧ (RT.os 3 (RT.int .i64)).val M b5 (.slice c2 c3 c4) s3953.1 d5) (J := fun s4011 a b5 => ∃ (σ : Nat → Value), a = fr 236 (ovl σ [(2, (.slice pa2 pn2 pc2)), (11, (.slice (some ⟨a0, 0, none⟩) 2 2)), (21, (.slice c2 c3 c4)), (23, (.int .i64 s3953.2)), (24, (.int .i64 s4011))]) ∧ Chg [] w b5 ∧ Own (Nw w []) M b5 (a7 ++ (d5 ++ [])) ∧ (RT.rs (RT.rs (RT.rs RT.bool))).val M b5 (.slice pa2 pn2 pc2) may ([]) ∧ (RT.os 37 (RT.os 3 (RT.int .i64))).val M b5 (.slice (some ⟨a0, 0, none⟩) 2 2) s2571.2 a7 ∧ (RT.os 3 (RT.int .i64)).val M b5 (.slice c2 c3 c4) s3953.1 d5) (K := (k_spec_l17Chain M w)) ?_ FU 0 o4015 _ _ ?_ R5 ?_
       ·rintro s4011 o4015 a b5 ⟨σ, rfl, hC, hO, h2, a1, b0⟩ hs
        refine c_seq ?_
        refine c_seq ?_
        refine x_start [] Mx rfl ?_
        have f8 := Chg.drew b5
        generalize World.drew b5 = o7 at f8 ⊢
        have h2 := h2.ext f8
        have a1 := a1.ext f8
        have b0 := b0.ext f8
        have hC := hC.ext f8
        have hO := hO.ext f8
        have hS := Chg.refl [] o7
        refine x_p 0 (.slice pa2 pn2 pc2) rfl (by kernel_rfl)  (fun _ => y_move rfl) (fun _ => hS) ?_
        refine x_p 1 (.int .i64 s3953.2) rfl (by kernel_rfl)  (fun _ => y_move rfl) (fun _ => hS) ?_
        refine x_p 2 (.int .i64 (Int.tmod s3953.2 2)) rfl (by kernel_rfl)  (fun _ => y_rem rfl rfl (by decide)) (fun _ => hS) ?_
        obtain ⟨x4018, R6, hs⟩ := bind_some hs
        obtain ⟨R7, R8, R9, S0⟩ := rs_idx Sl111 Sz106 h2 R6
        refine x_p 3 (.pointer (some ⟨R7, R8, none⟩)) rfl (by kernel_rfl)  (fun _ => R9 _ _ _ _ _ _ _ _ _ rfl rfl) (fun _ => hS) ?_
        obtain ⟨a56, S1, v5⟩ := at_load Ag106 Sz106 (fun _ => rfl) S0
        obtain ⟨S2, S3, S4, rfl⟩ := rs_sl v5
        refine x_l 4 (.slice S2 S3 S4) rfl (by kernel_rfl)  (fun w' hw' => y_load rfl (S1 w' hw')) hS ?_
        refine x_p 5 (.slice c2 c3 c4) rfl (by kernel_rfl)  (fun _ => y_move rfl) (fun _ => hS) ?_
        refine x_p 6 (.int .i64 s3953.2) rfl (by kernel_rfl)  (fun _ => y_move rfl) (fun _ => hS) ?_
        obtain ⟨S5, a57, a58, a59, S6, S7, a60⟩ := os_idx Sl37 Sz3 b0 o5
        refine x_p 7 (.pointer (some ⟨S5, 0 + Int.toNat s3953.2 * 1, none⟩)) rfl (by kernel_rfl)  (fun _ => S6 _ _ _ _ _ _ _ _ _ rfl rfl) (fun _ => hS) ?_
        refine x_l 8 (.int .i64 x3977) rfl (by kernel_rfl)  (fun w' hw' => y_load rfl ((at_load_int Ag3 Sz3 S7) w' hw')) hS ?_
        obtain ⟨x4024, S8, hs⟩ := bind_some hs
        obtain ⟨S9, T0, T1, T2⟩ := rs_idx Sl106 Sz56 v5 S8
        refine x_p 9 (.pointer (some ⟨S9, T0, none⟩)) rfl (by kernel_rfl)  (fun _ => T1 _ _ _ _ _ _ _ _ _ rfl rfl) (fun _ => hS) ?_
        obtain ⟨a61, T3, v6⟩ := at_load Ag56 Sz56 (fun _ => rfl) T2
        obtain ⟨T4, T5, T6, rfl⟩ := rs_sl v6
        refine x_l 10 (.slice T4 T5 T6) rfl (by kernel_rfl)  (fun w' hw' => y_load rfl (T3 w' hw')) hS ?_
        refine x_p 11 (.int .i64 s4011) rfl (by kernel_rfl)  (fun _ => y_move rfl) (fun _ => hS) ?_
        obtain ⟨x4028, T7, hs⟩ := bind_some hs
        obtain ⟨T8, T9, U0, U1⟩ := rs_idx Sl56 Sz4 v6 T7
        refine x_p 12 (.pointer (some ⟨T8, T9, none⟩)) rfl (by kernel_rfl)  (fun _ => U0 _ _ _ _ _ _ _ _ _ rfl rfl) (fun _ => hS) ?_
        refine x_l 13 (.bool x4028) rfl (by kernel_rfl)  (fun w' hw' => y_load rfl ((at_load_bool Ag4 Sz4 U1) w' hw')) hS ?_
        refine x_p 14 (.bool (!x4028)) rfl (by kernel_rfl)  (fun _ => y_not rfl) (fun _ => hS) ?_
        refine x_p 15 (.bool (!x4028)) rfl (by kernel_rfl)  (fun _ => y_move rfl) (fun _ => hS) ?_
        rcases bif_some hs with ⟨a2, hs⟩ | ⟨a2, hs⟩
        ·skip
         refine x_pn 16 rfl (by kernel_rfl) (tg := 205) (by kernel_rfl) (congrArg Value.bool a2) (fun _ => hS) ?_
         refine x_pn 17 rfl (by kernel_rfl) (tg := 205) (by kernel_rfl) (congrArg Value.bool a2) (fun _ => hS) ?_
         refine x_pn 18 rfl (by kernel_rfl) (tg := 205) (by kernel_rfl) (congrArg Value.bool a2) (fun _ => hS) ?_
         refine x_pn 19 rfl (by kernel_rfl) (tg := 205) (by kernel_rfl) (congrArg Value.bool a2) (fun _ => hS) ?_
         refine x_pn 20 rfl (by kernel_rfl) (tg := 205) (by kernel_rfl) (congrArg Value.bool a2) (fun _ => hS) ?_
         refine x_pn 21 rfl (by kernel_rfl) (tg := 205) (by kernel_rfl) (congrArg Value.bool a2) (fun _ => hS) ?_
         refine x_pn 22 rfl (by kernel_rfl) (tg := 205) (by kernel_rfl) (congrArg Value.bool a2) (fun _ => hS) ?_
         refine x_pn 23 rfl (by kernel_rfl) (tg := 205) (by kernel_rfl) (congrArg Value.bool a2) (fun _ => hS) ?_
         refine x_pn 24 rfl (by kernel_rfl) (tg := 205) (by kernel_rfl) (congrArg Value.bool a2) (fun _ => hS) ?_
         refine x_pn 25 rfl (by kernel_rfl) (tg := 205) (by kernel_rfl) (congrArg Value.bool a2) (fun _ => hS) ?_
         refine x_pn 26 rfl (by kernel_rfl) (tg := 205) (by kernel_rfl) (congrArg Value.bool a2) (fun _ => hS) ?_
         refine x_pn 27 rfl (by kernel_rfl) (tg := 205) (by kernel_rfl) (congrArg Value.bool a2) (fun _ => hS) ?_
         refine x_pn 28 rfl (by kernel_rfl) (tg := 205) (by kernel_rfl) (congrArg Value.bool a2) (fun _ => hS) ?_
         refine x_pn 29 rfl (by kernel_rfl) (tg := 205) (by kernel_rfl) (congrArg Value.bool a2) (fun _ => hS) ?_
         refine x_pn 30 rfl (by kernel_rfl) (tg := 205) (by kernel_rfl) (congrArg Value.bool a2) (fun _ => hS) ?_
         refine x_pn 31 rfl (by kernel_rfl) (tg := 205) (by kernel_rfl) (congrArg Value.bool a2) (fun _ => hS) ?_
         refine x_pn 32 rfl (by kernel_rfl) (tg := 205) (by kernel_rfl) (congrArg Value.bool a2) (fun _ => hS) ?_
         refine x_pn 33 rfl (by kernel_rfl) (tg := 205) (by kernel_rfl) (congrArg Value.bool a2) (fun _ => hS) ?_
         refine x_pn 34 rfl (by kernel_rfl) (tg := 205) (by kernel_rfl) (congrArg Value.bool a2) (fun _ => hS) ?_
         refine x_pn 35 rfl (by kernel_rfl) (tg := 205) (by kernel_rfl) (congrArg Value.bool a2) (fun _ => hS) ?_
         refine x_pn 36 rfl (by kernel_rfl) (tg := 205) (by kernel_rfl) (congrArg Value.bool a2) (fun _ => hS) ?_
         refine x_pn 37 rfl (by kernel_rfl) (tg := 205) (by kernel_rfl) (congrArg Value.bool a2) (fun _ => hS) ?_
         refine x_p 38 (.bool true) rfl (by kernel_rfl)  (fun _ => y_pick_t (congrArg Value.bool a2) rfl) (fun _ => hS) ?_
         refine x_end (by kernel_rfl) ?_
         clear hS
         refine c_condT (by rfl) ?_
         refine wp_skip ?_
         refine wp_block ?_
         refine c_region ?_
         refine pl_val (.int .i64 s4011) (y_move rfl) ?_
         refine pl_val (.int .i64 (w64 (s4011 + 1))) (y_add rfl rfl) ?_
         refine pl_val (.int .i64 (w64 (s4011 + 1))) (y_assign rfl) ?_
         refine c_nil ?_
         cases hs
         have hO := hO.fr1
         have hO := hO.fr1
         exact ⟨_, fr_ovl 236 ⟨rfl, rfl, rfl, rfl, rfl, trivial⟩, hC, hO, h2, a1, b0⟩
        refine x_py 16 (.slice (some ⟨a0, 0, none⟩) 2 2) rfl (by kernel_rfl) (tg := 205) (by kernel_rfl) (congrArg Value.bool a2) (fun _ => y_move rfl) (fun _ => hS) ?_
        refine x_py 17 (.int .i64 s3953.2) rfl (by kernel_rfl) (tg := 205) (by kernel_rfl) (congrArg Value.bool a2) (fun _ => y_move rfl) (fun _ => hS) ?_
        refine x_py 18 (.int .i64 (Int.tmod s3953.2 2)) rfl (by kernel_rfl) (tg := 205) (by kernel_rfl) (congrArg Value.bool a2) (fun _ => y_rem rfl rfl (by decide)) (fun _ => hS) ?_
        refine x_py 19 (.int .i64 (w64 (1 - (Int.tmod s3953.2 2)))) rfl (by kernel_rfl) (tg := 205) (by kernel_rfl) (congrArg Value.bool a2) (fun _ => y_sub rfl rfl) (fun _ => hS) ?_
        obtain ⟨x4031, v7, hs⟩ := bind_some hs
        obtain ⟨U2, a62, U3, a63, U4, U5, U6⟩ := os_idx Sl47 Sz37 a1 v7
        have U7 := own_row (Frz.os Frz.int) U5 U6
        refine x_py 20 (.pointer (some ⟨U2, 0 + Int.toNat (w64 (1 - (Int.tmod s3953.2 2))) * 1, none⟩)) rfl (by kernel_rfl) (tg := 205) (by kernel_rfl) (congrArg Value.bool a2) (fun _ => U4 _ _ _ _ _ _ _ _ _ rfl rfl) (fun _ => hS) ?_
        obtain ⟨a64, U8, hrow4033, U9⟩ := at_load1 Ag37 Sz37 rfl rfl U7
        obtain ⟨v8, v9, w1, rfl⟩ := rs_sl U9
        refine x_ly 21 (.slice v8 v9 w1) rfl (by kernel_rfl) (tg := 205) (by kernel_rfl) (congrArg Value.bool a2) (fun w' hw' => y_load rfl (U8 w' hw')) hS ?_
        refine x_py 22 (.int .i64 s4011) rfl (by kernel_rfl) (tg := 205) (by kernel_rfl) (congrArg Value.bool a2) (fun _ => y_move rfl) (fun _ => hS) ?_
        obtain ⟨x4035, V0, hs⟩ := bind_some hs
        obtain ⟨V1, V2, a65, _, _⟩ := os_put U3 a1 v7 hrow4033 rfl hO.inM
        obtain ⟨V3, a66, a67, a68, V4, V5, a69⟩ := os_idx Sl37 Sz3 (show (RT.os 3 (RT.int .i64)).val M o7 (.slice v8 v9 w1) _ V1 from ⟨[_], rfl, V2⟩) V0
        refine x_py 23 (.pointer (some ⟨V3, 0 + Int.toNat s4011 * 1, none⟩)) rfl (by kernel_rfl) (tg := 205) (by kernel_rfl) (congrArg Value.bool a2) (fun _ => V4 _ _ _ _ _ _ _ _ _ rfl rfl) (fun _ => hS) ?_
        refine x_ly 24 (.int .i64 x4035) rfl (by kernel_rfl) (tg := 205) (by kernel_rfl) (congrArg Value.bool a2) (fun w' hw' => y_load rfl ((at_load_int Ag3 Sz3 V5) w' hw')) hS ?_
        refine x_py 25 (.slice (some ⟨a0, 0, none⟩) 2 2) rfl (by kernel_rfl) (tg := 205) (by kernel_rfl) (congrArg Value.bool a2) (fun _ => y_move rfl) (fun _ => hS) ?_
        refine x_py 26 (.int .i64 s3953.2) rfl (by kernel_rfl) (tg := 205) (by kernel_rfl) (congrArg Value.bool a2) (fun _ => y_move rfl) (fun _ => hS) ?_
        refine x_py 27 (.int .i64 (Int.tmod s3953.2 2)) rfl (by kernel_rfl) (tg := 205) (by kernel_rfl) (congrArg Value.bool a2) (fun _ => y_rem rfl rfl (by decide)) (fun _ => hS) ?_
        obtain ⟨V6, a70, V7, a71, V8, V9, W0⟩ := os_idx Sl47 Sz37 a1 k1
        have W1 := own_row (Frz.os Frz.int) V9 W0
        refine x_py 28 (.pointer (some ⟨V6, 0 + Int.toNat (Int.tmod s3953.2 2) * 1, none⟩)) rfl (by kernel_rfl) (tg := 205) (by kernel_rfl) (congrArg Value.bool a2) (fun _ => V8 _ _ _ _ _ _ _ _ _ rfl rfl) (fun _ => hS) ?_
        obtain ⟨a72, W2, hrow4039, W3⟩ := at_load1 Ag37 Sz37 rfl rfl W1
        obtain ⟨w2, w3, w4, rfl⟩ := rs_sl W3
        refine x_ly 29 (.slice w2 w3 w4) rfl (by kernel_rfl) (tg := 205) (by kernel_rfl) (congrArg Value.bool a2) (fun w' hw' => y_load rfl (W2 w' hw')) hS ?_
        refine x_py 30 (.slice c2 c3 c4) rfl (by kernel_rfl) (tg := 205) (by kernel_rfl) (congrArg Value.bool a2) (fun _ => y_move rfl) (fun _ => hS) ?_
        refine x_py 31 (.int .i64 s3953.2) rfl (by kernel_rfl) (tg := 205) (by kernel_rfl) (congrArg Value.bool a2) (fun _ => y_move rfl) (fun _ => hS) ?_
        obtain ⟨W4, a73, a74, a75, W5, W6, a76⟩ := os_idx Sl37 Sz3 b0 o5
        refine x_py 32 (.pointer (some ⟨W4, 0 + Int.toNat s3953.2 * 1, none⟩)) rfl (by kernel_rfl) (tg := 205) (by kernel_rfl) (congrArg Value.bool a2) (fun _ => W5 _ _ _ _ _ _ _ _ _ rfl rfl) (fun _ => hS) ?_
        refine x_ly 33 (.int .i64 x3977) rfl (by kernel_rfl) (tg := 205) (by kernel_rfl) (congrArg Value.bool a2) (fun w' hw' => y_load rfl ((at_load_int Ag3 Sz3 W6) w' hw')) hS ?_
        obtain ⟨W7, W8, a77, _, _⟩ := os_put V7 a1 k1 hrow4039 rfl hO.inM
        obtain ⟨W9, a78, a79, a80, X0, X1, a81⟩ := os_idx Sl37 Sz3 (show (RT.os 3 (RT.int .i64)).val M o7 (.slice w2 w3 w4) _ W7 from ⟨[_], rfl, W8⟩) v4
        refine x_py 34 (.pointer (some ⟨W9, 0 + Int.toNat x3977 * 1, none⟩)) rfl (by kernel_rfl) (tg := 205) (by kernel_rfl) (congrArg Value.bool a2) (fun _ => X0 _ _ _ _ _ _ _ _ _ rfl rfl) (fun _ => hS) ?_
        refine x_ly 35 (.int .i64 x3979) rfl (by kernel_rfl) (tg := 205) (by kernel_rfl) (congrArg Value.bool a2) (fun w' hw' => y_load rfl ((at_load_int Ag3 Sz3 X1) w' hw')) hS ?_
        refine x_py 36 (.int .i64 (w64 (x3979 - 1))) rfl (by kernel_rfl) (tg := 205) (by kernel_rfl) (congrArg Value.bool a2) (fun _ => y_sub rfl rfl) (fun _ => hS) ?_
        refine x_py 37 (.bool (x4035 != (w64 (x3979 - 1)))) rfl (by kernel_rfl) (tg := 205) (by kernel_rfl) (congrArg Value.bool a2) (fun _ => y_neq rfl rfl) (fun _ => hS) ?_
        refine x_p 38 (.bool (x4035 != (w64 (x3979 - 1)))) rfl (by kernel_rfl)  (fun _ => y_pick_f (congrArg Value.bool a2) rfl) (fun _ => hS) ?_
        refine x_end (by kernel_rfl) ?_
        clear hS
        rcases bif_some hs with ⟨o8, hs⟩ | ⟨o8, hs⟩
        ·refine c_condT (congrArg Value.bool o8) ?_
         refine wp_skip ?_
         refine wp_block ?_
         refine c_region ?_
         refine pl_val (.int .i64 s4011) (y_move rfl) ?_
         refine pl_val (.int .i64 (w64 (s4011 + 1))) (y_add rfl rfl) ?_
         refine pl_val (.int .i64 (w64 (s4011 + 1))) (y_assign rfl) ?_
         refine c_nil ?_
         cases hs
         have hO := hO.fr1
         have hO := hO.fr1
         exact ⟨_, fr_ovl 236 ⟨rfl, rfl, rfl, rfl, rfl, trivial⟩, hC, hO, h2, a1, b0⟩
        refine c_condF (congrArg Value.bool o8) ?_
        refine wp_exit ?_
        cases hs
        have hO := hO.fr1
        have hO := hO.fr1
        exact ⟨rfl, _, fr_ovl 236 ⟨rfl, rfl, rfl, rfl, rfl, trivial⟩, hC, hO, h2, a1, b0⟩
       ·skip
        have hO := hO.fr1
        have hO := hO.fr1
        exact ⟨_, fr_ovl 236 ⟨rfl, rfl, rfl, rfl, rfl, trivial⟩, hC, hO, h2, a1, b0⟩
       cases o4015 with
       | nx _ => exact True.intro
       | rt r_ =>
        have hs := after_rt hs
        intro a5 c6 hK
        cases hs
        exact hK
       | br s4011 =>
        have hs := after_br hs
        rintro a5 b5 ⟨σ, rfl, hC, hO, h2, a1, b0⟩
        refine c_region ?_
        refine pl_val (.slice c2 c3 c4) (y_move rfl) ?_
        refine pl_val (.int .i64 s4011) (y_move rfl) ?_
        obtain ⟨w5, o9, X2, w6, h7, w7⟩ := new_block b5 [(.int .i64 s4011)] 3
        refine pl_val (w' := w5) (.slice (some ⟨o9, 0, none⟩) 1 1) (y_bslice rfl (by rw [X2, w6]; kernel_rfl)) ?_
        have h2 := h2.ext h7
        have a1 := a1.ext h7
        have b0 := b0.ext h7
        have hC := hC.ext h7
        have hO := hO.new1 h7 w6 w7.lt
        have p0 := os_of_box (r := (RT.int .i64)) (M := M) (css := [[(.int .i64 s4011)]]) (fps := [([] : List Nat)]) (xs := ([s4011] : List Int)) w7 ⟨⟨rfl, rfl⟩, trivial⟩ (Nat.le_of_ble_eq_true rfl) (List.nodup_cons.2 ⟨(fun h => nomatch h), List.nodup_nil⟩)
        have p0 : (RT.os 3 (RT.int .i64)).val M w5 (.slice (some ⟨o9, 0, none⟩) 1 1) [s4011] [o9] := p0
        obtain ⟨y4049, X3, hs⟩ := bind_some hs
        have hO := hO.fr2
        obtain ⟨p1, p2, p3, X4, X5, X6, k2, X7, p4⟩ := app_os Rw37 X3 b0 p0 hO.inM (fun g hg hq => hO.apart g hq (mem_l hg))
        have p5 := os_block b0
        refine pl_val (w' := X4) (.slice p1 p2 p3) (y_append rfl rfl (X6 _)) ?_
        have hO := hO.fr1
        have hO := hO.fr1
        have h2 := h2.mt k2 hO p5
        have a1 := a1.ma k2 hO p5 (fun _ e => (mem_r (mem_l (e))))
        have hC := hC.st k2 hO p5
        have hO := hO.eat k2 X7 (os_nodup p4) p4.fpl
        refine pl_val (.slice p1 p2 p3) (y_assign rfl) ?_
        refine c_nil ?_
        refine c_region ?_
        refine pl_val (.int .i64 s3953.2) (y_move rfl) ?_
        refine pl_val (.int .i64 (w64 (s3953.2 + 1))) (y_add rfl rfl) ?_
        refine pl_val (.int .i64 (w64 (s3953.2 + 1))) (y_assign rfl) ?_
        refine c_nil ?_
        cases hs
        have hO := hO.fr1
        have hO := hO.fr1
        exact ⟨_, p1, p2, p3, X5, fr_ovl 236 ⟨rfl, rfl, rfl, rfl, trivial⟩, hC, hO, h2, a1, p4⟩
      refine c_condF (congrArg Value.bool o6) ?_
      refine wp_exit ?_
      cases hs
      have hO := hO.fr1
      exact ⟨rfl, _, c2, c3, c4, d5, fr_ovl 236 ⟨rfl, trivial⟩, hC, hO, h2, a1, b0⟩
     ·skip
      have hO := hO.fr1
      have hO := hO.fr1
      exact ⟨_, j5, j6, j7, j8, fr_ovl 236 ⟨rfl, rfl, rfl, rfl, trivial⟩, hC, hO, h2, a1, P7⟩
     cases o3957 with
     | nx _ => exact True.intro
     | rt r_ =>
      have hs := after_rt hs
      intro a5 c6 hK
      cases hs
      exact hK
     | br s3953 =>
      have hs := after_br hs
      rintro a5 b6 ⟨σ, f4, f5, f6, k0, rfl, hC, hO, h2, a1, X8⟩
      refine c_sr ?_
      refine pl_val (.slice f4 f5 f6) (y_move rfl) ?_
      refine pl_val (.slice f4 f5 f6) (y_assign rfl) ?_
      refine pl_val (.bool true) (y_assign rfl) ?_
      refine c_nil ?_
      refine wp_ret ?_
      cases hs
      have hO := hO.fr1
      have hO := hO.drop
      exact ⟨_, f4, f5, f6, k0, fr_ovl 236 ⟨rfl, rfl, trivial⟩, hC, X8, hO.top⟩

theorem Bd104 : Bodied Try.prog 104 := bodied Try.func104 (by kernel_rfl) rfl

theorem Bd103 : Bodied Try.prog 103 := bodied Try.func103 (by kernel_rfl) rfl

theorem Bd72 : Bodied Try.prog 72 := bodied Try.func72 (by kernel_rfl) rfl

theorem Bd105 : Bodied Try.prog 105 := bodied Try.func105 (by kernel_rfl) rfl

def k_spec_l17Direct (M : Nat → Prop) (w0 : World) (r : (List Int) × Bool) (a : Act) (w : World) : Prop :=
  ∃ (σ : Nat → Value) (ra0 : Option Addr) (rn0 rc0 : Nat) (rf0 : List Nat), a = fr 73 (ovl σ [(4, (.slice ra0 rn0 rc0)), (5, (.bool r.2))]) ∧ Chg [] w0 w ∧ (RT.os 3 (RT.int .i64)).val M w (.slice ra0 rn0 rc0) r.1 rf0 ∧ Own (Nw w0 []) (fun _ => True) w (rf0 ++ ([]))
def s_spec_l17Direct (n : Int) (clone : List (List Int)) : Option ((List Int) × Bool) :=
  (s_spec_l17Allowed n clone true).bind fun r3 =>
  (s_spec_l17May n clone 2 1 r3).bind fun r6 =>
  (mks (clone.length : Int) (false : Bool)).bind fun y12 =>
  (forC (S := (List Int) × (List Bool)) (R := (List Int) × Bool) (fun k157 s155 =>
  ((idx r3 k157).bind fun x170 =>
  (bif x170 then (idx clone k157).bind fun x173 =>
  (s_spec_l17Part n x173 1).bind fun r178 =>
  (s_spec_l17Xs n).bind fun r181 =>
  (s_spec_l1Same r178 r181).bind fun r184 =>
  some r184 else some false)).bind fun s167 =>
  (bif s167 then (app s155.1 ([k157])).bind fun y204 =>
  some y204 else some s155.1).bind fun s195 =>
  (idx r3 k157).bind fun x206 =>
  (bif x206 then (idx clone k157).bind fun x209 =>
  (s_spec_l17Part n x209 2).bind fun r214 =>
  (s_spec_l17Ys n).bind fun r217 =>
  (s_spec_l1Same r214 r217).bind fun r220 =>
  (idx s155.2 k157).bind fun x221 =>
  some (.nx (s195, List.set s155.2 (Int.toNat k157) r220)) else (idx s155.2 k157).bind fun x224 =>
  some (.nx (s195, List.set s155.2 (Int.toNat k157) false)))) 0 (clone.length : Int) ([], y12)).bind fun o159 => after o159 (fun r_ => some r_) (fun s155 =>
  (s_spec_l17Chain s155.1 s155.2 ([r6, r6]) 11).bind fun r231 =>
  some (r231.1, r231.2))
set_option maxHeartbeats 4000000 in
theorem c_spec_l17Direct {M : Nat → Prop} {w : World} {pa0 : Option Addr} {pn0 pc0 : Nat} (n : Int) (clone : List (List Int)) (h0 : (RT.rs (RT.rs (RT.int .i64))).val M w (.slice pa0 pn0 pc0) clone ([])) (hM : ∀ g, w.heap.size ≤ g → M g) {r : (List Int) × Bool} (hs : s_spec_l17Direct n clone = some r) :
    Gives Try.prog 76 [(.int .i64 n), (.slice pa0 pn0 pc0)] w (fun v w' => ∃ (ra0 : Option Addr) (rn0 rc0 : Nat) (rf0 : List Nat), v = (.tuple #[(.slice ra0 rn0 rc0), (.bool r.2)]) ∧ Chg [] w w' ∧ (RT.os 3 (RT.int .i64)).val M w' (.slice ra0 rn0 rc0) r.1 rf0 ∧ Own (Nw w []) (fun _ => True) w' (rf0 ++ ([]))) := by
 refine calls_fr Try.func76 rfl Try.ntmps76 (Nat.le_of_ble_eq_true rfl) ?_
 have hO := Own.start (N := Nw w []) hM Nw.fut
 have hC := Chg.refl [] w
 unfold s_spec_l17Direct at hs
 refine wp_mono (Q := KPost (k_spec_l17Direct M w r)) ?_ (fun e a n1 h => ?_)
 rotate_left
 ·cases e
  case ret =>
   obtain ⟨σ, ra0, rn0, rc0, rf0, rfl, hrest⟩ := h
   exact ret2x Try.results76 (res_tmp rfl) (res_tmp rfl) ⟨ra0, rn0, rc0, rf0, rfl, hrest⟩
  all_goals exact (h : False).elim
 refine c_sr ?_
 refine pl_val (.slice none 0 0) (y_assign rfl) ?_
 refine pl_val (.bool false) (y_assign rfl) ?_
 refine c_nil ?_
 refine c_sr ?_
 refine pl_val (.int .i64 n) (y_move rfl) ?_
 refine pl_val (.slice pa0 pn0 pc0) (y_move rfl) ?_
 obtain ⟨r3, n2, hs⟩ := bind_some hs
 refine pl_call Bd104 rfl (c_spec_l17Allowed (M := M) n clone true h0 hO.fut n2) ?_
 rintro _ u9 ⟨b4, b5, b6, a6, rfl, i1, a0, n3⟩
 have h0 := h0.ext i1
 have hC := hC.ext i1
 have hO := Own.join0 hO i1 n3
 have hO := hO.perm (R := a6 ++ ([])) (by simp)
 refine pl_val (.slice b4 b5 b6) (y_assign rfl) ?_
 refine c_nil ?_
 refine c_sr ?_
 refine pl_val (.int .i64 n) (y_move rfl) ?_
 refine pl_val (.slice pa0 pn0 pc0) (y_move rfl) ?_
 refine pl_val (.slice b4 b5 b6) (y_move rfl) ?_
 obtain ⟨r6, n4, hs⟩ := bind_some hs
 refine pl_call Bd103 rfl (c_spec_l17May (M := (Less M a6)) n clone 2 1 r3 (h0.sub Less.sub) (((Frz.os Frz.bool)).val a0 Less.sub Less.not) hO.less.fut n4) ?_
 rintro _ l0 ⟨a7, a8, a9, b1, rfl, h4, a1, n5⟩
 have h0 := h0.ext h4
 have a0 := a0.ext h4
 have hC := hC.ext h4
 have hO := Own.join0 hO h4 n5
 have hO := hO.perm (R := b1 ++ (a6 ++ ([]))) (by simp)
 have a1 := a1.free (M' := M) (Free.os (Free.os Free.bool))
 refine pl_val (.slice a7 a8 a9) (y_assign rfl) ?_
 refine c_nil ?_
 refine c_seq ?_
 obtain ⟨y12, l1, hs⟩ := bind_some hs
 refine c_mid (I := fun a c8 => ∃ (σ : Nat → Value) (b7 : Option Addr) (b8 : Nat) (h5 : List Nat) (e0 : Nat) (b9 : Nat), a = fr 73 (ovl σ [(0, (.int .i64 n)), (1, (.slice pa0 pn0 pc0)), (4, (.slice none 0 0)), (5, (.bool false)), (6, (.slice b4 b5 b6)), (7, (.slice a7 a8 a9)), (8, (.slice (some ⟨e0, 0, none⟩) 0 0)), (9, (.slice b7 b9 b8))]) ∧ Chg [] w c8 ∧ Own (Nw w []) M c8 (h5 ++ (([e0]) ++ (b1 ++ (a6 ++ [])))) ∧ (RT.rs (RT.rs (RT.int .i64))).val M c8 (.slice pa0 pn0 pc0) clone ([]) ∧ (RT.os 4 RT.bool).val M c8 (.slice b4 b5 b6) r3 a6 ∧ (RT.os 56 (RT.os 4 RT.bool)).val M c8 (.slice a7 a8 a9) r6 b1 ∧ (RT.os 3 (RT.int .i64)).val M c8 (.slice (some ⟨e0, 0, none⟩) 0 0) ([]) ([e0]) ∧ (RT.os 4 RT.bool).val M c8 (.slice b7 b9 b8) y12 h5) ?_ ?_
 ·skip
  refine x_start [] Mx rfl ?_
  have f4 := Chg.drew l0
  generalize World.drew l0 = i2 at f4 ⊢
  have h0 := h0.ext f4
  have a0 := a0.ext f4
  have a1 := a1.ext f4
  have hC := hC.ext f4
  have hO := hO.ext f4
  have hS := Chg.refl [] i2
  refine x_p 1 (.slice pa0 pn0 pc0) rfl (by kernel_rfl)  (fun _ => y_move rfl) (fun _ => hS) ?_
  refine x_p 2 (.int .i64 (clone.length : Int)) rfl (by kernel_rfl)  (fun _ => y_len' Sl47 (rs_len h0) rfl) (fun _ => hS) ?_
  refine x_two (i := 0) (j := 3) (by kernel_rfl) ?_ ?_
  ·skip
   obtain ⟨i3, f8, n6, l2, e1, l3⟩ := new_block i2 [] 3
   refine xk_val (w' := i3) (b := false) (.slice (some ⟨f8, 0, none⟩) 0 0) rfl  (y_bslice rfl (by rw [n6, l2]; kernel_rfl)) rfl (fun _ => hS.ext e1) ?_
   have h0 := h0.ext e1
   have a0 := a0.ext e1
   have a1 := a1.ext e1
   have hC := hC.ext e1
   have hO := hO.new1 e1 l2 l3.lt
   have f9 := os_of_box (r := (RT.int .i64)) (M := M) (css := []) (fps := []) (xs := ([] : List Int)) l3 trivial (Nat.zero_le _) (List.nodup_cons.2 ⟨(fun h => nomatch h), List.nodup_nil⟩)
   have f9 : (RT.os 3 (RT.int .i64)).val M i3 (.slice (some ⟨f8, 0, none⟩) 0 0) [] [f8] := f9
   have hS := hS.ext e1
   refine x_p 4 (.slice (some ⟨f8, 0, none⟩) 0 0) rfl (by kernel_rfl)  (fun _ => y_assign rfl) (fun _ => hS) ?_
   refine x_one (i := 3) (by kernel_rfl) ?_
   obtain ⟨i4, i5, i6, n7, n8, n9, c9, o0, i7⟩ := mk_os (M := M) (w := i3) (r := RT.bool) Rw56 l1 (fun _ _ => ⟨rfl, rfl⟩)
   refine xk_val (w' := n7) (b := false) (.slice i4 i5 i6) rfl  (y_make rfl rfl n9) rfl (fun _ => hS.ext c9) ?_
   have h0 := h0.ext c9
   have a0 := a0.ext c9
   have a1 := a1.ext c9
   have f9 := f9.ext c9
   have hC := hC.ext c9
   have hO := hO.new c9 o0 (os_nodup i7) i7.fpl
   have hS := hS.ext c9
   refine x_p 5 (.slice i4 i5 i6) rfl (by kernel_rfl)  (fun _ => y_assign rfl) (fun _ => hS) ?_
   refine x_end (by kernel_rfl) ?_
   clear hS
   have hO := hO.fr3
   have hO := hO.fr3
   have hO := hO.fr3
   have hO := hO.fr3
   exact ⟨_, i4, i6, n8, f8, i5, fr_ovl 73 ⟨rfl, rfl, rfl, rfl, rfl, rfl, rfl, rfl, trivial⟩, hC, hO, h0, a0, a1, f9, i7⟩
  ·skip
   obtain ⟨i9, j0, j1, l4, o1, o2, e2, o3, g0⟩ := mk_os (M := M) (w := i2) (r := RT.bool) Rw56 l1 (fun _ _ => ⟨rfl, rfl⟩)
   refine xk_val (w' := l4) (b := false) (.slice i9 j0 j1) rfl  (y_make rfl rfl o2) rfl (fun _ => hS.ext e2) ?_
   have h0 := h0.ext e2
   have a0 := a0.ext e2
   have a1 := a1.ext e2
   have hC := hC.ext e2
   have hO := hO.new e2 o3 (os_nodup g0) g0.fpl
   have hS := hS.ext e2
   refine x_one (i := 0) (by kernel_rfl) ?_
   obtain ⟨l5, g1, o4, l6, d0, l7⟩ := new_block l4 [] 3
   refine xk_val (w' := l5) (b := false) (.slice (some ⟨g1, 0, none⟩) 0 0) rfl  (y_bslice rfl (by rw [o4, l6]; kernel_rfl)) rfl (fun _ => hS.ext d0) ?_
   have h0 := h0.ext d0
   have a0 := a0.ext d0
   have a1 := a1.ext d0
   have g0 := g0.ext d0
   have hC := hC.ext d0
   have hO := hO.new1 d0 l6 l7.lt
   have j2 := os_of_box (r := (RT.int .i64)) (M := M) (css := []) (fps := []) (xs := ([] : List Int)) l7 trivial (Nat.zero_le _) (List.nodup_cons.2 ⟨(fun h => nomatch h), List.nodup_nil⟩)
   have j2 : (RT.os 3 (RT.int .i64)).val M l5 (.slice (some ⟨g1, 0, none⟩) 0 0) [] [g1] := j2
   have hS := hS.ext d0
   refine x_p 4 (.slice (some ⟨g1, 0, none⟩) 0 0) rfl (by kernel_rfl)  (fun _ => y_assign rfl) (fun _ => hS) ?_
   refine x_p 5 (.slice i9 j0 j1) rfl (by kernel_rfl)  (fun _ => y_assign rfl) (fun _ => hS) ?_
   refine x_end (by kernel_rfl) ?_
   clear hS
   have hO := hO.fr3
   have hO := hO.fr3
   have hO := hO.fr2
   have hO := hO.fr3
   exact ⟨_, i9, j1, o1, g1, j0, fr_ovl 73 ⟨rfl, rfl, rfl, rfl, rfl, rfl, rfl, rfl, trivial⟩, hC, hO, h0, a0, a1, j2, g0⟩
 rintro h6 c8 ⟨σ, b7, b8, h5, e0, b9, rfl, hC, hO, h0, a0, a1, o5, o6⟩
 refine c_seq ?_
 refine c_sr ?_
 refine pl_val (.int .i64 0) (y_assign rfl) ?_
 refine c_nil ?_
 obtain ⟨o159, o7, hs⟩ := bind_some hs
 refine wp_block ?_
 refine wp_forC (id := 0) (clone.length : Int) (I := fun k157 s155 a a3 => ∃ (σ : Nat → Value) (d1 : Option Addr) (d2 : Nat) (d3 : Nat) (d4 : List Nat) (b2 : List Nat), a = fr 73 (ovl σ [(0, (.int .i64 n)), (1, (.slice pa0 pn0 pc0)), (6, (.slice b4 b5 b6)), (7, (.slice a7 a8 a9)), (8, (.slice d1 d2 d3)), (9, (.slice b7 b9 b8)), (10, (.int .i64 k157))]) ∧ Chg [] w a3 ∧ Own (Nw w []) M a3 (d4 ++ (b2 ++ (b1 ++ (a6 ++ [])))) ∧ (RT.rs (RT.rs (RT.int .i64))).val M a3 (.slice pa0 pn0 pc0) clone ([]) ∧ (RT.os 4 RT.bool).val M a3 (.slice b4 b5 b6) r3 a6 ∧ (RT.os 56 (RT.os 4 RT.bool)).val M a3 (.slice a7 a8 a9) r6 b1 ∧ (RT.os 4 RT.bool).val M a3 (.slice b7 b9 b8) s155.2 b2 ∧ (RT.os 3 (RT.int .i64)).val M a3 (.slice d1 d2 d3) s155.1 d4) (J := fun s155 a a3 => ∃ (σ : Nat → Value) (h7 : Option Addr) (h8 : Nat) (h9 : Nat) (g2 : List Nat) (g3 : List Nat), a = fr 73 (ovl σ [(7, (.slice a7 a8 a9)), (8, (.slice h7 h8 h9)), (9, (.slice b7 b9 b8))]) ∧ Chg [] w a3 ∧ Own (Nw w []) M a3 (g2 ++ (g3 ++ (b1 ++ (a6 ++ [])))) ∧ (RT.rs (RT.rs (RT.int .i64))).val M a3 (.slice pa0 pn0 pc0) clone ([]) ∧ (RT.os 4 RT.bool).val M a3 (.slice b4 b5 b6) r3 a6 ∧ (RT.os 56 (RT.os 4 RT.bool)).val M a3 (.slice a7 a8 a9) r6 b1 ∧ (RT.os 4 RT.bool).val M a3 (.slice b7 b9 b8) s155.2 g3 ∧ (RT.os 3 (RT.int .i64)).val M a3 (.slice h7 h8 h9) s155.1 g2) (K := (k_spec_l17Direct M w)) ?_ ?_ 0 ([], y12) o159 _ _ ?_ o7 ?_
 ·rintro k157 s155 a a3 ⟨σ, d1, d2, d3, d4, b2, rfl, hC, hO, h0, a0, a1, a2, b0⟩ hlt
  refine c_seq ?_
  refine c_sr ?_
  refine pl_val (.int .i64 k157) (y_move rfl) ?_
  refine pl_val (.slice pa0 pn0 pc0) (y_move rfl) ?_
  refine pl_val (.int .i64 (clone.length : Int)) (y_len' Sl47 (rs_len h0) rfl) ?_
  refine pl_val (.bool (decide (k157 < (clone.length : Int)))) (y_lss rfl rfl) ?_
  refine c_nil ?_
  refine c_condF (congrArg Value.bool (decide_eq_false hlt)) ?_
  refine wp_exit ?_
  have hO := hO.fr3
  have hO := hO.fr3
  have hO := hO.fr3
  have hO := hO.fr3
  exact ⟨rfl, _, d1, d2, d3, d4, b2, fr_ovl 73 ⟨rfl, rfl, rfl, trivial⟩, hC, hO, h0, a0, a1, a2, b0⟩
 ·rintro k157 s155 o159 a a3 ⟨σ, d1, d2, d3, d4, b2, rfl, hC, hO, h0, a0, a1, a2, b0⟩ hlt hw hs
  refine c_seq ?_
  refine c_sr ?_
  refine pl_val (.int .i64 k157) (y_move rfl) ?_
  refine pl_val (.slice pa0 pn0 pc0) (y_move rfl) ?_
  refine pl_val (.int .i64 (clone.length : Int)) (y_len' Sl47 (rs_len h0) rfl) ?_
  refine pl_val (.bool (decide (k157 < (clone.length : Int)))) (y_lss rfl rfl) ?_
  refine c_nil ?_
  refine c_condT (congrArg Value.bool (decide_eq_true hlt)) ?_
  refine wp_skip ?_
  refine c_seq ?_
  refine wp_block ?_
  refine c_seq ?_
  refine c_seq ?_
  obtain ⟨s167, o8, hs⟩ := bind_some hs
  refine c_mid (I := fun a j3 => ∃ (σ : Nat → Value), a = fr 73 (ovl σ [(0, (.int .i64 n)), (1, (.slice pa0 pn0 pc0)), (6, (.slice b4 b5 b6)), (7, (.slice a7 a8 a9)), (8, (.slice d1 d2 d3)), (9, (.slice b7 b9 b8)), (10, (.int .i64 k157)), (42, (.bool s167))]) ∧ Chg [] a3 j3) ?_ ?_
  ·replace hs := o8
   have hMid := Chg.refl [] a3
   refine c_region ?_
   refine pl_val (.slice b4 b5 b6) (y_move rfl) ?_
   refine pl_val (.int .i64 k157) (y_move rfl) ?_
   obtain ⟨x170, o9, hs⟩ := bind_some hs
   obtain ⟨p0, v0, v1, v2, p1, e3, v3⟩ := os_idx Sl56 Sz4 a0 o9
   refine pl_val (.pointer (some ⟨p0, 0 + Int.toNat k157 * 1, none⟩)) (p1 _ _ _ _ _ _ _ _ _ rfl rfl) ?_
   refine pl_val (.bool x170) (y_load rfl ((at_load_bool Ag4 Sz4 e3) _ (Chg.refl _ _))) ?_
   refine pl_val (.bool x170) (y_move rfl) ?_
   rcases bif_some hs with ⟨a4, hs⟩ | ⟨a4, hs⟩
   ·skip
    refine pl_yes (.int .i64 n) (tg := 32) (by kernel_rfl) (congrArg Value.bool a4) (y_move rfl) ?_
    refine pl_yes (.slice pa0 pn0 pc0) (tg := 32) (by kernel_rfl) (congrArg Value.bool a4) (y_move rfl) ?_
    refine pl_yes (.int .i64 k157) (tg := 32) (by kernel_rfl) (congrArg Value.bool a4) (y_move rfl) ?_
    obtain ⟨x173, p2, hs⟩ := bind_some hs
    obtain ⟨p3, p4, p5, e4⟩ := rs_idx Sl47 Sz37 h0 p2
    refine pl_yes (.pointer (some ⟨p3, p4, none⟩)) (tg := 32) (by kernel_rfl) (congrArg Value.bool a4) (p5 _ _ _ _ _ _ _ _ _ rfl rfl) ?_
    obtain ⟨v4, p6, d5⟩ := at_load Ag37 Sz37 (fun _ => rfl) e4
    obtain ⟨p7, p8, p9, rfl⟩ := rs_sl d5
    refine pl_yes (.slice p7 p8 p9) (tg := 32) (by kernel_rfl) (congrArg Value.bool a4) (y_load rfl (p6 _ (Chg.refl _ _))) ?_
    obtain ⟨r178, q0, hs⟩ := bind_some hs
    refine pl_cally (tg := 32) (by kernel_rfl) (congrArg Value.bool a4) Bd67 rfl (c_spec_l17Part (M := M) n x173 1 d5 hO.fut q0) ?_
    rintro _ v5 ⟨v6, v7, v8, j4, rfl, c3, g4, q1⟩
    have h0 := h0.ext c3
    have a0 := a0.ext c3
    have a1 := a1.ext c3
    have a2 := a2.ext c3
    have b0 := b0.ext c3
    have d5 := d5.ext c3
    have hMid := hMid.ext c3
    have e3 := at_ext e3 c3
    have e4 := at_ext e4 c3
    have hC := hC.ext c3
    have hO := Own.join0 hO c3 q1
    have hO := hO.perm (R := j4 ++ (d4 ++ (b2 ++ (b1 ++ (a6 ++ ([])))))) (by simp)
    refine pl_yes (.int .i64 n) (tg := 32) (by kernel_rfl) (congrArg Value.bool a4) (y_move rfl) ?_
    obtain ⟨r181, q2, hs⟩ := bind_some hs
    refine pl_cally (tg := 32) (by kernel_rfl) (congrArg Value.bool a4) Bd71 rfl (c_spec_l17Xs (M := M) n  hO.fut q2) ?_
    rintro _ v9 ⟨w1, w2, w3, l8, rfl, c0, j5, q3⟩
    have h0 := h0.ext c0
    have a0 := a0.ext c0
    have a1 := a1.ext c0
    have a2 := a2.ext c0
    have b0 := b0.ext c0
    have d5 := d5.ext c0
    have g4 := g4.ext c0
    have hMid := hMid.ext c0
    have e3 := at_ext e3 c0
    have e4 := at_ext e4 c0
    have hC := hC.ext c0
    have hO := Own.join0 hO c0 q3
    have hO := hO.perm (R := l8 ++ (j4 ++ (d4 ++ (b2 ++ (b1 ++ (a6 ++ ([]))))))) (by simp)
    have hO := hO.fr1
    obtain ⟨r184, q4, hs⟩ := bind_some hs
    refine pl_cally (tg := 32) (by kernel_rfl) (congrArg Value.bool a4) Bd66 rfl (c_spec_l1Same (M := (Less (Less M j4) l8)) r178 r181 ((((Frz.os Frz.int)).val g4 Less.sub Less.not).sub Less.sub) (((Frz.os Frz.int)).val (j5.sub Less.sub) Less.sub Less.not) (hO.less).less.fut q4) ?_
    rintro _ w4 ⟨rfl, b3⟩
    have h0 := h0.ext b3
    have a0 := a0.ext b3
    have a1 := a1.ext b3
    have a2 := a2.ext b3
    have b0 := b0.ext b3
    have d5 := d5.ext b3
    have g4 := g4.ext b3
    have j5 := j5.ext b3
    have hMid := hMid.ext b3
    have e3 := at_ext e3 b3
    have e4 := at_ext e4 b3
    have hC := hC.ext b3
    have hO := hO.ext b3
    refine pl_val (.bool r184) (y_pick_t (congrArg Value.bool a4) rfl) ?_
    refine c_nil ?_
    cases hs
    exact ⟨_, fr_ovl 73 ⟨rfl, rfl, rfl, rfl, rfl, rfl, rfl, rfl, trivial⟩, hMid⟩
   refine pl_not (tg := 32) (by kernel_rfl) (congrArg Value.bool a4) ?_
   refine pl_not (tg := 32) (by kernel_rfl) (congrArg Value.bool a4) ?_
   refine pl_not (tg := 32) (by kernel_rfl) (congrArg Value.bool a4) ?_
   refine pl_not (tg := 32) (by kernel_rfl) (congrArg Value.bool a4) ?_
   refine pl_not (tg := 32) (by kernel_rfl) (congrArg Value.bool a4) ?_
   refine pl_not (tg := 32) (by kernel_rfl) (congrArg Value.bool a4) ?_
   refine pl_not (tg := 32) (by kernel_rfl) (congrArg Value.bool a4) ?_
   refine pl_not (tg := 32) (by kernel_rfl) (congrArg Value.bool a4) ?_
   refine pl_not (tg := 32) (by kernel_rfl) (congrArg Value.bool a4) ?_
   refine pl_val (.bool false) (y_pick_f (congrArg Value.bool a4) rfl) ?_
   refine c_nil ?_
   cases hs
   exact ⟨_, fr_ovl 73 ⟨rfl, rfl, rfl, rfl, rfl, rfl, rfl, rfl, trivial⟩, hMid⟩
  rintro h6 j3 ⟨σ, rfl, e5⟩
  have h0 := h0.ext e5
  have a0 := a0.ext e5
  have a1 := a1.ext e5
  have a2 := a2.ext e5
  have b0 := b0.ext e5
  have hC := hC.ext e5
  have hO := hO.ext e5
  obtain ⟨s195, q5, hs⟩ := bind_some hs
  refine c_mid (I := fun a d6 => ∃ (σ : Nat → Value) (g5 : Option Addr) (g6 : Nat) (g7 : Nat) (e6 : List Nat), a = fr 73 (ovl σ [(0, (.int .i64 n)), (1, (.slice pa0 pn0 pc0)), (6, (.slice b4 b5 b6)), (7, (.slice a7 a8 a9)), (8, (.slice g5 g6 g7)), (9, (.slice b7 b9 b8)), (10, (.int .i64 k157))]) ∧ Chg [] w d6 ∧ Own (Nw w []) M d6 (e6 ++ (b2 ++ (b1 ++ (a6 ++ [])))) ∧ (RT.rs (RT.rs (RT.int .i64))).val M d6 (.slice pa0 pn0 pc0) clone ([]) ∧ (RT.os 4 RT.bool).val M d6 (.slice b4 b5 b6) r3 a6 ∧ (RT.os 56 (RT.os 4 RT.bool)).val M d6 (.slice a7 a8 a9) r6 b1 ∧ (RT.os 4 RT.bool).val M d6 (.slice b7 b9 b8) s155.2 b2 ∧ (RT.os 3 (RT.int .i64)).val M d6 (.slice g5 g6 g7) s195 e6) ?_ ?_
  ·replace hs := q5
   rcases bif_some hs with ⟨j6, hs⟩ | ⟨j6, hs⟩
   ·refine c_condT (congrArg Value.bool j6) ?_
    refine c_region ?_
    refine pl_val (.slice d1 d2 d3) (y_move rfl) ?_
    refine pl_val (.int .i64 k157) (y_move rfl) ?_
    obtain ⟨l9, j7, q6, m0, e7, m1⟩ := new_block j3 [(.int .i64 k157)] 3
    refine pl_val (w' := l9) (.slice (some ⟨j7, 0, none⟩) 1 1) (y_bslice rfl (by rw [q6, m0]; kernel_rfl)) ?_
    have h0 := h0.ext e7
    have a0 := a0.ext e7
    have a1 := a1.ext e7
    have a2 := a2.ext e7
    have b0 := b0.ext e7
    have hC := hC.ext e7
    have hO := hO.new1 e7 m0 m1.lt
    have j8 := os_of_box (r := (RT.int .i64)) (M := M) (css := [[(.int .i64 k157)]]) (fps := [([] : List Nat)]) (xs := ([k157] : List Int)) m1 ⟨⟨rfl, rfl⟩, trivial⟩ (Nat.le_of_ble_eq_true rfl) (List.nodup_cons.2 ⟨(fun h => nomatch h), List.nodup_nil⟩)
    have j8 : (RT.os 3 (RT.int .i64)).val M l9 (.slice (some ⟨j7, 0, none⟩) 1 1) [k157] [j7] := j8
    obtain ⟨y204, q7, hs⟩ := bind_some hs
    have hO := hO.fr1
    obtain ⟨j9, k0, k1, q8, q9, r0, f5, r1, k2⟩ := app_os Rw37 q7 b0 j8 hO.inM (fun g hg hq => hO.apart g hq (mem_l hg))
    have g8 := os_block b0
    refine pl_val (w' := q8) (.slice j9 k0 k1) (y_append rfl rfl (r0 _)) ?_
    have hO := hO.fr1
    have hO := hO.fr1
    have h0 := h0.mt f5 hO g8
    have a0 := a0.ma f5 hO g8 (fun _ e => (mem_r (mem_r (mem_r (mem_l (e))))))
    have a1 := a1.ma f5 hO g8 (fun _ e => (mem_r (mem_r (mem_l (e)))))
    have a2 := a2.ma f5 hO g8 (fun _ e => (mem_r (mem_l (e))))
    have hC := hC.st f5 hO g8
    have hO := hO.eat f5 r1 (os_nodup k2) k2.fpl
    refine pl_val (.slice j9 k0 k1) (y_assign rfl) ?_
    refine c_nil ?_
    cases hs
    have hO := hO.fr3
    have hO := hO.fr3
    have hO := hO.fr3
    have hO := hO.fr3
    exact ⟨_, j9, k0, k1, q9, fr_ovl 73 ⟨rfl, rfl, rfl, rfl, rfl, rfl, rfl, trivial⟩, hC, hO, h0, a0, a1, a2, k2⟩
   refine c_condF (congrArg Value.bool j6) ?_
   refine wp_skip ?_
   cases hs
   have hO := hO.fr3
   have hO := hO.fr3
   have hO := hO.fr3
   have hO := hO.fr3
   exact ⟨_, d1, d2, d3, d4, fr_ovl 73 ⟨rfl, rfl, rfl, rfl, rfl, rfl, rfl, trivial⟩, hC, hO, h0, a0, a1, a2, b0⟩
  rintro h6 d6 ⟨σ, g5, g6, g7, e6, rfl, hC, hO, h0, a0, a1, a2, c1⟩
  refine c_region ?_
  refine pl_val (.slice b7 b9 b8) (y_move rfl) ?_
  refine pl_val (.int .i64 k157) (y_move rfl) ?_
  refine pl_val (.slice b4 b5 b6) (y_move rfl) ?_
  refine pl_val (.int .i64 k157) (y_move rfl) ?_
  obtain ⟨x206, r2, hs⟩ := bind_some hs
  obtain ⟨r4, w5, w6, w7, r5, e8, w8⟩ := os_idx Sl56 Sz4 a0 r2
  refine pl_val (.pointer (some ⟨r4, 0 + Int.toNat k157 * 1, none⟩)) (r5 _ _ _ _ _ _ _ _ _ rfl rfl) ?_
  refine pl_val (.bool x206) (y_load rfl ((at_load_bool Ag4 Sz4 e8) _ (Chg.refl _ _))) ?_
  refine pl_val (.bool x206) (y_move rfl) ?_
  rcases bif_some hs with ⟨a5, hs⟩ | ⟨a5, hs⟩
  ·skip
   refine pl_yes (.int .i64 n) (tg := 53) (by kernel_rfl) (congrArg Value.bool a5) (y_move rfl) ?_
   refine pl_yes (.slice pa0 pn0 pc0) (tg := 53) (by kernel_rfl) (congrArg Value.bool a5) (y_move rfl) ?_
   refine pl_yes (.int .i64 k157) (tg := 53) (by kernel_rfl) (congrArg Value.bool a5) (y_move rfl) ?_
   obtain ⟨x209, r7, hs⟩ := bind_some hs
   obtain ⟨r8, r9, s0, e9⟩ := rs_idx Sl47 Sz37 h0 r7
   refine pl_yes (.pointer (some ⟨r8, r9, none⟩)) (tg := 53) (by kernel_rfl) (congrArg Value.bool a5) (s0 _ _ _ _ _ _ _ _ _ rfl rfl) ?_
   obtain ⟨w9, s1, c5⟩ := at_load Ag37 Sz37 (fun _ => rfl) e9
   obtain ⟨s2, s3, s4, rfl⟩ := rs_sl c5
   refine pl_yes (.slice s2 s3 s4) (tg := 53) (by kernel_rfl) (congrArg Value.bool a5) (y_load rfl (s1 _ (Chg.refl _ _))) ?_
   obtain ⟨r214, s5, hs⟩ := bind_some hs
   refine pl_cally (tg := 53) (by kernel_rfl) (congrArg Value.bool a5) Bd67 rfl (c_spec_l17Part (M := M) n x209 2 c5 hO.fut s5) ?_
   rintro _ x0 ⟨x1, x2, x3, k3, rfl, c6, f0, s6⟩
   have h0 := h0.ext c6
   have a0 := a0.ext c6
   have a1 := a1.ext c6
   have a2 := a2.ext c6
   have c1 := c1.ext c6
   have c5 := c5.ext c6
   have e8 := at_ext e8 c6
   have e9 := at_ext e9 c6
   have hC := hC.ext c6
   have hO := Own.join0 hO c6 s6
   have hO := hO.perm (R := k3 ++ (e6 ++ (b2 ++ (b1 ++ (a6 ++ ([])))))) (by simp)
   refine pl_yes (.int .i64 n) (tg := 53) (by kernel_rfl) (congrArg Value.bool a5) (y_move rfl) ?_
   obtain ⟨r217, s7, hs⟩ := bind_some hs
   refine pl_cally (tg := 53) (by kernel_rfl) (congrArg Value.bool a5) Bd72 rfl (c_spec_l17Ys (M := M) n  hO.fut s7) ?_
   rintro _ x4 ⟨x5, x6, x7, m2, rfl, c4, g9, s8⟩
   have h0 := h0.ext c4
   have a0 := a0.ext c4
   have a1 := a1.ext c4
   have a2 := a2.ext c4
   have c1 := c1.ext c4
   have c5 := c5.ext c4
   have f0 := f0.ext c4
   have e8 := at_ext e8 c4
   have e9 := at_ext e9 c4
   have hC := hC.ext c4
   have hO := Own.join0 hO c4 s8
   have hO := hO.perm (R := m2 ++ (k3 ++ (e6 ++ (b2 ++ (b1 ++ (a6 ++ ([]))))))) (by simp)
   have hO := hO.fr1
   obtain ⟨r220, s9, hs⟩ := bind_some hs
   refine pl_cally (tg := 53) (by kernel_rfl) (congrArg Value.bool a5) Bd66 rfl (c_spec_l1Same (M := (Less (Less M k3) m2)) r214 r217 ((((Frz.os Frz.int)).val f0 Less.sub Less.not).sub Less.sub) (((Frz.os Frz.int)).val (g9.sub Less.sub) Less.sub Less.not) (hO.less).less.fut s9) ?_
   rintro _ x8 ⟨rfl, c2⟩
   have h0 := h0.ext c2
   have a0 := a0.ext c2
   have a1 := a1.ext c2
   have a2 := a2.ext c2
   have c1 := c1.ext c2
   have c5 := c5.ext c2
   have f0 := f0.ext c2
   have g9 := g9.ext c2
   have e8 := at_ext e8 c2
   have e9 := at_ext e9 c2
   have hC := hC.ext c2
   have hO := hO.ext c2
   refine pl_val (.bool r220) (y_pick_t (congrArg Value.bool a5) rfl) ?_
   obtain ⟨x221, t0, hs⟩ := bind_some hs
   obtain ⟨m3, x9, m4, t1, t2, y0, y1⟩ := os_idx Sl56 Sz4 a2 t0
   refine pl_val (.pointer (some ⟨m3, 0 + Int.toNat k157 * 1, none⟩)) (t2 _ _ _ _ _ _ _ _ _ rfl rfl) ?_
   have hO := hO.fr3
   obtain ⟨t3, t4, t5, c7, t6, k4⟩ := os_store (P := Try.prog) (c' := [(.bool r220)]) m4 a2 t1 (fun g hg => hO.inM g (os_block a2 g (by simpa using hg))) ⟨rfl, rfl⟩ List.nodup_nil (fun _ h => nomatch h) (fun _ h => .inl h)
   have d7 : ∀ q ∈ [m3], q ∈ b2 := fun q hq => os_block a2 q (by rw [m4]; exact hq)
   refine pl_skip (w' := t3) (ys_store rfl rfl (t5 _ _ rfl Sz4)) ?_
   have h0 := h0.mt c7 hO d7
   have a0 := a0.ma c7 hO d7 (fun _ e => (mem_r (mem_r (mem_r (mem_r (mem_l (e)))))))
   have a1 := a1.ma c7 hO d7 (fun _ e => (mem_r (mem_r (mem_r (mem_l (e))))))
   have c1 := c1.ma c7 hO d7 (fun _ e => (mem_r (mem_r (mem_l (e)))))
   have c5 := c5.mt c7 hO d7
   have f0 := f0.ma c7 hO d7 (fun _ e => (mem_l (e)))
   have g9 := g9.ma c7 hO d7 (fun _ e => (mem_r (mem_l (e))))
   have hC := hC.st c7 hO d7
   have hO := hO.grow c7 (fun q hq => .inl ((t6 q hq).resolve_right (fun h => nomatch h))) (os_nodup k4) k4.fpl
   refine c_nil ?_
   refine c_region ?_
   refine pl_val (.int .i64 k157) (y_move rfl) ?_
   refine pl_val (.int .i64 (w64 (k157 + 1))) (y_add rfl rfl) ?_
   refine pl_val (.int .i64 (w64 (k157 + 1))) (y_assign rfl) ?_
   refine c_nil ?_
   cases hs
   have hO := hO.fr1
   have hO := hO.drop
   have hO := hO.fr1
   have hO := hO.drop
   have hO := hO.fr3
   have hO := hO.fr3
   have hO := hO.fr2
   have hO := hO.fr3
   exact ⟨_, g5, g6, g7, e6, t4, fr_ovl 73 ⟨rfl, rfl, rfl, rfl, rfl, rfl, congrArg (Value.int .i64) hw, trivial⟩, hC, hO, h0, a0, a1, k4, c1⟩
  refine pl_not (tg := 53) (by kernel_rfl) (congrArg Value.bool a5) ?_
  refine pl_not (tg := 53) (by kernel_rfl) (congrArg Value.bool a5) ?_
  refine pl_not (tg := 53) (by kernel_rfl) (congrArg Value.bool a5) ?_
  refine pl_not (tg := 53) (by kernel_rfl) (congrArg Value.bool a5) ?_
  refine pl_not (tg := 53) (by kernel_rfl) (congrArg Value.bool a5) ?_
  refine pl_not (tg := 53) (by kernel_rfl) (congrArg Value.bool a5) ?_
  refine pl_not (tg := 53) (by kernel_rfl) (congrArg Value.bool a5) ?_
  refine pl_not (tg := 53) (by kernel_rfl) (congrArg Value.bool a5) ?_
  refine pl_not (tg := 53) (by kernel_rfl) (congrArg Value.bool a5) ?_
  refine pl_val (.bool false) (y_pick_f (congrArg Value.bool a5) rfl) ?_
  obtain ⟨x224, t7, hs⟩ := bind_some hs
  obtain ⟨m5, y2, m6, t8, t9, y3, y4⟩ := os_idx Sl56 Sz4 a2 t7
  refine pl_val (.pointer (some ⟨m5, 0 + Int.toNat k157 * 1, none⟩)) (t9 _ _ _ _ _ _ _ _ _ rfl rfl) ?_
  have hO := hO.fr1
  obtain ⟨u0, u1, u2, f6, u3, k5⟩ := os_store (P := Try.prog) (c' := [(.bool false)]) m6 a2 t8 (fun g hg => hO.inM g (os_block a2 g (by simpa using hg))) ⟨rfl, rfl⟩ List.nodup_nil (fun _ h => nomatch h) (fun _ h => .inl h)
  have h1 : ∀ q ∈ [m5], q ∈ b2 := fun q hq => os_block a2 q (by rw [m6]; exact hq)
  refine pl_skip (w' := u0) (ys_store rfl rfl (u2 _ _ rfl Sz4)) ?_
  have h0 := h0.mt f6 hO h1
  have a0 := a0.ma f6 hO h1 (fun _ e => (mem_r (mem_r (mem_l (e)))))
  have a1 := a1.ma f6 hO h1 (fun _ e => (mem_r (mem_l (e))))
  have c1 := c1.ma f6 hO h1 (fun _ e => (mem_l (e)))
  have hC := hC.st f6 hO h1
  have hO := hO.grow f6 (fun q hq => .inl ((u3 q hq).resolve_right (fun h => nomatch h))) (os_nodup k5) k5.fpl
  refine c_nil ?_
  refine c_region ?_
  refine pl_val (.int .i64 k157) (y_move rfl) ?_
  refine pl_val (.int .i64 (w64 (k157 + 1))) (y_add rfl rfl) ?_
  refine pl_val (.int .i64 (w64 (k157 + 1))) (y_assign rfl) ?_
  refine c_nil ?_
  cases hs
  have hO := hO.fr3
  have hO := hO.fr3
  have hO := hO.fr2
  have hO := hO.fr3
  exact ⟨_, g5, g6, g7, e6, u1, fr_ovl 73 ⟨rfl, rfl, rfl, rfl, rfl, rfl, congrArg (Value.int .i64) hw, trivial⟩, hC, hO, h0, a0, a1, k5, c1⟩
 ·skip
  have hO := hO.fr3
  have hO := hO.fr3
  have hO := hO.fr2
  have hO := hO.fr3
  exact ⟨_, (some ⟨e0, 0, none⟩), 0, 0, ([e0]), h5, fr_ovl 73 ⟨rfl, rfl, rfl, rfl, rfl, rfl, rfl, trivial⟩, hC, hO, h0, a0, a1, o6, o5⟩
 cases o159 with
 | nx _ => exact True.intro
 | rt r_ =>
  have hs := after_rt hs
  intro h6 n1 hK
  cases hs
  exact hK
 | br s155 =>
  have hs := after_br hs
  rintro h6 a3 ⟨σ, h7, h8, h9, g2, g3, rfl, hC, hO, h0, a0, a1, f1, f2⟩
  refine c_sr ?_
  refine pl_val (.slice h7 h8 h9) (y_move rfl) ?_
  refine pl_val (.slice b7 b9 b8) (y_move rfl) ?_
  refine pl_val (.slice a7 a8 a9) (y_move rfl) ?_
  refine pl_val (.slice a7 a8 a9) (y_move rfl) ?_
  have hO := hO.fr2
  obtain ⟨d8, y5, i0, u4, hO, f7⟩ := frz_own (Frz.os (Frz.os Frz.bool)) a1 hO
  have h0 := h0.sub (M' := d8) i0
  have a0 := a0.sub (M' := d8) i0
  have f1 := f1.sub (M' := d8) i0
  have f2 := f2.sub (M' := d8) i0
  have hK := u4
  obtain ⟨m7, h2, u5, m8, f3, m9⟩ := new_block a3 [(.slice a7 a8 a9), (.slice a7 a8 a9)] 106
  refine pl_val (w' := m7) (.slice (some ⟨h2, 0, none⟩) 2 2) (y_bslice rfl (by rw [u5, m8]; kernel_rfl)) ?_
  have h0 := h0.ext f3
  have a0 := a0.ext f3
  have f7 := f7.ext f3
  have f1 := f1.ext f3
  have f2 := f2.ext f3
  have hC := hC.ext f3
  have hO := hO.new1 f3 m8 m9.lt
  have h3 := os_of_box (r := (RT.rs (RT.rs RT.bool))) (M := d8) (css := [[(.slice a7 a8 a9)], [(.slice a7 a8 a9)]]) (fps := [([] : List Nat), ([] : List Nat)]) (xs := ([r6, r6] : List (List (List Bool)))) m9 ⟨(rs_unval f7), ⟨(rs_unval f7), trivial⟩⟩ (Nat.le_of_ble_eq_true rfl) (List.nodup_cons.2 ⟨(fun h => nomatch h), List.nodup_nil⟩)
  have h3 : (RT.os 106 (RT.rs (RT.rs RT.bool))).val d8 m7 (.slice (some ⟨h2, 0, none⟩) 2 2) [r6, r6] [h2] := h3
  have hO := hO.fr2
  have hO := hO.fr2
  obtain ⟨r231, u6, hs⟩ := bind_some hs
  refine pl_call Bd105 rfl (c_spec_l17Chain (M := (Less (Less (Less d8 g2) g3) ([h2]))) s155.1 s155.2 ([r6, r6]) 11 (((((Frz.os Frz.int)).val f2 Less.sub Less.not).sub Less.sub).sub Less.sub) ((((Frz.os Frz.bool)).val (f1.sub Less.sub) Less.sub Less.not).sub Less.sub) (((Frz.os (Frz.rs (Frz.rs Frz.bool)))).val ((h3.sub Less.sub).sub Less.sub) Less.sub Less.not) ((hO.less).less).less.fut u6) ?_
  rintro _ y6 ⟨k6, k7, k8, n0, rfl, d9, k9, u7⟩
  have h0 := h0.ext d9
  have a0 := a0.ext d9
  have f7 := f7.ext d9
  have f1 := f1.ext d9
  have f2 := f2.ext d9
  have h3 := h3.ext d9
  have hC := hC.ext d9
  have hO := Own.join0 hO d9 u7
  have hO := hO.perm (R := n0 ++ (g2 ++ (g3 ++ (([h2]) ++ (a6 ++ ([])))))) (by simp)
  have k9 := k9.free (M' := d8) (Free.os Free.int)
  refine pl_val (.slice k6 k7 k8) (y_extract rfl (by kernel_rfl)) ?_
  refine pl_val (.bool r231.2) (y_extract rfl (by kernel_rfl)) ?_
  refine pl_val (.slice k6 k7 k8) (y_assign rfl) ?_
  refine pl_val (.bool r231.2) (y_assign rfl) ?_
  refine c_nil ?_
  refine wp_ret ?_
  cases hs
  have hO := hO.fr1
  have hO := hO.drop
  have hO := hO.fr1
  have hO := hO.drop
  have hO := hO.fr1
  have hO := hO.drop
  have hO := hO.fr1
  have hO := hO.drop
  exact ⟨_, k6, k7, k8, n0, fr_ovl 73 ⟨rfl, rfl, trivial⟩, hC, (k9.free (Free.os Free.int)), hO.top⟩

def k_spec_l1Own (M : Nat → Prop) (w0 : World) (r : (List Int)) (a : Act) (w : World) : Prop :=
  ∃ (σ : Nat → Value) (ra0 : Option Addr) (rn0 rc0 : Nat) (rf0 : List Nat), a = fr 6 (ovl σ [(2, (.slice ra0 rn0 rc0))]) ∧ Chg [] w0 w ∧ (RT.os 3 (RT.int .i64)).val M w (.slice ra0 rn0 rc0) r rf0 ∧ Own (Nw w0 []) (fun _ => True) w (rf0 ++ ([]))
def s_spec_l1Own (l : List Int) : Option ((List Int)) :=
  (app ([]) l).bind fun y5 =>
  some y5
set_option maxHeartbeats 4000000 in
theorem c_spec_l1Own {M : Nat → Prop} {w : World} {pa0 : Option Addr} {pn0 pc0 : Nat} (l : List Int) (h0 : (RT.rs (RT.int .i64)).val M w (.slice pa0 pn0 pc0) l ([])) (hM : ∀ g, w.heap.size ≤ g → M g) {r : (List Int)} (hs : s_spec_l1Own l = some r) :
    Gives Try.prog 80 [(.slice pa0 pn0 pc0)] w (fun v w' => ∃ (ra0 : Option Addr) (rn0 rc0 : Nat) (rf0 : List Nat), v = (.slice ra0 rn0 rc0) ∧ Chg [] w w' ∧ (RT.os 3 (RT.int .i64)).val M w' (.slice ra0 rn0 rc0) r rf0 ∧ Own (Nw w []) (fun _ => True) w' (rf0 ++ ([]))) := by
 refine calls_fr Try.func80 rfl Try.ntmps80 (Nat.le_of_ble_eq_true rfl) ?_
 have hO := Own.start (N := Nw w []) hM Nw.fut
 have hC := Chg.refl [] w
 unfold s_spec_l1Own at hs
 refine wp_mono (Q := KPost (k_spec_l1Own M w r)) ?_ (fun e a b8 h => ?_)
 rotate_left
 ·cases e
  case ret =>
   obtain ⟨σ, ra0, rn0, rc0, rf0, rfl, hrest⟩ := h
   exact ret1x Try.results80 (res_tmp rfl) ⟨ra0, rn0, rc0, rf0, rfl, hrest⟩
  all_goals exact (h : False).elim
 refine c_sr ?_
 refine pl_val (.slice none 0 0) (y_assign rfl) ?_
 refine c_nil ?_
 refine c_sr ?_
 obtain ⟨a8, a1, b2, a9, a2, b0⟩ := new_block w [] 3
 refine pl_val (w' := a8) (.slice (some ⟨a1, 0, none⟩) 0 0) (y_bslice rfl (by rw [b2, a9]; kernel_rfl)) ?_
 have h0 := h0.ext a2
 have hC := hC.ext a2
 have hO := hO.new1 a2 a9 b0.lt
 have a0 := os_of_box (r := (RT.int .i64)) (M := M) (css := []) (fps := []) (xs := ([] : List Int)) b0 trivial (Nat.zero_le _) (List.nodup_cons.2 ⟨(fun h => nomatch h), List.nodup_nil⟩)
 have a0 : (RT.os 3 (RT.int .i64)).val M a8 (.slice (some ⟨a1, 0, none⟩) 0 0) [] [a1] := a0
 refine pl_val (.slice pa0 pn0 pc0) (y_move rfl) ?_
 obtain ⟨y5, b3, hs⟩ := bind_some hs
 obtain ⟨a3, a4, a5, b4, b5, b6, a6, b7, a7⟩ := app_rs Rw37 b3 a0 h0 hO.inM
 have b1 := os_block a0
 refine pl_val (w' := b4) (.slice a3 a4 a5) (y_append rfl rfl (b6 _)) ?_
 have h0 := h0.mt a6 hO b1
 have hC := hC.st a6 hO b1
 have hO := hO.grow a6 b7 (os_nodup a7) a7.fpl
 refine pl_val (.slice a3 a4 a5) (y_assign rfl) ?_
 refine c_nil ?_
 refine wp_ret ?_
 cases hs
 exact ⟨_, a3, a4, a5, b5, fr_ovl 6 ⟨rfl, trivial⟩, hC, a7, hO.top⟩

theorem Bd80 : Bodied Try.prog 80 := bodied Try.func80 (by kernel_rfl) rfl

def k_spec_l17Give (M : Nat → Prop) (w0 : World) (r : (List (Int × (List Int)))) (a : Act) (w : World) : Prop :=
  ∃ (σ : Nat → Value) (ra0 : Option Addr) (rn0 rc0 : Nat) (rf0 : List Nat), a = fr 27 (ovl σ [(4, (.slice ra0 rn0 rc0))]) ∧ Chg [] w0 w ∧ (RT.os 64 (RT.pr (RT.int .i64) (RT.os 3 (RT.int .i64)))).val M w (.slice ra0 rn0 rc0) r rf0 ∧ Own (Nw w0 []) (fun _ => True) w (rf0 ++ ([]))
def s_spec_l17Give (clone : List (List Int)) (places : List Int) : Option ((List (Int × (List Int)))) :=
  (forC (S := (List (Int × (List Int)))) (R := (List (Int × (List Int)))) (fun k23 s21 =>
  (idx places k23).bind fun x31 =>
  (idx clone x31).bind fun x33 =>
  (s_spec_l1Own x33).bind fun r38 =>
  (app s21 ([(3, r38)])).bind fun y43 =>
  some (.nx y43)) 0 (places.length : Int) ([])).bind fun o25 => after o25 (fun r_ => some r_) (fun s21 =>
  some s21)
set_option maxHeartbeats 4000000 in
theorem c_spec_l17Give {M : Nat → Prop} {w : World} {pa0 : Option Addr} {pn0 pc0 : Nat} {pa1 : Option Addr} {pn1 pc1 : Nat} (clone : List (List Int)) (places : List Int) (h0 : (RT.rs (RT.rs (RT.int .i64))).val M w (.slice pa0 pn0 pc0) clone ([])) (h1 : (RT.rs (RT.int .i64)).val M w (.slice pa1 pn1 pc1) places ([])) (hM : ∀ g, w.heap.size ≤ g → M g) {r : (List (Int × (List Int)))} (hs : s_spec_l17Give clone places = some r) :
    Gives Try.prog 40 [(.slice pa0 pn0 pc0), (.slice pa1 pn1 pc1)] w (fun v w' => ∃ (ra0 : Option Addr) (rn0 rc0 : Nat) (rf0 : List Nat), v = (.slice ra0 rn0 rc0) ∧ Chg [] w w' ∧ (RT.os 64 (RT.pr (RT.int .i64) (RT.os 3 (RT.int .i64)))).val M w' (.slice ra0 rn0 rc0) r rf0 ∧ Own (Nw w []) (fun _ => True) w' (rf0 ++ ([]))) := by
 refine calls_fr Try.func40 rfl Try.ntmps40 (Nat.le_of_ble_eq_true rfl) ?_
 have hO := Own.start (N := Nw w []) hM Nw.fut
 have hC := Chg.refl [] w
 unfold s_spec_l17Give at hs
 refine wp_mono (Q := KPost (k_spec_l17Give M w r)) ?_ (fun e a d7 h => ?_)
 rotate_left
 ·cases e
  case ret =>
   obtain ⟨σ, ra0, rn0, rc0, rf0, rfl, hrest⟩ := h
   exact ret1x Try.results40 (res_tmp rfl) ⟨ra0, rn0, rc0, rf0, rfl, hrest⟩
  all_goals exact (h : False).elim
 refine c_sr ?_
 refine pl_val (.slice none 0 0) (y_assign rfl) ?_
 refine c_nil ?_
 refine c_sr ?_
 obtain ⟨d1, a6, d8, d2, b6, d3⟩ := new_block w [] 64
 refine pl_val (w' := d1) (.slice (some ⟨a6, 0, none⟩) 0 0) (y_bslice rfl (by rw [d8, d2]; kernel_rfl)) ?_
 have h0 := h0.ext b6
 have h1 := h1.ext b6
 have hC := hC.ext b6
 have hO := hO.new1 b6 d2 d3.lt
 have c1 := os_of_box (r := (RT.pr (RT.int .i64) (RT.os 3 (RT.int .i64)))) (M := M) (css := []) (fps := []) (xs := ([] : List (Int × (List Int)))) d3 trivial (Nat.zero_le _) (List.nodup_cons.2 ⟨(fun h => nomatch h), List.nodup_nil⟩)
 have c1 : (RT.os 64 (RT.pr (RT.int .i64) (RT.os 3 (RT.int .i64)))).val M d1 (.slice (some ⟨a6, 0, none⟩) 0 0) [] [a6] := c1
 refine pl_val (.slice (some ⟨a6, 0, none⟩) 0 0) (y_assign rfl) ?_
 refine c_nil ?_
 refine c_seq ?_
 refine c_sr ?_
 refine pl_val (.int .i64 0) (y_assign rfl) ?_
 refine c_nil ?_
 obtain ⟨o25, d9, hs⟩ := bind_some hs
 refine wp_block ?_
 refine wp_forC (id := 0) (places.length : Int) (I := fun k23 s21 a a0 => ∃ (σ : Nat → Value) (a7 : Option Addr) (a8 : Nat) (a9 : Nat) (a5 : List Nat), a = fr 27 (ovl σ [(0, (.slice pa0 pn0 pc0)), (1, (.slice pa1 pn1 pc1)), (5, (.slice a7 a8 a9)), (6, (.int .i64 k23))]) ∧ Chg [] w a0 ∧ Own (Nw w []) M a0 (a5 ++ []) ∧ (RT.rs (RT.rs (RT.int .i64))).val M a0 (.slice pa0 pn0 pc0) clone ([]) ∧ (RT.rs (RT.int .i64)).val M a0 (.slice pa1 pn1 pc1) places ([]) ∧ (RT.os 64 (RT.pr (RT.int .i64) (RT.os 3 (RT.int .i64)))).val M a0 (.slice a7 a8 a9) s21 a5) (J := fun s21 a a0 => ∃ (σ : Nat → Value) (b0 : Option Addr) (b1 : Nat) (b2 : Nat) (b7 : List Nat), a = fr 27 (ovl σ [(5, (.slice b0 b1 b2))]) ∧ Chg [] w a0 ∧ Own (Nw w []) M a0 (b7 ++ []) ∧ (RT.rs (RT.rs (RT.int .i64))).val M a0 (.slice pa0 pn0 pc0) clone ([]) ∧ (RT.rs (RT.int .i64)).val M a0 (.slice pa1 pn1 pc1) places ([]) ∧ (RT.os 64 (RT.pr (RT.int .i64) (RT.os 3 (RT.int .i64)))).val M a0 (.slice b0 b1 b2) s21 b7) (K := (k_spec_l17Give M w)) ?_ ?_ 0 ([]) o25 _ _ ?_ d9 ?_
 ·rintro k23 s21 a a0 ⟨σ, a7, a8, a9, a5, rfl, hC, hO, h0, h1, a2⟩ hlt
  refine c_seq ?_
  refine c_sr ?_
  refine pl_val (.int .i64 k23) (y_move rfl) ?_
  refine pl_val (.slice pa1 pn1 pc1) (y_move rfl) ?_
  refine pl_val (.int .i64 (places.length : Int)) (y_len' Sl37 (rs_len h1) rfl) ?_
  refine pl_val (.bool (decide (k23 < (places.length : Int)))) (y_lss rfl rfl) ?_
  refine c_nil ?_
  refine c_condF (congrArg Value.bool (decide_eq_false hlt)) ?_
  refine wp_exit ?_
  exact ⟨rfl, _, a7, a8, a9, a5, fr_ovl 27 ⟨rfl, trivial⟩, hC, hO, h0, h1, a2⟩
 ·rintro k23 s21 o25 a a0 ⟨σ, a7, a8, a9, a5, rfl, hC, hO, h0, h1, a2⟩ hlt hw hs
  refine c_seq ?_
  refine c_sr ?_
  refine pl_val (.int .i64 k23) (y_move rfl) ?_
  refine pl_val (.slice pa1 pn1 pc1) (y_move rfl) ?_
  refine pl_val (.int .i64 (places.length : Int)) (y_len' Sl37 (rs_len h1) rfl) ?_
  refine pl_val (.bool (decide (k23 < (places.length : Int)))) (y_lss rfl rfl) ?_
  refine c_nil ?_
  refine c_condT (congrArg Value.bool (decide_eq_true hlt)) ?_
  refine wp_skip ?_
  refine c_seq ?_
  refine wp_block ?_
  refine c_region ?_
  refine pl_val (.slice a7 a8 a9) (y_move rfl) ?_
  refine pl_val (.slice pa0 pn0 pc0) (y_move rfl) ?_
  refine pl_val (.slice pa1 pn1 pc1) (y_move rfl) ?_
  refine pl_val (.int .i64 k23) (y_move rfl) ?_
  obtain ⟨x31, e0, hs⟩ := bind_some hs
  obtain ⟨e1, e2, e3, b3⟩ := rs_idx Sl37 Sz3 h1 e0
  refine pl_val (.pointer (some ⟨e1, e2, none⟩)) (e3 _ _ _ _ _ _ _ _ _ rfl rfl) ?_
  refine pl_val (.int .i64 x31) (y_load rfl ((at_load_int Ag3 Sz3 b3) _ (Chg.refl _ _))) ?_
  obtain ⟨x33, e4, hs⟩ := bind_some hs
  obtain ⟨e5, e6, e7, b4⟩ := rs_idx Sl47 Sz37 h0 e4
  refine pl_val (.pointer (some ⟨e5, e6, none⟩)) (e7 _ _ _ _ _ _ _ _ _ rfl rfl) ?_
  obtain ⟨g4, e8, a3⟩ := at_load Ag37 Sz37 (fun _ => rfl) b4
  obtain ⟨e9, f0, f1, rfl⟩ := rs_sl a3
  refine pl_val (.slice e9 f0 f1) (y_load rfl (e8 _ (Chg.refl _ _))) ?_
  obtain ⟨r38, f2, hs⟩ := bind_some hs
  refine pl_call Bd80 rfl (c_spec_l1Own (M := M) x33 a3 hO.fut f2) ?_
  rintro _ f3 ⟨c2, c3, c4, b8, rfl, a4, c5, f4⟩
  have h0 := h0.ext a4
  have h1 := h1.ext a4
  have a2 := a2.ext a4
  have a3 := a3.ext a4
  have b3 := at_ext b3 a4
  have b4 := at_ext b4 a4
  have hC := hC.ext a4
  have hO := Own.join0 hO a4 f4
  have hO := hO.perm (R := b8 ++ (a5 ++ ([]))) (by simp)
  refine pl_val (.agg #[(.int .i64 3), (.slice c2 c3 c4)]) (y_build rfl (by kernel_rfl)) ?_
  obtain ⟨d4, b9, f5, d5, a1, d6⟩ := new_block f3 [(.int .i64 3), (.slice c2 c3 c4)] 64
  refine pl_val (w' := d4) (.slice (some ⟨b9, 0, none⟩) 1 1) (y_bslice rfl (by rw [f5, d5]; kernel_rfl)) ?_
  have h0 := h0.ext a1
  have h1 := h1.ext a1
  have a2 := a2.ext a1
  have a3 := a3.ext a1
  have c5 := c5.ext a1
  have b3 := at_ext b3 a1
  have b4 := at_ext b4 a1
  have hC := hC.ext a1
  have hO := hO.new1 a1 d5 d6.lt
  have hO := hO.perm (R := (b9 :: ((b8) ++ ([]))) ++ (a5 ++ ([]))) (by simp)
  have f6 := hO.nd
  have c6 := os_of_box (r := (RT.pr (RT.int .i64) (RT.os 3 (RT.int .i64)))) (M := M) (css := [[(.int .i64 3), (.slice c2 c3 c4)]]) (fps := [(b8 : List Nat)]) (xs := ([(3, r38)] : List (Int × (List Int)))) d6 ⟨⟨_, _, _, _, rfl, rfl, ⟨rfl, rfl⟩, (os_unval c5)⟩, trivial⟩ (Nat.le_of_ble_eq_true rfl) f6
  have c6 : (RT.os 64 (RT.pr (RT.int .i64) (RT.os 3 (RT.int .i64)))).val M d4 (.slice (some ⟨b9, 0, none⟩) 1 1) [(3, r38)] (b9 :: ((b8) ++ ([]))) := c6
  obtain ⟨y43, f7, hs⟩ := bind_some hs
  have hO := hO.fr1
  obtain ⟨c7, c8, c9, f8, f9, g0, b5, g1, d0⟩ := app_os Rw26 f7 a2 c6 hO.inM (fun g hg hq => hO.apart g hq (mem_l hg))
  have c0 := os_block a2
  refine pl_val (w' := f8) (.slice c7 c8 c9) (y_append rfl rfl (g0 _)) ?_
  have hO := hO.fr1
  have hO := hO.fr1
  have h0 := h0.mt b5 hO c0
  have h1 := h1.mt b5 hO c0
  have a3 := a3.mt b5 hO c0
  have hC := hC.st b5 hO c0
  have hO := hO.eat b5 g1 (os_nodup d0) d0.fpl
  refine pl_val (.slice c7 c8 c9) (y_assign rfl) ?_
  refine c_nil ?_
  refine c_region ?_
  refine pl_val (.int .i64 k23) (y_move rfl) ?_
  refine pl_val (.int .i64 (w64 (k23 + 1))) (y_add rfl rfl) ?_
  refine pl_val (.int .i64 (w64 (k23 + 1))) (y_assign rfl) ?_
  refine c_nil ?_
  cases hs
  exact ⟨_, c7, c8, c9, f9, fr_ovl 27 ⟨rfl, rfl, rfl, congrArg (Value.int .i64) hw, trivial⟩, hC, hO, h0, h1, d0⟩
 ·skip
  exact ⟨_, (some ⟨a6, 0, none⟩), 0, 0, ([a6]), fr_ovl 27 ⟨rfl, rfl, rfl, rfl, trivial⟩, hC, hO, h0, h1, c1⟩
 cases o25 with
 | nx _ => exact True.intro
 | rt r_ =>
  have hs := after_rt hs
  intro g2 d7 hK
  cases hs
  exact hK
 | br s21 =>
  have hs := after_br hs
  rintro g2 a0 ⟨σ, b0, b1, b2, b7, rfl, hC, hO, h0, h1, g3⟩
  refine c_sr ?_
  refine pl_val (.slice b0 b1 b2) (y_move rfl) ?_
  refine pl_val (.slice b0 b1 b2) (y_assign rfl) ?_
  refine c_nil ?_
  refine wp_ret ?_
  cases hs
  exact ⟨_, b0, b1, b2, b7, fr_ovl 27 ⟨rfl, trivial⟩, hC, g3, hO.top⟩

theorem Bd38 : Bodied Try.prog 38 := bodied Try.func38 (by kernel_rfl) rfl

theorem Bd76 : Bodied Try.prog 76 := bodied Try.func76 (by kernel_rfl) rfl

theorem Bd40 : Bodied Try.prog 40 := bodied Try.func40 (by kernel_rfl) rfl

def k_spec_DirectChain (M : Nat → Prop) (w0 : World) (r : (List (Int × (List Int))) × Bool) (a : Act) (w : World) : Prop :=
  ∃ (σ : Nat → Value) (ra0 : Option Addr) (rn0 rc0 : Nat) (rf0 : List Nat), a = fr 27 (ovl σ [(2, (.slice ra0 rn0 rc0)), (3, (.bool r.2))]) ∧ Chg [] w0 w ∧ (RT.os 64 (RT.pr (RT.int .i64) (RT.os 3 (RT.int .i64)))).val M w (.slice ra0 rn0 rc0) r.1 rf0 ∧ Own (Nw w0 []) (fun _ => True) w (rf0 ++ ([]))
def s_spec_DirectChain (a_ : Int × (List (Int × (List Int)))) : Option ((List (Int × (List Int))) × Bool) :=
  (s_spec_l17Clone (a_.1, a_.2)).bind fun r4 =>
  (bif (!r4.2) then some ([], false) else (s_spec_l17Direct a_.1 r4.1).bind fun r10 =>
  (s_spec_l17Give r4.1 r10.1).bind fun r13 =>
  some (r13, r10.2))
set_option maxHeartbeats 4000000 in
theorem c_spec_DirectChain {M : Nat → Prop} {w : World} {pa0 : Option Addr} {pn0 pc0 : Nat} (a_ : Int × (List (Int × (List Int)))) (h0 : (RT.rs (RT.pr (RT.int .i64) (RT.rs (RT.int .i64)))).val M w (.slice pa0 pn0 pc0) a_.2 ([])) (hM : ∀ g, w.heap.size ≤ g → M g) {r : (List (Int × (List Int))) × Bool} (hs : s_spec_DirectChain a_ = some r) :
    Gives Try.prog 36 [(.agg #[(.int .i64 a_.1), (.slice pa0 pn0 pc0)])] w (fun v w' => ∃ (ra0 : Option Addr) (rn0 rc0 : Nat) (rf0 : List Nat), v = (.tuple #[(.slice ra0 rn0 rc0), (.bool r.2)]) ∧ Chg [] w w' ∧ (RT.os 64 (RT.pr (RT.int .i64) (RT.os 3 (RT.int .i64)))).val M w' (.slice ra0 rn0 rc0) r.1 rf0 ∧ Own (Nw w []) (fun _ => True) w' (rf0 ++ ([]))) := by
 refine calls_fr Try.func36 rfl Try.ntmps36 (Nat.le_of_ble_eq_true rfl) ?_
 have hO := Own.start (N := Nw w []) hM Nw.fut
 have hC := Chg.refl [] w
 unfold s_spec_DirectChain at hs
 refine wp_mono (Q := KPost (k_spec_DirectChain M w r)) ?_ (fun e a d7 h => ?_)
 rotate_left
 ·cases e
  case ret =>
   obtain ⟨σ, ra0, rn0, rc0, rf0, rfl, hrest⟩ := h
   exact ret2x Try.results36 (res_tmp rfl) (res_tmp rfl) ⟨ra0, rn0, rc0, rf0, rfl, hrest⟩
  all_goals exact (h : False).elim
 refine c_sr ?_
 obtain ⟨a1, b1, d0, c2, b6, a0⟩ := new_block w [(.int .i64 a_.1), (.slice pa0 pn0 pc0)] 30
 refine pl_val (w' := a1) (.pointer (some ⟨b1, 0, none⟩)) (y_box rfl (by rw [d0, c2]; kernel_rfl)) ?_
 have h0 := h0.ext b6
 have hC := hC.ext b6
 have hO := hO.new1 b6 c2 a0.lt
 refine pl_val (.slice none 0 0) (y_assign rfl) ?_
 refine pl_val (.bool false) (y_assign rfl) ?_
 refine c_nil ?_
 refine c_sr ?_
 refine pl_val (.agg #[(.int .i64 a_.1), (.slice pa0 pn0 pc0)]) (y_load rfl ((box_load Ag30 Sz30 a0 [] [(.int .i64 a_.1), (.slice pa0 pn0 pc0)] [] rfl rfl (fun h => nomatch h)) _ (Chg.refl _ _))) ?_
 obtain ⟨r4, d1, hs⟩ := bind_some hs
 refine pl_call Bd38 rfl (c_spec_l17Clone (M := M) (a_.1, a_.2) h0 hO.fut d1) ?_
 rintro _ a2 ⟨a5, a6, a7, rfl, b2, a3⟩
 have hK := (show Keeps w M (Past M a1 a2) from Keeps.past hC.size)
 have h0 := h0.ext b2
 have a0 := a0.cn b2
 have hC := hC.ext b2
 have hO := hO.past b2
 have h0 := h0.sub (M' := (Past M a1 a2)) (fun g hg => .inl hg.1)
 refine pl_val (.tuple #[(.slice a5 a6 a7), (.bool r4.2)]) (y_move rfl) ?_
 refine pl_val (.slice a5 a6 a7) (y_extract rfl (by kernel_rfl)) ?_
 refine pl_val (.bool r4.2) (y_extract rfl (by kernel_rfl)) ?_
 refine pl_val (.slice a5 a6 a7) (y_assign rfl) ?_
 refine pl_val (.bool r4.2) (y_assign rfl) ?_
 refine c_nil ?_
 refine c_seq ?_
 refine c_sr ?_
 refine pl_val (.bool r4.2) (y_move rfl) ?_
 refine pl_val (.bool (!r4.2)) (y_not rfl) ?_
 refine c_nil ?_
 rcases bif_some hs with ⟨b7, hs⟩ | ⟨b7, hs⟩
 ·refine c_condT (congrArg Value.bool b7) ?_
  refine c_sr ?_
  obtain ⟨c3, a4, d2, c4, a8, c5⟩ := new_block a2 [] 64
  refine pl_val (w' := c3) (.slice (some ⟨a4, 0, none⟩) 0 0) (y_bslice rfl (by rw [d2, c4]; kernel_rfl)) ?_
  have h0 := h0.ext a8
  have a0 := a0.cn a8
  have a3 := a3.ext a8
  have hC := hC.ext a8
  have hO := hO.new1 a8 c4 c5.lt
  have b8 := os_of_box (r := (RT.pr (RT.int .i64) (RT.os 3 (RT.int .i64)))) (M := (Past M a1 a2)) (css := []) (fps := []) (xs := ([] : List (Int × (List Int)))) c5 trivial (Nat.zero_le _) (List.nodup_cons.2 ⟨(fun h => nomatch h), List.nodup_nil⟩)
  have b8 : (RT.os 64 (RT.pr (RT.int .i64) (RT.os 3 (RT.int .i64)))).val (Past M a1 a2) c3 (.slice (some ⟨a4, 0, none⟩) 0 0) [] [a4] := b8
  refine pl_val (.slice (some ⟨a4, 0, none⟩) 0 0) (y_assign rfl) ?_
  refine pl_val (.bool false) (y_assign rfl) ?_
  refine c_nil ?_
  refine wp_ret ?_
  cases hs
  have hO := hO.fr1
  have hO := hO.drop
  exact ⟨_, (some ⟨a4, 0, none⟩), 0, 0, ([a4]), fr_ovl 27 ⟨rfl, rfl, trivial⟩, hC, (b8.free (Free.os (Free.pr Free.int (Free.os Free.int)))), hO.top⟩
 refine c_condF (congrArg Value.bool b7) ?_
 refine wp_skip ?_
 refine c_sr ?_
 refine pl_val (.pointer (some ⟨b1, 0, none⟩)) (y_faddr rfl Fa30x0) ?_
 refine pl_val (.int .i64 a_.1) (y_load rfl ((box_load Ag3 Sz3 a0 [] [(.int .i64 a_.1)] [(.slice pa0 pn0 pc0)] rfl rfl (fun _ => rfl)) _ (Chg.refl _ _))) ?_
 refine pl_val (.slice a5 a6 a7) (y_move rfl) ?_
 obtain ⟨r10, d3, hs⟩ := bind_some hs
 refine pl_call Bd76 rfl (c_spec_l17Direct (M := (Past M a1 a2)) a_.1 r4.1 a3 hO.fut d3) ?_
 rintro _ d8 ⟨b3, b4, b5, b9, rfl, a9, c0, d4⟩
 have h0 := h0.ext a9
 have a0 := a0.cn a9
 have a3 := a3.ext a9
 have hC := hC.ext a9
 have hO := Own.join0 hO a9 d4
 have hO := hO.perm (R := b9 ++ (([b1]) ++ ([]))) (by simp)
 refine pl_val (.tuple #[(.slice b3 b4 b5), (.bool r10.2)]) (y_move rfl) ?_
 refine pl_val (.slice b3 b4 b5) (y_extract rfl (by kernel_rfl)) ?_
 refine pl_val (.bool r10.2) (y_extract rfl (by kernel_rfl)) ?_
 refine pl_val (.slice b3 b4 b5) (y_assign rfl) ?_
 refine pl_val (.bool r10.2) (y_assign rfl) ?_
 refine c_nil ?_
 refine c_sr ?_
 refine pl_val (.slice a5 a6 a7) (y_move rfl) ?_
 refine pl_val (.slice b3 b4 b5) (y_move rfl) ?_
 obtain ⟨r13, d5, hs⟩ := bind_some hs
 refine pl_call Bd40 rfl (c_spec_l17Give (M := (Less (Past M a1 a2) b9)) r4.1 r10.1 (a3.sub Less.sub) (((Frz.os Frz.int)).val c0 Less.sub Less.not) hO.less.fut d5) ?_
 rintro _ d9 ⟨c6, c7, c8, c9, rfl, b0, c1, d6⟩
 have a0 := a0.cn b0
 have a3 := a3.ext b0
 have c0 := c0.ext b0
 have hC := hC.ext b0
 have hO := Own.join0 hO b0 d6
 have hO := hO.perm (R := c9 ++ (b9 ++ (([b1]) ++ ([])))) (by simp)
 have c1 := c1.free (M' := (Past M a1 a2)) (Free.os (Free.pr Free.int (Free.os Free.int)))
 refine pl_val (.bool r10.2) (y_move rfl) ?_
 refine pl_val (.slice c6 c7 c8) (y_assign rfl) ?_
 refine pl_val (.bool r10.2) (y_assign rfl) ?_
 refine c_nil ?_
 refine wp_ret ?_
 cases hs
 have hO := hO.fr1
 have hO := hO.drop
 have hO := hO.fr1
 have hO := hO.drop
 exact ⟨_, c6, c7, c8, c9, fr_ovl 27 ⟨rfl, rfl, trivial⟩, hC, (c1.free (Free.os (Free.pr Free.int (Free.os Free.int)))), hO.top⟩

def k_impl_power (M : Nat → Prop) (w0 : World) (r : Int) (a : Act) (w : World) : Prop :=
  ∃ (σ : Nat → Value) , a = fr 14 (ovl σ [(4, (.int .i64 r))]) ∧ Chg [] w0 w
def s_impl_power (n : Int) (k : Int) : Option (Int) :=
  (iter (S := Int × Int) (R := Int) (fun s2 =>
  (bif (decide (0 < s2.1)) then some (.nx (w64 (s2.1 - 1), w64 (s2.2 * n))) else some (.br (s2.1, s2.2)))) FU (k, 1)).bind fun o6 => after o6 (fun r_ => some r_) (fun s2 =>
  some s2.2)
set_option maxHeartbeats 4000000 in
theorem c_impl_power {M : Nat → Prop} {w : World}  (n : Int) (k : Int)  (hM : ∀ g, w.heap.size ≤ g → M g) {r : Int} (hs : s_impl_power n k = some r) :
    Gives Try.prog 112 [(.int .i64 n), (.int .i64 k)] w (fun v w' => v = (.int .i64 r) ∧ Chg [] w w') := by
 refine calls_fr Try.func112 rfl Try.ntmps112 (Nat.le_of_ble_eq_true rfl) ?_
 have hO := Own.start (N := Nw w []) hM Nw.fut
 have hC := Chg.refl [] w
 unfold s_impl_power at hs
 refine wp_mono (Q := KPost (k_impl_power M w r)) ?_ (fun e a a2 h => ?_)
 rotate_left
 ·cases e
  case ret =>
   obtain ⟨σ, rfl, hrest⟩ := h
   exact ret1x Try.results112 (res_tmp rfl) ⟨rfl, hrest⟩
  all_goals exact (h : False).elim
 refine c_sr ?_
 refine pl_val (.int .i64 0) (y_assign rfl) ?_
 refine c_nil ?_
 refine c_sr ?_
 refine pl_val (.int .i64 1) (y_assign rfl) ?_
 refine c_nil ?_
 refine c_seq ?_
 obtain ⟨o6, a3, hs⟩ := bind_some hs
 refine wp_block ?_
 refine wp_iter (id := 0) (I := fun s2 a a0 => ∃ (σ : Nat → Value), a = fr 14 (ovl σ [(0, (.int .i64 n)), (1, (.int .i64 s2.1)), (5, (.int .i64 s2.2))]) ∧ Chg [] w a0 ∧ Own (Nw w []) M a0 ([])) (J := fun s2 a a0 => ∃ (σ : Nat → Value), a = fr 14 (ovl σ [(5, (.int .i64 s2.2))]) ∧ Chg [] w a0 ∧ Own (Nw w []) M a0 ([])) (K := (k_impl_power M w)) ?_ FU (k, 1) o6 _ _ ?_ a3 ?_
 ·rintro s2 o6 a a0 ⟨σ, rfl, hC, hO⟩ hs
  refine c_seq ?_
  refine c_sr ?_
  refine pl_val (.int .i64 s2.1) (y_move rfl) ?_
  refine pl_val (.bool (decide (0 < s2.1))) (y_gtr rfl rfl) ?_
  refine c_nil ?_
  rcases bif_some hs with ⟨a1, hs⟩ | ⟨a1, hs⟩
  ·refine c_condT (congrArg Value.bool a1) ?_
   refine wp_skip ?_
   refine c_seq ?_
   refine wp_block ?_
   refine c_region ?_
   refine pl_val (.int .i64 s2.2) (y_move rfl) ?_
   refine pl_val (.int .i64 n) (y_move rfl) ?_
   refine pl_val (.int .i64 (w64 (s2.2 * n))) (y_mul rfl rfl) ?_
   refine pl_val (.int .i64 (w64 (s2.2 * n))) (y_assign rfl) ?_
   refine c_nil ?_
   refine c_region ?_
   refine pl_val (.int .i64 s2.1) (y_move rfl) ?_
   refine pl_val (.int .i64 (w64 (s2.1 - 1))) (y_sub rfl rfl) ?_
   refine pl_val (.int .i64 (w64 (s2.1 - 1))) (y_assign rfl) ?_
   refine c_nil ?_
   cases hs
   exact ⟨_, fr_ovl 14 ⟨rfl, rfl, rfl, trivial⟩, hC, hO⟩
  refine c_condF (congrArg Value.bool a1) ?_
  refine wp_exit ?_
  cases hs
  exact ⟨rfl, _, fr_ovl 14 ⟨rfl, trivial⟩, hC, hO⟩
 ·skip
  exact ⟨_, fr_ovl 14 ⟨rfl, rfl, rfl, trivial⟩, hC, hO⟩
 cases o6 with
 | nx _ => exact True.intro
 | rt r_ =>
  have hs := after_rt hs
  intro a4 a2 hK
  cases hs
  exact hK
 | br s2 =>
  have hs := after_br hs
  rintro a4 a0 ⟨σ, rfl, hC, hO⟩
  refine c_sr ?_
  refine pl_val (.int .i64 s2.2) (y_move rfl) ?_
  refine pl_val (.int .i64 s2.2) (y_assign rfl) ?_
  refine c_nil ?_
  refine wp_ret ?_
  cases hs
  exact ⟨_, fr_ovl 14 ⟨rfl, trivial⟩, hC⟩

def k_impl_inSize (M : Nat → Prop) (w0 : World) (r : Bool) (a : Act) (w : World) : Prop :=
  ∃ (σ : Nat → Value) , a = fr 21 (ovl σ [(4, (.bool r))]) ∧ Chg [] w0 w
def s_impl_inSize (list : List Int) (n : Int) : Option (Bool) :=
  (forR (S := Unit) (R := Bool) (fun _ x8 s5 =>
  (bif (decide (x8 < 0)) then some (.rt false) else (bif (decide (n ≤ x8)) then some (.rt false) else some (.nx ())))) 0 list ()).bind fun o9 => after o9 (fun r_ => some r_) (fun s5 =>
  some true)
set_option maxHeartbeats 4000000 in
theorem c_impl_inSize {M : Nat → Prop} {w : World} {pa0 : Option Addr} {pn0 pc0 : Nat} (list : List Int) (n : Int) (h0 : (RT.rs (RT.int .i64)).val M w (.slice pa0 pn0 pc0) list ([])) (hM : ∀ g, w.heap.size ≤ g → M g) {r : Bool} (hs : s_impl_inSize list n = some r) :
    Gives Try.prog 60 [(.slice pa0 pn0 pc0), (.int .i64 n)] w (fun v w' => v = (.bool r) ∧ Chg [] w w') := by
 refine calls_fr Try.func60 rfl Try.ntmps60 (Nat.le_of_ble_eq_true rfl) ?_
 have hO := Own.start (N := Nw w []) hM Nw.fut
 have hC := Chg.refl [] w
 unfold s_impl_inSize at hs
 refine wp_mono (Q := KPost (k_impl_inSize M w r)) ?_ (fun e a a4 h => ?_)
 rotate_left
 ·cases e
  case ret =>
   obtain ⟨σ, rfl, hrest⟩ := h
   exact ret1x Try.results60 (res_tmp rfl) ⟨rfl, hrest⟩
  all_goals exact (h : False).elim
 refine c_sr ?_
 refine pl_val (.bool false) (y_assign rfl) ?_
 refine c_nil ?_
 refine c_seq ?_
 refine c_sr ?_
 refine pl_val (.slice pa0 pn0 pc0) (y_move rfl) ?_
 refine pl_val (.int .i64 (list.length : Int)) (y_len' Sl37 (rs_len h0) rfl) ?_
 refine pl_val (.int .i64 0) (y_move rfl) ?_
 refine c_nil ?_
 obtain ⟨o9, a5, hs⟩ := bind_some hs
 refine wp_block ?_
 refine wp_forR (id := 0) (I := fun i_ xs_ s5 a a0 => ∃ a1 : Nat, i_ = (a1 : Int) ∧ List.drop a1 list = xs_ ∧ (∃ (σ : Nat → Value), a = fr 21 (ovl σ [(1, (.int .i64 n)), (7, (.slice pa0 pn0 pc0)), (8, (.int .i64 (list.length : Int))), (9, (.int .i64 (a1 : Int)))]) ∧ Chg [] w a0 ∧ Own (Nw w []) M a0 ([]) ∧ (RT.rs (RT.int .i64)).val M a0 (.slice pa0 pn0 pc0) list ([]))) (J := fun s5 a a0 => ∃ (σ : Nat → Value), a = fr 21 (ovl σ []) ∧ Chg [] w a0 ∧ Own (Nw w []) M a0 ([]) ∧ (RT.rs (RT.int .i64)).val M a0 (.slice pa0 pn0 pc0) list ([])) (K := (k_impl_inSize M w)) ?_ ?_ list 0 () o9 _ _ ?_ a5 ?_
 ·rintro _ s5 a a0 ⟨a1, rfl, hd, σ, rfl, hC, hO, h0⟩
  have hlt := drop_nil_ge hd
  refine c_sr ?_
  refine pl_val (.bool (decide ((a1 : Int) < (list.length : Int)))) (y_lss rfl rfl) ?_
  refine c_nil ?_
  refine c_seq ?_
  refine c_condF (congrArg Value.bool (decide_eq_false hlt)) ?_
  refine wp_exit ?_
  exact ⟨rfl, _, fr_ovl 21 trivial, hC, hO, h0⟩
 ·rintro _ x8 xs_ s5 o9 a a0 ⟨a1, rfl, hd, σ, rfl, hC, hO, h0⟩ hs
  have hlt := drop_cons_lt hd
  have a6 := drop_cons_idx hd
  refine c_sr ?_
  refine pl_val (.bool (decide ((a1 : Int) < (list.length : Int)))) (y_lss rfl rfl) ?_
  refine c_nil ?_
  refine c_seq ?_
  refine c_condT (congrArg Value.bool (decide_eq_true hlt)) ?_
  refine wp_skip ?_
  refine c_seq ?_
  refine wp_block ?_
  refine c_sr ?_
  obtain ⟨a7, a8, a9, b0⟩ := rs_idx Sl37 Sz3 h0 a6
  refine pl_val (.pointer (some ⟨a7, a8, none⟩)) (a9 _ _ _ _ _ _ _ _ _ rfl rfl) ?_
  refine pl_val (.int .i64 x8) (y_load rfl ((at_load_int Ag3 Sz3 b0) _ (Chg.refl _ _))) ?_
  refine pl_val (.int .i64 x8) (y_assign rfl) ?_
  refine c_nil ?_
  refine c_sr ?_
  refine pl_val (.int .i64 x8) (y_move rfl) ?_
  refine pl_val (.bool (decide (x8 < 0))) (y_lss rfl rfl) ?_
  refine pl_val (.bool (decide (x8 < 0))) (y_move rfl) ?_
  rcases bif_some hs with ⟨a2, hs⟩ | ⟨a2, hs⟩
  ·skip
   refine pl_not (tg := 15) (by kernel_rfl) (congrArg Value.bool a2) ?_
   refine pl_not (tg := 15) (by kernel_rfl) (congrArg Value.bool a2) ?_
   refine pl_not (tg := 15) (by kernel_rfl) (congrArg Value.bool a2) ?_
   refine pl_val (.bool true) (y_pick_t (congrArg Value.bool a2) rfl) ?_
   refine c_nil ?_
   refine c_condT (by rfl) ?_
   refine c_sr ?_
   refine pl_val (.bool false) (y_assign rfl) ?_
   refine c_nil ?_
   refine wp_ret ?_
   cases hs
   exact ⟨_, fr_ovl 21 ⟨rfl, trivial⟩, hC⟩
  refine pl_yes (.int .i64 x8) (tg := 15) (by kernel_rfl) (congrArg Value.bool a2) (y_move rfl) ?_
  refine pl_yes (.int .i64 n) (tg := 15) (by kernel_rfl) (congrArg Value.bool a2) (y_move rfl) ?_
  refine pl_yes (.bool (decide (n ≤ x8))) (tg := 15) (by kernel_rfl) (congrArg Value.bool a2) (y_geq rfl rfl) ?_
  refine pl_val (.bool (decide (n ≤ x8))) (y_pick_f (congrArg Value.bool a2) rfl) ?_
  refine c_nil ?_
  rcases bif_some hs with ⟨a3, hs⟩ | ⟨a3, hs⟩
  ·refine c_condT (congrArg Value.bool a3) ?_
   refine c_sr ?_
   refine pl_val (.bool false) (y_assign rfl) ?_
   refine c_nil ?_
   refine wp_ret ?_
   cases hs
   exact ⟨_, fr_ovl 21 ⟨rfl, trivial⟩, hC⟩
  refine c_condF (congrArg Value.bool a3) ?_
  refine wp_skip ?_
  refine c_region ?_
  refine pl_val (.int .i64 (w64 ((a1 : Int) + 1))) (y_add rfl rfl) ?_
  refine pl_val (.int .i64 (w64 ((a1 : Int) + 1))) (y_move rfl) ?_
  refine c_nil ?_
  cases hs
  exact ⟨_, rfl, drop_cons_next hd, _, fr_ovl 21 ⟨rfl, rfl, rfl, congrArg (Value.int .i64) (w64_succ hlt (Int.natCast_nonneg _) (rs_max h0)), trivial⟩, hC, hO, h0⟩
 ·skip
  exact ⟨0, rfl, rfl, _, fr_ovl 21 ⟨rfl, rfl, rfl, rfl, trivial⟩, hC, hO, h0⟩
 cases o9 with
 | nx _ => exact True.intro
 | rt r_ =>
  have hs := after_rt hs
  intro b1 a4 hK
  cases hs
  exact hK
 | br s5 =>
  have hs := after_br hs
  rintro b1 a0 ⟨σ, rfl, hC, hO, h0⟩
  refine c_sr ?_
  refine pl_val (.bool true) (y_assign rfl) ?_
  refine c_nil ?_
  refine wp_ret ?_
  cases hs
  exact ⟨_, fr_ovl 21 ⟨rfl, trivial⟩, hC⟩

theorem Bd112 : Bodied Try.prog 112 := bodied Try.func112 (by kernel_rfl) rfl

theorem Bd60 : Bodied Try.prog 60 := bodied Try.func60 (by kernel_rfl) rfl

def k_impl_isOp (M : Nat → Prop) (w0 : World) (r : Bool) (a : Act) (w : World) : Prop :=
  ∃ (σ : Nat → Value) , a = fr 29 (ovl σ [(4, (.bool r))]) ∧ Chg [] w0 w
def s_impl_isOp (f : Int × (List Int)) (n : Int) : Option (Bool) :=
  (bif (decide (0 ≤ f.1)) then (bif (decide (f.1 ≤ 3)) then (s_impl_power n f.1).bind fun r7 =>
  (bif ((f.2.length : Int) == r7) then (s_impl_inSize f.2 n).bind fun r10 =>
  some r10 else some false) else some false) else some false)
set_option maxHeartbeats 4000000 in
theorem c_impl_isOp {M : Nat → Prop} {w : World} {pa0 : Option Addr} {pn0 pc0 : Nat} (f : Int × (List Int)) (n : Int) (h0 : (RT.rs (RT.int .i64)).val M w (.slice pa0 pn0 pc0) f.2 ([])) (hM : ∀ g, w.heap.size ≤ g → M g) {r : Bool} (hs : s_impl_isOp f n = some r) :
    Gives Try.prog 109 [(.agg #[(.int .i64 f.1), (.slice pa0 pn0 pc0)]), (.int .i64 n)] w (fun v w' => v = (.bool r) ∧ Chg [] w w') := by
 refine calls_fr Try.func109 rfl Try.ntmps109 (Nat.le_of_ble_eq_true rfl) ?_
 have hO := Own.start (N := Nw w []) hM Nw.fut
 have hC := Chg.refl [] w
 unfold s_impl_isOp at hs
 refine wp_mono (Q := KPost (k_impl_isOp M w r)) ?_ (fun e a b5 h => ?_)
 rotate_left
 ·cases e
  case ret =>
   obtain ⟨σ, rfl, hrest⟩ := h
   exact ret1x Try.results109 (res_tmp rfl) ⟨rfl, hrest⟩
  all_goals exact (h : False).elim
 refine c_sr ?_
 obtain ⟨a8, a6, b1, b0, a9, a1⟩ := new_block w [(.int .i64 f.1), (.slice pa0 pn0 pc0)] 64
 refine pl_val (w' := a8) (.pointer (some ⟨a6, 0, none⟩)) (y_box rfl (by rw [b1, b0]; kernel_rfl)) ?_
 have h0 := h0.ext a9
 have hC := hC.ext a9
 have hO := hO.new1 a9 b0 a1.lt
 refine pl_val (.bool false) (y_assign rfl) ?_
 refine c_nil ?_
 refine c_seq ?_
 refine x_start [] Mx rfl ?_
 have a7 := Chg.drew a8
 generalize World.drew a8 = b2 at a7 ⊢
 have h0 := h0.ext a7
 have a1 := a1.cn a7
 have hC := hC.ext a7
 have hO := hO.ext a7
 have hS := Chg.refl [] b2
 refine x_p 0 (.pointer (some ⟨a6, 0, none⟩)) rfl (by kernel_rfl)  (fun _ => y_faddr rfl Fa64x0) (fun _ => hS) ?_
 refine x_l 1 (.int .i64 f.1) rfl (by kernel_rfl)  (fun w' hw' => y_load rfl ((box_load Ag3 Sz3 a1 [] [(.int .i64 f.1)] [(.slice pa0 pn0 pc0)] rfl rfl (fun _ => rfl)) w' hw')) hS ?_
 refine x_p 2 (.bool (decide (0 ≤ f.1))) rfl (by kernel_rfl)  (fun _ => y_geq rfl rfl) (fun _ => hS) ?_
 refine x_p 3 (.bool (decide (0 ≤ f.1))) rfl (by kernel_rfl)  (fun _ => y_move rfl) (fun _ => hS) ?_
 rcases bif_some hs with ⟨a3, hs⟩ | ⟨a3, hs⟩
 ·skip
  refine x_py 4 (.pointer (some ⟨a6, 0, none⟩)) rfl (by kernel_rfl) (tg := 8) (by kernel_rfl) (congrArg Value.bool a3) (fun _ => y_faddr rfl Fa64x0) (fun _ => hS) ?_
  refine x_ly 5 (.int .i64 f.1) rfl (by kernel_rfl) (tg := 8) (by kernel_rfl) (congrArg Value.bool a3) (fun w' hw' => y_load rfl ((box_load Ag3 Sz3 a1 [] [(.int .i64 f.1)] [(.slice pa0 pn0 pc0)] rfl rfl (fun _ => rfl)) w' hw')) hS ?_
  refine x_py 6 (.bool (decide (f.1 ≤ 3))) rfl (by kernel_rfl) (tg := 8) (by kernel_rfl) (congrArg Value.bool a3) (fun _ => y_leq rfl rfl) (fun _ => hS) ?_
  refine x_p 7 (.bool (decide (f.1 ≤ 3))) rfl (by kernel_rfl)  (fun _ => y_pick_t (congrArg Value.bool a3) rfl) (fun _ => hS) ?_
  refine x_p 8 (.bool (decide (f.1 ≤ 3))) rfl (by kernel_rfl)  (fun _ => y_move rfl) (fun _ => hS) ?_
  rcases bif_some hs with ⟨a0, hs⟩ | ⟨a0, hs⟩
  ·skip
   refine x_py 9 (.pointer (some ⟨a6, 1, none⟩)) rfl (by kernel_rfl) (tg := 13) (by kernel_rfl) (congrArg Value.bool a0) (fun _ => y_faddr rfl Fa64x1) (fun _ => hS) ?_
   refine x_ly 10 (.slice pa0 pn0 pc0) rfl (by kernel_rfl) (tg := 13) (by kernel_rfl) (congrArg Value.bool a0) (fun w' hw' => y_load rfl ((box_load Ag37 Sz37 a1 [(.int .i64 f.1)] [(.slice pa0 pn0 pc0)] [] rfl rfl (fun _ => rfl)) w' hw')) hS ?_
   refine x_py 11 (.int .i64 (f.2.length : Int)) rfl (by kernel_rfl) (tg := 13) (by kernel_rfl) (congrArg Value.bool a0) (fun _ => y_len' Sl37 (rs_len h0) rfl) (fun _ => hS) ?_
   refine x_py 12 (.int .i64 n) rfl (by kernel_rfl) (tg := 13) (by kernel_rfl) (congrArg Value.bool a0) (fun _ => y_move rfl) (fun _ => hS) ?_
   refine x_py 13 (.pointer (some ⟨a6, 0, none⟩)) rfl (by kernel_rfl) (tg := 13) (by kernel_rfl) (congrArg Value.bool a0) (fun _ => y_faddr rfl Fa64x0) (fun _ => hS) ?_
   refine x_ly 14 (.int .i64 f.1) rfl (by kernel_rfl) (tg := 13) (by kernel_rfl) (congrArg Value.bool a0) (fun w' hw' => y_load rfl ((box_load Ag3 Sz3 a1 [] [(.int .i64 f.1)] [(.slice pa0 pn0 pc0)] rfl rfl (fun _ => rfl)) w' hw')) hS ?_
   refine x_one (i := 15) (by kernel_rfl) ?_
   obtain ⟨r7, b3, hs⟩ := bind_some hs
   refine xk_cally (b := false) rfl (tg := 13) (by kernel_rfl) (congrArg Value.bool a0) Bd112 rfl (c_impl_power (M := M) n f.1  hO.fut b3) rfl (by rintro _ _ _ ⟨rfl, a4⟩; exact hS.ext a4) ?_
   rintro _ b6 ⟨rfl, a4⟩
   have h0 := h0.ext a4
   have a1 := a1.cn a4
   have hC := hC.ext a4
   have hO := hO.ext a4
   have hS := hS.ext a4
   refine x_py 16 (.bool ((f.2.length : Int) == r7)) rfl (by kernel_rfl) (tg := 13) (by kernel_rfl) (congrArg Value.bool a0) (fun _ => y_eql rfl rfl) (fun _ => hS) ?_
   refine x_p 17 (.bool ((f.2.length : Int) == r7)) rfl (by kernel_rfl)  (fun _ => y_pick_t (congrArg Value.bool a0) rfl) (fun _ => hS) ?_
   refine x_p 18 (.bool ((f.2.length : Int) == r7)) rfl (by kernel_rfl)  (fun _ => y_move rfl) (fun _ => hS) ?_
   rcases bif_some hs with ⟨a2, hs⟩ | ⟨a2, hs⟩
   ·skip
    refine x_py 19 (.pointer (some ⟨a6, 1, none⟩)) rfl (by kernel_rfl) (tg := 23) (by kernel_rfl) (congrArg Value.bool a2) (fun _ => y_faddr rfl Fa64x1) (fun _ => hS) ?_
    refine x_py 21 (.int .i64 n) rfl (by kernel_rfl) (tg := 23) (by kernel_rfl) (congrArg Value.bool a2) (fun _ => y_move rfl) (fun _ => hS) ?_
    refine x_one (i := 20) (by kernel_rfl) ?_
    refine xk_valy (b := false) (.slice pa0 pn0 pc0) rfl (tg := 23) (by kernel_rfl) (congrArg Value.bool a2) (y_load rfl ((box_load Ag37 Sz37 a1 [(.int .i64 f.1)] [(.slice pa0 pn0 pc0)] [] rfl rfl (fun _ => rfl)) _ (Chg.refl _ _))) rfl (fun _ => hS) ?_
    refine x_one (i := 22) (by kernel_rfl) ?_
    obtain ⟨r10, b4, hs⟩ := bind_some hs
    refine xk_cally (b := false) rfl (tg := 23) (by kernel_rfl) (congrArg Value.bool a2) Bd60 rfl (c_impl_inSize (M := M) f.2 n h0 hO.fut b4) rfl (by rintro _ _ _ ⟨rfl, a5⟩; exact hS.ext a5) ?_
    rintro _ b7 ⟨rfl, a5⟩
    have h0 := h0.ext a5
    have a1 := a1.cn a5
    have hC := hC.ext a5
    have hO := hO.ext a5
    have hS := hS.ext a5
    refine x_p 23 (.bool r10) rfl (by kernel_rfl)  (fun _ => y_pick_t (congrArg Value.bool a2) rfl) (fun _ => hS) ?_
    refine x_p 24 (.bool r10) rfl (by kernel_rfl)  (fun _ => y_assign rfl) (fun _ => hS) ?_
    refine x_end (by kernel_rfl) ?_
    clear hS
    refine wp_ret ?_
    cases hs
    exact ⟨_, fr_ovl 29 ⟨rfl, trivial⟩, hC⟩
   refine x_pn 19 rfl (by kernel_rfl) (tg := 23) (by kernel_rfl) (congrArg Value.bool a2) (fun _ => hS) ?_
   refine x_pn 20 rfl (by kernel_rfl) (tg := 23) (by kernel_rfl) (congrArg Value.bool a2) (fun _ => hS) ?_
   refine x_pn 21 rfl (by kernel_rfl) (tg := 23) (by kernel_rfl) (congrArg Value.bool a2) (fun _ => hS) ?_
   refine x_pn 22 rfl (by kernel_rfl) (tg := 23) (by kernel_rfl) (congrArg Value.bool a2) (fun _ => hS) ?_
   refine x_p 23 (.bool false) rfl (by kernel_rfl)  (fun _ => y_pick_f (congrArg Value.bool a2) rfl) (fun _ => hS) ?_
   refine x_p 24 (.bool false) rfl (by kernel_rfl)  (fun _ => y_assign rfl) (fun _ => hS) ?_
   refine x_end (by kernel_rfl) ?_
   clear hS
   refine wp_ret ?_
   cases hs
   exact ⟨_, fr_ovl 29 ⟨rfl, trivial⟩, hC⟩
  refine x_pn 9 rfl (by kernel_rfl) (tg := 13) (by kernel_rfl) (congrArg Value.bool a0) (fun _ => hS) ?_
  refine x_pn 10 rfl (by kernel_rfl) (tg := 13) (by kernel_rfl) (congrArg Value.bool a0) (fun _ => hS) ?_
  refine x_pn 11 rfl (by kernel_rfl) (tg := 13) (by kernel_rfl) (congrArg Value.bool a0) (fun _ => hS) ?_
  refine x_pn 12 rfl (by kernel_rfl) (tg := 13) (by kernel_rfl) (congrArg Value.bool a0) (fun _ => hS) ?_
  refine x_pn 13 rfl (by kernel_rfl) (tg := 13) (by kernel_rfl) (congrArg Value.bool a0) (fun _ => hS) ?_
  refine x_pn 14 rfl (by kernel_rfl) (tg := 13) (by kernel_rfl) (congrArg Value.bool a0) (fun _ => hS) ?_
  refine x_pn 15 rfl (by kernel_rfl) (tg := 13) (by kernel_rfl) (congrArg Value.bool a0) (fun _ => hS) ?_
  refine x_pn 16 rfl (by kernel_rfl) (tg := 13) (by kernel_rfl) (congrArg Value.bool a0) (fun _ => hS) ?_
  refine x_p 17 (.bool false) rfl (by kernel_rfl)  (fun _ => y_pick_f (congrArg Value.bool a0) rfl) (fun _ => hS) ?_
  refine x_p 18 (.bool false) rfl (by kernel_rfl)  (fun _ => y_move rfl) (fun _ => hS) ?_
  refine x_pn 19 rfl (by kernel_rfl) (tg := 23) (by kernel_rfl) (by rfl) (fun _ => hS) ?_
  refine x_pn 20 rfl (by kernel_rfl) (tg := 23) (by kernel_rfl) (by rfl) (fun _ => hS) ?_
  refine x_pn 21 rfl (by kernel_rfl) (tg := 23) (by kernel_rfl) (by rfl) (fun _ => hS) ?_
  refine x_pn 22 rfl (by kernel_rfl) (tg := 23) (by kernel_rfl) (by rfl) (fun _ => hS) ?_
  refine x_p 23 (.bool false) rfl (by kernel_rfl)  (fun _ => y_pick_f (by rfl) rfl) (fun _ => hS) ?_
  refine x_p 24 (.bool false) rfl (by kernel_rfl)  (fun _ => y_assign rfl) (fun _ => hS) ?_
  refine x_end (by kernel_rfl) ?_
  clear hS
  refine wp_ret ?_
  cases hs
  exact ⟨_, fr_ovl 29 ⟨rfl, trivial⟩, hC⟩
 refine x_pn 4 rfl (by kernel_rfl) (tg := 8) (by kernel_rfl) (congrArg Value.bool a3) (fun _ => hS) ?_
 refine x_pn 5 rfl (by kernel_rfl) (tg := 8) (by kernel_rfl) (congrArg Value.bool a3) (fun _ => hS) ?_
 refine x_pn 6 rfl (by kernel_rfl) (tg := 8) (by kernel_rfl) (congrArg Value.bool a3) (fun _ => hS) ?_
 refine x_p 7 (.bool false) rfl (by kernel_rfl)  (fun _ => y_pick_f (congrArg Value.bool a3) rfl) (fun _ => hS) ?_
 refine x_p 8 (.bool false) rfl (by kernel_rfl)  (fun _ => y_move rfl) (fun _ => hS) ?_
 refine x_pn 9 rfl (by kernel_rfl) (tg := 13) (by kernel_rfl) (by rfl) (fun _ => hS) ?_
 refine x_pn 10 rfl (by kernel_rfl) (tg := 13) (by kernel_rfl) (by rfl) (fun _ => hS) ?_
 refine x_pn 11 rfl (by kernel_rfl) (tg := 13) (by kernel_rfl) (by rfl) (fun _ => hS) ?_
 refine x_pn 12 rfl (by kernel_rfl) (tg := 13) (by kernel_rfl) (by rfl) (fun _ => hS) ?_
 refine x_pn 13 rfl (by kernel_rfl) (tg := 13) (by kernel_rfl) (by rfl) (fun _ => hS) ?_
 refine x_pn 14 rfl (by kernel_rfl) (tg := 13) (by kernel_rfl) (by rfl) (fun _ => hS) ?_
 refine x_pn 15 rfl (by kernel_rfl) (tg := 13) (by kernel_rfl) (by rfl) (fun _ => hS) ?_
 refine x_pn 16 rfl (by kernel_rfl) (tg := 13) (by kernel_rfl) (by rfl) (fun _ => hS) ?_
 refine x_p 17 (.bool false) rfl (by kernel_rfl)  (fun _ => y_pick_f (by rfl) rfl) (fun _ => hS) ?_
 refine x_p 18 (.bool false) rfl (by kernel_rfl)  (fun _ => y_move rfl) (fun _ => hS) ?_
 refine x_pn 19 rfl (by kernel_rfl) (tg := 23) (by kernel_rfl) (by rfl) (fun _ => hS) ?_
 refine x_pn 20 rfl (by kernel_rfl) (tg := 23) (by kernel_rfl) (by rfl) (fun _ => hS) ?_
 refine x_pn 21 rfl (by kernel_rfl) (tg := 23) (by kernel_rfl) (by rfl) (fun _ => hS) ?_
 refine x_pn 22 rfl (by kernel_rfl) (tg := 23) (by kernel_rfl) (by rfl) (fun _ => hS) ?_
 refine x_p 23 (.bool false) rfl (by kernel_rfl)  (fun _ => y_pick_f (by rfl) rfl) (fun _ => hS) ?_
 refine x_p 24 (.bool false) rfl (by kernel_rfl)  (fun _ => y_assign rfl) (fun _ => hS) ?_
 refine x_end (by kernel_rfl) ?_
 clear hS
 refine wp_ret ?_
 cases hs
 exact ⟨_, fr_ovl 29 ⟨rfl, trivial⟩, hC⟩

theorem Bd109 : Bodied Try.prog 109 := bodied Try.func109 (by kernel_rfl) rfl

def k_impl_IsAlgebra (M : Nat → Prop) (w0 : World) (r : Bool) (a : Act) (w : World) : Prop :=
  ∃ (σ : Nat → Value) , a = fr 32 (ovl σ [(2, (.bool r))]) ∧ Chg [] w0 w
def s_impl_IsAlgebra (a_ : Int × (List (Int × (List Int)))) : Option (Bool) :=
  (bif (((decide (a_.1 < 1)) || (decide (8 < a_.1))) || (decide (4 < (a_.2.length : Int)))) then some false else (forR (S := Unit) (R := Bool) (fun _ x21 s18 =>
  (s_impl_isOp (x21.1, x21.2) a_.1).bind fun r30 =>
  (bif (!r30) then some (.rt false) else some (.nx ()))) 0 a_.2 ()).bind fun o22 => after o22 (fun r_ => some r_) (fun s18 =>
  some true))
set_option maxHeartbeats 4000000 in
theorem c_impl_IsAlgebra {M : Nat → Prop} {w : World} {pa0 : Option Addr} {pn0 pc0 : Nat} (a_ : Int × (List (Int × (List Int)))) (h0 : (RT.rs (RT.pr (RT.int .i64) (RT.rs (RT.int .i64)))).val M w (.slice pa0 pn0 pc0) a_.2 ([])) (hM : ∀ g, w.heap.size ≤ g → M g) {r : Bool} (hs : s_impl_IsAlgebra a_ = some r) :
    Gives Try.prog 81 [(.agg #[(.int .i64 a_.1), (.slice pa0 pn0 pc0)])] w (fun v w' => v = (.bool r) ∧ Chg [] w w') := by
 refine calls_fr Try.func81 rfl Try.ntmps81 (Nat.le_of_ble_eq_true rfl) ?_
 have hO := Own.start (N := Nw w []) hM Nw.fut
 have hC := Chg.refl [] w
 unfold s_impl_IsAlgebra at hs
 refine wp_mono (Q := KPost (k_impl_IsAlgebra M w r)) ?_ (fun e a c8 h => ?_)
 rotate_left
 ·cases e
  case ret =>
   obtain ⟨σ, rfl, hrest⟩ := h
   exact ret1x Try.results81 (res_tmp rfl) ⟨rfl, hrest⟩
  all_goals exact (h : False).elim
 refine c_sr ?_
 obtain ⟨b6, a1, c9, c1, b7, a0⟩ := new_block w [(.int .i64 a_.1), (.slice pa0 pn0 pc0)] 30
 refine pl_val (w' := b6) (.pointer (some ⟨a1, 0, none⟩)) (y_box rfl (by rw [c9, c1]; kernel_rfl)) ?_
 have h0 := h0.ext b7
 have hC := hC.ext b7
 have hO := hO.new1 b7 c1 a0.lt
 refine pl_val (.bool false) (y_assign rfl) ?_
 refine c_nil ?_
 refine c_seq ?_
 refine c_seq ?_
 refine c_mid (I := fun a c2 => ∃ (σ : Nat → Value), a = fr 32 (ovl σ [(1, (.pointer (some ⟨a1, 0, none⟩))), (2, (.bool false)), (18, (.bool (((decide (a_.1 < 1)) || (decide (8 < a_.1))) || (decide (4 < (a_.2.length : Int))))))]) ∧ Chg [] b6 c2) ?_ ?_
 ·have hMid := Chg.refl [] b6
  refine c_region ?_
  refine pl_val (.pointer (some ⟨a1, 0, none⟩)) (y_faddr rfl Fa30x0) ?_
  refine pl_val (.int .i64 a_.1) (y_load rfl ((box_load Ag3 Sz3 a0 [] [(.int .i64 a_.1)] [(.slice pa0 pn0 pc0)] rfl rfl (fun _ => rfl)) _ (Chg.refl _ _))) ?_
  refine pl_val (.bool (decide (a_.1 < 1))) (y_lss rfl rfl) ?_
  refine pl_val (.bool (decide (a_.1 < 1))) (y_move rfl) ?_
  rcases Bool.eq_false_or_eq_true ((decide (a_.1 < 1))) with a5 | a5
  ·skip
   refine pl_not (tg := 8) (by kernel_rfl) (congrArg Value.bool a5) ?_
   refine pl_not (tg := 8) (by kernel_rfl) (congrArg Value.bool a5) ?_
   refine pl_not (tg := 8) (by kernel_rfl) (congrArg Value.bool a5) ?_
   refine pl_val (.bool ((decide (a_.1 < 1)) || (decide (8 < a_.1)))) (y_pick_t (congrArg Value.bool a5) (congrArg Value.bool (by rw [a5]; rfl))) ?_
   refine pl_val (.bool ((decide (a_.1 < 1)) || (decide (8 < a_.1)))) (y_move rfl) ?_
   rcases Bool.eq_false_or_eq_true (((decide (a_.1 < 1)) || (decide (8 < a_.1)))) with a2 | a2
   ·skip
    refine pl_not (tg := 13) (by kernel_rfl) (congrArg Value.bool a2) ?_
    refine pl_not (tg := 13) (by kernel_rfl) (congrArg Value.bool a2) ?_
    refine pl_not (tg := 13) (by kernel_rfl) (congrArg Value.bool a2) ?_
    refine pl_not (tg := 13) (by kernel_rfl) (congrArg Value.bool a2) ?_
    refine pl_val (.bool (((decide (a_.1 < 1)) || (decide (8 < a_.1))) || (decide (4 < (a_.2.length : Int))))) (y_pick_t (congrArg Value.bool a2) (congrArg Value.bool (by rw [a2]; rfl))) ?_
    refine c_nil ?_
    exact ⟨_, fr_ovl 32 ⟨rfl, rfl, rfl, trivial⟩, hMid⟩
   refine pl_yes (.pointer (some ⟨a1, 1, none⟩)) (tg := 13) (by kernel_rfl) (congrArg Value.bool a2) (y_faddr rfl Fa30x1) ?_
   refine pl_yes (.slice pa0 pn0 pc0) (tg := 13) (by kernel_rfl) (congrArg Value.bool a2) (y_load rfl ((box_load Ag26 Sz26 a0 [(.int .i64 a_.1)] [(.slice pa0 pn0 pc0)] [] rfl rfl (fun _ => rfl)) _ (Chg.refl _ _))) ?_
   refine pl_yes (.int .i64 (a_.2.length : Int)) (tg := 13) (by kernel_rfl) (congrArg Value.bool a2) (y_len' Sl26 (rs_len h0) rfl) ?_
   refine pl_yes (.bool (decide (4 < (a_.2.length : Int)))) (tg := 13) (by kernel_rfl) (congrArg Value.bool a2) (y_gtr rfl rfl) ?_
   refine pl_val (.bool (((decide (a_.1 < 1)) || (decide (8 < a_.1))) || (decide (4 < (a_.2.length : Int))))) (y_pick_f (congrArg Value.bool a2) (congrArg Value.bool (by rw [a2]; rfl))) ?_
   refine c_nil ?_
   exact ⟨_, fr_ovl 32 ⟨rfl, rfl, rfl, trivial⟩, hMid⟩
  refine pl_yes (.pointer (some ⟨a1, 0, none⟩)) (tg := 8) (by kernel_rfl) (congrArg Value.bool a5) (y_faddr rfl Fa30x0) ?_
  refine pl_yes (.int .i64 a_.1) (tg := 8) (by kernel_rfl) (congrArg Value.bool a5) (y_load rfl ((box_load Ag3 Sz3 a0 [] [(.int .i64 a_.1)] [(.slice pa0 pn0 pc0)] rfl rfl (fun _ => rfl)) _ (Chg.refl _ _))) ?_
  refine pl_yes (.bool (decide (8 < a_.1))) (tg := 8) (by kernel_rfl) (congrArg Value.bool a5) (y_gtr rfl rfl) ?_
  refine pl_val (.bool ((decide (a_.1 < 1)) || (decide (8 < a_.1)))) (y_pick_f (congrArg Value.bool a5) (congrArg Value.bool (by rw [a5]; rfl))) ?_
  refine pl_val (.bool ((decide (a_.1 < 1)) || (decide (8 < a_.1)))) (y_move rfl) ?_
  rcases Bool.eq_false_or_eq_true (((decide (a_.1 < 1)) || (decide (8 < a_.1)))) with a3 | a3
  ·skip
   refine pl_not (tg := 13) (by kernel_rfl) (congrArg Value.bool a3) ?_
   refine pl_not (tg := 13) (by kernel_rfl) (congrArg Value.bool a3) ?_
   refine pl_not (tg := 13) (by kernel_rfl) (congrArg Value.bool a3) ?_
   refine pl_not (tg := 13) (by kernel_rfl) (congrArg Value.bool a3) ?_
   refine pl_val (.bool (((decide (a_.1 < 1)) || (decide (8 < a_.1))) || (decide (4 < (a_.2.length : Int))))) (y_pick_t (congrArg Value.bool a3) (congrArg Value.bool (by rw [a3]; rfl))) ?_
   refine c_nil ?_
   exact ⟨_, fr_ovl 32 ⟨rfl, rfl, rfl, trivial⟩, hMid⟩
  refine pl_yes (.pointer (some ⟨a1, 1, none⟩)) (tg := 13) (by kernel_rfl) (congrArg Value.bool a3) (y_faddr rfl Fa30x1) ?_
  refine pl_yes (.slice pa0 pn0 pc0) (tg := 13) (by kernel_rfl) (congrArg Value.bool a3) (y_load rfl ((box_load Ag26 Sz26 a0 [(.int .i64 a_.1)] [(.slice pa0 pn0 pc0)] [] rfl rfl (fun _ => rfl)) _ (Chg.refl _ _))) ?_
  refine pl_yes (.int .i64 (a_.2.length : Int)) (tg := 13) (by kernel_rfl) (congrArg Value.bool a3) (y_len' Sl26 (rs_len h0) rfl) ?_
  refine pl_yes (.bool (decide (4 < (a_.2.length : Int)))) (tg := 13) (by kernel_rfl) (congrArg Value.bool a3) (y_gtr rfl rfl) ?_
  refine pl_val (.bool (((decide (a_.1 < 1)) || (decide (8 < a_.1))) || (decide (4 < (a_.2.length : Int))))) (y_pick_f (congrArg Value.bool a3) (congrArg Value.bool (by rw [a3]; rfl))) ?_
  refine c_nil ?_
  exact ⟨_, fr_ovl 32 ⟨rfl, rfl, rfl, trivial⟩, hMid⟩
 rintro c3 c2 ⟨σ, rfl, b5⟩
 have h0 := h0.ext b5
 have a0 := a0.cn b5
 have hC := hC.ext b5
 have hO := hO.ext b5
 rcases bif_some hs with ⟨b8, hs⟩ | ⟨b8, hs⟩
 ·refine c_condT (congrArg Value.bool b8) ?_
  refine c_sr ?_
  refine pl_val (.bool false) (y_assign rfl) ?_
  refine c_nil ?_
  refine wp_ret ?_
  cases hs
  exact ⟨_, fr_ovl 32 ⟨rfl, trivial⟩, hC⟩
 refine c_condF (congrArg Value.bool b8) ?_
 refine wp_skip ?_
 refine c_seq ?_
 refine c_sr ?_
 refine pl_val (.pointer (some ⟨a1, 1, none⟩)) (y_faddr rfl Fa30x1) ?_
 refine pl_val (.slice pa0 pn0 pc0) (y_load rfl ((box_load Ag26 Sz26 a0 [(.int .i64 a_.1)] [(.slice pa0 pn0 pc0)] [] rfl rfl (fun _ => rfl)) _ (Chg.refl _ _))) ?_
 refine pl_val (.int .i64 (a_.2.length : Int)) (y_len' Sl26 (rs_len h0) rfl) ?_
 refine pl_val (.int .i64 0) (y_move rfl) ?_
 refine c_nil ?_
 obtain ⟨o22, d0, hs⟩ := bind_some hs
 refine wp_block ?_
 refine wp_forR (id := 0) (I := fun i_ xs_ s18 a a4 => ∃ a6 : Nat, i_ = (a6 : Int) ∧ List.drop a6 a_.2 = xs_ ∧ (∃ (σ : Nat → Value), a = fr 32 (ovl σ [(1, (.pointer (some ⟨a1, 0, none⟩))), (20, (.slice pa0 pn0 pc0)), (21, (.int .i64 (a_.2.length : Int))), (22, (.int .i64 (a6 : Int)))]) ∧ Chg [] w a4 ∧ Own (Nw w []) M a4 (([a1]) ++ []) ∧ (RT.rs (RT.pr (RT.int .i64) (RT.rs (RT.int .i64)))).val M a4 (.slice pa0 pn0 pc0) a_.2 ([]) ∧ BoxV a4 a1 30 [(.int .i64 a_.1), (.slice pa0 pn0 pc0)])) (J := fun s18 a a4 => ∃ (σ : Nat → Value), a = fr 32 (ovl σ []) ∧ Chg [] w a4 ∧ Own (Nw w []) M a4 (([a1]) ++ []) ∧ (RT.rs (RT.pr (RT.int .i64) (RT.rs (RT.int .i64)))).val M a4 (.slice pa0 pn0 pc0) a_.2 ([]) ∧ BoxV a4 a1 30 [(.int .i64 a_.1), (.slice pa0 pn0 pc0)]) (K := (k_impl_IsAlgebra M w)) ?_ ?_ a_.2 0 () o22 _ _ ?_ d0 ?_
 ·rintro _ s18 a a4 ⟨a6, rfl, hd, σ, rfl, hC, hO, h0, a0⟩
  have hlt := drop_nil_ge hd
  refine c_sr ?_
  refine pl_val (.bool (decide ((a6 : Int) < (a_.2.length : Int)))) (y_lss rfl rfl) ?_
  refine c_nil ?_
  refine c_seq ?_
  refine c_condF (congrArg Value.bool (decide_eq_false hlt)) ?_
  refine wp_exit ?_
  exact ⟨rfl, _, fr_ovl 32 trivial, hC, hO, h0, a0⟩
 ·rintro _ x21 xs_ s18 o22 a a4 ⟨a6, rfl, hd, σ, rfl, hC, hO, h0, a0⟩ hs
  have hlt := drop_cons_lt hd
  have d1 := drop_cons_idx hd
  refine c_sr ?_
  refine pl_val (.bool (decide ((a6 : Int) < (a_.2.length : Int)))) (y_lss rfl rfl) ?_
  refine c_nil ?_
  refine c_seq ?_
  refine c_condT (congrArg Value.bool (decide_eq_true hlt)) ?_
  refine wp_skip ?_
  refine c_seq ?_
  refine wp_block ?_
  refine c_sr ?_
  obtain ⟨d2, d3, d4, b9⟩ := rs_idx Sl26 Sz64 h0 d1
  refine pl_val (.pointer (some ⟨d2, d3, none⟩)) (d4 _ _ _ _ _ _ _ _ _ rfl rfl) ?_
  obtain ⟨e4, d5, d6⟩ := at_load Ag64 Sz64 (by intro h; cases h) b9
  obtain ⟨e5, rfl, d7⟩ := d6
  obtain ⟨e6, e7, rfl, d8, d9⟩ := pr_open d7
  obtain rfl := int_rel d8
  obtain ⟨b0, b1, b2, rfl, a7⟩ := rs_rel d9
  refine pl_val (.agg #[(.int .i64 x21.1), (.slice b0 b1 b2)]) (y_load rfl (d5 _ (Chg.refl _ _))) ?_
  obtain ⟨e0, c4, e1, c5, a8, c6⟩ := new_block a4 [(.int .i64 0), (.slice none 0 0)] 64
  refine pl_val (w' := e0) (.pointer (some ⟨c4, 0, none⟩)) (y_alloc (by rw [e1, c5]; kernel_rfl)) ?_
  have h0 := h0.ext a8
  have a0 := a0.cn a8
  have a7 := a7.ext a8
  have b9 := at_ext b9 a8
  have hC := hC.ext a8
  have hO := hO.new1 a8 c5 c6.lt
  obtain ⟨c7, e2, b3, b4⟩ := box_store (P := Try.prog) c6 [] [(.int .i64 0), (.slice none 0 0)] [] [(.int .i64 x21.1), (.slice b0 b1 b2)] rfl rfl (by intro u hu; simp only [List.mem_cons, List.not_mem_nil, or_false] at hu; rcases hu with rfl | rfl <;> rfl)
  refine pl_skip (w' := c7) (ys_store rfl rfl (e2 _ _ rfl Sz64)) ?_
  have h0 := h0.mt b3 hO same_
  have a0 := a0.ap b3 hO same_ (mem_l (List.mem_singleton.2 rfl))
  have a7 := a7.mt b3 hO same_
  have hC := hC.st b3 hO same_
  have hO := hO.ext b3
  have b4 : BoxV c7 c4 64 [(.int .i64 x21.1), (.slice b0 b1 b2)] := b4
  refine c_nil ?_
  refine c_sr ?_
  refine pl_val (.agg #[(.int .i64 x21.1), (.slice b0 b1 b2)]) (y_load rfl ((box_load Ag64 Sz64 b4 [] [(.int .i64 x21.1), (.slice b0 b1 b2)] [] rfl rfl (fun h => nomatch h)) _ (Chg.refl _ _))) ?_
  refine pl_val (.pointer (some ⟨a1, 0, none⟩)) (y_faddr rfl Fa30x0) ?_
  refine pl_val (.int .i64 a_.1) (y_load rfl ((box_load Ag3 Sz3 a0 [] [(.int .i64 a_.1)] [(.slice pa0 pn0 pc0)] rfl rfl (fun _ => rfl)) _ (Chg.refl _ _))) ?_
  obtain ⟨r30, e3, hs⟩ := bind_some hs
  refine pl_call Bd109 rfl (c_impl_isOp (M := M) (x21.1, x21.2) a_.1 a7 hO.fut e3) ?_
  rintro _ e8 ⟨rfl, a9⟩
  have h0 := h0.ext a9
  have a0 := a0.cn a9
  have a7 := a7.ext a9
  have b4 := b4.cn a9
  have hC := hC.ext a9
  have hO := hO.ext a9
  refine pl_val (.bool (!r30)) (y_not rfl) ?_
  refine c_nil ?_
  rcases bif_some hs with ⟨c0, hs⟩ | ⟨c0, hs⟩
  ·refine c_condT (congrArg Value.bool c0) ?_
   refine c_sr ?_
   refine pl_val (.bool false) (y_assign rfl) ?_
   refine c_nil ?_
   refine wp_ret ?_
   cases hs
   exact ⟨_, fr_ovl 32 ⟨rfl, trivial⟩, hC⟩
  refine c_condF (congrArg Value.bool c0) ?_
  refine wp_skip ?_
  refine c_region ?_
  refine pl_val (.int .i64 (w64 ((a6 : Int) + 1))) (y_add rfl rfl) ?_
  refine pl_val (.int .i64 (w64 ((a6 : Int) + 1))) (y_move rfl) ?_
  refine c_nil ?_
  cases hs
  have hO := hO.drop
  exact ⟨_, rfl, drop_cons_next hd, _, fr_ovl 32 ⟨rfl, rfl, rfl, congrArg (Value.int .i64) (w64_succ hlt (Int.natCast_nonneg _) (rs_max h0)), trivial⟩, hC, hO, h0, a0⟩
 ·skip
  exact ⟨0, rfl, rfl, _, fr_ovl 32 ⟨rfl, rfl, rfl, rfl, trivial⟩, hC, hO, h0, a0⟩
 cases o22 with
 | nx _ => exact True.intro
 | rt r_ =>
  have hs := after_rt hs
  intro c3 c8 hK
  cases hs
  exact hK
 | br s18 =>
  have hs := after_br hs
  rintro c3 a4 ⟨σ, rfl, hC, hO, h0, a0⟩
  refine c_sr ?_
  refine pl_val (.bool true) (y_assign rfl) ?_
  refine c_nil ?_
  refine wp_ret ?_
  cases hs
  exact ⟨_, fr_ovl 32 ⟨rfl, trivial⟩, hC⟩

def k_impl_isCloneRange (M : Nat → Prop) (w0 : World) (r : Bool) (a : Act) (w : World) : Prop :=
  ∃ (σ : Nat → Value) , a = fr 17 (ovl σ [(4, (.bool r))]) ∧ Chg [] w0 w
def s_impl_isCloneRange (n : Int) (k : Int) : Option (Bool) :=
  (bif (decide (1 ≤ k)) then (bif (decide (k ≤ 3)) then (s_impl_power n k).bind fun r4 =>
  some (decide (r4 ≤ 27)) else some false) else some false)
set_option maxHeartbeats 4000000 in
theorem c_impl_isCloneRange {M : Nat → Prop} {w : World}  (n : Int) (k : Int)  (hM : ∀ g, w.heap.size ≤ g → M g) {r : Bool} (hs : s_impl_isCloneRange n k = some r) :
    Gives Try.prog 110 [(.int .i64 n), (.int .i64 k)] w (fun v w' => v = (.bool r) ∧ Chg [] w w') := by
 refine calls_fr Try.func110 rfl Try.ntmps110 (Nat.le_of_ble_eq_true rfl) ?_
 have hO := Own.start (N := Nw w []) hM Nw.fut
 have hC := Chg.refl [] w
 unfold s_impl_isCloneRange at hs
 refine wp_mono (Q := KPost (k_impl_isCloneRange M w r)) ?_ (fun e a a4 h => ?_)
 rotate_left
 ·cases e
  case ret =>
   obtain ⟨σ, rfl, hrest⟩ := h
   exact ret1x Try.results110 (res_tmp rfl) ⟨rfl, hrest⟩
  all_goals exact (h : False).elim
 refine c_sr ?_
 refine pl_val (.bool false) (y_assign rfl) ?_
 refine c_nil ?_
 refine c_sr ?_
 refine pl_val (.int .i64 k) (y_move rfl) ?_
 refine pl_val (.bool (decide (1 ≤ k))) (y_geq rfl rfl) ?_
 refine pl_val (.bool (decide (1 ≤ k))) (y_move rfl) ?_
 rcases bif_some hs with ⟨a1, hs⟩ | ⟨a1, hs⟩
 ·skip
  refine pl_yes (.int .i64 k) (tg := 7) (by kernel_rfl) (congrArg Value.bool a1) (y_move rfl) ?_
  refine pl_yes (.bool (decide (k ≤ 3))) (tg := 7) (by kernel_rfl) (congrArg Value.bool a1) (y_leq rfl rfl) ?_
  refine pl_val (.bool (decide (k ≤ 3))) (y_pick_t (congrArg Value.bool a1) rfl) ?_
  refine pl_val (.bool (decide (k ≤ 3))) (y_move rfl) ?_
  rcases bif_some hs with ⟨a0, hs⟩ | ⟨a0, hs⟩
  ·skip
   refine pl_yes (.int .i64 n) (tg := 11) (by kernel_rfl) (congrArg Value.bool a0) (y_move rfl) ?_
   refine pl_yes (.int .i64 k) (tg := 11) (by kernel_rfl) (congrArg Value.bool a0) (y_move rfl) ?_
   obtain ⟨r4, a3, hs⟩ := bind_some hs
   refine pl_cally (tg := 11) (by kernel_rfl) (congrArg Value.bool a0) Bd112 rfl (c_impl_power (M := M) n k  hO.fut a3) ?_
   rintro _ a5 ⟨rfl, a2⟩
   have hC := hC.ext a2
   have hO := hO.ext a2
   refine pl_yes (.bool (decide (r4 ≤ 27))) (tg := 11) (by kernel_rfl) (congrArg Value.bool a0) (y_leq rfl rfl) ?_
   refine pl_val (.bool (decide (r4 ≤ 27))) (y_pick_t (congrArg Value.bool a0) rfl) ?_
   refine pl_val (.bool (decide (r4 ≤ 27))) (y_assign rfl) ?_
   refine c_nil ?_
   refine wp_ret ?_
   cases hs
   exact ⟨_, fr_ovl 17 ⟨rfl, trivial⟩, hC⟩
  refine pl_not (tg := 11) (by kernel_rfl) (congrArg Value.bool a0) ?_
  refine pl_not (tg := 11) (by kernel_rfl) (congrArg Value.bool a0) ?_
  refine pl_not (tg := 11) (by kernel_rfl) (congrArg Value.bool a0) ?_
  refine pl_not (tg := 11) (by kernel_rfl) (congrArg Value.bool a0) ?_
  refine pl_val (.bool false) (y_pick_f (congrArg Value.bool a0) rfl) ?_
  refine pl_val (.bool false) (y_assign rfl) ?_
  refine c_nil ?_
  refine wp_ret ?_
  cases hs
  exact ⟨_, fr_ovl 17 ⟨rfl, trivial⟩, hC⟩
 refine pl_not (tg := 7) (by kernel_rfl) (congrArg Value.bool a1) ?_
 refine pl_not (tg := 7) (by kernel_rfl) (congrArg Value.bool a1) ?_
 refine pl_val (.bool false) (y_pick_f (congrArg Value.bool a1) rfl) ?_
 refine pl_val (.bool false) (y_move rfl) ?_
 refine pl_not (tg := 11) (by kernel_rfl) (by rfl) ?_
 refine pl_not (tg := 11) (by kernel_rfl) (by rfl) ?_
 refine pl_not (tg := 11) (by kernel_rfl) (by rfl) ?_
 refine pl_not (tg := 11) (by kernel_rfl) (by rfl) ?_
 refine pl_val (.bool false) (y_pick_f (by rfl) rfl) ?_
 refine pl_val (.bool false) (y_assign rfl) ?_
 refine c_nil ?_
 refine wp_ret ?_
 cases hs
 exact ⟨_, fr_ovl 17 ⟨rfl, trivial⟩, hC⟩

def k_impl_argsAt (M : Nat → Prop) (w0 : World) (r : (List Int)) (a : Act) (w : World) : Prop :=
  ∃ (σ : Nat → Value) (ra0 : Option Addr) (rn0 rc0 : Nat) (rf0 : List Nat), a = fr 27 (ovl σ [(6, (.slice ra0 rn0 rc0))]) ∧ Chg [] w0 w ∧ (RT.os 3 (RT.int .i64)).val M w (.slice ra0 rn0 rc0) r rf0 ∧ Own (Nw w0 []) (fun _ => True) w (rf0 ++ ([]))
def s_impl_argsAt (i : Int) (k : Int) (n : Int) : Option ((List Int)) :=
  (mks k (0 : Int)).bind fun y2 =>
  (iter (S := Int × Int × (List Int)) (R := (List Int)) (fun s17 =>
  (bif (decide (0 ≤ s17.2.1)) then (nz n).bind fun u26 =>
  (idx s17.2.2 s17.2.1).bind fun x27 =>
  (nz n).bind fun u30 =>
  some (.nx (w64 (Int.tdiv s17.1 n), w64 (s17.2.1 - 1), List.set s17.2.2 (Int.toNat s17.2.1) (Int.tmod s17.1 n))) else some (.br (s17.1, s17.2.1, s17.2.2)))) FU (i, w64 (k - 1), y2)).bind fun o21 => after o21 (fun r_ => some r_) (fun s17 =>
  some s17.2.2)
set_option maxHeartbeats 4000000 in
theorem c_impl_argsAt {M : Nat → Prop} {w : World}  (i : Int) (k : Int) (n : Int)  (hM : ∀ g, w.heap.size ≤ g → M g) {r : (List Int)} (hs : s_impl_argsAt i k n = some r) :
    Gives Try.prog 88 [(.int .i64 i), (.int .i64 k), (.int .i64 n)] w (fun v w' => ∃ (ra0 : Option Addr) (rn0 rc0 : Nat) (rf0 : List Nat), v = (.slice ra0 rn0 rc0) ∧ Chg [] w w' ∧ (RT.os 3 (RT.int .i64)).val M w' (.slice ra0 rn0 rc0) r rf0 ∧ Own (Nw w []) (fun _ => True) w' (rf0 ++ ([]))) := by
 refine calls_fr Try.func88 rfl Try.ntmps88 (Nat.le_of_ble_eq_true rfl) ?_
 have hO := Own.start (N := Nw w []) hM Nw.fut
 have hC := Chg.refl [] w
 unfold s_impl_argsAt at hs
 refine wp_mono (Q := KPost (k_impl_argsAt M w r)) ?_ (fun e a a7 h => ?_)
 rotate_left
 ·cases e
  case ret =>
   obtain ⟨σ, ra0, rn0, rc0, rf0, rfl, hrest⟩ := h
   exact ret1x Try.results88 (res_tmp rfl) ⟨ra0, rn0, rc0, rf0, rfl, hrest⟩
  all_goals exact (h : False).elim
 refine c_sr ?_
 refine pl_val (.slice none 0 0) (y_assign rfl) ?_
 refine c_nil ?_
 refine c_sr ?_
 refine pl_val (.int .i64 k) (y_move rfl) ?_
 obtain ⟨y2, b5, hs⟩ := bind_some hs
 obtain ⟨a0, a1, a2, a7, b6, b7, b1, b8, a8⟩ := mk_os (M := M) (w := w) (r := (RT.int .i64)) Rw37 b5 (fun _ _ => ⟨rfl, rfl⟩)
 refine pl_val (w' := a7) (.slice a0 a1 a2) (y_make rfl rfl b7) ?_
 have hC := hC.ext b1
 have hO := hO.new b1 b8 (os_nodup a8) a8.fpl
 refine pl_val (.slice a0 a1 a2) (y_assign rfl) ?_
 refine c_nil ?_
 refine c_seq ?_
 refine c_sr ?_
 refine pl_val (.int .i64 k) (y_move rfl) ?_
 refine pl_val (.int .i64 (w64 (k - 1))) (y_sub rfl rfl) ?_
 refine pl_val (.int .i64 (w64 (k - 1))) (y_assign rfl) ?_
 refine c_nil ?_
 obtain ⟨o21, b9, hs⟩ := bind_some hs
 refine wp_block ?_
 refine wp_iter (id := 0) (I := fun s17 a a3 => ∃ (σ : Nat → Value) (a4 : List Nat), a = fr 27 (ovl σ [(0, (.int .i64 s17.1)), (2, (.int .i64 n)), (7, (.slice a0 a1 a2)), (8, (.int .i64 s17.2.1))]) ∧ Chg [] w a3 ∧ Own (Nw w []) M a3 (a4 ++ []) ∧ (RT.os 3 (RT.int .i64)).val M a3 (.slice a0 a1 a2) s17.2.2 a4) (J := fun s17 a a3 => ∃ (σ : Nat → Value) (a6 : List Nat), a = fr 27 (ovl σ [(7, (.slice a0 a1 a2))]) ∧ Chg [] w a3 ∧ Own (Nw w []) M a3 (a6 ++ []) ∧ (RT.os 3 (RT.int .i64)).val M a3 (.slice a0 a1 a2) s17.2.2 a6) (K := (k_impl_argsAt M w)) ?_ FU (i, w64 (k - 1), y2) o21 _ _ ?_ b9 ?_
 ·rintro s17 o21 a a3 ⟨σ, a4, rfl, hC, hO, a5⟩ hs
  refine c_seq ?_
  refine c_sr ?_
  refine pl_val (.int .i64 s17.2.1) (y_move rfl) ?_
  refine pl_val (.bool (decide (0 ≤ s17.2.1))) (y_geq rfl rfl) ?_
  refine c_nil ?_
  rcases bif_some hs with ⟨a9, hs⟩ | ⟨a9, hs⟩
  ·refine c_condT (congrArg Value.bool a9) ?_
   refine wp_skip ?_
   refine c_seq ?_
   refine wp_block ?_
   refine c_sr ?_
   refine pl_val (.slice a0 a1 a2) (y_move rfl) ?_
   refine pl_val (.int .i64 s17.2.1) (y_move rfl) ?_
   refine pl_val (.int .i64 s17.1) (y_move rfl) ?_
   refine pl_val (.int .i64 n) (y_move rfl) ?_
   obtain ⟨u26, c0, hs⟩ := bind_some hs
   refine pl_val (.int .i64 (Int.tmod s17.1 n)) (y_rem rfl rfl (nz_ne c0)) ?_
   obtain ⟨x27, c1, hs⟩ := bind_some hs
   obtain ⟨b2, d1, b3, c2, c3, d2, d3⟩ := os_idx Sl37 Sz3 a5 c1
   refine pl_val (.pointer (some ⟨b2, 0 + Int.toNat s17.2.1 * 1, none⟩)) (c3 _ _ _ _ _ _ _ _ _ rfl rfl) ?_
   obtain ⟨c4, c5, c6, b4, c7, b0⟩ := os_store (P := Try.prog) (c' := [(.int .i64 (Int.tmod s17.1 n))]) b3 a5 c2 (fun g hg => hO.inM g (os_block a5 g (by simpa using hg))) ⟨rfl, rfl⟩ List.nodup_nil (fun _ h => nomatch h) (fun _ h => .inl h)
   have c8 : ∀ q ∈ [b2], q ∈ a4 := fun q hq => os_block a5 q (by rw [b3]; exact hq)
   refine pl_skip (w' := c4) (ys_store rfl rfl (c6 _ _ rfl Sz3)) ?_
   have hC := hC.st b4 hO c8
   have hO := hO.grow b4 (fun q hq => .inl ((c7 q hq).resolve_right (fun h => nomatch h))) (os_nodup b0) b0.fpl
   refine c_nil ?_
   refine c_region ?_
   refine pl_val (.int .i64 s17.1) (y_move rfl) ?_
   refine pl_val (.int .i64 n) (y_move rfl) ?_
   obtain ⟨u30, c9, hs⟩ := bind_some hs
   refine pl_val (.int .i64 (w64 (Int.tdiv s17.1 n))) (y_quo rfl rfl (nz_ne c9)) ?_
   refine pl_val (.int .i64 (w64 (Int.tdiv s17.1 n))) (y_assign rfl) ?_
   refine c_nil ?_
   refine c_region ?_
   refine pl_val (.int .i64 s17.2.1) (y_move rfl) ?_
   refine pl_val (.int .i64 (w64 (s17.2.1 - 1))) (y_sub rfl rfl) ?_
   refine pl_val (.int .i64 (w64 (s17.2.1 - 1))) (y_assign rfl) ?_
   refine c_nil ?_
   cases hs
   exact ⟨_, c5, fr_ovl 27 ⟨rfl, rfl, rfl, rfl, trivial⟩, hC, hO, b0⟩
  refine c_condF (congrArg Value.bool a9) ?_
  refine wp_exit ?_
  cases hs
  exact ⟨rfl, _, a4, fr_ovl 27 ⟨rfl, trivial⟩, hC, hO, a5⟩
 ·skip
  exact ⟨_, b6, fr_ovl 27 ⟨rfl, rfl, rfl, rfl, trivial⟩, hC, hO, a8⟩
 cases o21 with
 | nx _ => exact True.intro
 | rt r_ =>
  have hs := after_rt hs
  intro a0 a7 hK
  cases hs
  exact hK
 | br s17 =>
  have hs := after_br hs
  rintro a0 a3 ⟨σ, a6, rfl, hC, hO, d0⟩
  refine c_sr ?_
  refine pl_val (.slice a0 a1 a2) (y_move rfl) ?_
  refine pl_val (.slice a0 a1 a2) (y_assign rfl) ?_
  refine c_nil ?_
  refine wp_ret ?_
  cases hs
  exact ⟨_, a0, a1, a2, a6, fr_ovl 27 ⟨rfl, trivial⟩, hC, d0, hO.top⟩

theorem Bd88 : Bodied Try.prog 88 := bodied Try.func88 (by kernel_rfl) rfl

def k_impl_projection (M : Nat → Prop) (w0 : World) (r : (List Int)) (a : Act) (w : World) : Prop :=
  ∃ (σ : Nat → Value) (ra0 : Option Addr) (rn0 rc0 : Nat) (rf0 : List Nat), a = fr 30 (ovl σ [(6, (.slice ra0 rn0 rc0))]) ∧ Chg [] w0 w ∧ (RT.os 3 (RT.int .i64)).val M w (.slice ra0 rn0 rc0) r rf0 ∧ Own (Nw w0 []) (fun _ => True) w (rf0 ++ ([]))
def s_impl_projection (n : Int) (k : Int) (place : Int) : Option ((List Int)) :=
  (s_impl_power n k).bind fun r2 =>
  (mks r2 (0 : Int)).bind fun y4 =>
  (forC (S := (List Int)) (R := (List Int)) (fun k25 s23 =>
  (s_impl_argsAt k25 k n).bind fun r32 =>
  (idx r32 place).bind fun x34 =>
  (idx s23 k25).bind fun x36 =>
  some (.nx (List.set s23 (Int.toNat k25) x34))) 0 (y4.length : Int) y4).bind fun o27 => after o27 (fun r_ => some r_) (fun s23 =>
  some s23)
set_option maxHeartbeats 4000000 in
theorem c_impl_projection {M : Nat → Prop} {w : World}  (n : Int) (k : Int) (place : Int)  (hM : ∀ g, w.heap.size ≤ g → M g) {r : (List Int)} (hs : s_impl_projection n k place = some r) :
    Gives Try.prog 84 [(.int .i64 n), (.int .i64 k), (.int .i64 place)] w (fun v w' => ∃ (ra0 : Option Addr) (rn0 rc0 : Nat) (rf0 : List Nat), v = (.slice ra0 rn0 rc0) ∧ Chg [] w w' ∧ (RT.os 3 (RT.int .i64)).val M w' (.slice ra0 rn0 rc0) r rf0 ∧ Own (Nw w []) (fun _ => True) w' (rf0 ++ ([]))) := by
 refine calls_fr Try.func84 rfl Try.ntmps84 (Nat.le_of_ble_eq_true rfl) ?_
 have hO := Own.start (N := Nw w []) hM Nw.fut
 have hC := Chg.refl [] w
 unfold s_impl_projection at hs
 refine wp_mono (Q := KPost (k_impl_projection M w r)) ?_ (fun e a a8 h => ?_)
 rotate_left
 ·cases e
  case ret =>
   obtain ⟨σ, ra0, rn0, rc0, rf0, rfl, hrest⟩ := h
   exact ret1x Try.results84 (res_tmp rfl) ⟨ra0, rn0, rc0, rf0, rfl, hrest⟩
  all_goals exact (h : False).elim
 refine c_sr ?_
 refine pl_val (.slice none 0 0) (y_assign rfl) ?_
 refine c_nil ?_
 refine c_sr ?_
 refine pl_val (.int .i64 n) (y_move rfl) ?_
 refine pl_val (.int .i64 k) (y_move rfl) ?_
 obtain ⟨r2, b8, hs⟩ := bind_some hs
 refine pl_call Bd112 rfl (c_impl_power (M := M) n k  hO.fut b8) ?_
 rintro _ a8 ⟨rfl, b3⟩
 have hC := hC.ext b3
 have hO := hO.ext b3
 obtain ⟨y4, b9, hs⟩ := bind_some hs
 obtain ⟨a0, a1, a2, c0, c1, c2, b4, c3, a6⟩ := mk_os (M := M) (w := a8) (r := (RT.int .i64)) Rw37 b9 (fun _ _ => ⟨rfl, rfl⟩)
 refine pl_val (w' := c0) (.slice a0 a1 a2) (y_make rfl rfl c2) ?_
 have hC := hC.ext b4
 have hO := hO.new b4 c3 (os_nodup a6) a6.fpl
 refine pl_val (.slice a0 a1 a2) (y_assign rfl) ?_
 refine c_nil ?_
 refine c_seq ?_
 refine c_sr ?_
 refine pl_val (.slice a0 a1 a2) (y_move rfl) ?_
 refine pl_val (.int .i64 (y4.length : Int)) (y_len' Sl37 (os_len a6) rfl) ?_
 refine pl_val (.int .i64 0) (y_move rfl) ?_
 refine c_nil ?_
 obtain ⟨o27, c4, hs⟩ := bind_some hs
 refine wp_block ?_
 refine wp_forC (id := 0) (y4.length : Int) (I := fun k25 s23 a a3 => ∃ (σ : Nat → Value) (a5 : List Nat), a = fr 30 (ovl σ [(0, (.int .i64 n)), (1, (.int .i64 k)), (2, (.int .i64 place)), (7, (.slice a0 a1 a2)), (14, (.int .i64 (y4.length : Int))), (15, (.int .i64 k25))]) ∧ Chg [] w a3 ∧ Own (Nw w []) M a3 (a5 ++ []) ∧ (RT.os 3 (RT.int .i64)).val M a3 (.slice a0 a1 a2) s23 a5) (J := fun s23 a a3 => ∃ (σ : Nat → Value) (a7 : List Nat), a = fr 30 (ovl σ [(7, (.slice a0 a1 a2))]) ∧ Chg [] w a3 ∧ Own (Nw w []) M a3 (a7 ++ []) ∧ (RT.os 3 (RT.int .i64)).val M a3 (.slice a0 a1 a2) s23 a7) (K := (k_impl_projection M w)) ?_ ?_ 0 y4 o27 _ _ ?_ c4 ?_
 ·rintro k25 s23 a a3 ⟨σ, a5, rfl, hC, hO, a4⟩ hlt
  refine c_sr ?_
  refine pl_val (.bool (decide (k25 < (y4.length : Int)))) (y_lss rfl rfl) ?_
  refine c_nil ?_
  refine c_seq ?_
  refine c_condF (congrArg Value.bool (decide_eq_false hlt)) ?_
  refine wp_exit ?_
  exact ⟨rfl, _, a5, fr_ovl 30 ⟨rfl, trivial⟩, hC, hO, a4⟩
 ·rintro k25 s23 o27 a a3 ⟨σ, a5, rfl, hC, hO, a4⟩ hlt hw hs
  refine c_sr ?_
  refine pl_val (.bool (decide (k25 < (y4.length : Int)))) (y_lss rfl rfl) ?_
  refine c_nil ?_
  refine c_seq ?_
  refine c_condT (congrArg Value.bool (decide_eq_true hlt)) ?_
  refine wp_skip ?_
  refine c_seq ?_
  refine wp_block ?_
  refine c_sr ?_
  refine pl_val (.int .i64 k25) (y_move rfl) ?_
  refine pl_val (.int .i64 k25) (y_assign rfl) ?_
  refine c_nil ?_
  refine c_region ?_
  refine pl_val (.slice a0 a1 a2) (y_move rfl) ?_
  refine pl_val (.int .i64 k25) (y_move rfl) ?_
  refine pl_val (.int .i64 k25) (y_move rfl) ?_
  refine pl_val (.int .i64 k) (y_move rfl) ?_
  refine pl_val (.int .i64 n) (y_move rfl) ?_
  obtain ⟨r32, c5, hs⟩ := bind_some hs
  refine pl_call Bd88 rfl (c_impl_argsAt (M := M) k25 k n  hO.fut c5) ?_
  rintro _ e1 ⟨e2, e3, e4, c6, rfl, a9, b0, c7⟩
  have a4 := a4.ext a9
  have hC := hC.ext a9
  have hO := Own.join0 hO a9 c7
  have hO := hO.perm (R := c6 ++ (a5 ++ ([]))) (by simp)
  refine pl_val (.int .i64 place) (y_move rfl) ?_
  obtain ⟨x34, c8, hs⟩ := bind_some hs
  obtain ⟨c9, e5, e6, e7, d0, d1, e8⟩ := os_idx Sl37 Sz3 b0 c8
  refine pl_val (.pointer (some ⟨c9, 0 + Int.toNat place * 1, none⟩)) (d0 _ _ _ _ _ _ _ _ _ rfl rfl) ?_
  refine pl_val (.int .i64 x34) (y_load rfl ((at_load_int Ag3 Sz3 d1) _ (Chg.refl _ _))) ?_
  obtain ⟨x36, d2, hs⟩ := bind_some hs
  obtain ⟨b5, e9, b6, d3, d4, f0, f1⟩ := os_idx Sl37 Sz3 a4 d2
  refine pl_val (.pointer (some ⟨b5, 0 + Int.toNat k25 * 1, none⟩)) (d4 _ _ _ _ _ _ _ _ _ rfl rfl) ?_
  have hO := hO.fr1
  obtain ⟨d5, d6, d7, b1, d8, b2⟩ := os_store (P := Try.prog) (c' := [(.int .i64 x34)]) b6 a4 d3 (fun g hg => hO.inM g (os_block a4 g (by simpa using hg))) ⟨rfl, rfl⟩ List.nodup_nil (fun _ h => nomatch h) (fun _ h => .inl h)
  have b7 : ∀ q ∈ [b5], q ∈ a5 := fun q hq => os_block a4 q (by rw [b6]; exact hq)
  refine pl_skip (w' := d5) (ys_store rfl rfl (d7 _ _ rfl Sz3)) ?_
  have b0 := b0.ma b1 hO b7 (fun _ e => (mem_l (e)))
  have hC := hC.st b1 hO b7
  have hO := hO.grow b1 (fun q hq => .inl ((d8 q hq).resolve_right (fun h => nomatch h))) (os_nodup b2) b2.fpl
  refine c_nil ?_
  refine c_region ?_
  refine pl_val (.int .i64 (w64 (k25 + 1))) (y_add rfl rfl) ?_
  refine pl_val (.int .i64 (w64 (k25 + 1))) (y_move rfl) ?_
  refine c_nil ?_
  cases hs
  have hO := hO.fr1
  have hO := hO.drop
  exact ⟨_, d6, fr_ovl 30 ⟨rfl, rfl, rfl, rfl, rfl, congrArg (Value.int .i64) hw, trivial⟩, hC, hO, b2⟩
 ·skip
  exact ⟨_, c1, fr_ovl 30 ⟨rfl, rfl, rfl, rfl, rfl, rfl, trivial⟩, hC, hO, a6⟩
 cases o27 with
 | nx _ => exact True.intro
 | rt r_ =>
  have hs := after_rt hs
  intro d9 a8 hK
  cases hs
  exact hK
 | br s23 =>
  have hs := after_br hs
  rintro d9 a3 ⟨σ, a7, rfl, hC, hO, e0⟩
  refine c_sr ?_
  refine pl_val (.slice a0 a1 a2) (y_move rfl) ?_
  refine pl_val (.slice a0 a1 a2) (y_assign rfl) ?_
  refine c_nil ?_
  refine wp_ret ?_
  cases hs
  exact ⟨_, a0, a1, a2, a7, fr_ovl 30 ⟨rfl, trivial⟩, hC, e0, hO.top⟩

theorem Rw125 : RowT Try.prog 125 5 1 [(.int .u8 0)] := ⟨Try.underlying125, ⟨_, _, rfl, rfl, rfl, rfl, by decide⟩, rfl, by decide⟩

def k_impl_keyOf (M : Nat → Prop) (w0 : World) (r : ByteArray) (a : Act) (w : World) : Prop :=
  ∃ (σ : Nat → Value) , a = fr 27 (ovl σ [(2, (.string r))]) ∧ Chg [] w0 w
def s_impl_keyOf (list : List Int) : Option (ByteArray) :=
  (mkc 0 (w64 (2 * (list.length : Int)))).bind fun u3 =>
  (forR (S := (List Int)) (R := ByteArray) (fun _ x16 s13 =>
  (app s13 ([IntKind.u8.wrap (ishr .i64 x16 8), IntKind.u8.wrap x16])).bind fun y27 =>
  some (.nx y27)) 0 list (List.replicate (Int.toNat 0) (0 : Int))).bind fun o17 => after o17 (fun r_ => some r_) (fun s13 =>
  some (bstr s13))
set_option maxHeartbeats 4000000 in
theorem c_impl_keyOf {M : Nat → Prop} {w : World} {pa0 : Option Addr} {pn0 pc0 : Nat} (list : List Int) (h0 : (RT.rs (RT.int .i64)).val M w (.slice pa0 pn0 pc0) list ([])) (hM : ∀ g, w.heap.size ≤ g → M g) {r : ByteArray} (hs : s_impl_keyOf list = some r) :
    Gives Try.prog 121 [(.slice pa0 pn0 pc0)] w (fun v w' => v = (.string r) ∧ Chg [] w w') := by
 refine calls_fr Try.func121 rfl Try.ntmps121 (Nat.le_of_ble_eq_true rfl) ?_
 have hO := Own.start (N := Nw w []) hM Nw.fut
 have hC := Chg.refl [] w
 unfold s_impl_keyOf at hs
 refine wp_mono (Q := KPost (k_impl_keyOf M w r)) ?_ (fun e a c8 h => ?_)
 rotate_left
 ·cases e
  case ret =>
   obtain ⟨σ, rfl, hrest⟩ := h
   exact ret1x Try.results121 (res_tmp rfl) ⟨rfl, hrest⟩
  all_goals exact (h : False).elim
 refine c_sr ?_
 refine pl_val (.string ByteArray.empty) (y_assign rfl) ?_
 refine c_nil ?_
 refine c_sr ?_
 refine pl_val (.slice pa0 pn0 pc0) (y_move rfl) ?_
 refine pl_val (.int .i64 (list.length : Int)) (y_len' Sl37 (rs_len h0) rfl) ?_
 refine pl_val (.int .i64 (w64 (2 * (list.length : Int)))) (y_mul rfl rfl) ?_
 obtain ⟨u3, c9, hs⟩ := bind_some hs
 obtain ⟨b1, b2, b3, d0, d1, d2, b4, d3, b5⟩ := mk_cap (M := M) (w := w) (r := (RT.int .u8)) (x := (0 : Int)) Rw125 c9 (fun _ _ => ⟨rfl, rfl⟩)
 refine pl_val (w' := d0) (.slice b1 b2 b3) (y_make rfl rfl d2) ?_
 have h0 := h0.ext b4
 have hC := hC.ext b4
 have hO := hO.new b4 d3 (os_nodup b5) b5.fpl
 refine pl_val (.slice b1 b2 b3) (y_assign rfl) ?_
 refine c_nil ?_
 refine c_seq ?_
 refine c_sr ?_
 refine pl_val (.slice pa0 pn0 pc0) (y_move rfl) ?_
 refine pl_val (.int .i64 (list.length : Int)) (y_len' Sl37 (rs_len h0) rfl) ?_
 refine pl_val (.int .i64 0) (y_move rfl) ?_
 refine c_nil ?_
 obtain ⟨o17, d4, hs⟩ := bind_some hs
 refine wp_block ?_
 refine wp_forR (id := 0) (I := fun i_ xs_ s13 a a0 => ∃ a1 : Nat, i_ = (a1 : Int) ∧ List.drop a1 list = xs_ ∧ (∃ (σ : Nat → Value) (a2 : Option Addr) (a3 : Nat) (a4 : Nat) (a6 : List Nat), a = fr 27 (ovl σ [(3, (.slice a2 a3 a4)), (10, (.slice pa0 pn0 pc0)), (11, (.int .i64 (list.length : Int))), (12, (.int .i64 (a1 : Int)))]) ∧ Chg [] w a0 ∧ Own (Nw w []) M a0 (a6 ++ []) ∧ (RT.rs (RT.int .i64)).val M a0 (.slice pa0 pn0 pc0) list ([]) ∧ (RT.os 5 (RT.int .u8)).val M a0 (.slice a2 a3 a4) s13 a6)) (J := fun s13 a a0 => ∃ (σ : Nat → Value) (a7 : Option Addr) (a8 : Nat) (a9 : Nat) (b6 : List Nat), a = fr 27 (ovl σ [(3, (.slice a7 a8 a9))]) ∧ Chg [] w a0 ∧ Own (Nw w []) M a0 (b6 ++ []) ∧ (RT.rs (RT.int .i64)).val M a0 (.slice pa0 pn0 pc0) list ([]) ∧ (RT.os 5 (RT.int .u8)).val M a0 (.slice a7 a8 a9) s13 b6) (K := (k_impl_keyOf M w)) ?_ ?_ list 0 (List.replicate (Int.toNat 0) (0 : Int)) o17 _ _ ?_ d4 ?_
 ·rintro _ s13 a a0 ⟨a1, rfl, hd, σ, a2, a3, a4, a6, rfl, hC, hO, h0, a5⟩
  have hlt := drop_nil_ge hd
  refine c_sr ?_
  refine pl_val (.bool (decide ((a1 : Int) < (list.length : Int)))) (y_lss rfl rfl) ?_
  refine c_nil ?_
  refine c_seq ?_
  refine c_condF (congrArg Value.bool (decide_eq_false hlt)) ?_
  refine wp_exit ?_
  exact ⟨rfl, _, a2, a3, a4, a6, fr_ovl 27 ⟨rfl, trivial⟩, hC, hO, h0, a5⟩
 ·rintro _ x16 xs_ s13 o17 a a0 ⟨a1, rfl, hd, σ, a2, a3, a4, a6, rfl, hC, hO, h0, a5⟩ hs
  have hlt := drop_cons_lt hd
  have d5 := drop_cons_idx hd
  refine c_sr ?_
  refine pl_val (.bool (decide ((a1 : Int) < (list.length : Int)))) (y_lss rfl rfl) ?_
  refine c_nil ?_
  refine c_seq ?_
  refine c_condT (congrArg Value.bool (decide_eq_true hlt)) ?_
  refine wp_skip ?_
  refine c_seq ?_
  refine wp_block ?_
  refine c_sr ?_
  obtain ⟨d6, d7, d8, d9⟩ := rs_idx Sl37 Sz3 h0 d5
  refine pl_val (.pointer (some ⟨d6, d7, none⟩)) (d8 _ _ _ _ _ _ _ _ _ rfl rfl) ?_
  refine pl_val (.int .i64 x16) (y_load rfl ((at_load_int Ag3 Sz3 d9) _ (Chg.refl _ _))) ?_
  refine pl_val (.int .i64 x16) (y_assign rfl) ?_
  refine c_nil ?_
  refine c_region ?_
  refine pl_val (.slice a2 a3 a4) (y_move rfl) ?_
  refine pl_val (.int .i64 x16) (y_move rfl) ?_
  refine pl_val (.int .i64 (ishr .i64 x16 8)) (y_shr rfl rfl (by decide)) ?_
  refine pl_val (.int .u8 (IntKind.u8.wrap (ishr .i64 x16 8))) (y_conv_int Try.underlying3 Try.underlying5 rfl) ?_
  refine pl_val (.int .i64 x16) (y_move rfl) ?_
  refine pl_val (.int .u8 (IntKind.u8.wrap x16)) (y_conv_int Try.underlying3 Try.underlying5 rfl) ?_
  obtain ⟨c4, b7, e0, c5, b0, c6⟩ := new_block a0 [(.int .u8 (IntKind.u8.wrap (ishr .i64 x16 8))), (.int .u8 (IntKind.u8.wrap x16))] 5
  refine pl_val (w' := c4) (.slice (some ⟨b7, 0, none⟩) 2 2) (y_bslice rfl (by rw [e0, c5]; kernel_rfl)) ?_
  have h0 := h0.ext b0
  have a5 := a5.ext b0
  have hC := hC.ext b0
  have hO := hO.new1 b0 c5 c6.lt
  have b8 := os_of_box (r := (RT.int .u8)) (M := M) (css := [[(.int .u8 (IntKind.u8.wrap (ishr .i64 x16 8)))], [(.int .u8 (IntKind.u8.wrap x16))]]) (fps := [([] : List Nat), ([] : List Nat)]) (xs := ([IntKind.u8.wrap (ishr .i64 x16 8), IntKind.u8.wrap x16] : List Int)) c6 ⟨⟨rfl, rfl⟩, ⟨⟨rfl, rfl⟩, trivial⟩⟩ (Nat.le_of_ble_eq_true rfl) (List.nodup_cons.2 ⟨(fun h => nomatch h), List.nodup_nil⟩)
  have b8 : (RT.os 5 (RT.int .u8)).val M c4 (.slice (some ⟨b7, 0, none⟩) 2 2) [IntKind.u8.wrap (ishr .i64 x16 8), IntKind.u8.wrap x16] [b7] := b8
  obtain ⟨y27, e1, hs⟩ := bind_some hs
  have hO := hO.fr1
  obtain ⟨b9, c0, c1, e2, e3, e4, c2, e5, c3⟩ := app_os Rw125 e1 a5 b8 hO.inM (fun g hg hq => hO.apart g hq (mem_l hg))
  have c7 := os_block a5
  refine pl_val (w' := e2) (.slice b9 c0 c1) (y_append rfl rfl (e4 _)) ?_
  have hO := hO.fr1
  have hO := hO.fr1
  have h0 := h0.mt c2 hO c7
  have hC := hC.st c2 hO c7
  have hO := hO.eat c2 e5 (os_nodup c3) c3.fpl
  refine pl_val (.slice b9 c0 c1) (y_assign rfl) ?_
  refine c_nil ?_
  refine c_region ?_
  refine pl_val (.int .i64 (w64 ((a1 : Int) + 1))) (y_add rfl rfl) ?_
  refine pl_val (.int .i64 (w64 ((a1 : Int) + 1))) (y_move rfl) ?_
  refine c_nil ?_
  cases hs
  exact ⟨_, rfl, drop_cons_next hd, _, b9, c0, c1, e3, fr_ovl 27 ⟨rfl, rfl, rfl, congrArg (Value.int .i64) (w64_succ hlt (Int.natCast_nonneg _) (rs_max h0)), trivial⟩, hC, hO, h0, c3⟩
 ·skip
  exact ⟨0, rfl, rfl, _, b1, b2, b3, d1, fr_ovl 27 ⟨rfl, rfl, rfl, rfl, trivial⟩, hC, hO, h0, b5⟩
 cases o17 with
 | nx _ => exact True.intro
 | rt r_ =>
  have hs := after_rt hs
  intro e6 c8 hK
  cases hs
  exact hK
 | br s13 =>
  have hs := after_br hs
  rintro e6 a0 ⟨σ, a7, a8, a9, b6, rfl, hC, hO, h0, e7⟩
  refine c_sr ?_
  refine pl_val (.slice a7 a8 a9) (y_move rfl) ?_
  refine pl_val (.string (bstr s13)) (y_str Try.underlying125 Try.underlying9 Try.underlying5 e7 rfl) ?_
  refine pl_val (.string (bstr s13)) (y_assign rfl) ?_
  refine c_nil ?_
  refine wp_ret ?_
  cases hs
  exact ⟨_, fr_ovl 27 ⟨rfl, trivial⟩, hC⟩

end Go.Proofs
