/- What functions of the program compute, as plain functions, and that a call gives just that. Conditions: those named in each theorem. -/
import Derived.Test.YtkbacbikbndakaaF0
set_option linter.unusedVariables false
namespace Go.Proofs
open Go.G Go.RowKit
set_option maxRecDepth 100000

def k_spec_l8Find (M : Nat → Prop) (w0 : World) (r : Int × Bool) (a : Act) (w : World) : Prop :=
  ∃ (σ : Nat → Value) , a = fr 40 (ovl σ [(4, (.int .i64 r.1)), (5, (.bool r.2))]) ∧ Chg [] w0 w
def s_spec_l8Find (list : List (List Int)) (t : List Int) : Option (Int × Bool) :=
  (iter (S := Int × Int) (R := Int × Bool) (fun s11 =>
  (bif (decide (s11.1 < s11.2)) then (idx list (w64 (Int.tdiv (w64 (s11.1 + s11.2)) 2))).bind fun x18 =>
  (s_spec_l3Less x18 t).bind fun r23 =>
  (bif r23 then some (.nx (w64 ((w64 (Int.tdiv (w64 (s11.1 + s11.2)) 2)) + 1), s11.2)) else some (.nx (s11.1, w64 (Int.tdiv (w64 (s11.1 + s11.2)) 2)))) else some (.br (s11.1, s11.2)))) FU (0, (list.length : Int))).bind fun o15 => after o15 (fun r_ => some r_) (fun s11 =>
  (bif (decide (s11.1 < (list.length : Int))) then (idx list s11.1).bind fun x26 =>
  (s_spec_l1Same x26 t).bind fun r31 =>
  some (s11.1, r31) else some (s11.1, false)))
set_option maxHeartbeats 4000000 in
theorem c_spec_l8Find {M : Nat → Prop} {w : World} {pa0 : Option Addr} {pn0 pc0 : Nat} {pa1 : Option Addr} {pn1 pc1 : Nat} (list : List (List Int)) (t : List Int) (h0 : (RT.rs (RT.rs (RT.int .i64))).val M w (.slice pa0 pn0 pc0) list ([])) (h1 : (RT.rs (RT.int .i64)).val M w (.slice pa1 pn1 pc1) t ([])) (hM : ∀ g, w.heap.size ≤ g → M g) {r : Int × Bool} (hs : s_spec_l8Find list t = some r) :
    Gives Try.prog 46 [(.slice pa0 pn0 pc0), (.slice pa1 pn1 pc1)] w (fun v w' => v = (.tuple #[(.int .i64 r.1), (.bool r.2)]) ∧ Chg [] w w') := by
 refine calls_fr Try.func46 rfl Try.ntmps46 (Nat.le_of_ble_eq_true rfl) ?_
 have hO := Own.start (N := Nw w []) hM Nw.fut
 have hC := Chg.refl [] w
 unfold s_spec_l8Find at hs
 refine wp_mono (Q := KPost (k_spec_l8Find M w r)) ?_ (fun e a b0 h => ?_)
 rotate_left
 ·cases e
  case ret =>
   obtain ⟨σ, rfl, hrest⟩ := h
   exact ret2x Try.results46 (res_tmp rfl) (res_tmp rfl) ⟨rfl, hrest⟩
  all_goals exact (h : False).elim
 refine c_sr ?_
 refine pl_val (.int .i64 0) (y_assign rfl) ?_
 refine pl_val (.bool false) (y_assign rfl) ?_
 refine c_nil ?_
 refine c_sr ?_
 refine pl_val (.slice pa0 pn0 pc0) (y_move rfl) ?_
 refine pl_val (.int .i64 (list.length : Int)) (y_len' Sl25 (rs_len h0) rfl) ?_
 refine pl_val (.int .i64 0) (y_assign rfl) ?_
 refine pl_val (.int .i64 (list.length : Int)) (y_assign rfl) ?_
 refine c_nil ?_
 refine c_seq ?_
 obtain ⟨o15, b1, hs⟩ := bind_some hs
 refine wp_block ?_
 refine wp_iter (id := 0) (I := fun s11 a a1 => ∃ (σ : Nat → Value), a = fr 40 (ovl σ [(0, (.slice pa0 pn0 pc0)), (1, (.slice pa1 pn1 pc1)), (6, (.int .i64 s11.1)), (7, (.int .i64 s11.2))]) ∧ Chg [] w a1 ∧ Own (Nw w []) M a1 ([]) ∧ (RT.rs (RT.rs (RT.int .i64))).val M a1 (.slice pa0 pn0 pc0) list ([]) ∧ (RT.rs (RT.int .i64)).val M a1 (.slice pa1 pn1 pc1) t ([])) (J := fun s11 a a1 => ∃ (σ : Nat → Value), a = fr 40 (ovl σ [(0, (.slice pa0 pn0 pc0)), (1, (.slice pa1 pn1 pc1)), (6, (.int .i64 s11.1))]) ∧ Chg [] w a1 ∧ Own (Nw w []) M a1 ([]) ∧ (RT.rs (RT.rs (RT.int .i64))).val M a1 (.slice pa0 pn0 pc0) list ([]) ∧ (RT.rs (RT.int .i64)).val M a1 (.slice pa1 pn1 pc1) t ([])) (K := (k_spec_l8Find M w)) ?_ FU (0, (list.length : Int)) o15 _ _ ?_ b1 ?_
 ·rintro s11 o15 a a1 ⟨σ, rfl, hC, hO, h0, h1⟩ hs
  refine c_seq ?_
  refine c_sr ?_
  refine pl_val (.int .i64 s11.1) (y_move rfl) ?_
  refine pl_val (.int .i64 s11.2) (y_move rfl) ?_
  refine pl_val (.bool (decide (s11.1 < s11.2))) (y_lss rfl rfl) ?_
  refine c_nil ?_
  rcases bif_some hs with ⟨a6, hs⟩ | ⟨a6, hs⟩
  ·refine c_condT (congrArg Value.bool a6) ?_
   refine wp_skip ?_
   refine wp_block ?_
   refine c_sr ?_
   refine pl_val (.int .i64 s11.1) (y_move rfl) ?_
   refine pl_val (.int .i64 s11.2) (y_move rfl) ?_
   refine pl_val (.int .i64 (w64 (s11.1 + s11.2))) (y_add rfl rfl) ?_
   refine pl_val (.int .i64 (w64 (Int.tdiv (w64 (s11.1 + s11.2)) 2))) (y_quo rfl rfl (by decide)) ?_
   refine pl_val (.int .i64 (w64 (Int.tdiv (w64 (s11.1 + s11.2)) 2))) (y_assign rfl) ?_
   refine c_nil ?_
   refine c_sr ?_
   refine pl_val (.slice pa0 pn0 pc0) (y_move rfl) ?_
   refine pl_val (.int .i64 (w64 (Int.tdiv (w64 (s11.1 + s11.2)) 2))) (y_move rfl) ?_
   obtain ⟨x18, b2, hs⟩ := bind_some hs
   obtain ⟨b3, b4, b5, a7⟩ := rs_idx Sl25 Sz43 h0 b2
   refine pl_val (.pointer (some ⟨b3, b4, none⟩)) (b5 _ _ _ _ _ _ _ _ _ rfl rfl) ?_
   obtain ⟨d1, b6, a4⟩ := at_load Ag43 Sz43 (fun _ => rfl) a7
   obtain ⟨b7, b8, b9, rfl⟩ := rs_sl a4
   refine pl_val (.slice b7 b8 b9) (y_load rfl (b6 _ (Chg.refl _ _))) ?_
   refine pl_val (.slice pa1 pn1 pc1) (y_move rfl) ?_
   obtain ⟨r23, c0, hs⟩ := bind_some hs
   refine pl_call Bd85 rfl (c_spec_l3Less (M := M) x18 t a4 h1 hO.fut c0) ?_
   rintro _ d2 ⟨rfl, a2⟩
   have h0 := h0.ext a2
   have h1 := h1.ext a2
   have a4 := a4.ext a2
   have a7 := at_ext a7 a2
   have hC := hC.ext a2
   have hO := hO.ext a2
   refine c_nil ?_
   rcases bif_some hs with ⟨a8, hs⟩ | ⟨a8, hs⟩
   ·refine c_condT (congrArg Value.bool a8) ?_
    refine c_region ?_
    refine pl_val (.int .i64 (w64 (Int.tdiv (w64 (s11.1 + s11.2)) 2))) (y_move rfl) ?_
    refine pl_val (.int .i64 (w64 ((w64 (Int.tdiv (w64 (s11.1 + s11.2)) 2)) + 1))) (y_add rfl rfl) ?_
    refine pl_val (.int .i64 (w64 ((w64 (Int.tdiv (w64 (s11.1 + s11.2)) 2)) + 1))) (y_assign rfl) ?_
    refine c_nil ?_
    cases hs
    exact ⟨_, fr_ovl 40 ⟨rfl, rfl, rfl, rfl, trivial⟩, hC, hO, h0, h1⟩
   refine c_condF (congrArg Value.bool a8) ?_
   refine c_region ?_
   refine pl_val (.int .i64 (w64 (Int.tdiv (w64 (s11.1 + s11.2)) 2))) (y_move rfl) ?_
   refine pl_val (.int .i64 (w64 (Int.tdiv (w64 (s11.1 + s11.2)) 2))) (y_assign rfl) ?_
   refine c_nil ?_
   cases hs
   exact ⟨_, fr_ovl 40 ⟨rfl, rfl, rfl, rfl, trivial⟩, hC, hO, h0, h1⟩
  refine c_condF (congrArg Value.bool a6) ?_
  refine wp_exit ?_
  cases hs
  exact ⟨rfl, _, fr_ovl 40 ⟨rfl, rfl, rfl, trivial⟩, hC, hO, h0, h1⟩
 ·skip
  exact ⟨_, fr_ovl 40 ⟨rfl, rfl, rfl, rfl, trivial⟩, hC, hO, h0, h1⟩
 cases o15 with
 | nx _ => exact True.intro
 | rt r_ =>
  have hs := after_rt hs
  intro c1 b0 hK
  cases hs
  exact hK
 | br s11 =>
  have hs := after_br hs
  rintro c1 a1 ⟨σ, rfl, hC, hO, h0, h1⟩
  refine c_sr ?_
  refine pl_val (.int .i64 s11.1) (y_move rfl) ?_
  refine pl_val (.int .i64 s11.1) (y_move rfl) ?_
  refine pl_val (.slice pa0 pn0 pc0) (y_move rfl) ?_
  refine pl_val (.int .i64 (list.length : Int)) (y_len' Sl25 (rs_len h0) rfl) ?_
  refine pl_val (.bool (decide (s11.1 < (list.length : Int)))) (y_lss rfl rfl) ?_
  refine pl_val (.bool (decide (s11.1 < (list.length : Int)))) (y_move rfl) ?_
  rcases bif_some hs with ⟨a0, hs⟩ | ⟨a0, hs⟩
  ·skip
   refine pl_yes (.slice pa0 pn0 pc0) (tg := 32) (by kernel_rfl) (congrArg Value.bool a0) (y_move rfl) ?_
   refine pl_yes (.int .i64 s11.1) (tg := 32) (by kernel_rfl) (congrArg Value.bool a0) (y_move rfl) ?_
   obtain ⟨x26, c2, hs⟩ := bind_some hs
   obtain ⟨c3, c4, c5, a9⟩ := rs_idx Sl25 Sz43 h0 c2
   refine pl_yes (.pointer (some ⟨c3, c4, none⟩)) (tg := 32) (by kernel_rfl) (congrArg Value.bool a0) (c5 _ _ _ _ _ _ _ _ _ rfl rfl) ?_
   obtain ⟨d3, c6, a5⟩ := at_load Ag43 Sz43 (fun _ => rfl) a9
   obtain ⟨c7, c8, c9, rfl⟩ := rs_sl a5
   refine pl_yes (.slice c7 c8 c9) (tg := 32) (by kernel_rfl) (congrArg Value.bool a0) (y_load rfl (c6 _ (Chg.refl _ _))) ?_
   refine pl_yes (.slice pa1 pn1 pc1) (tg := 32) (by kernel_rfl) (congrArg Value.bool a0) (y_move rfl) ?_
   obtain ⟨r31, d0, hs⟩ := bind_some hs
   refine pl_cally (tg := 32) (by kernel_rfl) (congrArg Value.bool a0) Bd50 rfl (c_spec_l1Same (M := M) x26 t a5 h1 hO.fut d0) ?_
   rintro _ d4 ⟨rfl, a3⟩
   have h0 := h0.ext a3
   have h1 := h1.ext a3
   have a5 := a5.ext a3
   have a9 := at_ext a9 a3
   have hC := hC.ext a3
   have hO := hO.ext a3
   refine pl_val (.bool r31) (y_pick_t (congrArg Value.bool a0) rfl) ?_
   refine pl_val (.int .i64 s11.1) (y_assign rfl) ?_
   refine pl_val (.bool r31) (y_assign rfl) ?_
   refine c_nil ?_
   refine wp_ret ?_
   cases hs
   exact ⟨_, fr_ovl 40 ⟨rfl, rfl, trivial⟩, hC⟩
  refine pl_not (tg := 32) (by kernel_rfl) (congrArg Value.bool a0) ?_
  refine pl_not (tg := 32) (by kernel_rfl) (congrArg Value.bool a0) ?_
  refine pl_not (tg := 32) (by kernel_rfl) (congrArg Value.bool a0) ?_
  refine pl_not (tg := 32) (by kernel_rfl) (congrArg Value.bool a0) ?_
  refine pl_not (tg := 32) (by kernel_rfl) (congrArg Value.bool a0) ?_
  refine pl_not (tg := 32) (by kernel_rfl) (congrArg Value.bool a0) ?_
  refine pl_val (.bool false) (y_pick_f (congrArg Value.bool a0) rfl) ?_
  refine pl_val (.int .i64 s11.1) (y_assign rfl) ?_
  refine pl_val (.bool false) (y_assign rfl) ?_
  refine c_nil ?_
  refine wp_ret ?_
  cases hs
  exact ⟨_, fr_ovl 40 ⟨rfl, rfl, trivial⟩, hC⟩

theorem Bd46 : Bodied Try.prog 46 := bodied Try.func46 (by kernel_rfl) rfl

def k_spec_l8Put (M : Nat → Prop) (w0 : World) (r : (List (List Int))) (a : Act) (w : World) : Prop :=
  ∃ (σ : Nat → Value) (ra0 : Option Addr) (rn0 rc0 : Nat), a = fr 27 (ovl σ [(4, (.slice ra0 rn0 rc0))]) ∧ Chg [] w0 w ∧ (RT.rs (RT.rs (RT.int .i64))).val (Past M w0 w) w (.slice ra0 rn0 rc0) r []
def s_spec_l8Put (list : List (List Int)) (t : List Int) : Option ((List (List Int))) :=
  (s_spec_l8Find list t).bind fun r4 =>
  (bif r4.2 then some list else (slc list 0 r4.1).bind fun y8 =>
  (slc list r4.1 (list.length : Int)).bind fun y11 =>
  (app ([]) y8).bind fun y17 =>
  (app y17 ([t])).bind fun y22 =>
  (app y22 y11).bind fun y25 =>
  some y25)
set_option maxHeartbeats 4000000 in
theorem c_spec_l8Put {M : Nat → Prop} {w : World} {pa0 : Option Addr} {pn0 pc0 : Nat} {pa1 : Option Addr} {pn1 pc1 : Nat} (list : List (List Int)) (t : List Int) (h0 : (RT.rs (RT.rs (RT.int .i64))).val M w (.slice pa0 pn0 pc0) list ([])) (h1 : (RT.rs (RT.int .i64)).val M w (.slice pa1 pn1 pc1) t ([])) (hM : ∀ g, w.heap.size ≤ g → M g) {r : (List (List Int))} (hs : s_spec_l8Put list t = some r) :
    Gives Try.prog 71 [(.slice pa0 pn0 pc0), (.slice pa1 pn1 pc1)] w (fun v w' => ∃ (ra0 : Option Addr) (rn0 rc0 : Nat), v = (.slice ra0 rn0 rc0) ∧ Chg [] w w' ∧ (RT.rs (RT.rs (RT.int .i64))).val (Past M w w') w' (.slice ra0 rn0 rc0) r []) := by
 refine calls_fr Try.func71 rfl Try.ntmps71 (Nat.le_of_ble_eq_true rfl) ?_
 have hO := Own.start (N := Nw w []) hM Nw.fut
 have hC := Chg.refl [] w
 unfold s_spec_l8Put at hs
 refine wp_mono (Q := KPost (k_spec_l8Put M w r)) ?_ (fun e a q4 h => ?_)
 rotate_left
 ·cases e
  case ret =>
   obtain ⟨σ, ra0, rn0, rc0, rfl, hrest⟩ := h
   exact ret1x Try.results71 (res_tmp rfl) ⟨ra0, rn0, rc0, rfl, hrest⟩
  all_goals exact (h : False).elim
 refine c_sr ?_
 refine pl_val (.slice none 0 0) (y_assign rfl) ?_
 refine c_nil ?_
 refine c_sr ?_
 refine pl_val (.slice pa0 pn0 pc0) (y_move rfl) ?_
 refine pl_val (.slice pa1 pn1 pc1) (y_move rfl) ?_
 obtain ⟨r4, j5, hs⟩ := bind_some hs
 refine pl_call Bd46 rfl (c_spec_l8Find (M := M) list t h0 h1 hO.fut j5) ?_
 rintro _ h6 ⟨rfl, d8⟩
 have h0 := h0.ext d8
 have h1 := h1.ext d8
 have hC := hC.ext d8
 have hO := hO.ext d8
 refine pl_val (.tuple #[(.int .i64 r4.1), (.bool r4.2)]) (y_move rfl) ?_
 refine pl_val (.int .i64 r4.1) (y_extract rfl (by kernel_rfl)) ?_
 refine pl_val (.bool r4.2) (y_extract rfl (by kernel_rfl)) ?_
 refine pl_val (.int .i64 r4.1) (y_assign rfl) ?_
 refine pl_val (.bool r4.2) (y_assign rfl) ?_
 refine c_nil ?_
 refine c_seq ?_
 refine c_sr ?_
 refine pl_val (.bool r4.2) (y_move rfl) ?_
 refine c_nil ?_
 rcases bif_some hs with ⟨f1, hs⟩ | ⟨f1, hs⟩
 ·refine c_condT (congrArg Value.bool f1) ?_
  refine c_sr ?_
  refine pl_val (.slice pa0 pn0 pc0) (y_move rfl) ?_
  refine pl_val (.slice pa0 pn0 pc0) (y_assign rfl) ?_
  refine c_nil ?_
  refine wp_ret ?_
  cases hs
  exact ⟨_, pa0, pn0, pc0, fr_ovl 27 ⟨rfl, trivial⟩, hC, (Keeps.out Keeps.refl h0)⟩
 refine c_condF (congrArg Value.bool f1) ?_
 refine wp_skip ?_
 refine c_seq ?_
 refine x_start [4, 7, 11] Mx rfl ?_
 have c3 := Chg.drew h6
 generalize World.drew h6 = f2 at c3 ⊢
 have h0 := h0.ext c3
 have h1 := h1.ext c3
 have hC := hC.ext c3
 have hO := hO.ext c3
 have hS := Chg.refl [] f2
 refine x_p 1 (.slice pa0 pn0 pc0) rfl (by kernel_rfl)  (fun _ => y_move rfl) (fun _ => hS) ?_
 refine x_p 2 (.int .i64 r4.1) rfl (by kernel_rfl)  (fun _ => y_move rfl) (fun _ => hS) ?_
 obtain ⟨y8, j6, hs⟩ := bind_some hs
 obtain ⟨j7, j8, j9, a0, q5, k0, q6⟩ := rs_part Try.underlying25 Sz43 h0 j6
 refine x_p 3 (.slice j7 j8 j9) rfl (by kernel_rfl)  (fun _ => y_slice rfl rfl rfl (k0 rfl _)) (fun _ => hS) ?_
 refine x_p 5 (.slice pa1 pn1 pc1) rfl (by kernel_rfl)  (fun _ => y_move rfl) (fun _ => hS) ?_
 refine x_p 8 (.slice pa0 pn0 pc0) rfl (by kernel_rfl)  (fun _ => y_move rfl) (fun _ => hS) ?_
 refine x_p 9 (.int .i64 r4.1) rfl (by kernel_rfl)  (fun _ => y_move rfl) (fun _ => hS) ?_
 obtain ⟨y11, k1, hs⟩ := bind_some hs
 obtain ⟨k2, k3, k4, a1, q7, q8, k5⟩ := rs_part Try.underlying25 Sz43 h0 k1
 refine x_p 10 (.slice k2 k3 k4) rfl (by kernel_rfl)  (fun _ => y_slice rfl rfl rfl (k5 rfl _)) (fun _ => hS) ?_
 refine x_two (i := 0) (j := 6) (by kernel_rfl) ?_ ?_
 ·skip
  obtain ⟨f3, f4, k6, h7, a5, h8⟩ := new_block f2 [] 43
  refine xk_val (w' := f3) (b := false) (.slice (some ⟨f4, 0, none⟩) 0 0) rfl  (y_bslice rfl (by rw [k6, h7]; kernel_rfl)) rfl (fun _ => hS.ext a5) ?_
  have h0 := h0.ext a5
  have h1 := h1.ext a5
  have a0 := a0.ext a5
  have a1 := a1.ext a5
  have hC := hC.ext a5
  have hO := hO.new1 a5 h7 h8.lt
  have b1 := os_of_box (r := (RT.os 3 (RT.int .i64))) (M := M) (css := []) (fps := []) (xs := ([] : List (List Int))) h8 trivial (Nat.zero_le _) (List.nodup_cons.2 ⟨(fun h => nomatch h), List.nodup_nil⟩)
  have b1 : (RT.os 43 (RT.os 3 (RT.int .i64))).val M f3 (.slice (some ⟨f4, 0, none⟩) 0 0) [] [f4] := b1
  have hS := hS.ext a5
  refine x_two (i := 4) (j := 6) (by kernel_rfl) ?_ ?_
  ·skip
   obtain ⟨b2, q9, d9, k7, hO, h9⟩ := os_inner (Frz.os Frz.int) b1 hO
   have h0 := h0.sub (M' := b2) d9
   have h1 := h1.sub (M' := b2) d9
   have a0 := a0.sub (M' := b2) d9
   have a1 := a1.sub (M' := b2) d9
   have hK := k7
   obtain ⟨y17, c4, hs⟩ := bind_some hs
   obtain ⟨k8, k9, l0, i0, r0, l1, b3, l2, b4⟩ := app_rs Rw25 c4 h9 a0 hO.inM
   have c5 := os_block h9
   refine xk_val (w' := i0) (b := true) (.slice k8 k9 l0) rfl  (y_append rfl rfl (l1 _)) rfl (fun h => nomatch h) ?_
   have h0 := h0.mt b3 hO c5
   have h1 := h1.mt b3 hO c5
   have a0 := a0.mt b3 hO c5
   have a1 := a1.mt b3 hO c5
   have hC := hC.st b3 hO c5
   have hO := hO.grow b3 l2 (os_nodup b4) b4.fpl
   refine x_one (i := 6) (by kernel_rfl) ?_
   obtain ⟨i1, f5, l3, i2, a7, i3⟩ := new_block i0 [(.slice pa1 pn1 pc1)] 43
   refine xk_val (w' := i1) (b := true) (.slice (some ⟨f5, 0, none⟩) 1 1) rfl  (y_bslice rfl (by rw [l3, i2]; kernel_rfl)) rfl (fun h => nomatch h) ?_
   have h0 := h0.ext a7
   have h1 := h1.ext a7
   have a0 := a0.ext a7
   have a1 := a1.ext a7
   have b4 := b4.ext a7
   have hC := hC.ext a7
   have hO := hO.new1 a7 i2 i3.lt
   have f6 := os_of_box (r := (RT.rs (RT.int .i64))) (M := b2) (css := [[(.slice pa1 pn1 pc1)]]) (fps := [([] : List Nat)]) (xs := ([t] : List (List Int))) i3 ⟨(rs_unval h1), trivial⟩ (Nat.le_of_ble_eq_true rfl) (List.nodup_cons.2 ⟨(fun h => nomatch h), List.nodup_nil⟩)
   have f6 : (RT.os 43 (RT.rs (RT.int .i64))).val b2 i1 (.slice (some ⟨f5, 0, none⟩) 1 1) [t] [f5] := f6
   refine x_one (i := 7) (by kernel_rfl) ?_
   obtain ⟨y22, c6, hs⟩ := bind_some hs
   have hO := hO.fr1
   obtain ⟨l4, l5, l6, l7, r1, l8, b5, l9, e0⟩ := app_os Rw25 c6 b4 f6 hO.inM (fun g hg hq => hO.apart g hq (mem_l hg))
   have c7 := os_block b4
   refine xk_val (w' := l7) (b := true) (.slice l4 l5 l6) rfl  (y_append rfl rfl (l8 _)) rfl (fun h => nomatch h) ?_
   have hO := hO.fr1
   have hO := hO.fr1
   have h0 := h0.mt b5 hO c7
   have h1 := h1.mt b5 hO c7
   have a0 := a0.mt b5 hO c7
   have a1 := a1.mt b5 hO c7
   have hC := hC.st b5 hO c7
   have hO := hO.eat b5 l9 (os_nodup e0) e0.fpl
   refine x_one (i := 11) (by kernel_rfl) ?_
   obtain ⟨y25, c8, hs⟩ := bind_some hs
   obtain ⟨f7, f8, f9, m0, r2, m1, b6, m2, g0⟩ := app_rs Rw25 c8 e0 a1 hO.inM
   have c9 := os_block e0
   refine xk_val (w' := m0) (b := true) (.slice f7 f8 f9) rfl  (y_append rfl rfl (m1 _)) rfl (fun h => nomatch h) ?_
   have h0 := h0.mt b6 hO c9
   have h1 := h1.mt b6 hO c9
   have a0 := a0.mt b6 hO c9
   have a1 := a1.mt b6 hO c9
   have hC := hC.st b6 hO c9
   have hO := hO.grow b6 m2 (os_nodup g0) g0.fpl
   refine x_p 12 (.slice f7 f8 f9) rfl (by kernel_rfl)  (fun _ => y_assign rfl) (fun h => nomatch h) ?_
   refine x_end (by kernel_rfl) ?_
   clear hS
   refine wp_ret ?_
   cases hs
   obtain ⟨e1, r3, e2, m3, hO, m4⟩ := frz_own (Frz.os (Frz.rs Frz.int)) g0 hO
   have h0 := h0.sub (M' := e1) e2
   have h1 := h1.sub (M' := e1) e2
   have a0 := a0.sub (M' := e1) e2
   have a1 := a1.sub (M' := e1) e2
   have hK := hK.trans m3
   exact ⟨_, f7, f8, f9, fr_ovl 27 ⟨rfl, trivial⟩, hC, (Keeps.out hK m4)⟩
  ·skip
   obtain ⟨i4, g1, m5, i5, a2, i6⟩ := new_block f3 [(.slice pa1 pn1 pc1)] 43
   refine xk_val (w' := i4) (b := false) (.slice (some ⟨g1, 0, none⟩) 1 1) rfl  (y_bslice rfl (by rw [m5, i5]; kernel_rfl)) rfl (fun _ => hS.ext a2) ?_
   have h0 := h0.ext a2
   have h1 := h1.ext a2
   have a0 := a0.ext a2
   have a1 := a1.ext a2
   have b1 := b1.ext a2
   have hC := hC.ext a2
   have hO := hO.new1 a2 i5 i6.lt
   have a8 := os_of_box (r := (RT.rs (RT.int .i64))) (M := M) (css := [[(.slice pa1 pn1 pc1)]]) (fps := [([] : List Nat)]) (xs := ([t] : List (List Int))) i6 ⟨(rs_unval h1), trivial⟩ (Nat.le_of_ble_eq_true rfl) (List.nodup_cons.2 ⟨(fun h => nomatch h), List.nodup_nil⟩)
   have a8 : (RT.os 43 (RT.rs (RT.int .i64))).val M i4 (.slice (some ⟨g1, 0, none⟩) 1 1) [t] [g1] := a8
   have hS := hS.ext a2
   refine x_one (i := 4) (by kernel_rfl) ?_
   have hO := hO.fr1
   obtain ⟨d0, r5, d1, m6, hO, i7⟩ := os_inner (Frz.os Frz.int) b1 hO
   have h0 := h0.sub (M' := d0) d1
   have h1 := h1.sub (M' := d0) d1
   have a0 := a0.sub (M' := d0) d1
   have a1 := a1.sub (M' := d0) d1
   have a8 := a8.sub (M' := d0) d1
   have hK := m6
   obtain ⟨y17, c4, hs⟩ := bind_some hs
   obtain ⟨m7, m8, m9, n0, r6, n1, a9, n2, e3⟩ := app_rs Rw25 c4 i7 a0 hO.inM
   have b7 := os_block i7
   refine xk_val (w' := n0) (b := true) (.slice m7 m8 m9) rfl  (y_append rfl rfl (n1 _)) rfl (fun h => nomatch h) ?_
   have h0 := h0.mt a9 hO b7
   have h1 := h1.mt a9 hO b7
   have a0 := a0.mt a9 hO b7
   have a1 := a1.mt a9 hO b7
   have a8 := a8.ma a9 hO b7 (fun _ e => (mem_l (e)))
   have hC := hC.st a9 hO b7
   have hO := hO.grow a9 n2 (os_nodup e3) e3.fpl
   refine x_one (i := 7) (by kernel_rfl) ?_
   obtain ⟨y22, c6, hs⟩ := bind_some hs
   have hO := hO.fr1
   have hO := hO.fr1
   obtain ⟨n3, n4, n5, n6, r7, n7, b8, n8, e4⟩ := app_os Rw25 c6 e3 a8 hO.inM (fun g hg hq => hO.apart g hq (mem_l hg))
   have d2 := os_block e3
   refine xk_val (w' := n6) (b := true) (.slice n3 n4 n5) rfl  (y_append rfl rfl (n7 _)) rfl (fun h => nomatch h) ?_
   have hO := hO.fr1
   have hO := hO.fr1
   have h0 := h0.mt b8 hO d2
   have h1 := h1.mt b8 hO d2
   have a0 := a0.mt b8 hO d2
   have a1 := a1.mt b8 hO d2
   have hC := hC.st b8 hO d2
   have hO := hO.eat b8 n8 (os_nodup e4) e4.fpl
   refine x_one (i := 11) (by kernel_rfl) ?_
   obtain ⟨y25, c8, hs⟩ := bind_some hs
   obtain ⟨g2, g3, g4, n9, r8, o0, b9, o1, g5⟩ := app_rs Rw25 c8 e4 a1 hO.inM
   have d3 := os_block e4
   refine xk_val (w' := n9) (b := true) (.slice g2 g3 g4) rfl  (y_append rfl rfl (o0 _)) rfl (fun h => nomatch h) ?_
   have h0 := h0.mt b9 hO d3
   have h1 := h1.mt b9 hO d3
   have a0 := a0.mt b9 hO d3
   have a1 := a1.mt b9 hO d3
   have hC := hC.st b9 hO d3
   have hO := hO.grow b9 o1 (os_nodup g5) g5.fpl
   refine x_p 12 (.slice g2 g3 g4) rfl (by kernel_rfl)  (fun _ => y_assign rfl) (fun h => nomatch h) ?_
   refine x_end (by kernel_rfl) ?_
   clear hS
   refine wp_ret ?_
   cases hs
   obtain ⟨e5, r9, e6, o2, hO, o3⟩ := frz_own (Frz.os (Frz.rs Frz.int)) g5 hO
   have h0 := h0.sub (M' := e5) e6
   have h1 := h1.sub (M' := e5) e6
   have a0 := a0.sub (M' := e5) e6
   have a1 := a1.sub (M' := e5) e6
   have hK := hK.trans o2
   exact ⟨_, g2, g3, g4, fr_ovl 27 ⟨rfl, trivial⟩, hC, (Keeps.out hK o3)⟩
 ·skip
  obtain ⟨g6, g7, o4, i9, a6, j0⟩ := new_block f2 [(.slice pa1 pn1 pc1)] 43
  refine xk_val (w' := g6) (b := false) (.slice (some ⟨g7, 0, none⟩) 1 1) rfl  (y_bslice rfl (by rw [o4, i9]; kernel_rfl)) rfl (fun _ => hS.ext a6) ?_
  have h0 := h0.ext a6
  have h1 := h1.ext a6
  have a0 := a0.ext a6
  have a1 := a1.ext a6
  have hC := hC.ext a6
  have hO := hO.new1 a6 i9 j0.lt
  have a3 := os_of_box (r := (RT.rs (RT.int .i64))) (M := M) (css := [[(.slice pa1 pn1 pc1)]]) (fps := [([] : List Nat)]) (xs := ([t] : List (List Int))) j0 ⟨(rs_unval h1), trivial⟩ (Nat.le_of_ble_eq_true rfl) (List.nodup_cons.2 ⟨(fun h => nomatch h), List.nodup_nil⟩)
  have a3 : (RT.os 43 (RT.rs (RT.int .i64))).val M g6 (.slice (some ⟨g7, 0, none⟩) 1 1) [t] [g7] := a3
  have hS := hS.ext a6
  refine x_one (i := 0) (by kernel_rfl) ?_
  obtain ⟨j1, g8, o5, j2, a4, j3⟩ := new_block g6 [] 43
  refine xk_val (w' := j1) (b := false) (.slice (some ⟨g8, 0, none⟩) 0 0) rfl  (y_bslice rfl (by rw [o5, j2]; kernel_rfl)) rfl (fun _ => hS.ext a4) ?_
  have h0 := h0.ext a4
  have h1 := h1.ext a4
  have a0 := a0.ext a4
  have a1 := a1.ext a4
  have a3 := a3.ext a4
  have hC := hC.ext a4
  have hO := hO.new1 a4 j2 j3.lt
  have g9 := os_of_box (r := (RT.os 3 (RT.int .i64))) (M := M) (css := []) (fps := []) (xs := ([] : List (List Int))) j3 trivial (Nat.zero_le _) (List.nodup_cons.2 ⟨(fun h => nomatch h), List.nodup_nil⟩)
  have g9 : (RT.os 43 (RT.os 3 (RT.int .i64))).val M j1 (.slice (some ⟨g8, 0, none⟩) 0 0) [] [g8] := g9
  have hS := hS.ext a4
  refine x_one (i := 4) (by kernel_rfl) ?_
  obtain ⟨d4, s0, d5, o6, hO, j4⟩ := os_inner (Frz.os Frz.int) g9 hO
  have h0 := h0.sub (M' := d4) d5
  have h1 := h1.sub (M' := d4) d5
  have a0 := a0.sub (M' := d4) d5
  have a1 := a1.sub (M' := d4) d5
  have a3 := a3.sub (M' := d4) d5
  have hK := o6
  obtain ⟨y17, c4, hs⟩ := bind_some hs
  obtain ⟨o7, o8, o9, p0, s1, p1, b0, p2, e7⟩ := app_rs Rw25 c4 j4 a0 hO.inM
  have c0 := os_block j4
  refine xk_val (w' := p0) (b := true) (.slice o7 o8 o9) rfl  (y_append rfl rfl (p1 _)) rfl (fun h => nomatch h) ?_
  have h0 := h0.mt b0 hO c0
  have h1 := h1.mt b0 hO c0
  have a0 := a0.mt b0 hO c0
  have a1 := a1.mt b0 hO c0
  have a3 := a3.ma b0 hO c0 (fun _ e => (mem_l (e)))
  have hC := hC.st b0 hO c0
  have hO := hO.grow b0 p2 (os_nodup e7) e7.fpl
  refine x_one (i := 7) (by kernel_rfl) ?_
  obtain ⟨y22, c6, hs⟩ := bind_some hs
  have hO := hO.fr1
  have hO := hO.fr1
  obtain ⟨p3, p4, p5, p6, s2, p7, c1, p8, e8⟩ := app_os Rw25 c6 e7 a3 hO.inM (fun g hg hq => hO.apart g hq (mem_l hg))
  have d6 := os_block e7
  refine xk_val (w' := p6) (b := true) (.slice p3 p4 p5) rfl  (y_append rfl rfl (p7 _)) rfl (fun h => nomatch h) ?_
  have hO := hO.fr1
  have hO := hO.fr1
  have h0 := h0.mt c1 hO d6
  have h1 := h1.mt c1 hO d6
  have a0 := a0.mt c1 hO d6
  have a1 := a1.mt c1 hO d6
  have hC := hC.st c1 hO d6
  have hO := hO.eat c1 p8 (os_nodup e8) e8.fpl
  refine x_one (i := 11) (by kernel_rfl) ?_
  obtain ⟨y25, c8, hs⟩ := bind_some hs
  obtain ⟨h2, h3, h4, p9, s3, q0, c2, q1, h5⟩ := app_rs Rw25 c8 e8 a1 hO.inM
  have d7 := os_block e8
  refine xk_val (w' := p9) (b := true) (.slice h2 h3 h4) rfl  (y_append rfl rfl (q0 _)) rfl (fun h => nomatch h) ?_
  have h0 := h0.mt c2 hO d7
  have h1 := h1.mt c2 hO d7
  have a0 := a0.mt c2 hO d7
  have a1 := a1.mt c2 hO d7
  have hC := hC.st c2 hO d7
  have hO := hO.grow c2 q1 (os_nodup h5) h5.fpl
  refine x_p 12 (.slice h2 h3 h4) rfl (by kernel_rfl)  (fun _ => y_assign rfl) (fun h => nomatch h) ?_
  refine x_end (by kernel_rfl) ?_
  clear hS
  refine wp_ret ?_
  cases hs
  obtain ⟨e9, s4, f0, q2, hO, q3⟩ := frz_own (Frz.os (Frz.rs Frz.int)) h5 hO
  have h0 := h0.sub (M' := e9) f0
  have h1 := h1.sub (M' := e9) f0
  have a0 := a0.sub (M' := e9) f0
  have a1 := a1.sub (M' := e9) f0
  have hK := hK.trans q2
  exact ⟨_, h2, h3, h4, fr_ovl 27 ⟨rfl, trivial⟩, hC, (Keeps.out hK q3)⟩

def k_spec_l1Has (M : Nat → Prop) (w0 : World) (r : Bool) (a : Act) (w : World) : Prop :=
  ∃ (σ : Nat → Value) , a = fr 18 (ovl σ [(4, (.bool r))]) ∧ Chg [] w0 w
def s_spec_l1Has (l : List Int) (n : Int) : Option (Bool) :=
  (forC (S := Unit) (R := Bool) (fun k7 s5 =>
  (idx l k7).bind fun x11 =>
  (bif (x11 == n) then some (.rt true) else some (.nx ()))) 0 (l.length : Int) ()).bind fun o9 => after o9 (fun r_ => some r_) (fun s5 =>
  some false)
set_option maxHeartbeats 4000000 in
theorem c_spec_l1Has {M : Nat → Prop} {w : World} {pa0 : Option Addr} {pn0 pc0 : Nat} (l : List Int) (n : Int) (h0 : (RT.rs (RT.int .i64)).val M w (.slice pa0 pn0 pc0) l ([])) (hM : ∀ g, w.heap.size ≤ g → M g) {r : Bool} (hs : s_spec_l1Has l n = some r) :
    Gives Try.prog 72 [(.slice pa0 pn0 pc0), (.int .i64 n)] w (fun v w' => v = (.bool r) ∧ Chg [] w w') := by
 refine calls_fr Try.func72 rfl Try.ntmps72 (Nat.le_of_ble_eq_true rfl) ?_
 have hO := Own.start (N := Nw w []) hM Nw.fut
 have hC := Chg.refl [] w
 unfold s_spec_l1Has at hs
 refine wp_mono (Q := KPost (k_spec_l1Has M w r)) ?_ (fun e a a2 h => ?_)
 rotate_left
 ·cases e
  case ret =>
   obtain ⟨σ, rfl, hrest⟩ := h
   exact ret1x Try.results72 (res_tmp rfl) ⟨rfl, hrest⟩
  all_goals exact (h : False).elim
 refine c_sr ?_
 refine pl_val (.bool false) (y_assign rfl) ?_
 refine c_nil ?_
 refine c_seq ?_
 refine c_sr ?_
 refine pl_val (.int .i64 0) (y_assign rfl) ?_
 refine c_nil ?_
 obtain ⟨o9, a3, hs⟩ := bind_some hs
 refine wp_block ?_
 refine wp_forC (id := 0) (l.length : Int) (I := fun k7 s5 a a0 => ∃ (σ : Nat → Value), a = fr 18 (ovl σ [(0, (.slice pa0 pn0 pc0)), (1, (.int .i64 n)), (5, (.int .i64 k7))]) ∧ Chg [] w a0 ∧ Own (Nw w []) M a0 ([]) ∧ (RT.rs (RT.int .i64)).val M a0 (.slice pa0 pn0 pc0) l ([])) (J := fun s5 a a0 => ∃ (σ : Nat → Value), a = fr 18 (ovl σ []) ∧ Chg [] w a0 ∧ Own (Nw w []) M a0 ([]) ∧ (RT.rs (RT.int .i64)).val M a0 (.slice pa0 pn0 pc0) l ([])) (K := (k_spec_l1Has M w)) ?_ ?_ 0 () o9 _ _ ?_ a3 ?_
 ·rintro k7 s5 a a0 ⟨σ, rfl, hC, hO, h0⟩ hlt
  refine c_seq ?_
  refine c_sr ?_
  refine pl_val (.int .i64 k7) (y_move rfl) ?_
  refine pl_val (.slice pa0 pn0 pc0) (y_move rfl) ?_
  refine pl_val (.int .i64 (l.length : Int)) (y_len' Sl43 (rs_len h0) rfl) ?_
  refine pl_val (.bool (decide (k7 < (l.length : Int)))) (y_lss rfl rfl) ?_
  refine c_nil ?_
  refine c_condF (congrArg Value.bool (decide_eq_false hlt)) ?_
  refine wp_exit ?_
  exact ⟨rfl, _, fr_ovl 18 trivial, hC, hO, h0⟩
 ·rintro k7 s5 o9 a a0 ⟨σ, rfl, hC, hO, h0⟩ hlt hw hs
  refine c_seq ?_
  refine c_sr ?_
  refine pl_val (.int .i64 k7) (y_move rfl) ?_
  refine pl_val (.slice pa0 pn0 pc0) (y_move rfl) ?_
  refine pl_val (.int .i64 (l.length : Int)) (y_len' Sl43 (rs_len h0) rfl) ?_
  refine pl_val (.bool (decide (k7 < (l.length : Int)))) (y_lss rfl rfl) ?_
  refine c_nil ?_
  refine c_condT (congrArg Value.bool (decide_eq_true hlt)) ?_
  refine wp_skip ?_
  refine c_seq ?_
  refine wp_block ?_
  refine c_sr ?_
  refine pl_val (.slice pa0 pn0 pc0) (y_move rfl) ?_
  refine pl_val (.int .i64 k7) (y_move rfl) ?_
  obtain ⟨x11, a4, hs⟩ := bind_some hs
  obtain ⟨a5, a6, a7, a8⟩ := rs_idx Sl43 Sz3 h0 a4
  refine pl_val (.pointer (some ⟨a5, a6, none⟩)) (a7 _ _ _ _ _ _ _ _ _ rfl rfl) ?_
  refine pl_val (.int .i64 x11) (y_load rfl ((at_load_int Ag3 Sz3 a8) _ (Chg.refl _ _))) ?_
  refine pl_val (.int .i64 n) (y_move rfl) ?_
  refine pl_val (.bool (x11 == n)) (y_eql rfl rfl) ?_
  refine c_nil ?_
  rcases bif_some hs with ⟨a1, hs⟩ | ⟨a1, hs⟩
  ·refine c_condT (congrArg Value.bool a1) ?_
   refine c_sr ?_
   refine pl_val (.bool true) (y_assign rfl) ?_
   refine c_nil ?_
   refine wp_ret ?_
   cases hs
   exact ⟨_, fr_ovl 18 ⟨rfl, trivial⟩, hC⟩
  refine c_condF (congrArg Value.bool a1) ?_
  refine wp_skip ?_
  refine c_region ?_
  refine pl_val (.int .i64 k7) (y_move rfl) ?_
  refine pl_val (.int .i64 (w64 (k7 + 1))) (y_add rfl rfl) ?_
  refine pl_val (.int .i64 (w64 (k7 + 1))) (y_assign rfl) ?_
  refine c_nil ?_
  cases hs
  exact ⟨_, fr_ovl 18 ⟨rfl, rfl, congrArg (Value.int .i64) hw, trivial⟩, hC, hO, h0⟩
 ·skip
  exact ⟨_, fr_ovl 18 ⟨rfl, rfl, rfl, trivial⟩, hC, hO, h0⟩
 cases o9 with
 | nx _ => exact True.intro
 | rt r_ =>
  have hs := after_rt hs
  intro a9 a2 hK
  cases hs
  exact hK
 | br s5 =>
  have hs := after_br hs
  rintro a9 a0 ⟨σ, rfl, hC, hO, h0⟩
  refine c_sr ?_
  refine pl_val (.bool false) (y_assign rfl) ?_
  refine c_nil ?_
  refine wp_ret ?_
  cases hs
  exact ⟨_, fr_ovl 18 ⟨rfl, trivial⟩, hC⟩

def k_spec_l8Choose (M : Nat → Prop) (w0 : World) (r : (List (List Int))) (a : Act) (w : World) : Prop :=
  ∃ (σ : Nat → Value) (ra0 : Option Addr) (rn0 rc0 : Nat), a = fr 25 (ovl σ [(4, (.slice ra0 rn0 rc0))]) ∧ Chg [] w0 w ∧ (RT.rs (RT.rs (RT.int .i64))).val (Past M w0 w) w (.slice ra0 rn0 rc0) r []
def s_spec_l8Choose (line : List (List Int)) (numbers : List Int) : Option ((List (List Int))) :=
  (forC (S := (List (List Int))) (R := (List (List Int))) (fun k36 s34 =>
  (idx numbers k36).bind fun x46 =>
  (idx line x46).bind fun x48 =>
  (app s34 ([x48])).bind fun y55 =>
  some (.nx y55)) 0 (numbers.length : Int) ([])).bind fun o38 => after o38 (fun r_ => some r_) (fun s34 =>
  some s34)
set_option maxHeartbeats 4000000 in
theorem c_spec_l8Choose {M : Nat → Prop} {w : World} {pa0 : Option Addr} {pn0 pc0 : Nat} {pa1 : Option Addr} {pn1 pc1 : Nat} (line : List (List Int)) (numbers : List Int) (h0 : (RT.rs (RT.rs (RT.int .i64))).val M w (.slice pa0 pn0 pc0) line ([])) (h1 : (RT.rs (RT.int .i64)).val M w (.slice pa1 pn1 pc1) numbers ([])) (hM : ∀ g, w.heap.size ≤ g → M g) {r : (List (List Int))} (hs : s_spec_l8Choose line numbers = some r) :
    Gives Try.prog 73 [(.slice pa0 pn0 pc0), (.slice pa1 pn1 pc1)] w (fun v w' => ∃ (ra0 : Option Addr) (rn0 rc0 : Nat), v = (.slice ra0 rn0 rc0) ∧ Chg [] w w' ∧ (RT.rs (RT.rs (RT.int .i64))).val (Past M w w') w' (.slice ra0 rn0 rc0) r []) := by
 refine calls_fr Try.func73 rfl Try.ntmps73 (Nat.le_of_ble_eq_true rfl) ?_
 have hO := Own.start (N := Nw w []) hM Nw.fut
 have hC := Chg.refl [] w
 unfold s_spec_l8Choose at hs
 refine wp_mono (Q := KPost (k_spec_l8Choose M w r)) ?_ (fun e a d8 h => ?_)
 rotate_left
 ·cases e
  case ret =>
   obtain ⟨σ, ra0, rn0, rc0, rfl, hrest⟩ := h
   exact ret1x Try.results73 (res_tmp rfl) ⟨ra0, rn0, rc0, rfl, hrest⟩
  all_goals exact (h : False).elim
 refine c_sr ?_
 refine pl_val (.slice none 0 0) (y_assign rfl) ?_
 refine c_nil ?_
 refine c_sr ?_
 obtain ⟨d1, b2, d9, d2, b5, d3⟩ := new_block w [] 43
 refine pl_val (w' := d1) (.slice (some ⟨b2, 0, none⟩) 0 0) (y_bslice rfl (by rw [d9, d2]; kernel_rfl)) ?_
 have h0 := h0.ext b5
 have h1 := h1.ext b5
 have hC := hC.ext b5
 have hO := hO.new1 b5 d2 d3.lt
 have b7 := os_of_box (r := (RT.os 3 (RT.int .i64))) (M := M) (css := []) (fps := []) (xs := ([] : List (List Int))) d3 trivial (Nat.zero_le _) (List.nodup_cons.2 ⟨(fun h => nomatch h), List.nodup_nil⟩)
 have b7 : (RT.os 43 (RT.os 3 (RT.int .i64))).val M d1 (.slice (some ⟨b2, 0, none⟩) 0 0) [] [b2] := b7
 refine pl_val (.slice (some ⟨b2, 0, none⟩) 0 0) (y_assign rfl) ?_
 refine c_nil ?_
 refine c_seq ?_
 refine c_sr ?_
 refine pl_val (.int .i64 0) (y_assign rfl) ?_
 refine c_nil ?_
 obtain ⟨b8, e0, d4, e1, hO, e2⟩ := os_inner (Frz.os Frz.int) b7 hO
 have h0 := h0.sub (M' := b8) d4
 have h1 := h1.sub (M' := b8) d4
 have hK := e1
 obtain ⟨o38, e3, hs⟩ := bind_some hs
 refine wp_block ?_
 refine wp_forC (id := 0) (numbers.length : Int) (I := fun k36 s34 a a0 => ∃ (σ : Nat → Value) (a1 : Nat → Prop) (a3 : Option Addr) (a4 : Nat) (a5 : Nat) (b3 : List Nat), a = fr 25 (ovl σ [(0, (.slice pa0 pn0 pc0)), (1, (.slice pa1 pn1 pc1)), (5, (.slice a3 a4 a5)), (6, (.int .i64 k36))]) ∧ Chg [] w a0 ∧ Own (Nw w []) a1 a0 (b3 ++ []) ∧ Keeps w M a1 ∧ (RT.rs (RT.rs (RT.int .i64))).val a1 a0 (.slice pa0 pn0 pc0) line ([]) ∧ (RT.rs (RT.int .i64)).val a1 a0 (.slice pa1 pn1 pc1) numbers ([]) ∧ (RT.os 43 (RT.rs (RT.int .i64))).val a1 a0 (.slice a3 a4 a5) s34 b3) (J := fun s34 a a0 => ∃ (σ : Nat → Value) (a6 : Nat → Prop) (a7 : Option Addr) (a8 : Nat) (a9 : Nat) (b9 : List Nat), a = fr 25 (ovl σ [(5, (.slice a7 a8 a9))]) ∧ Chg [] w a0 ∧ Own (Nw w []) a6 a0 (b9 ++ []) ∧ Keeps w M a6 ∧ (RT.rs (RT.rs (RT.int .i64))).val a6 a0 (.slice pa0 pn0 pc0) line ([]) ∧ (RT.rs (RT.int .i64)).val a6 a0 (.slice pa1 pn1 pc1) numbers ([]) ∧ (RT.os 43 (RT.rs (RT.int .i64))).val a6 a0 (.slice a7 a8 a9) s34 b9) (K := (k_spec_l8Choose M w)) ?_ ?_ 0 ([]) o38 _ _ ?_ e3 ?_
 ·rintro k36 s34 a a0 ⟨σ, a1, a3, a4, a5, b3, rfl, hC, hO, hK, h0, h1, b0⟩ hlt
  refine c_seq ?_
  refine c_sr ?_
  refine pl_val (.int .i64 k36) (y_move rfl) ?_
  refine pl_val (.slice pa1 pn1 pc1) (y_move rfl) ?_
  refine pl_val (.int .i64 (numbers.length : Int)) (y_len' Sl43 (rs_len h1) rfl) ?_
  refine pl_val (.bool (decide (k36 < (numbers.length : Int)))) (y_lss rfl rfl) ?_
  refine c_nil ?_
  refine c_condF (congrArg Value.bool (decide_eq_false hlt)) ?_
  refine wp_exit ?_
  exact ⟨rfl, _, a1, a3, a4, a5, b3, fr_ovl 25 ⟨rfl, trivial⟩, hC, hO, hK, h0, h1, b0⟩
 ·rintro k36 s34 o38 a a0 ⟨σ, a1, a3, a4, a5, b3, rfl, hC, hO, hK, h0, h1, b0⟩ hlt hw hs
  refine c_seq ?_
  refine c_sr ?_
  refine pl_val (.int .i64 k36) (y_move rfl) ?_
  refine pl_val (.slice pa1 pn1 pc1) (y_move rfl) ?_
  refine pl_val (.int .i64 (numbers.length : Int)) (y_len' Sl43 (rs_len h1) rfl) ?_
  refine pl_val (.bool (decide (k36 < (numbers.length : Int)))) (y_lss rfl rfl) ?_
  refine c_nil ?_
  refine c_condT (congrArg Value.bool (decide_eq_true hlt)) ?_
  refine wp_skip ?_
  refine c_seq ?_
  refine wp_block ?_
  refine c_region ?_
  refine pl_val (.slice a3 a4 a5) (y_move rfl) ?_
  refine pl_val (.slice pa0 pn0 pc0) (y_move rfl) ?_
  refine pl_val (.slice pa1 pn1 pc1) (y_move rfl) ?_
  refine pl_val (.int .i64 k36) (y_move rfl) ?_
  obtain ⟨x46, e4, hs⟩ := bind_some hs
  obtain ⟨e5, e6, e7, c0⟩ := rs_idx Sl43 Sz3 h1 e4
  refine pl_val (.pointer (some ⟨e5, e6, none⟩)) (e7 _ _ _ _ _ _ _ _ _ rfl rfl) ?_
  refine pl_val (.int .i64 x46) (y_load rfl ((at_load_int Ag3 Sz3 c0) _ (Chg.refl _ _))) ?_
  obtain ⟨x48, e8, hs⟩ := bind_some hs
  obtain ⟨e9, f0, f1, c1⟩ := rs_idx Sl25 Sz43 h0 e8
  refine pl_val (.pointer (some ⟨e9, f0, none⟩)) (f1 _ _ _ _ _ _ _ _ _ rfl rfl) ?_
  obtain ⟨g3, f2, b1⟩ := at_load Ag43 Sz43 (fun _ => rfl) c1
  obtain ⟨c2, c3, c4, rfl⟩ := rs_sl b1
  refine pl_val (.slice c2 c3 c4) (y_load rfl (f2 _ (Chg.refl _ _))) ?_
  obtain ⟨d5, c5, f3, d6, a2, d7⟩ := new_block a0 [(.slice c2 c3 c4)] 43
  refine pl_val (w' := d5) (.slice (some ⟨c5, 0, none⟩) 1 1) (y_bslice rfl (by rw [f3, d6]; kernel_rfl)) ?_
  have h0 := h0.ext a2
  have h1 := h1.ext a2
  have b0 := b0.ext a2
  have b1 := b1.ext a2
  have c0 := at_ext c0 a2
  have c1 := at_ext c1 a2
  have hC := hC.ext a2
  have hO := hO.new1 a2 d6 d7.lt
  have c6 := os_of_box (r := (RT.rs (RT.int .i64))) (M := a1) (css := [[(.slice c2 c3 c4)]]) (fps := [([] : List Nat)]) (xs := ([x48] : List (List Int))) d7 ⟨(rs_unval b1), trivial⟩ (Nat.le_of_ble_eq_true rfl) (List.nodup_cons.2 ⟨(fun h => nomatch h), List.nodup_nil⟩)
  have c6 : (RT.os 43 (RT.rs (RT.int .i64))).val a1 d5 (.slice (some ⟨c5, 0, none⟩) 1 1) [x48] [c5] := c6
  obtain ⟨y55, f4, hs⟩ := bind_some hs
  have hO := hO.fr1
  obtain ⟨c7, c8, c9, f5, f6, f7, b4, f8, d0⟩ := app_os Rw25 f4 b0 c6 hO.inM (fun g hg hq => hO.apart g hq (mem_l hg))
  have b6 := os_block b0
  refine pl_val (w' := f5) (.slice c7 c8 c9) (y_append rfl rfl (f7 _)) ?_
  have hO := hO.fr1
  have hO := hO.fr1
  have h0 := h0.mt b4 hO b6
  have h1 := h1.mt b4 hO b6
  have b1 := b1.mt b4 hO b6
  have hC := hC.st b4 hO b6
  have hO := hO.eat b4 f8 (os_nodup d0) d0.fpl
  refine pl_val (.slice c7 c8 c9) (y_assign rfl) ?_
  refine c_nil ?_
  refine c_region ?_
  refine pl_val (.int .i64 k36) (y_move rfl) ?_
  refine pl_val (.int .i64 (w64 (k36 + 1))) (y_add rfl rfl) ?_
  refine pl_val (.int .i64 (w64 (k36 + 1))) (y_assign rfl) ?_
  refine c_nil ?_
  cases hs
  exact ⟨_, a1, c7, c8, c9, f6, fr_ovl 25 ⟨rfl, rfl, rfl, congrArg (Value.int .i64) hw, trivial⟩, hC, hO, hK, h0, h1, d0⟩
 ·skip
  exact ⟨_, b8, (some ⟨b2, 0, none⟩), 0, 0, e0, fr_ovl 25 ⟨rfl, rfl, rfl, rfl, trivial⟩, hC, hO, hK, h0, h1, e2⟩
 cases o38 with
 | nx _ => exact True.intro
 | rt r_ =>
  have hs := after_rt hs
  intro f9 d8 hK
  cases hs
  exact hK
 | br s34 =>
  have hs := after_br hs
  rintro f9 a0 ⟨σ, a6, a7, a8, a9, b9, rfl, hC, hO, hK, h0, h1, g0⟩
  refine c_sr ?_
  refine pl_val (.slice a7 a8 a9) (y_move rfl) ?_
  refine pl_val (.slice a7 a8 a9) (y_assign rfl) ?_
  refine c_nil ?_
  refine wp_ret ?_
  cases hs
  obtain ⟨g4, g5, g6, g1, hO, g2⟩ := frz_own (Frz.os (Frz.rs Frz.int)) g0 hO
  have hK := hK.trans g1
  exact ⟨_, a7, a8, a9, fr_ovl 25 ⟨rfl, trivial⟩, hC, (Keeps.out hK g2)⟩

theorem Bd54 : Bodied Try.prog 54 := bodied Try.func54 (by kernel_rfl) rfl

def k_spec_l8Next (M : Nat → Prop) (w0 : World) (r : (List Int) × Bool) (a : Act) (w : World) : Prop :=
  ∃ (σ : Nat → Value) (ra0 : Option Addr) (rn0 rc0 : Nat) (rf0 : List Nat), a = fr 37 (ovl σ [(4, (.slice ra0 rn0 rc0)), (5, (.bool r.2))]) ∧ Chg [] w0 w ∧ (RT.os 3 (RT.int .i64)).val M w (.slice ra0 rn0 rc0) r.1 rf0 ∧ Own (Nw w0 []) (fun _ => True) w (rf0 ++ ([]))
def s_spec_l8Next (list : List Int) (n : Int) : Option ((List Int) × Bool) :=
  (s_spec_l1Own list).bind fun r3 =>
  (iter (S := Int × (List Int)) (R := (List Int) × Bool) (fun s30 =>
  (bif (decide (0 ≤ s30.1)) then (idx s30.2 s30.1).bind fun x39 =>
  (bif (decide (x39 < (w64 (n - 1)))) then (idx s30.2 s30.1).bind fun x42 =>
  (idx s30.2 s30.1).bind fun x44 =>
  some (.rt (List.set s30.2 (Int.toNat s30.1) (w64 (x42 + 1)), true)) else (idx s30.2 s30.1).bind fun x47 =>
  some (.nx (w64 (s30.1 - 1), List.set s30.2 (Int.toNat s30.1) 0))) else some (.br (s30.1, s30.2)))) FU (w64 ((r3.length : Int) - 1), r3)).bind fun o34 => after o34 (fun r_ => some r_) (fun s30 =>
  some (s30.2, false))
set_option maxHeartbeats 4000000 in
theorem c_spec_l8Next {M : Nat → Prop} {w : World} {pa0 : Option Addr} {pn0 pc0 : Nat} (list : List Int) (n : Int) (h0 : (RT.rs (RT.int .i64)).val M w (.slice pa0 pn0 pc0) list ([])) (hM : ∀ g, w.heap.size ≤ g → M g) {r : (List Int) × Bool} (hs : s_spec_l8Next list n = some r) :
    Gives Try.prog 74 [(.slice pa0 pn0 pc0), (.int .i64 n)] w (fun v w' => ∃ (ra0 : Option Addr) (rn0 rc0 : Nat) (rf0 : List Nat), v = (.tuple #[(.slice ra0 rn0 rc0), (.bool r.2)]) ∧ Chg [] w w' ∧ (RT.os 3 (RT.int .i64)).val M w' (.slice ra0 rn0 rc0) r.1 rf0 ∧ Own (Nw w []) (fun _ => True) w' (rf0 ++ ([]))) := by
 refine calls_fr Try.func74 rfl Try.ntmps74 (Nat.le_of_ble_eq_true rfl) ?_
 have hO := Own.start (N := Nw w []) hM Nw.fut
 have hC := Chg.refl [] w
 unfold s_spec_l8Next at hs
 refine wp_mono (Q := KPost (k_spec_l8Next M w r)) ?_ (fun e a c0 h => ?_)
 rotate_left
 ·cases e
  case ret =>
   obtain ⟨σ, ra0, rn0, rc0, rf0, rfl, hrest⟩ := h
   exact ret2x Try.results74 (res_tmp rfl) (res_tmp rfl) ⟨ra0, rn0, rc0, rf0, rfl, hrest⟩
  all_goals exact (h : False).elim
 refine c_sr ?_
 refine pl_val (.slice none 0 0) (y_assign rfl) ?_
 refine pl_val (.bool false) (y_assign rfl) ?_
 refine c_nil ?_
 refine c_sr ?_
 refine pl_val (.slice pa0 pn0 pc0) (y_move rfl) ?_
 obtain ⟨r3, c1, hs⟩ := bind_some hs
 refine pl_call Bd54 rfl (c_spec_l1Own (M := M) list h0 hO.fut c1) ?_
 rintro _ f0 ⟨a0, a1, a2, b2, rfl, a7, b3, c2⟩
 have h0 := h0.ext a7
 have hC := hC.ext a7
 have hO := Own.join0 hO a7 c2
 have hO := hO.perm (R := b2 ++ ([])) (by simp)
 refine pl_val (.slice a0 a1 a2) (y_assign rfl) ?_
 refine c_nil ?_
 refine c_seq ?_
 refine c_sr ?_
 refine pl_val (.slice a0 a1 a2) (y_move rfl) ?_
 refine pl_val (.int .i64 (r3.length : Int)) (y_len' Sl43 (os_len b3) rfl) ?_
 refine pl_val (.int .i64 (w64 ((r3.length : Int) - 1))) (y_sub rfl rfl) ?_
 refine pl_val (.int .i64 (w64 ((r3.length : Int) - 1))) (y_assign rfl) ?_
 refine c_nil ?_
 obtain ⟨o34, c3, hs⟩ := bind_some hs
 refine wp_block ?_
 refine wp_iter (id := 0) (I := fun s30 a a4 => ∃ (σ : Nat → Value) (a5 : List Nat), a = fr 37 (ovl σ [(1, (.int .i64 n)), (6, (.slice a0 a1 a2)), (7, (.int .i64 s30.1))]) ∧ Chg [] w a4 ∧ Own (Nw w []) M a4 (a5 ++ []) ∧ (RT.os 3 (RT.int .i64)).val M a4 (.slice a0 a1 a2) s30.2 a5) (J := fun s30 a a4 => ∃ (σ : Nat → Value) (a6 : List Nat), a = fr 37 (ovl σ [(6, (.slice a0 a1 a2))]) ∧ Chg [] w a4 ∧ Own (Nw w []) M a4 (a6 ++ []) ∧ (RT.os 3 (RT.int .i64)).val M a4 (.slice a0 a1 a2) s30.2 a6) (K := (k_spec_l8Next M w)) ?_ FU (w64 ((r3.length : Int) - 1), r3) o34 _ _ ?_ c3 ?_
 ·rintro s30 o34 a a4 ⟨σ, a5, rfl, hC, hO, a3⟩ hs
  refine c_seq ?_
  refine c_sr ?_
  refine pl_val (.int .i64 s30.1) (y_move rfl) ?_
  refine pl_val (.bool (decide (0 ≤ s30.1))) (y_geq rfl rfl) ?_
  refine c_nil ?_
  rcases bif_some hs with ⟨a8, hs⟩ | ⟨a8, hs⟩
  ·refine c_condT (congrArg Value.bool a8) ?_
   refine wp_skip ?_
   refine c_seq ?_
   refine wp_block ?_
   refine c_seq ?_
   refine c_sr ?_
   refine pl_val (.slice a0 a1 a2) (y_move rfl) ?_
   refine pl_val (.int .i64 s30.1) (y_move rfl) ?_
   obtain ⟨x39, c4, hs⟩ := bind_some hs
   obtain ⟨c5, f1, f2, f3, c6, c7, f4⟩ := os_idx Sl43 Sz3 a3 c4
   refine pl_val (.pointer (some ⟨c5, 0 + Int.toNat s30.1 * 1, none⟩)) (c6 _ _ _ _ _ _ _ _ _ rfl rfl) ?_
   refine pl_val (.int .i64 x39) (y_load rfl ((at_load_int Ag3 Sz3 c7) _ (Chg.refl _ _))) ?_
   refine pl_val (.int .i64 n) (y_move rfl) ?_
   refine pl_val (.int .i64 (w64 (n - 1))) (y_sub rfl rfl) ?_
   refine pl_val (.bool (decide (x39 < (w64 (n - 1))))) (y_lss rfl rfl) ?_
   refine c_nil ?_
   rcases bif_some hs with ⟨a9, hs⟩ | ⟨a9, hs⟩
   ·refine c_condT (congrArg Value.bool a9) ?_
    refine c_sr ?_
    refine pl_val (.slice a0 a1 a2) (y_move rfl) ?_
    refine pl_val (.int .i64 s30.1) (y_move rfl) ?_
    refine pl_val (.slice a0 a1 a2) (y_move rfl) ?_
    refine pl_val (.int .i64 s30.1) (y_move rfl) ?_
    obtain ⟨x42, c8, hs⟩ := bind_some hs
    obtain ⟨c9, f5, f6, f7, d0, d1, f8⟩ := os_idx Sl43 Sz3 a3 c8
    refine pl_val (.pointer (some ⟨c9, 0 + Int.toNat s30.1 * 1, none⟩)) (d0 _ _ _ _ _ _ _ _ _ rfl rfl) ?_
    refine pl_val (.int .i64 x42) (y_load rfl ((at_load_int Ag3 Sz3 d1) _ (Chg.refl _ _))) ?_
    refine pl_val (.int .i64 (w64 (x42 + 1))) (y_add rfl rfl) ?_
    obtain ⟨x44, d2, hs⟩ := bind_some hs
    obtain ⟨b4, f9, b5, d3, d4, g0, g1⟩ := os_idx Sl43 Sz3 a3 d2
    refine pl_val (.pointer (some ⟨b4, 0 + Int.toNat s30.1 * 1, none⟩)) (d4 _ _ _ _ _ _ _ _ _ rfl rfl) ?_
    obtain ⟨d5, d6, d7, b6, d8, b0⟩ := os_store (P := Try.prog) (c' := [(.int .i64 (w64 (x42 + 1)))]) b5 a3 d3 (fun g hg => hO.inM g (os_block a3 g (by simpa using hg))) ⟨rfl, rfl⟩ List.nodup_nil (fun _ h => nomatch h) (fun _ h => .inl h)
    have d9 : ∀ q ∈ [b4], q ∈ a5 := fun q hq => os_block a3 q (by rw [b5]; exact hq)
    refine pl_skip (w' := d5) (ys_store rfl rfl (d7 _ _ rfl Sz3)) ?_
    have hC := hC.st b6 hO d9
    have hO := hO.grow b6 (fun q hq => .inl ((d8 q hq).resolve_right (fun h => nomatch h))) (os_nodup b0) b0.fpl
    refine c_nil ?_
    refine c_sr ?_
    refine pl_val (.slice a0 a1 a2) (y_move rfl) ?_
    refine pl_val (.slice a0 a1 a2) (y_assign rfl) ?_
    refine pl_val (.bool true) (y_assign rfl) ?_
    refine c_nil ?_
    refine wp_ret ?_
    cases hs
    exact ⟨_, a0, a1, a2, d6, fr_ovl 37 ⟨rfl, rfl, trivial⟩, hC, b0, hO.top⟩
   refine c_condF (congrArg Value.bool a9) ?_
   refine wp_skip ?_
   refine c_region ?_
   refine pl_val (.slice a0 a1 a2) (y_move rfl) ?_
   refine pl_val (.int .i64 s30.1) (y_move rfl) ?_
   obtain ⟨x47, e0, hs⟩ := bind_some hs
   obtain ⟨b7, g2, b8, e1, e2, g3, g4⟩ := os_idx Sl43 Sz3 a3 e0
   refine pl_val (.pointer (some ⟨b7, 0 + Int.toNat s30.1 * 1, none⟩)) (e2 _ _ _ _ _ _ _ _ _ rfl rfl) ?_
   obtain ⟨e3, e4, e5, b9, e6, b1⟩ := os_store (P := Try.prog) (c' := [(.int .i64 0)]) b8 a3 e1 (fun g hg => hO.inM g (os_block a3 g (by simpa using hg))) ⟨rfl, rfl⟩ List.nodup_nil (fun _ h => nomatch h) (fun _ h => .inl h)
   have e7 : ∀ q ∈ [b7], q ∈ a5 := fun q hq => os_block a3 q (by rw [b8]; exact hq)
   refine pl_skip (w' := e3) (ys_store rfl rfl (e5 _ _ rfl Sz3)) ?_
   have hC := hC.st b9 hO e7
   have hO := hO.grow b9 (fun q hq => .inl ((e6 q hq).resolve_right (fun h => nomatch h))) (os_nodup b1) b1.fpl
   refine c_nil ?_
   refine c_region ?_
   refine pl_val (.int .i64 s30.1) (y_move rfl) ?_
   refine pl_val (.int .i64 (w64 (s30.1 - 1))) (y_sub rfl rfl) ?_
   refine pl_val (.int .i64 (w64 (s30.1 - 1))) (y_assign rfl) ?_
   refine c_nil ?_
   cases hs
   exact ⟨_, e4, fr_ovl 37 ⟨rfl, rfl, rfl, trivial⟩, hC, hO, b1⟩
  refine c_condF (congrArg Value.bool a8) ?_
  refine wp_exit ?_
  cases hs
  exact ⟨rfl, _, a5, fr_ovl 37 ⟨rfl, trivial⟩, hC, hO, a3⟩
 ·skip
  exact ⟨_, b2, fr_ovl 37 ⟨rfl, rfl, rfl, trivial⟩, hC, hO, b3⟩
 cases o34 with
 | nx _ => exact True.intro
 | rt r_ =>
  have hs := after_rt hs
  intro e8 c0 hK
  cases hs
  exact hK
 | br s30 =>
  have hs := after_br hs
  rintro e8 a4 ⟨σ, a6, rfl, hC, hO, e9⟩
  refine c_sr ?_
  refine pl_val (.slice a0 a1 a2) (y_move rfl) ?_
  refine pl_val (.slice a0 a1 a2) (y_assign rfl) ?_
  refine pl_val (.bool false) (y_assign rfl) ?_
  refine c_nil ?_
  refine wp_ret ?_
  cases hs
  exact ⟨_, a0, a1, a2, a6, fr_ovl 37 ⟨rfl, rfl, trivial⟩, hC, e9, hO.top⟩

theorem Bd69 : Bodied Try.prog 69 := bodied Try.func69 (by kernel_rfl) rfl

theorem Bd70 : Bodied Try.prog 70 := bodied Try.func70 (by kernel_rfl) rfl

theorem Bd71 : Bodied Try.prog 71 := bodied Try.func71 (by kernel_rfl) rfl

theorem Bd72 : Bodied Try.prog 72 := bodied Try.func72 (by kernel_rfl) rfl

def k_spec_l8Choose__sh (M : Nat → Prop) (w0 : World) (r : (List (List Int))) (a : Act) (w : World) : Prop :=
  ∃ (σ : Nat → Value) (ra0 : Option Addr) (rn0 rc0 : Nat), a = fr 25 (ovl σ [(4, (.slice ra0 rn0 rc0))]) ∧ Chg [] w0 w ∧ (RT.rs (RT.rs (RT.int .i64))).val (Past M w0 w) w (.slice ra0 rn0 rc0) r []
def s_spec_l8Choose__sh (line : List (List Int)) (numbers : List Int) : Option ((List (List Int))) :=
  (forC (S := (List (List Int))) (R := (List (List Int))) (fun k36 s34 =>
  (idx numbers k36).bind fun x46 =>
  (idx line x46).bind fun x48 =>
  (app s34 ([x48])).bind fun y55 =>
  some (.nx y55)) 0 (numbers.length : Int) ([])).bind fun o38 => after o38 (fun r_ => some r_) (fun s34 =>
  some s34)
set_option maxHeartbeats 4000000 in
theorem c_spec_l8Choose__sh {M : Nat → Prop} {w : World} {pa0 : Option Addr} {pn0 pc0 : Nat} {pf0 : List Nat} {pa1 : Option Addr} {pn1 pc1 : Nat} (line : List (List Int)) (numbers : List Int) (h0 : (RT.os 43 (RT.rs (RT.int .i64))).val M w (.slice pa0 pn0 pc0) line pf0) (h1 : (RT.rs (RT.int .i64)).val M w (.slice pa1 pn1 pc1) numbers ([])) (hM : ∀ g, w.heap.size ≤ g → M g) {r : (List (List Int))} (hs : s_spec_l8Choose__sh line numbers = some r) :
    Gives Try.prog 73 [(.slice pa0 pn0 pc0), (.slice pa1 pn1 pc1)] w (fun v w' => ∃ (ra0 : Option Addr) (rn0 rc0 : Nat), v = (.slice ra0 rn0 rc0) ∧ Chg [] w w' ∧ (RT.rs (RT.rs (RT.int .i64))).val (Past M w w') w' (.slice ra0 rn0 rc0) r []) := by
 refine calls_fr Try.func73 rfl Try.ntmps73 (Nat.le_of_ble_eq_true rfl) ?_
 have hO := Own.start (N := Nw w []) hM Nw.fut
 have d7 := h0.fpl
 have hC := Chg.refl [] w
 unfold s_spec_l8Choose__sh at hs
 refine wp_mono (Q := KPost (k_spec_l8Choose__sh M w r)) ?_ (fun e a d8 h => ?_)
 rotate_left
 ·cases e
  case ret =>
   obtain ⟨σ, ra0, rn0, rc0, rfl, hrest⟩ := h
   exact ret1x Try.results73 (res_tmp rfl) ⟨ra0, rn0, rc0, rfl, hrest⟩
  all_goals exact (h : False).elim
 refine c_sr ?_
 refine pl_val (.slice none 0 0) (y_assign rfl) ?_
 refine c_nil ?_
 refine c_sr ?_
 obtain ⟨d0, b2, d9, d1, b6, d2⟩ := new_block w [] 43
 refine pl_val (w' := d0) (.slice (some ⟨b2, 0, none⟩) 0 0) (y_bslice rfl (by rw [d9, d1]; kernel_rfl)) ?_
 have h0 := h0.ext b6
 have h1 := h1.ext b6
 have hC := hC.ext b6
 have hO := hO.new1 b6 d1 d2.lt
 have b7 := os_of_box (r := (RT.os 3 (RT.int .i64))) (M := M) (css := []) (fps := []) (xs := ([] : List (List Int))) d2 trivial (Nat.zero_le _) (List.nodup_cons.2 ⟨(fun h => nomatch h), List.nodup_nil⟩)
 have b7 : (RT.os 43 (RT.os 3 (RT.int .i64))).val M d0 (.slice (some ⟨b2, 0, none⟩) 0 0) [] [b2] := b7
 refine pl_val (.slice (some ⟨b2, 0, none⟩) 0 0) (y_assign rfl) ?_
 refine c_nil ?_
 refine c_seq ?_
 refine c_sr ?_
 refine pl_val (.int .i64 0) (y_assign rfl) ?_
 refine c_nil ?_
 obtain ⟨b8, e0, d3, e1, hO, e2⟩ := os_inner (Frz.os Frz.int) b7 hO
 have h0 := h0.sub (M' := b8) d3
 have h1 := h1.sub (M' := b8) d3
 have hK := e1
 obtain ⟨o38, e3, hs⟩ := bind_some hs
 refine wp_block ?_
 refine wp_forC (id := 0) (numbers.length : Int) (I := fun k36 s34 a a0 => ∃ (σ : Nat → Value) (a1 : Nat → Prop) (a3 : Option Addr) (a4 : Nat) (a5 : Nat) (b3 : List Nat), a = fr 25 (ovl σ [(0, (.slice pa0 pn0 pc0)), (1, (.slice pa1 pn1 pc1)), (5, (.slice a3 a4 a5)), (6, (.int .i64 k36))]) ∧ Chg [] w a0 ∧ Own (Nw w []) a1 a0 (b3 ++ []) ∧ Keeps w M a1 ∧ (RT.os 43 (RT.rs (RT.int .i64))).val a1 a0 (.slice pa0 pn0 pc0) line pf0 ∧ (RT.rs (RT.int .i64)).val a1 a0 (.slice pa1 pn1 pc1) numbers ([]) ∧ (RT.os 43 (RT.rs (RT.int .i64))).val a1 a0 (.slice a3 a4 a5) s34 b3) (J := fun s34 a a0 => ∃ (σ : Nat → Value) (a6 : Nat → Prop) (a7 : Option Addr) (a8 : Nat) (a9 : Nat) (b9 : List Nat), a = fr 25 (ovl σ [(5, (.slice a7 a8 a9))]) ∧ Chg [] w a0 ∧ Own (Nw w []) a6 a0 (b9 ++ []) ∧ Keeps w M a6 ∧ (RT.os 43 (RT.rs (RT.int .i64))).val a6 a0 (.slice pa0 pn0 pc0) line pf0 ∧ (RT.rs (RT.int .i64)).val a6 a0 (.slice pa1 pn1 pc1) numbers ([]) ∧ (RT.os 43 (RT.rs (RT.int .i64))).val a6 a0 (.slice a7 a8 a9) s34 b9) (K := (k_spec_l8Choose__sh M w)) ?_ ?_ 0 ([]) o38 _ _ ?_ e3 ?_
 ·rintro k36 s34 a a0 ⟨σ, a1, a3, a4, a5, b3, rfl, hC, hO, hK, h0, h1, b0⟩ hlt
  refine c_seq ?_
  refine c_sr ?_
  refine pl_val (.int .i64 k36) (y_move rfl) ?_
  refine pl_val (.slice pa1 pn1 pc1) (y_move rfl) ?_
  refine pl_val (.int .i64 (numbers.length : Int)) (y_len' Sl43 (rs_len h1) rfl) ?_
  refine pl_val (.bool (decide (k36 < (numbers.length : Int)))) (y_lss rfl rfl) ?_
  refine c_nil ?_
  refine c_condF (congrArg Value.bool (decide_eq_false hlt)) ?_
  refine wp_exit ?_
  exact ⟨rfl, _, a1, a3, a4, a5, b3, fr_ovl 25 ⟨rfl, trivial⟩, hC, hO, hK, h0, h1, b0⟩
 ·rintro k36 s34 o38 a a0 ⟨σ, a1, a3, a4, a5, b3, rfl, hC, hO, hK, h0, h1, b0⟩ hlt hw hs
  refine c_seq ?_
  refine c_sr ?_
  refine pl_val (.int .i64 k36) (y_move rfl) ?_
  refine pl_val (.slice pa1 pn1 pc1) (y_move rfl) ?_
  refine pl_val (.int .i64 (numbers.length : Int)) (y_len' Sl43 (rs_len h1) rfl) ?_
  refine pl_val (.bool (decide (k36 < (numbers.length : Int)))) (y_lss rfl rfl) ?_
  refine c_nil ?_
  refine c_condT (congrArg Value.bool (decide_eq_true hlt)) ?_
  refine wp_skip ?_
  refine c_seq ?_
  refine wp_block ?_
  refine c_region ?_
  refine pl_val (.slice a3 a4 a5) (y_move rfl) ?_
  refine pl_val (.slice pa0 pn0 pc0) (y_move rfl) ?_
  refine pl_val (.slice pa1 pn1 pc1) (y_move rfl) ?_
  refine pl_val (.int .i64 k36) (y_move rfl) ?_
  obtain ⟨x46, e4, hs⟩ := bind_some hs
  obtain ⟨e5, e6, e7, c0⟩ := rs_idx Sl43 Sz3 h1 e4
  refine pl_val (.pointer (some ⟨e5, e6, none⟩)) (e7 _ _ _ _ _ _ _ _ _ rfl rfl) ?_
  refine pl_val (.int .i64 x46) (y_load rfl ((at_load_int Ag3 Sz3 c0) _ (Chg.refl _ _))) ?_
  obtain ⟨x48, e8, hs⟩ := bind_some hs
  obtain ⟨e9, g4, g5, g6, f0, f1, g7⟩ := os_idx Sl25 Sz43 h0 e8
  have f2 := rd_row Rd.rs f1
  refine pl_val (.pointer (some ⟨e9, 0 + Int.toNat x46 * 1, none⟩)) (f0 _ _ _ _ _ _ _ _ _ rfl rfl) ?_
  obtain ⟨g8, f3, b1⟩ := at_load Ag43 Sz43 (fun _ => rfl) f2
  obtain ⟨c1, c2, c3, rfl⟩ := rs_sl b1
  refine pl_val (.slice c1 c2 c3) (y_load rfl (f3 _ (Chg.refl _ _))) ?_
  obtain ⟨d4, c4, f4, d5, a2, d6⟩ := new_block a0 [(.slice c1 c2 c3)] 43
  refine pl_val (w' := d4) (.slice (some ⟨c4, 0, none⟩) 1 1) (y_bslice rfl (by rw [f4, d5]; kernel_rfl)) ?_
  have h0 := h0.ext a2
  have h1 := h1.ext a2
  have b0 := b0.ext a2
  have b1 := b1.ext a2
  have c0 := at_ext c0 a2
  have hC := hC.ext a2
  have hO := hO.new1 a2 d5 d6.lt
  have c5 := os_of_box (r := (RT.rs (RT.int .i64))) (M := a1) (css := [[(.slice c1 c2 c3)]]) (fps := [([] : List Nat)]) (xs := ([x48] : List (List Int))) d6 ⟨(rs_unval b1), trivial⟩ (Nat.le_of_ble_eq_true rfl) (List.nodup_cons.2 ⟨(fun h => nomatch h), List.nodup_nil⟩)
  have c5 : (RT.os 43 (RT.rs (RT.int .i64))).val a1 d4 (.slice (some ⟨c4, 0, none⟩) 1 1) [x48] [c4] := c5
  obtain ⟨y55, f5, hs⟩ := bind_some hs
  have hO := hO.fr1
  obtain ⟨c6, c7, c8, f6, f7, f8, b4, f9, c9⟩ := app_os Rw25 f5 b0 c5 hO.inM (fun g hg hq => hO.apart g hq (mem_l hg))
  have b5 := os_block b0
  refine pl_val (w' := f6) (.slice c6 c7 c8) (y_append rfl rfl (f8 _)) ?_
  have hO := hO.fr1
  have hO := hO.fr1
  have h0 := h0.mut b4 (fun g hg => hO.inM g (b5 g hg)) (fun g hg e => Nat.lt_irrefl _ (Nat.lt_of_lt_of_le (d7 g e) ((hO.inN g (b5 g hg)).resolve_left (fun h => nomatch h))))
  have h1 := h1.mt b4 hO b5
  have b1 := b1.mt b4 hO b5
  have hC := hC.st b4 hO b5
  have hO := hO.eat b4 f9 (os_nodup c9) c9.fpl
  refine pl_val (.slice c6 c7 c8) (y_assign rfl) ?_
  refine c_nil ?_
  refine c_region ?_
  refine pl_val (.int .i64 k36) (y_move rfl) ?_
  refine pl_val (.int .i64 (w64 (k36 + 1))) (y_add rfl rfl) ?_
  refine pl_val (.int .i64 (w64 (k36 + 1))) (y_assign rfl) ?_
  refine c_nil ?_
  cases hs
  exact ⟨_, a1, c6, c7, c8, f7, fr_ovl 25 ⟨rfl, rfl, rfl, congrArg (Value.int .i64) hw, trivial⟩, hC, hO, hK, h0, h1, c9⟩
 ·skip
  exact ⟨_, b8, (some ⟨b2, 0, none⟩), 0, 0, e0, fr_ovl 25 ⟨rfl, rfl, rfl, rfl, trivial⟩, hC, hO, hK, h0, h1, e2⟩
 cases o38 with
 | nx _ => exact True.intro
 | rt r_ =>
  have hs := after_rt hs
  intro g0 d8 hK
  cases hs
  exact hK
 | br s34 =>
  have hs := after_br hs
  rintro g0 a0 ⟨σ, a6, a7, a8, a9, b9, rfl, hC, hO, hK, h0, h1, g1⟩
  refine c_sr ?_
  refine pl_val (.slice a7 a8 a9) (y_move rfl) ?_
  refine pl_val (.slice a7 a8 a9) (y_assign rfl) ?_
  refine c_nil ?_
  refine wp_ret ?_
  cases hs
  obtain ⟨g9, h2, h3, g2, hO, g3⟩ := frz_own (Frz.os (Frz.rs Frz.int)) g1 hO
  have hK := hK.trans g2
  exact ⟨_, a7, a8, a9, fr_ovl 25 ⟨rfl, trivial⟩, hC, (Keeps.out hK g3)⟩

theorem Bd73 : Bodied Try.prog 73 := bodied Try.func73 (by kernel_rfl) rfl

theorem Bd74 : Bodied Try.prog 74 := bodied Try.func74 (by kernel_rfl) rfl

def k_spec_l8Close (M : Nat → Prop) (w0 : World) (r : (List (List Int)) × Bool) (a : Act) (w : World) : Prop :=
  ∃ (σ : Nat → Value) (ra0 : Option Addr) (rn0 rc0 : Nat), a = fr 172 (ovl σ [(6, (.slice ra0 rn0 rc0)), (7, (.bool r.2))]) ∧ Chg [] w0 w ∧ (RT.rs (RT.rs (RT.int .i64))).val (Past M w0 w) w (.slice ra0 rn0 rc0) r.1 []
def s_spec_l8Close (a_ : Int × (List (Int × (List Int)))) (k : Int) (gens : List (List Int)) : Option ((List (List Int)) × Bool) :=
  (s_spec_l8Most (a_.1, a_.2)).bind fun r9 =>
  (forC (S := (List (List Int))) (R := (List (List Int)) × Bool) (fun k28 s26 =>
  (idx gens k28).bind fun x36 =>
  (s_spec_l1Own x36).bind fun r41 =>
  (app s26 ([r41])).bind fun y46 =>
  some (.nx y46)) 0 (gens.length : Int) ([])).bind fun o30 => after o30 (fun r_ => some r_) (fun s26 =>
  (forC (S := (List (List Int))) (R := (List (List Int)) × Bool) (fun k66 s64 =>
  (idx a_.2 k66).bind fun x74 =>
  (bif (x74.1 == 0) then (s_spec_l8Apply (a_.1, a_.2) k66 ([]) k).bind fun r81 =>
  (app s64 ([r81])).bind fun y86 =>
  some (.nx y86) else some (.nx s64))) 0 (a_.2.length : Int) s26).bind fun o68 => after o68 (fun r_ => some r_) (fun s64 =>
  (iter (S := (List (List Int)) × (List (List Int)) × Int) (R := (List (List Int)) × Bool) (fun s249 =>
  (bif (decide (s249.2.2 < (s64.length : Int))) then (idx s64 s249.2.2).bind fun x266 =>
  (s_spec_l8Find s249.1 x266).bind fun r271 =>
  (bif (!r271.2) then (idx s64 s249.2.2).bind fun x273 =>
  (s_spec_l8Put s249.1 x273).bind fun r278 =>
  (idx s64 s249.2.2).bind fun x280 =>
  (app s249.2.1 ([x280])).bind fun y287 =>
  some (.nx (r278, y287, w64 (s249.2.2 + 1))) else some (.nx (s249.1, s249.2.1, w64 (s249.2.2 + 1)))) else some (.br (s249.1, s249.2.1, s249.2.2)))) FU ([], [], 0)).bind fun o253 => after o253 (fun r_ => some r_) (fun s249 =>
  (iter (S := (List (List Int)) × (List (List Int)) × Int) (R := (List (List Int)) × Bool) (fun s2566 =>
  (bif ((decide (s2566.2.2 < (s2566.2.1.length : Int))) && (decide ((s2566.2.1.length : Int) ≤ r9))) then (forC (S := (List (List Int)) × (List (List Int))) (R := (List (List Int)) × Bool) (fun k3334 s3332 =>
  (idx a_.2 k3334).bind fun x3359 =>
  (idx a_.2 k3334).bind fun x3362 =>
  (mks x3359.1 (0 : Int)).bind fun y3366 =>
  (iter (S := (List (List Int)) × (List (List Int)) × (List Int) × Bool) (R := (List (List Int)) × Bool) (fun s3591 =>
  (bif (s3591.2.2.2 && (decide ((s3591.2.1.length : Int) ≤ r9))) then (s_spec_l1Has s3591.2.2.1 s2566.2.2).bind fun r3617 =>
  (bif r3617 then (s_spec_l8Choose__sh s3591.2.1 s3591.2.2.1).bind fun r3695 =>
  (s_spec_l8Apply (a_.1, a_.2) k3334 r3695 k).bind fun r3698 =>
  (s_spec_l8Find s3591.1 r3698).bind fun r3701 =>
  (bif (!r3701.2) then (s_spec_l8Put s3591.1 r3698).bind fun r3705 =>
  (app s3591.2.1 ([r3698])).bind fun y3710 =>
  some (r3705, y3710, s3591.2.2.1) else some (s3591.1, s3591.2.1, s3591.2.2.1)) else some (s3591.1, s3591.2.1, s3591.2.2.1)).bind fun s3674 =>
  (s_spec_l8Next s3674.2.2 (w64 (s2566.2.2 + 1))).bind fun r3714 =>
  some (.nx (s3674.1, s3674.2.1, r3714.1, r3714.2)) else some (.br (s3591.1, s3591.2.1, s3591.2.2.1, s3591.2.2.2)))) FU (s3332.1, s3332.2, y3366, (decide (0 < x3362.1)))).bind fun o3595 => after o3595 (fun r_ => some (.rt r_)) (fun s3591 =>
  some (.nx (s3591.1, s3591.2.1)))) 0 (a_.2.length : Int) (s2566.1, s2566.2.1)).bind fun o3336 => after o3336 (fun r_ => some (.rt r_)) (fun s3332 =>
  some (.nx (s3332.1, s3332.2, w64 (s2566.2.2 + 1)))) else some (.br (s2566.1, s2566.2.1, s2566.2.2)))) FU (s249.1, s249.2.1, 0)).bind fun o2570 => after o2570 (fun r_ => some r_) (fun s2566 =>
  some (s2566.1, (decide ((s2566.1.length : Int) ≤ r9)))))))
set_option maxHeartbeats 4000000 in
theorem c_spec_l8Close {M : Nat → Prop} {w : World} {pa0 : Option Addr} {pn0 pc0 : Nat} {pa1 : Option Addr} {pn1 pc1 : Nat} (a_ : Int × (List (Int × (List Int)))) (k : Int) (gens : List (List Int)) (h0 : (RT.rs (RT.pr (RT.int .i64) (RT.rs (RT.int .i64)))).val M w (.slice pa0 pn0 pc0) a_.2 ([])) (h1 : (RT.rs (RT.rs (RT.int .i64))).val M w (.slice pa1 pn1 pc1) gens ([])) (hM : ∀ g, w.heap.size ≤ g → M g) {r : (List (List Int)) × Bool} (hs : s_spec_l8Close a_ k gens = some r) :
    Gives Try.prog 37 [(.agg #[(.int .i64 a_.1), (.slice pa0 pn0 pc0)]), (.int .i64 k), (.slice pa1 pn1 pc1)] w (fun v w' => ∃ (ra0 : Option Addr) (rn0 rc0 : Nat), v = (.tuple #[(.slice ra0 rn0 rc0), (.bool r.2)]) ∧ Chg [] w w' ∧ (RT.rs (RT.rs (RT.int .i64))).val (Past M w w') w' (.slice ra0 rn0 rc0) r.1 []) := by
 refine calls_fr Try.func37 rfl Try.ntmps37 (Nat.le_of_ble_eq_true rfl) ?_
 have hO := Own.start (N := Nw w []) hM Nw.fut
 have hC := Chg.refl [] w
 unfold s_spec_l8Close at hs
 refine wp_mono (Q := KPost (k_spec_l8Close M w r)) ?_ (fun e a k5 h => ?_)
 rotate_left
 ·cases e
  case ret =>
   obtain ⟨σ, ra0, rn0, rc0, rfl, hrest⟩ := h
   exact ret2x Try.results37 (res_tmp rfl) (res_tmp rfl) ⟨ra0, rn0, rc0, rfl, hrest⟩
  all_goals exact (h : False).elim
 refine c_sr ?_
 obtain ⟨z4, a1, F0, z5, o6, a0⟩ := new_block w [(.int .i64 a_.1), (.slice pa0 pn0 pc0)] 35
 refine pl_val (w' := z4) (.pointer (some ⟨a1, 0, none⟩)) (y_box rfl (by rw [F0, z5]; kernel_rfl)) ?_
 have h0 := h0.ext o6
 have h1 := h1.ext o6
 have hC := hC.ext o6
 have hO := hO.new1 o6 z5 a0.lt
 refine pl_val (.slice none 0 0) (y_assign rfl) ?_
 refine pl_val (.bool false) (y_assign rfl) ?_
 refine c_nil ?_
 refine c_sr ?_
 obtain ⟨t1, a6, F1, z6, n4, z7⟩ := new_block z4 [] 43
 refine pl_val (w' := t1) (.slice (some ⟨a6, 0, none⟩) 0 0) (y_bslice rfl (by rw [F1, z6]; kernel_rfl)) ?_
 have h0 := h0.ext n4
 have h1 := h1.ext n4
 have a0 := a0.cn n4
 have hC := hC.ext n4
 have hO := hO.new1 n4 z6 z7.lt
 have a2 := os_of_box (r := (RT.os 3 (RT.int .i64))) (M := M) (css := []) (fps := []) (xs := ([] : List (List Int))) z7 trivial (Nat.zero_le _) (List.nodup_cons.2 ⟨(fun h => nomatch h), List.nodup_nil⟩)
 have a2 : (RT.os 43 (RT.os 3 (RT.int .i64))).val M t1 (.slice (some ⟨a6, 0, none⟩) 0 0) [] [a6] := a2
 obtain ⟨z8, a7, F2, z9, k6, A0⟩ := new_block t1 [] 43
 refine pl_val (w' := z8) (.slice (some ⟨a7, 0, none⟩) 0 0) (y_bslice rfl (by rw [F2, z9]; kernel_rfl)) ?_
 have h0 := h0.ext k6
 have h1 := h1.ext k6
 have a0 := a0.cn k6
 have a2 := a2.ext k6
 have hC := hC.ext k6
 have hO := hO.new1 k6 z9 A0.lt
 have a3 := os_of_box (r := (RT.os 3 (RT.int .i64))) (M := M) (css := []) (fps := []) (xs := ([] : List (List Int))) A0 trivial (Nat.zero_le _) (List.nodup_cons.2 ⟨(fun h => nomatch h), List.nodup_nil⟩)
 have a3 : (RT.os 43 (RT.os 3 (RT.int .i64))).val M z8 (.slice (some ⟨a7, 0, none⟩) 0 0) [] [a7] := a3
 refine pl_val (.agg #[(.int .i64 a_.1), (.slice pa0 pn0 pc0)]) (y_load rfl ((box_load Ag35 Sz35 a0 [] [(.int .i64 a_.1), (.slice pa0 pn0 pc0)] [] rfl rfl (fun h => nomatch h)) _ (Chg.refl _ _))) ?_
 obtain ⟨r9, F3, hs⟩ := bind_some hs
 refine pl_call Bd69 rfl (c_spec_l8Most (M := M) (a_.1, a_.2) h0 hO.fut F3) ?_
 rintro _ F4 ⟨rfl, h6⟩
 have h0 := h0.ext h6
 have h1 := h1.ext h6
 have a0 := a0.cn h6
 have a2 := a2.ext h6
 have a3 := a3.ext h6
 have hC := hC.ext h6
 have hO := hO.ext h6
 refine pl_val (.slice (some ⟨a6, 0, none⟩) 0 0) (y_assign rfl) ?_
 refine pl_val (.slice (some ⟨a7, 0, none⟩) 0 0) (y_assign rfl) ?_
 refine pl_val (.int .i64 r9) (y_assign rfl) ?_
 refine c_nil ?_
 refine c_sr ?_
 obtain ⟨A1, k7, F5, A2, h7, A3⟩ := new_block F4 [] 43
 refine pl_val (w' := A1) (.slice (some ⟨k7, 0, none⟩) 0 0) (y_bslice rfl (by rw [F5, A2]; kernel_rfl)) ?_
 have h0 := h0.ext h7
 have h1 := h1.ext h7
 have a0 := a0.cn h7
 have a2 := a2.ext h7
 have a3 := a3.ext h7
 have hC := hC.ext h7
 have hO := hO.new1 h7 A2 A3.lt
 have t2 := os_of_box (r := (RT.os 3 (RT.int .i64))) (M := M) (css := []) (fps := []) (xs := ([] : List (List Int))) A3 trivial (Nat.zero_le _) (List.nodup_cons.2 ⟨(fun h => nomatch h), List.nodup_nil⟩)
 have t2 : (RT.os 43 (RT.os 3 (RT.int .i64))).val M A1 (.slice (some ⟨k7, 0, none⟩) 0 0) [] [k7] := t2
 refine pl_val (.slice (some ⟨k7, 0, none⟩) 0 0) (y_assign rfl) ?_
 refine c_nil ?_
 refine c_seq ?_
 refine c_sr ?_
 refine pl_val (.int .i64 0) (y_assign rfl) ?_
 refine c_nil ?_
 obtain ⟨o30, F6, hs⟩ := bind_some hs
 refine wp_block ?_
 refine wp_forC (id := 0) (gens.length : Int) (I := fun k28 s26 a b0 => ∃ (σ : Nat → Value) (k8 : Option Addr) (k9 : Nat) (l0 : Nat) (h8 : List Nat), a = fr 172 (ovl σ [(1, (.int .i64 k)), (2, (.slice pa1 pn1 pc1)), (3, (.pointer (some ⟨a1, 0, none⟩))), (8, (.slice (some ⟨a6, 0, none⟩) 0 0)), (9, (.slice (some ⟨a7, 0, none⟩) 0 0)), (10, (.int .i64 r9)), (11, (.slice k8 k9 l0)), (12, (.int .i64 k28))]) ∧ Chg [] w b0 ∧ Own (Nw w []) M b0 (h8 ++ (([a7]) ++ (([a6]) ++ (([a1]) ++ [])))) ∧ (RT.rs (RT.pr (RT.int .i64) (RT.rs (RT.int .i64)))).val M b0 (.slice pa0 pn0 pc0) a_.2 ([]) ∧ (RT.rs (RT.rs (RT.int .i64))).val M b0 (.slice pa1 pn1 pc1) gens ([]) ∧ BoxV b0 a1 35 [(.int .i64 a_.1), (.slice pa0 pn0 pc0)] ∧ (RT.os 43 (RT.os 3 (RT.int .i64))).val M b0 (.slice (some ⟨a6, 0, none⟩) 0 0) ([]) ([a6]) ∧ (RT.os 43 (RT.os 3 (RT.int .i64))).val M b0 (.slice (some ⟨a7, 0, none⟩) 0 0) ([]) ([a7]) ∧ (RT.os 43 (RT.os 3 (RT.int .i64))).val M b0 (.slice k8 k9 l0) s26 h8) (J := fun s26 a b0 => ∃ (σ : Nat → Value) (o7 : Option Addr) (o8 : Nat) (o9 : Nat) (p0 : List Nat), a = fr 172 (ovl σ [(1, (.int .i64 k)), (3, (.pointer (some ⟨a1, 0, none⟩))), (8, (.slice (some ⟨a6, 0, none⟩) 0 0)), (9, (.slice (some ⟨a7, 0, none⟩) 0 0)), (10, (.int .i64 r9)), (11, (.slice o7 o8 o9))]) ∧ Chg [] w b0 ∧ Own (Nw w []) M b0 (p0 ++ (([a7]) ++ (([a6]) ++ (([a1]) ++ [])))) ∧ (RT.rs (RT.pr (RT.int .i64) (RT.rs (RT.int .i64)))).val M b0 (.slice pa0 pn0 pc0) a_.2 ([]) ∧ (RT.rs (RT.rs (RT.int .i64))).val M b0 (.slice pa1 pn1 pc1) gens ([]) ∧ BoxV b0 a1 35 [(.int .i64 a_.1), (.slice pa0 pn0 pc0)] ∧ (RT.os 43 (RT.os 3 (RT.int .i64))).val M b0 (.slice (some ⟨a6, 0, none⟩) 0 0) ([]) ([a6]) ∧ (RT.os 43 (RT.os 3 (RT.int .i64))).val M b0 (.slice (some ⟨a7, 0, none⟩) 0 0) ([]) ([a7]) ∧ (RT.os 43 (RT.os 3 (RT.int .i64))).val M b0 (.slice o7 o8 o9) s26 p0) (K := (k_spec_l8Close M w)) ?_ ?_ 0 ([]) o30 _ _ ?_ F6 ?_
 ·rintro k28 s26 a b0 ⟨σ, k8, k9, l0, h8, rfl, hC, hO, h0, h1, a0, a2, a3, f8⟩ hlt
  refine c_seq ?_
  refine c_sr ?_
  refine pl_val (.int .i64 k28) (y_move rfl) ?_
  refine pl_val (.slice pa1 pn1 pc1) (y_move rfl) ?_
  refine pl_val (.int .i64 (gens.length : Int)) (y_len' Sl25 (rs_len h1) rfl) ?_
  refine pl_val (.bool (decide (k28 < (gens.length : Int)))) (y_lss rfl rfl) ?_
  refine c_nil ?_
  refine c_condF (congrArg Value.bool (decide_eq_false hlt)) ?_
  refine wp_exit ?_
  have hO := hO.fr3
  have hO := hO.fr3
  have hO := hO.fr3
  have hO := hO.fr3
  exact ⟨rfl, _, k8, k9, l0, h8, fr_ovl 172 ⟨rfl, rfl, rfl, rfl, rfl, rfl, trivial⟩, hC, hO, h0, h1, a0, a2, a3, f8⟩
 ·rintro k28 s26 o30 a b0 ⟨σ, k8, k9, l0, h8, rfl, hC, hO, h0, h1, a0, a2, a3, f8⟩ hlt hw hs
  refine c_seq ?_
  refine c_sr ?_
  refine pl_val (.int .i64 k28) (y_move rfl) ?_
  refine pl_val (.slice pa1 pn1 pc1) (y_move rfl) ?_
  refine pl_val (.int .i64 (gens.length : Int)) (y_len' Sl25 (rs_len h1) rfl) ?_
  refine pl_val (.bool (decide (k28 < (gens.length : Int)))) (y_lss rfl rfl) ?_
  refine c_nil ?_
  refine c_condT (congrArg Value.bool (decide_eq_true hlt)) ?_
  refine wp_skip ?_
  refine c_seq ?_
  refine wp_block ?_
  refine c_region ?_
  refine pl_val (.slice k8 k9 l0) (y_move rfl) ?_
  refine pl_val (.slice pa1 pn1 pc1) (y_move rfl) ?_
  refine pl_val (.int .i64 k28) (y_move rfl) ?_
  obtain ⟨x36, F7, hs⟩ := bind_some hs
  obtain ⟨F8, F9, G0, n5⟩ := rs_idx Sl25 Sz43 h1 F7
  refine pl_val (.pointer (some ⟨F8, F9, none⟩)) (G0 _ _ _ _ _ _ _ _ _ rfl rfl) ?_
  obtain ⟨Q6, G1, f9⟩ := at_load Ag43 Sz43 (fun _ => rfl) n5
  obtain ⟨G2, G3, G4, rfl⟩ := rs_sl f9
  refine pl_val (.slice G2 G3 G4) (y_load rfl (G1 _ (Chg.refl _ _))) ?_
  obtain ⟨r41, G5, hs⟩ := bind_some hs
  refine pl_call Bd54 rfl (c_spec_l1Own (M := M) x36 f9 hO.fut G5) ?_
  rintro _ G6 ⟨A4, A5, A6, p1, rfl, c7, t3, G7⟩
  have h0 := h0.ext c7
  have h1 := h1.ext c7
  have a0 := a0.cn c7
  have a2 := a2.ext c7
  have a3 := a3.ext c7
  have f8 := f8.ext c7
  have f9 := f9.ext c7
  have n5 := at_ext n5 c7
  have hC := hC.ext c7
  have hO := Own.join0 hO c7 G7
  have hO := hO.perm (R := p1 ++ (h8 ++ (([a7]) ++ (([a6]) ++ (([a1]) ++ ([])))))) (by simp)
  obtain ⟨A7, p2, G8, A8, c4, A9⟩ := new_block G6 [(.slice A4 A5 A6)] 43
  refine pl_val (w' := A7) (.slice (some ⟨p2, 0, none⟩) 1 1) (y_bslice rfl (by rw [G8, A8]; kernel_rfl)) ?_
  have h0 := h0.ext c4
  have h1 := h1.ext c4
  have a0 := a0.cn c4
  have a2 := a2.ext c4
  have a3 := a3.ext c4
  have f8 := f8.ext c4
  have f9 := f9.ext c4
  have t3 := t3.ext c4
  have n5 := at_ext n5 c4
  have hC := hC.ext c4
  have hO := hO.new1 c4 A8 A9.lt
  have hO := hO.perm (R := (p2 :: ((p1) ++ ([]))) ++ (h8 ++ (([a7]) ++ (([a6]) ++ (([a1]) ++ ([])))))) (by simp)
  have G9 := hO.nd
  have t4 := os_of_box (r := (RT.os 3 (RT.int .i64))) (M := M) (css := [[(.slice A4 A5 A6)]]) (fps := [(p1 : List Nat)]) (xs := ([r41] : List (List Int))) A9 ⟨(os_unval t3), trivial⟩ (Nat.le_of_ble_eq_true rfl) G9
  have t4 : (RT.os 43 (RT.os 3 (RT.int .i64))).val M A7 (.slice (some ⟨p2, 0, none⟩) 1 1) [r41] (p2 :: ((p1) ++ ([]))) := t4
  obtain ⟨y46, H0, hs⟩ := bind_some hs
  have hO := hO.fr1
  obtain ⟨t5, t6, t7, H1, H2, H3, g0, H4, t8⟩ := app_os Rw25 H0 f8 t4 hO.inM (fun g hg hq => hO.apart g hq (mem_l hg))
  have h9 := os_block f8
  refine pl_val (w' := H1) (.slice t5 t6 t7) (y_append rfl rfl (H3 _)) ?_
  have hO := hO.fr1
  have hO := hO.fr1
  have h0 := h0.mt g0 hO h9
  have h1 := h1.mt g0 hO h9
  have a0 := a0.ap g0 hO h9 (mem_r (mem_r (mem_r (mem_l (List.mem_singleton.2 rfl)))))
  have a2 := a2.ma g0 hO h9 (fun _ e => (mem_r (mem_r (mem_l (e)))))
  have a3 := a3.ma g0 hO h9 (fun _ e => (mem_r (mem_l (e))))
  have f9 := f9.mt g0 hO h9
  have hC := hC.st g0 hO h9
  have hO := hO.eat g0 H4 (os_nodup t8) t8.fpl
  refine pl_val (.slice t5 t6 t7) (y_assign rfl) ?_
  refine c_nil ?_
  refine c_region ?_
  refine pl_val (.int .i64 k28) (y_move rfl) ?_
  refine pl_val (.int .i64 (w64 (k28 + 1))) (y_add rfl rfl) ?_
  refine pl_val (.int .i64 (w64 (k28 + 1))) (y_assign rfl) ?_
  refine c_nil ?_
  cases hs
  have hO := hO.fr3
  have hO := hO.fr3
  have hO := hO.fr3
  have hO := hO.fr3
  exact ⟨_, t5, t6, t7, H2, fr_ovl 172 ⟨rfl, rfl, rfl, rfl, rfl, rfl, rfl, congrArg (Value.int .i64) hw, trivial⟩, hC, hO, h0, h1, a0, a2, a3, t8⟩
 ·skip
  have hO := hO.fr3
  have hO := hO.fr3
  have hO := hO.fr3
  have hO := hO.fr3
  exact ⟨_, (some ⟨k7, 0, none⟩), 0, 0, ([k7]), fr_ovl 172 ⟨rfl, rfl, rfl, rfl, rfl, rfl, rfl, rfl, trivial⟩, hC, hO, h0, h1, a0, a2, a3, t2⟩
 cases o30 with
 | nx _ => exact True.intro
 | rt r_ =>
  have hs := after_rt hs
  intro b8 k5 hK
  cases hs
  exact hK
 | br s26 =>
  have hs := after_br hs
  rintro b8 b0 ⟨σ, o7, o8, o9, p0, rfl, hC, hO, h0, h1, a0, a2, a3, H5⟩
  refine c_seq ?_
  refine c_sr ?_
  refine pl_val (.int .i64 0) (y_assign rfl) ?_
  refine c_nil ?_
  obtain ⟨o68, H6, hs⟩ := bind_some hs
  refine wp_block ?_
  refine wp_forC (id := 2) (a_.2.length : Int) (I := fun k66 s64 a b2 => ∃ (σ : Nat → Value) (i0 : Option Addr) (i1 : Nat) (i2 : Nat) (g1 : List Nat), a = fr 172 (ovl σ [(1, (.int .i64 k)), (3, (.pointer (some ⟨a1, 0, none⟩))), (8, (.slice (some ⟨a6, 0, none⟩) 0 0)), (9, (.slice (some ⟨a7, 0, none⟩) 0 0)), (10, (.int .i64 r9)), (11, (.slice i0 i1 i2)), (13, (.int .i64 k66))]) ∧ Chg [] w b2 ∧ Own (Nw w []) M b2 (g1 ++ (([a7]) ++ (([a6]) ++ (([a1]) ++ [])))) ∧ (RT.rs (RT.pr (RT.int .i64) (RT.rs (RT.int .i64)))).val M b2 (.slice pa0 pn0 pc0) a_.2 ([]) ∧ BoxV b2 a1 35 [(.int .i64 a_.1), (.slice pa0 pn0 pc0)] ∧ (RT.os 43 (RT.os 3 (RT.int .i64))).val M b2 (.slice (some ⟨a6, 0, none⟩) 0 0) ([]) ([a6]) ∧ (RT.os 43 (RT.os 3 (RT.int .i64))).val M b2 (.slice (some ⟨a7, 0, none⟩) 0 0) ([]) ([a7]) ∧ (RT.os 43 (RT.os 3 (RT.int .i64))).val M b2 (.slice i0 i1 i2) s64 g1) (J := fun s64 a b2 => ∃ (σ : Nat → Value) (c8 : Option Addr) (c9 : Nat) (d0 : Nat) (t9 : List Nat), a = fr 172 (ovl σ [(1, (.int .i64 k)), (3, (.pointer (some ⟨a1, 0, none⟩))), (8, (.slice (some ⟨a6, 0, none⟩) 0 0)), (9, (.slice (some ⟨a7, 0, none⟩) 0 0)), (10, (.int .i64 r9)), (11, (.slice c8 c9 d0))]) ∧ Chg [] w b2 ∧ Own (Nw w []) M b2 (t9 ++ (([a7]) ++ (([a6]) ++ (([a1]) ++ [])))) ∧ (RT.rs (RT.pr (RT.int .i64) (RT.rs (RT.int .i64)))).val M b2 (.slice pa0 pn0 pc0) a_.2 ([]) ∧ BoxV b2 a1 35 [(.int .i64 a_.1), (.slice pa0 pn0 pc0)] ∧ (RT.os 43 (RT.os 3 (RT.int .i64))).val M b2 (.slice (some ⟨a6, 0, none⟩) 0 0) ([]) ([a6]) ∧ (RT.os 43 (RT.os 3 (RT.int .i64))).val M b2 (.slice (some ⟨a7, 0, none⟩) 0 0) ([]) ([a7]) ∧ (RT.os 43 (RT.os 3 (RT.int .i64))).val M b2 (.slice c8 c9 d0) s64 t9) (K := (k_spec_l8Close M w)) ?_ ?_ 0 s26 o68 _ _ ?_ H6 ?_
  ·rintro k66 s64 a b2 ⟨σ, i0, i1, i2, g1, rfl, hC, hO, h0, a0, a2, a3, c5⟩ hlt
   refine c_seq ?_
   refine c_sr ?_
   refine pl_val (.int .i64 k66) (y_move rfl) ?_
   refine pl_val (.pointer (some ⟨a1, 1, none⟩)) (y_faddr rfl Fa35x1) ?_
   refine pl_val (.slice pa0 pn0 pc0) (y_load rfl ((box_load Ag33 Sz33 a0 [(.int .i64 a_.1)] [(.slice pa0 pn0 pc0)] [] rfl rfl (fun _ => rfl)) _ (Chg.refl _ _))) ?_
   refine pl_val (.int .i64 (a_.2.length : Int)) (y_len' Sl33 (rs_len h0) rfl) ?_
   refine pl_val (.bool (decide (k66 < (a_.2.length : Int)))) (y_lss rfl rfl) ?_
   refine c_nil ?_
   refine c_condF (congrArg Value.bool (decide_eq_false hlt)) ?_
   refine wp_exit ?_
   have hO := hO.fr3
   have hO := hO.fr3
   have hO := hO.fr3
   have hO := hO.fr3
   exact ⟨rfl, _, i0, i1, i2, g1, fr_ovl 172 ⟨rfl, rfl, rfl, rfl, rfl, rfl, trivial⟩, hC, hO, h0, a0, a2, a3, c5⟩
  ·rintro k66 s64 o68 a b2 ⟨σ, i0, i1, i2, g1, rfl, hC, hO, h0, a0, a2, a3, c5⟩ hlt hw hs
   refine c_seq ?_
   refine c_sr ?_
   refine pl_val (.int .i64 k66) (y_move rfl) ?_
   refine pl_val (.pointer (some ⟨a1, 1, none⟩)) (y_faddr rfl Fa35x1) ?_
   refine pl_val (.slice pa0 pn0 pc0) (y_load rfl ((box_load Ag33 Sz33 a0 [(.int .i64 a_.1)] [(.slice pa0 pn0 pc0)] [] rfl rfl (fun _ => rfl)) _ (Chg.refl _ _))) ?_
   refine pl_val (.int .i64 (a_.2.length : Int)) (y_len' Sl33 (rs_len h0) rfl) ?_
   refine pl_val (.bool (decide (k66 < (a_.2.length : Int)))) (y_lss rfl rfl) ?_
   refine c_nil ?_
   refine c_condT (congrArg Value.bool (decide_eq_true hlt)) ?_
   refine wp_skip ?_
   refine c_seq ?_
   refine wp_block ?_
   refine c_sr ?_
   refine pl_val (.pointer (some ⟨a1, 1, none⟩)) (y_faddr rfl Fa35x1) ?_
   refine pl_val (.slice pa0 pn0 pc0) (y_load rfl ((box_load Ag33 Sz33 a0 [(.int .i64 a_.1)] [(.slice pa0 pn0 pc0)] [] rfl rfl (fun _ => rfl)) _ (Chg.refl _ _))) ?_
   refine pl_val (.int .i64 k66) (y_move rfl) ?_
   obtain ⟨x74, H7, hs⟩ := bind_some hs
   obtain ⟨B0, B1, H8, H9⟩ := rs_idx Sl33 Sz89 h0 H7
   refine pl_val (.pointer (some ⟨B0, B1, none⟩)) (H8 _ _ _ _ _ _ _ _ _ rfl rfl) ?_
   obtain ⟨I0, _⟩ := pr_at H9
   refine pl_val (.pointer (some ⟨B0, B1 + 0, none⟩)) (y_faddr rfl Fa89x0) ?_
   refine pl_val (.int .i64 x74.1) (y_load rfl ((at_load_int Ag3 Sz3 I0) _ (Chg.refl _ _))) ?_
   refine pl_val (.bool (x74.1 == 0)) (y_eql rfl rfl) ?_
   refine c_nil ?_
   rcases bif_some hs with ⟨u0, hs⟩ | ⟨u0, hs⟩
   ·refine c_condT (congrArg Value.bool u0) ?_
    refine c_region ?_
    refine pl_val (.slice i0 i1 i2) (y_move rfl) ?_
    refine pl_val (.agg #[(.int .i64 a_.1), (.slice pa0 pn0 pc0)]) (y_load rfl ((box_load Ag35 Sz35 a0 [] [(.int .i64 a_.1), (.slice pa0 pn0 pc0)] [] rfl rfl (fun h => nomatch h)) _ (Chg.refl _ _))) ?_
    refine pl_val (.int .i64 k66) (y_move rfl) ?_
    obtain ⟨B2, l1, I1, B3, i3, B4⟩ := new_block b2 [] 43
    refine pl_val (w' := B2) (.slice (some ⟨l1, 0, none⟩) 0 0) (y_bslice rfl (by rw [I1, B3]; kernel_rfl)) ?_
    have h0 := h0.ext i3
    have a0 := a0.cn i3
    have a2 := a2.ext i3
    have a3 := a3.ext i3
    have c5 := c5.ext i3
    have hC := hC.ext i3
    have hO := hO.new1 i3 B3 B4.lt
    have e4 := os_of_box (r := (RT.os 3 (RT.int .i64))) (M := M) (css := []) (fps := []) (xs := ([] : List (List Int))) B4 trivial (Nat.zero_le _) (List.nodup_cons.2 ⟨(fun h => nomatch h), List.nodup_nil⟩)
    have e4 : (RT.os 43 (RT.os 3 (RT.int .i64))).val M B2 (.slice (some ⟨l1, 0, none⟩) 0 0) [] [l1] := e4
    refine pl_val (.int .i64 k) (y_move rfl) ?_
    obtain ⟨r81, I2, hs⟩ := bind_some hs
    refine pl_call Bd70 rfl (c_spec_l8Apply (M := (Less M ([l1]))) (a_.1, a_.2) k66 ([]) k (h0.sub Less.sub) (((Frz.os (Frz.os Frz.int))).val e4 Less.sub Less.not) hO.less.fut I2) ?_
    rintro _ I3 ⟨B5, B6, B7, p3, rfl, g2, n6, I4⟩
    have h0 := h0.ext g2
    have a0 := a0.cn g2
    have a2 := a2.ext g2
    have a3 := a3.ext g2
    have c5 := c5.ext g2
    have e4 := e4.ext g2
    have hC := hC.ext g2
    have hO := Own.join0 hO g2 I4
    have hO := hO.perm (R := p3 ++ (([l1]) ++ (g1 ++ (([a7]) ++ (([a6]) ++ (([a1]) ++ ([]))))))) (by simp)
    have n6 := n6.free (M' := M) (Free.os Free.int)
    obtain ⟨B8, p4, I5, B9, e5, C0⟩ := new_block I3 [(.slice B5 B6 B7)] 43
    refine pl_val (w' := B8) (.slice (some ⟨p4, 0, none⟩) 1 1) (y_bslice rfl (by rw [I5, B9]; kernel_rfl)) ?_
    have h0 := h0.ext e5
    have a0 := a0.cn e5
    have a2 := a2.ext e5
    have a3 := a3.ext e5
    have c5 := c5.ext e5
    have e4 := e4.ext e5
    have n6 := n6.ext e5
    have hC := hC.ext e5
    have hO := hO.new1 e5 B9 C0.lt
    have hO := hO.perm (R := (p4 :: ((p3) ++ ([]))) ++ (([l1]) ++ (g1 ++ (([a7]) ++ (([a6]) ++ (([a1]) ++ ([]))))))) (by simp)
    have I6 := hO.nd
    have u1 := os_of_box (r := (RT.os 3 (RT.int .i64))) (M := M) (css := [[(.slice B5 B6 B7)]]) (fps := [(p3 : List Nat)]) (xs := ([r81] : List (List Int))) C0 ⟨(os_unval n6), trivial⟩ (Nat.le_of_ble_eq_true rfl) I6
    have u1 : (RT.os 43 (RT.os 3 (RT.int .i64))).val M B8 (.slice (some ⟨p4, 0, none⟩) 1 1) [r81] (p4 :: ((p3) ++ ([]))) := u1
    obtain ⟨y86, I7, hs⟩ := bind_some hs
    have hO := hO.fr2
    obtain ⟨u2, u3, u4, I8, I9, J0, i4, J1, u5⟩ := app_os Rw25 I7 c5 u1 hO.inM (fun g hg hq => hO.apart g hq (mem_l hg))
    have l2 := os_block c5
    refine pl_val (w' := I8) (.slice u2 u3 u4) (y_append rfl rfl (J0 _)) ?_
    have hO := hO.fr1
    have hO := hO.fr1
    have h0 := h0.mt i4 hO l2
    have a0 := a0.ap i4 hO l2 (mem_r (mem_r (mem_r (mem_r (mem_l (List.mem_singleton.2 rfl))))))
    have a2 := a2.ma i4 hO l2 (fun _ e => (mem_r (mem_r (mem_r (mem_l (e))))))
    have a3 := a3.ma i4 hO l2 (fun _ e => (mem_r (mem_r (mem_l (e)))))
    have e4 := e4.ma i4 hO l2 (fun _ e => (mem_r (mem_l (e))))
    have hC := hC.st i4 hO l2
    have hO := hO.eat i4 J1 (os_nodup u5) u5.fpl
    refine pl_val (.slice u2 u3 u4) (y_assign rfl) ?_
    refine c_nil ?_
    refine c_region ?_
    refine pl_val (.int .i64 k66) (y_move rfl) ?_
    refine pl_val (.int .i64 (w64 (k66 + 1))) (y_add rfl rfl) ?_
    refine pl_val (.int .i64 (w64 (k66 + 1))) (y_assign rfl) ?_
    refine c_nil ?_
    cases hs
    have hO := hO.fr1
    have hO := hO.drop
    have hO := hO.fr3
    have hO := hO.fr3
    have hO := hO.fr3
    have hO := hO.fr3
    exact ⟨_, u2, u3, u4, I9, fr_ovl 172 ⟨rfl, rfl, rfl, rfl, rfl, rfl, congrArg (Value.int .i64) hw, trivial⟩, hC, hO, h0, a0, a2, a3, u5⟩
   refine c_condF (congrArg Value.bool u0) ?_
   refine wp_skip ?_
   refine c_region ?_
   refine pl_val (.int .i64 k66) (y_move rfl) ?_
   refine pl_val (.int .i64 (w64 (k66 + 1))) (y_add rfl rfl) ?_
   refine pl_val (.int .i64 (w64 (k66 + 1))) (y_assign rfl) ?_
   refine c_nil ?_
   cases hs
   have hO := hO.fr3
   have hO := hO.fr3
   have hO := hO.fr3
   have hO := hO.fr3
   exact ⟨_, i0, i1, i2, g1, fr_ovl 172 ⟨rfl, rfl, rfl, rfl, rfl, rfl, congrArg (Value.int .i64) hw, trivial⟩, hC, hO, h0, a0, a2, a3, c5⟩
  ·skip
   have hO := hO.fr3
   have hO := hO.fr3
   have hO := hO.fr3
   have hO := hO.fr3
   exact ⟨_, o7, o8, o9, p0, fr_ovl 172 ⟨rfl, rfl, rfl, rfl, rfl, rfl, rfl, trivial⟩, hC, hO, h0, a0, a2, a3, H5⟩
  cases o68 with
  | nx _ => exact True.intro
  | rt r_ =>
   have hs := after_rt hs
   intro b8 k5 hK
   cases hs
   exact hK
  | br s64 =>
   have hs := after_br hs
   rintro b8 b2 ⟨σ, c8, c9, d0, t9, rfl, hC, hO, h0, a0, a2, a3, n7⟩
   refine c_seq ?_
   refine c_sr ?_
   refine pl_val (.int .i64 0) (y_assign rfl) ?_
   refine c_nil ?_
   have hO := hO.fr2
   obtain ⟨u6, Q7, u7, J2, hO, n8⟩ := frz_own (Frz.os (Frz.os Frz.int)) a2 hO
   have h0 := h0.sub (M' := u6) u7
   have a3 := a3.sub (M' := u6) u7
   have n7 := n7.sub (M' := u6) u7
   have hK := J2
   have hO := hO.fr1
   obtain ⟨u9, J3, v0, J4, hO, v1⟩ := os_inner (Frz.os Frz.int) a3 hO
   have h0 := h0.sub (M' := u9) v0
   have n8 := n8.sub (M' := u9) v0
   have n7 := n7.sub (M' := u9) v0
   have hK := hK.trans J4
   have hO := hO.fr1
   obtain ⟨p5, Q8, v2, J5, hO, b1⟩ := frz_own (Frz.os (Frz.os Frz.int)) n7 hO
   have h0 := h0.sub (M' := p5) v2
   have n8 := n8.sub (M' := p5) v2
   have v1 := v1.sub (M' := p5) v2
   have hK := hK.trans J5
   obtain ⟨o253, J6, hs⟩ := bind_some hs
   refine wp_block ?_
   refine wp_iter (id := 4) (I := fun s249 a b5 => ∃ (σ : Nat → Value) (a8 : Nat → Prop) (i5 : Option Addr) (i6 : Nat) (i7 : Nat) (l3 : Option Addr) (l4 : Nat) (l5 : Nat) (n9 : List Nat), a = fr 172 (ovl σ [(1, (.int .i64 k)), (3, (.pointer (some ⟨a1, 0, none⟩))), (8, (.slice i5 i6 i7)), (9, (.slice l3 l4 l5)), (10, (.int .i64 r9)), (11, (.slice c8 c9 d0)), (14, (.int .i64 s249.2.2))]) ∧ Chg [] w b5 ∧ Own (Nw w []) a8 b5 (n9 ++ (([a1]) ++ [])) ∧ Keeps w M a8 ∧ (RT.rs (RT.pr (RT.int .i64) (RT.rs (RT.int .i64)))).val a8 b5 (.slice pa0 pn0 pc0) a_.2 ([]) ∧ BoxV b5 a1 35 [(.int .i64 a_.1), (.slice pa0 pn0 pc0)] ∧ (RT.rs (RT.rs (RT.int .i64))).val a8 b5 (.slice c8 c9 d0) s64 ([]) ∧ (RT.rs (RT.rs (RT.int .i64))).val a8 b5 (.slice i5 i6 i7) s249.1 ([]) ∧ (RT.os 43 (RT.rs (RT.int .i64))).val a8 b5 (.slice l3 l4 l5) s249.2.1 n9) (J := fun s249 a b5 => ∃ (σ : Nat → Value) (g3 : Nat → Prop) (p6 : Option Addr) (p7 : Nat) (p8 : Nat) (p9 : Option Addr) (q0 : Nat) (q1 : Nat) (q2 : List Nat), a = fr 172 (ovl σ [(1, (.int .i64 k)), (3, (.pointer (some ⟨a1, 0, none⟩))), (8, (.slice p6 p7 p8)), (9, (.slice p9 q0 q1)), (10, (.int .i64 r9))]) ∧ Chg [] w b5 ∧ Own (Nw w []) g3 b5 (q2 ++ (([a1]) ++ [])) ∧ Keeps w M g3 ∧ (RT.rs (RT.pr (RT.int .i64) (RT.rs (RT.int .i64)))).val g3 b5 (.slice pa0 pn0 pc0) a_.2 ([]) ∧ BoxV b5 a1 35 [(.int .i64 a_.1), (.slice pa0 pn0 pc0)] ∧ (RT.rs (RT.rs (RT.int .i64))).val g3 b5 (.slice c8 c9 d0) s64 ([]) ∧ (RT.rs (RT.rs (RT.int .i64))).val g3 b5 (.slice p6 p7 p8) s249.1 ([]) ∧ (RT.os 43 (RT.rs (RT.int .i64))).val g3 b5 (.slice p9 q0 q1) s249.2.1 q2) (K := (k_spec_l8Close M w)) ?_ FU ([], [], 0) o253 _ _ ?_ J6 ?_
   ·rintro s249 o253 a b5 ⟨σ, a8, i5, i6, i7, l3, l4, l5, n9, rfl, hC, hO, hK, h0, a0, b1, d1, c2⟩ hs
    refine c_seq ?_
    refine c_sr ?_
    refine pl_val (.int .i64 s249.2.2) (y_move rfl) ?_
    refine pl_val (.slice c8 c9 d0) (y_move rfl) ?_
    refine pl_val (.int .i64 (s64.length : Int)) (y_len' Sl25 (rs_len b1) rfl) ?_
    refine pl_val (.bool (decide (s249.2.2 < (s64.length : Int)))) (y_lss rfl rfl) ?_
    refine c_nil ?_
    rcases bif_some hs with ⟨v3, hs⟩ | ⟨v3, hs⟩
    ·refine c_condT (congrArg Value.bool v3) ?_
     refine wp_skip ?_
     refine c_seq ?_
     refine wp_block ?_
     refine c_sr ?_
     refine pl_val (.slice i5 i6 i7) (y_move rfl) ?_
     refine pl_val (.slice c8 c9 d0) (y_move rfl) ?_
     refine pl_val (.int .i64 s249.2.2) (y_move rfl) ?_
     obtain ⟨x266, J7, hs⟩ := bind_some hs
     obtain ⟨J8, J9, K0, v4⟩ := rs_idx Sl25 Sz43 b1 J7
     refine pl_val (.pointer (some ⟨J8, J9, none⟩)) (K0 _ _ _ _ _ _ _ _ _ rfl rfl) ?_
     obtain ⟨Q9, K1, q3⟩ := at_load Ag43 Sz43 (fun _ => rfl) v4
     obtain ⟨K2, K3, K4, rfl⟩ := rs_sl q3
     refine pl_val (.slice K2 K3 K4) (y_load rfl (K1 _ (Chg.refl _ _))) ?_
     obtain ⟨r271, K5, hs⟩ := bind_some hs
     refine pl_call Bd46 rfl (c_spec_l8Find (M := a8) s249.1 x266 d1 q3 hO.fut K5) ?_
     rintro _ e6 ⟨rfl, e7⟩
     have h0 := h0.ext e7
     have a0 := a0.cn e7
     have b1 := b1.ext e7
     have d1 := d1.ext e7
     have c2 := c2.ext e7
     have q3 := q3.ext e7
     have v4 := at_ext v4 e7
     have hC := hC.ext e7
     have hO := hO.ext e7
     refine pl_val (.tuple #[(.int .i64 r271.1), (.bool r271.2)]) (y_move rfl) ?_
     refine pl_val (.int .i64 r271.1) (y_extract rfl (by kernel_rfl)) ?_
     refine pl_val (.bool r271.2) (y_extract rfl (by kernel_rfl)) ?_
     refine pl_val (.int .i64 r271.1) (y_assign rfl) ?_
     refine pl_val (.bool r271.2) (y_assign rfl) ?_
     refine c_nil ?_
     refine c_sr ?_
     refine pl_val (.bool r271.2) (y_move rfl) ?_
     refine pl_val (.bool (!r271.2)) (y_not rfl) ?_
     refine c_nil ?_
     rcases bif_some hs with ⟨v5, hs⟩ | ⟨v5, hs⟩
     ·refine c_condT (congrArg Value.bool v5) ?_
      refine c_sr ?_
      refine pl_val (.slice i5 i6 i7) (y_move rfl) ?_
      refine pl_val (.slice c8 c9 d0) (y_move rfl) ?_
      refine pl_val (.int .i64 s249.2.2) (y_move rfl) ?_
      obtain ⟨x273, K6, hs⟩ := bind_some hs
      obtain ⟨K7, K8, K9, v6⟩ := rs_idx Sl25 Sz43 b1 K6
      refine pl_val (.pointer (some ⟨K7, K8, none⟩)) (K9 _ _ _ _ _ _ _ _ _ rfl rfl) ?_
      obtain ⟨R0, L0, l6⟩ := at_load Ag43 Sz43 (fun _ => rfl) v6
      obtain ⟨L1, L2, L3, rfl⟩ := rs_sl l6
      refine pl_val (.slice L1 L2 L3) (y_load rfl (L0 _ (Chg.refl _ _))) ?_
      obtain ⟨r278, L4, hs⟩ := bind_some hs
      refine pl_call Bd71 rfl (c_spec_l8Put (M := a8) s249.1 x273 d1 l6 hO.fut L4) ?_
      rintro _ d2 ⟨C1, C2, C3, rfl, e8, o0⟩
      have hK := hK.trans (show Keeps w a8 (Past a8 e6 d2) from Keeps.past hC.size)
      have h0 := h0.ext e8
      have a0 := a0.cn e8
      have b1 := b1.ext e8
      have d1 := d1.ext e8
      have c2 := c2.ext e8
      have l6 := l6.ext e8
      have v6 := at_ext v6 e8
      have hC := hC.ext e8
      have hO := hO.past e8
      have h0 := h0.sub (M' := (Past a8 e6 d2)) (fun g hg => .inl hg.1)
      have b1 := b1.sub (M' := (Past a8 e6 d2)) (fun g hg => .inl hg.1)
      have d1 := d1.sub (M' := (Past a8 e6 d2)) (fun g hg => .inl hg.1)
      have c2 := c2.sub (M' := (Past a8 e6 d2)) (fun g hg => .inl hg.1)
      have l6 := l6.sub (M' := (Past a8 e6 d2)) (fun g hg => .inl hg.1)
      refine pl_val (.slice C1 C2 C3) (y_assign rfl) ?_
      refine c_nil ?_
      refine c_region ?_
      refine pl_val (.slice l3 l4 l5) (y_move rfl) ?_
      refine pl_val (.slice c8 c9 d0) (y_move rfl) ?_
      refine pl_val (.int .i64 s249.2.2) (y_move rfl) ?_
      obtain ⟨x280, L5, hs⟩ := bind_some hs
      obtain ⟨L6, L7, L8, v7⟩ := rs_idx Sl25 Sz43 b1 L5
      refine pl_val (.pointer (some ⟨L6, L7, none⟩)) (L8 _ _ _ _ _ _ _ _ _ rfl rfl) ?_
      obtain ⟨R1, L9, l7⟩ := at_load Ag43 Sz43 (fun _ => rfl) v7
      obtain ⟨v8, v9, w1, rfl⟩ := rs_sl l7
      refine pl_val (.slice v8 v9 w1) (y_load rfl (L9 _ (Chg.refl _ _))) ?_
      obtain ⟨C4, w2, M0, C5, e9, C6⟩ := new_block d2 [(.slice v8 v9 w1)] 43
      refine pl_val (w' := C4) (.slice (some ⟨w2, 0, none⟩) 1 1) (y_bslice rfl (by rw [M0, C5]; kernel_rfl)) ?_
      have h0 := h0.ext e9
      have a0 := a0.cn e9
      have b1 := b1.ext e9
      have c2 := c2.ext e9
      have o0 := o0.ext e9
      have l7 := l7.ext e9
      have v7 := at_ext v7 e9
      have hC := hC.ext e9
      have hO := hO.new1 e9 C5 C6.lt
      have w3 := os_of_box (r := (RT.rs (RT.int .i64))) (M := (Past a8 e6 d2)) (css := [[(.slice v8 v9 w1)]]) (fps := [([] : List Nat)]) (xs := ([x280] : List (List Int))) C6 ⟨(rs_unval l7), trivial⟩ (Nat.le_of_ble_eq_true rfl) (List.nodup_cons.2 ⟨(fun h => nomatch h), List.nodup_nil⟩)
      have w3 : (RT.os 43 (RT.rs (RT.int .i64))).val (Past a8 e6 d2) C4 (.slice (some ⟨w2, 0, none⟩) 1 1) [x280] [w2] := w3
      obtain ⟨y287, M1, hs⟩ := bind_some hs
      have hO := hO.fr1
      obtain ⟨w4, w5, w6, M2, M3, M4, i9, M5, w7⟩ := app_os Rw25 M1 c2 w3 hO.inM (fun g hg hq => hO.apart g hq (mem_l hg))
      have l8 := os_block c2
      refine pl_val (w' := M2) (.slice w4 w5 w6) (y_append rfl rfl (M4 _)) ?_
      have hO := hO.fr1
      have hO := hO.fr1
      have h0 := h0.mt i9 hO l8
      have a0 := a0.ap i9 hO l8 (mem_r (mem_l (List.mem_singleton.2 rfl)))
      have b1 := b1.mt i9 hO l8
      have o0 := o0.mt i9 hO l8
      have l7 := l7.mt i9 hO l8
      have hC := hC.st i9 hO l8
      have hO := hO.eat i9 M5 (os_nodup w7) w7.fpl
      refine pl_val (.slice w4 w5 w6) (y_assign rfl) ?_
      refine c_nil ?_
      refine c_region ?_
      refine pl_val (.int .i64 s249.2.2) (y_move rfl) ?_
      refine pl_val (.int .i64 (w64 (s249.2.2 + 1))) (y_add rfl rfl) ?_
      refine pl_val (.int .i64 (w64 (s249.2.2 + 1))) (y_assign rfl) ?_
      refine c_nil ?_
      cases hs
      have hO := hO.fr1
      have hO := hO.fr1
      exact ⟨_, (Past a8 e6 d2), C1, C2, C3, w4, w5, w6, M3, fr_ovl 172 ⟨rfl, rfl, rfl, rfl, rfl, rfl, rfl, trivial⟩, hC, hO, hK, h0, a0, b1, o0, w7⟩
     refine c_condF (congrArg Value.bool v5) ?_
     refine wp_skip ?_
     refine c_region ?_
     refine pl_val (.int .i64 s249.2.2) (y_move rfl) ?_
     refine pl_val (.int .i64 (w64 (s249.2.2 + 1))) (y_add rfl rfl) ?_
     refine pl_val (.int .i64 (w64 (s249.2.2 + 1))) (y_assign rfl) ?_
     refine c_nil ?_
     cases hs
     have hO := hO.fr1
     have hO := hO.fr1
     exact ⟨_, a8, i5, i6, i7, l3, l4, l5, n9, fr_ovl 172 ⟨rfl, rfl, rfl, rfl, rfl, rfl, rfl, trivial⟩, hC, hO, hK, h0, a0, b1, d1, c2⟩
    refine c_condF (congrArg Value.bool v3) ?_
    refine wp_exit ?_
    cases hs
    have hO := hO.fr1
    have hO := hO.fr1
    exact ⟨rfl, _, a8, i5, i6, i7, l3, l4, l5, n9, fr_ovl 172 ⟨rfl, rfl, rfl, rfl, rfl, trivial⟩, hC, hO, hK, h0, a0, b1, d1, c2⟩
   ·skip
    have hO := hO.fr1
    have hO := hO.fr1
    exact ⟨_, p5, (some ⟨a6, 0, none⟩), 0, 0, (some ⟨a7, 0, none⟩), 0, 0, J3, fr_ovl 172 ⟨rfl, rfl, rfl, rfl, rfl, rfl, rfl, trivial⟩, hC, hO, hK, h0, a0, b1, n8, v1⟩
   cases o253 with
   | nx _ => exact True.intro
   | rt r_ =>
    have hs := after_rt hs
    intro b8 k5 hK
    cases hs
    exact hK
   | br s249 =>
    have hs := after_br hs
    rintro b8 b5 ⟨σ, g3, p6, p7, p8, p9, q0, q1, q2, rfl, hC, hO, hK, h0, a0, b1, M6, M7⟩
    refine c_seq ?_
    refine c_sr ?_
    refine pl_val (.int .i64 0) (y_assign rfl) ?_
    refine c_nil ?_
    obtain ⟨o2570, M8, hs⟩ := bind_some hs
    refine wp_block ?_
    refine wp_iter (id := 6) (I := fun s2566 a b6 => ∃ (σ : Nat → Value) (g4 : Nat → Prop) (l9 : Option Addr) (m0 : Nat) (m1 : Nat) (g5 : Option Addr) (g6 : Nat) (g7 : Nat) (o1 : List Nat), a = fr 172 (ovl σ [(1, (.int .i64 k)), (3, (.pointer (some ⟨a1, 0, none⟩))), (8, (.slice l9 m0 m1)), (9, (.slice g5 g6 g7)), (10, (.int .i64 r9)), (17, (.int .i64 s2566.2.2))]) ∧ Chg [] w b6 ∧ Own (Nw w []) g4 b6 (o1 ++ (([a1]) ++ [])) ∧ Keeps w M g4 ∧ (RT.rs (RT.pr (RT.int .i64) (RT.rs (RT.int .i64)))).val g4 b6 (.slice pa0 pn0 pc0) a_.2 ([]) ∧ BoxV b6 a1 35 [(.int .i64 a_.1), (.slice pa0 pn0 pc0)] ∧ (RT.rs (RT.rs (RT.int .i64))).val g4 b6 (.slice l9 m0 m1) s2566.1 ([]) ∧ (RT.os 43 (RT.rs (RT.int .i64))).val g4 b6 (.slice g5 g6 g7) s2566.2.1 o1) (J := fun s2566 a b6 => ∃ (σ : Nat → Value) (m2 : Nat → Prop) (j0 : Option Addr) (j1 : Nat) (j2 : Nat) (C7 : Option Addr) (C8 : Nat) (C9 : Nat) (w8 : List Nat), a = fr 172 (ovl σ [(8, (.slice j0 j1 j2)), (10, (.int .i64 r9))]) ∧ Chg [] w b6 ∧ Own (Nw w []) m2 b6 (w8 ++ (([a1]) ++ [])) ∧ Keeps w M m2 ∧ (RT.rs (RT.pr (RT.int .i64) (RT.rs (RT.int .i64)))).val m2 b6 (.slice pa0 pn0 pc0) a_.2 ([]) ∧ BoxV b6 a1 35 [(.int .i64 a_.1), (.slice pa0 pn0 pc0)] ∧ (RT.rs (RT.rs (RT.int .i64))).val m2 b6 (.slice j0 j1 j2) s2566.1 ([]) ∧ (RT.os 43 (RT.rs (RT.int .i64))).val m2 b6 (.slice C7 C8 C9) s2566.2.1 w8) (K := (k_spec_l8Close M w)) ?_ FU (s249.1, s249.2.1, 0) o2570 _ _ ?_ M8 ?_
    ·rintro s2566 o2570 a b6 ⟨σ, g4, l9, m0, m1, g5, g6, g7, o1, rfl, hC, hO, hK, h0, a0, q4, m3⟩ hs
     refine c_seq ?_
     refine c_seq ?_
     refine c_mid (I := fun a D0 => ∃ (σ : Nat → Value), a = fr 172 (ovl σ [(1, (.int .i64 k)), (3, (.pointer (some ⟨a1, 0, none⟩))), (8, (.slice l9 m0 m1)), (9, (.slice g5 g6 g7)), (10, (.int .i64 r9)), (17, (.int .i64 s2566.2.2)), (104, (.bool ((decide (s2566.2.2 < (s2566.2.1.length : Int))) && (decide ((s2566.2.1.length : Int) ≤ r9)))))]) ∧ Chg [] b6 D0) ?_ ?_
     ·have hMid := Chg.refl [] b6
      refine c_region ?_
      refine pl_val (.int .i64 s2566.2.2) (y_move rfl) ?_
      refine pl_val (.slice g5 g6 g7) (y_move rfl) ?_
      refine pl_val (.int .i64 (s2566.2.1.length : Int)) (y_len' Sl25 (os_len m3) rfl) ?_
      refine pl_val (.bool (decide (s2566.2.2 < (s2566.2.1.length : Int)))) (y_lss rfl rfl) ?_
      refine pl_val (.bool (decide (s2566.2.2 < (s2566.2.1.length : Int)))) (y_move rfl) ?_
      rcases Bool.eq_false_or_eq_true ((decide (s2566.2.2 < (s2566.2.1.length : Int)))) with b9 | b9
      ·skip
       refine pl_yes (.slice g5 g6 g7) (tg := 99) (by kernel_rfl) (congrArg Value.bool b9) (y_move rfl) ?_
       refine pl_yes (.int .i64 (s2566.2.1.length : Int)) (tg := 99) (by kernel_rfl) (congrArg Value.bool b9) (y_len' Sl25 (os_len m3) rfl) ?_
       refine pl_yes (.int .i64 r9) (tg := 99) (by kernel_rfl) (congrArg Value.bool b9) (y_move rfl) ?_
       refine pl_yes (.bool (decide ((s2566.2.1.length : Int) ≤ r9))) (tg := 99) (by kernel_rfl) (congrArg Value.bool b9) (y_leq rfl rfl) ?_
       refine pl_val (.bool ((decide (s2566.2.2 < (s2566.2.1.length : Int))) && (decide ((s2566.2.1.length : Int) ≤ r9)))) (y_pick_t (congrArg Value.bool b9) (congrArg Value.bool (by rw [b9]; rfl))) ?_
       refine c_nil ?_
       exact ⟨_, fr_ovl 172 ⟨rfl, rfl, rfl, rfl, rfl, rfl, rfl, trivial⟩, hMid⟩
      refine pl_not (tg := 99) (by kernel_rfl) (congrArg Value.bool b9) ?_
      refine pl_not (tg := 99) (by kernel_rfl) (congrArg Value.bool b9) ?_
      refine pl_not (tg := 99) (by kernel_rfl) (congrArg Value.bool b9) ?_
      refine pl_not (tg := 99) (by kernel_rfl) (congrArg Value.bool b9) ?_
      refine pl_val (.bool ((decide (s2566.2.2 < (s2566.2.1.length : Int))) && (decide ((s2566.2.1.length : Int) ≤ r9)))) (y_pick_f (congrArg Value.bool b9) (congrArg Value.bool (by rw [b9]; rfl))) ?_
      refine c_nil ?_
      exact ⟨_, fr_ovl 172 ⟨rfl, rfl, rfl, rfl, rfl, rfl, rfl, trivial⟩, hMid⟩
     rintro b8 D0 ⟨σ, rfl, m4⟩
     have h0 := h0.ext m4
     have a0 := a0.cn m4
     have q4 := q4.ext m4
     have m3 := m3.ext m4
     have hC := hC.ext m4
     have hO := hO.ext m4
     rcases bif_some hs with ⟨w9, hs⟩ | ⟨w9, hs⟩
     ·refine c_condT (congrArg Value.bool w9) ?_
      refine wp_skip ?_
      refine c_seq ?_
      refine wp_block ?_
      refine c_sr ?_
      refine pl_val (.int .i64 0) (y_assign rfl) ?_
      refine c_nil ?_
      obtain ⟨o3336, M9, hs⟩ := bind_some hs
      refine wp_block ?_
      refine wp_forC (id := 8) (a_.2.length : Int) (I := fun k3334 s3332 a b4 => ∃ (σ : Nat → Value) (d3 : Nat → Prop) (m5 : Option Addr) (m6 : Nat) (m7 : Nat) (m8 : Option Addr) (m9 : Nat) (n0 : Nat) (n1 : List Nat), a = fr 172 (ovl σ [(1, (.int .i64 k)), (3, (.pointer (some ⟨a1, 0, none⟩))), (8, (.slice m5 m6 m7)), (9, (.slice m8 m9 n0)), (10, (.int .i64 r9)), (17, (.int .i64 s2566.2.2)), (18, (.int .i64 k3334))]) ∧ Chg [] w b4 ∧ Own (Nw w []) d3 b4 (n1 ++ (([a1]) ++ [])) ∧ Keeps w M d3 ∧ (RT.rs (RT.pr (RT.int .i64) (RT.rs (RT.int .i64)))).val d3 b4 (.slice pa0 pn0 pc0) a_.2 ([]) ∧ BoxV b4 a1 35 [(.int .i64 a_.1), (.slice pa0 pn0 pc0)] ∧ (RT.rs (RT.rs (RT.int .i64))).val d3 b4 (.slice m5 m6 m7) s3332.1 ([]) ∧ (RT.os 43 (RT.rs (RT.int .i64))).val d3 b4 (.slice m8 m9 n0) s3332.2 n1) (J := fun s3332 a b4 => ∃ (σ : Nat → Value) (j3 : Nat → Prop) (q5 : Option Addr) (q6 : Nat) (q7 : Nat) (q8 : Option Addr) (q9 : Nat) (r0 : Nat) (r1 : List Nat), a = fr 172 (ovl σ [(1, (.int .i64 k)), (3, (.pointer (some ⟨a1, 0, none⟩))), (8, (.slice q5 q6 q7)), (9, (.slice q8 q9 r0)), (10, (.int .i64 r9)), (17, (.int .i64 s2566.2.2))]) ∧ Chg [] w b4 ∧ Own (Nw w []) j3 b4 (r1 ++ (([a1]) ++ [])) ∧ Keeps w M j3 ∧ (RT.rs (RT.pr (RT.int .i64) (RT.rs (RT.int .i64)))).val j3 b4 (.slice pa0 pn0 pc0) a_.2 ([]) ∧ BoxV b4 a1 35 [(.int .i64 a_.1), (.slice pa0 pn0 pc0)] ∧ (RT.rs (RT.rs (RT.int .i64))).val j3 b4 (.slice q5 q6 q7) s3332.1 ([]) ∧ (RT.os 43 (RT.rs (RT.int .i64))).val j3 b4 (.slice q8 q9 r0) s3332.2 r1) (K := (k_spec_l8Close M w)) ?_ ?_ 0 (s2566.1, s2566.2.1) o3336 _ _ ?_ M9 ?_
      ·rintro k3334 s3332 a b4 ⟨σ, d3, m5, m6, m7, m8, m9, n0, n1, rfl, hC, hO, hK, h0, a0, j4, j5⟩ hlt
       refine c_seq ?_
       refine c_sr ?_
       refine pl_val (.int .i64 k3334) (y_move rfl) ?_
       refine pl_val (.pointer (some ⟨a1, 1, none⟩)) (y_faddr rfl Fa35x1) ?_
       refine pl_val (.slice pa0 pn0 pc0) (y_load rfl ((box_load Ag33 Sz33 a0 [(.int .i64 a_.1)] [(.slice pa0 pn0 pc0)] [] rfl rfl (fun _ => rfl)) _ (Chg.refl _ _))) ?_
       refine pl_val (.int .i64 (a_.2.length : Int)) (y_len' Sl33 (rs_len h0) rfl) ?_
       refine pl_val (.bool (decide (k3334 < (a_.2.length : Int)))) (y_lss rfl rfl) ?_
       refine c_nil ?_
       refine c_condF (congrArg Value.bool (decide_eq_false hlt)) ?_
       refine wp_exit ?_
       have hO := hO.fr1
       have hO := hO.fr1
       exact ⟨rfl, _, d3, m5, m6, m7, m8, m9, n0, n1, fr_ovl 172 ⟨rfl, rfl, rfl, rfl, rfl, rfl, trivial⟩, hC, hO, hK, h0, a0, j4, j5⟩
      ·rintro k3334 s3332 o3336 a b4 ⟨σ, d3, m5, m6, m7, m8, m9, n0, n1, rfl, hC, hO, hK, h0, a0, j4, j5⟩ hlt hw hs
       refine c_seq ?_
       refine c_sr ?_
       refine pl_val (.int .i64 k3334) (y_move rfl) ?_
       refine pl_val (.pointer (some ⟨a1, 1, none⟩)) (y_faddr rfl Fa35x1) ?_
       refine pl_val (.slice pa0 pn0 pc0) (y_load rfl ((box_load Ag33 Sz33 a0 [(.int .i64 a_.1)] [(.slice pa0 pn0 pc0)] [] rfl rfl (fun _ => rfl)) _ (Chg.refl _ _))) ?_
       refine pl_val (.int .i64 (a_.2.length : Int)) (y_len' Sl33 (rs_len h0) rfl) ?_
       refine pl_val (.bool (decide (k3334 < (a_.2.length : Int)))) (y_lss rfl rfl) ?_
       refine c_nil ?_
       refine c_condT (congrArg Value.bool (decide_eq_true hlt)) ?_
       refine wp_skip ?_
       refine c_seq ?_
       refine wp_block ?_
       refine c_seq ?_
       refine x_start [] Mx rfl ?_
       have j6 := Chg.drew b4
       generalize World.drew b4 = D1 at j6 ⊢
       have h0 := h0.ext j6
       have a0 := a0.cn j6
       have j4 := j4.ext j6
       have j5 := j5.ext j6
       have hC := hC.ext j6
       have hO := hO.ext j6
       have hS := Chg.refl [] D1
       refine x_p 0 (.pointer (some ⟨a1, 1, none⟩)) rfl (by kernel_rfl)  (fun _ => y_faddr rfl Fa35x1) (fun _ => hS) ?_
       refine x_l 1 (.slice pa0 pn0 pc0) rfl (by kernel_rfl)  (fun w' hw' => y_load rfl ((box_load Ag33 Sz33 a0 [(.int .i64 a_.1)] [(.slice pa0 pn0 pc0)] [] rfl rfl (fun _ => rfl)) w' hw')) hS ?_
       refine x_p 2 (.int .i64 k3334) rfl (by kernel_rfl)  (fun _ => y_move rfl) (fun _ => hS) ?_
       obtain ⟨x3359, N0, hs⟩ := bind_some hs
       obtain ⟨D2, D3, N1, x0⟩ := rs_idx Sl33 Sz89 h0 N0
       refine x_p 3 (.pointer (some ⟨D2, D3, none⟩)) rfl (by kernel_rfl)  (fun _ => N1 _ _ _ _ _ _ _ _ _ rfl rfl) (fun _ => hS) ?_
       obtain ⟨x1, _⟩ := pr_at x0
       refine x_p 4 (.pointer (some ⟨D2, D3 + 0, none⟩)) rfl (by kernel_rfl)  (fun _ => y_faddr rfl Fa89x0) (fun _ => hS) ?_
       refine x_l 5 (.int .i64 x3359.1) rfl (by kernel_rfl)  (fun w' hw' => y_load rfl ((at_load_int Ag3 Sz3 x1) w' hw')) hS ?_
       refine x_p 7 (.pointer (some ⟨a1, 1, none⟩)) rfl (by kernel_rfl)  (fun _ => y_faddr rfl Fa35x1) (fun _ => hS) ?_
       refine x_l 8 (.slice pa0 pn0 pc0) rfl (by kernel_rfl)  (fun w' hw' => y_load rfl ((box_load Ag33 Sz33 a0 [(.int .i64 a_.1)] [(.slice pa0 pn0 pc0)] [] rfl rfl (fun _ => rfl)) w' hw')) hS ?_
       refine x_p 9 (.int .i64 k3334) rfl (by kernel_rfl)  (fun _ => y_move rfl) (fun _ => hS) ?_
       obtain ⟨x3362, N2, hs⟩ := bind_some hs
       obtain ⟨D4, D5, N3, x2⟩ := rs_idx Sl33 Sz89 h0 N2
       refine x_p 10 (.pointer (some ⟨D4, D5, none⟩)) rfl (by kernel_rfl)  (fun _ => N3 _ _ _ _ _ _ _ _ _ rfl rfl) (fun _ => hS) ?_
       obtain ⟨x3, _⟩ := pr_at x2
       refine x_p 11 (.pointer (some ⟨D4, D5 + 0, none⟩)) rfl (by kernel_rfl)  (fun _ => y_faddr rfl Fa89x0) (fun _ => hS) ?_
       refine x_l 12 (.int .i64 x3362.1) rfl (by kernel_rfl)  (fun w' hw' => y_load rfl ((at_load_int Ag3 Sz3 x3) w' hw')) hS ?_
       refine x_p 13 (.bool (decide (0 < x3362.1))) rfl (by kernel_rfl)  (fun _ => y_gtr rfl rfl) (fun _ => hS) ?_
       refine x_one (i := 6) (by kernel_rfl) ?_
       obtain ⟨y3366, N4, hs⟩ := bind_some hs
       obtain ⟨x4, x5, x6, N5, N6, N7, c3, N8, x7⟩ := mk_os (M := d3) (w := D1) (r := (RT.int .i64)) Rw43 N4 (fun _ _ => ⟨rfl, rfl⟩)
       refine xk_val (w' := N5) (b := false) (.slice x4 x5 x6) rfl  (y_make rfl rfl N7) rfl (fun _ => hS.ext c3) ?_
       have h0 := h0.ext c3
       have a0 := a0.cn c3
       have j4 := j4.ext c3
       have j5 := j5.ext c3
       have x0 := at_ext x0 c3
       have x1 := at_ext x1 c3
       have x2 := at_ext x2 c3
       have x3 := at_ext x3 c3
       have hC := hC.ext c3
       have hO := hO.new c3 N8 (os_nodup x7) x7.fpl
       have hS := hS.ext c3
       refine x_p 14 (.slice x4 x5 x6) rfl (by kernel_rfl)  (fun _ => y_assign rfl) (fun _ => hS) ?_
       refine x_p 15 (.bool (decide (0 < x3362.1))) rfl (by kernel_rfl)  (fun _ => y_assign rfl) (fun _ => hS) ?_
       refine x_end (by kernel_rfl) ?_
       clear hS
       obtain ⟨o3595, N9, hs⟩ := bind_some hs
       refine wp_block ?_
       refine wp_iter (id := 10) (I := fun s3591 a b3 => ∃ (σ : Nat → Value) (f0 : Nat → Prop) (f1 : Option Addr) (f2 : Nat) (f3 : Nat) (d4 : Option Addr) (d5 : Nat) (d6 : Nat) (j7 : List Nat) (d7 : Option Addr) (d8 : Nat) (d9 : Nat) (o2 : List Nat), a = fr 172 (ovl σ [(1, (.int .i64 k)), (3, (.pointer (some ⟨a1, 0, none⟩))), (8, (.slice f1 f2 f3)), (9, (.slice d4 d5 d6)), (10, (.int .i64 r9)), (17, (.int .i64 s2566.2.2)), (18, (.int .i64 k3334)), (19, (.slice d7 d8 d9)), (20, (.bool s3591.2.2.2))]) ∧ Chg [] w b3 ∧ Own (Nw w []) f0 b3 (j7 ++ (o2 ++ (([a1]) ++ []))) ∧ Keeps w M f0 ∧ (RT.rs (RT.pr (RT.int .i64) (RT.rs (RT.int .i64)))).val f0 b3 (.slice pa0 pn0 pc0) a_.2 ([]) ∧ BoxV b3 a1 35 [(.int .i64 a_.1), (.slice pa0 pn0 pc0)] ∧ (RT.rs (RT.rs (RT.int .i64))).val f0 b3 (.slice f1 f2 f3) s3591.1 ([]) ∧ (RT.os 43 (RT.rs (RT.int .i64))).val f0 b3 (.slice d4 d5 d6) s3591.2.1 j7 ∧ (RT.os 3 (RT.int .i64)).val f0 b3 (.slice d7 d8 d9) s3591.2.2.1 o2) (J := fun s3591 a b3 => ∃ (σ : Nat → Value) (g8 : Nat → Prop) (r2 : Option Addr) (r3 : Nat) (r4 : Nat) (r5 : Option Addr) (r6 : Nat) (r7 : Nat) (r8 : List Nat) (D6 : Option Addr) (D7 : Nat) (D8 : Nat) (x8 : List Nat), a = fr 172 (ovl σ [(1, (.int .i64 k)), (3, (.pointer (some ⟨a1, 0, none⟩))), (8, (.slice r2 r3 r4)), (9, (.slice r5 r6 r7)), (10, (.int .i64 r9)), (17, (.int .i64 s2566.2.2)), (18, (.int .i64 k3334))]) ∧ Chg [] w b3 ∧ Own (Nw w []) g8 b3 (r8 ++ (x8 ++ (([a1]) ++ []))) ∧ Keeps w M g8 ∧ (RT.rs (RT.pr (RT.int .i64) (RT.rs (RT.int .i64)))).val g8 b3 (.slice pa0 pn0 pc0) a_.2 ([]) ∧ BoxV b3 a1 35 [(.int .i64 a_.1), (.slice pa0 pn0 pc0)] ∧ (RT.rs (RT.rs (RT.int .i64))).val g8 b3 (.slice r2 r3 r4) s3591.1 ([]) ∧ (RT.os 43 (RT.rs (RT.int .i64))).val g8 b3 (.slice r5 r6 r7) s3591.2.1 r8 ∧ (RT.os 3 (RT.int .i64)).val g8 b3 (.slice D6 D7 D8) s3591.2.2.1 x8) (K := (k_spec_l8Close M w)) ?_ FU (s3332.1, s3332.2, y3366, (decide (0 < x3362.1))) o3595 _ _ ?_ N9 ?_
       ·rintro s3591 o3595 a b3 ⟨σ, f0, f1, f2, f3, d4, d5, d6, j7, d7, d8, d9, o2, rfl, hC, hO, hK, h0, a0, a5, a4, e0⟩ hs
        refine c_seq ?_
        refine c_seq ?_
        refine c_mid (I := fun a D9 => ∃ (σ : Nat → Value), a = fr 172 (ovl σ [(1, (.int .i64 k)), (3, (.pointer (some ⟨a1, 0, none⟩))), (8, (.slice f1 f2 f3)), (9, (.slice d4 d5 d6)), (10, (.int .i64 r9)), (17, (.int .i64 s2566.2.2)), (18, (.int .i64 k3334)), (19, (.slice d7 d8 d9)), (20, (.bool s3591.2.2.2)), (134, (.bool (s3591.2.2.2 && (decide ((s3591.2.1.length : Int) ≤ r9)))))]) ∧ Chg [] b3 D9) ?_ ?_
        ·have hMid := Chg.refl [] b3
         refine c_region ?_
         refine pl_val (.bool s3591.2.2.2) (y_move rfl) ?_
         refine pl_val (.bool s3591.2.2.2) (y_move rfl) ?_
         rcases Bool.eq_false_or_eq_true (s3591.2.2.2) with c0 | c0
         ·skip
          refine pl_yes (.slice d4 d5 d6) (tg := 129) (by kernel_rfl) (congrArg Value.bool c0) (y_move rfl) ?_
          refine pl_yes (.int .i64 (s3591.2.1.length : Int)) (tg := 129) (by kernel_rfl) (congrArg Value.bool c0) (y_len' Sl25 (os_len a4) rfl) ?_
          refine pl_yes (.int .i64 r9) (tg := 129) (by kernel_rfl) (congrArg Value.bool c0) (y_move rfl) ?_
          refine pl_yes (.bool (decide ((s3591.2.1.length : Int) ≤ r9))) (tg := 129) (by kernel_rfl) (congrArg Value.bool c0) (y_leq rfl rfl) ?_
          refine pl_val (.bool (s3591.2.2.2 && (decide ((s3591.2.1.length : Int) ≤ r9)))) (y_pick_t (congrArg Value.bool c0) (congrArg Value.bool (by rw [c0]; rfl))) ?_
          refine c_nil ?_
          exact ⟨_, fr_ovl 172 ⟨rfl, rfl, rfl, rfl, rfl, rfl, rfl, rfl, rfl, rfl, trivial⟩, hMid⟩
         refine pl_not (tg := 129) (by kernel_rfl) (congrArg Value.bool c0) ?_
         refine pl_not (tg := 129) (by kernel_rfl) (congrArg Value.bool c0) ?_
         refine pl_not (tg := 129) (by kernel_rfl) (congrArg Value.bool c0) ?_
         refine pl_not (tg := 129) (by kernel_rfl) (congrArg Value.bool c0) ?_
         refine pl_val (.bool (s3591.2.2.2 && (decide ((s3591.2.1.length : Int) ≤ r9)))) (y_pick_f (congrArg Value.bool c0) (congrArg Value.bool (by rw [c0]; rfl))) ?_
         refine c_nil ?_
         exact ⟨_, fr_ovl 172 ⟨rfl, rfl, rfl, rfl, rfl, rfl, rfl, rfl, rfl, rfl, trivial⟩, hMid⟩
        rintro b8 D9 ⟨σ, rfl, j8⟩
        have h0 := h0.ext j8
        have a0 := a0.cn j8
        have a5 := a5.ext j8
        have a4 := a4.ext j8
        have e0 := e0.ext j8
        have hC := hC.ext j8
        have hO := hO.ext j8
        rcases bif_some hs with ⟨x9, hs⟩ | ⟨x9, hs⟩
        ·refine c_condT (congrArg Value.bool x9) ?_
         refine wp_skip ?_
         refine wp_block ?_
         refine c_seq ?_
         refine c_sr ?_
         refine pl_val (.slice d7 d8 d9) (y_move rfl) ?_
         refine pl_val (.int .i64 s2566.2.2) (y_move rfl) ?_
         have hO := hO.fr1
         obtain ⟨r3617, O0, hs⟩ := bind_some hs
         refine pl_call Bd72 rfl (c_spec_l1Has (M := (Less f0 o2)) s3591.2.2.1 s2566.2.2 (((Frz.os Frz.int)).val e0 Less.sub Less.not) hO.less.fut O0) ?_
         rintro _ E0 ⟨rfl, j9⟩
         have h0 := h0.ext j9
         have a0 := a0.cn j9
         have a5 := a5.ext j9
         have a4 := a4.ext j9
         have e0 := e0.ext j9
         have hC := hC.ext j9
         have hO := hO.ext j9
         refine c_nil ?_
         obtain ⟨s3674, O1, hs⟩ := bind_some hs
         refine c_mid (I := fun a g9 => ∃ (σ : Nat → Value) (f4 : Nat → Prop) (s0 : Option Addr) (s1 : Nat) (s2 : Nat) (s3 : Option Addr) (s4 : Nat) (s5 : Nat) (o3 : List Nat), a = fr 172 (ovl σ [(1, (.int .i64 k)), (3, (.pointer (some ⟨a1, 0, none⟩))), (8, (.slice s0 s1 s2)), (9, (.slice s3 s4 s5)), (10, (.int .i64 r9)), (17, (.int .i64 s2566.2.2)), (18, (.int .i64 k3334)), (19, (.slice d7 d8 d9)), (20, (.bool s3591.2.2.2))]) ∧ Chg [] w g9 ∧ Own (Nw w []) f4 g9 (o3 ++ (([a1]) ++ [])) ∧ Keeps w M f4 ∧ (RT.rs (RT.pr (RT.int .i64) (RT.rs (RT.int .i64)))).val f4 g9 (.slice pa0 pn0 pc0) a_.2 ([]) ∧ BoxV g9 a1 35 [(.int .i64 a_.1), (.slice pa0 pn0 pc0)] ∧ (RT.rs (RT.int .i64)).val f4 g9 (.slice d7 d8 d9) s3674.2.2 ([]) ∧ (RT.rs (RT.rs (RT.int .i64))).val f4 g9 (.slice s0 s1 s2) s3674.1 ([]) ∧ (RT.os 43 (RT.rs (RT.int .i64))).val f4 g9 (.slice s3 s4 s5) s3674.2.1 o3) ?_ ?_
         ·replace hs := O1
          rcases bif_some hs with ⟨y0, hs⟩ | ⟨y0, hs⟩
          ·refine c_condT (congrArg Value.bool y0) ?_
           refine c_seq ?_
           refine x_start [] Mx rfl ?_
           have h2 := Chg.drew E0
           generalize World.drew E0 = f5 at h2 ⊢
           have h0 := h0.ext h2
           have a0 := a0.cn h2
           have a5 := a5.ext h2
           have a4 := a4.ext h2
           have e0 := e0.ext h2
           have hC := hC.ext h2
           have hO := hO.ext h2
           have hS := Chg.refl [] f5
           refine x_l 0 (.agg #[(.int .i64 a_.1), (.slice pa0 pn0 pc0)]) rfl (by kernel_rfl)  (fun w' hw' => y_load rfl ((box_load Ag35 Sz35 a0 [] [(.int .i64 a_.1), (.slice pa0 pn0 pc0)] [] rfl rfl (fun h => nomatch h)) w' hw')) hS ?_
           refine x_p 1 (.int .i64 k3334) rfl (by kernel_rfl)  (fun _ => y_move rfl) (fun _ => hS) ?_
           refine x_p 2 (.slice d4 d5 d6) rfl (by kernel_rfl)  (fun _ => y_move rfl) (fun _ => hS) ?_
           refine x_p 3 (.slice d7 d8 d9) rfl (by kernel_rfl)  (fun _ => y_move rfl) (fun _ => hS) ?_
           refine x_p 5 (.int .i64 k) rfl (by kernel_rfl)  (fun _ => y_move rfl) (fun _ => hS) ?_
           refine x_one (i := 4) (by kernel_rfl) ?_
           obtain ⟨c1, R2, y1, O2, hO, a9⟩ := frz_own (Frz.os Frz.int) e0 hO
           have h0 := h0.sub (M' := c1) y1
           have a5 := a5.sub (M' := c1) y1
           have a4 := a4.sub (M' := c1) y1
           have hK := hK.trans O2
           obtain ⟨r3695, O3, hs⟩ := bind_some hs
           refine xk_call (b := false) rfl  Bd73 rfl (c_spec_l8Choose__sh (M := c1) s3591.2.1 s3591.2.2.1 a4 a9 hO.fut O3) rfl (by rintro _ _ _ ⟨O4, O5, O6, rfl, e1, n2⟩; exact hS.ext e1) ?_
           rintro _ h3 ⟨O4, O5, O6, rfl, e1, n2⟩
           have hK := hK.trans (show Keeps w c1 (Past c1 f5 h3) from Keeps.past hC.size)
           have h0 := h0.ext e1
           have a0 := a0.cn e1
           have a5 := a5.ext e1
           have a4 := a4.ext e1
           have a9 := a9.ext e1
           have hC := hC.ext e1
           have hO := hO.past e1
           have h0 := h0.sub (M' := (Past c1 f5 h3)) (fun g hg => .inl hg.1)
           have a5 := a5.sub (M' := (Past c1 f5 h3)) (fun g hg => .inl hg.1)
           have a4 := a4.sub (M' := (Past c1 f5 h3)) (fun g hg => .inl hg.1)
           have a9 := a9.sub (M' := (Past c1 f5 h3)) (fun g hg => .inl hg.1)
           have hS := hS.ext e1
           refine x_one (i := 6) (by kernel_rfl) ?_
           obtain ⟨r3698, O7, hs⟩ := bind_some hs
           refine xk_call (b := false) rfl  Bd70 rfl (c_spec_l8Apply (M := (Past c1 f5 h3)) (a_.1, a_.2) k3334 r3695 k h0 n2 hO.fut O7) rfl (by rintro _ _ _ ⟨k0, k1, k2, y2, rfl, c6, o4, E1⟩; exact hS.ext c6) ?_
           rintro _ R3 ⟨k0, k1, k2, y2, rfl, c6, o4, E1⟩
           have h0 := h0.ext c6
           have a0 := a0.cn c6
           have a5 := a5.ext c6
           have a4 := a4.ext c6
           have a9 := a9.ext c6
           have n2 := n2.ext c6
           have hC := hC.ext c6
           have hO := Own.join0 hO c6 E1
           have hO := hO.perm (R := y2 ++ (j7 ++ (([a1]) ++ ([])))) (by simp)
           have hS := hS.ext c6
           refine x_p 7 (.slice k0 k1 k2) rfl (by kernel_rfl)  (fun _ => y_assign rfl) (fun _ => hS) ?_
           refine x_end (by kernel_rfl) ?_
           clear hS
           refine c_sr ?_
           refine pl_val (.slice f1 f2 f3) (y_move rfl) ?_
           refine pl_val (.slice k0 k1 k2) (y_move rfl) ?_
           obtain ⟨r3701, O8, hs⟩ := bind_some hs
           refine pl_call Bd46 rfl (c_spec_l8Find (M := (Less (Past c1 f5 h3) y2)) s3591.1 r3698 (a5.sub Less.sub) (((Frz.os Frz.int)).val o4 Less.sub Less.not) hO.less.fut O8) ?_
           rintro _ f6 ⟨rfl, f7⟩
           have h0 := h0.ext f7
           have a0 := a0.cn f7
           have a5 := a5.ext f7
           have a4 := a4.ext f7
           have a9 := a9.ext f7
           have n2 := n2.ext f7
           have o4 := o4.ext f7
           have hC := hC.ext f7
           have hO := hO.ext f7
           refine pl_val (.tuple #[(.int .i64 r3701.1), (.bool r3701.2)]) (y_move rfl) ?_
           refine pl_val (.int .i64 r3701.1) (y_extract rfl (by kernel_rfl)) ?_
           refine pl_val (.bool r3701.2) (y_extract rfl (by kernel_rfl)) ?_
           refine pl_val (.int .i64 r3701.1) (y_assign rfl) ?_
           refine pl_val (.bool r3701.2) (y_assign rfl) ?_
           refine c_nil ?_
           refine c_sr ?_
           refine pl_val (.bool r3701.2) (y_move rfl) ?_
           refine pl_val (.bool (!r3701.2)) (y_not rfl) ?_
           refine c_nil ?_
           rcases bif_some hs with ⟨y3, hs⟩ | ⟨y3, hs⟩
           ·refine c_condT (congrArg Value.bool y3) ?_
            refine c_sr ?_
            refine pl_val (.slice f1 f2 f3) (y_move rfl) ?_
            refine pl_val (.slice k0 k1 k2) (y_move rfl) ?_
            obtain ⟨b7, R4, s6, O9, hO, e2⟩ := frz_own (Frz.os Frz.int) o4 hO
            have h0 := h0.sub (M' := b7) s6
            have a5 := a5.sub (M' := b7) s6
            have a4 := a4.sub (M' := b7) s6
            have a9 := a9.sub (M' := b7) s6
            have hK := hK.trans O9
            obtain ⟨r3705, P0, hs⟩ := bind_some hs
            refine pl_call Bd71 rfl (c_spec_l8Put (M := b7) s3591.1 r3698 a5 e2 hO.fut P0) ?_
            rintro _ e3 ⟨E2, E3, E4, rfl, h4, o5⟩
            have hK := hK.trans (show Keeps w b7 (Past b7 f6 e3) from Keeps.past hC.size)
            have h0 := h0.ext h4
            have a0 := a0.cn h4
            have a5 := a5.ext h4
            have a4 := a4.ext h4
            have a9 := a9.ext h4
            have e2 := e2.ext h4
            have hC := hC.ext h4
            have hO := hO.past h4
            have h0 := h0.sub (M' := (Past b7 f6 e3)) (fun g hg => .inl hg.1)
            have a5 := a5.sub (M' := (Past b7 f6 e3)) (fun g hg => .inl hg.1)
            have a4 := a4.sub (M' := (Past b7 f6 e3)) (fun g hg => .inl hg.1)
            have a9 := a9.sub (M' := (Past b7 f6 e3)) (fun g hg => .inl hg.1)
            have e2 := e2.sub (M' := (Past b7 f6 e3)) (fun g hg => .inl hg.1)
            refine pl_val (.slice E2 E3 E4) (y_assign rfl) ?_
            refine c_nil ?_
            refine c_region ?_
            refine pl_val (.slice d4 d5 d6) (y_move rfl) ?_
            refine pl_val (.slice k0 k1 k2) (y_move rfl) ?_
            obtain ⟨E5, y4, P1, E6, h5, E7⟩ := new_block e3 [(.slice k0 k1 k2)] 43
            refine pl_val (w' := E5) (.slice (some ⟨y4, 0, none⟩) 1 1) (y_bslice rfl (by rw [P1, E6]; kernel_rfl)) ?_
            have h0 := h0.ext h5
            have a0 := a0.cn h5
            have a4 := a4.ext h5
            have a9 := a9.ext h5
            have e2 := e2.ext h5
            have o5 := o5.ext h5
            have hC := hC.ext h5
            have hO := hO.new1 h5 E6 E7.lt
            have y5 := os_of_box (r := (RT.rs (RT.int .i64))) (M := (Past b7 f6 e3)) (css := [[(.slice k0 k1 k2)]]) (fps := [([] : List Nat)]) (xs := ([r3698] : List (List Int))) E7 ⟨(rs_unval e2), trivial⟩ (Nat.le_of_ble_eq_true rfl) (List.nodup_cons.2 ⟨(fun h => nomatch h), List.nodup_nil⟩)
            have y5 : (RT.os 43 (RT.rs (RT.int .i64))).val (Past b7 f6 e3) E5 (.slice (some ⟨y4, 0, none⟩) 1 1) [r3698] [y4] := y5
            obtain ⟨y3710, P2, hs⟩ := bind_some hs
            have hO := hO.fr1
            obtain ⟨y6, y7, y8, P3, P4, P5, k3, P6, y9⟩ := app_os Rw25 P2 a4 y5 hO.inM (fun g hg hq => hO.apart g hq (mem_l hg))
            have n3 := os_block a4
            refine pl_val (w' := P3) (.slice y6 y7 y8) (y_append rfl rfl (P5 _)) ?_
            have hO := hO.fr1
            have hO := hO.fr1
            have h0 := h0.mt k3 hO n3
            have a0 := a0.ap k3 hO n3 (mem_r (mem_l (List.mem_singleton.2 rfl)))
            have a9 := a9.mt k3 hO n3
            have e2 := e2.mt k3 hO n3
            have o5 := o5.mt k3 hO n3
            have hC := hC.st k3 hO n3
            have hO := hO.eat k3 P6 (os_nodup y9) y9.fpl
            refine pl_val (.slice y6 y7 y8) (y_assign rfl) ?_
            refine c_nil ?_
            cases hs
            have hO := hO.fr1
            have hO := hO.fr1
            exact ⟨_, (Past b7 f6 e3), E2, E3, E4, y6, y7, y8, P4, fr_ovl 172 ⟨rfl, rfl, rfl, rfl, rfl, rfl, rfl, rfl, rfl, trivial⟩, hC, hO, hK, h0, a0, a9, o5, y9⟩
           refine c_condF (congrArg Value.bool y3) ?_
           refine wp_skip ?_
           cases hs
           have hO := hO.drop
           have hO := hO.fr1
           have hO := hO.fr1
           exact ⟨_, (Past c1 f5 h3), f1, f2, f3, d4, d5, d6, j7, fr_ovl 172 ⟨rfl, rfl, rfl, rfl, rfl, rfl, rfl, rfl, rfl, trivial⟩, hC, hO, hK, h0, a0, a9, a5, a4⟩
          refine c_condF (congrArg Value.bool y0) ?_
          refine wp_skip ?_
          cases hs
          obtain ⟨s7, R5, z0, P7, hO, P8⟩ := frz_own (Frz.os Frz.int) e0 hO
          have h0 := h0.sub (M' := s7) z0
          have a5 := a5.sub (M' := s7) z0
          have a4 := a4.sub (M' := s7) z0
          have hK := hK.trans P7
          have hO := hO.fr1
          have hO := hO.fr1
          exact ⟨_, s7, f1, f2, f3, d4, d5, d6, j7, fr_ovl 172 ⟨rfl, rfl, rfl, rfl, rfl, rfl, rfl, rfl, rfl, trivial⟩, hC, hO, hK, h0, a0, P8, a5, a4⟩
         rintro b8 g9 ⟨σ, f4, s0, s1, s2, s3, s4, s5, o3, rfl, hC, hO, hK, h0, a0, z1, z2, z3⟩
         refine c_region ?_
         refine pl_val (.slice d7 d8 d9) (y_move rfl) ?_
         refine pl_val (.int .i64 s2566.2.2) (y_move rfl) ?_
         refine pl_val (.int .i64 (w64 (s2566.2.2 + 1))) (y_add rfl rfl) ?_
         obtain ⟨r3714, P9, hs⟩ := bind_some hs
         refine pl_call Bd74 rfl (c_spec_l8Next (M := f4) s3674.2.2 (w64 (s2566.2.2 + 1)) z1 hO.fut P9) ?_
         rintro _ R6 ⟨s8, s9, t0, E8, rfl, k4, Q0, Q1⟩
         have h0 := h0.ext k4
         have a0 := a0.cn k4
         have z1 := z1.ext k4
         have z2 := z2.ext k4
         have z3 := z3.ext k4
         have hC := hC.ext k4
         have hO := Own.join0 hO k4 Q1
         have hO := hO.perm (R := E8 ++ (o3 ++ (([a1]) ++ ([])))) (by simp)
         refine pl_val (.tuple #[(.slice s8 s9 t0), (.bool r3714.2)]) (y_move rfl) ?_
         refine pl_val (.slice s8 s9 t0) (y_extract rfl (by kernel_rfl)) ?_
         refine pl_val (.bool r3714.2) (y_extract rfl (by kernel_rfl)) ?_
         refine pl_val (.slice s8 s9 t0) (y_assign rfl) ?_
         refine pl_val (.bool r3714.2) (y_assign rfl) ?_
         refine c_nil ?_
         cases hs
         have hO := hO.fr2
         have hO := hO.fr1
         have hO := hO.fr2
         exact ⟨_, f4, s0, s1, s2, s3, s4, s5, o3, s8, s9, t0, E8, fr_ovl 172 ⟨rfl, rfl, rfl, rfl, rfl, rfl, rfl, rfl, rfl, trivial⟩, hC, hO, hK, h0, a0, z2, z3, Q0⟩
        refine c_condF (congrArg Value.bool x9) ?_
        refine wp_exit ?_
        cases hs
        have hO := hO.fr2
        have hO := hO.fr2
        have hO := hO.fr2
        exact ⟨rfl, _, f0, f1, f2, f3, d4, d5, d6, j7, d7, d8, d9, o2, fr_ovl 172 ⟨rfl, rfl, rfl, rfl, rfl, rfl, rfl, trivial⟩, hC, hO, hK, h0, a0, a5, a4, e0⟩
       ·skip
        have hO := hO.fr2
        have hO := hO.fr1
        have hO := hO.fr2
        exact ⟨_, d3, m5, m6, m7, m8, m9, n0, n1, x4, x5, x6, N6, fr_ovl 172 ⟨rfl, rfl, rfl, rfl, rfl, rfl, rfl, rfl, rfl, trivial⟩, hC, hO, hK, h0, a0, j4, j5, x7⟩
       cases o3595 with
       | nx _ => exact True.intro
       | rt r_ =>
        have hs := after_rt hs
        intro b8 k5 hK
        cases hs
        exact hK
       | br s3591 =>
        have hs := after_br hs
        rintro b8 b3 ⟨σ, g8, r2, r3, r4, r5, r6, r7, r8, D6, D7, D8, x8, rfl, hC, hO, hK, h0, a0, Q2, Q3, R7⟩
        refine c_region ?_
        refine pl_val (.int .i64 k3334) (y_move rfl) ?_
        refine pl_val (.int .i64 (w64 (k3334 + 1))) (y_add rfl rfl) ?_
        refine pl_val (.int .i64 (w64 (k3334 + 1))) (y_assign rfl) ?_
        refine c_nil ?_
        cases hs
        have hO := hO.fr1
        have hO := hO.drop
        have hO := hO.fr1
        have hO := hO.fr1
        exact ⟨_, g8, r2, r3, r4, r5, r6, r7, r8, fr_ovl 172 ⟨rfl, rfl, rfl, rfl, rfl, rfl, congrArg (Value.int .i64) hw, trivial⟩, hC, hO, hK, h0, a0, Q2, Q3⟩
      ·skip
       have hO := hO.fr1
       have hO := hO.fr1
       exact ⟨_, g4, l9, m0, m1, g5, g6, g7, o1, fr_ovl 172 ⟨rfl, rfl, rfl, rfl, rfl, rfl, rfl, trivial⟩, hC, hO, hK, h0, a0, q4, m3⟩
      cases o3336 with
      | nx _ => exact True.intro
      | rt r_ =>
       have hs := after_rt hs
       intro b8 k5 hK
       cases hs
       exact hK
      | br s3332 =>
       have hs := after_br hs
       rintro b8 b4 ⟨σ, j3, q5, q6, q7, q8, q9, r0, r1, rfl, hC, hO, hK, h0, a0, Q4, Q5⟩
       refine c_region ?_
       refine pl_val (.int .i64 s2566.2.2) (y_move rfl) ?_
       refine pl_val (.int .i64 (w64 (s2566.2.2 + 1))) (y_add rfl rfl) ?_
       refine pl_val (.int .i64 (w64 (s2566.2.2 + 1))) (y_assign rfl) ?_
       refine c_nil ?_
       cases hs
       have hO := hO.fr1
       have hO := hO.fr1
       exact ⟨_, j3, q5, q6, q7, q8, q9, r0, r1, fr_ovl 172 ⟨rfl, rfl, rfl, rfl, rfl, rfl, trivial⟩, hC, hO, hK, h0, a0, Q4, Q5⟩
     refine c_condF (congrArg Value.bool w9) ?_
     refine wp_exit ?_
     cases hs
     have hO := hO.fr1
     have hO := hO.fr1
     exact ⟨rfl, _, g4, l9, m0, m1, g5, g6, g7, o1, fr_ovl 172 ⟨rfl, rfl, trivial⟩, hC, hO, hK, h0, a0, q4, m3⟩
    ·skip
     have hO := hO.fr1
     have hO := hO.fr1
     exact ⟨_, g3, p6, p7, p8, p9, q0, q1, q2, fr_ovl 172 ⟨rfl, rfl, rfl, rfl, rfl, rfl, trivial⟩, hC, hO, hK, h0, a0, M6, M7⟩
    cases o2570 with
    | nx _ => exact True.intro
    | rt r_ =>
     have hs := after_rt hs
     intro b8 k5 hK
     cases hs
     exact hK
    | br s2566 =>
     have hs := after_br hs
     rintro b8 b6 ⟨σ, m2, j0, j1, j2, C7, C8, C9, w8, rfl, hC, hO, hK, h0, a0, E9, R8⟩
     refine c_sr ?_
     refine pl_val (.slice j0 j1 j2) (y_move rfl) ?_
     refine pl_val (.slice j0 j1 j2) (y_move rfl) ?_
     refine pl_val (.int .i64 (s2566.1.length : Int)) (y_len' Sl25 (rs_len E9) rfl) ?_
     refine pl_val (.int .i64 r9) (y_move rfl) ?_
     refine pl_val (.bool (decide ((s2566.1.length : Int) ≤ r9))) (y_leq rfl rfl) ?_
     refine pl_val (.slice j0 j1 j2) (y_assign rfl) ?_
     refine pl_val (.bool (decide ((s2566.1.length : Int) ≤ r9))) (y_assign rfl) ?_
     refine c_nil ?_
     refine wp_ret ?_
     cases hs
     exact ⟨_, j0, j1, j2, fr_ovl 172 ⟨rfl, rfl, trivial⟩, hC, (Keeps.out hK E9)⟩

theorem Bd35 : Bodied Try.prog 35 := bodied Try.func35 (by kernel_rfl) rfl

theorem Bd36 : Bodied Try.prog 36 := bodied Try.func36 (by kernel_rfl) rfl

theorem Bd37 : Bodied Try.prog 37 := bodied Try.func37 (by kernel_rfl) rfl

def k_spec_GeneratedRelation (M : Nat → Prop) (w0 : World) (r : (Int × (List (List Int))) × Bool) (a : Act) (w : World) : Prop :=
  ∃ (σ : Nat → Value) (rg4 : Nat) (ra0 : Option Addr) (rn0 rc0 : Nat), a = fr 41 (ovl σ [(4, (.pointer (some ⟨rg4, 0, none⟩))), (5, (.bool r.2))]) ∧ BoxV w rg4 30 [(.int .i64 r.1.1), (.slice ra0 rn0 rc0)] ∧ Chg [] w0 w ∧ (RT.rs (RT.rs (RT.int .i64))).val (Past M w0 w) w (.slice ra0 rn0 rc0) r.1.2 []
def s_spec_GeneratedRelation (a_ : Int × (List (Int × (List Int)))) (r_ : Int × (List (List Int))) : Option ((Int × (List (List Int))) × Bool) :=
  ((s_spec_l2Good (a_.1, a_.2)).bind fun r10 =>
  (bif (!r10) then some true else (s_spec_l13Takes a_.1 (r_.1, r_.2)).bind fun r13 =>
  (bif (!r13) then some true else some (decide (20 < (r_.2.length : Int)))))).bind fun s6 =>
  (bif s6 then some ((0, []), false) else (s_spec_l8Close (a_.1, a_.2) r_.1 r_.2).bind fun r18 =>
  (bif (!r18.2) then some ((0, []), false) else some ((r_.1, r18.1), true)))
set_option maxHeartbeats 4000000 in
theorem c_spec_GeneratedRelation {M : Nat → Prop} {w : World} {pa0 : Option Addr} {pn0 pc0 : Nat} {pa1 : Option Addr} {pn1 pc1 : Nat} (a_ : Int × (List (Int × (List Int)))) (r_ : Int × (List (List Int))) (h0 : (RT.rs (RT.pr (RT.int .i64) (RT.rs (RT.int .i64)))).val M w (.slice pa0 pn0 pc0) a_.2 ([])) (h1 : (RT.rs (RT.rs (RT.int .i64))).val M w (.slice pa1 pn1 pc1) r_.2 ([])) (hM : ∀ g, w.heap.size ≤ g → M g) {r : (Int × (List (List Int))) × Bool} (hs : s_spec_GeneratedRelation a_ r_ = some r) :
    Gives Try.prog 10 [(.agg #[(.int .i64 a_.1), (.slice pa0 pn0 pc0)]), (.agg #[(.int .i64 r_.1), (.slice pa1 pn1 pc1)])] w (fun v w' => ∃ (ra0 : Option Addr) (rn0 rc0 : Nat), v = (.tuple #[(.agg #[(.int .i64 r.1.1), (.slice ra0 rn0 rc0)]), (.bool r.2)]) ∧ Chg [] w w' ∧ (RT.rs (RT.rs (RT.int .i64))).val (Past M w w') w' (.slice ra0 rn0 rc0) r.1.2 []) := by
 refine calls_fr Try.func10 rfl Try.ntmps10 (Nat.le_of_ble_eq_true rfl) ?_
 have hO := Own.start (N := Nw w []) hM Nw.fut
 have hC := Chg.refl [] w
 unfold s_spec_GeneratedRelation at hs
 refine wp_mono (Q := KPost (k_spec_GeneratedRelation M w r)) ?_ (fun e a e8 h => ?_)
 rotate_left
 ·cases e
  case ret =>
   obtain ⟨σ, rg4, ra0, rn0, rc0, rfl, hbrg4, hrest⟩ := h
   exact ret2x Try.results10 (res_cell rfl (box_load Ag30 Sz30 hbrg4 [] _ [] rfl rfl (fun h => nomatch h))) (res_tmp rfl) ⟨ra0, rn0, rc0, rfl, hrest⟩
  all_goals exact (h : False).elim
 refine c_sr ?_
 obtain ⟨d0, c2, d8, d1, c1, a0⟩ := new_block w [(.int .i64 a_.1), (.slice pa0 pn0 pc0)] 35
 refine pl_val (w' := d0) (.pointer (some ⟨c2, 0, none⟩)) (y_box rfl (by rw [d8, d1]; kernel_rfl)) ?_
 have h0 := h0.ext c1
 have h1 := h1.ext c1
 have hC := hC.ext c1
 have hO := hO.new1 c1 d1 a0.lt
 obtain ⟨d2, b3, d9, d3, b8, a1⟩ := new_block d0 [(.int .i64 r_.1), (.slice pa1 pn1 pc1)] 30
 refine pl_val (w' := d2) (.pointer (some ⟨b3, 0, none⟩)) (y_box rfl (by rw [d9, d3]; kernel_rfl)) ?_
 have h0 := h0.ext b8
 have h1 := h1.ext b8
 have a0 := a0.cn b8
 have hC := hC.ext b8
 have hO := hO.new1 b8 d3 a1.lt
 obtain ⟨c3, a5, e0, d4, b4, a3⟩ := new_block d2 [(.int .i64 0), (.slice none 0 0)] 30
 refine pl_val (w' := c3) (.pointer (some ⟨a5, 0, none⟩)) (y_alloc (by rw [e0, d4]; kernel_rfl)) ?_
 have h0 := h0.ext b4
 have h1 := h1.ext b4
 have a0 := a0.cn b4
 have a1 := a1.cn b4
 have hC := hC.ext b4
 have hO := hO.new1 b4 d4 a3.lt
 refine pl_val (.bool false) (y_assign rfl) ?_
 refine c_nil ?_
 refine c_seq ?_
 refine c_seq ?_
 obtain ⟨s6, e1, hs⟩ := bind_some hs
 refine c_mid (I := fun a b9 => ∃ (σ : Nat → Value), a = fr 41 (ovl σ [(2, (.pointer (some ⟨c2, 0, none⟩))), (3, (.pointer (some ⟨b3, 0, none⟩))), (4, (.pointer (some ⟨a5, 0, none⟩))), (5, (.bool false)), (23, (.bool s6))]) ∧ Chg [] c3 b9) ?_ ?_
 ·replace hs := e1
  have hMid := Chg.refl [] c3
  refine c_region ?_
  refine pl_val (.agg #[(.int .i64 a_.1), (.slice pa0 pn0 pc0)]) (y_load rfl ((box_load Ag35 Sz35 a0 [] [(.int .i64 a_.1), (.slice pa0 pn0 pc0)] [] rfl rfl (fun h => nomatch h)) _ (Chg.refl _ _))) ?_
  obtain ⟨r10, e2, hs⟩ := bind_some hs
  refine pl_call Bd35 rfl (c_spec_l2Good (M := M) (a_.1, a_.2) h0 hO.fut e2) ?_
  rintro _ e9 ⟨rfl, a6⟩
  have h0 := h0.ext a6
  have h1 := h1.ext a6
  have a0 := a0.cn a6
  have a1 := a1.cn a6
  have a3 := a3.cn a6
  have hMid := hMid.ext a6
  have hC := hC.ext a6
  have hO := hO.ext a6
  refine pl_val (.bool (!r10)) (y_not rfl) ?_
  refine pl_val (.bool (!r10)) (y_move rfl) ?_
  rcases bif_some hs with ⟨a2, hs⟩ | ⟨a2, hs⟩
  ·skip
   refine pl_not (tg := 11) (by kernel_rfl) (congrArg Value.bool a2) ?_
   refine pl_not (tg := 11) (by kernel_rfl) (congrArg Value.bool a2) ?_
   refine pl_not (tg := 11) (by kernel_rfl) (congrArg Value.bool a2) ?_
   refine pl_not (tg := 11) (by kernel_rfl) (congrArg Value.bool a2) ?_
   refine pl_not (tg := 11) (by kernel_rfl) (congrArg Value.bool a2) ?_
   refine pl_val (.bool true) (y_pick_t (congrArg Value.bool a2) rfl) ?_
   refine pl_val (.bool true) (y_move rfl) ?_
   refine pl_not (tg := 18) (by kernel_rfl) (by rfl) ?_
   refine pl_not (tg := 18) (by kernel_rfl) (by rfl) ?_
   refine pl_not (tg := 18) (by kernel_rfl) (by rfl) ?_
   refine pl_not (tg := 18) (by kernel_rfl) (by rfl) ?_
   refine pl_val (.bool true) (y_pick_t (by rfl) rfl) ?_
   refine c_nil ?_
   cases hs
   exact ⟨_, fr_ovl 41 ⟨rfl, rfl, rfl, rfl, rfl, trivial⟩, hMid⟩
  refine pl_yes (.pointer (some ⟨c2, 0, none⟩)) (tg := 11) (by kernel_rfl) (congrArg Value.bool a2) (y_faddr rfl Fa35x0) ?_
  refine pl_yes (.int .i64 a_.1) (tg := 11) (by kernel_rfl) (congrArg Value.bool a2) (y_load rfl ((box_load Ag3 Sz3 a0 [] [(.int .i64 a_.1)] [(.slice pa0 pn0 pc0)] rfl rfl (fun _ => rfl)) _ (Chg.refl _ _))) ?_
  refine pl_yes (.agg #[(.int .i64 r_.1), (.slice pa1 pn1 pc1)]) (tg := 11) (by kernel_rfl) (congrArg Value.bool a2) (y_load rfl ((box_load Ag30 Sz30 a1 [] [(.int .i64 r_.1), (.slice pa1 pn1 pc1)] [] rfl rfl (fun h => nomatch h)) _ (Chg.refl _ _))) ?_
  obtain ⟨r13, e3, hs⟩ := bind_some hs
  refine pl_cally (tg := 11) (by kernel_rfl) (congrArg Value.bool a2) Bd36 rfl (c_spec_l13Takes (M := M) a_.1 (r_.1, r_.2) h1 hO.fut e3) ?_
  rintro _ f0 ⟨rfl, a7⟩
  have h0 := h0.ext a7
  have h1 := h1.ext a7
  have a0 := a0.cn a7
  have a1 := a1.cn a7
  have a3 := a3.cn a7
  have hMid := hMid.ext a7
  have hC := hC.ext a7
  have hO := hO.ext a7
  refine pl_yes (.bool (!r13)) (tg := 11) (by kernel_rfl) (congrArg Value.bool a2) (y_not rfl) ?_
  refine pl_val (.bool (!r13)) (y_pick_f (congrArg Value.bool a2) rfl) ?_
  refine pl_val (.bool (!r13)) (y_move rfl) ?_
  rcases bif_some hs with ⟨a4, hs⟩ | ⟨a4, hs⟩
  ·skip
   refine pl_not (tg := 18) (by kernel_rfl) (congrArg Value.bool a4) ?_
   refine pl_not (tg := 18) (by kernel_rfl) (congrArg Value.bool a4) ?_
   refine pl_not (tg := 18) (by kernel_rfl) (congrArg Value.bool a4) ?_
   refine pl_not (tg := 18) (by kernel_rfl) (congrArg Value.bool a4) ?_
   refine pl_val (.bool true) (y_pick_t (congrArg Value.bool a4) rfl) ?_
   refine c_nil ?_
   cases hs
   exact ⟨_, fr_ovl 41 ⟨rfl, rfl, rfl, rfl, rfl, trivial⟩, hMid⟩
  refine pl_yes (.pointer (some ⟨b3, 1, none⟩)) (tg := 18) (by kernel_rfl) (congrArg Value.bool a4) (y_faddr rfl Fa30x1) ?_
  refine pl_yes (.slice pa1 pn1 pc1) (tg := 18) (by kernel_rfl) (congrArg Value.bool a4) (y_load rfl ((box_load Ag25 Sz25 a1 [(.int .i64 r_.1)] [(.slice pa1 pn1 pc1)] [] rfl rfl (fun _ => rfl)) _ (Chg.refl _ _))) ?_
  refine pl_yes (.int .i64 (r_.2.length : Int)) (tg := 18) (by kernel_rfl) (congrArg Value.bool a4) (y_len' Sl25 (rs_len h1) rfl) ?_
  refine pl_yes (.bool (decide (20 < (r_.2.length : Int)))) (tg := 18) (by kernel_rfl) (congrArg Value.bool a4) (y_gtr rfl rfl) ?_
  refine pl_val (.bool (decide (20 < (r_.2.length : Int)))) (y_pick_f (congrArg Value.bool a4) rfl) ?_
  refine c_nil ?_
  cases hs
  exact ⟨_, fr_ovl 41 ⟨rfl, rfl, rfl, rfl, rfl, trivial⟩, hMid⟩
 rintro f1 b9 ⟨σ, rfl, b1⟩
 have h0 := h0.ext b1
 have h1 := h1.ext b1
 have a0 := a0.cn b1
 have a1 := a1.cn b1
 have a3 := a3.cn b1
 have hC := hC.ext b1
 have hO := hO.ext b1
 rcases bif_some hs with ⟨c4, hs⟩ | ⟨c4, hs⟩
 ·refine c_condT (congrArg Value.bool c4) ?_
  refine c_sr ?_
  refine pl_val (.agg #[(.int .i64 0), (.slice none 0 0)]) (y_build rfl (by kernel_rfl)) ?_
  obtain ⟨d5, e4, b5, c5⟩ := box_store (P := Try.prog) a3 [] [(.int .i64 0), (.slice none 0 0)] [] [(.int .i64 0), (.slice none 0 0)] rfl rfl (by intro u hu; simp only [List.mem_cons, List.not_mem_nil, or_false] at hu; rcases hu with rfl | rfl <;> rfl)
  refine pl_skip (w' := d5) (ys_store rfl rfl (e4 _ _ rfl Sz30)) ?_
  have h0 := h0.mt b5 hO same_
  have h1 := h1.mt b5 hO same_
  have a0 := a0.ap b5 hO same_ (mem_r (mem_l (List.mem_singleton.2 rfl)))
  have a1 := a1.ap b5 hO same_ (mem_l (List.mem_singleton.2 rfl))
  have hC := hC.st b5 hO same_
  have hO := hO.ext b5
  have c5 : BoxV d5 a5 30 [(.int .i64 0), (.slice none 0 0)] := c5
  refine pl_val (.bool false) (y_assign rfl) ?_
  refine c_nil ?_
  refine wp_ret ?_
  cases hs
  exact ⟨_, a5, none, 0, 0, fr_ovl 41 ⟨rfl, rfl, trivial⟩, c5, hC, rs_nil⟩
 refine c_condF (congrArg Value.bool c4) ?_
 refine wp_skip ?_
 refine c_sr ?_
 refine pl_val (.agg #[(.int .i64 a_.1), (.slice pa0 pn0 pc0)]) (y_load rfl ((box_load Ag35 Sz35 a0 [] [(.int .i64 a_.1), (.slice pa0 pn0 pc0)] [] rfl rfl (fun h => nomatch h)) _ (Chg.refl _ _))) ?_
 refine pl_val (.pointer (some ⟨b3, 0, none⟩)) (y_faddr rfl Fa30x0) ?_
 refine pl_val (.int .i64 r_.1) (y_load rfl ((box_load Ag3 Sz3 a1 [] [(.int .i64 r_.1)] [(.slice pa1 pn1 pc1)] rfl rfl (fun _ => rfl)) _ (Chg.refl _ _))) ?_
 refine pl_val (.pointer (some ⟨b3, 1, none⟩)) (y_faddr rfl Fa30x1) ?_
 refine pl_val (.slice pa1 pn1 pc1) (y_load rfl ((box_load Ag25 Sz25 a1 [(.int .i64 r_.1)] [(.slice pa1 pn1 pc1)] [] rfl rfl (fun _ => rfl)) _ (Chg.refl _ _))) ?_
 obtain ⟨r18, e5, hs⟩ := bind_some hs
 refine pl_call Bd37 rfl (c_spec_l8Close (M := M) (a_.1, a_.2) r_.1 r_.2 h0 h1 hO.fut e5) ?_
 rintro _ c6 ⟨a8, a9, b0, rfl, b2, c0⟩
 have hK := (show Keeps w M (Past M b9 c6) from Keeps.past hC.size)
 have h0 := h0.ext b2
 have h1 := h1.ext b2
 have a0 := a0.cn b2
 have a1 := a1.cn b2
 have a3 := a3.cn b2
 have hC := hC.ext b2
 have hO := hO.past b2
 have h0 := h0.sub (M' := (Past M b9 c6)) (fun g hg => .inl hg.1)
 have h1 := h1.sub (M' := (Past M b9 c6)) (fun g hg => .inl hg.1)
 refine pl_val (.tuple #[(.slice a8 a9 b0), (.bool r18.2)]) (y_move rfl) ?_
 refine pl_val (.slice a8 a9 b0) (y_extract rfl (by kernel_rfl)) ?_
 refine pl_val (.bool r18.2) (y_extract rfl (by kernel_rfl)) ?_
 refine pl_val (.slice a8 a9 b0) (y_assign rfl) ?_
 refine pl_val (.bool r18.2) (y_assign rfl) ?_
 refine c_nil ?_
 refine c_seq ?_
 refine c_sr ?_
 refine pl_val (.bool r18.2) (y_move rfl) ?_
 refine pl_val (.bool (!r18.2)) (y_not rfl) ?_
 refine c_nil ?_
 rcases bif_some hs with ⟨c7, hs⟩ | ⟨c7, hs⟩
 ·refine c_condT (congrArg Value.bool c7) ?_
  refine c_sr ?_
  refine pl_val (.agg #[(.int .i64 0), (.slice none 0 0)]) (y_build rfl (by kernel_rfl)) ?_
  obtain ⟨d6, e6, b6, c8⟩ := box_store (P := Try.prog) a3 [] [(.int .i64 0), (.slice none 0 0)] [] [(.int .i64 0), (.slice none 0 0)] rfl rfl (by intro u hu; simp only [List.mem_cons, List.not_mem_nil, or_false] at hu; rcases hu with rfl | rfl <;> rfl)
  refine pl_skip (w' := d6) (ys_store rfl rfl (e6 _ _ rfl Sz30)) ?_
  have h1 := h1.mt b6 hO same_
  have a0 := a0.ap b6 hO same_ (mem_r (mem_l (List.mem_singleton.2 rfl)))
  have a1 := a1.ap b6 hO same_ (mem_l (List.mem_singleton.2 rfl))
  have c0 := c0.mt b6 hO same_
  have hC := hC.st b6 hO same_
  have hO := hO.ext b6
  have c8 : BoxV d6 a5 30 [(.int .i64 0), (.slice none 0 0)] := c8
  refine pl_val (.bool false) (y_assign rfl) ?_
  refine c_nil ?_
  refine wp_ret ?_
  cases hs
  exact ⟨_, a5, none, 0, 0, fr_ovl 41 ⟨rfl, rfl, trivial⟩, c8, hC, rs_nil⟩
 refine c_condF (congrArg Value.bool c7) ?_
 refine wp_skip ?_
 refine c_sr ?_
 refine pl_val (.pointer (some ⟨b3, 0, none⟩)) (y_faddr rfl Fa30x0) ?_
 refine pl_val (.int .i64 r_.1) (y_load rfl ((box_load Ag3 Sz3 a1 [] [(.int .i64 r_.1)] [(.slice pa1 pn1 pc1)] rfl rfl (fun _ => rfl)) _ (Chg.refl _ _))) ?_
 refine pl_val (.slice a8 a9 b0) (y_move rfl) ?_
 refine pl_val (.agg #[(.int .i64 r_.1), (.slice a8 a9 b0)]) (y_build rfl (by kernel_rfl)) ?_
 obtain ⟨d7, e7, b7, c9⟩ := box_store (P := Try.prog) a3 [] [(.int .i64 0), (.slice none 0 0)] [] [(.int .i64 r_.1), (.slice a8 a9 b0)] rfl rfl (by intro u hu; simp only [List.mem_cons, List.not_mem_nil, or_false] at hu; rcases hu with rfl | rfl <;> rfl)
 refine pl_skip (w' := d7) (ys_store rfl rfl (e7 _ _ rfl Sz30)) ?_
 have h1 := h1.mt b7 hO same_
 have a0 := a0.ap b7 hO same_ (mem_r (mem_l (List.mem_singleton.2 rfl)))
 have a1 := a1.ap b7 hO same_ (mem_l (List.mem_singleton.2 rfl))
 have c0 := c0.mt b7 hO same_
 have hC := hC.st b7 hO same_
 have hO := hO.ext b7
 have c9 : BoxV d7 a5 30 [(.int .i64 r_.1), (.slice a8 a9 b0)] := c9
 refine pl_val (.bool true) (y_assign rfl) ?_
 refine c_nil ?_
 refine wp_ret ?_
 cases hs
 exact ⟨_, a5, a8, a9, b0, fr_ovl 41 ⟨rfl, rfl, trivial⟩, c9, hC, (Keeps.out hK c0)⟩

def k_impl_power (M : Nat → Prop) (w0 : World) (r : Int) (a : Act) (w : World) : Prop :=
  ∃ (σ : Nat → Value) , a = fr 14 (ovl σ [(4, (.int .i64 r))]) ∧ Chg [] w0 w
def s_impl_power (n : Int) (k : Int) : Option (Int) :=
  (iter (S := Int × Int) (R := Int) (fun s2 =>
  (bif (decide (0 < s2.1)) then some (.nx (w64 (s2.1 - 1), w64 (s2.2 * n))) else some (.br (s2.1, s2.2)))) FU (k, 1)).bind fun o6 => after o6 (fun r_ => some r_) (fun s2 =>
  some s2.2)
set_option maxHeartbeats 4000000 in
theorem c_impl_power {M : Nat → Prop} {w : World}  (n : Int) (k : Int)  (hM : ∀ g, w.heap.size ≤ g → M g) {r : Int} (hs : s_impl_power n k = some r) :
    Gives Try.prog 88 [(.int .i64 n), (.int .i64 k)] w (fun v w' => v = (.int .i64 r) ∧ Chg [] w w') := by
 refine calls_fr Try.func88 rfl Try.ntmps88 (Nat.le_of_ble_eq_true rfl) ?_
 have hO := Own.start (N := Nw w []) hM Nw.fut
 have hC := Chg.refl [] w
 unfold s_impl_power at hs
 refine wp_mono (Q := KPost (k_impl_power M w r)) ?_ (fun e a a2 h => ?_)
 rotate_left
 ·cases e
  case ret =>
   obtain ⟨σ, rfl, hrest⟩ := h
   exact ret1x Try.results88 (res_tmp rfl) ⟨rfl, hrest⟩
  all_goals exact (h : False).elim
 refine c_sr ?_
 refine pl_val (.int .i64 0) (y_assign rfl) ?_
 refine c_nil ?_
 refine c_sr ?_
 refine pl_val (.int .i64 1) (y_assign rfl) ?_
 refine c_nil ?_
 refine c_seq ?_
 obtain ⟨o6, a3, hs⟩ := bind_some hs
 refine wp_block ?_
 refine wp_iter (id := 0) (I := fun s2 a a0 => ∃ (σ : Nat → Value), a = fr 14 (ovl σ [(0, (.int .i64 n)), (1, (.int .i64 s2.1)), (5, (.int .i64 s2.2))]) ∧ Chg [] w a0 ∧ Own (Nw w []) M a0 ([])) (J := fun s2 a a0 => ∃ (σ : Nat → Value), a = fr 14 (ovl σ [(5, (.int .i64 s2.2))]) ∧ Chg [] w a0 ∧ Own (Nw w []) M a0 ([])) (K := (k_impl_power M w)) ?_ FU (k, 1) o6 _ _ ?_ a3 ?_
 ·rintro s2 o6 a a0 ⟨σ, rfl, hC, hO⟩ hs
  refine c_seq ?_
  refine c_sr ?_
  refine pl_val (.int .i64 s2.1) (y_move rfl) ?_
  refine pl_val (.bool (decide (0 < s2.1))) (y_gtr rfl rfl) ?_
  refine c_nil ?_
  rcases bif_some hs with ⟨a1, hs⟩ | ⟨a1, hs⟩
  ·refine c_condT (congrArg Value.bool a1) ?_
   refine wp_skip ?_
   refine c_seq ?_
   refine wp_block ?_
   refine c_region ?_
   refine pl_val (.int .i64 s2.2) (y_move rfl) ?_
   refine pl_val (.int .i64 n) (y_move rfl) ?_
   refine pl_val (.int .i64 (w64 (s2.2 * n))) (y_mul rfl rfl) ?_
   refine pl_val (.int .i64 (w64 (s2.2 * n))) (y_assign rfl) ?_
   refine c_nil ?_
   refine c_region ?_
   refine pl_val (.int .i64 s2.1) (y_move rfl) ?_
   refine pl_val (.int .i64 (w64 (s2.1 - 1))) (y_sub rfl rfl) ?_
   refine pl_val (.int .i64 (w64 (s2.1 - 1))) (y_assign rfl) ?_
   refine c_nil ?_
   cases hs
   exact ⟨_, fr_ovl 14 ⟨rfl, rfl, rfl, trivial⟩, hC, hO⟩
  refine c_condF (congrArg Value.bool a1) ?_
  refine wp_exit ?_
  cases hs
  exact ⟨rfl, _, fr_ovl 14 ⟨rfl, trivial⟩, hC, hO⟩
 ·skip
  exact ⟨_, fr_ovl 14 ⟨rfl, rfl, rfl, trivial⟩, hC, hO⟩
 cases o6 with
 | nx _ => exact True.intro
 | rt r_ =>
  have hs := after_rt hs
  intro a4 a2 hK
  cases hs
  exact hK
 | br s2 =>
  have hs := after_br hs
  rintro a4 a0 ⟨σ, rfl, hC, hO⟩
  refine c_sr ?_
  refine pl_val (.int .i64 s2.2) (y_move rfl) ?_
  refine pl_val (.int .i64 s2.2) (y_assign rfl) ?_
  refine c_nil ?_
  refine wp_ret ?_
  cases hs
  exact ⟨_, fr_ovl 14 ⟨rfl, trivial⟩, hC⟩

def k_impl_inSize (M : Nat → Prop) (w0 : World) (r : Bool) (a : Act) (w : World) : Prop :=
  ∃ (σ : Nat → Value) , a = fr 21 (ovl σ [(4, (.bool r))]) ∧ Chg [] w0 w
def s_impl_inSize (list : List Int) (n : Int) : Option (Bool) :=
  (forR (S := Unit) (R := Bool) (fun _ x8 s5 =>
  (bif (decide (x8 < 0)) then some (.rt false) else (bif (decide (n ≤ x8)) then some (.rt false) else some (.nx ())))) 0 list ()).bind fun o9 => after o9 (fun r_ => some r_) (fun s5 =>
  some true)
set_option maxHeartbeats 4000000 in
theorem c_impl_inSize {M : Nat → Prop} {w : World} {pa0 : Option Addr} {pn0 pc0 : Nat} (list : List Int) (n : Int) (h0 : (RT.rs (RT.int .i64)).val M w (.slice pa0 pn0 pc0) list ([])) (hM : ∀ g, w.heap.size ≤ g → M g) {r : Bool} (hs : s_impl_inSize list n = some r) :
    Gives Try.prog 77 [(.slice pa0 pn0 pc0), (.int .i64 n)] w (fun v w' => v = (.bool r) ∧ Chg [] w w') := by
 refine calls_fr Try.func77 rfl Try.ntmps77 (Nat.le_of_ble_eq_true rfl) ?_
 have hO := Own.start (N := Nw w []) hM Nw.fut
 have hC := Chg.refl [] w
 unfold s_impl_inSize at hs
 refine wp_mono (Q := KPost (k_impl_inSize M w r)) ?_ (fun e a a4 h => ?_)
 rotate_left
 ·cases e
  case ret =>
   obtain ⟨σ, rfl, hrest⟩ := h
   exact ret1x Try.results77 (res_tmp rfl) ⟨rfl, hrest⟩
  all_goals exact (h : False).elim
 refine c_sr ?_
 refine pl_val (.bool false) (y_assign rfl) ?_
 refine c_nil ?_
 refine c_seq ?_
 refine c_sr ?_
 refine pl_val (.slice pa0 pn0 pc0) (y_move rfl) ?_
 refine pl_val (.int .i64 (list.length : Int)) (y_len' Sl43 (rs_len h0) rfl) ?_
 refine pl_val (.int .i64 0) (y_move rfl) ?_
 refine c_nil ?_
 obtain ⟨o9, a5, hs⟩ := bind_some hs
 refine wp_block ?_
 refine wp_forR (id := 0) (I := fun i_ xs_ s5 a a0 => ∃ a1 : Nat, i_ = (a1 : Int) ∧ List.drop a1 list = xs_ ∧ (∃ (σ : Nat → Value), a = fr 21 (ovl σ [(1, (.int .i64 n)), (7, (.slice pa0 pn0 pc0)), (8, (.int .i64 (list.length : Int))), (9, (.int .i64 (a1 : Int)))]) ∧ Chg [] w a0 ∧ Own (Nw w []) M a0 ([]) ∧ (RT.rs (RT.int .i64)).val M a0 (.slice pa0 pn0 pc0) list ([]))) (J := fun s5 a a0 => ∃ (σ : Nat → Value), a = fr 21 (ovl σ []) ∧ Chg [] w a0 ∧ Own (Nw w []) M a0 ([]) ∧ (RT.rs (RT.int .i64)).val M a0 (.slice pa0 pn0 pc0) list ([])) (K := (k_impl_inSize M w)) ?_ ?_ list 0 () o9 _ _ ?_ a5 ?_
 ·rintro _ s5 a a0 ⟨a1, rfl, hd, σ, rfl, hC, hO, h0⟩
  have hlt := drop_nil_ge hd
  refine c_sr ?_
  refine pl_val (.bool (decide ((a1 : Int) < (list.length : Int)))) (y_lss rfl rfl) ?_
  refine c_nil ?_
  refine c_seq ?_
  refine c_condF (congrArg Value.bool (decide_eq_false hlt)) ?_
  refine wp_exit ?_
  exact ⟨rfl, _, fr_ovl 21 trivial, hC, hO, h0⟩
 ·rintro _ x8 xs_ s5 o9 a a0 ⟨a1, rfl, hd, σ, rfl, hC, hO, h0⟩ hs
  have hlt := drop_cons_lt hd
  have a6 := drop_cons_idx hd
  refine c_sr ?_
  refine pl_val (.bool (decide ((a1 : Int) < (list.length : Int)))) (y_lss rfl rfl) ?_
  refine c_nil ?_
  refine c_seq ?_
  refine c_condT (congrArg Value.bool (decide_eq_true hlt)) ?_
  refine wp_skip ?_
  refine c_seq ?_
  refine wp_block ?_
  refine c_sr ?_
  obtain ⟨a7, a8, a9, b0⟩ := rs_idx Sl43 Sz3 h0 a6
  refine pl_val (.pointer (some ⟨a7, a8, none⟩)) (a9 _ _ _ _ _ _ _ _ _ rfl rfl) ?_
  refine pl_val (.int .i64 x8) (y_load rfl ((at_load_int Ag3 Sz3 b0) _ (Chg.refl _ _))) ?_
  refine pl_val (.int .i64 x8) (y_assign rfl) ?_
  refine c_nil ?_
  refine c_sr ?_
  refine pl_val (.int .i64 x8) (y_move rfl) ?_
  refine pl_val (.bool (decide (x8 < 0))) (y_lss rfl rfl) ?_
  refine pl_val (.bool (decide (x8 < 0))) (y_move rfl) ?_
  rcases bif_some hs with ⟨a2, hs⟩ | ⟨a2, hs⟩
  ·skip
   refine pl_not (tg := 15) (by kernel_rfl) (congrArg Value.bool a2) ?_
   refine pl_not (tg := 15) (by kernel_rfl) (congrArg Value.bool a2) ?_
   refine pl_not (tg := 15) (by kernel_rfl) (congrArg Value.bool a2) ?_
   refine pl_val (.bool true) (y_pick_t (congrArg Value.bool a2) rfl) ?_
   refine c_nil ?_
   refine c_condT (by rfl) ?_
   refine c_sr ?_
   refine pl_val (.bool false) (y_assign rfl) ?_
   refine c_nil ?_
   refine wp_ret ?_
   cases hs
   exact ⟨_, fr_ovl 21 ⟨rfl, trivial⟩, hC⟩
  refine pl_yes (.int .i64 x8) (tg := 15) (by kernel_rfl) (congrArg Value.bool a2) (y_move rfl) ?_
  refine pl_yes (.int .i64 n) (tg := 15) (by kernel_rfl) (congrArg Value.bool a2) (y_move rfl) ?_
  refine pl_yes (.bool (decide (n ≤ x8))) (tg := 15) (by kernel_rfl) (congrArg Value.bool a2) (y_geq rfl rfl) ?_
  refine pl_val (.bool (decide (n ≤ x8))) (y_pick_f (congrArg Value.bool a2) rfl) ?_
  refine c_nil ?_
  rcases bif_some hs with ⟨a3, hs⟩ | ⟨a3, hs⟩
  ·refine c_condT (congrArg Value.bool a3) ?_
   refine c_sr ?_
   refine pl_val (.bool false) (y_assign rfl) ?_
   refine c_nil ?_
   refine wp_ret ?_
   cases hs
   exact ⟨_, fr_ovl 21 ⟨rfl, trivial⟩, hC⟩
  refine c_condF (congrArg Value.bool a3) ?_
  refine wp_skip ?_
  refine c_region ?_
  refine pl_val (.int .i64 (w64 ((a1 : Int) + 1))) (y_add rfl rfl) ?_
  refine pl_val (.int .i64 (w64 ((a1 : Int) + 1))) (y_move rfl) ?_
  refine c_nil ?_
  cases hs
  exact ⟨_, rfl, drop_cons_next hd, _, fr_ovl 21 ⟨rfl, rfl, rfl, congrArg (Value.int .i64) (w64_succ hlt (Int.natCast_nonneg _) (rs_max h0)), trivial⟩, hC, hO, h0⟩
 ·skip
  exact ⟨0, rfl, rfl, _, fr_ovl 21 ⟨rfl, rfl, rfl, rfl, trivial⟩, hC, hO, h0⟩
 cases o9 with
 | nx _ => exact True.intro
 | rt r_ =>
  have hs := after_rt hs
  intro b1 a4 hK
  cases hs
  exact hK
 | br s5 =>
  have hs := after_br hs
  rintro b1 a0 ⟨σ, rfl, hC, hO, h0⟩
  refine c_sr ?_
  refine pl_val (.bool true) (y_assign rfl) ?_
  refine c_nil ?_
  refine wp_ret ?_
  cases hs
  exact ⟨_, fr_ovl 21 ⟨rfl, trivial⟩, hC⟩

theorem Bd88 : Bodied Try.prog 88 := bodied Try.func88 (by kernel_rfl) rfl

theorem Bd77 : Bodied Try.prog 77 := bodied Try.func77 (by kernel_rfl) rfl

def k_impl_isOp (M : Nat → Prop) (w0 : World) (r : Bool) (a : Act) (w : World) : Prop :=
  ∃ (σ : Nat → Value) , a = fr 29 (ovl σ [(4, (.bool r))]) ∧ Chg [] w0 w
def s_impl_isOp (f : Int × (List Int)) (n : Int) : Option (Bool) :=
  (bif (decide (0 ≤ f.1)) then (bif (decide (f.1 ≤ 3)) then (s_impl_power n f.1).bind fun r7 =>
  (bif ((f.2.length : Int) == r7) then (s_impl_inSize f.2 n).bind fun r10 =>
  some r10 else some false) else some false) else some false)
set_option maxHeartbeats 4000000 in
theorem c_impl_isOp {M : Nat → Prop} {w : World} {pa0 : Option Addr} {pn0 pc0 : Nat} (f : Int × (List Int)) (n : Int) (h0 : (RT.rs (RT.int .i64)).val M w (.slice pa0 pn0 pc0) f.2 ([])) (hM : ∀ g, w.heap.size ≤ g → M g) {r : Bool} (hs : s_impl_isOp f n = some r) :
    Gives Try.prog 76 [(.agg #[(.int .i64 f.1), (.slice pa0 pn0 pc0)]), (.int .i64 n)] w (fun v w' => v = (.bool r) ∧ Chg [] w w') := by
 refine calls_fr Try.func76 rfl Try.ntmps76 (Nat.le_of_ble_eq_true rfl) ?_
 have hO := Own.start (N := Nw w []) hM Nw.fut
 have hC := Chg.refl [] w
 unfold s_impl_isOp at hs
 refine wp_mono (Q := KPost (k_impl_isOp M w r)) ?_ (fun e a b5 h => ?_)
 rotate_left
 ·cases e
  case ret =>
   obtain ⟨σ, rfl, hrest⟩ := h
   exact ret1x Try.results76 (res_tmp rfl) ⟨rfl, hrest⟩
  all_goals exact (h : False).elim
 refine c_sr ?_
 obtain ⟨a8, a6, b1, b0, a9, a1⟩ := new_block w [(.int .i64 f.1), (.slice pa0 pn0 pc0)] 89
 refine pl_val (w' := a8) (.pointer (some ⟨a6, 0, none⟩)) (y_box rfl (by rw [b1, b0]; kernel_rfl)) ?_
 have h0 := h0.ext a9
 have hC := hC.ext a9
 have hO := hO.new1 a9 b0 a1.lt
 refine pl_val (.bool false) (y_assign rfl) ?_
 refine c_nil ?_
 refine c_seq ?_
 refine x_start [] Mx rfl ?_
 have a7 := Chg.drew a8
 generalize World.drew a8 = b2 at a7 ⊢
 have h0 := h0.ext a7
 have a1 := a1.cn a7
 have hC := hC.ext a7
 have hO := hO.ext a7
 have hS := Chg.refl [] b2
 refine x_p 0 (.pointer (some ⟨a6, 0, none⟩)) rfl (by kernel_rfl)  (fun _ => y_faddr rfl Fa89x0) (fun _ => hS) ?_
 refine x_l 1 (.int .i64 f.1) rfl (by kernel_rfl)  (fun w' hw' => y_load rfl ((box_load Ag3 Sz3 a1 [] [(.int .i64 f.1)] [(.slice pa0 pn0 pc0)] rfl rfl (fun _ => rfl)) w' hw')) hS ?_
 refine x_p 2 (.bool (decide (0 ≤ f.1))) rfl (by kernel_rfl)  (fun _ => y_geq rfl rfl) (fun _ => hS) ?_
 refine x_p 3 (.bool (decide (0 ≤ f.1))) rfl (by kernel_rfl)  (fun _ => y_move rfl) (fun _ => hS) ?_
 rcases bif_some hs with ⟨a3, hs⟩ | ⟨a3, hs⟩
 ·skip
  refine x_py 4 (.pointer (some ⟨a6, 0, none⟩)) rfl (by kernel_rfl) (tg := 8) (by kernel_rfl) (congrArg Value.bool a3) (fun _ => y_faddr rfl Fa89x0) (fun _ => hS) ?_
  refine x_ly 5 (.int .i64 f.1) rfl (by kernel_rfl) (tg := 8) (by kernel_rfl) (congrArg Value.bool a3) (fun w' hw' => y_load rfl ((box_load Ag3 Sz3 a1 [] [(.int .i64 f.1)] [(.slice pa0 pn0 pc0)] rfl rfl (fun _ => rfl)) w' hw')) hS ?_
  refine x_py 6 (.bool (decide (f.1 ≤ 3))) rfl (by kernel_rfl) (tg := 8) (by kernel_rfl) (congrArg Value.bool a3) (fun _ => y_leq rfl rfl) (fun _ => hS) ?_
  refine x_p 7 (.bool (decide (f.1 ≤ 3))) rfl (by kernel_rfl)  (fun _ => y_pick_t (congrArg Value.bool a3) rfl) (fun _ => hS) ?_
  refine x_p 8 (.bool (decide (f.1 ≤ 3))) rfl (by kernel_rfl)  (fun _ => y_move rfl) (fun _ => hS) ?_
  rcases bif_some hs with ⟨a0, hs⟩ | ⟨a0, hs⟩
  ·skip
   refine x_py 9 (.pointer (some ⟨a6, 1, none⟩)) rfl (by kernel_rfl) (tg := 13) (by kernel_rfl) (congrArg Value.bool a0) (fun _ => y_faddr rfl Fa89x1) (fun _ => hS) ?_
   refine x_ly 10 (.slice pa0 pn0 pc0) rfl (by kernel_rfl) (tg := 13) (by kernel_rfl) (congrArg Value.bool a0) (fun w' hw' => y_load rfl ((box_load Ag43 Sz43 a1 [(.int .i64 f.1)] [(.slice pa0 pn0 pc0)] [] rfl rfl (fun _ => rfl)) w' hw')) hS ?_
   refine x_py 11 (.int .i64 (f.2.length : Int)) rfl (by kernel_rfl) (tg := 13) (by kernel_rfl) (congrArg Value.bool a0) (fun _ => y_len' Sl43 (rs_len h0) rfl) (fun _ => hS) ?_
   refine x_py 12 (.int .i64 n) rfl (by kernel_rfl) (tg := 13) (by kernel_rfl) (congrArg Value.bool a0) (fun _ => y_move rfl) (fun _ => hS) ?_
   refine x_py 13 (.pointer (some ⟨a6, 0, none⟩)) rfl (by kernel_rfl) (tg := 13) (by kernel_rfl) (congrArg Value.bool a0) (fun _ => y_faddr rfl Fa89x0) (fun _ => hS) ?_
   refine x_ly 14 (.int .i64 f.1) rfl (by kernel_rfl) (tg := 13) (by kernel_rfl) (congrArg Value.bool a0) (fun w' hw' => y_load rfl ((box_load Ag3 Sz3 a1 [] [(.int .i64 f.1)] [(.slice pa0 pn0 pc0)] rfl rfl (fun _ => rfl)) w' hw')) hS ?_
   refine x_one (i := 15) (by kernel_rfl) ?_
   obtain ⟨r7, b3, hs⟩ := bind_some hs
   refine xk_cally (b := false) rfl (tg := 13) (by kernel_rfl) (congrArg Value.bool a0) Bd88 rfl (c_impl_power (M := M) n f.1  hO.fut b3) rfl (by rintro _ _ _ ⟨rfl, a4⟩; exact hS.ext a4) ?_
   rintro _ b6 ⟨rfl, a4⟩
   have h0 := h0.ext a4
   have a1 := a1.cn a4
   have hC := hC.ext a4
   have hO := hO.ext a4
   have hS := hS.ext a4
   refine x_py 16 (.bool ((f.2.length : Int) == r7)) rfl (by kernel_rfl) (tg := 13) (by kernel_rfl) (congrArg Value.bool a0) (fun _ => y_eql rfl rfl) (fun _ => hS) ?_
   refine x_p 17 (.bool ((f.2.length : Int) == r7)) rfl (by kernel_rfl)  (fun _ => y_pick_t (congrArg Value.bool a0) rfl) (fun _ => hS) ?_
   refine x_p 18 (.bool ((f.2.length : Int) == r7)) rfl (by kernel_rfl)  (fun _ => y_move rfl) (fun _ => hS) ?_
   rcases bif_some hs with ⟨a2, hs⟩ | ⟨a2, hs⟩
   ·skip
    refine x_py 19 (.pointer (some ⟨a6, 1, none⟩)) rfl (by kernel_rfl) (tg := 23) (by kernel_rfl) (congrArg Value.bool a2) (fun _ => y_faddr rfl Fa89x1) (fun _ => hS) ?_
    refine x_py 21 (.int .i64 n) rfl (by kernel_rfl) (tg := 23) (by kernel_rfl) (congrArg Value.bool a2) (fun _ => y_move rfl) (fun _ => hS) ?_
    refine x_one (i := 20) (by kernel_rfl) ?_
    refine xk_valy (b := false) (.slice pa0 pn0 pc0) rfl (tg := 23) (by kernel_rfl) (congrArg Value.bool a2) (y_load rfl ((box_load Ag43 Sz43 a1 [(.int .i64 f.1)] [(.slice pa0 pn0 pc0)] [] rfl rfl (fun _ => rfl)) _ (Chg.refl _ _))) rfl (fun _ => hS) ?_
    refine x_one (i := 22) (by kernel_rfl) ?_
    obtain ⟨r10, b4, hs⟩ := bind_some hs
    refine xk_cally (b := false) rfl (tg := 23) (by kernel_rfl) (congrArg Value.bool a2) Bd77 rfl (c_impl_inSize (M := M) f.2 n h0 hO.fut b4) rfl (by rintro _ _ _ ⟨rfl, a5⟩; exact hS.ext a5) ?_
    rintro _ b7 ⟨rfl, a5⟩
    have h0 := h0.ext a5
    have a1 := a1.cn a5
    have hC := hC.ext a5
    have hO := hO.ext a5
    have hS := hS.ext a5
    refine x_p 23 (.bool r10) rfl (by kernel_rfl)  (fun _ => y_pick_t (congrArg Value.bool a2) rfl) (fun _ => hS) ?_
    refine x_p 24 (.bool r10) rfl (by kernel_rfl)  (fun _ => y_assign rfl) (fun _ => hS) ?_
    refine x_end (by kernel_rfl) ?_
    clear hS
    refine wp_ret ?_
    cases hs
    exact ⟨_, fr_ovl 29 ⟨rfl, trivial⟩, hC⟩
   refine x_pn 19 rfl (by kernel_rfl) (tg := 23) (by kernel_rfl) (congrArg Value.bool a2) (fun _ => hS) ?_
   refine x_pn 20 rfl (by kernel_rfl) (tg := 23) (by kernel_rfl) (congrArg Value.bool a2) (fun _ => hS) ?_
   refine x_pn 21 rfl (by kernel_rfl) (tg := 23) (by kernel_rfl) (congrArg Value.bool a2) (fun _ => hS) ?_
   refine x_pn 22 rfl (by kernel_rfl) (tg := 23) (by kernel_rfl) (congrArg Value.bool a2) (fun _ => hS) ?_
   refine x_p 23 (.bool false) rfl (by kernel_rfl)  (fun _ => y_pick_f (congrArg Value.bool a2) rfl) (fun _ => hS) ?_
   refine x_p 24 (.bool false) rfl (by kernel_rfl)  (fun _ => y_assign rfl) (fun _ => hS) ?_
   refine x_end (by kernel_rfl) ?_
   clear hS
   refine wp_ret ?_
   cases hs
   exact ⟨_, fr_ovl 29 ⟨rfl, trivial⟩, hC⟩
  refine x_pn 9 rfl (by kernel_rfl) (tg := 13) (by kernel_rfl) (congrArg Value.bool a0) (fun _ => hS) ?_
  refine x_pn 10 rfl (by kernel_rfl) (tg := 13) (by kernel_rfl) (congrArg Value.bool a0) (fun _ => hS) ?_
  refine x_pn 11 rfl (by kernel_rfl) (tg := 13) (by kernel_rfl) (congrArg Value.bool a0) (fun _ => hS) ?_
  refine x_pn 12 rfl (by kernel_rfl) (tg := 13) (by kernel_rfl) (congrArg Value.bool a0) (fun _ => hS) ?_
  refine x_pn 13 rfl (by kernel_rfl) (tg := 13) (by kernel_rfl) (congrArg Value.bool a0) (fun _ => hS) ?_
  refine x_pn 14 rfl (by kernel_rfl) (tg := 13) (by kernel_rfl) (congrArg Value.bool a0) (fun _ => hS) ?_
  refine x_pn 15 rfl (by kernel_rfl) (tg := 13) (by kernel_rfl) (congrArg Value.bool a0) (fun _ => hS) ?_
  refine x_pn 16 rfl (by kernel_rfl) (tg := 13) (by kernel_rfl) (congrArg Value.bool a0) (fun _ => hS) ?_
  refine x_p 17 (.bool false) rfl (by kernel_rfl)  (fun _ => y_pick_f (congrArg Value.bool a0) rfl) (fun _ => hS) ?_
  refine x_p 18 (.bool false) rfl (by kernel_rfl)  (fun _ => y_move rfl) (fun _ => hS) ?_
  refine x_pn 19 rfl (by kernel_rfl) (tg := 23) (by kernel_rfl) (by rfl) (fun _ => hS) ?_
  refine x_pn 20 rfl (by kernel_rfl) (tg := 23) (by kernel_rfl) (by rfl) (fun _ => hS) ?_
  refine x_pn 21 rfl (by kernel_rfl) (tg := 23) (by kernel_rfl) (by rfl) (fun _ => hS) ?_
  refine x_pn 22 rfl (by kernel_rfl) (tg := 23) (by kernel_rfl) (by rfl) (fun _ => hS) ?_
  refine x_p 23 (.bool false) rfl (by kernel_rfl)  (fun _ => y_pick_f (by rfl) rfl) (fun _ => hS) ?_
  refine x_p 24 (.bool false) rfl (by kernel_rfl)  (fun _ => y_assign rfl) (fun _ => hS) ?_
  refine x_end (by kernel_rfl) ?_
  clear hS
  refine wp_ret ?_
  cases hs
  exact ⟨_, fr_ovl 29 ⟨rfl, trivial⟩, hC⟩
 refine x_pn 4 rfl (by kernel_rfl) (tg := 8) (by kernel_rfl) (congrArg Value.bool a3) (fun _ => hS) ?_
 refine x_pn 5 rfl (by kernel_rfl) (tg := 8) (by kernel_rfl) (congrArg Value.bool a3) (fun _ => hS) ?_
 refine x_pn 6 rfl (by kernel_rfl) (tg := 8) (by kernel_rfl) (congrArg Value.bool a3) (fun _ => hS) ?_
 refine x_p 7 (.bool false) rfl (by kernel_rfl)  (fun _ => y_pick_f (congrArg Value.bool a3) rfl) (fun _ => hS) ?_
 refine x_p 8 (.bool false) rfl (by kernel_rfl)  (fun _ => y_move rfl) (fun _ => hS) ?_
 refine x_pn 9 rfl (by kernel_rfl) (tg := 13) (by kernel_rfl) (by rfl) (fun _ => hS) ?_
 refine x_pn 10 rfl (by kernel_rfl) (tg := 13) (by kernel_rfl) (by rfl) (fun _ => hS) ?_
 refine x_pn 11 rfl (by kernel_rfl) (tg := 13) (by kernel_rfl) (by rfl) (fun _ => hS) ?_
 refine x_pn 12 rfl (by kernel_rfl) (tg := 13) (by kernel_rfl) (by rfl) (fun _ => hS) ?_
 refine x_pn 13 rfl (by kernel_rfl) (tg := 13) (by kernel_rfl) (by rfl) (fun _ => hS) ?_
 refine x_pn 14 rfl (by kernel_rfl) (tg := 13) (by kernel_rfl) (by rfl) (fun _ => hS) ?_
 refine x_pn 15 rfl (by kernel_rfl) (tg := 13) (by kernel_rfl) (by rfl) (fun _ => hS) ?_
 refine x_pn 16 rfl (by kernel_rfl) (tg := 13) (by kernel_rfl) (by rfl) (fun _ => hS) ?_
 refine x_p 17 (.bool false) rfl (by kernel_rfl)  (fun _ => y_pick_f (by rfl) rfl) (fun _ => hS) ?_
 refine x_p 18 (.bool false) rfl (by kernel_rfl)  (fun _ => y_move rfl) (fun _ => hS) ?_
 refine x_pn 19 rfl (by kernel_rfl) (tg := 23) (by kernel_rfl) (by rfl) (fun _ => hS) ?_
 refine x_pn 20 rfl (by kernel_rfl) (tg := 23) (by kernel_rfl) (by rfl) (fun _ => hS) ?_
 refine x_pn 21 rfl (by kernel_rfl) (tg := 23) (by kernel_rfl) (by rfl) (fun _ => hS) ?_
 refine x_pn 22 rfl (by kernel_rfl) (tg := 23) (by kernel_rfl) (by rfl) (fun _ => hS) ?_
 refine x_p 23 (.bool false) rfl (by kernel_rfl)  (fun _ => y_pick_f (by rfl) rfl) (fun _ => hS) ?_
 refine x_p 24 (.bool false) rfl (by kernel_rfl)  (fun _ => y_assign rfl) (fun _ => hS) ?_
 refine x_end (by kernel_rfl) ?_
 clear hS
 refine wp_ret ?_
 cases hs
 exact ⟨_, fr_ovl 29 ⟨rfl, trivial⟩, hC⟩

theorem Bd76 : Bodied Try.prog 76 := bodied Try.func76 (by kernel_rfl) rfl

def k_impl_IsAlgebra (M : Nat → Prop) (w0 : World) (r : Bool) (a : Act) (w : World) : Prop :=
  ∃ (σ : Nat → Value) , a = fr 32 (ovl σ [(2, (.bool r))]) ∧ Chg [] w0 w
def s_impl_IsAlgebra (a_ : Int × (List (Int × (List Int)))) : Option (Bool) :=
  (bif (((decide (a_.1 < 1)) || (decide (8 < a_.1))) || (decide (4 < (a_.2.length : Int)))) then some false else (forR (S := Unit) (R := Bool) (fun _ x21 s18 =>
  (s_impl_isOp (x21.1, x21.2) a_.1).bind fun r30 =>
  (bif (!r30) then some (.rt false) else some (.nx ()))) 0 a_.2 ()).bind fun o22 => after o22 (fun r_ => some r_) (fun s18 =>
  some true))
set_option maxHeartbeats 4000000 in
theorem c_impl_IsAlgebra {M : Nat → Prop} {w : World} {pa0 : Option Addr} {pn0 pc0 : Nat} (a_ : Int × (List (Int × (List Int)))) (h0 : (RT.rs (RT.pr (RT.int .i64) (RT.rs (RT.int .i64)))).val M w (.slice pa0 pn0 pc0) a_.2 ([])) (hM : ∀ g, w.heap.size ≤ g → M g) {r : Bool} (hs : s_impl_IsAlgebra a_ = some r) :
    Gives Try.prog 39 [(.agg #[(.int .i64 a_.1), (.slice pa0 pn0 pc0)])] w (fun v w' => v = (.bool r) ∧ Chg [] w w') := by
 refine calls_fr Try.func39 rfl Try.ntmps39 (Nat.le_of_ble_eq_true rfl) ?_
 have hO := Own.start (N := Nw w []) hM Nw.fut
 have hC := Chg.refl [] w
 unfold s_impl_IsAlgebra at hs
 refine wp_mono (Q := KPost (k_impl_IsAlgebra M w r)) ?_ (fun e a c8 h => ?_)
 rotate_left
 ·cases e
  case ret =>
   obtain ⟨σ, rfl, hrest⟩ := h
   exact ret1x Try.results39 (res_tmp rfl) ⟨rfl, hrest⟩
  all_goals exact (h : False).elim
 refine c_sr ?_
 obtain ⟨b6, a1, c9, c1, b7, a0⟩ := new_block w [(.int .i64 a_.1), (.slice pa0 pn0 pc0)] 35
 refine pl_val (w' := b6) (.pointer (some ⟨a1, 0, none⟩)) (y_box rfl (by rw [c9, c1]; kernel_rfl)) ?_
 have h0 := h0.ext b7
 have hC := hC.ext b7
 have hO := hO.new1 b7 c1 a0.lt
 refine pl_val (.bool false) (y_assign rfl) ?_
 refine c_nil ?_
 refine c_seq ?_
 refine c_seq ?_
 refine c_mid (I := fun a c2 => ∃ (σ : Nat → Value), a = fr 32 (ovl σ [(1, (.pointer (some ⟨a1, 0, none⟩))), (2, (.bool false)), (18, (.bool (((decide (a_.1 < 1)) || (decide (8 < a_.1))) || (decide (4 < (a_.2.length : Int))))))]) ∧ Chg [] b6 c2) ?_ ?_
 ·have hMid := Chg.refl [] b6
  refine c_region ?_
  refine pl_val (.pointer (some ⟨a1, 0, none⟩)) (y_faddr rfl Fa35x0) ?_
  refine pl_val (.int .i64 a_.1) (y_load rfl ((box_load Ag3 Sz3 a0 [] [(.int .i64 a_.1)] [(.slice pa0 pn0 pc0)] rfl rfl (fun _ => rfl)) _ (Chg.refl _ _))) ?_
  refine pl_val (.bool (decide (a_.1 < 1))) (y_lss rfl rfl) ?_
  refine pl_val (.bool (decide (a_.1 < 1))) (y_move rfl) ?_
  rcases Bool.eq_false_or_eq_true ((decide (a_.1 < 1))) with a5 | a5
  ·skip
   refine pl_not (tg := 8) (by kernel_rfl) (congrArg Value.bool a5) ?_
   refine pl_not (tg := 8) (by kernel_rfl) (congrArg Value.bool a5) ?_
   refine pl_not (tg := 8) (by kernel_rfl) (congrArg Value.bool a5) ?_
   refine pl_val (.bool ((decide (a_.1 < 1)) || (decide (8 < a_.1)))) (y_pick_t (congrArg Value.bool a5) (congrArg Value.bool (by rw [a5]; rfl))) ?_
   refine pl_val (.bool ((decide (a_.1 < 1)) || (decide (8 < a_.1)))) (y_move rfl) ?_
   rcases Bool.eq_false_or_eq_true (((decide (a_.1 < 1)) || (decide (8 < a_.1)))) with a2 | a2
   ·skip
    refine pl_not (tg := 13) (by kernel_rfl) (congrArg Value.bool a2) ?_
    refine pl_not (tg := 13) (by kernel_rfl) (congrArg Value.bool a2) ?_
    refine pl_not (tg := 13) (by kernel_rfl) (congrArg Value.bool a2) ?_
    refine pl_not (tg := 13) (by kernel_rfl) (congrArg Value.bool a2) ?_
    refine pl_val (.bool (((decide (a_.1 < 1)) || (decide (8 < a_.1))) || (decide (4 < (a_.2.length : Int))))) (y_pick_t (congrArg Value.bool a2) (congrArg Value.bool (by rw [a2]; rfl))) ?_
    refine c_nil ?_
    exact ⟨_, fr_ovl 32 ⟨rfl, rfl, rfl, trivial⟩, hMid⟩
   refine pl_yes (.pointer (some ⟨a1, 1, none⟩)) (tg := 13) (by kernel_rfl) (congrArg Value.bool a2) (y_faddr rfl Fa35x1) ?_
   refine pl_yes (.slice pa0 pn0 pc0) (tg := 13) (by kernel_rfl) (congrArg Value.bool a2) (y_load rfl ((box_load Ag33 Sz33 a0 [(.int .i64 a_.1)] [(.slice pa0 pn0 pc0)] [] rfl rfl (fun _ => rfl)) _ (Chg.refl _ _))) ?_
   refine pl_yes (.int .i64 (a_.2.length : Int)) (tg := 13) (by kernel_rfl) (congrArg Value.bool a2) (y_len' Sl33 (rs_len h0) rfl) ?_
   refine pl_yes (.bool (decide (4 < (a_.2.length : Int)))) (tg := 13) (by kernel_rfl) (congrArg Value.bool a2) (y_gtr rfl rfl) ?_
   refine pl_val (.bool (((decide (a_.1 < 1)) || (decide (8 < a_.1))) || (decide (4 < (a_.2.length : Int))))) (y_pick_f (congrArg Value.bool a2) (congrArg Value.bool (by rw [a2]; rfl))) ?_
   refine c_nil ?_
   exact ⟨_, fr_ovl 32 ⟨rfl, rfl, rfl, trivial⟩, hMid⟩
  refine pl_yes (.pointer (some ⟨a1, 0, none⟩)) (tg := 8) (by kernel_rfl) (congrArg Value.bool a5) (y_faddr rfl Fa35x0) ?_
  refine pl_yes (.int .i64 a_.1) (tg := 8) (by kernel_rfl) (congrArg Value.bool a5) (y_load rfl ((box_load Ag3 Sz3 a0 [] [(.int .i64 a_.1)] [(.slice pa0 pn0 pc0)] rfl rfl (fun _ => rfl)) _ (Chg.refl _ _))) ?_
  refine pl_yes (.bool (decide (8 < a_.1))) (tg := 8) (by kernel_rfl) (congrArg Value.bool a5) (y_gtr rfl rfl) ?_
  refine pl_val (.bool ((decide (a_.1 < 1)) || (decide (8 < a_.1)))) (y_pick_f (congrArg Value.bool a5) (congrArg Value.bool (by rw [a5]; rfl))) ?_
  refine pl_val (.bool ((decide (a_.1 < 1)) || (decide (8 < a_.1)))) (y_move rfl) ?_
  rcases Bool.eq_false_or_eq_true (((decide (a_.1 < 1)) || (decide (8 < a_.1)))) with a3 | a3
  ·skip
   refine pl_not (tg := 13) (by kernel_rfl) (congrArg Value.bool a3) ?_
   refine pl_not (tg := 13) (by kernel_rfl) (congrArg Value.bool a3) ?_
   refine pl_not (tg := 13) (by kernel_rfl) (congrArg Value.bool a3) ?_
   refine pl_not (tg := 13) (by kernel_rfl) (congrArg Value.bool a3) ?_
   refine pl_val (.bool (((decide (a_.1 < 1)) || (decide (8 < a_.1))) || (decide (4 < (a_.2.length : Int))))) (y_pick_t (congrArg Value.bool a3) (congrArg Value.bool (by rw [a3]; rfl))) ?_
   refine c_nil ?_
   exact ⟨_, fr_ovl 32 ⟨rfl, rfl, rfl, trivial⟩, hMid⟩
  refine pl_yes (.pointer (some ⟨a1, 1, none⟩)) (tg := 13) (by kernel_rfl) (congrArg Value.bool a3) (y_faddr rfl Fa35x1) ?_
  refine pl_yes (.slice pa0 pn0 pc0) (tg := 13) (by kernel_rfl) (congrArg Value.bool a3) (y_load rfl ((box_load Ag33 Sz33 a0 [(.int .i64 a_.1)] [(.slice pa0 pn0 pc0)] [] rfl rfl (fun _ => rfl)) _ (Chg.refl _ _))) ?_
  refine pl_yes (.int .i64 (a_.2.length : Int)) (tg := 13) (by kernel_rfl) (congrArg Value.bool a3) (y_len' Sl33 (rs_len h0) rfl) ?_
  refine pl_yes (.bool (decide (4 < (a_.2.length : Int)))) (tg := 13) (by kernel_rfl) (congrArg Value.bool a3) (y_gtr rfl rfl) ?_
  refine pl_val (.bool (((decide (a_.1 < 1)) || (decide (8 < a_.1))) || (decide (4 < (a_.2.length : Int))))) (y_pick_f (congrArg Value.bool a3) (congrArg Value.bool (by rw [a3]; rfl))) ?_
  refine c_nil ?_
  exact ⟨_, fr_ovl 32 ⟨rfl, rfl, rfl, trivial⟩, hMid⟩
 rintro c3 c2 ⟨σ, rfl, b5⟩
 have h0 := h0.ext b5
 have a0 := a0.cn b5
 have hC := hC.ext b5
 have hO := hO.ext b5
 rcases bif_some hs with ⟨b8, hs⟩ | ⟨b8, hs⟩
 ·refine c_condT (congrArg Value.bool b8) ?_
  refine c_sr ?_
  refine pl_val (.bool false) (y_assign rfl) ?_
  refine c_nil ?_
  refine wp_ret ?_
  cases hs
  exact ⟨_, fr_ovl 32 ⟨rfl, trivial⟩, hC⟩
 refine c_condF (congrArg Value.bool b8) ?_
 refine wp_skip ?_
 refine c_seq ?_
 refine c_sr ?_
 refine pl_val (.pointer (some ⟨a1, 1, none⟩)) (y_faddr rfl Fa35x1) ?_
 refine pl_val (.slice pa0 pn0 pc0) (y_load rfl ((box_load Ag33 Sz33 a0 [(.int .i64 a_.1)] [(.slice pa0 pn0 pc0)] [] rfl rfl (fun _ => rfl)) _ (Chg.refl _ _))) ?_
 refine pl_val (.int .i64 (a_.2.length : Int)) (y_len' Sl33 (rs_len h0) rfl) ?_
 refine pl_val (.int .i64 0) (y_move rfl) ?_
 refine c_nil ?_
 obtain ⟨o22, d0, hs⟩ := bind_some hs
 refine wp_block ?_
 refine wp_forR (id := 0) (I := fun i_ xs_ s18 a a4 => ∃ a6 : Nat, i_ = (a6 : Int) ∧ List.drop a6 a_.2 = xs_ ∧ (∃ (σ : Nat → Value), a = fr 32 (ovl σ [(1, (.pointer (some ⟨a1, 0, none⟩))), (20, (.slice pa0 pn0 pc0)), (21, (.int .i64 (a_.2.length : Int))), (22, (.int .i64 (a6 : Int)))]) ∧ Chg [] w a4 ∧ Own (Nw w []) M a4 (([a1]) ++ []) ∧ (RT.rs (RT.pr (RT.int .i64) (RT.rs (RT.int .i64)))).val M a4 (.slice pa0 pn0 pc0) a_.2 ([]) ∧ BoxV a4 a1 35 [(.int .i64 a_.1), (.slice pa0 pn0 pc0)])) (J := fun s18 a a4 => ∃ (σ : Nat → Value), a = fr 32 (ovl σ []) ∧ Chg [] w a4 ∧ Own (Nw w []) M a4 (([a1]) ++ []) ∧ (RT.rs (RT.pr (RT.int .i64) (RT.rs (RT.int .i64)))).val M a4 (.slice pa0 pn0 pc0) a_.2 ([]) ∧ BoxV a4 a1 35 [(.int .i64 a_.1), (.slice pa0 pn0 pc0)]) (K := (k_impl_IsAlgebra M w)) ?_ ?_ a_.2 0 () o22 _ _ ?_ d0 ?_
 ·rintro _ s18 a a4 ⟨a6, rfl, hd, σ, rfl, hC, hO, h0, a0⟩
  have hlt := drop_nil_ge hd
  refine c_sr ?_
  refine pl_val (.bool (decide ((a6 : Int) < (a_.2.length : Int)))) (y_lss rfl rfl) ?_
  refine c_nil ?_
  refine c_seq ?_
  refine c_condF (congrArg Value.bool (decide_eq_false hlt)) ?_
  refine wp_exit ?_
  exact ⟨rfl, _, fr_ovl 32 trivial, hC, hO, h0, a0⟩
 ·rintro _ x21 xs_ s18 o22 a a4 ⟨a6, rfl, hd, σ, rfl, hC, hO, h0, a0⟩ hs
  have hlt := drop_cons_lt hd
  have d1 := drop_cons_idx hd
  refine c_sr ?_
  refine pl_val (.bool (decide ((a6 : Int) < (a_.2.length : Int)))) (y_lss rfl rfl) ?_
  refine c_nil ?_
  refine c_seq ?_
  refine c_condT (congrArg Value.bool (decide_eq_true hlt)) ?_
  refine wp_skip ?_
  refine c_seq ?_
  refine wp_block ?_
  refine c_sr ?_
  obtain ⟨d2, d3, d4, b9⟩ := rs_idx Sl33 Sz89 h0 d1
  refine pl_val (.pointer (some ⟨d2, d3, none⟩)) (d4 _ _ _ _ _ _ _ _ _ rfl rfl) ?_
  obtain ⟨e4, d5, d6⟩ := at_load Ag89 Sz89 (by intro h; cases h) b9
  obtain ⟨e5, rfl, d7⟩ := d6
  obtain ⟨e6, e7, rfl, d8, d9⟩ := pr_open d7
  obtain rfl := int_rel d8
  obtain ⟨b0, b1, b2, rfl, a7⟩ := rs_rel d9
  refine pl_val (.agg #[(.int .i64 x21.1), (.slice b0 b1 b2)]) (y_load rfl (d5 _ (Chg.refl _ _))) ?_
  obtain ⟨e0, c4, e1, c5, a8, c6⟩ := new_block a4 [(.int .i64 0), (.slice none 0 0)] 89
  refine pl_val (w' := e0) (.pointer (some ⟨c4, 0, none⟩)) (y_alloc (by rw [e1, c5]; kernel_rfl)) ?_
  have h0 := h0.ext a8
  have a0 := a0.cn a8
  have a7 := a7.ext a8
  have b9 := at_ext b9 a8
  have hC := hC.ext a8
  have hO := hO.new1 a8 c5 c6.lt
  obtain ⟨c7, e2, b3, b4⟩ := box_store (P := Try.prog) c6 [] [(.int .i64 0), (.slice none 0 0)] [] [(.int .i64 x21.1), (.slice b0 b1 b2)] rfl rfl (by intro u hu; simp only [List.mem_cons, List.not_mem_nil, or_false] at hu; rcases hu with rfl | rfl <;> rfl)
  refine pl_skip (w' := c7) (ys_store rfl rfl (e2 _ _ rfl Sz89)) ?_
  have h0 := h0.mt b3 hO same_
  have a0 := a0.ap b3 hO same_ (mem_l (List.mem_singleton.2 rfl))
  have a7 := a7.mt b3 hO same_
  have hC := hC.st b3 hO same_
  have hO := hO.ext b3
  have b4 : BoxV c7 c4 89 [(.int .i64 x21.1), (.slice b0 b1 b2)] := b4
  refine c_nil ?_
  refine c_sr ?_
  refine pl_val (.agg #[(.int .i64 x21.1), (.slice b0 b1 b2)]) (y_load rfl ((box_load Ag89 Sz89 b4 [] [(.int .i64 x21.1), (.slice b0 b1 b2)] [] rfl rfl (fun h => nomatch h)) _ (Chg.refl _ _))) ?_
  refine pl_val (.pointer (some ⟨a1, 0, none⟩)) (y_faddr rfl Fa35x0) ?_
  refine pl_val (.int .i64 a_.1) (y_load rfl ((box_load Ag3 Sz3 a0 [] [(.int .i64 a_.1)] [(.slice pa0 pn0 pc0)] rfl rfl (fun _ => rfl)) _ (Chg.refl _ _))) ?_
  obtain ⟨r30, e3, hs⟩ := bind_some hs
  refine pl_call Bd76 rfl (c_impl_isOp (M := M) (x21.1, x21.2) a_.1 a7 hO.fut e3) ?_
  rintro _ e8 ⟨rfl, a9⟩
  have h0 := h0.ext a9
  have a0 := a0.cn a9
  have a7 := a7.ext a9
  have b4 := b4.cn a9
  have hC := hC.ext a9
  have hO := hO.ext a9
  refine pl_val (.bool (!r30)) (y_not rfl) ?_
  refine c_nil ?_
  rcases bif_some hs with ⟨c0, hs⟩ | ⟨c0, hs⟩
  ·refine c_condT (congrArg Value.bool c0) ?_
   refine c_sr ?_
   refine pl_val (.bool false) (y_assign rfl) ?_
   refine c_nil ?_
   refine wp_ret ?_
   cases hs
   exact ⟨_, fr_ovl 32 ⟨rfl, trivial⟩, hC⟩
  refine c_condF (congrArg Value.bool c0) ?_
  refine wp_skip ?_
  refine c_region ?_
  refine pl_val (.int .i64 (w64 ((a6 : Int) + 1))) (y_add rfl rfl) ?_
  refine pl_val (.int .i64 (w64 ((a6 : Int) + 1))) (y_move rfl) ?_
  refine c_nil ?_
  cases hs
  have hO := hO.drop
  exact ⟨_, rfl, drop_cons_next hd, _, fr_ovl 32 ⟨rfl, rfl, rfl, congrArg (Value.int .i64) (w64_succ hlt (Int.natCast_nonneg _) (rs_max h0)), trivial⟩, hC, hO, h0, a0⟩
 ·skip
  exact ⟨0, rfl, rfl, _, fr_ovl 32 ⟨rfl, rfl, rfl, rfl, trivial⟩, hC, hO, h0, a0⟩
 cases o22 with
 | nx _ => exact True.intro
 | rt r_ =>
  have hs := after_rt hs
  intro c3 c8 hK
  cases hs
  exact hK
 | br s18 =>
  have hs := after_br hs
  rintro c3 a4 ⟨σ, rfl, hC, hO, h0, a0⟩
  refine c_sr ?_
  refine pl_val (.bool true) (y_assign rfl) ?_
  refine c_nil ?_
  refine wp_ret ?_
  cases hs
  exact ⟨_, fr_ovl 32 ⟨rfl, trivial⟩, hC⟩

def k_impl_compareLists (M : Nat → Prop) (w0 : World) (r : Int) (a : Act) (w : World) : Prop :=
  ∃ (σ : Nat → Value) , a = fr 48 (ovl σ [(4, (.int .i64 r))]) ∧ Chg [] w0 w
def s_impl_compareLists (s_ : List Int) (t : List Int) : Option (Int) :=
  (iter (S := Int) (R := Int) (fun s25 =>
  (bif ((decide (s25 < (s_.length : Int))) && (decide (s25 < (t.length : Int)))) then (idx s_ s25).bind fun x42 =>
  (idx t s25).bind fun x44 =>
  (bif (x42 != x44) then (idx s_ s25).bind fun x48 =>
  (idx t s25).bind fun x50 =>
  (bif (decide (x48 < x50)) then some (.rt (-1)) else some (.rt 1)) else some (.nx (w64 (s25 + 1)))) else some (.br s25))) FU 0).bind fun o29 => after o29 (fun r_ => some r_) (fun s25 =>
  (bif (decide ((s_.length : Int) < (t.length : Int))) then some (-1) else (bif (decide ((t.length : Int) < (s_.length : Int))) then some 1 else some 0)))
set_option maxHeartbeats 4000000 in
theorem c_impl_compareLists {M : Nat → Prop} {w : World} {pa0 : Option Addr} {pn0 pc0 : Nat} {pa1 : Option Addr} {pn1 pc1 : Nat} (s_ : List Int) (t : List Int) (h0 : (RT.rs (RT.int .i64)).val M w (.slice pa0 pn0 pc0) s_ ([])) (h1 : (RT.rs (RT.int .i64)).val M w (.slice pa1 pn1 pc1) t ([])) (hM : ∀ g, w.heap.size ≤ g → M g) {r : Int} (hs : s_impl_compareLists s_ t = some r) :
    Gives Try.prog 78 [(.slice pa0 pn0 pc0), (.slice pa1 pn1 pc1)] w (fun v w' => v = (.int .i64 r) ∧ Chg [] w w') := by
 refine calls_fr Try.func78 rfl Try.ntmps78 (Nat.le_of_ble_eq_true rfl) ?_
 have hO := Own.start (N := Nw w []) hM Nw.fut
 have hC := Chg.refl [] w
 unfold s_impl_compareLists at hs
 refine wp_mono (Q := KPost (k_impl_compareLists M w r)) ?_ (fun e a b5 h => ?_)
 rotate_left
 ·cases e
  case ret =>
   obtain ⟨σ, rfl, hrest⟩ := h
   exact ret1x Try.results78 (res_tmp rfl) ⟨rfl, hrest⟩
  all_goals exact (h : False).elim
 refine c_sr ?_
 refine pl_val (.int .i64 0) (y_assign rfl) ?_
 refine c_nil ?_
 refine c_seq ?_
 refine c_sr ?_
 refine pl_val (.int .i64 0) (y_assign rfl) ?_
 refine c_nil ?_
 obtain ⟨o29, b6, hs⟩ := bind_some hs
 refine wp_block ?_
 refine wp_iter (id := 0) (I := fun s25 a a0 => ∃ (σ : Nat → Value), a = fr 48 (ovl σ [(0, (.slice pa0 pn0 pc0)), (1, (.slice pa1 pn1 pc1)), (5, (.int .i64 s25))]) ∧ Chg [] w a0 ∧ Own (Nw w []) M a0 ([]) ∧ (RT.rs (RT.int .i64)).val M a0 (.slice pa0 pn0 pc0) s_ ([]) ∧ (RT.rs (RT.int .i64)).val M a0 (.slice pa1 pn1 pc1) t ([])) (J := fun s25 a a0 => ∃ (σ : Nat → Value), a = fr 48 (ovl σ [(0, (.slice pa0 pn0 pc0)), (1, (.slice pa1 pn1 pc1))]) ∧ Chg [] w a0 ∧ Own (Nw w []) M a0 ([]) ∧ (RT.rs (RT.int .i64)).val M a0 (.slice pa0 pn0 pc0) s_ ([]) ∧ (RT.rs (RT.int .i64)).val M a0 (.slice pa1 pn1 pc1) t ([])) (K := (k_impl_compareLists M w)) ?_ FU 0 o29 _ _ ?_ b6 ?_
 ·rintro s25 o29 a a0 ⟨σ, rfl, hC, hO, h0, h1⟩ hs
  refine c_seq ?_
  refine c_seq ?_
  refine c_mid (I := fun a a4 => ∃ (σ : Nat → Value), a = fr 48 (ovl σ [(0, (.slice pa0 pn0 pc0)), (1, (.slice pa1 pn1 pc1)), (5, (.int .i64 s25)), (15, (.bool ((decide (s25 < (s_.length : Int))) && (decide (s25 < (t.length : Int))))))]) ∧ Chg [] a0 a4) ?_ ?_
  ·have hMid := Chg.refl [] a0
   refine c_region ?_
   refine pl_val (.int .i64 s25) (y_move rfl) ?_
   refine pl_val (.slice pa0 pn0 pc0) (y_move rfl) ?_
   refine pl_val (.int .i64 (s_.length : Int)) (y_len' Sl43 (rs_len h0) rfl) ?_
   refine pl_val (.bool (decide (s25 < (s_.length : Int)))) (y_lss rfl rfl) ?_
   refine pl_val (.bool (decide (s25 < (s_.length : Int)))) (y_move rfl) ?_
   rcases Bool.eq_false_or_eq_true ((decide (s25 < (s_.length : Int)))) with a1 | a1
   ·skip
    refine pl_yes (.int .i64 s25) (tg := 10) (by kernel_rfl) (congrArg Value.bool a1) (y_move rfl) ?_
    refine pl_yes (.slice pa1 pn1 pc1) (tg := 10) (by kernel_rfl) (congrArg Value.bool a1) (y_move rfl) ?_
    refine pl_yes (.int .i64 (t.length : Int)) (tg := 10) (by kernel_rfl) (congrArg Value.bool a1) (y_len' Sl43 (rs_len h1) rfl) ?_
    refine pl_yes (.bool (decide (s25 < (t.length : Int)))) (tg := 10) (by kernel_rfl) (congrArg Value.bool a1) (y_lss rfl rfl) ?_
    refine pl_val (.bool ((decide (s25 < (s_.length : Int))) && (decide (s25 < (t.length : Int))))) (y_pick_t (congrArg Value.bool a1) (congrArg Value.bool (by rw [a1]; rfl))) ?_
    refine c_nil ?_
    exact ⟨_, fr_ovl 48 ⟨rfl, rfl, rfl, rfl, trivial⟩, hMid⟩
   refine pl_not (tg := 10) (by kernel_rfl) (congrArg Value.bool a1) ?_
   refine pl_not (tg := 10) (by kernel_rfl) (congrArg Value.bool a1) ?_
   refine pl_not (tg := 10) (by kernel_rfl) (congrArg Value.bool a1) ?_
   refine pl_not (tg := 10) (by kernel_rfl) (congrArg Value.bool a1) ?_
   refine pl_val (.bool ((decide (s25 < (s_.length : Int))) && (decide (s25 < (t.length : Int))))) (y_pick_f (congrArg Value.bool a1) (congrArg Value.bool (by rw [a1]; rfl))) ?_
   refine c_nil ?_
   exact ⟨_, fr_ovl 48 ⟨rfl, rfl, rfl, rfl, trivial⟩, hMid⟩
  rintro b4 a4 ⟨σ, rfl, a5⟩
  have h0 := h0.ext a5
  have h1 := h1.ext a5
  have hC := hC.ext a5
  have hO := hO.ext a5
  rcases bif_some hs with ⟨a6, hs⟩ | ⟨a6, hs⟩
  ·refine c_condT (congrArg Value.bool a6) ?_
   refine wp_skip ?_
   refine c_seq ?_
   refine wp_block ?_
   refine c_seq ?_
   refine x_start [] Mx rfl ?_
   have a3 := Chg.drew a4
   generalize World.drew a4 = a7 at a3 ⊢
   have h0 := h0.ext a3
   have h1 := h1.ext a3
   have hC := hC.ext a3
   have hO := hO.ext a3
   have hS := Chg.refl [] a7
   refine x_p 0 (.slice pa0 pn0 pc0) rfl (by kernel_rfl)  (fun _ => y_move rfl) (fun _ => hS) ?_
   refine x_p 1 (.int .i64 s25) rfl (by kernel_rfl)  (fun _ => y_move rfl) (fun _ => hS) ?_
   obtain ⟨x42, b7, hs⟩ := bind_some hs
   obtain ⟨b8, b9, c0, a8⟩ := rs_idx Sl43 Sz3 h0 b7
   refine x_p 2 (.pointer (some ⟨b8, b9, none⟩)) rfl (by kernel_rfl)  (fun _ => c0 _ _ _ _ _ _ _ _ _ rfl rfl) (fun _ => hS) ?_
   refine x_l 3 (.int .i64 x42) rfl (by kernel_rfl)  (fun w' hw' => y_load rfl ((at_load_int Ag3 Sz3 a8) w' hw')) hS ?_
   refine x_p 4 (.slice pa1 pn1 pc1) rfl (by kernel_rfl)  (fun _ => y_move rfl) (fun _ => hS) ?_
   refine x_p 5 (.int .i64 s25) rfl (by kernel_rfl)  (fun _ => y_move rfl) (fun _ => hS) ?_
   obtain ⟨x44, c1, hs⟩ := bind_some hs
   obtain ⟨c2, c3, c4, a9⟩ := rs_idx Sl43 Sz3 h1 c1
   refine x_p 6 (.pointer (some ⟨c2, c3, none⟩)) rfl (by kernel_rfl)  (fun _ => c4 _ _ _ _ _ _ _ _ _ rfl rfl) (fun _ => hS) ?_
   refine x_l 7 (.int .i64 x44) rfl (by kernel_rfl)  (fun w' hw' => y_load rfl ((at_load_int Ag3 Sz3 a9) w' hw')) hS ?_
   refine x_p 8 (.bool (x42 != x44)) rfl (by kernel_rfl)  (fun _ => y_neq rfl rfl) (fun _ => hS) ?_
   refine x_end (by kernel_rfl) ?_
   clear hS
   rcases bif_some hs with ⟨b0, hs⟩ | ⟨b0, hs⟩
   ·refine c_condT (congrArg Value.bool b0) ?_
    refine c_seq ?_
    refine c_seq ?_
    refine x_start [] Mx rfl ?_
    have a2 := Chg.drew a7
    generalize World.drew a7 = c5 at a2 ⊢
    have h0 := h0.ext a2
    have h1 := h1.ext a2
    have a8 := at_ext a8 a2
    have a9 := at_ext a9 a2
    have hC := hC.ext a2
    have hO := hO.ext a2
    have hS := Chg.refl [] c5
    refine x_p 0 (.slice pa0 pn0 pc0) rfl (by kernel_rfl)  (fun _ => y_move rfl) (fun _ => hS) ?_
    refine x_p 1 (.int .i64 s25) rfl (by kernel_rfl)  (fun _ => y_move rfl) (fun _ => hS) ?_
    obtain ⟨x48, c6, hs⟩ := bind_some hs
    obtain ⟨c7, c8, c9, d0⟩ := rs_idx Sl43 Sz3 h0 c6
    refine x_p 2 (.pointer (some ⟨c7, c8, none⟩)) rfl (by kernel_rfl)  (fun _ => c9 _ _ _ _ _ _ _ _ _ rfl rfl) (fun _ => hS) ?_
    refine x_l 3 (.int .i64 x48) rfl (by kernel_rfl)  (fun w' hw' => y_load rfl ((at_load_int Ag3 Sz3 d0) w' hw')) hS ?_
    refine x_p 4 (.slice pa1 pn1 pc1) rfl (by kernel_rfl)  (fun _ => y_move rfl) (fun _ => hS) ?_
    refine x_p 5 (.int .i64 s25) rfl (by kernel_rfl)  (fun _ => y_move rfl) (fun _ => hS) ?_
    obtain ⟨x50, d1, hs⟩ := bind_some hs
    obtain ⟨d2, d3, d4, d5⟩ := rs_idx Sl43 Sz3 h1 d1
    refine x_p 6 (.pointer (some ⟨d2, d3, none⟩)) rfl (by kernel_rfl)  (fun _ => d4 _ _ _ _ _ _ _ _ _ rfl rfl) (fun _ => hS) ?_
    refine x_l 7 (.int .i64 x50) rfl (by kernel_rfl)  (fun w' hw' => y_load rfl ((at_load_int Ag3 Sz3 d5) w' hw')) hS ?_
    refine x_p 8 (.bool (decide (x48 < x50))) rfl (by kernel_rfl)  (fun _ => y_lss rfl rfl) (fun _ => hS) ?_
    refine x_end (by kernel_rfl) ?_
    clear hS
    rcases bif_some hs with ⟨b1, hs⟩ | ⟨b1, hs⟩
    ·refine c_condT (congrArg Value.bool b1) ?_
     refine c_sr ?_
     refine pl_val (.int .i64 (-1)) (y_assign rfl) ?_
     refine c_nil ?_
     refine wp_ret ?_
     cases hs
     exact ⟨_, fr_ovl 48 ⟨rfl, trivial⟩, hC⟩
    refine c_condF (congrArg Value.bool b1) ?_
    refine wp_skip ?_
    refine c_sr ?_
    refine pl_val (.int .i64 1) (y_assign rfl) ?_
    refine c_nil ?_
    refine wp_ret ?_
    cases hs
    exact ⟨_, fr_ovl 48 ⟨rfl, trivial⟩, hC⟩
   refine c_condF (congrArg Value.bool b0) ?_
   refine wp_skip ?_
   refine c_region ?_
   refine pl_val (.int .i64 s25) (y_move rfl) ?_
   refine pl_val (.int .i64 (w64 (s25 + 1))) (y_add rfl rfl) ?_
   refine pl_val (.int .i64 (w64 (s25 + 1))) (y_assign rfl) ?_
   refine c_nil ?_
   cases hs
   exact ⟨_, fr_ovl 48 ⟨rfl, rfl, rfl, trivial⟩, hC, hO, h0, h1⟩
  refine c_condF (congrArg Value.bool a6) ?_
  refine wp_exit ?_
  cases hs
  exact ⟨rfl, _, fr_ovl 48 ⟨rfl, rfl, trivial⟩, hC, hO, h0, h1⟩
 ·skip
  exact ⟨_, fr_ovl 48 ⟨rfl, rfl, rfl, trivial⟩, hC, hO, h0, h1⟩
 cases o29 with
 | nx _ => exact True.intro
 | rt r_ =>
  have hs := after_rt hs
  intro b4 b5 hK
  cases hs
  exact hK
 | br s25 =>
  have hs := after_br hs
  rintro b4 a0 ⟨σ, rfl, hC, hO, h0, h1⟩
  refine c_seq ?_
  refine wp_block ?_
  refine c_sr ?_
  refine pl_val (.slice pa0 pn0 pc0) (y_move rfl) ?_
  refine pl_val (.int .i64 (s_.length : Int)) (y_len' Sl43 (rs_len h0) rfl) ?_
  refine pl_val (.slice pa1 pn1 pc1) (y_move rfl) ?_
  refine pl_val (.int .i64 (t.length : Int)) (y_len' Sl43 (rs_len h1) rfl) ?_
  refine pl_val (.bool (decide ((s_.length : Int) < (t.length : Int)))) (y_lss rfl rfl) ?_
  refine pl_val (.bool (decide ((s_.length : Int) < (t.length : Int)))) (y_assign rfl) ?_
  refine c_nil ?_
  rcases bif_some hs with ⟨b2, hs⟩ | ⟨b2, hs⟩
  ·refine c_condT (congrArg Value.bool b2) ?_
   refine c_sr ?_
   refine pl_val (.int .i64 (-1)) (y_assign rfl) ?_
   refine c_nil ?_
   refine wp_ret ?_
   cases hs
   exact ⟨_, fr_ovl 48 ⟨rfl, trivial⟩, hC⟩
  refine c_condF (congrArg Value.bool b2) ?_
  refine c_sr ?_
  refine pl_val (.slice pa0 pn0 pc0) (y_move rfl) ?_
  refine pl_val (.int .i64 (s_.length : Int)) (y_len' Sl43 (rs_len h0) rfl) ?_
  refine pl_val (.slice pa1 pn1 pc1) (y_move rfl) ?_
  refine pl_val (.int .i64 (t.length : Int)) (y_len' Sl43 (rs_len h1) rfl) ?_
  refine pl_val (.bool (decide ((t.length : Int) < (s_.length : Int)))) (y_gtr rfl rfl) ?_
  refine pl_val (.bool (decide ((t.length : Int) < (s_.length : Int)))) (y_assign rfl) ?_
  refine c_nil ?_
  rcases bif_some hs with ⟨b3, hs⟩ | ⟨b3, hs⟩
  ·refine c_condT (congrArg Value.bool b3) ?_
   refine c_sr ?_
   refine pl_val (.int .i64 1) (y_assign rfl) ?_
   refine c_nil ?_
   refine wp_ret ?_
   cases hs
   exact ⟨_, fr_ovl 48 ⟨rfl, trivial⟩, hC⟩
  refine c_condF (congrArg Value.bool b3) ?_
  refine wp_skip ?_
  refine c_sr ?_
  refine pl_val (.int .i64 0) (y_assign rfl) ?_
  refine c_nil ?_
  refine wp_ret ?_
  cases hs
  exact ⟨_, fr_ovl 48 ⟨rfl, trivial⟩, hC⟩

theorem Bd78 : Bodied Try.prog 78 := bodied Try.func78 (by kernel_rfl) rfl

def k_impl_isRelation (M : Nat → Prop) (w0 : World) (r : Bool) (a : Act) (w : World) : Prop :=
  ∃ (σ : Nat → Value) , a = fr 50 (ovl σ [(4, (.bool r))]) ∧ Chg [] w0 w
def s_impl_isRelation (n : Int) (r_ : Int × (List (List Int))) : Option (Bool) :=
  (bif ((decide (r_.1 < 1)) || (decide (3 < r_.1))) then some false else (forC (S := Unit) (R := Bool) (fun k26 s24 =>
  (idx r_.2 k26).bind fun x30 =>
  (bif ((x30.length : Int) != r_.1) then some (.rt false) else (s_impl_inSize x30 n).bind fun r36 =>
  (bif (!r36) then some (.rt false) else (bif (decide (0 < k26)) then (idx r_.2 (w64 (k26 - 1))).bind fun x39 =>
  (s_impl_compareLists x39 x30).bind fun r44 =>
  (bif (decide (0 ≤ r44)) then some (.rt false) else some (.nx ())) else some (.nx ()))))) 0 (r_.2.length : Int) ()).bind fun o28 => after o28 (fun r_ => some r_) (fun s24 =>
  some true))
set_option maxHeartbeats 4000000 in
theorem c_impl_isRelation {M : Nat → Prop} {w : World} {pa0 : Option Addr} {pn0 pc0 : Nat} (n : Int) (r_ : Int × (List (List Int))) (h0 : (RT.rs (RT.rs (RT.int .i64))).val M w (.slice pa0 pn0 pc0) r_.2 ([])) (hM : ∀ g, w.heap.size ≤ g → M g) {r : Bool} (hs : s_impl_isRelation n r_ = some r) :
    Gives Try.prog 40 [(.int .i64 n), (.agg #[(.int .i64 r_.1), (.slice pa0 pn0 pc0)])] w (fun v w' => v = (.bool r) ∧ Chg [] w w') := by
 refine calls_fr Try.func40 rfl Try.ntmps40 (Nat.le_of_ble_eq_true rfl) ?_
 have hO := Own.start (N := Nw w []) hM Nw.fut
 have hC := Chg.refl [] w
 unfold s_impl_isRelation at hs
 refine wp_mono (Q := KPost (k_impl_isRelation M w r)) ?_ (fun e a c3 h => ?_)
 rotate_left
 ·cases e
  case ret =>
   obtain ⟨σ, rfl, hrest⟩ := h
   exact ret1x Try.results40 (res_tmp rfl) ⟨rfl, hrest⟩
  all_goals exact (h : False).elim
 refine c_sr ?_
 obtain ⟨b5, a3, c4, c0, b6, a1⟩ := new_block w [(.int .i64 r_.1), (.slice pa0 pn0 pc0)] 30
 refine pl_val (w' := b5) (.pointer (some ⟨a3, 0, none⟩)) (y_box rfl (by rw [c4, c0]; kernel_rfl)) ?_
 have h0 := h0.ext b6
 have hC := hC.ext b6
 have hO := hO.new1 b6 c0 a1.lt
 refine pl_val (.bool false) (y_assign rfl) ?_
 refine c_nil ?_
 refine c_seq ?_
 refine c_seq ?_
 refine c_mid (I := fun a c1 => ∃ (σ : Nat → Value), a = fr 50 (ovl σ [(0, (.int .i64 n)), (3, (.pointer (some ⟨a3, 0, none⟩))), (4, (.bool false)), (14, (.bool ((decide (r_.1 < 1)) || (decide (3 < r_.1)))))]) ∧ Chg [] b5 c1) ?_ ?_
 ·have hMid := Chg.refl [] b5
  refine c_region ?_
  refine pl_val (.pointer (some ⟨a3, 0, none⟩)) (y_faddr rfl Fa30x0) ?_
  refine pl_val (.int .i64 r_.1) (y_load rfl ((box_load Ag3 Sz3 a1 [] [(.int .i64 r_.1)] [(.slice pa0 pn0 pc0)] rfl rfl (fun _ => rfl)) _ (Chg.refl _ _))) ?_
  refine pl_val (.bool (decide (r_.1 < 1))) (y_lss rfl rfl) ?_
  refine pl_val (.bool (decide (r_.1 < 1))) (y_move rfl) ?_
  rcases Bool.eq_false_or_eq_true ((decide (r_.1 < 1))) with a5 | a5
  ·skip
   refine pl_not (tg := 10) (by kernel_rfl) (congrArg Value.bool a5) ?_
   refine pl_not (tg := 10) (by kernel_rfl) (congrArg Value.bool a5) ?_
   refine pl_not (tg := 10) (by kernel_rfl) (congrArg Value.bool a5) ?_
   refine pl_val (.bool ((decide (r_.1 < 1)) || (decide (3 < r_.1)))) (y_pick_t (congrArg Value.bool a5) (congrArg Value.bool (by rw [a5]; rfl))) ?_
   refine c_nil ?_
   exact ⟨_, fr_ovl 50 ⟨rfl, rfl, rfl, rfl, trivial⟩, hMid⟩
  refine pl_yes (.pointer (some ⟨a3, 0, none⟩)) (tg := 10) (by kernel_rfl) (congrArg Value.bool a5) (y_faddr rfl Fa30x0) ?_
  refine pl_yes (.int .i64 r_.1) (tg := 10) (by kernel_rfl) (congrArg Value.bool a5) (y_load rfl ((box_load Ag3 Sz3 a1 [] [(.int .i64 r_.1)] [(.slice pa0 pn0 pc0)] rfl rfl (fun _ => rfl)) _ (Chg.refl _ _))) ?_
  refine pl_yes (.bool (decide (3 < r_.1))) (tg := 10) (by kernel_rfl) (congrArg Value.bool a5) (y_gtr rfl rfl) ?_
  refine pl_val (.bool ((decide (r_.1 < 1)) || (decide (3 < r_.1)))) (y_pick_f (congrArg Value.bool a5) (congrArg Value.bool (by rw [a5]; rfl))) ?_
  refine c_nil ?_
  exact ⟨_, fr_ovl 50 ⟨rfl, rfl, rfl, rfl, trivial⟩, hMid⟩
 rintro c2 c1 ⟨σ, rfl, b3⟩
 have h0 := h0.ext b3
 have a1 := a1.cn b3
 have hC := hC.ext b3
 have hO := hO.ext b3
 rcases bif_some hs with ⟨b7, hs⟩ | ⟨b7, hs⟩
 ·refine c_condT (congrArg Value.bool b7) ?_
  refine c_sr ?_
  refine pl_val (.bool false) (y_assign rfl) ?_
  refine c_nil ?_
  refine wp_ret ?_
  cases hs
  exact ⟨_, fr_ovl 50 ⟨rfl, trivial⟩, hC⟩
 refine c_condF (congrArg Value.bool b7) ?_
 refine wp_skip ?_
 refine c_seq ?_
 refine c_sr ?_
 refine pl_val (.pointer (some ⟨a3, 1, none⟩)) (y_faddr rfl Fa30x1) ?_
 refine pl_val (.slice pa0 pn0 pc0) (y_load rfl ((box_load Ag25 Sz25 a1 [(.int .i64 r_.1)] [(.slice pa0 pn0 pc0)] [] rfl rfl (fun _ => rfl)) _ (Chg.refl _ _))) ?_
 refine pl_val (.int .i64 (r_.2.length : Int)) (y_len' Sl25 (rs_len h0) rfl) ?_
 refine pl_val (.int .i64 0) (y_move rfl) ?_
 refine c_nil ?_
 obtain ⟨o28, c5, hs⟩ := bind_some hs
 refine wp_block ?_
 refine wp_forC (id := 0) (r_.2.length : Int) (I := fun k26 s24 a a4 => ∃ (σ : Nat → Value), a = fr 50 (ovl σ [(0, (.int .i64 n)), (3, (.pointer (some ⟨a3, 0, none⟩))), (16, (.slice pa0 pn0 pc0)), (17, (.int .i64 (r_.2.length : Int))), (18, (.int .i64 k26))]) ∧ Chg [] w a4 ∧ Own (Nw w []) M a4 (([a3]) ++ []) ∧ (RT.rs (RT.rs (RT.int .i64))).val M a4 (.slice pa0 pn0 pc0) r_.2 ([]) ∧ BoxV a4 a3 30 [(.int .i64 r_.1), (.slice pa0 pn0 pc0)]) (J := fun s24 a a4 => ∃ (σ : Nat → Value), a = fr 50 (ovl σ []) ∧ Chg [] w a4 ∧ Own (Nw w []) M a4 (([a3]) ++ []) ∧ (RT.rs (RT.rs (RT.int .i64))).val M a4 (.slice pa0 pn0 pc0) r_.2 ([]) ∧ BoxV a4 a3 30 [(.int .i64 r_.1), (.slice pa0 pn0 pc0)]) (K := (k_impl_isRelation M w)) ?_ ?_ 0 () o28 _ _ ?_ c5 ?_
 ·rintro k26 s24 a a4 ⟨σ, rfl, hC, hO, h0, a1⟩ hlt
  refine c_sr ?_
  refine pl_val (.bool (decide (k26 < (r_.2.length : Int)))) (y_lss rfl rfl) ?_
  refine c_nil ?_
  refine c_seq ?_
  refine c_condF (congrArg Value.bool (decide_eq_false hlt)) ?_
  refine wp_exit ?_
  exact ⟨rfl, _, fr_ovl 50 trivial, hC, hO, h0, a1⟩
 ·rintro k26 s24 o28 a a4 ⟨σ, rfl, hC, hO, h0, a1⟩ hlt hw hs
  refine c_sr ?_
  refine pl_val (.bool (decide (k26 < (r_.2.length : Int)))) (y_lss rfl rfl) ?_
  refine c_nil ?_
  refine c_seq ?_
  refine c_condT (congrArg Value.bool (decide_eq_true hlt)) ?_
  refine wp_skip ?_
  refine c_seq ?_
  refine wp_block ?_
  refine c_sr ?_
  refine pl_val (.int .i64 k26) (y_move rfl) ?_
  obtain ⟨x30, c6, hs⟩ := bind_some hs
  obtain ⟨c7, c8, c9, d0⟩ := rs_idx Sl25 Sz43 h0 c6
  refine pl_val (.pointer (some ⟨c7, c8, none⟩)) (c9 _ _ _ _ _ _ _ _ _ rfl rfl) ?_
  obtain ⟨e2, d1, a7⟩ := at_load Ag43 Sz43 (fun _ => rfl) d0
  obtain ⟨a9, b0, b1, rfl⟩ := rs_sl a7
  refine pl_val (.slice a9 b0 b1) (y_load rfl (d1 _ (Chg.refl _ _))) ?_
  refine pl_val (.int .i64 k26) (y_assign rfl) ?_
  refine pl_val (.slice a9 b0 b1) (y_assign rfl) ?_
  refine c_nil ?_
  refine c_sr ?_
  refine pl_val (.slice a9 b0 b1) (y_move rfl) ?_
  refine pl_val (.int .i64 (x30.length : Int)) (y_len' Sl43 (rs_len a7) rfl) ?_
  refine pl_val (.pointer (some ⟨a3, 0, none⟩)) (y_faddr rfl Fa30x0) ?_
  refine pl_val (.int .i64 r_.1) (y_load rfl ((box_load Ag3 Sz3 a1 [] [(.int .i64 r_.1)] [(.slice pa0 pn0 pc0)] rfl rfl (fun _ => rfl)) _ (Chg.refl _ _))) ?_
  refine pl_val (.bool ((x30.length : Int) != r_.1)) (y_neq rfl rfl) ?_
  refine pl_val (.bool ((x30.length : Int) != r_.1)) (y_move rfl) ?_
  rcases bif_some hs with ⟨a6, hs⟩ | ⟨a6, hs⟩
  ·skip
   refine pl_not (tg := 28) (by kernel_rfl) (congrArg Value.bool a6) ?_
   refine pl_not (tg := 28) (by kernel_rfl) (congrArg Value.bool a6) ?_
   refine pl_not (tg := 28) (by kernel_rfl) (congrArg Value.bool a6) ?_
   refine pl_not (tg := 28) (by kernel_rfl) (congrArg Value.bool a6) ?_
   refine pl_val (.bool true) (y_pick_t (congrArg Value.bool a6) rfl) ?_
   refine pl_val (.bool true) (y_move rfl) ?_
   refine pl_not (tg := 34) (by kernel_rfl) (by rfl) ?_
   refine pl_not (tg := 34) (by kernel_rfl) (by rfl) ?_
   refine pl_not (tg := 34) (by kernel_rfl) (by rfl) ?_
   refine pl_nou (tg := 37) (by kernel_rfl) rfl ?_
   refine pl_nou (tg := 37) (by kernel_rfl) rfl ?_
   refine pl_nou (tg := 37) (by kernel_rfl) rfl ?_
   refine pl_nou (tg := 37) (by kernel_rfl) rfl ?_
   refine pl_nou (tg := 37) (by kernel_rfl) rfl ?_
   refine pl_nou (tg := 37) (by kernel_rfl) rfl ?_
   refine pl_nou (tg := 37) (by kernel_rfl) rfl ?_
   refine pl_nou (tg := 37) (by kernel_rfl) rfl ?_
   refine pl_nou (tg := 37) (by kernel_rfl) rfl ?_
   refine pl_not (tg := 34) (by kernel_rfl) (by rfl) ?_
   refine pl_val (.bool true) (y_pick_t (by rfl) rfl) ?_
   refine c_nil ?_
   refine c_condT (by rfl) ?_
   refine c_sr ?_
   refine pl_val (.bool false) (y_assign rfl) ?_
   refine c_nil ?_
   refine wp_ret ?_
   cases hs
   exact ⟨_, fr_ovl 50 ⟨rfl, trivial⟩, hC⟩
  refine pl_yes (.slice a9 b0 b1) (tg := 28) (by kernel_rfl) (congrArg Value.bool a6) (y_move rfl) ?_
  refine pl_yes (.int .i64 n) (tg := 28) (by kernel_rfl) (congrArg Value.bool a6) (y_move rfl) ?_
  obtain ⟨r36, d2, hs⟩ := bind_some hs
  refine pl_cally (tg := 28) (by kernel_rfl) (congrArg Value.bool a6) Bd77 rfl (c_impl_inSize (M := M) x30 n a7 hO.fut d2) ?_
  rintro _ e3 ⟨rfl, b2⟩
  have h0 := h0.ext b2
  have a1 := a1.cn b2
  have a7 := a7.ext b2
  have hC := hC.ext b2
  have hO := hO.ext b2
  refine pl_yes (.bool (!r36)) (tg := 28) (by kernel_rfl) (congrArg Value.bool a6) (y_not rfl) ?_
  refine pl_val (.bool (!r36)) (y_pick_f (congrArg Value.bool a6) rfl) ?_
  refine pl_val (.bool (!r36)) (y_move rfl) ?_
  rcases bif_some hs with ⟨a2, hs⟩ | ⟨a2, hs⟩
  ·skip
   refine pl_not (tg := 34) (by kernel_rfl) (congrArg Value.bool a2) ?_
   refine pl_not (tg := 34) (by kernel_rfl) (congrArg Value.bool a2) ?_
   refine pl_not (tg := 34) (by kernel_rfl) (congrArg Value.bool a2) ?_
   refine pl_nou (tg := 37) (by kernel_rfl) rfl ?_
   refine pl_nou (tg := 37) (by kernel_rfl) rfl ?_
   refine pl_nou (tg := 37) (by kernel_rfl) rfl ?_
   refine pl_nou (tg := 37) (by kernel_rfl) rfl ?_
   refine pl_nou (tg := 37) (by kernel_rfl) rfl ?_
   refine pl_nou (tg := 37) (by kernel_rfl) rfl ?_
   refine pl_nou (tg := 37) (by kernel_rfl) rfl ?_
   refine pl_nou (tg := 37) (by kernel_rfl) rfl ?_
   refine pl_nou (tg := 37) (by kernel_rfl) rfl ?_
   refine pl_not (tg := 34) (by kernel_rfl) (congrArg Value.bool a2) ?_
   refine pl_val (.bool true) (y_pick_t (congrArg Value.bool a2) rfl) ?_
   refine c_nil ?_
   refine c_condT (by rfl) ?_
   refine c_sr ?_
   refine pl_val (.bool false) (y_assign rfl) ?_
   refine c_nil ?_
   refine wp_ret ?_
   cases hs
   exact ⟨_, fr_ovl 50 ⟨rfl, trivial⟩, hC⟩
  refine pl_yes (.int .i64 k26) (tg := 34) (by kernel_rfl) (congrArg Value.bool a2) (y_move rfl) ?_
  refine pl_yes (.bool (decide (0 < k26))) (tg := 34) (by kernel_rfl) (congrArg Value.bool a2) (y_gtr rfl rfl) ?_
  refine pl_yes (.bool (decide (0 < k26))) (tg := 34) (by kernel_rfl) (congrArg Value.bool a2) (y_move rfl) ?_
  rcases bif_some hs with ⟨a0, hs⟩ | ⟨a0, hs⟩
  ·skip
   refine pl_yes (.pointer (some ⟨a3, 1, none⟩)) (tg := 37) (by kernel_rfl) (congrArg Value.bool a0) (y_faddr rfl Fa30x1) ?_
   refine pl_yes (.slice pa0 pn0 pc0) (tg := 37) (by kernel_rfl) (congrArg Value.bool a0) (y_load rfl ((box_load Ag25 Sz25 a1 [(.int .i64 r_.1)] [(.slice pa0 pn0 pc0)] [] rfl rfl (fun _ => rfl)) _ (Chg.refl _ _))) ?_
   refine pl_yes (.int .i64 k26) (tg := 37) (by kernel_rfl) (congrArg Value.bool a0) (y_move rfl) ?_
   refine pl_yes (.int .i64 (w64 (k26 - 1))) (tg := 37) (by kernel_rfl) (congrArg Value.bool a0) (y_sub rfl rfl) ?_
   obtain ⟨x39, d3, hs⟩ := bind_some hs
   obtain ⟨d4, d5, d6, b8⟩ := rs_idx Sl25 Sz43 h0 d3
   refine pl_yes (.pointer (some ⟨d4, d5, none⟩)) (tg := 37) (by kernel_rfl) (congrArg Value.bool a0) (d6 _ _ _ _ _ _ _ _ _ rfl rfl) ?_
   obtain ⟨e4, d7, b4⟩ := at_load Ag43 Sz43 (fun _ => rfl) b8
   obtain ⟨d8, d9, e0, rfl⟩ := rs_sl b4
   refine pl_yes (.slice d8 d9 e0) (tg := 37) (by kernel_rfl) (congrArg Value.bool a0) (y_load rfl (d7 _ (Chg.refl _ _))) ?_
   refine pl_yes (.slice a9 b0 b1) (tg := 37) (by kernel_rfl) (congrArg Value.bool a0) (y_move rfl) ?_
   obtain ⟨r44, e1, hs⟩ := bind_some hs
   refine pl_cally (tg := 37) (by kernel_rfl) (congrArg Value.bool a0) Bd78 rfl (c_impl_compareLists (M := M) x39 x30 b4 a7 hO.fut e1) ?_
   rintro _ e5 ⟨rfl, a8⟩
   have h0 := h0.ext a8
   have a1 := a1.cn a8
   have a7 := a7.ext a8
   have b4 := b4.ext a8
   have b8 := at_ext b8 a8
   have hC := hC.ext a8
   have hO := hO.ext a8
   refine pl_yes (.bool (decide (0 ≤ r44))) (tg := 37) (by kernel_rfl) (congrArg Value.bool a0) (y_geq rfl rfl) ?_
   refine pl_yes (.bool (decide (0 ≤ r44))) (tg := 34) (by kernel_rfl) (congrArg Value.bool a2) (y_pick_t (congrArg Value.bool a0) rfl) ?_
   refine pl_val (.bool (decide (0 ≤ r44))) (y_pick_f (congrArg Value.bool a2) rfl) ?_
   refine c_nil ?_
   rcases bif_some hs with ⟨b9, hs⟩ | ⟨b9, hs⟩
   ·refine c_condT (congrArg Value.bool b9) ?_
    refine c_sr ?_
    refine pl_val (.bool false) (y_assign rfl) ?_
    refine c_nil ?_
    refine wp_ret ?_
    cases hs
    exact ⟨_, fr_ovl 50 ⟨rfl, trivial⟩, hC⟩
   refine c_condF (congrArg Value.bool b9) ?_
   refine wp_skip ?_
   refine c_region ?_
   refine pl_val (.int .i64 (w64 (k26 + 1))) (y_add rfl rfl) ?_
   refine pl_val (.int .i64 (w64 (k26 + 1))) (y_move rfl) ?_
   refine c_nil ?_
   cases hs
   exact ⟨_, fr_ovl 50 ⟨rfl, rfl, rfl, rfl, congrArg (Value.int .i64) hw, trivial⟩, hC, hO, h0, a1⟩
  refine pl_not (tg := 37) (by kernel_rfl) (congrArg Value.bool a0) ?_
  refine pl_not (tg := 37) (by kernel_rfl) (congrArg Value.bool a0) ?_
  refine pl_not (tg := 37) (by kernel_rfl) (congrArg Value.bool a0) ?_
  refine pl_not (tg := 37) (by kernel_rfl) (congrArg Value.bool a0) ?_
  refine pl_not (tg := 37) (by kernel_rfl) (congrArg Value.bool a0) ?_
  refine pl_not (tg := 37) (by kernel_rfl) (congrArg Value.bool a0) ?_
  refine pl_not (tg := 37) (by kernel_rfl) (congrArg Value.bool a0) ?_
  refine pl_not (tg := 37) (by kernel_rfl) (congrArg Value.bool a0) ?_
  refine pl_not (tg := 37) (by kernel_rfl) (congrArg Value.bool a0) ?_
  refine pl_yes (.bool false) (tg := 34) (by kernel_rfl) (congrArg Value.bool a2) (y_pick_f (congrArg Value.bool a0) rfl) ?_
  refine pl_val (.bool false) (y_pick_f (congrArg Value.bool a2) rfl) ?_
  refine c_nil ?_
  refine c_condF (by rfl) ?_
  refine wp_skip ?_
  refine c_region ?_
  refine pl_val (.int .i64 (w64 (k26 + 1))) (y_add rfl rfl) ?_
  refine pl_val (.int .i64 (w64 (k26 + 1))) (y_move rfl) ?_
  refine c_nil ?_
  cases hs
  exact ⟨_, fr_ovl 50 ⟨rfl, rfl, rfl, rfl, congrArg (Value.int .i64) hw, trivial⟩, hC, hO, h0, a1⟩
 ·skip
  exact ⟨_, fr_ovl 50 ⟨rfl, rfl, rfl, rfl, rfl, trivial⟩, hC, hO, h0, a1⟩
 cases o28 with
 | nx _ => exact True.intro
 | rt r_ =>
  have hs := after_rt hs
  intro c2 c3 hK
  cases hs
  exact hK
 | br s24 =>
  have hs := after_br hs
  rintro c2 a4 ⟨σ, rfl, hC, hO, h0, a1⟩
  refine c_sr ?_
  refine pl_val (.bool true) (y_assign rfl) ?_
  refine c_nil ?_
  refine wp_ret ?_
  cases hs
  exact ⟨_, fr_ovl 50 ⟨rfl, trivial⟩, hC⟩

def k_impl_isLength (M : Nat → Prop) (w0 : World) (r : Bool) (a : Act) (w : World) : Prop :=
  ∃ (σ : Nat → Value) , a = fr 9 (ovl σ [(2, (.bool r))]) ∧ Chg [] w0 w
def s_impl_isLength (k : Int) : Option (Bool) :=
  (bif (decide (1 ≤ k)) then some (decide (k ≤ 64)) else some false)
set_option maxHeartbeats 4000000 in
theorem c_impl_isLength {M : Nat → Prop} {w : World}  (k : Int)  (hM : ∀ g, w.heap.size ≤ g → M g) {r : Bool} (hs : s_impl_isLength k = some r) :
    Gives Try.prog 96 [(.int .i64 k)] w (fun v w' => v = (.bool r) ∧ Chg [] w w') := by
 refine calls_fr Try.func96 rfl Try.ntmps96 (Nat.le_of_ble_eq_true rfl) ?_
 have hO := Own.start (N := Nw w []) hM Nw.fut
 have hC := Chg.refl [] w
 unfold s_impl_isLength at hs
 refine wp_mono (Q := KPost (k_impl_isLength M w r)) ?_ (fun e a a1 h => ?_)
 rotate_left
 ·cases e
  case ret =>
   obtain ⟨σ, rfl, hrest⟩ := h
   exact ret1x Try.results96 (res_tmp rfl) ⟨rfl, hrest⟩
  all_goals exact (h : False).elim
 refine c_sr ?_
 refine pl_val (.bool false) (y_assign rfl) ?_
 refine c_nil ?_
 refine c_sr ?_
 refine pl_val (.int .i64 k) (y_move rfl) ?_
 refine pl_val (.bool (decide (1 ≤ k))) (y_geq rfl rfl) ?_
 refine pl_val (.bool (decide (1 ≤ k))) (y_move rfl) ?_
 rcases bif_some hs with ⟨a0, hs⟩ | ⟨a0, hs⟩
 ·skip
  refine pl_yes (.int .i64 k) (tg := 5) (by kernel_rfl) (congrArg Value.bool a0) (y_move rfl) ?_
  refine pl_yes (.bool (decide (k ≤ 64))) (tg := 5) (by kernel_rfl) (congrArg Value.bool a0) (y_leq rfl rfl) ?_
  refine pl_val (.bool (decide (k ≤ 64))) (y_pick_t (congrArg Value.bool a0) rfl) ?_
  refine pl_val (.bool (decide (k ≤ 64))) (y_assign rfl) ?_
  refine c_nil ?_
  refine wp_ret ?_
  cases hs
  exact ⟨_, fr_ovl 9 ⟨rfl, trivial⟩, hC⟩
 refine pl_not (tg := 5) (by kernel_rfl) (congrArg Value.bool a0) ?_
 refine pl_not (tg := 5) (by kernel_rfl) (congrArg Value.bool a0) ?_
 refine pl_val (.bool false) (y_pick_f (congrArg Value.bool a0) rfl) ?_
 refine pl_val (.bool false) (y_assign rfl) ?_
 refine c_nil ?_
 refine wp_ret ?_
 cases hs
 exact ⟨_, fr_ovl 9 ⟨rfl, trivial⟩, hC⟩

end Go.Proofs
