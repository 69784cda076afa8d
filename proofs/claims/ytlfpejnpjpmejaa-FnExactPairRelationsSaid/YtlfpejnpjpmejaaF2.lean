/- What functions of the program compute, as plain functions, and that a call gives just that. Conditions: those named in each theorem. -/
import Derived.Test.YtlfpejnpjpmejaaF1
set_option linter.unusedVariables false
namespace Go.Proofs
open Go.G Go.RowKit
set_option maxRecDepth 100000

def k_spec_l18All (M : Nat → Prop) (w0 : World) (r : (List (List (List Int))) × Bool) (a : Act) (w : World) : Prop :=
  ∃ (σ : Nat → Value) (ra0 : Option Addr) (rn0 rc0 : Nat), a = fr 96 (ovl σ [(2, (.slice ra0 rn0 rc0)), (3, (.bool r.2))]) ∧ Chg [] w0 w ∧ (RT.rs (RT.rs (RT.rs (RT.int .i64)))).val (Past M w0 w) w (.slice ra0 rn0 rc0) r.1 []
def s_spec_l18All (a_ : Int × (List (Int × (List Int)))) : Option ((List (List (List Int))) × Bool) :=
  (s_spec_l8Close (a_.1, a_.2) 2 ([])).bind fun r7 =>
  (iter (S := (List (List (List Int))) × (List (List (List Int))) × Int) (R := (List (List (List Int))) × Bool) (fun s3364 =>
  (bif ((decide (s3364.2.2 < (s3364.2.1.length : Int))) && (decide ((s3364.1.length : Int) ≤ 200))) then (iter (S := (List (List (List Int))) × (List (List (List Int))) × Int) (R := (List (List (List Int))) × Bool) (fun s4482 =>
  (bif ((decide (s4482.2.2 < (w64 (a_.1 * a_.1)))) && (decide ((s4482.1.length : Int) ≤ 200))) then (s_spec_l2Args a_.1 2 s4482.2.2).bind fun r4504 =>
  (idx s4482.2.1 s3364.2.2).bind fun x4506 =>
  (s_spec_l8Find x4506 r4504).bind fun r4511 =>
  (bif r4511.2 then some (.nx (s4482.1, s4482.2.1, w64 (s4482.2.2 + 1))) else (idx s4482.2.1 s3364.2.2).bind fun x4711 =>
  (app ([]) x4711).bind fun y4719 =>
  (app y4719 ([r4504])).bind fun y4725 =>
  (s_spec_l8Close (a_.1, a_.2) 2 y4725).bind fun r4729 =>
  (s_spec_l18Put s4482.1 r4729.1).bind fun r4732 =>
  (bif (decide ((s4482.1.length : Int) < (r4732.length : Int))) then (app s4482.2.1 ([r4729.1])).bind fun y4738 =>
  some (.nx (r4732, y4738, w64 (s4482.2.2 + 1))) else some (.nx (s4482.1, s4482.2.1, w64 (s4482.2.2 + 1))))) else some (.br (s4482.1, s4482.2.1, s4482.2.2)))) FU (s3364.1, s3364.2.1, 0)).bind fun o4486 => after o4486 (fun r_ => some (.rt r_)) (fun s4482 =>
  some (.nx (s4482.1, s4482.2.1, w64 (s3364.2.2 + 1)))) else some (.br (s3364.1, s3364.2.1, s3364.2.2)))) FU ([r7.1], [r7.1], 0)).bind fun o3368 => after o3368 (fun r_ => some r_) (fun s3364 =>
  some (s3364.1, (decide ((s3364.1.length : Int) ≤ 200))))
set_option maxHeartbeats 4000000 in
theorem c_spec_l18All {M : Nat → Prop} {w : World} {pa0 : Option Addr} {pn0 pc0 : Nat} (a_ : Int × (List (Int × (List Int)))) (h0 : (RT.rs (RT.pr (RT.int .i64) (RT.rs (RT.int .i64)))).val M w (.slice pa0 pn0 pc0) a_.2 ([])) (hM : ∀ g, w.heap.size ≤ g → M g) {r : (List (List (List Int))) × Bool} (hs : s_spec_l18All a_ = some r) :
    Gives Try.prog 55 [(.agg #[(.int .i64 a_.1), (.slice pa0 pn0 pc0)])] w (fun v w' => ∃ (ra0 : Option Addr) (rn0 rc0 : Nat), v = (.tuple #[(.slice ra0 rn0 rc0), (.bool r.2)]) ∧ Chg [] w w' ∧ (RT.rs (RT.rs (RT.rs (RT.int .i64)))).val (Past M w w') w' (.slice ra0 rn0 rc0) r.1 []) := by
 refine calls_fr Try.func55 rfl Try.ntmps55 (Nat.le_of_ble_eq_true rfl) ?_
 have hO := Own.start (N := Nw w []) hM Nw.fut
 have hC := Chg.refl [] w
 unfold s_spec_l18All at hs
 refine wp_mono (Q := KPost (k_spec_l18All M w r)) ?_ (fun e a w1 h => ?_)
 rotate_left
 ·cases e
  case ret =>
   obtain ⟨σ, ra0, rn0, rc0, rfl, hrest⟩ := h
   exact ret2x Try.results55 (res_tmp rfl) (res_tmp rfl) ⟨ra0, rn0, rc0, rfl, hrest⟩
  all_goals exact (h : False).elim
 refine c_seq (c_region ?_)
 obtain ⟨w2, g2, ew2, eg2, hC2, hb2⟩ := new_block w [(.int .i64 a_.1), (.slice pa0 pn0 pc0)] 34
 refine pl_val (w' := w2) (.pointer (some ⟨g2, 0, none⟩)) (y_box rfl (by rw [ew2, eg2]; kernel_rfl)) ?_
 have h0 := h0.ext hC2
 have hC := hC.ext hC2
 have hO := hO.new1 hC2 eg2 hb2.lt
 refine pl_val (.slice none 0 0) (y_assign rfl) ?_
 refine pl_val (.bool false) (y_assign rfl) ?_
 refine c_nil ?_
 refine c_seq (c_region ?_)
 refine pl_val (.agg #[(.int .i64 a_.1), (.slice pa0 pn0 pc0)]) (y_load rfl ((box_load Ag34 Sz34 hb2 [] [(.int .i64 a_.1), (.slice pa0 pn0 pc0)] [] rfl rfl (fun h => nomatch h)) _ (Chg.refl _ _))) ?_
 obtain ⟨w3, g3, ew3, eg3, hC3, hb3⟩ := new_block w2 [] 25
 refine pl_val (w' := w3) (.slice (some ⟨g3, 0, none⟩) 0 0) (y_bslice rfl (by rw [ew3, eg3]; kernel_rfl)) ?_
 have h0 := h0.ext hC3
 have hb2 := hb2.chg hC3 (fun h => nomatch h)
 have hC := hC.ext hC3
 have hO := hO.new1 hC3 eg3 hb3.lt
 have hv3 := os_of_box (r := (RT.os 3 (RT.int .i64))) (M := M) (css := []) (fps := []) (xs := ([] : List (List Int))) hb3 trivial (Nat.zero_le _) (List.nodup_cons.2 ⟨(fun h => nomatch h), List.nodup_nil⟩)
 have hv3 : (RT.os 25 (RT.os 3 (RT.int .i64))).val M w3 (.slice (some ⟨g3, 0, none⟩) 0 0) [] [g3] := hv3
 obtain ⟨M6, eM6, hs6, hk6, hO, hv6⟩ := frz_own (Frz.os (Frz.os Frz.int)) hv3 hO
 have h0 := h0.sub (M' := M6) hs6
 have hK := hk6
 obtain ⟨r7, hr7, hs⟩ := bind_some hs
 refine pl_call Bd69 rfl (c_spec_l8Close (M := M6) (a_.1, a_.2) 2 ([]) h0 hv6 hO.fut hr7) ?_
 rintro _ w5 ⟨a5x0, n5x0, c5x0, rfl, hC5, hv5x0⟩
 have hK := hK.trans (show Keeps w M6 (Past M6 w3 w5) from Keeps.past hC.size)
 have h0 := h0.ext hC5
 have hb2 := hb2.chg hC5 (fun h => nomatch h)
 have hv6 := hv6.ext hC5
 have hC := hC.ext hC5
 have hO := hO.past hC5
 have h0 := h0.sub (M' := (Past M6 w3 w5)) (fun g hg => .inl hg.1)
 have hv6 := hv6.sub (M' := (Past M6 w3 w5)) (fun g hg => .inl hg.1)
 refine pl_val (.tuple #[(.slice a5x0 n5x0 c5x0), (.bool r7.2)]) (y_move rfl) ?_
 refine pl_val (.slice a5x0 n5x0 c5x0) (y_extract rfl (by kernel_rfl)) ?_
 refine pl_val (.bool r7.2) (y_extract rfl (by kernel_rfl)) ?_
 refine pl_val (.slice a5x0 n5x0 c5x0) (y_assign rfl) ?_
 refine pl_val (.bool r7.2) (y_assign rfl) ?_
 refine c_nil ?_
 refine c_seq (c_region ?_)
 refine pl_val (.slice a5x0 n5x0 c5x0) (y_move rfl) ?_
 obtain ⟨w9, g9, ew9, eg9, hC9, hb9⟩ := new_block w5 [(.slice a5x0 n5x0 c5x0)] 49
 refine pl_val (w' := w9) (.slice (some ⟨g9, 0, none⟩) 1 1) (y_bslice rfl (by rw [ew9, eg9]; kernel_rfl)) ?_
 have h0 := h0.ext hC9
 have hb2 := hb2.chg hC9 (fun h => nomatch h)
 have hv5x0 := hv5x0.ext hC9
 have hC := hC.ext hC9
 have hO := hO.new1 hC9 eg9 hb9.lt
 have hv9 := os_of_box (r := (RT.rs (RT.rs (RT.int .i64)))) (M := (Past M6 w3 w5)) (css := [[(.slice a5x0 n5x0 c5x0)]]) (fps := [([] : List Nat)]) (xs := ([r7.1] : List (List (List Int)))) hb9 ⟨(rs_unval hv5x0), trivial⟩ (Nat.le_of_ble_eq_true rfl) (List.nodup_cons.2 ⟨(fun h => nomatch h), List.nodup_nil⟩)
 have hv9 : (RT.os 49 (RT.rs (RT.rs (RT.int .i64)))).val (Past M6 w3 w5) w9 (.slice (some ⟨g9, 0, none⟩) 1 1) [r7.1] [g9] := hv9
 refine pl_val (.slice a5x0 n5x0 c5x0) (y_move rfl) ?_
 obtain ⟨w11, g11, ew11, eg11, hC11, hb11⟩ := new_block w9 [(.slice a5x0 n5x0 c5x0)] 49
 refine pl_val (w' := w11) (.slice (some ⟨g11, 0, none⟩) 1 1) (y_bslice rfl (by rw [ew11, eg11]; kernel_rfl)) ?_
 have h0 := h0.ext hC11
 have hb2 := hb2.chg hC11 (fun h => nomatch h)
 have hv5x0 := hv5x0.ext hC11
 have hv9 := hv9.ext hC11
 have hC := hC.ext hC11
 have hO := hO.new1 hC11 eg11 hb11.lt
 have hv11 := os_of_box (r := (RT.rs (RT.rs (RT.int .i64)))) (M := (Past M6 w3 w5)) (css := [[(.slice a5x0 n5x0 c5x0)]]) (fps := [([] : List Nat)]) (xs := ([r7.1] : List (List (List Int)))) hb11 ⟨(rs_unval hv5x0), trivial⟩ (Nat.le_of_ble_eq_true rfl) (List.nodup_cons.2 ⟨(fun h => nomatch h), List.nodup_nil⟩)
 have hv11 : (RT.os 49 (RT.rs (RT.rs (RT.int .i64)))).val (Past M6 w3 w5) w11 (.slice (some ⟨g11, 0, none⟩) 1 1) [r7.1] [g11] := hv11
 refine pl_val (.slice (some ⟨g9, 0, none⟩) 1 1) (y_assign rfl) ?_
 refine pl_val (.slice (some ⟨g11, 0, none⟩) 1 1) (y_assign rfl) ?_
 refine c_nil ?_
 refine c_seq ?_
 refine c_seq (c_region ?_)
 refine pl_val (.int .i64 0) (y_assign rfl) ?_
 refine c_nil ?_
 have hO := hO.fr1
 obtain ⟨M3363, eM3363, hs3363, hk3363, hO, hv3363⟩ := frz_own (Frz.os (Frz.rs (Frz.rs Frz.int))) hv9 hO
 have h0 := h0.sub (M' := M3363) hs3363
 have hv11 := hv11.sub (M' := M3363) hs3363
 have hK := hK.trans hk3363
 obtain ⟨o3368, hl3369, hs⟩ := bind_some hs
 refine wp_block ?_
 refine wp_iter (id := 0) (I := fun s3364 a w3365 => ∃ (σ : Nat → Value) (M3370 : Nat → Prop) (a3371 : Option Addr) (n3371 : Nat) (c3371 : Nat) (a3373 : Option Addr) (n3373 : Nat) (c3373 : Nat) (f3373 : List Nat), a = fr 96 (ovl σ [(1, (.pointer (some ⟨g2, 0, none⟩))), (6, (.slice a3371 n3371 c3371)), (7, (.slice a3373 n3373 c3373)), (8, (.int .i64 s3364.2.2))]) ∧ Chg [] w w3365 ∧ Own (Nw w []) M3370 w3365 (f3373 ++ (([g2]) ++ [])) ∧ Keeps w M M3370 ∧ (RT.rs (RT.pr (RT.int .i64) (RT.rs (RT.int .i64)))).val M3370 w3365 (.slice pa0 pn0 pc0) a_.2 ([]) ∧ BoxV w3365 g2 34 [(.int .i64 a_.1), (.slice pa0 pn0 pc0)] ∧ (RT.rs (RT.rs (RT.rs (RT.int .i64)))).val M3370 w3365 (.slice a3371 n3371 c3371) s3364.1 ([]) ∧ (RT.os 49 (RT.rs (RT.rs (RT.int .i64)))).val M3370 w3365 (.slice a3373 n3373 c3373) s3364.2.1 f3373) (J := fun s3364 a w3365 => ∃ (σ : Nat → Value) (M3375 : Nat → Prop) (a3376 : Option Addr) (n3376 : Nat) (c3376 : Nat) (a3378 : Option Addr) (n3378 : Nat) (c3378 : Nat) (f3378 : List Nat), a = fr 96 (ovl σ [(6, (.slice a3376 n3376 c3376))]) ∧ Chg [] w w3365 ∧ Own (Nw w []) M3375 w3365 (f3378 ++ (([g2]) ++ [])) ∧ Keeps w M M3375 ∧ (RT.rs (RT.pr (RT.int .i64) (RT.rs (RT.int .i64)))).val M3375 w3365 (.slice pa0 pn0 pc0) a_.2 ([]) ∧ BoxV w3365 g2 34 [(.int .i64 a_.1), (.slice pa0 pn0 pc0)] ∧ (RT.rs (RT.rs (RT.rs (RT.int .i64)))).val M3375 w3365 (.slice a3376 n3376 c3376) s3364.1 ([]) ∧ (RT.os 49 (RT.rs (RT.rs (RT.int .i64)))).val M3375 w3365 (.slice a3378 n3378 c3378) s3364.2.1 f3378) (K := (k_spec_l18All M w)) ?_ FU ([r7.1], [r7.1], 0) o3368 _ _ ?_ hl3369 ?_
 ·rintro s3364 o3368 a w3365 ⟨σ, M3370, a3371, n3371, c3371, a3373, n3373, c3373, f3373, rfl, hC, hO, hK, h0, hb2, hv3371, hv3373⟩ hs
  refine c_seq ?_
  refine c_seq ?_
  refine c_mid (I := fun a w3381 => ∃ (σ : Nat → Value), a = fr 96 (ovl σ [(1, (.pointer (some ⟨g2, 0, none⟩))), (6, (.slice a3371 n3371 c3371)), (7, (.slice a3373 n3373 c3373)), (8, (.int .i64 s3364.2.2)), (34, (.bool ((decide (s3364.2.2 < (s3364.2.1.length : Int))) && (decide ((s3364.1.length : Int) ≤ 200)))))]) ∧ Chg [] w3365 w3381) ?_ ?_
  ·have hMid := Chg.refl [] w3365
   refine c_region ?_
   refine pl_val (.int .i64 s3364.2.2) (y_move rfl) ?_
   refine pl_val (.slice a3373 n3373 c3373) (y_move rfl) ?_
   refine pl_val (.int .i64 (s3364.2.1.length : Int)) (y_len' Sl59 (os_len hv3373) rfl) ?_
   refine pl_val (.bool (decide (s3364.2.2 < (s3364.2.1.length : Int)))) (y_lss rfl rfl) ?_
   refine pl_val (.bool (decide (s3364.2.2 < (s3364.2.1.length : Int)))) (y_move rfl) ?_
   rcases Bool.eq_false_or_eq_true ((decide (s3364.2.2 < (s3364.2.1.length : Int)))) with hc3383 | hc3383
   ·skip
    refine pl_yes (.slice a3371 n3371 c3371) (tg := 30) (by kernel_rfl) (congrArg Value.bool hc3383) (y_move rfl) ?_
    refine pl_yes (.int .i64 (s3364.1.length : Int)) (tg := 30) (by kernel_rfl) (congrArg Value.bool hc3383) (y_len' Sl59 (rs_len hv3371) rfl) ?_
    refine pl_yes (.bool (decide ((s3364.1.length : Int) ≤ 200))) (tg := 30) (by kernel_rfl) (congrArg Value.bool hc3383) (y_leq rfl rfl) ?_
    refine pl_val (.bool ((decide (s3364.2.2 < (s3364.2.1.length : Int))) && (decide ((s3364.1.length : Int) ≤ 200)))) (y_pick_t (congrArg Value.bool hc3383) (congrArg Value.bool (by rw [hc3383]; rfl))) ?_
    refine c_nil ?_
    exact ⟨_, fr_ovl 96 ⟨rfl, rfl, rfl, rfl, rfl, trivial⟩, hMid⟩
   ·skip
    refine pl_not (tg := 30) (by kernel_rfl) (congrArg Value.bool hc3383) ?_
    refine pl_not (tg := 30) (by kernel_rfl) (congrArg Value.bool hc3383) ?_
    refine pl_not (tg := 30) (by kernel_rfl) (congrArg Value.bool hc3383) ?_
    refine pl_val (.bool ((decide (s3364.2.2 < (s3364.2.1.length : Int))) && (decide ((s3364.1.length : Int) ≤ 200)))) (y_pick_f (congrArg Value.bool hc3383) (congrArg Value.bool (by rw [hc3383]; rfl))) ?_
    refine c_nil ?_
    exact ⟨_, fr_ovl 96 ⟨rfl, rfl, rfl, rfl, rfl, trivial⟩, hMid⟩
  ·rintro a1 w3381 ⟨σ, rfl, hCs3380⟩
   have h0 := h0.ext hCs3380
   have hb2 := hb2.chg hCs3380 (fun h => nomatch h)
   have hv3371 := hv3371.ext hCs3380
   have hv3373 := hv3373.ext hCs3380
   have hC := hC.ext hCs3380
   have hO := hO.ext hCs3380
   rcases bif_some hs with ⟨hc3384, hs⟩ | ⟨hc3384, hs⟩
   ·skip
    refine c_condT (congrArg Value.bool hc3384) ?_
    refine wp_skip ?_
    refine c_seq ?_
    refine wp_block ?_
    refine c_seq (c_region ?_)
    refine pl_val (.int .i64 0) (y_assign rfl) ?_
    refine c_nil ?_
    obtain ⟨o4486, hl4487, hs⟩ := bind_some hs
    refine wp_block ?_
    refine wp_iter (id := 2) (I := fun s4482 a w4483 => ∃ (σ : Nat → Value) (M4488 : Nat → Prop) (a4489 : Option Addr) (n4489 : Nat) (c4489 : Nat) (a4491 : Option Addr) (n4491 : Nat) (c4491 : Nat) (f4491 : List Nat), a = fr 96 (ovl σ [(1, (.pointer (some ⟨g2, 0, none⟩))), (6, (.slice a4489 n4489 c4489)), (7, (.slice a4491 n4491 c4491)), (8, (.int .i64 s3364.2.2)), (9, (.int .i64 s4482.2.2))]) ∧ Chg [] w w4483 ∧ Own (Nw w []) M4488 w4483 (f4491 ++ (([g2]) ++ [])) ∧ Keeps w M M4488 ∧ (RT.rs (RT.pr (RT.int .i64) (RT.rs (RT.int .i64)))).val M4488 w4483 (.slice pa0 pn0 pc0) a_.2 ([]) ∧ BoxV w4483 g2 34 [(.int .i64 a_.1), (.slice pa0 pn0 pc0)] ∧ (RT.rs (RT.rs (RT.rs (RT.int .i64)))).val M4488 w4483 (.slice a4489 n4489 c4489) s4482.1 ([]) ∧ (RT.os 49 (RT.rs (RT.rs (RT.int .i64)))).val M4488 w4483 (.slice a4491 n4491 c4491) s4482.2.1 f4491) (J := fun s4482 a w4483 => ∃ (σ : Nat → Value) (M4493 : Nat → Prop) (a4494 : Option Addr) (n4494 : Nat) (c4494 : Nat) (a4496 : Option Addr) (n4496 : Nat) (c4496 : Nat) (f4496 : List Nat), a = fr 96 (ovl σ [(1, (.pointer (some ⟨g2, 0, none⟩))), (6, (.slice a4494 n4494 c4494)), (7, (.slice a4496 n4496 c4496)), (8, (.int .i64 s3364.2.2))]) ∧ Chg [] w w4483 ∧ Own (Nw w []) M4493 w4483 (f4496 ++ (([g2]) ++ [])) ∧ Keeps w M M4493 ∧ (RT.rs (RT.pr (RT.int .i64) (RT.rs (RT.int .i64)))).val M4493 w4483 (.slice pa0 pn0 pc0) a_.2 ([]) ∧ BoxV w4483 g2 34 [(.int .i64 a_.1), (.slice pa0 pn0 pc0)] ∧ (RT.rs (RT.rs (RT.rs (RT.int .i64)))).val M4493 w4483 (.slice a4494 n4494 c4494) s4482.1 ([]) ∧ (RT.os 49 (RT.rs (RT.rs (RT.int .i64)))).val M4493 w4483 (.slice a4496 n4496 c4496) s4482.2.1 f4496) (K := (k_spec_l18All M w)) ?_ FU (s3364.1, s3364.2.1, 0) o4486 _ _ ?_ hl4487 ?_
    ·rintro s4482 o4486 a w4483 ⟨σ, M4488, a4489, n4489, c4489, a4491, n4491, c4491, f4491, rfl, hC, hO, hK, h0, hb2, hv4489, hv4491⟩ hs
     refine c_seq ?_
     refine c_seq ?_
     refine c_mid (I := fun a w4499 => ∃ (σ : Nat → Value), a = fr 96 (ovl σ [(1, (.pointer (some ⟨g2, 0, none⟩))), (6, (.slice a4489 n4489 c4489)), (7, (.slice a4491 n4491 c4491)), (8, (.int .i64 s3364.2.2)), (9, (.int .i64 s4482.2.2)), (48, (.bool ((decide (s4482.2.2 < (w64 (a_.1 * a_.1)))) && (decide ((s4482.1.length : Int) ≤ 200)))))]) ∧ Chg [] w4483 w4499) ?_ ?_
     ·have hMid := Chg.refl [] w4483
      refine c_region ?_
      refine pl_val (.int .i64 s4482.2.2) (y_move rfl) ?_
      refine pl_val (.pointer (some ⟨g2, 0, none⟩)) (y_faddr rfl Fa34x0) ?_
      refine pl_val (.int .i64 a_.1) (y_load rfl ((box_load Ag3 Sz3 hb2 [] [(.int .i64 a_.1)] [(.slice pa0 pn0 pc0)] rfl rfl (fun _ => rfl)) _ (Chg.refl _ _))) ?_
      refine pl_val (.pointer (some ⟨g2, 0, none⟩)) (y_faddr rfl Fa34x0) ?_
      refine pl_val (.int .i64 a_.1) (y_load rfl ((box_load Ag3 Sz3 hb2 [] [(.int .i64 a_.1)] [(.slice pa0 pn0 pc0)] rfl rfl (fun _ => rfl)) _ (Chg.refl _ _))) ?_
      refine pl_val (.int .i64 (w64 (a_.1 * a_.1))) (y_mul rfl rfl) ?_
      refine pl_val (.bool (decide (s4482.2.2 < (w64 (a_.1 * a_.1))))) (y_lss rfl rfl) ?_
      refine pl_val (.bool (decide (s4482.2.2 < (w64 (a_.1 * a_.1))))) (y_move rfl) ?_
      rcases Bool.eq_false_or_eq_true ((decide (s4482.2.2 < (w64 (a_.1 * a_.1))))) with hc4501 | hc4501
      ·skip
       refine pl_yes (.slice a4489 n4489 c4489) (tg := 44) (by kernel_rfl) (congrArg Value.bool hc4501) (y_move rfl) ?_
       refine pl_yes (.int .i64 (s4482.1.length : Int)) (tg := 44) (by kernel_rfl) (congrArg Value.bool hc4501) (y_len' Sl59 (rs_len hv4489) rfl) ?_
       refine pl_yes (.bool (decide ((s4482.1.length : Int) ≤ 200))) (tg := 44) (by kernel_rfl) (congrArg Value.bool hc4501) (y_leq rfl rfl) ?_
       refine pl_val (.bool ((decide (s4482.2.2 < (w64 (a_.1 * a_.1)))) && (decide ((s4482.1.length : Int) ≤ 200)))) (y_pick_t (congrArg Value.bool hc4501) (congrArg Value.bool (by rw [hc4501]; rfl))) ?_
       refine c_nil ?_
       exact ⟨_, fr_ovl 96 ⟨rfl, rfl, rfl, rfl, rfl, rfl, trivial⟩, hMid⟩
      ·skip
       refine pl_not (tg := 44) (by kernel_rfl) (congrArg Value.bool hc4501) ?_
       refine pl_not (tg := 44) (by kernel_rfl) (congrArg Value.bool hc4501) ?_
       refine pl_not (tg := 44) (by kernel_rfl) (congrArg Value.bool hc4501) ?_
       refine pl_val (.bool ((decide (s4482.2.2 < (w64 (a_.1 * a_.1)))) && (decide ((s4482.1.length : Int) ≤ 200)))) (y_pick_f (congrArg Value.bool hc4501) (congrArg Value.bool (by rw [hc4501]; rfl))) ?_
       refine c_nil ?_
       exact ⟨_, fr_ovl 96 ⟨rfl, rfl, rfl, rfl, rfl, rfl, trivial⟩, hMid⟩
     ·rintro a1 w4499 ⟨σ, rfl, hCs4498⟩
      have h0 := h0.ext hCs4498
      have hb2 := hb2.chg hCs4498 (fun h => nomatch h)
      have hv4489 := hv4489.ext hCs4498
      have hv4491 := hv4491.ext hCs4498
      have hC := hC.ext hCs4498
      have hO := hO.ext hCs4498
      rcases bif_some hs with ⟨hc4502, hs⟩ | ⟨hc4502, hs⟩
      ·skip
       refine c_condT (congrArg Value.bool hc4502) ?_
       refine wp_skip ?_
       refine c_seq ?_
       refine wp_block ?_
       refine c_seq (c_region ?_)
       refine pl_val (.pointer (some ⟨g2, 0, none⟩)) (y_faddr rfl Fa34x0) ?_
       refine pl_val (.int .i64 a_.1) (y_load rfl ((box_load Ag3 Sz3 hb2 [] [(.int .i64 a_.1)] [(.slice pa0 pn0 pc0)] rfl rfl (fun _ => rfl)) _ (Chg.refl _ _))) ?_
       refine pl_val (.int .i64 s4482.2.2) (y_move rfl) ?_
       obtain ⟨r4504, hr4504, hs⟩ := bind_some hs
       refine pl_call Bd70 rfl (c_spec_l2Args (M := M4488) a_.1 2 s4482.2.2  hO.fut hr4504) ?_
       rintro _ w4503 ⟨a4503x0, n4503x0, c4503x0, f4503x0, rfl, hC4503, hv4503x0, hOc4503⟩
       have h0 := h0.ext hC4503
       have hb2 := hb2.chg hC4503 (fun h => nomatch h)
       have hv4489 := hv4489.ext hC4503
       have hv4491 := hv4491.ext hC4503
       have hC := hC.ext hC4503
       have hO := Own.join0 hO hC4503 hOc4503
       have hO := hO.perm (R := f4503x0 ++ (f4491 ++ (([g2]) ++ ([])))) (by simp)
       refine pl_val (.slice a4503x0 n4503x0 c4503x0) (y_assign rfl) ?_
       refine c_nil ?_
       refine c_seq ?_
       refine c_seq (c_region ?_)
       refine pl_val (.slice a4491 n4491 c4491) (y_move rfl) ?_
       refine pl_val (.int .i64 s3364.2.2) (y_move rfl) ?_
       obtain ⟨x4506, hx4506, hs⟩ := bind_some hs
       obtain ⟨g4507, f4507, hg4507, hk4507, hp4507, ha4507, hf4507⟩ := os_idx Sl59 Sz49 hv4491 hx4506
       have hb4507 := rd_row Rd.rs ha4507
       refine pl_val (.pointer (some ⟨g4507, 0 + Int.toNat s3364.2.2 * 1, none⟩)) (hp4507 _ _ _ _ _ _ _ _ _ rfl rfl) ?_
       obtain ⟨v4508, hl4508, hv4508⟩ := at_load Ag49 Sz49 (fun _ => rfl) hb4507
       obtain ⟨a4508, n4508, c4508, rfl⟩ := rs_sl hv4508
       refine pl_val (.slice a4508 n4508 c4508) (y_load rfl (hl4508 _ (Chg.refl _ _))) ?_
       refine pl_val (.slice a4503x0 n4503x0 c4503x0) (y_move rfl) ?_
       obtain ⟨r4511, hr4511, hs⟩ := bind_some hs
       refine pl_call Bd71 rfl (c_spec_l8Find (M := (Less M4488 f4503x0)) x4506 r4504 (hv4508.sub Less.sub) (((Frz.os Frz.int)).val hv4503x0 Less.sub Less.not) hO.less.fut hr4511) ?_
       rintro _ w4510 ⟨rfl, hC4510⟩
       have h0 := h0.ext hC4510
       have hb2 := hb2.chg hC4510 (fun h => nomatch h)
       have hv4489 := hv4489.ext hC4510
       have hv4491 := hv4491.ext hC4510
       have hv4503x0 := hv4503x0.ext hC4510
       have hv4508 := hv4508.ext hC4510
       have hC := hC.ext hC4510
       have hO := hO.ext hC4510
       refine pl_val (.tuple #[(.int .i64 r4511.1), (.bool r4511.2)]) (y_move rfl) ?_
       refine pl_val (.int .i64 r4511.1) (y_extract rfl (by kernel_rfl)) ?_
       refine pl_val (.bool r4511.2) (y_extract rfl (by kernel_rfl)) ?_
       refine pl_val (.int .i64 r4511.1) (y_assign rfl) ?_
       refine pl_val (.bool r4511.2) (y_assign rfl) ?_
       refine c_nil ?_
       refine c_seq (c_region ?_)
       refine pl_val (.bool r4511.2) (y_move rfl) ?_
       refine c_nil ?_
       rcases bif_some hs with ⟨hc4512, hs⟩ | ⟨hc4512, hs⟩
       ·skip
        refine c_condT (congrArg Value.bool hc4512) ?_
        refine wp_exit ?_
        refine c_region ?_
        refine pl_val (.int .i64 s4482.2.2) (y_move rfl) ?_
        refine pl_val (.int .i64 (w64 (s4482.2.2 + 1))) (y_add rfl rfl) ?_
        refine pl_val (.int .i64 (w64 (s4482.2.2 + 1))) (y_assign rfl) ?_
        refine c_nil ?_
        cases hs
        have hO := hO.drop
        have hO := hO.fr1
        have hO := hO.fr1
        exact ⟨_, M4488, a4489, n4489, c4489, a4491, n4491, c4491, f4491, fr_ovl 96 ⟨rfl, rfl, rfl, rfl, rfl, trivial⟩, hC, hO, hK, h0, hb2, hv4489, hv4491⟩
       ·skip
        refine c_condF (congrArg Value.bool hc4512) ?_
        refine wp_skip ?_
        refine c_seq ?_
        refine x_start [6, 9, 10] Mx rfl ?_
        have hCw4710 := Chg.drew w4510
        generalize World.drew w4510 = w4710 at hCw4710 ⊢
        have h0 := h0.ext hCw4710
        have hb2 := hb2.chg hCw4710 (fun h => nomatch h)
        have hv4489 := hv4489.ext hCw4710
        have hv4491 := hv4491.ext hCw4710
        have hv4503x0 := hv4503x0.ext hCw4710
        have hC := hC.ext hCw4710
        have hO := hO.ext hCw4710
        have hS := Chg.refl [] w4710
        refine x_p 2 (.slice a4491 n4491 c4491) rfl (by kernel_rfl)  (fun _ => y_move rfl) (fun _ => hS) ?_
        refine x_p 3 (.int .i64 s3364.2.2) rfl (by kernel_rfl)  (fun _ => y_move rfl) (fun _ => hS) ?_
        obtain ⟨x4711, hx4711, hs⟩ := bind_some hs
        obtain ⟨g4712, f4712, hg4712, hk4712, hp4712, ha4712, hf4712⟩ := os_idx Sl59 Sz49 hv4491 hx4711
        have hb4712 := rd_row Rd.rs ha4712
        refine x_p 4 (.pointer (some ⟨g4712, 0 + Int.toNat s3364.2.2 * 1, none⟩)) rfl (by kernel_rfl)  (fun _ => hp4712 _ _ _ _ _ _ _ _ _ rfl rfl) (fun _ => hS) ?_
        obtain ⟨v4713, hl4713, hv4713⟩ := at_load Ag49 Sz49 (fun _ => rfl) hb4712
        obtain ⟨a4713, n4713, c4713, rfl⟩ := rs_sl hv4713
        refine x_l 5 (.slice a4713 n4713 c4713) rfl (by kernel_rfl)  (fun w' hw' => y_load rfl (hl4713 w' hw')) hS ?_
        refine x_p 7 (.slice a4503x0 n4503x0 c4503x0) rfl (by kernel_rfl)  (fun _ => y_move rfl) (fun _ => hS) ?_
        refine x_many [0, 1, 8] (by kernel_rfl) (fun h => nomatch h) (all3 ?_ ?_ ?_)
        ·skip
         refine xk_val (b := false) (.agg #[(.int .i64 a_.1), (.slice pa0 pn0 pc0)]) rfl  (y_load rfl ((box_load Ag34 Sz34 hb2 [] [(.int .i64 a_.1), (.slice pa0 pn0 pc0)] [] rfl rfl (fun h => nomatch h)) _ (Chg.refl _ _))) rfl (fun _ => hS) ?_
         refine x_two (i := 1) (j := 8) (by kernel_rfl) ?_ ?_
         ·skip
          obtain ⟨w4715, g4715, ew4715, eg4715, hC4715, hb4715⟩ := new_block w4710 [] 25
          refine xk_val (w' := w4715) (b := false) (.slice (some ⟨g4715, 0, none⟩) 0 0) rfl  (y_bslice rfl (by rw [ew4715, eg4715]; kernel_rfl)) rfl (fun _ => hS.ext hC4715) ?_
          have h0 := h0.ext hC4715
          have hb2 := hb2.chg hC4715 (fun h => nomatch h)
          have hv4489 := hv4489.ext hC4715
          have hv4491 := hv4491.ext hC4715
          have hv4503x0 := hv4503x0.ext hC4715
          have hv4713 := hv4713.ext hC4715
          have hC := hC.ext hC4715
          have hO := hO.new1 hC4715 eg4715 hb4715.lt
          have hv4715 := os_of_box (r := (RT.os 3 (RT.int .i64))) (M := M4488) (css := []) (fps := []) (xs := ([] : List (List Int))) hb4715 trivial (Nat.zero_le _) (List.nodup_cons.2 ⟨(fun h => nomatch h), List.nodup_nil⟩)
          have hv4715 : (RT.os 25 (RT.os 3 (RT.int .i64))).val M4488 w4715 (.slice (some ⟨g4715, 0, none⟩) 0 0) [] [g4715] := hv4715
          have hS := hS.ext hC4715
          refine x_two (i := 6) (j := 8) (by kernel_rfl) ?_ ?_
          ·skip
           obtain ⟨M4718, f4718, hs4718, hk4718, hO, hv4718⟩ := os_inner (Frz.os Frz.int) hv4715 hO
           have h0 := h0.sub (M' := M4718) hs4718
           have hv4489 := hv4489.sub (M' := M4718) hs4718
           have hv4491 := hv4491.sub (M' := M4718) hs4718
           have hv4503x0 := hv4503x0.sub (M' := M4718) hs4718
           have hv4713 := hv4713.sub (M' := M4718) hs4718
           have hK := hK.trans hk4718
           obtain ⟨y4719, hy4719, hs⟩ := bind_some hs
           obtain ⟨a4717, n4717, c4717, w4717, f4717, hr4717, hC4717, hf4717, hv4717⟩ := app_rs Rw49 hy4719 hv4718 hv4713 hO.inM
           have hG4717 := os_block hv4718
           refine xk_val (w' := w4717) (b := true) (.slice a4717 n4717 c4717) rfl  (y_append rfl rfl (hr4717 _)) rfl (fun h => nomatch h) ?_
           have h0 := h0.mut hC4717 (fun g hg => hO.inM g (hG4717 g hg)) (fun _ _ h => nomatch h)
           have hb2 := hb2.chg hC4717 (fun hg => hO.apart _ (hG4717 _ hg) (mem_r (mem_r (mem_l (List.mem_singleton.2 rfl)))))
           have hv4489 := hv4489.mut hC4717 (fun g hg => hO.inM g (hG4717 g hg)) (fun _ _ h => nomatch h)
           have hv4491 := hv4491.mut hC4717 (fun g hg => hO.inM g (hG4717 g hg)) (fun g hg e => hO.apart g (hG4717 g hg) (mem_r (mem_l (e))))
           have hv4503x0 := hv4503x0.mut hC4717 (fun g hg => hO.inM g (hG4717 g hg)) (fun g hg e => hO.apart g (hG4717 g hg) (mem_l (e)))
           have hv4713 := hv4713.mut hC4717 (fun g hg => hO.inM g (hG4717 g hg)) (fun _ _ h => nomatch h)
           have hC := hC.step hC4717 (fun g hg => hO.inN g (hG4717 g hg))
           have hO := hO.grow hC4717 hf4717 (os_nodup hv4717) hv4717.fpl
           refine x_one (i := 8) (by kernel_rfl) ?_
           obtain ⟨w4721, g4721, ew4721, eg4721, hC4721, hb4721⟩ := new_block w4717 [(.slice a4503x0 n4503x0 c4503x0)] 25
           refine xk_val (w' := w4721) (b := true) (.slice (some ⟨g4721, 0, none⟩) 1 1) rfl  (y_bslice rfl (by rw [ew4721, eg4721]; kernel_rfl)) rfl (fun h => nomatch h) ?_
           have h0 := h0.ext hC4721
           have hb2 := hb2.chg hC4721 (fun h => nomatch h)
           have hv4489 := hv4489.ext hC4721
           have hv4491 := hv4491.ext hC4721
           have hv4503x0 := hv4503x0.ext hC4721
           have hv4713 := hv4713.ext hC4721
           have hv4717 := hv4717.ext hC4721
           have hC := hC.ext hC4721
           have hO := hO.fr1
           have hO := hO.new1 hC4721 eg4721 hb4721.lt
           have hO := hO.perm (R := (g4721 :: ((f4503x0) ++ ([]))) ++ (f4717 ++ (f4491 ++ (([g2]) ++ ([]))))) (by simp)
           have hnd4721 := hO.nd
           have hv4721 := os_of_box (r := (RT.os 3 (RT.int .i64))) (M := M4718) (css := [[(.slice a4503x0 n4503x0 c4503x0)]]) (fps := [(f4503x0 : List Nat)]) (xs := ([r4504] : List (List Int))) hb4721 ⟨(os_unval hv4503x0), trivial⟩ (Nat.le_of_ble_eq_true rfl) hnd4721
           have hv4721 : (RT.os 25 (RT.os 3 (RT.int .i64))).val M4718 w4721 (.slice (some ⟨g4721, 0, none⟩) 1 1) [r4504] (g4721 :: ((f4503x0) ++ ([]))) := hv4721
           refine x_one (i := 9) (by kernel_rfl) ?_
           obtain ⟨M4724, f4724, hs4724, hk4724, hO, hv4724⟩ := os_inner (Frz.os Frz.int) hv4721 hO
           have h0 := h0.sub (M' := M4724) hs4724
           have hv4489 := hv4489.sub (M' := M4724) hs4724
           have hv4491 := hv4491.sub (M' := M4724) hs4724
           have hv4713 := hv4713.sub (M' := M4724) hs4724
           have hv4717 := hv4717.sub (M' := M4724) hs4724
           have hK := hK.trans hk4724
           obtain ⟨y4725, hy4725, hs⟩ := bind_some hs
           have hO := hO.fr1
           obtain ⟨a4723, n4723, c4723, w4723, f4723, hr4723, hC4723, hf4723, hv4723⟩ := app_os Rw49 hy4725 hv4717 hv4724 hO.inM (fun g hg hq => hO.apart g hq (mem_l hg))
           have hG4723 := os_block hv4717
           refine xk_val (w' := w4723) (b := true) (.slice a4723 n4723 c4723) rfl  (y_append rfl rfl (hr4723 _)) rfl (fun h => nomatch h) ?_
           have hO := hO.fr1
           have hO := hO.fr1
           have h0 := h0.mut hC4723 (fun g hg => hO.inM g (hG4723 g hg)) (fun _ _ h => nomatch h)
           have hb2 := hb2.chg hC4723 (fun hg => hO.apart _ (hG4723 _ hg) (mem_r (mem_r (mem_l (List.mem_singleton.2 rfl)))))
           have hv4489 := hv4489.mut hC4723 (fun g hg => hO.inM g (hG4723 g hg)) (fun _ _ h => nomatch h)
           have hv4491 := hv4491.mut hC4723 (fun g hg => hO.inM g (hG4723 g hg)) (fun g hg e => hO.apart g (hG4723 g hg) (mem_r (mem_l (e))))
           have hv4713 := hv4713.mut hC4723 (fun g hg => hO.inM g (hG4723 g hg)) (fun _ _ h => nomatch h)
           have hC := hC.step hC4723 (fun g hg => hO.inN g (hG4723 g hg))
           have hO := hO.eat hC4723 hf4723 (os_nodup hv4723) hv4723.fpl
           refine x_one (i := 10) (by kernel_rfl) ?_
           obtain ⟨M4728, eM4728, hs4728, hk4728, hO, hv4728⟩ := frz_own (Frz.os (Frz.rs Frz.int)) hv4723 hO
           have h0 := h0.sub (M' := M4728) hs4728
           have hv4489 := hv4489.sub (M' := M4728) hs4728
           have hv4491 := hv4491.sub (M' := M4728) hs4728
           have hv4713 := hv4713.sub (M' := M4728) hs4728
           have hK := hK.trans hk4728
           obtain ⟨r4729, hr4729, hs⟩ := bind_some hs
           refine xk_call (b := true) rfl  Bd69 rfl (c_spec_l8Close (M := M4728) (a_.1, a_.2) 2 y4725 h0 hv4728 hO.fut hr4729) rfl (fun h => nomatch h) ?_
           rintro _ w4727 ⟨a4727x0, n4727x0, c4727x0, rfl, hC4727, hv4727x0⟩
           have hK := hK.trans (show Keeps w M4728 (Past M4728 w4723 w4727) from Keeps.past hC.size)
           have h0 := h0.ext hC4727
           have hb2 := hb2.chg hC4727 (fun h => nomatch h)
           have hv4489 := hv4489.ext hC4727
           have hv4491 := hv4491.ext hC4727
           have hv4713 := hv4713.ext hC4727
           have hv4728 := hv4728.ext hC4727
           have hC := hC.ext hC4727
           have hO := hO.past hC4727
           have h0 := h0.sub (M' := (Past M4728 w4723 w4727)) (fun g hg => .inl hg.1)
           have hv4489 := hv4489.sub (M' := (Past M4728 w4723 w4727)) (fun g hg => .inl hg.1)
           have hv4491 := hv4491.sub (M' := (Past M4728 w4723 w4727)) (fun g hg => .inl hg.1)
           have hv4713 := hv4713.sub (M' := (Past M4728 w4723 w4727)) (fun g hg => .inl hg.1)
           have hv4728 := hv4728.sub (M' := (Past M4728 w4723 w4727)) (fun g hg => .inl hg.1)
           refine x_p 11 (.tuple #[(.slice a4727x0 n4727x0 c4727x0), (.bool r4729.2)]) rfl (by kernel_rfl)  (fun _ => y_move rfl) (fun h => nomatch h) ?_
           refine x_p 12 (.slice a4727x0 n4727x0 c4727x0) rfl (by kernel_rfl)  (fun _ => y_extract rfl (by kernel_rfl)) (fun h => nomatch h) ?_
           refine x_p 13 (.bool r4729.2) rfl (by kernel_rfl)  (fun _ => y_extract rfl (by kernel_rfl)) (fun h => nomatch h) ?_
           refine x_p 14 (.slice a4727x0 n4727x0 c4727x0) rfl (by kernel_rfl)  (fun _ => y_assign rfl) (fun h => nomatch h) ?_
           refine x_p 15 (.bool r4729.2) rfl (by kernel_rfl)  (fun _ => y_assign rfl) (fun h => nomatch h) ?_
           refine x_end (by kernel_rfl) ?_
           clear hS
           refine c_seq (c_region ?_)
           refine pl_val (.slice a4489 n4489 c4489) (y_move rfl) ?_
           refine pl_val (.slice a4727x0 n4727x0 c4727x0) (y_move rfl) ?_
           obtain ⟨r4732, hr4732, hs⟩ := bind_some hs
           refine pl_call Bd72 rfl (c_spec_l18Put (M := (Past M4728 w4723 w4727)) s4482.1 r4729.1 hv4489 hv4727x0 hO.fut hr4732) ?_
           rintro _ w4731 ⟨a4731x0, n4731x0, c4731x0, rfl, hC4731, hv4731x0⟩
           have hK := hK.trans (show Keeps w (Past M4728 w4723 w4727) (Past (Past M4728 w4723 w4727) w4727 w4731) from Keeps.past hC.size)
           have h0 := h0.ext hC4731
           have hb2 := hb2.chg hC4731 (fun h => nomatch h)
           have hv4489 := hv4489.ext hC4731
           have hv4491 := hv4491.ext hC4731
           have hv4713 := hv4713.ext hC4731
           have hv4728 := hv4728.ext hC4731
           have hv4727x0 := hv4727x0.ext hC4731
           have hC := hC.ext hC4731
           have hO := hO.past hC4731
           have h0 := h0.sub (M' := (Past (Past M4728 w4723 w4727) w4727 w4731)) (fun g hg => .inl hg.1)
           have hv4489 := hv4489.sub (M' := (Past (Past M4728 w4723 w4727) w4727 w4731)) (fun g hg => .inl hg.1)
           have hv4491 := hv4491.sub (M' := (Past (Past M4728 w4723 w4727) w4727 w4731)) (fun g hg => .inl hg.1)
           have hv4713 := hv4713.sub (M' := (Past (Past M4728 w4723 w4727) w4727 w4731)) (fun g hg => .inl hg.1)
           have hv4728 := hv4728.sub (M' := (Past (Past M4728 w4723 w4727) w4727 w4731)) (fun g hg => .inl hg.1)
           have hv4727x0 := hv4727x0.sub (M' := (Past (Past M4728 w4723 w4727) w4727 w4731)) (fun g hg => .inl hg.1)
           refine pl_val (.slice a4731x0 n4731x0 c4731x0) (y_assign rfl) ?_
           refine c_nil ?_
           refine c_seq (c_region ?_)
           refine pl_val (.slice a4731x0 n4731x0 c4731x0) (y_move rfl) ?_
           refine pl_val (.int .i64 (r4732.length : Int)) (y_len' Sl59 (rs_len hv4731x0) rfl) ?_
           refine pl_val (.slice a4489 n4489 c4489) (y_move rfl) ?_
           refine pl_val (.int .i64 (s4482.1.length : Int)) (y_len' Sl59 (rs_len hv4489) rfl) ?_
           refine pl_val (.bool (decide ((s4482.1.length : Int) < (r4732.length : Int)))) (y_gtr rfl rfl) ?_
           refine c_nil ?_
           rcases bif_some hs with ⟨hc4734, hs⟩ | ⟨hc4734, hs⟩
           ·skip
            refine c_condT (congrArg Value.bool hc4734) ?_
            refine c_seq (c_region ?_)
            refine pl_val (.slice a4731x0 n4731x0 c4731x0) (y_move rfl) ?_
            refine pl_val (.slice a4731x0 n4731x0 c4731x0) (y_assign rfl) ?_
            refine c_nil ?_
            refine c_region ?_
            refine pl_val (.slice a4491 n4491 c4491) (y_move rfl) ?_
            refine pl_val (.slice a4727x0 n4727x0 c4727x0) (y_move rfl) ?_
            obtain ⟨w4735, g4735, ew4735, eg4735, hC4735, hb4735⟩ := new_block w4731 [(.slice a4727x0 n4727x0 c4727x0)] 49
            refine pl_val (w' := w4735) (.slice (some ⟨g4735, 0, none⟩) 1 1) (y_bslice rfl (by rw [ew4735, eg4735]; kernel_rfl)) ?_
            have h0 := h0.ext hC4735
            have hb2 := hb2.chg hC4735 (fun h => nomatch h)
            have hv4491 := hv4491.ext hC4735
            have hv4727x0 := hv4727x0.ext hC4735
            have hv4731x0 := hv4731x0.ext hC4735
            have hC := hC.ext hC4735
            have hO := hO.new1 hC4735 eg4735 hb4735.lt
            have hv4735 := os_of_box (r := (RT.rs (RT.rs (RT.int .i64)))) (M := (Past (Past M4728 w4723 w4727) w4727 w4731)) (css := [[(.slice a4727x0 n4727x0 c4727x0)]]) (fps := [([] : List Nat)]) (xs := ([r4729.1] : List (List (List Int)))) hb4735 ⟨(rs_unval hv4727x0), trivial⟩ (Nat.le_of_ble_eq_true rfl) (List.nodup_cons.2 ⟨(fun h => nomatch h), List.nodup_nil⟩)
            have hv4735 : (RT.os 49 (RT.rs (RT.rs (RT.int .i64)))).val (Past (Past M4728 w4723 w4727) w4727 w4731) w4735 (.slice (some ⟨g4735, 0, none⟩) 1 1) [r4729.1] [g4735] := hv4735
            obtain ⟨y4738, hy4738, hs⟩ := bind_some hs
            have hO := hO.fr1
            obtain ⟨a4737, n4737, c4737, w4737, f4737, hr4737, hC4737, hf4737, hv4737⟩ := app_os Rw59 hy4738 hv4491 hv4735 hO.inM (fun g hg hq => hO.apart g hq (mem_l hg))
            have hG4737 := os_block hv4491
            refine pl_val (w' := w4737) (.slice a4737 n4737 c4737) (y_append rfl rfl (hr4737 _)) ?_
            have hO := hO.fr1
            have hO := hO.fr1
            have h0 := h0.mut hC4737 (fun g hg => hO.inM g (hG4737 g hg)) (fun _ _ h => nomatch h)
            have hb2 := hb2.chg hC4737 (fun hg => hO.apart _ (hG4737 _ hg) (mem_r (mem_l (List.mem_singleton.2 rfl))))
            have hv4727x0 := hv4727x0.mut hC4737 (fun g hg => hO.inM g (hG4737 g hg)) (fun _ _ h => nomatch h)
            have hv4731x0 := hv4731x0.mut hC4737 (fun g hg => hO.inM g (hG4737 g hg)) (fun _ _ h => nomatch h)
            have hC := hC.step hC4737 (fun g hg => hO.inN g (hG4737 g hg))
            have hO := hO.eat hC4737 hf4737 (os_nodup hv4737) hv4737.fpl
            refine pl_val (.slice a4737 n4737 c4737) (y_assign rfl) ?_
            refine c_nil ?_
            refine c_region ?_
            refine pl_val (.int .i64 s4482.2.2) (y_move rfl) ?_
            refine pl_val (.int .i64 (w64 (s4482.2.2 + 1))) (y_add rfl rfl) ?_
            refine pl_val (.int .i64 (w64 (s4482.2.2 + 1))) (y_assign rfl) ?_
            refine c_nil ?_
            cases hs
            have hO := hO.fr1
            have hO := hO.fr1
            exact ⟨_, (Past (Past M4728 w4723 w4727) w4727 w4731), a4731x0, n4731x0, c4731x0, a4737, n4737, c4737, f4737, fr_ovl 96 ⟨rfl, rfl, rfl, rfl, rfl, trivial⟩, hC, hO, hK, h0, hb2, hv4731x0, hv4737⟩
           ·skip
            refine c_condF (congrArg Value.bool hc4734) ?_
            refine wp_skip ?_
            refine c_region ?_
            refine pl_val (.int .i64 s4482.2.2) (y_move rfl) ?_
            refine pl_val (.int .i64 (w64 (s4482.2.2 + 1))) (y_add rfl rfl) ?_
            refine pl_val (.int .i64 (w64 (s4482.2.2 + 1))) (y_assign rfl) ?_
            refine c_nil ?_
            cases hs
            have hO := hO.fr1
            have hO := hO.fr1
            exact ⟨_, (Past (Past M4728 w4723 w4727) w4727 w4731), a4489, n4489, c4489, a4491, n4491, c4491, f4491, fr_ovl 96 ⟨rfl, rfl, rfl, rfl, rfl, trivial⟩, hC, hO, hK, h0, hb2, hv4489, hv4491⟩
          ·skip
           obtain ⟨w4740, g4740, ew4740, eg4740, hC4740, hb4740⟩ := new_block w4715 [(.slice a4503x0 n4503x0 c4503x0)] 25
           refine xk_val (w' := w4740) (b := false) (.slice (some ⟨g4740, 0, none⟩) 1 1) rfl  (y_bslice rfl (by rw [ew4740, eg4740]; kernel_rfl)) rfl (fun _ => hS.ext hC4740) ?_
           have h0 := h0.ext hC4740
           have hb2 := hb2.chg hC4740 (fun h => nomatch h)
           have hv4489 := hv4489.ext hC4740
           have hv4491 := hv4491.ext hC4740
           have hv4503x0 := hv4503x0.ext hC4740
           have hv4713 := hv4713.ext hC4740
           have hv4715 := hv4715.ext hC4740
           have hC := hC.ext hC4740
           have hO := hO.fr1
           have hO := hO.new1 hC4740 eg4740 hb4740.lt
           have hO := hO.perm (R := (g4740 :: ((f4503x0) ++ ([]))) ++ (([g4715]) ++ (f4491 ++ (([g2]) ++ ([]))))) (by simp)
           have hnd4740 := hO.nd
           have hv4740 := os_of_box (r := (RT.os 3 (RT.int .i64))) (M := M4488) (css := [[(.slice a4503x0 n4503x0 c4503x0)]]) (fps := [(f4503x0 : List Nat)]) (xs := ([r4504] : List (List Int))) hb4740 ⟨(os_unval hv4503x0), trivial⟩ (Nat.le_of_ble_eq_true rfl) hnd4740
           have hv4740 : (RT.os 25 (RT.os 3 (RT.int .i64))).val M4488 w4740 (.slice (some ⟨g4740, 0, none⟩) 1 1) [r4504] (g4740 :: ((f4503x0) ++ ([]))) := hv4740
           have hS := hS.ext hC4740
           refine x_one (i := 6) (by kernel_rfl) ?_
           have hO := hO.fr1
           obtain ⟨M4743, f4743, hs4743, hk4743, hO, hv4743⟩ := os_inner (Frz.os Frz.int) hv4715 hO
           have h0 := h0.sub (M' := M4743) hs4743
           have hv4489 := hv4489.sub (M' := M4743) hs4743
           have hv4491 := hv4491.sub (M' := M4743) hs4743
           have hv4713 := hv4713.sub (M' := M4743) hs4743
           have hv4740 := hv4740.sub (M' := M4743) hs4743
           have hK := hK.trans hk4743
           obtain ⟨y4719, hy4719, hs⟩ := bind_some hs
           obtain ⟨a4742, n4742, c4742, w4742, f4742, hr4742, hC4742, hf4742, hv4742⟩ := app_rs Rw49 hy4719 hv4743 hv4713 hO.inM
           have hG4742 := os_block hv4743
           refine xk_val (w' := w4742) (b := true) (.slice a4742 n4742 c4742) rfl  (y_append rfl rfl (hr4742 _)) rfl (fun h => nomatch h) ?_
           have h0 := h0.mut hC4742 (fun g hg => hO.inM g (hG4742 g hg)) (fun _ _ h => nomatch h)
           have hb2 := hb2.chg hC4742 (fun hg => hO.apart _ (hG4742 _ hg) (mem_r (mem_r (mem_l (List.mem_singleton.2 rfl)))))
           have hv4489 := hv4489.mut hC4742 (fun g hg => hO.inM g (hG4742 g hg)) (fun _ _ h => nomatch h)
           have hv4491 := hv4491.mut hC4742 (fun g hg => hO.inM g (hG4742 g hg)) (fun g hg e => hO.apart g (hG4742 g hg) (mem_r (mem_l (e))))
           have hv4713 := hv4713.mut hC4742 (fun g hg => hO.inM g (hG4742 g hg)) (fun _ _ h => nomatch h)
           have hv4740 := hv4740.mut hC4742 (fun g hg => hO.inM g (hG4742 g hg)) (fun g hg e => hO.apart g (hG4742 g hg) (mem_l (e)))
           have hC := hC.step hC4742 (fun g hg => hO.inN g (hG4742 g hg))
           have hO := hO.grow hC4742 hf4742 (os_nodup hv4742) hv4742.fpl
           refine x_one (i := 9) (by kernel_rfl) ?_
           have hO := hO.fr1
           obtain ⟨M4747, f4747, hs4747, hk4747, hO, hv4747⟩ := os_inner (Frz.os Frz.int) hv4740 hO
           have h0 := h0.sub (M' := M4747) hs4747
           have hv4489 := hv4489.sub (M' := M4747) hs4747
           have hv4491 := hv4491.sub (M' := M4747) hs4747
           have hv4713 := hv4713.sub (M' := M4747) hs4747
           have hv4742 := hv4742.sub (M' := M4747) hs4747
           have hK := hK.trans hk4747
           obtain ⟨y4725, hy4725, hs⟩ := bind_some hs
           have hO := hO.fr1
           obtain ⟨a4746, n4746, c4746, w4746, f4746, hr4746, hC4746, hf4746, hv4746⟩ := app_os Rw49 hy4725 hv4742 hv4747 hO.inM (fun g hg hq => hO.apart g hq (mem_l hg))
           have hG4746 := os_block hv4742
           refine xk_val (w' := w4746) (b := true) (.slice a4746 n4746 c4746) rfl  (y_append rfl rfl (hr4746 _)) rfl (fun h => nomatch h) ?_
           have hO := hO.fr1
           have hO := hO.fr1
           have h0 := h0.mut hC4746 (fun g hg => hO.inM g (hG4746 g hg)) (fun _ _ h => nomatch h)
           have hb2 := hb2.chg hC4746 (fun hg => hO.apart _ (hG4746 _ hg) (mem_r (mem_r (mem_l (List.mem_singleton.2 rfl)))))
           have hv4489 := hv4489.mut hC4746 (fun g hg => hO.inM g (hG4746 g hg)) (fun _ _ h => nomatch h)
           have hv4491 := hv4491.mut hC4746 (fun g hg => hO.inM g (hG4746 g hg)) (fun g hg e => hO.apart g (hG4746 g hg) (mem_r (mem_l (e))))
           have hv4713 := hv4713.mut hC4746 (fun g hg => hO.inM g (hG4746 g hg)) (fun _ _ h => nomatch h)
           have hC := hC.step hC4746 (fun g hg => hO.inN g (hG4746 g hg))
           have hO := hO.eat hC4746 hf4746 (os_nodup hv4746) hv4746.fpl
           refine x_one (i := 10) (by kernel_rfl) ?_
           obtain ⟨M4751, eM4751, hs4751, hk4751, hO, hv4751⟩ := frz_own (Frz.os (Frz.rs Frz.int)) hv4746 hO
           have h0 := h0.sub (M' := M4751) hs4751
           have hv4489 := hv4489.sub (M' := M4751) hs4751
           have hv4491 := hv4491.sub (M' := M4751) hs4751
           have hv4713 := hv4713.sub (M' := M4751) hs4751
           have hK := hK.trans hk4751
           obtain ⟨r4729, hr4729, hs⟩ := bind_some hs
           refine xk_call (b := true) rfl  Bd69 rfl (c_spec_l8Close (M := M4751) (a_.1, a_.2) 2 y4725 h0 hv4751 hO.fut hr4729) rfl (fun h => nomatch h) ?_
           rintro _ w4750 ⟨a4750x0, n4750x0, c4750x0, rfl, hC4750, hv4750x0⟩
           have hK := hK.trans (show Keeps w M4751 (Past M4751 w4746 w4750) from Keeps.past hC.size)
           have h0 := h0.ext hC4750
           have hb2 := hb2.chg hC4750 (fun h => nomatch h)
           have hv4489 := hv4489.ext hC4750
           have hv4491 := hv4491.ext hC4750
           have hv4713 := hv4713.ext hC4750
           have hv4751 := hv4751.ext hC4750
           have hC := hC.ext hC4750
           have hO := hO.past hC4750
           have h0 := h0.sub (M' := (Past M4751 w4746 w4750)) (fun g hg => .inl hg.1)
           have hv4489 := hv4489.sub (M' := (Past M4751 w4746 w4750)) (fun g hg => .inl hg.1)
           have hv4491 := hv4491.sub (M' := (Past M4751 w4746 w4750)) (fun g hg => .inl hg.1)
           have hv4713 := hv4713.sub (M' := (Past M4751 w4746 w4750)) (fun g hg => .inl hg.1)
           have hv4751 := hv4751.sub (M' := (Past M4751 w4746 w4750)) (fun g hg => .inl hg.1)
           refine x_p 11 (.tuple #[(.slice a4750x0 n4750x0 c4750x0), (.bool r4729.2)]) rfl (by kernel_rfl)  (fun _ => y_move rfl) (fun h => nomatch h) ?_
           refine x_p 12 (.slice a4750x0 n4750x0 c4750x0) rfl (by kernel_rfl)  (fun _ => y_extract rfl (by kernel_rfl)) (fun h => nomatch h) ?_
           refine x_p 13 (.bool r4729.2) rfl (by kernel_rfl)  (fun _ => y_extract rfl (by kernel_rfl)) (fun h => nomatch h) ?_
           refine x_p 14 (.slice a4750x0 n4750x0 c4750x0) rfl (by kernel_rfl)  (fun _ => y_assign rfl) (fun h => nomatch h) ?_
           refine x_p 15 (.bool r4729.2) rfl (by kernel_rfl)  (fun _ => y_assign rfl) (fun h => nomatch h) ?_
           refine x_end (by kernel_rfl) ?_
           clear hS
           refine c_seq (c_region ?_)
           refine pl_val (.slice a4489 n4489 c4489) (y_move rfl) ?_
           refine pl_val (.slice a4750x0 n4750x0 c4750x0) (y_move rfl) ?_
           obtain ⟨r4732, hr4732, hs⟩ := bind_some hs
           refine pl_call Bd72 rfl (c_spec_l18Put (M := (Past M4751 w4746 w4750)) s4482.1 r4729.1 hv4489 hv4750x0 hO.fut hr4732) ?_
           rintro _ w4754 ⟨a4754x0, n4754x0, c4754x0, rfl, hC4754, hv4754x0⟩
           have hK := hK.trans (show Keeps w (Past M4751 w4746 w4750) (Past (Past M4751 w4746 w4750) w4750 w4754) from Keeps.past hC.size)
           have h0 := h0.ext hC4754
           have hb2 := hb2.chg hC4754 (fun h => nomatch h)
           have hv4489 := hv4489.ext hC4754
           have hv4491 := hv4491.ext hC4754
           have hv4713 := hv4713.ext hC4754
           have hv4751 := hv4751.ext hC4754
           have hv4750x0 := hv4750x0.ext hC4754
           have hC := hC.ext hC4754
           have hO := hO.past hC4754
           have h0 := h0.sub (M' := (Past (Past M4751 w4746 w4750) w4750 w4754)) (fun g hg => .inl hg.1)
           have hv4489 := hv4489.sub (M' := (Past (Past M4751 w4746 w4750) w4750 w4754)) (fun g hg => .inl hg.1)
           have hv4491 := hv4491.sub (M' := (Past (Past M4751 w4746 w4750) w4750 w4754)) (fun g hg => .inl hg.1)
           have hv4713 := hv4713.sub (M' := (Past (Past M4751 w4746 w4750) w4750 w4754)) (fun g hg => .inl hg.1)
           have hv4751 := hv4751.sub (M' := (Past (Past M4751 w4746 w4750) w4750 w4754)) (fun g hg => .inl hg.1)
           have hv4750x0 := hv4750x0.sub (M' := (Past (Past M4751 w4746 w4750) w4750 w4754)) (fun g hg => .inl hg.1)
           refine pl_val (.slice a4754x0 n4754x0 c4754x0) (y_assign rfl) ?_
           refine c_nil ?_
           refine c_seq (c_region ?_)
           refine pl_val (.slice a4754x0 n4754x0 c4754x0) (y_move rfl) ?_
           refine pl_val (.int .i64 (r4732.length : Int)) (y_len' Sl59 (rs_len hv4754x0) rfl) ?_
           refine pl_val (.slice a4489 n4489 c4489) (y_move rfl) ?_
           refine pl_val (.int .i64 (s4482.1.length : Int)) (y_len' Sl59 (rs_len hv4489) rfl) ?_
           refine pl_val (.bool (decide ((s4482.1.length : Int) < (r4732.length : Int)))) (y_gtr rfl rfl) ?_
           refine c_nil ?_
           rcases bif_some hs with ⟨hc4757, hs⟩ | ⟨hc4757, hs⟩
           ·skip
            refine c_condT (congrArg Value.bool hc4757) ?_
            refine c_seq (c_region ?_)
            refine pl_val (.slice a4754x0 n4754x0 c4754x0) (y_move rfl) ?_
            refine pl_val (.slice a4754x0 n4754x0 c4754x0) (y_assign rfl) ?_
            refine c_nil ?_
            refine c_region ?_
            refine pl_val (.slice a4491 n4491 c4491) (y_move rfl) ?_
            refine pl_val (.slice a4750x0 n4750x0 c4750x0) (y_move rfl) ?_
            obtain ⟨w4758, g4758, ew4758, eg4758, hC4758, hb4758⟩ := new_block w4754 [(.slice a4750x0 n4750x0 c4750x0)] 49
            refine pl_val (w' := w4758) (.slice (some ⟨g4758, 0, none⟩) 1 1) (y_bslice rfl (by rw [ew4758, eg4758]; kernel_rfl)) ?_
            have h0 := h0.ext hC4758
            have hb2 := hb2.chg hC4758 (fun h => nomatch h)
            have hv4491 := hv4491.ext hC4758
            have hv4750x0 := hv4750x0.ext hC4758
            have hv4754x0 := hv4754x0.ext hC4758
            have hC := hC.ext hC4758
            have hO := hO.new1 hC4758 eg4758 hb4758.lt
            have hv4758 := os_of_box (r := (RT.rs (RT.rs (RT.int .i64)))) (M := (Past (Past M4751 w4746 w4750) w4750 w4754)) (css := [[(.slice a4750x0 n4750x0 c4750x0)]]) (fps := [([] : List Nat)]) (xs := ([r4729.1] : List (List (List Int)))) hb4758 ⟨(rs_unval hv4750x0), trivial⟩ (Nat.le_of_ble_eq_true rfl) (List.nodup_cons.2 ⟨(fun h => nomatch h), List.nodup_nil⟩)
            have hv4758 : (RT.os 49 (RT.rs (RT.rs (RT.int .i64)))).val (Past (Past M4751 w4746 w4750) w4750 w4754) w4758 (.slice (some ⟨g4758, 0, none⟩) 1 1) [r4729.1] [g4758] := hv4758
            obtain ⟨y4761, hy4761, hs⟩ := bind_some hs
            have hO := hO.fr1
            obtain ⟨a4760, n4760, c4760, w4760, f4760, hr4760, hC4760, hf4760, hv4760⟩ := app_os Rw59 hy4761 hv4491 hv4758 hO.inM (fun g hg hq => hO.apart g hq (mem_l hg))
            have hG4760 := os_block hv4491
            refine pl_val (w' := w4760) (.slice a4760 n4760 c4760) (y_append rfl rfl (hr4760 _)) ?_
            have hO := hO.fr1
            have hO := hO.fr1
            have h0 := h0.mut hC4760 (fun g hg => hO.inM g (hG4760 g hg)) (fun _ _ h => nomatch h)
            have hb2 := hb2.chg hC4760 (fun hg => hO.apart _ (hG4760 _ hg) (mem_r (mem_l (List.mem_singleton.2 rfl))))
            have hv4750x0 := hv4750x0.mut hC4760 (fun g hg => hO.inM g (hG4760 g hg)) (fun _ _ h => nomatch h)
            have hv4754x0 := hv4754x0.mut hC4760 (fun g hg => hO.inM g (hG4760 g hg)) (fun _ _ h => nomatch h)
            have hC := hC.step hC4760 (fun g hg => hO.inN g (hG4760 g hg))
            have hO := hO.eat hC4760 hf4760 (os_nodup hv4760) hv4760.fpl
            refine pl_val (.slice a4760 n4760 c4760) (y_assign rfl) ?_
            refine c_nil ?_
            refine c_region ?_
            refine pl_val (.int .i64 s4482.2.2) (y_move rfl) ?_
            refine pl_val (.int .i64 (w64 (s4482.2.2 + 1))) (y_add rfl rfl) ?_
            refine pl_val (.int .i64 (w64 (s4482.2.2 + 1))) (y_assign rfl) ?_
            refine c_nil ?_
            cases hs
            have hO := hO.fr1
            have hO := hO.fr1
            exact ⟨_, (Past (Past M4751 w4746 w4750) w4750 w4754), a4754x0, n4754x0, c4754x0, a4760, n4760, c4760, f4760, fr_ovl 96 ⟨rfl, rfl, rfl, rfl, rfl, trivial⟩, hC, hO, hK, h0, hb2, hv4754x0, hv4760⟩
           ·skip
            refine c_condF (congrArg Value.bool hc4757) ?_
            refine wp_skip ?_
            refine c_region ?_
            refine pl_val (.int .i64 s4482.2.2) (y_move rfl) ?_
            refine pl_val (.int .i64 (w64 (s4482.2.2 + 1))) (y_add rfl rfl) ?_
            refine pl_val (.int .i64 (w64 (s4482.2.2 + 1))) (y_assign rfl) ?_
            refine c_nil ?_
            cases hs
            have hO := hO.fr1
            have hO := hO.fr1
            exact ⟨_, (Past (Past M4751 w4746 w4750) w4750 w4754), a4489, n4489, c4489, a4491, n4491, c4491, f4491, fr_ovl 96 ⟨rfl, rfl, rfl, rfl, rfl, trivial⟩, hC, hO, hK, h0, hb2, hv4489, hv4491⟩
         ·skip
          obtain ⟨w4763, g4763, ew4763, eg4763, hC4763, hb4763⟩ := new_block w4710 [(.slice a4503x0 n4503x0 c4503x0)] 25
          refine xk_val (w' := w4763) (b := false) (.slice (some ⟨g4763, 0, none⟩) 1 1) rfl  (y_bslice rfl (by rw [ew4763, eg4763]; kernel_rfl)) rfl (fun _ => hS.ext hC4763) ?_
          have h0 := h0.ext hC4763
          have hb2 := hb2.chg hC4763 (fun h => nomatch h)
          have hv4489 := hv4489.ext hC4763
          have hv4491 := hv4491.ext hC4763
          have hv4503x0 := hv4503x0.ext hC4763
          have hv4713 := hv4713.ext hC4763
          have hC := hC.ext hC4763
          have hO := hO.new1 hC4763 eg4763 hb4763.lt
          have hO := hO.perm (R := (g4763 :: ((f4503x0) ++ ([]))) ++ (f4491 ++ (([g2]) ++ ([])))) (by simp)
          have hnd4763 := hO.nd
          have hv4763 := os_of_box (r := (RT.os 3 (RT.int .i64))) (M := M4488) (css := [[(.slice a4503x0 n4503x0 c4503x0)]]) (fps := [(f4503x0 : List Nat)]) (xs := ([r4504] : List (List Int))) hb4763 ⟨(os_unval hv4503x0), trivial⟩ (Nat.le_of_ble_eq_true rfl) hnd4763
          have hv4763 : (RT.os 25 (RT.os 3 (RT.int .i64))).val M4488 w4763 (.slice (some ⟨g4763, 0, none⟩) 1 1) [r4504] (g4763 :: ((f4503x0) ++ ([]))) := hv4763
          have hS := hS.ext hC4763
          refine x_one (i := 1) (by kernel_rfl) ?_
          obtain ⟨w4765, g4765, ew4765, eg4765, hC4765, hb4765⟩ := new_block w4763 [] 25
          refine xk_val (w' := w4765) (b := false) (.slice (some ⟨g4765, 0, none⟩) 0 0) rfl  (y_bslice rfl (by rw [ew4765, eg4765]; kernel_rfl)) rfl (fun _ => hS.ext hC4765) ?_
          have h0 := h0.ext hC4765
          have hb2 := hb2.chg hC4765 (fun h => nomatch h)
          have hv4489 := hv4489.ext hC4765
          have hv4491 := hv4491.ext hC4765
          have hv4713 := hv4713.ext hC4765
          have hv4763 := hv4763.ext hC4765
          have hC := hC.ext hC4765
          have hO := hO.new1 hC4765 eg4765 hb4765.lt
          have hv4765 := os_of_box (r := (RT.os 3 (RT.int .i64))) (M := M4488) (css := []) (fps := []) (xs := ([] : List (List Int))) hb4765 trivial (Nat.zero_le _) (List.nodup_cons.2 ⟨(fun h => nomatch h), List.nodup_nil⟩)
          have hv4765 : (RT.os 25 (RT.os 3 (RT.int .i64))).val M4488 w4765 (.slice (some ⟨g4765, 0, none⟩) 0 0) [] [g4765] := hv4765
          have hS := hS.ext hC4765
          refine x_one (i := 6) (by kernel_rfl) ?_
          obtain ⟨M4768, f4768, hs4768, hk4768, hO, hv4768⟩ := os_inner (Frz.os Frz.int) hv4765 hO
          have h0 := h0.sub (M' := M4768) hs4768
          have hv4489 := hv4489.sub (M' := M4768) hs4768
          have hv4491 := hv4491.sub (M' := M4768) hs4768
          have hv4713 := hv4713.sub (M' := M4768) hs4768
          have hv4763 := hv4763.sub (M' := M4768) hs4768
          have hK := hK.trans hk4768
          obtain ⟨y4719, hy4719, hs⟩ := bind_some hs
          obtain ⟨a4767, n4767, c4767, w4767, f4767, hr4767, hC4767, hf4767, hv4767⟩ := app_rs Rw49 hy4719 hv4768 hv4713 hO.inM
          have hG4767 := os_block hv4768
          refine xk_val (w' := w4767) (b := true) (.slice a4767 n4767 c4767) rfl  (y_append rfl rfl (hr4767 _)) rfl (fun h => nomatch h) ?_
          have h0 := h0.mut hC4767 (fun g hg => hO.inM g (hG4767 g hg)) (fun _ _ h => nomatch h)
          have hb2 := hb2.chg hC4767 (fun hg => hO.apart _ (hG4767 _ hg) (mem_r (mem_r (mem_l (List.mem_singleton.2 rfl)))))
          have hv4489 := hv4489.mut hC4767 (fun g hg => hO.inM g (hG4767 g hg)) (fun _ _ h => nomatch h)
          have hv4491 := hv4491.mut hC4767 (fun g hg => hO.inM g (hG4767 g hg)) (fun g hg e => hO.apart g (hG4767 g hg) (mem_r (mem_l (e))))
          have hv4713 := hv4713.mut hC4767 (fun g hg => hO.inM g (hG4767 g hg)) (fun _ _ h => nomatch h)
          have hv4763 := hv4763.mut hC4767 (fun g hg => hO.inM g (hG4767 g hg)) (fun g hg e => hO.apart g (hG4767 g hg) (mem_l (e)))
          have hC := hC.step hC4767 (fun g hg => hO.inN g (hG4767 g hg))
          have hO := hO.grow hC4767 hf4767 (os_nodup hv4767) hv4767.fpl
          refine x_one (i := 9) (by kernel_rfl) ?_
          have hO := hO.fr1
          obtain ⟨M4772, f4772, hs4772, hk4772, hO, hv4772⟩ := os_inner (Frz.os Frz.int) hv4763 hO
          have h0 := h0.sub (M' := M4772) hs4772
          have hv4489 := hv4489.sub (M' := M4772) hs4772
          have hv4491 := hv4491.sub (M' := M4772) hs4772
          have hv4713 := hv4713.sub (M' := M4772) hs4772
          have hv4767 := hv4767.sub (M' := M4772) hs4772
          have hK := hK.trans hk4772
          obtain ⟨y4725, hy4725, hs⟩ := bind_some hs
          have hO := hO.fr1
          obtain ⟨a4771, n4771, c4771, w4771, f4771, hr4771, hC4771, hf4771, hv4771⟩ := app_os Rw49 hy4725 hv4767 hv4772 hO.inM (fun g hg hq => hO.apart g hq (mem_l hg))
          have hG4771 := os_block hv4767
          refine xk_val (w' := w4771) (b := true) (.slice a4771 n4771 c4771) rfl  (y_append rfl rfl (hr4771 _)) rfl (fun h => nomatch h) ?_
          have hO := hO.fr1
          have hO := hO.fr1
          have h0 := h0.mut hC4771 (fun g hg => hO.inM g (hG4771 g hg)) (fun _ _ h => nomatch h)
          have hb2 := hb2.chg hC4771 (fun hg => hO.apart _ (hG4771 _ hg) (mem_r (mem_r (mem_l (List.mem_singleton.2 rfl)))))
          have hv4489 := hv4489.mut hC4771 (fun g hg => hO.inM g (hG4771 g hg)) (fun _ _ h => nomatch h)
          have hv4491 := hv4491.mut hC4771 (fun g hg => hO.inM g (hG4771 g hg)) (fun g hg e => hO.apart g (hG4771 g hg) (mem_r (mem_l (e))))
          have hv4713 := hv4713.mut hC4771 (fun g hg => hO.inM g (hG4771 g hg)) (fun _ _ h => nomatch h)
          have hC := hC.step hC4771 (fun g hg => hO.inN g (hG4771 g hg))
          have hO := hO.eat hC4771 hf4771 (os_nodup hv4771) hv4771.fpl
          refine x_one (i := 10) (by kernel_rfl) ?_
          obtain ⟨M4776, eM4776, hs4776, hk4776, hO, hv4776⟩ := frz_own (Frz.os (Frz.rs Frz.int)) hv4771 hO
          have h0 := h0.sub (M' := M4776) hs4776
          have hv4489 := hv4489.sub (M' := M4776) hs4776
          have hv4491 := hv4491.sub (M' := M4776) hs4776
          have hv4713 := hv4713.sub (M' := M4776) hs4776
          have hK := hK.trans hk4776
          obtain ⟨r4729, hr4729, hs⟩ := bind_some hs
          refine xk_call (b := true) rfl  Bd69 rfl (c_spec_l8Close (M := M4776) (a_.1, a_.2) 2 y4725 h0 hv4776 hO.fut hr4729) rfl (fun h => nomatch h) ?_
          rintro _ w4775 ⟨a4775x0, n4775x0, c4775x0, rfl, hC4775, hv4775x0⟩
          have hK := hK.trans (show Keeps w M4776 (Past M4776 w4771 w4775) from Keeps.past hC.size)
          have h0 := h0.ext hC4775
          have hb2 := hb2.chg hC4775 (fun h => nomatch h)
          have hv4489 := hv4489.ext hC4775
          have hv4491 := hv4491.ext hC4775
          have hv4713 := hv4713.ext hC4775
          have hv4776 := hv4776.ext hC4775
          have hC := hC.ext hC4775
          have hO := hO.past hC4775
          have h0 := h0.sub (M' := (Past M4776 w4771 w4775)) (fun g hg => .inl hg.1)
          have hv4489 := hv4489.sub (M' := (Past M4776 w4771 w4775)) (fun g hg => .inl hg.1)
          have hv4491 := hv4491.sub (M' := (Past M4776 w4771 w4775)) (fun g hg => .inl hg.1)
          have hv4713 := hv4713.sub (M' := (Past M4776 w4771 w4775)) (fun g hg => .inl hg.1)
          have hv4776 := hv4776.sub (M' := (Past M4776 w4771 w4775)) (fun g hg => .inl hg.1)
          refine x_p 11 (.tuple #[(.slice a4775x0 n4775x0 c4775x0), (.bool r4729.2)]) rfl (by kernel_rfl)  (fun _ => y_move rfl) (fun h => nomatch h) ?_
          refine x_p 12 (.slice a4775x0 n4775x0 c4775x0) rfl (by kernel_rfl)  (fun _ => y_extract rfl (by kernel_rfl)) (fun h => nomatch h) ?_
          refine x_p 13 (.bool r4729.2) rfl (by kernel_rfl)  (fun _ => y_extract rfl (by kernel_rfl)) (fun h => nomatch h) ?_
          refine x_p 14 (.slice a4775x0 n4775x0 c4775x0) rfl (by kernel_rfl)  (fun _ => y_assign rfl) (fun h => nomatch h) ?_
          refine x_p 15 (.bool r4729.2) rfl (by kernel_rfl)  (fun _ => y_assign rfl) (fun h => nomatch h) ?_
          refine x_end (by kernel_rfl) ?_
          clear hS
          refine c_seq (c_region ?_)
          refine pl_val (.slice a4489 n4489 c4489) (y_move rfl) ?_
          refine pl_val (.slice a4775x0 n4775x0 c4775x0) (y_move rfl) ?_
          obtain ⟨r4732, hr4732, hs⟩ := bind_some hs
          refine pl_call Bd72 rfl (c_spec_l18Put (M := (Past M4776 w4771 w4775)) s4482.1 r4729.1 hv4489 hv4775x0 hO.fut hr4732) ?_
          rintro _ w4779 ⟨a4779x0, n4779x0, c4779x0, rfl, hC4779, hv4779x0⟩
          have hK := hK.trans (show Keeps w (Past M4776 w4771 w4775) (Past (Past M4776 w4771 w4775) w4775 w4779) from Keeps.past hC.size)
          have h0 := h0.ext hC4779
          have hb2 := hb2.chg hC4779 (fun h => nomatch h)
          have hv4489 := hv4489.ext hC4779
          have hv4491 := hv4491.ext hC4779
          have hv4713 := hv4713.ext hC4779
          have hv4776 := hv4776.ext hC4779
          have hv4775x0 := hv4775x0.ext hC4779
          have hC := hC.ext hC4779
          have hO := hO.past hC4779
          have h0 := h0.sub (M' := (Past (Past M4776 w4771 w4775) w4775 w4779)) (fun g hg => .inl hg.1)
          have hv4489 := hv4489.sub (M' := (Past (Past M4776 w4771 w4775) w4775 w4779)) (fun g hg => .inl hg.1)
          have hv4491 := hv4491.sub (M' := (Past (Past M4776 w4771 w4775) w4775 w4779)) (fun g hg => .inl hg.1)
          have hv4713 := hv4713.sub (M' := (Past (Past M4776 w4771 w4775) w4775 w4779)) (fun g hg => .inl hg.1)
          have hv4776 := hv4776.sub (M' := (Past (Past M4776 w4771 w4775) w4775 w4779)) (fun g hg => .inl hg.1)
          have hv4775x0 := hv4775x0.sub (M' := (Past (Past M4776 w4771 w4775) w4775 w4779)) (fun g hg => .inl hg.1)
          refine pl_val (.slice a4779x0 n4779x0 c4779x0) (y_assign rfl) ?_
          refine c_nil ?_
          refine c_seq (c_region ?_)
          refine pl_val (.slice a4779x0 n4779x0 c4779x0) (y_move rfl) ?_
          refine pl_val (.int .i64 (r4732.length : Int)) (y_len' Sl59 (rs_len hv4779x0) rfl) ?_
          refine pl_val (.slice a4489 n4489 c4489) (y_move rfl) ?_
          refine pl_val (.int .i64 (s4482.1.length : Int)) (y_len' Sl59 (rs_len hv4489) rfl) ?_
          refine pl_val (.bool (decide ((s4482.1.length : Int) < (r4732.length : Int)))) (y_gtr rfl rfl) ?_
          refine c_nil ?_
          rcases bif_some hs with ⟨hc4782, hs⟩ | ⟨hc4782, hs⟩
          ·skip
           refine c_condT (congrArg Value.bool hc4782) ?_
           refine c_seq (c_region ?_)
           refine pl_val (.slice a4779x0 n4779x0 c4779x0) (y_move rfl) ?_
           refine pl_val (.slice a4779x0 n4779x0 c4779x0) (y_assign rfl) ?_
           refine c_nil ?_
           refine c_region ?_
           refine pl_val (.slice a4491 n4491 c4491) (y_move rfl) ?_
           refine pl_val (.slice a4775x0 n4775x0 c4775x0) (y_move rfl) ?_
           obtain ⟨w4783, g4783, ew4783, eg4783, hC4783, hb4783⟩ := new_block w4779 [(.slice a4775x0 n4775x0 c4775x0)] 49
           refine pl_val (w' := w4783) (.slice (some ⟨g4783, 0, none⟩) 1 1) (y_bslice rfl (by rw [ew4783, eg4783]; kernel_rfl)) ?_
           have h0 := h0.ext hC4783
           have hb2 := hb2.chg hC4783 (fun h => nomatch h)
           have hv4491 := hv4491.ext hC4783
           have hv4775x0 := hv4775x0.ext hC4783
           have hv4779x0 := hv4779x0.ext hC4783
           have hC := hC.ext hC4783
           have hO := hO.new1 hC4783 eg4783 hb4783.lt
           have hv4783 := os_of_box (r := (RT.rs (RT.rs (RT.int .i64)))) (M := (Past (Past M4776 w4771 w4775) w4775 w4779)) (css := [[(.slice a4775x0 n4775x0 c4775x0)]]) (fps := [([] : List Nat)]) (xs := ([r4729.1] : List (List (List Int)))) hb4783 ⟨(rs_unval hv4775x0), trivial⟩ (Nat.le_of_ble_eq_true rfl) (List.nodup_cons.2 ⟨(fun h => nomatch h), List.nodup_nil⟩)
           have hv4783 : (RT.os 49 (RT.rs (RT.rs (RT.int .i64)))).val (Past (Past M4776 w4771 w4775) w4775 w4779) w4783 (.slice (some ⟨g4783, 0, none⟩) 1 1) [r4729.1] [g4783] := hv4783
           obtain ⟨y4786, hy4786, hs⟩ := bind_some hs
           have hO := hO.fr1
           obtain ⟨a4785, n4785, c4785, w4785, f4785, hr4785, hC4785, hf4785, hv4785⟩ := app_os Rw59 hy4786 hv4491 hv4783 hO.inM (fun g hg hq => hO.apart g hq (mem_l hg))
           have hG4785 := os_block hv4491
           refine pl_val (w' := w4785) (.slice a4785 n4785 c4785) (y_append rfl rfl (hr4785 _)) ?_
           have hO := hO.fr1
           have hO := hO.fr1
           have h0 := h0.mut hC4785 (fun g hg => hO.inM g (hG4785 g hg)) (fun _ _ h => nomatch h)
           have hb2 := hb2.chg hC4785 (fun hg => hO.apart _ (hG4785 _ hg) (mem_r (mem_l (List.mem_singleton.2 rfl))))
           have hv4775x0 := hv4775x0.mut hC4785 (fun g hg => hO.inM g (hG4785 g hg)) (fun _ _ h => nomatch h)
           have hv4779x0 := hv4779x0.mut hC4785 (fun g hg => hO.inM g (hG4785 g hg)) (fun _ _ h => nomatch h)
           have hC := hC.step hC4785 (fun g hg => hO.inN g (hG4785 g hg))
           have hO := hO.eat hC4785 hf4785 (os_nodup hv4785) hv4785.fpl
           refine pl_val (.slice a4785 n4785 c4785) (y_assign rfl) ?_
           refine c_nil ?_
           refine c_region ?_
           refine pl_val (.int .i64 s4482.2.2) (y_move rfl) ?_
           refine pl_val (.int .i64 (w64 (s4482.2.2 + 1))) (y_add rfl rfl) ?_
           refine pl_val (.int .i64 (w64 (s4482.2.2 + 1))) (y_assign rfl) ?_
           refine c_nil ?_
           cases hs
           have hO := hO.fr1
           have hO := hO.fr1
           exact ⟨_, (Past (Past M4776 w4771 w4775) w4775 w4779), a4779x0, n4779x0, c4779x0, a4785, n4785, c4785, f4785, fr_ovl 96 ⟨rfl, rfl, rfl, rfl, rfl, trivial⟩, hC, hO, hK, h0, hb2, hv4779x0, hv4785⟩
          ·skip
           refine c_condF (congrArg Value.bool hc4782) ?_
           refine wp_skip ?_
           refine c_region ?_
           refine pl_val (.int .i64 s4482.2.2) (y_move rfl) ?_
           refine pl_val (.int .i64 (w64 (s4482.2.2 + 1))) (y_add rfl rfl) ?_
           refine pl_val (.int .i64 (w64 (s4482.2.2 + 1))) (y_assign rfl) ?_
           refine c_nil ?_
           cases hs
           have hO := hO.fr1
           have hO := hO.fr1
           exact ⟨_, (Past (Past M4776 w4771 w4775) w4775 w4779), a4489, n4489, c4489, a4491, n4491, c4491, f4491, fr_ovl 96 ⟨rfl, rfl, rfl, rfl, rfl, trivial⟩, hC, hO, hK, h0, hb2, hv4489, hv4491⟩
        ·skip
         obtain ⟨w4788, g4788, ew4788, eg4788, hC4788, hb4788⟩ := new_block w4710 [] 25
         refine xk_val (w' := w4788) (b := false) (.slice (some ⟨g4788, 0, none⟩) 0 0) rfl  (y_bslice rfl (by rw [ew4788, eg4788]; kernel_rfl)) rfl (fun _ => hS.ext hC4788) ?_
         have h0 := h0.ext hC4788
         have hb2 := hb2.chg hC4788 (fun h => nomatch h)
         have hv4489 := hv4489.ext hC4788
         have hv4491 := hv4491.ext hC4788
         have hv4503x0 := hv4503x0.ext hC4788
         have hv4713 := hv4713.ext hC4788
         have hC := hC.ext hC4788
         have hO := hO.new1 hC4788 eg4788 hb4788.lt
         have hv4788 := os_of_box (r := (RT.os 3 (RT.int .i64))) (M := M4488) (css := []) (fps := []) (xs := ([] : List (List Int))) hb4788 trivial (Nat.zero_le _) (List.nodup_cons.2 ⟨(fun h => nomatch h), List.nodup_nil⟩)
         have hv4788 : (RT.os 25 (RT.os 3 (RT.int .i64))).val M4488 w4788 (.slice (some ⟨g4788, 0, none⟩) 0 0) [] [g4788] := hv4788
         have hS := hS.ext hC4788
         refine x_many [0, 6, 8] (by kernel_rfl) (fun h => nomatch h) (all3 ?_ ?_ ?_)
         ·skip
          refine xk_val (b := false) (.agg #[(.int .i64 a_.1), (.slice pa0 pn0 pc0)]) rfl  (y_load rfl ((box_load Ag34 Sz34 hb2 [] [(.int .i64 a_.1), (.slice pa0 pn0 pc0)] [] rfl rfl (fun h => nomatch h)) _ (Chg.refl _ _))) rfl (fun _ => hS) ?_
          refine x_two (i := 6) (j := 8) (by kernel_rfl) ?_ ?_
          ·skip
           obtain ⟨M4791, f4791, hs4791, hk4791, hO, hv4791⟩ := os_inner (Frz.os Frz.int) hv4788 hO
           have h0 := h0.sub (M' := M4791) hs4791
           have hv4489 := hv4489.sub (M' := M4791) hs4791
           have hv4491 := hv4491.sub (M' := M4791) hs4791
           have hv4503x0 := hv4503x0.sub (M' := M4791) hs4791
           have hv4713 := hv4713.sub (M' := M4791) hs4791
           have hK := hK.trans hk4791
           obtain ⟨y4719, hy4719, hs⟩ := bind_some hs
           obtain ⟨a4790, n4790, c4790, w4790, f4790, hr4790, hC4790, hf4790, hv4790⟩ := app_rs Rw49 hy4719 hv4791 hv4713 hO.inM
           have hG4790 := os_block hv4791
           refine xk_val (w' := w4790) (b := true) (.slice a4790 n4790 c4790) rfl  (y_append rfl rfl (hr4790 _)) rfl (fun h => nomatch h) ?_
           have h0 := h0.mut hC4790 (fun g hg => hO.inM g (hG4790 g hg)) (fun _ _ h => nomatch h)
           have hb2 := hb2.chg hC4790 (fun hg => hO.apart _ (hG4790 _ hg) (mem_r (mem_r (mem_l (List.mem_singleton.2 rfl)))))
           have hv4489 := hv4489.mut hC4790 (fun g hg => hO.inM g (hG4790 g hg)) (fun _ _ h => nomatch h)
           have hv4491 := hv4491.mut hC4790 (fun g hg => hO.inM g (hG4790 g hg)) (fun g hg e => hO.apart g (hG4790 g hg) (mem_r (mem_l (e))))
           have hv4503x0 := hv4503x0.mut hC4790 (fun g hg => hO.inM g (hG4790 g hg)) (fun g hg e => hO.apart g (hG4790 g hg) (mem_l (e)))
           have hv4713 := hv4713.mut hC4790 (fun g hg => hO.inM g (hG4790 g hg)) (fun _ _ h => nomatch h)
           have hC := hC.step hC4790 (fun g hg => hO.inN g (hG4790 g hg))
           have hO := hO.grow hC4790 hf4790 (os_nodup hv4790) hv4790.fpl
           refine x_one (i := 8) (by kernel_rfl) ?_
           obtain ⟨w4794, g4794, ew4794, eg4794, hC4794, hb4794⟩ := new_block w4790 [(.slice a4503x0 n4503x0 c4503x0)] 25
           refine xk_val (w' := w4794) (b := true) (.slice (some ⟨g4794, 0, none⟩) 1 1) rfl  (y_bslice rfl (by rw [ew4794, eg4794]; kernel_rfl)) rfl (fun h => nomatch h) ?_
           have h0 := h0.ext hC4794
           have hb2 := hb2.chg hC4794 (fun h => nomatch h)
           have hv4489 := hv4489.ext hC4794
           have hv4491 := hv4491.ext hC4794
           have hv4503x0 := hv4503x0.ext hC4794
           have hv4713 := hv4713.ext hC4794
           have hv4790 := hv4790.ext hC4794
           have hC := hC.ext hC4794
           have hO := hO.fr1
           have hO := hO.new1 hC4794 eg4794 hb4794.lt
           have hO := hO.perm (R := (g4794 :: ((f4503x0) ++ ([]))) ++ (f4790 ++ (f4491 ++ (([g2]) ++ ([]))))) (by simp)
           have hnd4794 := hO.nd
           have hv4794 := os_of_box (r := (RT.os 3 (RT.int .i64))) (M := M4791) (css := [[(.slice a4503x0 n4503x0 c4503x0)]]) (fps := [(f4503x0 : List Nat)]) (xs := ([r4504] : List (List Int))) hb4794 ⟨(os_unval hv4503x0), trivial⟩ (Nat.le_of_ble_eq_true rfl) hnd4794
           have hv4794 : (RT.os 25 (RT.os 3 (RT.int .i64))).val M4791 w4794 (.slice (some ⟨g4794, 0, none⟩) 1 1) [r4504] (g4794 :: ((f4503x0) ++ ([]))) := hv4794
           refine x_one (i := 9) (by kernel_rfl) ?_
           obtain ⟨M4797, f4797, hs4797, hk4797, hO, hv4797⟩ := os_inner (Frz.os Frz.int) hv4794 hO
           have h0 := h0.sub (M' := M4797) hs4797
           have hv4489 := hv4489.sub (M' := M4797) hs4797
           have hv4491 := hv4491.sub (M' := M4797) hs4797
           have hv4713 := hv4713.sub (M' := M4797) hs4797
           have hv4790 := hv4790.sub (M' := M4797) hs4797
           have hK := hK.trans hk4797
           obtain ⟨y4725, hy4725, hs⟩ := bind_some hs
           have hO := hO.fr1
           obtain ⟨a4796, n4796, c4796, w4796, f4796, hr4796, hC4796, hf4796, hv4796⟩ := app_os Rw49 hy4725 hv4790 hv4797 hO.inM (fun g hg hq => hO.apart g hq (mem_l hg))
           have hG4796 := os_block hv4790
           refine xk_val (w' := w4796) (b := true) (.slice a4796 n4796 c4796) rfl  (y_append rfl rfl (hr4796 _)) rfl (fun h => nomatch h) ?_
           have hO := hO.fr1
           have hO := hO.fr1
           have h0 := h0.mut hC4796 (fun g hg => hO.inM g (hG4796 g hg)) (fun _ _ h => nomatch h)
           have hb2 := hb2.chg hC4796 (fun hg => hO.apart _ (hG4796 _ hg) (mem_r (mem_r (mem_l (List.mem_singleton.2 rfl)))))
           have hv4489 := hv4489.mut hC4796 (fun g hg => hO.inM g (hG4796 g hg)) (fun _ _ h => nomatch h)
           have hv4491 := hv4491.mut hC4796 (fun g hg => hO.inM g (hG4796 g hg)) (fun g hg e => hO.apart g (hG4796 g hg) (mem_r (mem_l (e))))
           have hv4713 := hv4713.mut hC4796 (fun g hg => hO.inM g (hG4796 g hg)) (fun _ _ h => nomatch h)
           have hC := hC.step hC4796 (fun g hg => hO.inN g (hG4796 g hg))
           have hO := hO.eat hC4796 hf4796 (os_nodup hv4796) hv4796.fpl
           refine x_one (i := 10) (by kernel_rfl) ?_
           obtain ⟨M4801, eM4801, hs4801, hk4801, hO, hv4801⟩ := frz_own (Frz.os (Frz.rs Frz.int)) hv4796 hO
           have h0 := h0.sub (M' := M4801) hs4801
           have hv4489 := hv4489.sub (M' := M4801) hs4801
           have hv4491 := hv4491.sub (M' := M4801) hs4801
           have hv4713 := hv4713.sub (M' := M4801) hs4801
           have hK := hK.trans hk4801
           obtain ⟨r4729, hr4729, hs⟩ := bind_some hs
           refine xk_call (b := true) rfl  Bd69 rfl (c_spec_l8Close (M := M4801) (a_.1, a_.2) 2 y4725 h0 hv4801 hO.fut hr4729) rfl (fun h => nomatch h) ?_
           rintro _ w4800 ⟨a4800x0, n4800x0, c4800x0, rfl, hC4800, hv4800x0⟩
           have hK := hK.trans (show Keeps w M4801 (Past M4801 w4796 w4800) from Keeps.past hC.size)
           have h0 := h0.ext hC4800
           have hb2 := hb2.chg hC4800 (fun h => nomatch h)
           have hv4489 := hv4489.ext hC4800
           have hv4491 := hv4491.ext hC4800
           have hv4713 := hv4713.ext hC4800
           have hv4801 := hv4801.ext hC4800
           have hC := hC.ext hC4800
           have hO := hO.past hC4800
           have h0 := h0.sub (M' := (Past M4801 w4796 w4800)) (fun g hg => .inl hg.1)
           have hv4489 := hv4489.sub (M' := (Past M4801 w4796 w4800)) (fun g hg => .inl hg.1)
           have hv4491 := hv4491.sub (M' := (Past M4801 w4796 w4800)) (fun g hg => .inl hg.1)
           have hv4713 := hv4713.sub (M' := (Past M4801 w4796 w4800)) (fun g hg => .inl hg.1)
           have hv4801 := hv4801.sub (M' := (Past M4801 w4796 w4800)) (fun g hg => .inl hg.1)
           refine x_p 11 (.tuple #[(.slice a4800x0 n4800x0 c4800x0), (.bool r4729.2)]) rfl (by kernel_rfl)  (fun _ => y_move rfl) (fun h => nomatch h) ?_
           refine x_p 12 (.slice a4800x0 n4800x0 c4800x0) rfl (by kernel_rfl)  (fun _ => y_extract rfl (by kernel_rfl)) (fun h => nomatch h) ?_
           refine x_p 13 (.bool r4729.2) rfl (by kernel_rfl)  (fun _ => y_extract rfl (by kernel_rfl)) (fun h => nomatch h) ?_
           refine x_p 14 (.slice a4800x0 n4800x0 c4800x0) rfl (by kernel_rfl)  (fun _ => y_assign rfl) (fun h => nomatch h) ?_
           refine x_p 15 (.bool r4729.2) rfl (by kernel_rfl)  (fun _ => y_assign rfl) (fun h => nomatch h) ?_
           refine x_end (by kernel_rfl) ?_
           clear hS
           refine c_seq (c_region ?_)
           refine pl_val (.slice a4489 n4489 c4489) (y_move rfl) ?_
           refine pl_val (.slice a4800x0 n4800x0 c4800x0) (y_move rfl) ?_
           obtain ⟨r4732, hr4732, hs⟩ := bind_some hs
           refine pl_call Bd72 rfl (c_spec_l18Put (M := (Past M4801 w4796 w4800)) s4482.1 r4729.1 hv4489 hv4800x0 hO.fut hr4732) ?_
           rintro _ w4804 ⟨a4804x0, n4804x0, c4804x0, rfl, hC4804, hv4804x0⟩
           have hK := hK.trans (show Keeps w (Past M4801 w4796 w4800) (Past (Past M4801 w4796 w4800) w4800 w4804) from Keeps.past hC.size)
           have h0 := h0.ext hC4804
           have hb2 := hb2.chg hC4804 (fun h => nomatch h)
           have hv4489 := hv4489.ext hC4804
           have hv4491 := hv4491.ext hC4804
           have hv4713 := hv4713.ext hC4804
           have hv4801 := hv4801.ext hC4804
           have hv4800x0 := hv4800x0.ext hC4804
           have hC := hC.ext hC4804
           have hO := hO.past hC4804
           have h0 := h0.sub (M' := (Past (Past M4801 w4796 w4800) w4800 w4804)) (fun g hg => .inl hg.1)
           have hv4489 := hv4489.sub (M' := (Past (Past M4801 w4796 w4800) w4800 w4804)) (fun g hg => .inl hg.1)
           have hv4491 := hv4491.sub (M' := (Past (Past M4801 w4796 w4800) w4800 w4804)) (fun g hg => .inl hg.1)
           have hv4713 := hv4713.sub (M' := (Past (Past M4801 w4796 w4800) w4800 w4804)) (fun g hg => .inl hg.1)
           have hv4801 := hv4801.sub (M' := (Past (Past M4801 w4796 w4800) w4800 w4804)) (fun g hg => .inl hg.1)
           have hv4800x0 := hv4800x0.sub (M' := (Past (Past M4801 w4796 w4800) w4800 w4804)) (fun g hg => .inl hg.1)
           refine pl_val (.slice a4804x0 n4804x0 c4804x0) (y_assign rfl) ?_
           refine c_nil ?_
           refine c_seq (c_region ?_)
           refine pl_val (.slice a4804x0 n4804x0 c4804x0) (y_move rfl) ?_
           refine pl_val (.int .i64 (r4732.length : Int)) (y_len' Sl59 (rs_len hv4804x0) rfl) ?_
           refine pl_val (.slice a4489 n4489 c4489) (y_move rfl) ?_
           refine pl_val (.int .i64 (s4482.1.length : Int)) (y_len' Sl59 (rs_len hv4489) rfl) ?_
           refine pl_val (.bool (decide ((s4482.1.length : Int) < (r4732.length : Int)))) (y_gtr rfl rfl) ?_
           refine c_nil ?_
           rcases bif_some hs with ⟨hc4807, hs⟩ | ⟨hc4807, hs⟩
           ·skip
            refine c_condT (congrArg Value.bool hc4807) ?_
            refine c_seq (c_region ?_)
            refine pl_val (.slice a4804x0 n4804x0 c4804x0) (y_move rfl) ?_
            refine pl_val (.slice a4804x0 n4804x0 c4804x0) (y_assign rfl) ?_
            refine c_nil ?_
            refine c_region ?_
            refine pl_val (.slice a4491 n4491 c4491) (y_move rfl) ?_
            refine pl_val (.slice a4800x0 n4800x0 c4800x0) (y_move rfl) ?_
            obtain ⟨w4808, g4808, ew4808, eg4808, hC4808, hb4808⟩ := new_block w4804 [(.slice a4800x0 n4800x0 c4800x0)] 49
            refine pl_val (w' := w4808) (.slice (some ⟨g4808, 0, none⟩) 1 1) (y_bslice rfl (by rw [ew4808, eg4808]; kernel_rfl)) ?_
            have h0 := h0.ext hC4808
            have hb2 := hb2.chg hC4808 (fun h => nomatch h)
            have hv4491 := hv4491.ext hC4808
            have hv4800x0 := hv4800x0.ext hC4808
            have hv4804x0 := hv4804x0.ext hC4808
            have hC := hC.ext hC4808
            have hO := hO.new1 hC4808 eg4808 hb4808.lt
            have hv4808 := os_of_box (r := (RT.rs (RT.rs (RT.int .i64)))) (M := (Past (Past M4801 w4796 w4800) w4800 w4804)) (css := [[(.slice a4800x0 n4800x0 c4800x0)]]) (fps := [([] : List Nat)]) (xs := ([r4729.1] : List (List (List Int)))) hb4808 ⟨(rs_unval hv4800x0), trivial⟩ (Nat.le_of_ble_eq_true rfl) (List.nodup_cons.2 ⟨(fun h => nomatch h), List.nodup_nil⟩)
            have hv4808 : (RT.os 49 (RT.rs (RT.rs (RT.int .i64)))).val (Past (Past M4801 w4796 w4800) w4800 w4804) w4808 (.slice (some ⟨g4808, 0, none⟩) 1 1) [r4729.1] [g4808] := hv4808
            obtain ⟨y4811, hy4811, hs⟩ := bind_some hs
            have hO := hO.fr1
            obtain ⟨a4810, n4810, c4810, w4810, f4810, hr4810, hC4810, hf4810, hv4810⟩ := app_os Rw59 hy4811 hv4491 hv4808 hO.inM (fun g hg hq => hO.apart g hq (mem_l hg))
            have hG4810 := os_block hv4491
            refine pl_val (w' := w4810) (.slice a4810 n4810 c4810) (y_append rfl rfl (hr4810 _)) ?_
            have hO := hO.fr1
            have hO := hO.fr1
            have h0 := h0.mut hC4810 (fun g hg => hO.inM g (hG4810 g hg)) (fun _ _ h => nomatch h)
            have hb2 := hb2.chg hC4810 (fun hg => hO.apart _ (hG4810 _ hg) (mem_r (mem_l (List.mem_singleton.2 rfl))))
            have hv4800x0 := hv4800x0.mut hC4810 (fun g hg => hO.inM g (hG4810 g hg)) (fun _ _ h => nomatch h)
            have hv4804x0 := hv4804x0.mut hC4810 (fun g hg => hO.inM g (hG4810 g hg)) (fun _ _ h => nomatch h)
            have hC := hC.step hC4810 (fun g hg => hO.inN g (hG4810 g hg))
            have hO := hO.eat hC4810 hf4810 (os_nodup hv4810) hv4810.fpl
            refine pl_val (.slice a4810 n4810 c4810) (y_assign rfl) ?_
            refine c_nil ?_
            refine c_region ?_
            refine pl_val (.int .i64 s4482.2.2) (y_move rfl) ?_
            refine pl_val (.int .i64 (w64 (s4482.2.2 + 1))) (y_add rfl rfl) ?_
            refine pl_val (.int .i64 (w64 (s4482.2.2 + 1))) (y_assign rfl) ?_
            refine c_nil ?_
            cases hs
            have hO := hO.fr1
            have hO := hO.fr1
            exact ⟨_, (Past (Past M4801 w4796 w4800) w4800 w4804), a4804x0, n4804x0, c4804x0, a4810, n4810, c4810, f4810, fr_ovl 96 ⟨rfl, rfl, rfl, rfl, rfl, trivial⟩, hC, hO, hK, h0, hb2, hv4804x0, hv4810⟩
           ·skip
            refine c_condF (congrArg Value.bool hc4807) ?_
            refine wp_skip ?_
            refine c_region ?_
            refine pl_val (.int .i64 s4482.2.2) (y_move rfl) ?_
            refine pl_val (.int .i64 (w64 (s4482.2.2 + 1))) (y_add rfl rfl) ?_
            refine pl_val (.int .i64 (w64 (s4482.2.2 + 1))) (y_assign rfl) ?_
            refine c_nil ?_
            cases hs
            have hO := hO.fr1
            have hO := hO.fr1
            exact ⟨_, (Past (Past M4801 w4796 w4800) w4800 w4804), a4489, n4489, c4489, a4491, n4491, c4491, f4491, fr_ovl 96 ⟨rfl, rfl, rfl, rfl, rfl, trivial⟩, hC, hO, hK, h0, hb2, hv4489, hv4491⟩
          ·skip
           obtain ⟨w4813, g4813, ew4813, eg4813, hC4813, hb4813⟩ := new_block w4788 [(.slice a4503x0 n4503x0 c4503x0)] 25
           refine xk_val (w' := w4813) (b := false) (.slice (some ⟨g4813, 0, none⟩) 1 1) rfl  (y_bslice rfl (by rw [ew4813, eg4813]; kernel_rfl)) rfl (fun _ => hS.ext hC4813) ?_
           have h0 := h0.ext hC4813
           have hb2 := hb2.chg hC4813 (fun h => nomatch h)
           have hv4489 := hv4489.ext hC4813
           have hv4491 := hv4491.ext hC4813
           have hv4503x0 := hv4503x0.ext hC4813
           have hv4713 := hv4713.ext hC4813
           have hv4788 := hv4788.ext hC4813
           have hC := hC.ext hC4813
           have hO := hO.fr1
           have hO := hO.new1 hC4813 eg4813 hb4813.lt
           have hO := hO.perm (R := (g4813 :: ((f4503x0) ++ ([]))) ++ (([g4788]) ++ (f4491 ++ (([g2]) ++ ([]))))) (by simp)
           have hnd4813 := hO.nd
           have hv4813 := os_of_box (r := (RT.os 3 (RT.int .i64))) (M := M4488) (css := [[(.slice a4503x0 n4503x0 c4503x0)]]) (fps := [(f4503x0 : List Nat)]) (xs := ([r4504] : List (List Int))) hb4813 ⟨(os_unval hv4503x0), trivial⟩ (Nat.le_of_ble_eq_true rfl) hnd4813
           have hv4813 : (RT.os 25 (RT.os 3 (RT.int .i64))).val M4488 w4813 (.slice (some ⟨g4813, 0, none⟩) 1 1) [r4504] (g4813 :: ((f4503x0) ++ ([]))) := hv4813
           have hS := hS.ext hC4813
           refine x_one (i := 6) (by kernel_rfl) ?_
           have hO := hO.fr1
           obtain ⟨M4816, f4816, hs4816, hk4816, hO, hv4816⟩ := os_inner (Frz.os Frz.int) hv4788 hO
           have h0 := h0.sub (M' := M4816) hs4816
           have hv4489 := hv4489.sub (M' := M4816) hs4816
           have hv4491 := hv4491.sub (M' := M4816) hs4816
           have hv4713 := hv4713.sub (M' := M4816) hs4816
           have hv4813 := hv4813.sub (M' := M4816) hs4816
           have hK := hK.trans hk4816
           obtain ⟨y4719, hy4719, hs⟩ := bind_some hs
           obtain ⟨a4815, n4815, c4815, w4815, f4815, hr4815, hC4815, hf4815, hv4815⟩ := app_rs Rw49 hy4719 hv4816 hv4713 hO.inM
           have hG4815 := os_block hv4816
           refine xk_val (w' := w4815) (b := true) (.slice a4815 n4815 c4815) rfl  (y_append rfl rfl (hr4815 _)) rfl (fun h => nomatch h) ?_
           have h0 := h0.mut hC4815 (fun g hg => hO.inM g (hG4815 g hg)) (fun _ _ h => nomatch h)
           have hb2 := hb2.chg hC4815 (fun hg => hO.apart _ (hG4815 _ hg) (mem_r (mem_r (mem_l (List.mem_singleton.2 rfl)))))
           have hv4489 := hv4489.mut hC4815 (fun g hg => hO.inM g (hG4815 g hg)) (fun _ _ h => nomatch h)
           have hv4491 := hv4491.mut hC4815 (fun g hg => hO.inM g (hG4815 g hg)) (fun g hg e => hO.apart g (hG4815 g hg) (mem_r (mem_l (e))))
           have hv4713 := hv4713.mut hC4815 (fun g hg => hO.inM g (hG4815 g hg)) (fun _ _ h => nomatch h)
           have hv4813 := hv4813.mut hC4815 (fun g hg => hO.inM g (hG4815 g hg)) (fun g hg e => hO.apart g (hG4815 g hg) (mem_l (e)))
           have hC := hC.step hC4815 (fun g hg => hO.inN g (hG4815 g hg))
           have hO := hO.grow hC4815 hf4815 (os_nodup hv4815) hv4815.fpl
           refine x_one (i := 9) (by kernel_rfl) ?_
           have hO := hO.fr1
           obtain ⟨M4820, f4820, hs4820, hk4820, hO, hv4820⟩ := os_inner (Frz.os Frz.int) hv4813 hO
           have h0 := h0.sub (M' := M4820) hs4820
           have hv4489 := hv4489.sub (M' := M4820) hs4820
           have hv4491 := hv4491.sub (M' := M4820) hs4820
           have hv4713 := hv4713.sub (M' := M4820) hs4820
           have hv4815 := hv4815.sub (M' := M4820) hs4820
           have hK := hK.trans hk4820
           obtain ⟨y4725, hy4725, hs⟩ := bind_some hs
           have hO := hO.fr1
           obtain ⟨a4819, n4819, c4819, w4819, f4819, hr4819, hC4819, hf4819, hv4819⟩ := app_os Rw49 hy4725 hv4815 hv4820 hO.inM (fun g hg hq => hO.apart g hq (mem_l hg))
           have hG4819 := os_block hv4815
           refine xk_val (w' := w4819) (b := true) (.slice a4819 n4819 c4819) rfl  (y_append rfl rfl (hr4819 _)) rfl (fun h => nomatch h) ?_
           have hO := hO.fr1
           have hO := hO.fr1
           have h0 := h0.mut hC4819 (fun g hg => hO.inM g (hG4819 g hg)) (fun _ _ h => nomatch h)
           have hb2 := hb2.chg hC4819 (fun hg => hO.apart _ (hG4819 _ hg) (mem_r (mem_r (mem_l (List.mem_singleton.2 rfl)))))
           have hv4489 := hv4489.mut hC4819 (fun g hg => hO.inM g (hG4819 g hg)) (fun _ _ h => nomatch h)
           have hv4491 := hv4491.mut hC4819 (fun g hg => hO.inM g (hG4819 g hg)) (fun g hg e => hO.apart g (hG4819 g hg) (mem_r (mem_l (e))))
           have hv4713 := hv4713.mut hC4819 (fun g hg => hO.inM g (hG4819 g hg)) (fun _ _ h => nomatch h)
           have hC := hC.step hC4819 (fun g hg => hO.inN g (hG4819 g hg))
           have hO := hO.eat hC4819 hf4819 (os_nodup hv4819) hv4819.fpl
           refine x_one (i := 10) (by kernel_rfl) ?_
           obtain ⟨M4824, eM4824, hs4824, hk4824, hO, hv4824⟩ := frz_own (Frz.os (Frz.rs Frz.int)) hv4819 hO
           have h0 := h0.sub (M' := M4824) hs4824
           have hv4489 := hv4489.sub (M' := M4824) hs4824
           have hv4491 := hv4491.sub (M' := M4824) hs4824
           have hv4713 := hv4713.sub (M' := M4824) hs4824
           have hK := hK.trans hk4824
           obtain ⟨r4729, hr4729, hs⟩ := bind_some hs
           refine xk_call (b := true) rfl  Bd69 rfl (c_spec_l8Close (M := M4824) (a_.1, a_.2) 2 y4725 h0 hv4824 hO.fut hr4729) rfl (fun h => nomatch h) ?_
           rintro _ w4823 ⟨a4823x0, n4823x0, c4823x0, rfl, hC4823, hv4823x0⟩
           have hK := hK.trans (show Keeps w M4824 (Past M4824 w4819 w4823) from Keeps.past hC.size)
           have h0 := h0.ext hC4823
           have hb2 := hb2.chg hC4823 (fun h => nomatch h)
           have hv4489 := hv4489.ext hC4823
           have hv4491 := hv4491.ext hC4823
           have hv4713 := hv4713.ext hC4823
           have hv4824 := hv4824.ext hC4823
           have hC := hC.ext hC4823
           have hO := hO.past hC4823
           have h0 := h0.sub (M' := (Past M4824 w4819 w4823)) (fun g hg => .inl hg.1)
           have hv4489 := hv4489.sub (M' := (Past M4824 w4819 w4823)) (fun g hg => .inl hg.1)
           have hv4491 := hv4491.sub (M' := (Past M4824 w4819 w4823)) (fun g hg => .inl hg.1)
           have hv4713 := hv4713.sub (M' := (Past M4824 w4819 w4823)) (fun g hg => .inl hg.1)
           have hv4824 := hv4824.sub (M' := (Past M4824 w4819 w4823)) (fun g hg => .inl hg.1)
           refine x_p 11 (.tuple #[(.slice a4823x0 n4823x0 c4823x0), (.bool r4729.2)]) rfl (by kernel_rfl)  (fun _ => y_move rfl) (fun h => nomatch h) ?_
           refine x_p 12 (.slice a4823x0 n4823x0 c4823x0) rfl (by kernel_rfl)  (fun _ => y_extract rfl (by kernel_rfl)) (fun h => nomatch h) ?_
           refine x_p 13 (.bool r4729.2) rfl (by kernel_rfl)  (fun _ => y_extract rfl (by kernel_rfl)) (fun h => nomatch h) ?_
           refine x_p 14 (.slice a4823x0 n4823x0 c4823x0) rfl (by kernel_rfl)  (fun _ => y_assign rfl) (fun h => nomatch h) ?_
           refine x_p 15 (.bool r4729.2) rfl (by kernel_rfl)  (fun _ => y_assign rfl) (fun h => nomatch h) ?_
           refine x_end (by kernel_rfl) ?_
           clear hS
           refine c_seq (c_region ?_)
           refine pl_val (.slice a4489 n4489 c4489) (y_move rfl) ?_
           refine pl_val (.slice a4823x0 n4823x0 c4823x0) (y_move rfl) ?_
           obtain ⟨r4732, hr4732, hs⟩ := bind_some hs
           refine pl_call Bd72 rfl (c_spec_l18Put (M := (Past M4824 w4819 w4823)) s4482.1 r4729.1 hv4489 hv4823x0 hO.fut hr4732) ?_
           rintro _ w4827 ⟨a4827x0, n4827x0, c4827x0, rfl, hC4827, hv4827x0⟩
           have hK := hK.trans (show Keeps w (Past M4824 w4819 w4823) (Past (Past M4824 w4819 w4823) w4823 w4827) from Keeps.past hC.size)
           have h0 := h0.ext hC4827
           have hb2 := hb2.chg hC4827 (fun h => nomatch h)
           have hv4489 := hv4489.ext hC4827
           have hv4491 := hv4491.ext hC4827
           have hv4713 := hv4713.ext hC4827
           have hv4824 := hv4824.ext hC4827
           have hv4823x0 := hv4823x0.ext hC4827
           have hC := hC.ext hC4827
           have hO := hO.past hC4827
           have h0 := h0.sub (M' := (Past (Past M4824 w4819 w4823) w4823 w4827)) (fun g hg => .inl hg.1)
           have hv4489 := hv4489.sub (M' := (Past (Past M4824 w4819 w4823) w4823 w4827)) (fun g hg => .inl hg.1)
           have hv4491 := hv4491.sub (M' := (Past (Past M4824 w4819 w4823) w4823 w4827)) (fun g hg => .inl hg.1)
           have hv4713 := hv4713.sub (M' := (Past (Past M4824 w4819 w4823) w4823 w4827)) (fun g hg => .inl hg.1)
           have hv4824 := hv4824.sub (M' := (Past (Past M4824 w4819 w4823) w4823 w4827)) (fun g hg => .inl hg.1)
           have hv4823x0 := hv4823x0.sub (M' := (Past (Past M4824 w4819 w4823) w4823 w4827)) (fun g hg => .inl hg.1)
           refine pl_val (.slice a4827x0 n4827x0 c4827x0) (y_assign rfl) ?_
           refine c_nil ?_
           refine c_seq (c_region ?_)
           refine pl_val (.slice a4827x0 n4827x0 c4827x0) (y_move rfl) ?_
           refine pl_val (.int .i64 (r4732.length : Int)) (y_len' Sl59 (rs_len hv4827x0) rfl) ?_
           refine pl_val (.slice a4489 n4489 c4489) (y_move rfl) ?_
           refine pl_val (.int .i64 (s4482.1.length : Int)) (y_len' Sl59 (rs_len hv4489) rfl) ?_
           refine pl_val (.bool (decide ((s4482.1.length : Int) < (r4732.length : Int)))) (y_gtr rfl rfl) ?_
           refine c_nil ?_
           rcases bif_some hs with ⟨hc4830, hs⟩ | ⟨hc4830, hs⟩
           ·skip
            refine c_condT (congrArg Value.bool hc4830) ?_
            refine c_seq (c_region ?_)
            refine pl_val (.slice a4827x0 n4827x0 c4827x0) (y_move rfl) ?_
            refine pl_val (.slice a4827x0 n4827x0 c4827x0) (y_assign rfl) ?_
            refine c_nil ?_
            refine c_region ?_
            refine pl_val (.slice a4491 n4491 c4491) (y_move rfl) ?_
            refine pl_val (.slice a4823x0 n4823x0 c4823x0) (y_move rfl) ?_
            obtain ⟨w4831, g4831, ew4831, eg4831, hC4831, hb4831⟩ := new_block w4827 [(.slice a4823x0 n4823x0 c4823x0)] 49
            refine pl_val (w' := w4831) (.slice (some ⟨g4831, 0, none⟩) 1 1) (y_bslice rfl (by rw [ew4831, eg4831]; kernel_rfl)) ?_
            have h0 := h0.ext hC4831
            have hb2 := hb2.chg hC4831 (fun h => nomatch h)
            have hv4491 := hv4491.ext hC4831
            have hv4823x0 := hv4823x0.ext hC4831
            have hv4827x0 := hv4827x0.ext hC4831
            have hC := hC.ext hC4831
            have hO := hO.new1 hC4831 eg4831 hb4831.lt
            have hv4831 := os_of_box (r := (RT.rs (RT.rs (RT.int .i64)))) (M := (Past (Past M4824 w4819 w4823) w4823 w4827)) (css := [[(.slice a4823x0 n4823x0 c4823x0)]]) (fps := [([] : List Nat)]) (xs := ([r4729.1] : List (List (List Int)))) hb4831 ⟨(rs_unval hv4823x0), trivial⟩ (Nat.le_of_ble_eq_true rfl) (List.nodup_cons.2 ⟨(fun h => nomatch h), List.nodup_nil⟩)
            have hv4831 : (RT.os 49 (RT.rs (RT.rs (RT.int .i64)))).val (Past (Past M4824 w4819 w4823) w4823 w4827) w4831 (.slice (some ⟨g4831, 0, none⟩) 1 1) [r4729.1] [g4831] := hv4831
            obtain ⟨y4834, hy4834, hs⟩ := bind_some hs
            have hO := hO.fr1
            obtain ⟨a4833, n4833, c4833, w4833, f4833, hr4833, hC4833, hf4833, hv4833⟩ := app_os Rw59 hy4834 hv4491 hv4831 hO.inM (fun g hg hq => hO.apart g hq (mem_l hg))
            have hG4833 := os_block hv4491
            refine pl_val (w' := w4833) (.slice a4833 n4833 c4833) (y_append rfl rfl (hr4833 _)) ?_
            have hO := hO.fr1
            have hO := hO.fr1
            have h0 := h0.mut hC4833 (fun g hg => hO.inM g (hG4833 g hg)) (fun _ _ h => nomatch h)
            have hb2 := hb2.chg hC4833 (fun hg => hO.apart _ (hG4833 _ hg) (mem_r (mem_l (List.mem_singleton.2 rfl))))
            have hv4823x0 := hv4823x0.mut hC4833 (fun g hg => hO.inM g (hG4833 g hg)) (fun _ _ h => nomatch h)
            have hv4827x0 := hv4827x0.mut hC4833 (fun g hg => hO.inM g (hG4833 g hg)) (fun _ _ h => nomatch h)
            have hC := hC.step hC4833 (fun g hg => hO.inN g (hG4833 g hg))
            have hO := hO.eat hC4833 hf4833 (os_nodup hv4833) hv4833.fpl
            refine pl_val (.slice a4833 n4833 c4833) (y_assign rfl) ?_
            refine c_nil ?_
            refine c_region ?_
            refine pl_val (.int .i64 s4482.2.2) (y_move rfl) ?_
            refine pl_val (.int .i64 (w64 (s4482.2.2 + 1))) (y_add rfl rfl) ?_
            refine pl_val (.int .i64 (w64 (s4482.2.2 + 1))) (y_assign rfl) ?_
            refine c_nil ?_
            cases hs
            have hO := hO.fr1
            have hO := hO.fr1
            exact ⟨_, (Past (Past M4824 w4819 w4823) w4823 w4827), a4827x0, n4827x0, c4827x0, a4833, n4833, c4833, f4833, fr_ovl 96 ⟨rfl, rfl, rfl, rfl, rfl, trivial⟩, hC, hO, hK, h0, hb2, hv4827x0, hv4833⟩
           ·skip
            refine c_condF (congrArg Value.bool hc4830) ?_
            refine wp_skip ?_
            refine c_region ?_
            refine pl_val (.int .i64 s4482.2.2) (y_move rfl) ?_
            refine pl_val (.int .i64 (w64 (s4482.2.2 + 1))) (y_add rfl rfl) ?_
            refine pl_val (.int .i64 (w64 (s4482.2.2 + 1))) (y_assign rfl) ?_
            refine c_nil ?_
            cases hs
            have hO := hO.fr1
            have hO := hO.fr1
            exact ⟨_, (Past (Past M4824 w4819 w4823) w4823 w4827), a4489, n4489, c4489, a4491, n4491, c4491, f4491, fr_ovl 96 ⟨rfl, rfl, rfl, rfl, rfl, trivial⟩, hC, hO, hK, h0, hb2, hv4489, hv4491⟩
         ·skip
          obtain ⟨M4837, f4837, hs4837, hk4837, hO, hv4837⟩ := os_inner (Frz.os Frz.int) hv4788 hO
          have h0 := h0.sub (M' := M4837) hs4837
          have hv4489 := hv4489.sub (M' := M4837) hs4837
          have hv4491 := hv4491.sub (M' := M4837) hs4837
          have hv4503x0 := hv4503x0.sub (M' := M4837) hs4837
          have hv4713 := hv4713.sub (M' := M4837) hs4837
          have hK := hK.trans hk4837
          obtain ⟨y4719, hy4719, hs⟩ := bind_some hs
          obtain ⟨a4836, n4836, c4836, w4836, f4836, hr4836, hC4836, hf4836, hv4836⟩ := app_rs Rw49 hy4719 hv4837 hv4713 hO.inM
          have hG4836 := os_block hv4837
          refine xk_val (w' := w4836) (b := true) (.slice a4836 n4836 c4836) rfl  (y_append rfl rfl (hr4836 _)) rfl (fun h => nomatch h) ?_
          have h0 := h0.mut hC4836 (fun g hg => hO.inM g (hG4836 g hg)) (fun _ _ h => nomatch h)
          have hb2 := hb2.chg hC4836 (fun hg => hO.apart _ (hG4836 _ hg) (mem_r (mem_r (mem_l (List.mem_singleton.2 rfl)))))
          have hv4489 := hv4489.mut hC4836 (fun g hg => hO.inM g (hG4836 g hg)) (fun _ _ h => nomatch h)
          have hv4491 := hv4491.mut hC4836 (fun g hg => hO.inM g (hG4836 g hg)) (fun g hg e => hO.apart g (hG4836 g hg) (mem_r (mem_l (e))))
          have hv4503x0 := hv4503x0.mut hC4836 (fun g hg => hO.inM g (hG4836 g hg)) (fun g hg e => hO.apart g (hG4836 g hg) (mem_l (e)))
          have hv4713 := hv4713.mut hC4836 (fun g hg => hO.inM g (hG4836 g hg)) (fun _ _ h => nomatch h)
          have hC := hC.step hC4836 (fun g hg => hO.inN g (hG4836 g hg))
          have hO := hO.grow hC4836 hf4836 (os_nodup hv4836) hv4836.fpl
          refine x_two (i := 0) (j := 8) (by kernel_rfl) ?_ ?_
          ·skip
           refine xk_val (b := true) (.agg #[(.int .i64 a_.1), (.slice pa0 pn0 pc0)]) rfl  (y_load rfl ((box_load Ag34 Sz34 hb2 [] [(.int .i64 a_.1), (.slice pa0 pn0 pc0)] [] rfl rfl (fun h => nomatch h)) _ (Chg.refl _ _))) rfl (fun h => nomatch h) ?_
           refine x_one (i := 8) (by kernel_rfl) ?_
           obtain ⟨w4840, g4840, ew4840, eg4840, hC4840, hb4840⟩ := new_block w4836 [(.slice a4503x0 n4503x0 c4503x0)] 25
           refine xk_val (w' := w4840) (b := true) (.slice (some ⟨g4840, 0, none⟩) 1 1) rfl  (y_bslice rfl (by rw [ew4840, eg4840]; kernel_rfl)) rfl (fun h => nomatch h) ?_
           have h0 := h0.ext hC4840
           have hb2 := hb2.chg hC4840 (fun h => nomatch h)
           have hv4489 := hv4489.ext hC4840
           have hv4491 := hv4491.ext hC4840
           have hv4503x0 := hv4503x0.ext hC4840
           have hv4713 := hv4713.ext hC4840
           have hv4836 := hv4836.ext hC4840
           have hC := hC.ext hC4840
           have hO := hO.fr1
           have hO := hO.new1 hC4840 eg4840 hb4840.lt
           have hO := hO.perm (R := (g4840 :: ((f4503x0) ++ ([]))) ++ (f4836 ++ (f4491 ++ (([g2]) ++ ([]))))) (by simp)
           have hnd4840 := hO.nd
           have hv4840 := os_of_box (r := (RT.os 3 (RT.int .i64))) (M := M4837) (css := [[(.slice a4503x0 n4503x0 c4503x0)]]) (fps := [(f4503x0 : List Nat)]) (xs := ([r4504] : List (List Int))) hb4840 ⟨(os_unval hv4503x0), trivial⟩ (Nat.le_of_ble_eq_true rfl) hnd4840
           have hv4840 : (RT.os 25 (RT.os 3 (RT.int .i64))).val M4837 w4840 (.slice (some ⟨g4840, 0, none⟩) 1 1) [r4504] (g4840 :: ((f4503x0) ++ ([]))) := hv4840
           refine x_one (i := 9) (by kernel_rfl) ?_
           obtain ⟨M4843, f4843, hs4843, hk4843, hO, hv4843⟩ := os_inner (Frz.os Frz.int) hv4840 hO
           have h0 := h0.sub (M' := M4843) hs4843
           have hv4489 := hv4489.sub (M' := M4843) hs4843
           have hv4491 := hv4491.sub (M' := M4843) hs4843
           have hv4713 := hv4713.sub (M' := M4843) hs4843
           have hv4836 := hv4836.sub (M' := M4843) hs4843
           have hK := hK.trans hk4843
           obtain ⟨y4725, hy4725, hs⟩ := bind_some hs
           have hO := hO.fr1
           obtain ⟨a4842, n4842, c4842, w4842, f4842, hr4842, hC4842, hf4842, hv4842⟩ := app_os Rw49 hy4725 hv4836 hv4843 hO.inM (fun g hg hq => hO.apart g hq (mem_l hg))
           have hG4842 := os_block hv4836
           refine xk_val (w' := w4842) (b := true) (.slice a4842 n4842 c4842) rfl  (y_append rfl rfl (hr4842 _)) rfl (fun h => nomatch h) ?_
           have hO := hO.fr1
           have hO := hO.fr1
           have h0 := h0.mut hC4842 (fun g hg => hO.inM g (hG4842 g hg)) (fun _ _ h => nomatch h)
           have hb2 := hb2.chg hC4842 (fun hg => hO.apart _ (hG4842 _ hg) (mem_r (mem_r (mem_l (List.mem_singleton.2 rfl)))))
           have hv4489 := hv4489.mut hC4842 (fun g hg => hO.inM g (hG4842 g hg)) (fun _ _ h => nomatch h)
           have hv4491 := hv4491.mut hC4842 (fun g hg => hO.inM g (hG4842 g hg)) (fun g hg e => hO.apart g (hG4842 g hg) (mem_r (mem_l (e))))
           have hv4713 := hv4713.mut hC4842 (fun g hg => hO.inM g (hG4842 g hg)) (fun _ _ h => nomatch h)
           have hC := hC.step hC4842 (fun g hg => hO.inN g (hG4842 g hg))
           have hO := hO.eat hC4842 hf4842 (os_nodup hv4842) hv4842.fpl
           refine x_one (i := 10) (by kernel_rfl) ?_
           obtain ⟨M4847, eM4847, hs4847, hk4847, hO, hv4847⟩ := frz_own (Frz.os (Frz.rs Frz.int)) hv4842 hO
           have h0 := h0.sub (M' := M4847) hs4847
           have hv4489 := hv4489.sub (M' := M4847) hs4847
           have hv4491 := hv4491.sub (M' := M4847) hs4847
           have hv4713 := hv4713.sub (M' := M4847) hs4847
           have hK := hK.trans hk4847
           obtain ⟨r4729, hr4729, hs⟩ := bind_some hs
           refine xk_call (b := true) rfl  Bd69 rfl (c_spec_l8Close (M := M4847) (a_.1, a_.2) 2 y4725 h0 hv4847 hO.fut hr4729) rfl (fun h => nomatch h) ?_
           rintro _ w4846 ⟨a4846x0, n4846x0, c4846x0, rfl, hC4846, hv4846x0⟩
           have hK := hK.trans (show Keeps w M4847 (Past M4847 w4842 w4846) from Keeps.past hC.size)
           have h0 := h0.ext hC4846
           have hb2 := hb2.chg hC4846 (fun h => nomatch h)
           have hv4489 := hv4489.ext hC4846
           have hv4491 := hv4491.ext hC4846
           have hv4713 := hv4713.ext hC4846
           have hv4847 := hv4847.ext hC4846
           have hC := hC.ext hC4846
           have hO := hO.past hC4846
           have h0 := h0.sub (M' := (Past M4847 w4842 w4846)) (fun g hg => .inl hg.1)
           have hv4489 := hv4489.sub (M' := (Past M4847 w4842 w4846)) (fun g hg => .inl hg.1)
           have hv4491 := hv4491.sub (M' := (Past M4847 w4842 w4846)) (fun g hg => .inl hg.1)
           have hv4713 := hv4713.sub (M' := (Past M4847 w4842 w4846)) (fun g hg => .inl hg.1)
           have hv4847 := hv4847.sub (M' := (Past M4847 w4842 w4846)) (fun g hg => .inl hg.1)
           refine x_p 11 (.tuple #[(.slice a4846x0 n4846x0 c4846x0), (.bool r4729.2)]) rfl (by kernel_rfl)  (fun _ => y_move rfl) (fun h => nomatch h) ?_
           refine x_p 12 (.slice a4846x0 n4846x0 c4846x0) rfl (by kernel_rfl)  (fun _ => y_extract rfl (by kernel_rfl)) (fun h => nomatch h) ?_
           refine x_p 13 (.bool r4729.2) rfl (by kernel_rfl)  (fun _ => y_extract rfl (by kernel_rfl)) (fun h => nomatch h) ?_
           refine x_p 14 (.slice a4846x0 n4846x0 c4846x0) rfl (by kernel_rfl)  (fun _ => y_assign rfl) (fun h => nomatch h) ?_
           refine x_p 15 (.bool r4729.2) rfl (by kernel_rfl)  (fun _ => y_assign rfl) (fun h => nomatch h) ?_
           refine x_end (by kernel_rfl) ?_
           clear hS
           refine c_seq (c_region ?_)
           refine pl_val (.slice a4489 n4489 c4489) (y_move rfl) ?_
           refine pl_val (.slice a4846x0 n4846x0 c4846x0) (y_move rfl) ?_
           obtain ⟨r4732, hr4732, hs⟩ := bind_some hs
           refine pl_call Bd72 rfl (c_spec_l18Put (M := (Past M4847 w4842 w4846)) s4482.1 r4729.1 hv4489 hv4846x0 hO.fut hr4732) ?_
           rintro _ w4850 ⟨a4850x0, n4850x0, c4850x0, rfl, hC4850, hv4850x0⟩
           have hK := hK.trans (show Keeps w (Past M4847 w4842 w4846) (Past (Past M4847 w4842 w4846) w4846 w4850) from Keeps.past hC.size)
           have h0 := h0.ext hC4850
           have hb2 := hb2.chg hC4850 (fun h => nomatch h)
           have hv4489 := hv4489.ext hC4850
           have hv4491 := hv4491.ext hC4850
           have hv4713 := hv4713.ext hC4850
           have hv4847 := hv4847.ext hC4850
           have hv4846x0 := hv4846x0.ext hC4850
           have hC := hC.ext hC4850
           have hO := hO.past hC4850
           have h0 := h0.sub (M' := (Past (Past M4847 w4842 w4846) w4846 w4850)) (fun g hg => .inl hg.1)
           have hv4489 := hv4489.sub (M' := (Past (Past M4847 w4842 w4846) w4846 w4850)) (fun g hg => .inl hg.1)
           have hv4491 := hv4491.sub (M' := (Past (Past M4847 w4842 w4846) w4846 w4850)) (fun g hg => .inl hg.1)
           have hv4713 := hv4713.sub (M' := (Past (Past M4847 w4842 w4846) w4846 w4850)) (fun g hg => .inl hg.1)
           have hv4847 := hv4847.sub (M' := (Past (Past M4847 w4842 w4846) w4846 w4850)) (fun g hg => .inl hg.1)
           have hv4846x0 := hv4846x0.sub (M' := (Past (Past M4847 w4842 w4846) w4846 w4850)) (fun g hg => .inl hg.1)
           refine pl_val (.slice a4850x0 n4850x0 c4850x0) (y_assign rfl) ?_
           refine c_nil ?_
           refine c_seq (c_region ?_)
           refine pl_val (.slice a4850x0 n4850x0 c4850x0) (y_move rfl) ?_
           refine pl_val (.int .i64 (r4732.length : Int)) (y_len' Sl59 (rs_len hv4850x0) rfl) ?_
           refine pl_val (.slice a4489 n4489 c4489) (y_move rfl) ?_
           refine pl_val (.int .i64 (s4482.1.length : Int)) (y_len' Sl59 (rs_len hv4489) rfl) ?_
           refine pl_val (.bool (decide ((s4482.1.length : Int) < (r4732.length : Int)))) (y_gtr rfl rfl) ?_
           refine c_nil ?_
           rcases bif_some hs with ⟨hc4853, hs⟩ | ⟨hc4853, hs⟩
           ·skip
            refine c_condT (congrArg Value.bool hc4853) ?_
            refine c_seq (c_region ?_)
            refine pl_val (.slice a4850x0 n4850x0 c4850x0) (y_move rfl) ?_
            refine pl_val (.slice a4850x0 n4850x0 c4850x0) (y_assign rfl) ?_
            refine c_nil ?_
            refine c_region ?_
            refine pl_val (.slice a4491 n4491 c4491) (y_move rfl) ?_
            refine pl_val (.slice a4846x0 n4846x0 c4846x0) (y_move rfl) ?_
            obtain ⟨w4854, g4854, ew4854, eg4854, hC4854, hb4854⟩ := new_block w4850 [(.slice a4846x0 n4846x0 c4846x0)] 49
            refine pl_val (w' := w4854) (.slice (some ⟨g4854, 0, none⟩) 1 1) (y_bslice rfl (by rw [ew4854, eg4854]; kernel_rfl)) ?_
            have h0 := h0.ext hC4854
            have hb2 := hb2.chg hC4854 (fun h => nomatch h)
            have hv4491 := hv4491.ext hC4854
            have hv4846x0 := hv4846x0.ext hC4854
            have hv4850x0 := hv4850x0.ext hC4854
            have hC := hC.ext hC4854
            have hO := hO.new1 hC4854 eg4854 hb4854.lt
            have hv4854 := os_of_box (r := (RT.rs (RT.rs (RT.int .i64)))) (M := (Past (Past M4847 w4842 w4846) w4846 w4850)) (css := [[(.slice a4846x0 n4846x0 c4846x0)]]) (fps := [([] : List Nat)]) (xs := ([r4729.1] : List (List (List Int)))) hb4854 ⟨(rs_unval hv4846x0), trivial⟩ (Nat.le_of_ble_eq_true rfl) (List.nodup_cons.2 ⟨(fun h => nomatch h), List.nodup_nil⟩)
            have hv4854 : (RT.os 49 (RT.rs (RT.rs (RT.int .i64)))).val (Past (Past M4847 w4842 w4846) w4846 w4850) w4854 (.slice (some ⟨g4854, 0, none⟩) 1 1) [r4729.1] [g4854] := hv4854
            obtain ⟨y4857, hy4857, hs⟩ := bind_some hs
            have hO := hO.fr1
            obtain ⟨a4856, n4856, c4856, w4856, f4856, hr4856, hC4856, hf4856, hv4856⟩ := app_os Rw59 hy4857 hv4491 hv4854 hO.inM (fun g hg hq => hO.apart g hq (mem_l hg))
            have hG4856 := os_block hv4491
            refine pl_val (w' := w4856) (.slice a4856 n4856 c4856) (y_append rfl rfl (hr4856 _)) ?_
            have hO := hO.fr1
            have hO := hO.fr1
            have h0 := h0.mut hC4856 (fun g hg => hO.inM g (hG4856 g hg)) (fun _ _ h => nomatch h)
            have hb2 := hb2.chg hC4856 (fun hg => hO.apart _ (hG4856 _ hg) (mem_r (mem_l (List.mem_singleton.2 rfl))))
            have hv4846x0 := hv4846x0.mut hC4856 (fun g hg => hO.inM g (hG4856 g hg)) (fun _ _ h => nomatch h)
            have hv4850x0 := hv4850x0.mut hC4856 (fun g hg => hO.inM g (hG4856 g hg)) (fun _ _ h => nomatch h)
            have hC := hC.step hC4856 (fun g hg => hO.inN g (hG4856 g hg))
            have hO := hO.eat hC4856 hf4856 (os_nodup hv4856) hv4856.fpl
            refine pl_val (.slice a4856 n4856 c4856) (y_assign rfl) ?_
            refine c_nil ?_
            refine c_region ?_
            refine pl_val (.int .i64 s4482.2.2) (y_move rfl) ?_
            refine pl_val (.int .i64 (w64 (s4482.2.2 + 1))) (y_add rfl rfl) ?_
            refine pl_val (.int .i64 (w64 (s4482.2.2 + 1))) (y_assign rfl) ?_
            refine c_nil ?_
            cases hs
            have hO := hO.fr1
            have hO := hO.fr1
            exact ⟨_, (Past (Past M4847 w4842 w4846) w4846 w4850), a4850x0, n4850x0, c4850x0, a4856, n4856, c4856, f4856, fr_ovl 96 ⟨rfl, rfl, rfl, rfl, rfl, trivial⟩, hC, hO, hK, h0, hb2, hv4850x0, hv4856⟩
           ·skip
            refine c_condF (congrArg Value.bool hc4853) ?_
            refine wp_skip ?_
            refine c_region ?_
            refine pl_val (.int .i64 s4482.2.2) (y_move rfl) ?_
            refine pl_val (.int .i64 (w64 (s4482.2.2 + 1))) (y_add rfl rfl) ?_
            refine pl_val (.int .i64 (w64 (s4482.2.2 + 1))) (y_assign rfl) ?_
            refine c_nil ?_
            cases hs
            have hO := hO.fr1
            have hO := hO.fr1
            exact ⟨_, (Past (Past M4847 w4842 w4846) w4846 w4850), a4489, n4489, c4489, a4491, n4491, c4491, f4491, fr_ovl 96 ⟨rfl, rfl, rfl, rfl, rfl, trivial⟩, hC, hO, hK, h0, hb2, hv4489, hv4491⟩
          ·skip
           obtain ⟨w4859, g4859, ew4859, eg4859, hC4859, hb4859⟩ := new_block w4836 [(.slice a4503x0 n4503x0 c4503x0)] 25
           refine xk_val (w' := w4859) (b := true) (.slice (some ⟨g4859, 0, none⟩) 1 1) rfl  (y_bslice rfl (by rw [ew4859, eg4859]; kernel_rfl)) rfl (fun h => nomatch h) ?_
           have h0 := h0.ext hC4859
           have hb2 := hb2.chg hC4859 (fun h => nomatch h)
           have hv4489 := hv4489.ext hC4859
           have hv4491 := hv4491.ext hC4859
           have hv4503x0 := hv4503x0.ext hC4859
           have hv4713 := hv4713.ext hC4859
           have hv4836 := hv4836.ext hC4859
           have hC := hC.ext hC4859
           have hO := hO.fr1
           have hO := hO.new1 hC4859 eg4859 hb4859.lt
           have hO := hO.perm (R := (g4859 :: ((f4503x0) ++ ([]))) ++ (f4836 ++ (f4491 ++ (([g2]) ++ ([]))))) (by simp)
           have hnd4859 := hO.nd
           have hv4859 := os_of_box (r := (RT.os 3 (RT.int .i64))) (M := M4837) (css := [[(.slice a4503x0 n4503x0 c4503x0)]]) (fps := [(f4503x0 : List Nat)]) (xs := ([r4504] : List (List Int))) hb4859 ⟨(os_unval hv4503x0), trivial⟩ (Nat.le_of_ble_eq_true rfl) hnd4859
           have hv4859 : (RT.os 25 (RT.os 3 (RT.int .i64))).val M4837 w4859 (.slice (some ⟨g4859, 0, none⟩) 1 1) [r4504] (g4859 :: ((f4503x0) ++ ([]))) := hv4859
           refine x_two (i := 0) (j := 9) (by kernel_rfl) ?_ ?_
           ·skip
            refine xk_val (b := true) (.agg #[(.int .i64 a_.1), (.slice pa0 pn0 pc0)]) rfl  (y_load rfl ((box_load Ag34 Sz34 hb2 [] [(.int .i64 a_.1), (.slice pa0 pn0 pc0)] [] rfl rfl (fun h => nomatch h)) _ (Chg.refl _ _))) rfl (fun h => nomatch h) ?_
            refine x_one (i := 9) (by kernel_rfl) ?_
            obtain ⟨M4862, f4862, hs4862, hk4862, hO, hv4862⟩ := os_inner (Frz.os Frz.int) hv4859 hO
            have h0 := h0.sub (M' := M4862) hs4862
            have hv4489 := hv4489.sub (M' := M4862) hs4862
            have hv4491 := hv4491.sub (M' := M4862) hs4862
            have hv4713 := hv4713.sub (M' := M4862) hs4862
            have hv4836 := hv4836.sub (M' := M4862) hs4862
            have hK := hK.trans hk4862
            obtain ⟨y4725, hy4725, hs⟩ := bind_some hs
            have hO := hO.fr1
            obtain ⟨a4861, n4861, c4861, w4861, f4861, hr4861, hC4861, hf4861, hv4861⟩ := app_os Rw49 hy4725 hv4836 hv4862 hO.inM (fun g hg hq => hO.apart g hq (mem_l hg))
            have hG4861 := os_block hv4836
            refine xk_val (w' := w4861) (b := true) (.slice a4861 n4861 c4861) rfl  (y_append rfl rfl (hr4861 _)) rfl (fun h => nomatch h) ?_
            have hO := hO.fr1
            have hO := hO.fr1
            have h0 := h0.mut hC4861 (fun g hg => hO.inM g (hG4861 g hg)) (fun _ _ h => nomatch h)
            have hb2 := hb2.chg hC4861 (fun hg => hO.apart _ (hG4861 _ hg) (mem_r (mem_r (mem_l (List.mem_singleton.2 rfl)))))
            have hv4489 := hv4489.mut hC4861 (fun g hg => hO.inM g (hG4861 g hg)) (fun _ _ h => nomatch h)
            have hv4491 := hv4491.mut hC4861 (fun g hg => hO.inM g (hG4861 g hg)) (fun g hg e => hO.apart g (hG4861 g hg) (mem_r (mem_l (e))))
            have hv4713 := hv4713.mut hC4861 (fun g hg => hO.inM g (hG4861 g hg)) (fun _ _ h => nomatch h)
            have hC := hC.step hC4861 (fun g hg => hO.inN g (hG4861 g hg))
            have hO := hO.eat hC4861 hf4861 (os_nodup hv4861) hv4861.fpl
            refine x_one (i := 10) (by kernel_rfl) ?_
            obtain ⟨M4866, eM4866, hs4866, hk4866, hO, hv4866⟩ := frz_own (Frz.os (Frz.rs Frz.int)) hv4861 hO
            have h0 := h0.sub (M' := M4866) hs4866
            have hv4489 := hv4489.sub (M' := M4866) hs4866
            have hv4491 := hv4491.sub (M' := M4866) hs4866
            have hv4713 := hv4713.sub (M' := M4866) hs4866
            have hK := hK.trans hk4866
            obtain ⟨r4729, hr4729, hs⟩ := bind_some hs
            refine xk_call (b := true) rfl  Bd69 rfl (c_spec_l8Close (M := M4866) (a_.1, a_.2) 2 y4725 h0 hv4866 hO.fut hr4729) rfl (fun h => nomatch h) ?_
            rintro _ w4865 ⟨a4865x0, n4865x0, c4865x0, rfl, hC4865, hv4865x0⟩
            have hK := hK.trans (show Keeps w M4866 (Past M4866 w4861 w4865) from Keeps.past hC.size)
            have h0 := h0.ext hC4865
            have hb2 := hb2.chg hC4865 (fun h => nomatch h)
            have hv4489 := hv4489.ext hC4865
            have hv4491 := hv4491.ext hC4865
            have hv4713 := hv4713.ext hC4865
            have hv4866 := hv4866.ext hC4865
            have hC := hC.ext hC4865
            have hO := hO.past hC4865
            have h0 := h0.sub (M' := (Past M4866 w4861 w4865)) (fun g hg => .inl hg.1)
            have hv4489 := hv4489.sub (M' := (Past M4866 w4861 w4865)) (fun g hg => .inl hg.1)
            have hv4491 := hv4491.sub (M' := (Past M4866 w4861 w4865)) (fun g hg => .inl hg.1)
            have hv4713 := hv4713.sub (M' := (Past M4866 w4861 w4865)) (fun g hg => .inl hg.1)
            have hv4866 := hv4866.sub (M' := (Past M4866 w4861 w4865)) (fun g hg => .inl hg.1)
            refine x_p 11 (.tuple #[(.slice a4865x0 n4865x0 c4865x0), (.bool r4729.2)]) rfl (by kernel_rfl)  (fun _ => y_move rfl) (fun h => nomatch h) ?_
            refine x_p 12 (.slice a4865x0 n4865x0 c4865x0) rfl (by kernel_rfl)  (fun _ => y_extract rfl (by kernel_rfl)) (fun h => nomatch h) ?_
            refine x_p 13 (.bool r4729.2) rfl (by kernel_rfl)  (fun _ => y_extract rfl (by kernel_rfl)) (fun h => nomatch h) ?_
            refine x_p 14 (.slice a4865x0 n4865x0 c4865x0) rfl (by kernel_rfl)  (fun _ => y_assign rfl) (fun h => nomatch h) ?_
            refine x_p 15 (.bool r4729.2) rfl (by kernel_rfl)  (fun _ => y_assign rfl) (fun h => nomatch h) ?_
            refine x_end (by kernel_rfl) ?_
            clear hS
            refine c_seq (c_region ?_)
            refine pl_val (.slice a4489 n4489 c4489) (y_move rfl) ?_
            refine pl_val (.slice a4865x0 n4865x0 c4865x0) (y_move rfl) ?_
            obtain ⟨r4732, hr4732, hs⟩ := bind_some hs
            refine pl_call Bd72 rfl (c_spec_l18Put (M := (Past M4866 w4861 w4865)) s4482.1 r4729.1 hv4489 hv4865x0 hO.fut hr4732) ?_
            rintro _ w4869 ⟨a4869x0, n4869x0, c4869x0, rfl, hC4869, hv4869x0⟩
            have hK := hK.trans (show Keeps w (Past M4866 w4861 w4865) (Past (Past M4866 w4861 w4865) w4865 w4869) from Keeps.past hC.size)
            have h0 := h0.ext hC4869
            have hb2 := hb2.chg hC4869 (fun h => nomatch h)
            have hv4489 := hv4489.ext hC4869
            have hv4491 := hv4491.ext hC4869
            have hv4713 := hv4713.ext hC4869
            have hv4866 := hv4866.ext hC4869
            have hv4865x0 := hv4865x0.ext hC4869
            have hC := hC.ext hC4869
            have hO := hO.past hC4869
            have h0 := h0.sub (M' := (Past (Past M4866 w4861 w4865) w4865 w4869)) (fun g hg => .inl hg.1)
            have hv4489 := hv4489.sub (M' := (Past (Past M4866 w4861 w4865) w4865 w4869)) (fun g hg => .inl hg.1)
            have hv4491 := hv4491.sub (M' := (Past (Past M4866 w4861 w4865) w4865 w4869)) (fun g hg => .inl hg.1)
            have hv4713 := hv4713.sub (M' := (Past (Past M4866 w4861 w4865) w4865 w4869)) (fun g hg => .inl hg.1)
            have hv4866 := hv4866.sub (M' := (Past (Past M4866 w4861 w4865) w4865 w4869)) (fun g hg => .inl hg.1)
            have hv4865x0 := hv4865x0.sub (M' := (Past (Past M4866 w4861 w4865) w4865 w4869)) (fun g hg => .inl hg.1)
            refine pl_val (.slice a4869x0 n4869x0 c4869x0) (y_assign rfl) ?_
            refine c_nil ?_
            refine c_seq (c_region ?_)
            refine pl_val (.slice a4869x0 n4869x0 c4869x0) (y_move rfl) ?_
            refine pl_val (.int .i64 (r4732.length : Int)) (y_len' Sl59 (rs_len hv4869x0) rfl) ?_
            refine pl_val (.slice a4489 n4489 c4489) (y_move rfl) ?_
            refine pl_val (.int .i64 (s4482.1.length : Int)) (y_len' Sl59 (rs_len hv4489) rfl) ?_
            refine pl_val (.bool (decide ((s4482.1.length : Int) < (r4732.length : Int)))) (y_gtr rfl rfl) ?_
            refine c_nil ?_
            rcases bif_some hs with ⟨hc4872, hs⟩ | ⟨hc4872, hs⟩
            ·skip
             refine c_condT (congrArg Value.bool hc4872) ?_
             refine c_seq (c_region ?_)
             refine pl_val (.slice a4869x0 n4869x0 c4869x0) (y_move rfl) ?_
             refine pl_val (.slice a4869x0 n4869x0 c4869x0) (y_assign rfl) ?_
             refine c_nil ?_
             refine c_region ?_
             refine pl_val (.slice a4491 n4491 c4491) (y_move rfl) ?_
             refine pl_val (.slice a4865x0 n4865x0 c4865x0) (y_move rfl) ?_
             obtain ⟨w4873, g4873, ew4873, eg4873, hC4873, hb4873⟩ := new_block w4869 [(.slice a4865x0 n4865x0 c4865x0)] 49
             refine pl_val (w' := w4873) (.slice (some ⟨g4873, 0, none⟩) 1 1) (y_bslice rfl (by rw [ew4873, eg4873]; kernel_rfl)) ?_
             have h0 := h0.ext hC4873
             have hb2 := hb2.chg hC4873 (fun h => nomatch h)
             have hv4491 := hv4491.ext hC4873
             have hv4865x0 := hv4865x0.ext hC4873
             have hv4869x0 := hv4869x0.ext hC4873
             have hC := hC.ext hC4873
             have hO := hO.new1 hC4873 eg4873 hb4873.lt
             have hv4873 := os_of_box (r := (RT.rs (RT.rs (RT.int .i64)))) (M := (Past (Past M4866 w4861 w4865) w4865 w4869)) (css := [[(.slice a4865x0 n4865x0 c4865x0)]]) (fps := [([] : List Nat)]) (xs := ([r4729.1] : List (List (List Int)))) hb4873 ⟨(rs_unval hv4865x0), trivial⟩ (Nat.le_of_ble_eq_true rfl) (List.nodup_cons.2 ⟨(fun h => nomatch h), List.nodup_nil⟩)
             have hv4873 : (RT.os 49 (RT.rs (RT.rs (RT.int .i64)))).val (Past (Past M4866 w4861 w4865) w4865 w4869) w4873 (.slice (some ⟨g4873, 0, none⟩) 1 1) [r4729.1] [g4873] := hv4873
             obtain ⟨y4876, hy4876, hs⟩ := bind_some hs
             have hO := hO.fr1
             obtain ⟨a4875, n4875, c4875, w4875, f4875, hr4875, hC4875, hf4875, hv4875⟩ := app_os Rw59 hy4876 hv4491 hv4873 hO.inM (fun g hg hq => hO.apart g hq (mem_l hg))
             have hG4875 := os_block hv4491
             refine pl_val (w' := w4875) (.slice a4875 n4875 c4875) (y_append rfl rfl (hr4875 _)) ?_
             have hO := hO.fr1
             have hO := hO.fr1
             have h0 := h0.mut hC4875 (fun g hg => hO.inM g (hG4875 g hg)) (fun _ _ h => nomatch h)
             have hb2 := hb2.chg hC4875 (fun hg => hO.apart _ (hG4875 _ hg) (mem_r (mem_l (List.mem_singleton.2 rfl))))
             have hv4865x0 := hv4865x0.mut hC4875 (fun g hg => hO.inM g (hG4875 g hg)) (fun _ _ h => nomatch h)
             have hv4869x0 := hv4869x0.mut hC4875 (fun g hg => hO.inM g (hG4875 g hg)) (fun _ _ h => nomatch h)
             have hC := hC.step hC4875 (fun g hg => hO.inN g (hG4875 g hg))
             have hO := hO.eat hC4875 hf4875 (os_nodup hv4875) hv4875.fpl
             refine pl_val (.slice a4875 n4875 c4875) (y_assign rfl) ?_
             refine c_nil ?_
             refine c_region ?_
             refine pl_val (.int .i64 s4482.2.2) (y_move rfl) ?_
             refine pl_val (.int .i64 (w64 (s4482.2.2 + 1))) (y_add rfl rfl) ?_
             refine pl_val (.int .i64 (w64 (s4482.2.2 + 1))) (y_assign rfl) ?_
             refine c_nil ?_
             cases hs
             have hO := hO.fr1
             have hO := hO.fr1
             exact ⟨_, (Past (Past M4866 w4861 w4865) w4865 w4869), a4869x0, n4869x0, c4869x0, a4875, n4875, c4875, f4875, fr_ovl 96 ⟨rfl, rfl, rfl, rfl, rfl, trivial⟩, hC, hO, hK, h0, hb2, hv4869x0, hv4875⟩
            ·skip
             refine c_condF (congrArg Value.bool hc4872) ?_
             refine wp_skip ?_
             refine c_region ?_
             refine pl_val (.int .i64 s4482.2.2) (y_move rfl) ?_
             refine pl_val (.int .i64 (w64 (s4482.2.2 + 1))) (y_add rfl rfl) ?_
             refine pl_val (.int .i64 (w64 (s4482.2.2 + 1))) (y_assign rfl) ?_
             refine c_nil ?_
             cases hs
             have hO := hO.fr1
             have hO := hO.fr1
             exact ⟨_, (Past (Past M4866 w4861 w4865) w4865 w4869), a4489, n4489, c4489, a4491, n4491, c4491, f4491, fr_ovl 96 ⟨rfl, rfl, rfl, rfl, rfl, trivial⟩, hC, hO, hK, h0, hb2, hv4489, hv4491⟩
           ·skip
            obtain ⟨M4879, f4879, hs4879, hk4879, hO, hv4879⟩ := os_inner (Frz.os Frz.int) hv4859 hO
            have h0 := h0.sub (M' := M4879) hs4879
            have hv4489 := hv4489.sub (M' := M4879) hs4879
            have hv4491 := hv4491.sub (M' := M4879) hs4879
            have hv4713 := hv4713.sub (M' := M4879) hs4879
            have hv4836 := hv4836.sub (M' := M4879) hs4879
            have hK := hK.trans hk4879
            obtain ⟨y4725, hy4725, hs⟩ := bind_some hs
            have hO := hO.fr1
            obtain ⟨a4878, n4878, c4878, w4878, f4878, hr4878, hC4878, hf4878, hv4878⟩ := app_os Rw49 hy4725 hv4836 hv4879 hO.inM (fun g hg hq => hO.apart g hq (mem_l hg))
            have hG4878 := os_block hv4836
            refine xk_val (w' := w4878) (b := true) (.slice a4878 n4878 c4878) rfl  (y_append rfl rfl (hr4878 _)) rfl (fun h => nomatch h) ?_
            have hO := hO.fr1
            have hO := hO.fr1
            have h0 := h0.mut hC4878 (fun g hg => hO.inM g (hG4878 g hg)) (fun _ _ h => nomatch h)
            have hb2 := hb2.chg hC4878 (fun hg => hO.apart _ (hG4878 _ hg) (mem_r (mem_r (mem_l (List.mem_singleton.2 rfl)))))
            have hv4489 := hv4489.mut hC4878 (fun g hg => hO.inM g (hG4878 g hg)) (fun _ _ h => nomatch h)
            have hv4491 := hv4491.mut hC4878 (fun g hg => hO.inM g (hG4878 g hg)) (fun g hg e => hO.apart g (hG4878 g hg) (mem_r (mem_l (e))))
            have hv4713 := hv4713.mut hC4878 (fun g hg => hO.inM g (hG4878 g hg)) (fun _ _ h => nomatch h)
            have hC := hC.step hC4878 (fun g hg => hO.inN g (hG4878 g hg))
            have hO := hO.eat hC4878 hf4878 (os_nodup hv4878) hv4878.fpl
            refine x_one (i := 0) (by kernel_rfl) ?_
            refine xk_val (b := true) (.agg #[(.int .i64 a_.1), (.slice pa0 pn0 pc0)]) rfl  (y_load rfl ((box_load Ag34 Sz34 hb2 [] [(.int .i64 a_.1), (.slice pa0 pn0 pc0)] [] rfl rfl (fun h => nomatch h)) _ (Chg.refl _ _))) rfl (fun h => nomatch h) ?_
            refine x_one (i := 10) (by kernel_rfl) ?_
            obtain ⟨M4883, eM4883, hs4883, hk4883, hO, hv4883⟩ := frz_own (Frz.os (Frz.rs Frz.int)) hv4878 hO
            have h0 := h0.sub (M' := M4883) hs4883
            have hv4489 := hv4489.sub (M' := M4883) hs4883
            have hv4491 := hv4491.sub (M' := M4883) hs4883
            have hv4713 := hv4713.sub (M' := M4883) hs4883
            have hK := hK.trans hk4883
            obtain ⟨r4729, hr4729, hs⟩ := bind_some hs
            refine xk_call (b := true) rfl  Bd69 rfl (c_spec_l8Close (M := M4883) (a_.1, a_.2) 2 y4725 h0 hv4883 hO.fut hr4729) rfl (fun h => nomatch h) ?_
            rintro _ w4882 ⟨a4882x0, n4882x0, c4882x0, rfl, hC4882, hv4882x0⟩
            have hK := hK.trans (show Keeps w M4883 (Past M4883 w4878 w4882) from Keeps.past hC.size)
            have h0 := h0.ext hC4882
            have hb2 := hb2.chg hC4882 (fun h => nomatch h)
            have hv4489 := hv4489.ext hC4882
            have hv4491 := hv4491.ext hC4882
            have hv4713 := hv4713.ext hC4882
            have hv4883 := hv4883.ext hC4882
            have hC := hC.ext hC4882
            have hO := hO.past hC4882
            have h0 := h0.sub (M' := (Past M4883 w4878 w4882)) (fun g hg => .inl hg.1)
            have hv4489 := hv4489.sub (M' := (Past M4883 w4878 w4882)) (fun g hg => .inl hg.1)
            have hv4491 := hv4491.sub (M' := (Past M4883 w4878 w4882)) (fun g hg => .inl hg.1)
            have hv4713 := hv4713.sub (M' := (Past M4883 w4878 w4882)) (fun g hg => .inl hg.1)
            have hv4883 := hv4883.sub (M' := (Past M4883 w4878 w4882)) (fun g hg => .inl hg.1)
            refine x_p 11 (.tuple #[(.slice a4882x0 n4882x0 c4882x0), (.bool r4729.2)]) rfl (by kernel_rfl)  (fun _ => y_move rfl) (fun h => nomatch h) ?_
            refine x_p 12 (.slice a4882x0 n4882x0 c4882x0) rfl (by kernel_rfl)  (fun _ => y_extract rfl (by kernel_rfl)) (fun h => nomatch h) ?_
            refine x_p 13 (.bool r4729.2) rfl (by kernel_rfl)  (fun _ => y_extract rfl (by kernel_rfl)) (fun h => nomatch h) ?_
            refine x_p 14 (.slice a4882x0 n4882x0 c4882x0) rfl (by kernel_rfl)  (fun _ => y_assign rfl) (fun h => nomatch h) ?_
            refine x_p 15 (.bool r4729.2) rfl (by kernel_rfl)  (fun _ => y_assign rfl) (fun h => nomatch h) ?_
            refine x_end (by kernel_rfl) ?_
            clear hS
            refine c_seq (c_region ?_)
            refine pl_val (.slice a4489 n4489 c4489) (y_move rfl) ?_
            refine pl_val (.slice a4882x0 n4882x0 c4882x0) (y_move rfl) ?_
            obtain ⟨r4732, hr4732, hs⟩ := bind_some hs
            refine pl_call Bd72 rfl (c_spec_l18Put (M := (Past M4883 w4878 w4882)) s4482.1 r4729.1 hv4489 hv4882x0 hO.fut hr4732) ?_
            rintro _ w4886 ⟨a4886x0, n4886x0, c4886x0, rfl, hC4886, hv4886x0⟩
            have hK := hK.trans (show Keeps w (Past M4883 w4878 w4882) (Past (Past M4883 w4878 w4882) w4882 w4886) from Keeps.past hC.size)
            have h0 := h0.ext hC4886
            have hb2 := hb2.chg hC4886 (fun h => nomatch h)
            have hv4489 := hv4489.ext hC4886
            have hv4491 := hv4491.ext hC4886
            have hv4713 := hv4713.ext hC4886
            have hv4883 := hv4883.ext hC4886
            have hv4882x0 := hv4882x0.ext hC4886
            have hC := hC.ext hC4886
            have hO := hO.past hC4886
            have h0 := h0.sub (M' := (Past (Past M4883 w4878 w4882) w4882 w4886)) (fun g hg => .inl hg.1)
            have hv4489 := hv4489.sub (M' := (Past (Past M4883 w4878 w4882) w4882 w4886)) (fun g hg => .inl hg.1)
            have hv4491 := hv4491.sub (M' := (Past (Past M4883 w4878 w4882) w4882 w4886)) (fun g hg => .inl hg.1)
            have hv4713 := hv4713.sub (M' := (Past (Past M4883 w4878 w4882) w4882 w4886)) (fun g hg => .inl hg.1)
            have hv4883 := hv4883.sub (M' := (Past (Past M4883 w4878 w4882) w4882 w4886)) (fun g hg => .inl hg.1)
            have hv4882x0 := hv4882x0.sub (M' := (Past (Past M4883 w4878 w4882) w4882 w4886)) (fun g hg => .inl hg.1)
            refine pl_val (.slice a4886x0 n4886x0 c4886x0) (y_assign rfl) ?_
            refine c_nil ?_
            refine c_seq (c_region ?_)
            refine pl_val (.slice a4886x0 n4886x0 c4886x0) (y_move rfl) ?_
            refine pl_val (.int .i64 (r4732.length : Int)) (y_len' Sl59 (rs_len hv4886x0) rfl) ?_
            refine pl_val (.slice a4489 n4489 c4489) (y_move rfl) ?_
            refine pl_val (.int .i64 (s4482.1.length : Int)) (y_len' Sl59 (rs_len hv4489) rfl) ?_
            refine pl_val (.bool (decide ((s4482.1.length : Int) < (r4732.length : Int)))) (y_gtr rfl rfl) ?_
            refine c_nil ?_
            rcases bif_some hs with ⟨hc4889, hs⟩ | ⟨hc4889, hs⟩
            ·skip
             refine c_condT (congrArg Value.bool hc4889) ?_
             refine c_seq (c_region ?_)
             refine pl_val (.slice a4886x0 n4886x0 c4886x0) (y_move rfl) ?_
             refine pl_val (.slice a4886x0 n4886x0 c4886x0) (y_assign rfl) ?_
             refine c_nil ?_
             refine c_region ?_
             refine pl_val (.slice a4491 n4491 c4491) (y_move rfl) ?_
             refine pl_val (.slice a4882x0 n4882x0 c4882x0) (y_move rfl) ?_
             obtain ⟨w4890, g4890, ew4890, eg4890, hC4890, hb4890⟩ := new_block w4886 [(.slice a4882x0 n4882x0 c4882x0)] 49
             refine pl_val (w' := w4890) (.slice (some ⟨g4890, 0, none⟩) 1 1) (y_bslice rfl (by rw [ew4890, eg4890]; kernel_rfl)) ?_
             have h0 := h0.ext hC4890
             have hb2 := hb2.chg hC4890 (fun h => nomatch h)
             have hv4491 := hv4491.ext hC4890
             have hv4882x0 := hv4882x0.ext hC4890
             have hv4886x0 := hv4886x0.ext hC4890
             have hC := hC.ext hC4890
             have hO := hO.new1 hC4890 eg4890 hb4890.lt
             have hv4890 := os_of_box (r := (RT.rs (RT.rs (RT.int .i64)))) (M := (Past (Past M4883 w4878 w4882) w4882 w4886)) (css := [[(.slice a4882x0 n4882x0 c4882x0)]]) (fps := [([] : List Nat)]) (xs := ([r4729.1] : List (List (List Int)))) hb4890 ⟨(rs_unval hv4882x0), trivial⟩ (Nat.le_of_ble_eq_true rfl) (List.nodup_cons.2 ⟨(fun h => nomatch h), List.nodup_nil⟩)
             have hv4890 : (RT.os 49 (RT.rs (RT.rs (RT.int .i64)))).val (Past (Past M4883 w4878 w4882) w4882 w4886) w4890 (.slice (some ⟨g4890, 0, none⟩) 1 1) [r4729.1] [g4890] := hv4890
             obtain ⟨y4893, hy4893, hs⟩ := bind_some hs
             have hO := hO.fr1
             obtain ⟨a4892, n4892, c4892, w4892, f4892, hr4892, hC4892, hf4892, hv4892⟩ := app_os Rw59 hy4893 hv4491 hv4890 hO.inM (fun g hg hq => hO.apart g hq (mem_l hg))
             have hG4892 := os_block hv4491
             refine pl_val (w' := w4892) (.slice a4892 n4892 c4892) (y_append rfl rfl (hr4892 _)) ?_
             have hO := hO.fr1
             have hO := hO.fr1
             have h0 := h0.mut hC4892 (fun g hg => hO.inM g (hG4892 g hg)) (fun _ _ h => nomatch h)
             have hb2 := hb2.chg hC4892 (fun hg => hO.apart _ (hG4892 _ hg) (mem_r (mem_l (List.mem_singleton.2 rfl))))
             have hv4882x0 := hv4882x0.mut hC4892 (fun g hg => hO.inM g (hG4892 g hg)) (fun _ _ h => nomatch h)
             have hv4886x0 := hv4886x0.mut hC4892 (fun g hg => hO.inM g (hG4892 g hg)) (fun _ _ h => nomatch h)
             have hC := hC.step hC4892 (fun g hg => hO.inN g (hG4892 g hg))
             have hO := hO.eat hC4892 hf4892 (os_nodup hv4892) hv4892.fpl
             refine pl_val (.slice a4892 n4892 c4892) (y_assign rfl) ?_
             refine c_nil ?_
             refine c_region ?_
             refine pl_val (.int .i64 s4482.2.2) (y_move rfl) ?_
             refine pl_val (.int .i64 (w64 (s4482.2.2 + 1))) (y_add rfl rfl) ?_
             refine pl_val (.int .i64 (w64 (s4482.2.2 + 1))) (y_assign rfl) ?_
             refine c_nil ?_
             cases hs
             have hO := hO.fr1
             have hO := hO.fr1
             exact ⟨_, (Past (Past M4883 w4878 w4882) w4882 w4886), a4886x0, n4886x0, c4886x0, a4892, n4892, c4892, f4892, fr_ovl 96 ⟨rfl, rfl, rfl, rfl, rfl, trivial⟩, hC, hO, hK, h0, hb2, hv4886x0, hv4892⟩
            ·skip
             refine c_condF (congrArg Value.bool hc4889) ?_
             refine wp_skip ?_
             refine c_region ?_
             refine pl_val (.int .i64 s4482.2.2) (y_move rfl) ?_
             refine pl_val (.int .i64 (w64 (s4482.2.2 + 1))) (y_add rfl rfl) ?_
             refine pl_val (.int .i64 (w64 (s4482.2.2 + 1))) (y_assign rfl) ?_
             refine c_nil ?_
             cases hs
             have hO := hO.fr1
             have hO := hO.fr1
             exact ⟨_, (Past (Past M4883 w4878 w4882) w4882 w4886), a4489, n4489, c4489, a4491, n4491, c4491, f4491, fr_ovl 96 ⟨rfl, rfl, rfl, rfl, rfl, trivial⟩, hC, hO, hK, h0, hb2, hv4489, hv4491⟩
         ·skip
          obtain ⟨w4895, g4895, ew4895, eg4895, hC4895, hb4895⟩ := new_block w4788 [(.slice a4503x0 n4503x0 c4503x0)] 25
          refine xk_val (w' := w4895) (b := false) (.slice (some ⟨g4895, 0, none⟩) 1 1) rfl  (y_bslice rfl (by rw [ew4895, eg4895]; kernel_rfl)) rfl (fun _ => hS.ext hC4895) ?_
          have h0 := h0.ext hC4895
          have hb2 := hb2.chg hC4895 (fun h => nomatch h)
          have hv4489 := hv4489.ext hC4895
          have hv4491 := hv4491.ext hC4895
          have hv4503x0 := hv4503x0.ext hC4895
          have hv4713 := hv4713.ext hC4895
          have hv4788 := hv4788.ext hC4895
          have hC := hC.ext hC4895
          have hO := hO.fr1
          have hO := hO.new1 hC4895 eg4895 hb4895.lt
          have hO := hO.perm (R := (g4895 :: ((f4503x0) ++ ([]))) ++ (([g4788]) ++ (f4491 ++ (([g2]) ++ ([]))))) (by simp)
          have hnd4895 := hO.nd
          have hv4895 := os_of_box (r := (RT.os 3 (RT.int .i64))) (M := M4488) (css := [[(.slice a4503x0 n4503x0 c4503x0)]]) (fps := [(f4503x0 : List Nat)]) (xs := ([r4504] : List (List Int))) hb4895 ⟨(os_unval hv4503x0), trivial⟩ (Nat.le_of_ble_eq_true rfl) hnd4895
          have hv4895 : (RT.os 25 (RT.os 3 (RT.int .i64))).val M4488 w4895 (.slice (some ⟨g4895, 0, none⟩) 1 1) [r4504] (g4895 :: ((f4503x0) ++ ([]))) := hv4895
          have hS := hS.ext hC4895
          refine x_two (i := 0) (j := 6) (by kernel_rfl) ?_ ?_
          ·skip
           refine xk_val (b := false) (.agg #[(.int .i64 a_.1), (.slice pa0 pn0 pc0)]) rfl  (y_load rfl ((box_load Ag34 Sz34 hb2 [] [(.int .i64 a_.1), (.slice pa0 pn0 pc0)] [] rfl rfl (fun h => nomatch h)) _ (Chg.refl _ _))) rfl (fun _ => hS) ?_
           refine x_one (i := 6) (by kernel_rfl) ?_
           have hO := hO.fr1
           obtain ⟨M4898, f4898, hs4898, hk4898, hO, hv4898⟩ := os_inner (Frz.os Frz.int) hv4788 hO
           have h0 := h0.sub (M' := M4898) hs4898
           have hv4489 := hv4489.sub (M' := M4898) hs4898
           have hv4491 := hv4491.sub (M' := M4898) hs4898
           have hv4713 := hv4713.sub (M' := M4898) hs4898
           have hv4895 := hv4895.sub (M' := M4898) hs4898
           have hK := hK.trans hk4898
           obtain ⟨y4719, hy4719, hs⟩ := bind_some hs
           obtain ⟨a4897, n4897, c4897, w4897, f4897, hr4897, hC4897, hf4897, hv4897⟩ := app_rs Rw49 hy4719 hv4898 hv4713 hO.inM
           have hG4897 := os_block hv4898
           refine xk_val (w' := w4897) (b := true) (.slice a4897 n4897 c4897) rfl  (y_append rfl rfl (hr4897 _)) rfl (fun h => nomatch h) ?_
           have h0 := h0.mut hC4897 (fun g hg => hO.inM g (hG4897 g hg)) (fun _ _ h => nomatch h)
           have hb2 := hb2.chg hC4897 (fun hg => hO.apart _ (hG4897 _ hg) (mem_r (mem_r (mem_l (List.mem_singleton.2 rfl)))))
           have hv4489 := hv4489.mut hC4897 (fun g hg => hO.inM g (hG4897 g hg)) (fun _ _ h => nomatch h)
           have hv4491 := hv4491.mut hC4897 (fun g hg => hO.inM g (hG4897 g hg)) (fun g hg e => hO.apart g (hG4897 g hg) (mem_r (mem_l (e))))
           have hv4713 := hv4713.mut hC4897 (fun g hg => hO.inM g (hG4897 g hg)) (fun _ _ h => nomatch h)
           have hv4895 := hv4895.mut hC4897 (fun g hg => hO.inM g (hG4897 g hg)) (fun g hg e => hO.apart g (hG4897 g hg) (mem_l (e)))
           have hC := hC.step hC4897 (fun g hg => hO.inN g (hG4897 g hg))
           have hO := hO.grow hC4897 hf4897 (os_nodup hv4897) hv4897.fpl
           refine x_one (i := 9) (by kernel_rfl) ?_
           have hO := hO.fr1
           obtain ⟨M4902, f4902, hs4902, hk4902, hO, hv4902⟩ := os_inner (Frz.os Frz.int) hv4895 hO
           have h0 := h0.sub (M' := M4902) hs4902
           have hv4489 := hv4489.sub (M' := M4902) hs4902
           have hv4491 := hv4491.sub (M' := M4902) hs4902
           have hv4713 := hv4713.sub (M' := M4902) hs4902
           have hv4897 := hv4897.sub (M' := M4902) hs4902
           have hK := hK.trans hk4902
           obtain ⟨y4725, hy4725, hs⟩ := bind_some hs
           have hO := hO.fr1
           obtain ⟨a4901, n4901, c4901, w4901, f4901, hr4901, hC4901, hf4901, hv4901⟩ := app_os Rw49 hy4725 hv4897 hv4902 hO.inM (fun g hg hq => hO.apart g hq (mem_l hg))
           have hG4901 := os_block hv4897
           refine xk_val (w' := w4901) (b := true) (.slice a4901 n4901 c4901) rfl  (y_append rfl rfl (hr4901 _)) rfl (fun h => nomatch h) ?_
           have hO := hO.fr1
           have hO := hO.fr1
           have h0 := h0.mut hC4901 (fun g hg => hO.inM g (hG4901 g hg)) (fun _ _ h => nomatch h)
           have hb2 := hb2.chg hC4901 (fun hg => hO.apart _ (hG4901 _ hg) (mem_r (mem_r (mem_l (List.mem_singleton.2 rfl)))))
           have hv4489 := hv4489.mut hC4901 (fun g hg => hO.inM g (hG4901 g hg)) (fun _ _ h => nomatch h)
           have hv4491 := hv4491.mut hC4901 (fun g hg => hO.inM g (hG4901 g hg)) (fun g hg e => hO.apart g (hG4901 g hg) (mem_r (mem_l (e))))
           have hv4713 := hv4713.mut hC4901 (fun g hg => hO.inM g (hG4901 g hg)) (fun _ _ h => nomatch h)
           have hC := hC.step hC4901 (fun g hg => hO.inN g (hG4901 g hg))
           have hO := hO.eat hC4901 hf4901 (os_nodup hv4901) hv4901.fpl
           refine x_one (i := 10) (by kernel_rfl) ?_
           obtain ⟨M4906, eM4906, hs4906, hk4906, hO, hv4906⟩ := frz_own (Frz.os (Frz.rs Frz.int)) hv4901 hO
           have h0 := h0.sub (M' := M4906) hs4906
           have hv4489 := hv4489.sub (M' := M4906) hs4906
           have hv4491 := hv4491.sub (M' := M4906) hs4906
           have hv4713 := hv4713.sub (M' := M4906) hs4906
           have hK := hK.trans hk4906
           obtain ⟨r4729, hr4729, hs⟩ := bind_some hs
           refine xk_call (b := true) rfl  Bd69 rfl (c_spec_l8Close (M := M4906) (a_.1, a_.2) 2 y4725 h0 hv4906 hO.fut hr4729) rfl (fun h => nomatch h) ?_
           rintro _ w4905 ⟨a4905x0, n4905x0, c4905x0, rfl, hC4905, hv4905x0⟩
           have hK := hK.trans (show Keeps w M4906 (Past M4906 w4901 w4905) from Keeps.past hC.size)
           have h0 := h0.ext hC4905
           have hb2 := hb2.chg hC4905 (fun h => nomatch h)
           have hv4489 := hv4489.ext hC4905
           have hv4491 := hv4491.ext hC4905
           have hv4713 := hv4713.ext hC4905
           have hv4906 := hv4906.ext hC4905
           have hC := hC.ext hC4905
           have hO := hO.past hC4905
           have h0 := h0.sub (M' := (Past M4906 w4901 w4905)) (fun g hg => .inl hg.1)
           have hv4489 := hv4489.sub (M' := (Past M4906 w4901 w4905)) (fun g hg => .inl hg.1)
           have hv4491 := hv4491.sub (M' := (Past M4906 w4901 w4905)) (fun g hg => .inl hg.1)
           have hv4713 := hv4713.sub (M' := (Past M4906 w4901 w4905)) (fun g hg => .inl hg.1)
           have hv4906 := hv4906.sub (M' := (Past M4906 w4901 w4905)) (fun g hg => .inl hg.1)
           refine x_p 11 (.tuple #[(.slice a4905x0 n4905x0 c4905x0), (.bool r4729.2)]) rfl (by kernel_rfl)  (fun _ => y_move rfl) (fun h => nomatch h) ?_
           refine x_p 12 (.slice a4905x0 n4905x0 c4905x0) rfl (by kernel_rfl)  (fun _ => y_extract rfl (by kernel_rfl)) (fun h => nomatch h) ?_
           refine x_p 13 (.bool r4729.2) rfl (by kernel_rfl)  (fun _ => y_extract rfl (by kernel_rfl)) (fun h => nomatch h) ?_
           refine x_p 14 (.slice a4905x0 n4905x0 c4905x0) rfl (by kernel_rfl)  (fun _ => y_assign rfl) (fun h => nomatch h) ?_
           refine x_p 15 (.bool r4729.2) rfl (by kernel_rfl)  (fun _ => y_assign rfl) (fun h => nomatch h) ?_
           refine x_end (by kernel_rfl) ?_
           clear hS
           refine c_seq (c_region ?_)
           refine pl_val (.slice a4489 n4489 c4489) (y_move rfl) ?_
           refine pl_val (.slice a4905x0 n4905x0 c4905x0) (y_move rfl) ?_
           obtain ⟨r4732, hr4732, hs⟩ := bind_some hs
           refine pl_call Bd72 rfl (c_spec_l18Put (M := (Past M4906 w4901 w4905)) s4482.1 r4729.1 hv4489 hv4905x0 hO.fut hr4732) ?_
           rintro _ w4909 ⟨a4909x0, n4909x0, c4909x0, rfl, hC4909, hv4909x0⟩
           have hK := hK.trans (show Keeps w (Past M4906 w4901 w4905) (Past (Past M4906 w4901 w4905) w4905 w4909) from Keeps.past hC.size)
           have h0 := h0.ext hC4909
           have hb2 := hb2.chg hC4909 (fun h => nomatch h)
           have hv4489 := hv4489.ext hC4909
           have hv4491 := hv4491.ext hC4909
           have hv4713 := hv4713.ext hC4909
           have hv4906 := hv4906.ext hC4909
           have hv4905x0 := hv4905x0.ext hC4909
           have hC := hC.ext hC4909
           have hO := hO.past hC4909
           have h0 := h0.sub (M' := (Past (Past M4906 w4901 w4905) w4905 w4909)) (fun g hg => .inl hg.1)
           have hv4489 := hv4489.sub (M' := (Past (Past M4906 w4901 w4905) w4905 w4909)) (fun g hg => .inl hg.1)
           have hv4491 := hv4491.sub (M' := (Past (Past M4906 w4901 w4905) w4905 w4909)) (fun g hg => .inl hg.1)
           have hv4713 := hv4713.sub (M' := (Past (Past M4906 w4901 w4905) w4905 w4909)) (fun g hg => .inl hg.1)
           have hv4906 := hv4906.sub (M' := (Past (Past M4906 w4901 w4905) w4905 w4909)) (fun g hg => .inl hg.1)
           have hv4905x0 := hv4905x0.sub (M' := (Past (Past M4906 w4901 w4905) w4905 w4909)) (fun g hg => .inl hg.1)
           refine pl_val (.slice a4909x0 n4909x0 c4909x0) (y_assign rfl) ?_
           refine c_nil ?_
           refine c_seq (c_region ?_)
           refine pl_val (.slice a4909x0 n4909x0 c4909x0) (y_move rfl) ?_
           refine pl_val (.int .i64 (r4732.length : Int)) (y_len' Sl59 (rs_len hv4909x0) rfl) ?_
           refine pl_val (.slice a4489 n4489 c4489) (y_move rfl) ?_
           refine pl_val (.int .i64 (s4482.1.length : Int)) (y_len' Sl59 (rs_len hv4489) rfl) ?_
           refine pl_val (.bool (decide ((s4482.1.length : Int) < (r4732.length : Int)))) (y_gtr rfl rfl) ?_
           refine c_nil ?_
           rcases bif_some hs with ⟨hc4912, hs⟩ | ⟨hc4912, hs⟩
           ·skip
            refine c_condT (congrArg Value.bool hc4912) ?_
            refine c_seq (c_region ?_)
            refine pl_val (.slice a4909x0 n4909x0 c4909x0) (y_move rfl) ?_
            refine pl_val (.slice a4909x0 n4909x0 c4909x0) (y_assign rfl) ?_
            refine c_nil ?_
            refine c_region ?_
            refine pl_val (.slice a4491 n4491 c4491) (y_move rfl) ?_
            refine pl_val (.slice a4905x0 n4905x0 c4905x0) (y_move rfl) ?_
            obtain ⟨w4913, g4913, ew4913, eg4913, hC4913, hb4913⟩ := new_block w4909 [(.slice a4905x0 n4905x0 c4905x0)] 49
            refine pl_val (w' := w4913) (.slice (some ⟨g4913, 0, none⟩) 1 1) (y_bslice rfl (by rw [ew4913, eg4913]; kernel_rfl)) ?_
            have h0 := h0.ext hC4913
            have hb2 := hb2.chg hC4913 (fun h => nomatch h)
            have hv4491 := hv4491.ext hC4913
            have hv4905x0 := hv4905x0.ext hC4913
            have hv4909x0 := hv4909x0.ext hC4913
            have hC := hC.ext hC4913
            have hO := hO.new1 hC4913 eg4913 hb4913.lt
            have hv4913 := os_of_box (r := (RT.rs (RT.rs (RT.int .i64)))) (M := (Past (Past M4906 w4901 w4905) w4905 w4909)) (css := [[(.slice a4905x0 n4905x0 c4905x0)]]) (fps := [([] : List Nat)]) (xs := ([r4729.1] : List (List (List Int)))) hb4913 ⟨(rs_unval hv4905x0), trivial⟩ (Nat.le_of_ble_eq_true rfl) (List.nodup_cons.2 ⟨(fun h => nomatch h), List.nodup_nil⟩)
            have hv4913 : (RT.os 49 (RT.rs (RT.rs (RT.int .i64)))).val (Past (Past M4906 w4901 w4905) w4905 w4909) w4913 (.slice (some ⟨g4913, 0, none⟩) 1 1) [r4729.1] [g4913] := hv4913
            obtain ⟨y4916, hy4916, hs⟩ := bind_some hs
            have hO := hO.fr1
            obtain ⟨a4915, n4915, c4915, w4915, f4915, hr4915, hC4915, hf4915, hv4915⟩ := app_os Rw59 hy4916 hv4491 hv4913 hO.inM (fun g hg hq => hO.apart g hq (mem_l hg))
            have hG4915 := os_block hv4491
            refine pl_val (w' := w4915) (.slice a4915 n4915 c4915) (y_append rfl rfl (hr4915 _)) ?_
            have hO := hO.fr1
            have hO := hO.fr1
            have h0 := h0.mut hC4915 (fun g hg => hO.inM g (hG4915 g hg)) (fun _ _ h => nomatch h)
            have hb2 := hb2.chg hC4915 (fun hg => hO.apart _ (hG4915 _ hg) (mem_r (mem_l (List.mem_singleton.2 rfl))))
            have hv4905x0 := hv4905x0.mut hC4915 (fun g hg => hO.inM g (hG4915 g hg)) (fun _ _ h => nomatch h)
            have hv4909x0 := hv4909x0.mut hC4915 (fun g hg => hO.inM g (hG4915 g hg)) (fun _ _ h => nomatch h)
            have hC := hC.step hC4915 (fun g hg => hO.inN g (hG4915 g hg))
            have hO := hO.eat hC4915 hf4915 (os_nodup hv4915) hv4915.fpl
            refine pl_val (.slice a4915 n4915 c4915) (y_assign rfl) ?_
            refine c_nil ?_
            refine c_region ?_
            refine pl_val (.int .i64 s4482.2.2) (y_move rfl) ?_
            refine pl_val (.int .i64 (w64 (s4482.2.2 + 1))) (y_add rfl rfl) ?_
            refine pl_val (.int .i64 (w64 (s4482.2.2 + 1))) (y_assign rfl) ?_
            refine c_nil ?_
            cases hs
            have hO := hO.fr1
            have hO := hO.fr1
            exact ⟨_, (Past (Past M4906 w4901 w4905) w4905 w4909), a4909x0, n4909x0, c4909x0, a4915, n4915, c4915, f4915, fr_ovl 96 ⟨rfl, rfl, rfl, rfl, rfl, trivial⟩, hC, hO, hK, h0, hb2, hv4909x0, hv4915⟩
           ·skip
            refine c_condF (congrArg Value.bool hc4912) ?_
            refine wp_skip ?_
            refine c_region ?_
            refine pl_val (.int .i64 s4482.2.2) (y_move rfl) ?_
            refine pl_val (.int .i64 (w64 (s4482.2.2 + 1))) (y_add rfl rfl) ?_
            refine pl_val (.int .i64 (w64 (s4482.2.2 + 1))) (y_assign rfl) ?_
            refine c_nil ?_
            cases hs
            have hO := hO.fr1
            have hO := hO.fr1
            exact ⟨_, (Past (Past M4906 w4901 w4905) w4905 w4909), a4489, n4489, c4489, a4491, n4491, c4491, f4491, fr_ovl 96 ⟨rfl, rfl, rfl, rfl, rfl, trivial⟩, hC, hO, hK, h0, hb2, hv4489, hv4491⟩
          ·skip
           have hO := hO.fr1
           obtain ⟨M4919, f4919, hs4919, hk4919, hO, hv4919⟩ := os_inner (Frz.os Frz.int) hv4788 hO
           have h0 := h0.sub (M' := M4919) hs4919
           have hv4489 := hv4489.sub (M' := M4919) hs4919
           have hv4491 := hv4491.sub (M' := M4919) hs4919
           have hv4713 := hv4713.sub (M' := M4919) hs4919
           have hv4895 := hv4895.sub (M' := M4919) hs4919
           have hK := hK.trans hk4919
           obtain ⟨y4719, hy4719, hs⟩ := bind_some hs
           obtain ⟨a4918, n4918, c4918, w4918, f4918, hr4918, hC4918, hf4918, hv4918⟩ := app_rs Rw49 hy4719 hv4919 hv4713 hO.inM
           have hG4918 := os_block hv4919
           refine xk_val (w' := w4918) (b := true) (.slice a4918 n4918 c4918) rfl  (y_append rfl rfl (hr4918 _)) rfl (fun h => nomatch h) ?_
           have h0 := h0.mut hC4918 (fun g hg => hO.inM g (hG4918 g hg)) (fun _ _ h => nomatch h)
           have hb2 := hb2.chg hC4918 (fun hg => hO.apart _ (hG4918 _ hg) (mem_r (mem_r (mem_l (List.mem_singleton.2 rfl)))))
           have hv4489 := hv4489.mut hC4918 (fun g hg => hO.inM g (hG4918 g hg)) (fun _ _ h => nomatch h)
           have hv4491 := hv4491.mut hC4918 (fun g hg => hO.inM g (hG4918 g hg)) (fun g hg e => hO.apart g (hG4918 g hg) (mem_r (mem_l (e))))
           have hv4713 := hv4713.mut hC4918 (fun g hg => hO.inM g (hG4918 g hg)) (fun _ _ h => nomatch h)
           have hv4895 := hv4895.mut hC4918 (fun g hg => hO.inM g (hG4918 g hg)) (fun g hg e => hO.apart g (hG4918 g hg) (mem_l (e)))
           have hC := hC.step hC4918 (fun g hg => hO.inN g (hG4918 g hg))
           have hO := hO.grow hC4918 hf4918 (os_nodup hv4918) hv4918.fpl
           refine x_two (i := 0) (j := 9) (by kernel_rfl) ?_ ?_
           ·skip
            refine xk_val (b := true) (.agg #[(.int .i64 a_.1), (.slice pa0 pn0 pc0)]) rfl  (y_load rfl ((box_load Ag34 Sz34 hb2 [] [(.int .i64 a_.1), (.slice pa0 pn0 pc0)] [] rfl rfl (fun h => nomatch h)) _ (Chg.refl _ _))) rfl (fun h => nomatch h) ?_
            refine x_one (i := 9) (by kernel_rfl) ?_
            have hO := hO.fr1
            obtain ⟨M4923, f4923, hs4923, hk4923, hO, hv4923⟩ := os_inner (Frz.os Frz.int) hv4895 hO
            have h0 := h0.sub (M' := M4923) hs4923
            have hv4489 := hv4489.sub (M' := M4923) hs4923
            have hv4491 := hv4491.sub (M' := M4923) hs4923
            have hv4713 := hv4713.sub (M' := M4923) hs4923
            have hv4918 := hv4918.sub (M' := M4923) hs4923
            have hK := hK.trans hk4923
            obtain ⟨y4725, hy4725, hs⟩ := bind_some hs
            have hO := hO.fr1
            obtain ⟨a4922, n4922, c4922, w4922, f4922, hr4922, hC4922, hf4922, hv4922⟩ := app_os Rw49 hy4725 hv4918 hv4923 hO.inM (fun g hg hq => hO.apart g hq (mem_l hg))
            have hG4922 := os_block hv4918
            refine xk_val (w' := w4922) (b := true) (.slice a4922 n4922 c4922) rfl  (y_append rfl rfl (hr4922 _)) rfl (fun h => nomatch h) ?_
            have hO := hO.fr1
            have hO := hO.fr1
            have h0 := h0.mut hC4922 (fun g hg => hO.inM g (hG4922 g hg)) (fun _ _ h => nomatch h)
            have hb2 := hb2.chg hC4922 (fun hg => hO.apart _ (hG4922 _ hg) (mem_r (mem_r (mem_l (List.mem_singleton.2 rfl)))))
            have hv4489 := hv4489.mut hC4922 (fun g hg => hO.inM g (hG4922 g hg)) (fun _ _ h => nomatch h)
            have hv4491 := hv4491.mut hC4922 (fun g hg => hO.inM g (hG4922 g hg)) (fun g hg e => hO.apart g (hG4922 g hg) (mem_r (mem_l (e))))
            have hv4713 := hv4713.mut hC4922 (fun g hg => hO.inM g (hG4922 g hg)) (fun _ _ h => nomatch h)
            have hC := hC.step hC4922 (fun g hg => hO.inN g (hG4922 g hg))
            have hO := hO.eat hC4922 hf4922 (os_nodup hv4922) hv4922.fpl
            refine x_one (i := 10) (by kernel_rfl) ?_
            obtain ⟨M4927, eM4927, hs4927, hk4927, hO, hv4927⟩ := frz_own (Frz.os (Frz.rs Frz.int)) hv4922 hO
            have h0 := h0.sub (M' := M4927) hs4927
            have hv4489 := hv4489.sub (M' := M4927) hs4927
            have hv4491 := hv4491.sub (M' := M4927) hs4927
            have hv4713 := hv4713.sub (M' := M4927) hs4927
            have hK := hK.trans hk4927
            obtain ⟨r4729, hr4729, hs⟩ := bind_some hs
            refine xk_call (b := true) rfl  Bd69 rfl (c_spec_l8Close (M := M4927) (a_.1, a_.2) 2 y4725 h0 hv4927 hO.fut hr4729) rfl (fun h => nomatch h) ?_
            rintro _ w4926 ⟨a4926x0, n4926x0, c4926x0, rfl, hC4926, hv4926x0⟩
            have hK := hK.trans (show Keeps w M4927 (Past M4927 w4922 w4926) from Keeps.past hC.size)
            have h0 := h0.ext hC4926
            have hb2 := hb2.chg hC4926 (fun h => nomatch h)
            have hv4489 := hv4489.ext hC4926
            have hv4491 := hv4491.ext hC4926
            have hv4713 := hv4713.ext hC4926
            have hv4927 := hv4927.ext hC4926
            have hC := hC.ext hC4926
            have hO := hO.past hC4926
            have h0 := h0.sub (M' := (Past M4927 w4922 w4926)) (fun g hg => .inl hg.1)
            have hv4489 := hv4489.sub (M' := (Past M4927 w4922 w4926)) (fun g hg => .inl hg.1)
            have hv4491 := hv4491.sub (M' := (Past M4927 w4922 w4926)) (fun g hg => .inl hg.1)
            have hv4713 := hv4713.sub (M' := (Past M4927 w4922 w4926)) (fun g hg => .inl hg.1)
            have hv4927 := hv4927.sub (M' := (Past M4927 w4922 w4926)) (fun g hg => .inl hg.1)
            refine x_p 11 (.tuple #[(.slice a4926x0 n4926x0 c4926x0), (.bool r4729.2)]) rfl (by kernel_rfl)  (fun _ => y_move rfl) (fun h => nomatch h) ?_
            refine x_p 12 (.slice a4926x0 n4926x0 c4926x0) rfl (by kernel_rfl)  (fun _ => y_extract rfl (by kernel_rfl)) (fun h => nomatch h) ?_
            refine x_p 13 (.bool r4729.2) rfl (by kernel_rfl)  (fun _ => y_extract rfl (by kernel_rfl)) (fun h => nomatch h) ?_
            refine x_p 14 (.slice a4926x0 n4926x0 c4926x0) rfl (by kernel_rfl)  (fun _ => y_assign rfl) (fun h => nomatch h) ?_
            refine x_p 15 (.bool r4729.2) rfl (by kernel_rfl)  (fun _ => y_assign rfl) (fun h => nomatch h) ?_
            refine x_end (by kernel_rfl) ?_
            clear hS
            refine c_seq (c_region ?_)
            refine pl_val (.slice a4489 n4489 c4489) (y_move rfl) ?_
            refine pl_val (.slice a4926x0 n4926x0 c4926x0) (y_move rfl) ?_
            obtain ⟨r4732, hr4732, hs⟩ := bind_some hs
            refine pl_call Bd72 rfl (c_spec_l18Put (M := (Past M4927 w4922 w4926)) s4482.1 r4729.1 hv4489 hv4926x0 hO.fut hr4732) ?_
            rintro _ w4930 ⟨a4930x0, n4930x0, c4930x0, rfl, hC4930, hv4930x0⟩
            have hK := hK.trans (show Keeps w (Past M4927 w4922 w4926) (Past (Past M4927 w4922 w4926) w4926 w4930) from Keeps.past hC.size)
            have h0 := h0.ext hC4930
            have hb2 := hb2.chg hC4930 (fun h => nomatch h)
            have hv4489 := hv4489.ext hC4930
            have hv4491 := hv4491.ext hC4930
            have hv4713 := hv4713.ext hC4930
            have hv4927 := hv4927.ext hC4930
            have hv4926x0 := hv4926x0.ext hC4930
            have hC := hC.ext hC4930
            have hO := hO.past hC4930
            have h0 := h0.sub (M' := (Past (Past M4927 w4922 w4926) w4926 w4930)) (fun g hg => .inl hg.1)
            have hv4489 := hv4489.sub (M' := (Past (Past M4927 w4922 w4926) w4926 w4930)) (fun g hg => .inl hg.1)
            have hv4491 := hv4491.sub (M' := (Past (Past M4927 w4922 w4926) w4926 w4930)) (fun g hg => .inl hg.1)
            have hv4713 := hv4713.sub (M' := (Past (Past M4927 w4922 w4926) w4926 w4930)) (fun g hg => .inl hg.1)
            have hv4927 := hv4927.sub (M' := (Past (Past M4927 w4922 w4926) w4926 w4930)) (fun g hg => .inl hg.1)
            have hv4926x0 := hv4926x0.sub (M' := (Past (Past M4927 w4922 w4926) w4926 w4930)) (fun g hg => .inl hg.1)
            refine pl_val (.slice a4930x0 n4930x0 c4930x0) (y_assign rfl) ?_
            refine c_nil ?_
            refine c_seq (c_region ?_)
            refine pl_val (.slice a4930x0 n4930x0 c4930x0) (y_move rfl) ?_
            refine pl_val (.int .i64 (r4732.length : Int)) (y_len' Sl59 (rs_len hv4930x0) rfl) ?_
            refine pl_val (.slice a4489 n4489 c4489) (y_move rfl) ?_
            refine pl_val (.int .i64 (s4482.1.length : Int)) (y_len' Sl59 (rs_len hv4489) rfl) ?_
            refine pl_val (.bool (decide ((s4482.1.length : Int) < (r4732.length : Int)))) (y_gtr rfl rfl) ?_
            refine c_nil ?_
            rcases bif_some hs with ⟨hc4933, hs⟩ | ⟨hc4933, hs⟩
            ·skip
             refine c_condT (congrArg Value.bool hc4933) ?_
             refine c_seq (c_region ?_)
             refine pl_val (.slice a4930x0 n4930x0 c4930x0) (y_move rfl) ?_
             refine pl_val (.slice a4930x0 n4930x0 c4930x0) (y_assign rfl) ?_
             refine c_nil ?_
             refine c_region ?_
             refine pl_val (.slice a4491 n4491 c4491) (y_move rfl) ?_
             refine pl_val (.slice a4926x0 n4926x0 c4926x0) (y_move rfl) ?_
             obtain ⟨w4934, g4934, ew4934, eg4934, hC4934, hb4934⟩ := new_block w4930 [(.slice a4926x0 n4926x0 c4926x0)] 49
             refine pl_val (w' := w4934) (.slice (some ⟨g4934, 0, none⟩) 1 1) (y_bslice rfl (by rw [ew4934, eg4934]; kernel_rfl)) ?_
             have h0 := h0.ext hC4934
             have hb2 := hb2.chg hC4934 (fun h => nomatch h)
             have hv4491 := hv4491.ext hC4934
             have hv4926x0 := hv4926x0.ext hC4934
             have hv4930x0 := hv4930x0.ext hC4934
             have hC := hC.ext hC4934
             have hO := hO.new1 hC4934 eg4934 hb4934.lt
             have hv4934 := os_of_box (r := (RT.rs (RT.rs (RT.int .i64)))) (M := (Past (Past M4927 w4922 w4926) w4926 w4930)) (css := [[(.slice a4926x0 n4926x0 c4926x0)]]) (fps := [([] : List Nat)]) (xs := ([r4729.1] : List (List (List Int)))) hb4934 ⟨(rs_unval hv4926x0), trivial⟩ (Nat.le_of_ble_eq_true rfl) (List.nodup_cons.2 ⟨(fun h => nomatch h), List.nodup_nil⟩)
             have hv4934 : (RT.os 49 (RT.rs (RT.rs (RT.int .i64)))).val (Past (Past M4927 w4922 w4926) w4926 w4930) w4934 (.slice (some ⟨g4934, 0, none⟩) 1 1) [r4729.1] [g4934] := hv4934
             obtain ⟨y4937, hy4937, hs⟩ := bind_some hs
             have hO := hO.fr1
             obtain ⟨a4936, n4936, c4936, w4936, f4936, hr4936, hC4936, hf4936, hv4936⟩ := app_os Rw59 hy4937 hv4491 hv4934 hO.inM (fun g hg hq => hO.apart g hq (mem_l hg))
             have hG4936 := os_block hv4491
             refine pl_val (w' := w4936) (.slice a4936 n4936 c4936) (y_append rfl rfl (hr4936 _)) ?_
             have hO := hO.fr1
             have hO := hO.fr1
             have h0 := h0.mut hC4936 (fun g hg => hO.inM g (hG4936 g hg)) (fun _ _ h => nomatch h)
             have hb2 := hb2.chg hC4936 (fun hg => hO.apart _ (hG4936 _ hg) (mem_r (mem_l (List.mem_singleton.2 rfl))))
             have hv4926x0 := hv4926x0.mut hC4936 (fun g hg => hO.inM g (hG4936 g hg)) (fun _ _ h => nomatch h)
             have hv4930x0 := hv4930x0.mut hC4936 (fun g hg => hO.inM g (hG4936 g hg)) (fun _ _ h => nomatch h)
             have hC := hC.step hC4936 (fun g hg => hO.inN g (hG4936 g hg))
             have hO := hO.eat hC4936 hf4936 (os_nodup hv4936) hv4936.fpl
             refine pl_val (.slice a4936 n4936 c4936) (y_assign rfl) ?_
             refine c_nil ?_
             refine c_region ?_
             refine pl_val (.int .i64 s4482.2.2) (y_move rfl) ?_
             refine pl_val (.int .i64 (w64 (s4482.2.2 + 1))) (y_add rfl rfl) ?_
             refine pl_val (.int .i64 (w64 (s4482.2.2 + 1))) (y_assign rfl) ?_
             refine c_nil ?_
             cases hs
             have hO := hO.fr1
             have hO := hO.fr1
             exact ⟨_, (Past (Past M4927 w4922 w4926) w4926 w4930), a4930x0, n4930x0, c4930x0, a4936, n4936, c4936, f4936, fr_ovl 96 ⟨rfl, rfl, rfl, rfl, rfl, trivial⟩, hC, hO, hK, h0, hb2, hv4930x0, hv4936⟩
            ·skip
             refine c_condF (congrArg Value.bool hc4933) ?_
             refine wp_skip ?_
             refine c_region ?_
             refine pl_val (.int .i64 s4482.2.2) (y_move rfl) ?_
             refine pl_val (.int .i64 (w64 (s4482.2.2 + 1))) (y_add rfl rfl) ?_
             refine pl_val (.int .i64 (w64 (s4482.2.2 + 1))) (y_assign rfl) ?_
             refine c_nil ?_
             cases hs
             have hO := hO.fr1
             have hO := hO.fr1
             exact ⟨_, (Past (Past M4927 w4922 w4926) w4926 w4930), a4489, n4489, c4489, a4491, n4491, c4491, f4491, fr_ovl 96 ⟨rfl, rfl, rfl, rfl, rfl, trivial⟩, hC, hO, hK, h0, hb2, hv4489, hv4491⟩
           ·skip
            have hO := hO.fr1
            obtain ⟨M4940, f4940, hs4940, hk4940, hO, hv4940⟩ := os_inner (Frz.os Frz.int) hv4895 hO
            have h0 := h0.sub (M' := M4940) hs4940
            have hv4489 := hv4489.sub (M' := M4940) hs4940
            have hv4491 := hv4491.sub (M' := M4940) hs4940
            have hv4713 := hv4713.sub (M' := M4940) hs4940
            have hv4918 := hv4918.sub (M' := M4940) hs4940
            have hK := hK.trans hk4940
            obtain ⟨y4725, hy4725, hs⟩ := bind_some hs
            have hO := hO.fr1
            obtain ⟨a4939, n4939, c4939, w4939, f4939, hr4939, hC4939, hf4939, hv4939⟩ := app_os Rw49 hy4725 hv4918 hv4940 hO.inM (fun g hg hq => hO.apart g hq (mem_l hg))
            have hG4939 := os_block hv4918
            refine xk_val (w' := w4939) (b := true) (.slice a4939 n4939 c4939) rfl  (y_append rfl rfl (hr4939 _)) rfl (fun h => nomatch h) ?_
            have hO := hO.fr1
            have hO := hO.fr1
            have h0 := h0.mut hC4939 (fun g hg => hO.inM g (hG4939 g hg)) (fun _ _ h => nomatch h)
            have hb2 := hb2.chg hC4939 (fun hg => hO.apart _ (hG4939 _ hg) (mem_r (mem_r (mem_l (List.mem_singleton.2 rfl)))))
            have hv4489 := hv4489.mut hC4939 (fun g hg => hO.inM g (hG4939 g hg)) (fun _ _ h => nomatch h)
            have hv4491 := hv4491.mut hC4939 (fun g hg => hO.inM g (hG4939 g hg)) (fun g hg e => hO.apart g (hG4939 g hg) (mem_r (mem_l (e))))
            have hv4713 := hv4713.mut hC4939 (fun g hg => hO.inM g (hG4939 g hg)) (fun _ _ h => nomatch h)
            have hC := hC.step hC4939 (fun g hg => hO.inN g (hG4939 g hg))
            have hO := hO.eat hC4939 hf4939 (os_nodup hv4939) hv4939.fpl
            refine x_one (i := 0) (by kernel_rfl) ?_
            refine xk_val (b := true) (.agg #[(.int .i64 a_.1), (.slice pa0 pn0 pc0)]) rfl  (y_load rfl ((box_load Ag34 Sz34 hb2 [] [(.int .i64 a_.1), (.slice pa0 pn0 pc0)] [] rfl rfl (fun h => nomatch h)) _ (Chg.refl _ _))) rfl (fun h => nomatch h) ?_
            refine x_one (i := 10) (by kernel_rfl) ?_
            obtain ⟨M4944, eM4944, hs4944, hk4944, hO, hv4944⟩ := frz_own (Frz.os (Frz.rs Frz.int)) hv4939 hO
            have h0 := h0.sub (M' := M4944) hs4944
            have hv4489 := hv4489.sub (M' := M4944) hs4944
            have hv4491 := hv4491.sub (M' := M4944) hs4944
            have hv4713 := hv4713.sub (M' := M4944) hs4944
            have hK := hK.trans hk4944
            obtain ⟨r4729, hr4729, hs⟩ := bind_some hs
            refine xk_call (b := true) rfl  Bd69 rfl (c_spec_l8Close (M := M4944) (a_.1, a_.2) 2 y4725 h0 hv4944 hO.fut hr4729) rfl (fun h => nomatch h) ?_
            rintro _ w4943 ⟨a4943x0, n4943x0, c4943x0, rfl, hC4943, hv4943x0⟩
            have hK := hK.trans (show Keeps w M4944 (Past M4944 w4939 w4943) from Keeps.past hC.size)
            have h0 := h0.ext hC4943
            have hb2 := hb2.chg hC4943 (fun h => nomatch h)
            have hv4489 := hv4489.ext hC4943
            have hv4491 := hv4491.ext hC4943
            have hv4713 := hv4713.ext hC4943
            have hv4944 := hv4944.ext hC4943
            have hC := hC.ext hC4943
            have hO := hO.past hC4943
            have h0 := h0.sub (M' := (Past M4944 w4939 w4943)) (fun g hg => .inl hg.1)
            have hv4489 := hv4489.sub (M' := (Past M4944 w4939 w4943)) (fun g hg => .inl hg.1)
            have hv4491 := hv4491.sub (M' := (Past M4944 w4939 w4943)) (fun g hg => .inl hg.1)
            have hv4713 := hv4713.sub (M' := (Past M4944 w4939 w4943)) (fun g hg => .inl hg.1)
            have hv4944 := hv4944.sub (M' := (Past M4944 w4939 w4943)) (fun g hg => .inl hg.1)
            refine x_p 11 (.tuple #[(.slice a4943x0 n4943x0 c4943x0), (.bool r4729.2)]) rfl (by kernel_rfl)  (fun _ => y_move rfl) (fun h => nomatch h) ?_
            refine x_p 12 (.slice a4943x0 n4943x0 c4943x0) rfl (by kernel_rfl)  (fun _ => y_extract rfl (by kernel_rfl)) (fun h => nomatch h) ?_
            refine x_p 13 (.bool r4729.2) rfl (by kernel_rfl)  (fun _ => y_extract rfl (by kernel_rfl)) (fun h => nomatch h) ?_
            refine x_p 14 (.slice a4943x0 n4943x0 c4943x0) rfl (by kernel_rfl)  (fun _ => y_assign rfl) (fun h => nomatch h) ?_
            refine x_p 15 (.bool r4729.2) rfl (by kernel_rfl)  (fun _ => y_assign rfl) (fun h => nomatch h) ?_
            refine x_end (by kernel_rfl) ?_
            clear hS
            refine c_seq (c_region ?_)
            refine pl_val (.slice a4489 n4489 c4489) (y_move rfl) ?_
            refine pl_val (.slice a4943x0 n4943x0 c4943x0) (y_move rfl) ?_
            obtain ⟨r4732, hr4732, hs⟩ := bind_some hs
            refine pl_call Bd72 rfl (c_spec_l18Put (M := (Past M4944 w4939 w4943)) s4482.1 r4729.1 hv4489 hv4943x0 hO.fut hr4732) ?_
            rintro _ w4947 ⟨a4947x0, n4947x0, c4947x0, rfl, hC4947, hv4947x0⟩
            have hK := hK.trans (show Keeps w (Past M4944 w4939 w4943) (Past (Past M4944 w4939 w4943) w4943 w4947) from Keeps.past hC.size)
            have h0 := h0.ext hC4947
            have hb2 := hb2.chg hC4947 (fun h => nomatch h)
            have hv4489 := hv4489.ext hC4947
            have hv4491 := hv4491.ext hC4947
            have hv4713 := hv4713.ext hC4947
            have hv4944 := hv4944.ext hC4947
            have hv4943x0 := hv4943x0.ext hC4947
            have hC := hC.ext hC4947
            have hO := hO.past hC4947
            have h0 := h0.sub (M' := (Past (Past M4944 w4939 w4943) w4943 w4947)) (fun g hg => .inl hg.1)
            have hv4489 := hv4489.sub (M' := (Past (Past M4944 w4939 w4943) w4943 w4947)) (fun g hg => .inl hg.1)
            have hv4491 := hv4491.sub (M' := (Past (Past M4944 w4939 w4943) w4943 w4947)) (fun g hg => .inl hg.1)
            have hv4713 := hv4713.sub (M' := (Past (Past M4944 w4939 w4943) w4943 w4947)) (fun g hg => .inl hg.1)
            have hv4944 := hv4944.sub (M' := (Past (Past M4944 w4939 w4943) w4943 w4947)) (fun g hg => .inl hg.1)
            have hv4943x0 := hv4943x0.sub (M' := (Past (Past M4944 w4939 w4943) w4943 w4947)) (fun g hg => .inl hg.1)
            refine pl_val (.slice a4947x0 n4947x0 c4947x0) (y_assign rfl) ?_
            refine c_nil ?_
            refine c_seq (c_region ?_)
            refine pl_val (.slice a4947x0 n4947x0 c4947x0) (y_move rfl) ?_
            refine pl_val (.int .i64 (r4732.length : Int)) (y_len' Sl59 (rs_len hv4947x0) rfl) ?_
            refine pl_val (.slice a4489 n4489 c4489) (y_move rfl) ?_
            refine pl_val (.int .i64 (s4482.1.length : Int)) (y_len' Sl59 (rs_len hv4489) rfl) ?_
            refine pl_val (.bool (decide ((s4482.1.length : Int) < (r4732.length : Int)))) (y_gtr rfl rfl) ?_
            refine c_nil ?_
            rcases bif_some hs with ⟨hc4950, hs⟩ | ⟨hc4950, hs⟩
            ·skip
             refine c_condT (congrArg Value.bool hc4950) ?_
             refine c_seq (c_region ?_)
             refine pl_val (.slice a4947x0 n4947x0 c4947x0) (y_move rfl) ?_
             refine pl_val (.slice a4947x0 n4947x0 c4947x0) (y_assign rfl) ?_
             refine c_nil ?_
             refine c_region ?_
             refine pl_val (.slice a4491 n4491 c4491) (y_move rfl) ?_
             refine pl_val (.slice a4943x0 n4943x0 c4943x0) (y_move rfl) ?_
             obtain ⟨w4951, g4951, ew4951, eg4951, hC4951, hb4951⟩ := new_block w4947 [(.slice a4943x0 n4943x0 c4943x0)] 49
             refine pl_val (w' := w4951) (.slice (some ⟨g4951, 0, none⟩) 1 1) (y_bslice rfl (by rw [ew4951, eg4951]; kernel_rfl)) ?_
             have h0 := h0.ext hC4951
             have hb2 := hb2.chg hC4951 (fun h => nomatch h)
             have hv4491 := hv4491.ext hC4951
             have hv4943x0 := hv4943x0.ext hC4951
             have hv4947x0 := hv4947x0.ext hC4951
             have hC := hC.ext hC4951
             have hO := hO.new1 hC4951 eg4951 hb4951.lt
             have hv4951 := os_of_box (r := (RT.rs (RT.rs (RT.int .i64)))) (M := (Past (Past M4944 w4939 w4943) w4943 w4947)) (css := [[(.slice a4943x0 n4943x0 c4943x0)]]) (fps := [([] : List Nat)]) (xs := ([r4729.1] : List (List (List Int)))) hb4951 ⟨(rs_unval hv4943x0), trivial⟩ (Nat.le_of_ble_eq_true rfl) (List.nodup_cons.2 ⟨(fun h => nomatch h), List.nodup_nil⟩)
             have hv4951 : (RT.os 49 (RT.rs (RT.rs (RT.int .i64)))).val (Past (Past M4944 w4939 w4943) w4943 w4947) w4951 (.slice (some ⟨g4951, 0, none⟩) 1 1) [r4729.1] [g4951] := hv4951
             obtain ⟨y4954, hy4954, hs⟩ := bind_some hs
             have hO := hO.fr1
             obtain ⟨a4953, n4953, c4953, w4953, f4953, hr4953, hC4953, hf4953, hv4953⟩ := app_os Rw59 hy4954 hv4491 hv4951 hO.inM (fun g hg hq => hO.apart g hq (mem_l hg))
             have hG4953 := os_block hv4491
             refine pl_val (w' := w4953) (.slice a4953 n4953 c4953) (y_append rfl rfl (hr4953 _)) ?_
             have hO := hO.fr1
             have hO := hO.fr1
             have h0 := h0.mut hC4953 (fun g hg => hO.inM g (hG4953 g hg)) (fun _ _ h => nomatch h)
             have hb2 := hb2.chg hC4953 (fun hg => hO.apart _ (hG4953 _ hg) (mem_r (mem_l (List.mem_singleton.2 rfl))))
             have hv4943x0 := hv4943x0.mut hC4953 (fun g hg => hO.inM g (hG4953 g hg)) (fun _ _ h => nomatch h)
             have hv4947x0 := hv4947x0.mut hC4953 (fun g hg => hO.inM g (hG4953 g hg)) (fun _ _ h => nomatch h)
             have hC := hC.step hC4953 (fun g hg => hO.inN g (hG4953 g hg))
             have hO := hO.eat hC4953 hf4953 (os_nodup hv4953) hv4953.fpl
             refine pl_val (.slice a4953 n4953 c4953) (y_assign rfl) ?_
             refine c_nil ?_
             refine c_region ?_
             refine pl_val (.int .i64 s4482.2.2) (y_move rfl) ?_
             refine pl_val (.int .i64 (w64 (s4482.2.2 + 1))) (y_add rfl rfl) ?_
             refine pl_val (.int .i64 (w64 (s4482.2.2 + 1))) (y_assign rfl) ?_
             refine c_nil ?_
             cases hs
             have hO := hO.fr1
             have hO := hO.fr1
             exact ⟨_, (Past (Past M4944 w4939 w4943) w4943 w4947), a4947x0, n4947x0, c4947x0, a4953, n4953, c4953, f4953, fr_ovl 96 ⟨rfl, rfl, rfl, rfl, rfl, trivial⟩, hC, hO, hK, h0, hb2, hv4947x0, hv4953⟩
            ·skip
             refine c_condF (congrArg Value.bool hc4950) ?_
             refine wp_skip ?_
             refine c_region ?_
             refine pl_val (.int .i64 s4482.2.2) (y_move rfl) ?_
             refine pl_val (.int .i64 (w64 (s4482.2.2 + 1))) (y_add rfl rfl) ?_
             refine pl_val (.int .i64 (w64 (s4482.2.2 + 1))) (y_assign rfl) ?_
             refine c_nil ?_
             cases hs
             have hO := hO.fr1
             have hO := hO.fr1
             exact ⟨_, (Past (Past M4944 w4939 w4943) w4943 w4947), a4489, n4489, c4489, a4491, n4491, c4491, f4491, fr_ovl 96 ⟨rfl, rfl, rfl, rfl, rfl, trivial⟩, hC, hO, hK, h0, hb2, hv4489, hv4491⟩
        ·skip
         obtain ⟨w4956, g4956, ew4956, eg4956, hC4956, hb4956⟩ := new_block w4710 [(.slice a4503x0 n4503x0 c4503x0)] 25
         refine xk_val (w' := w4956) (b := false) (.slice (some ⟨g4956, 0, none⟩) 1 1) rfl  (y_bslice rfl (by rw [ew4956, eg4956]; kernel_rfl)) rfl (fun _ => hS.ext hC4956) ?_
         have h0 := h0.ext hC4956
         have hb2 := hb2.chg hC4956 (fun h => nomatch h)
         have hv4489 := hv4489.ext hC4956
         have hv4491 := hv4491.ext hC4956
         have hv4503x0 := hv4503x0.ext hC4956
         have hv4713 := hv4713.ext hC4956
         have hC := hC.ext hC4956
         have hO := hO.new1 hC4956 eg4956 hb4956.lt
         have hO := hO.perm (R := (g4956 :: ((f4503x0) ++ ([]))) ++ (f4491 ++ (([g2]) ++ ([])))) (by simp)
         have hnd4956 := hO.nd
         have hv4956 := os_of_box (r := (RT.os 3 (RT.int .i64))) (M := M4488) (css := [[(.slice a4503x0 n4503x0 c4503x0)]]) (fps := [(f4503x0 : List Nat)]) (xs := ([r4504] : List (List Int))) hb4956 ⟨(os_unval hv4503x0), trivial⟩ (Nat.le_of_ble_eq_true rfl) hnd4956
         have hv4956 : (RT.os 25 (RT.os 3 (RT.int .i64))).val M4488 w4956 (.slice (some ⟨g4956, 0, none⟩) 1 1) [r4504] (g4956 :: ((f4503x0) ++ ([]))) := hv4956
         have hS := hS.ext hC4956
         refine x_two (i := 0) (j := 1) (by kernel_rfl) ?_ ?_
         ·skip
          refine xk_val (b := false) (.agg #[(.int .i64 a_.1), (.slice pa0 pn0 pc0)]) rfl  (y_load rfl ((box_load Ag34 Sz34 hb2 [] [(.int .i64 a_.1), (.slice pa0 pn0 pc0)] [] rfl rfl (fun h => nomatch h)) _ (Chg.refl _ _))) rfl (fun _ => hS) ?_
          refine x_one (i := 1) (by kernel_rfl) ?_
          obtain ⟨w4958, g4958, ew4958, eg4958, hC4958, hb4958⟩ := new_block w4956 [] 25
          refine xk_val (w' := w4958) (b := false) (.slice (some ⟨g4958, 0, none⟩) 0 0) rfl  (y_bslice rfl (by rw [ew4958, eg4958]; kernel_rfl)) rfl (fun _ => hS.ext hC4958) ?_
          have h0 := h0.ext hC4958
          have hb2 := hb2.chg hC4958 (fun h => nomatch h)
          have hv4489 := hv4489.ext hC4958
          have hv4491 := hv4491.ext hC4958
          have hv4713 := hv4713.ext hC4958
          have hv4956 := hv4956.ext hC4958
          have hC := hC.ext hC4958
          have hO := hO.new1 hC4958 eg4958 hb4958.lt
          have hv4958 := os_of_box (r := (RT.os 3 (RT.int .i64))) (M := M4488) (css := []) (fps := []) (xs := ([] : List (List Int))) hb4958 trivial (Nat.zero_le _) (List.nodup_cons.2 ⟨(fun h => nomatch h), List.nodup_nil⟩)
          have hv4958 : (RT.os 25 (RT.os 3 (RT.int .i64))).val M4488 w4958 (.slice (some ⟨g4958, 0, none⟩) 0 0) [] [g4958] := hv4958
          have hS := hS.ext hC4958
          refine x_one (i := 6) (by kernel_rfl) ?_
          obtain ⟨M4961, f4961, hs4961, hk4961, hO, hv4961⟩ := os_inner (Frz.os Frz.int) hv4958 hO
          have h0 := h0.sub (M' := M4961) hs4961
          have hv4489 := hv4489.sub (M' := M4961) hs4961
          have hv4491 := hv4491.sub (M' := M4961) hs4961
          have hv4713 := hv4713.sub (M' := M4961) hs4961
          have hv4956 := hv4956.sub (M' := M4961) hs4961
          have hK := hK.trans hk4961
          obtain ⟨y4719, hy4719, hs⟩ := bind_some hs
          obtain ⟨a4960, n4960, c4960, w4960, f4960, hr4960, hC4960, hf4960, hv4960⟩ := app_rs Rw49 hy4719 hv4961 hv4713 hO.inM
          have hG4960 := os_block hv4961
          refine xk_val (w' := w4960) (b := true) (.slice a4960 n4960 c4960) rfl  (y_append rfl rfl (hr4960 _)) rfl (fun h => nomatch h) ?_
          have h0 := h0.mut hC4960 (fun g hg => hO.inM g (hG4960 g hg)) (fun _ _ h => nomatch h)
          have hb2 := hb2.chg hC4960 (fun hg => hO.apart _ (hG4960 _ hg) (mem_r (mem_r (mem_l (List.mem_singleton.2 rfl)))))
          have hv4489 := hv4489.mut hC4960 (fun g hg => hO.inM g (hG4960 g hg)) (fun _ _ h => nomatch h)
          have hv4491 := hv4491.mut hC4960 (fun g hg => hO.inM g (hG4960 g hg)) (fun g hg e => hO.apart g (hG4960 g hg) (mem_r (mem_l (e))))
          have hv4713 := hv4713.mut hC4960 (fun g hg => hO.inM g (hG4960 g hg)) (fun _ _ h => nomatch h)
          have hv4956 := hv4956.mut hC4960 (fun g hg => hO.inM g (hG4960 g hg)) (fun g hg e => hO.apart g (hG4960 g hg) (mem_l (e)))
          have hC := hC.step hC4960 (fun g hg => hO.inN g (hG4960 g hg))
          have hO := hO.grow hC4960 hf4960 (os_nodup hv4960) hv4960.fpl
          refine x_one (i := 9) (by kernel_rfl) ?_
          have hO := hO.fr1
          obtain ⟨M4965, f4965, hs4965, hk4965, hO, hv4965⟩ := os_inner (Frz.os Frz.int) hv4956 hO
          have h0 := h0.sub (M' := M4965) hs4965
          have hv4489 := hv4489.sub (M' := M4965) hs4965
          have hv4491 := hv4491.sub (M' := M4965) hs4965
          have hv4713 := hv4713.sub (M' := M4965) hs4965
          have hv4960 := hv4960.sub (M' := M4965) hs4965
          have hK := hK.trans hk4965
          obtain ⟨y4725, hy4725, hs⟩ := bind_some hs
          have hO := hO.fr1
          obtain ⟨a4964, n4964, c4964, w4964, f4964, hr4964, hC4964, hf4964, hv4964⟩ := app_os Rw49 hy4725 hv4960 hv4965 hO.inM (fun g hg hq => hO.apart g hq (mem_l hg))
          have hG4964 := os_block hv4960
          refine xk_val (w' := w4964) (b := true) (.slice a4964 n4964 c4964) rfl  (y_append rfl rfl (hr4964 _)) rfl (fun h => nomatch h) ?_
          have hO := hO.fr1
          have hO := hO.fr1
          have h0 := h0.mut hC4964 (fun g hg => hO.inM g (hG4964 g hg)) (fun _ _ h => nomatch h)
          have hb2 := hb2.chg hC4964 (fun hg => hO.apart _ (hG4964 _ hg) (mem_r (mem_r (mem_l (List.mem_singleton.2 rfl)))))
          have hv4489 := hv4489.mut hC4964 (fun g hg => hO.inM g (hG4964 g hg)) (fun _ _ h => nomatch h)
          have hv4491 := hv4491.mut hC4964 (fun g hg => hO.inM g (hG4964 g hg)) (fun g hg e => hO.apart g (hG4964 g hg) (mem_r (mem_l (e))))
          have hv4713 := hv4713.mut hC4964 (fun g hg => hO.inM g (hG4964 g hg)) (fun _ _ h => nomatch h)
          have hC := hC.step hC4964 (fun g hg => hO.inN g (hG4964 g hg))
          have hO := hO.eat hC4964 hf4964 (os_nodup hv4964) hv4964.fpl
          refine x_one (i := 10) (by kernel_rfl) ?_
          obtain ⟨M4969, eM4969, hs4969, hk4969, hO, hv4969⟩ := frz_own (Frz.os (Frz.rs Frz.int)) hv4964 hO
          have h0 := h0.sub (M' := M4969) hs4969
          have hv4489 := hv4489.sub (M' := M4969) hs4969
          have hv4491 := hv4491.sub (M' := M4969) hs4969
          have hv4713 := hv4713.sub (M' := M4969) hs4969
          have hK := hK.trans hk4969
          obtain ⟨r4729, hr4729, hs⟩ := bind_some hs
          refine xk_call (b := true) rfl  Bd69 rfl (c_spec_l8Close (M := M4969) (a_.1, a_.2) 2 y4725 h0 hv4969 hO.fut hr4729) rfl (fun h => nomatch h) ?_
          rintro _ w4968 ⟨a4968x0, n4968x0, c4968x0, rfl, hC4968, hv4968x0⟩
          have hK := hK.trans (show Keeps w M4969 (Past M4969 w4964 w4968) from Keeps.past hC.size)
          have h0 := h0.ext hC4968
          have hb2 := hb2.chg hC4968 (fun h => nomatch h)
          have hv4489 := hv4489.ext hC4968
          have hv4491 := hv4491.ext hC4968
          have hv4713 := hv4713.ext hC4968
          have hv4969 := hv4969.ext hC4968
          have hC := hC.ext hC4968
          have hO := hO.past hC4968
          have h0 := h0.sub (M' := (Past M4969 w4964 w4968)) (fun g hg => .inl hg.1)
          have hv4489 := hv4489.sub (M' := (Past M4969 w4964 w4968)) (fun g hg => .inl hg.1)
          have hv4491 := hv4491.sub (M' := (Past M4969 w4964 w4968)) (fun g hg => .inl hg.1)
          have hv4713 := hv4713.sub (M' := (Past M4969 w4964 w4968)) (fun g hg => .inl hg.1)
          have hv4969 := hv4969.sub (M' := (Past M4969 w4964 w4968)) (fun g hg => .inl hg.1)
          refine x_p 11 (.tuple #[(.slice a4968x0 n4968x0 c4968x0), (.bool r4729.2)]) rfl (by kernel_rfl)  (fun _ => y_move rfl) (fun h => nomatch h) ?_
          refine x_p 12 (.slice a4968x0 n4968x0 c4968x0) rfl (by kernel_rfl)  (fun _ => y_extract rfl (by kernel_rfl)) (fun h => nomatch h) ?_
          refine x_p 13 (.bool r4729.2) rfl (by kernel_rfl)  (fun _ => y_extract rfl (by kernel_rfl)) (fun h => nomatch h) ?_
          refine x_p 14 (.slice a4968x0 n4968x0 c4968x0) rfl (by kernel_rfl)  (fun _ => y_assign rfl) (fun h => nomatch h) ?_
          refine x_p 15 (.bool r4729.2) rfl (by kernel_rfl)  (fun _ => y_assign rfl) (fun h => nomatch h) ?_
          refine x_end (by kernel_rfl) ?_
          clear hS
          refine c_seq (c_region ?_)
          refine pl_val (.slice a4489 n4489 c4489) (y_move rfl) ?_
          refine pl_val (.slice a4968x0 n4968x0 c4968x0) (y_move rfl) ?_
          obtain ⟨r4732, hr4732, hs⟩ := bind_some hs
          refine pl_call Bd72 rfl (c_spec_l18Put (M := (Past M4969 w4964 w4968)) s4482.1 r4729.1 hv4489 hv4968x0 hO.fut hr4732) ?_
          rintro _ w4972 ⟨a4972x0, n4972x0, c4972x0, rfl, hC4972, hv4972x0⟩
          have hK := hK.trans (show Keeps w (Past M4969 w4964 w4968) (Past (Past M4969 w4964 w4968) w4968 w4972) from Keeps.past hC.size)
          have h0 := h0.ext hC4972
          have hb2 := hb2.chg hC4972 (fun h => nomatch h)
          have hv4489 := hv4489.ext hC4972
          have hv4491 := hv4491.ext hC4972
          have hv4713 := hv4713.ext hC4972
          have hv4969 := hv4969.ext hC4972
          have hv4968x0 := hv4968x0.ext hC4972
          have hC := hC.ext hC4972
          have hO := hO.past hC4972
          have h0 := h0.sub (M' := (Past (Past M4969 w4964 w4968) w4968 w4972)) (fun g hg => .inl hg.1)
          have hv4489 := hv4489.sub (M' := (Past (Past M4969 w4964 w4968) w4968 w4972)) (fun g hg => .inl hg.1)
          have hv4491 := hv4491.sub (M' := (Past (Past M4969 w4964 w4968) w4968 w4972)) (fun g hg => .inl hg.1)
          have hv4713 := hv4713.sub (M' := (Past (Past M4969 w4964 w4968) w4968 w4972)) (fun g hg => .inl hg.1)
          have hv4969 := hv4969.sub (M' := (Past (Past M4969 w4964 w4968) w4968 w4972)) (fun g hg => .inl hg.1)
          have hv4968x0 := hv4968x0.sub (M' := (Past (Past M4969 w4964 w4968) w4968 w4972)) (fun g hg => .inl hg.1)
          refine pl_val (.slice a4972x0 n4972x0 c4972x0) (y_assign rfl) ?_
          refine c_nil ?_
          refine c_seq (c_region ?_)
          refine pl_val (.slice a4972x0 n4972x0 c4972x0) (y_move rfl) ?_
          refine pl_val (.int .i64 (r4732.length : Int)) (y_len' Sl59 (rs_len hv4972x0) rfl) ?_
          refine pl_val (.slice a4489 n4489 c4489) (y_move rfl) ?_
          refine pl_val (.int .i64 (s4482.1.length : Int)) (y_len' Sl59 (rs_len hv4489) rfl) ?_
          refine pl_val (.bool (decide ((s4482.1.length : Int) < (r4732.length : Int)))) (y_gtr rfl rfl) ?_
          refine c_nil ?_
          rcases bif_some hs with ⟨hc4975, hs⟩ | ⟨hc4975, hs⟩
          ·skip
           refine c_condT (congrArg Value.bool hc4975) ?_
           refine c_seq (c_region ?_)
           refine pl_val (.slice a4972x0 n4972x0 c4972x0) (y_move rfl) ?_
           refine pl_val (.slice a4972x0 n4972x0 c4972x0) (y_assign rfl) ?_
           refine c_nil ?_
           refine c_region ?_
           refine pl_val (.slice a4491 n4491 c4491) (y_move rfl) ?_
           refine pl_val (.slice a4968x0 n4968x0 c4968x0) (y_move rfl) ?_
           obtain ⟨w4976, g4976, ew4976, eg4976, hC4976, hb4976⟩ := new_block w4972 [(.slice a4968x0 n4968x0 c4968x0)] 49
           refine pl_val (w' := w4976) (.slice (some ⟨g4976, 0, none⟩) 1 1) (y_bslice rfl (by rw [ew4976, eg4976]; kernel_rfl)) ?_
           have h0 := h0.ext hC4976
           have hb2 := hb2.chg hC4976 (fun h => nomatch h)
           have hv4491 := hv4491.ext hC4976
           have hv4968x0 := hv4968x0.ext hC4976
           have hv4972x0 := hv4972x0.ext hC4976
           have hC := hC.ext hC4976
           have hO := hO.new1 hC4976 eg4976 hb4976.lt
           have hv4976 := os_of_box (r := (RT.rs (RT.rs (RT.int .i64)))) (M := (Past (Past M4969 w4964 w4968) w4968 w4972)) (css := [[(.slice a4968x0 n4968x0 c4968x0)]]) (fps := [([] : List Nat)]) (xs := ([r4729.1] : List (List (List Int)))) hb4976 ⟨(rs_unval hv4968x0), trivial⟩ (Nat.le_of_ble_eq_true rfl) (List.nodup_cons.2 ⟨(fun h => nomatch h), List.nodup_nil⟩)
           have hv4976 : (RT.os 49 (RT.rs (RT.rs (RT.int .i64)))).val (Past (Past M4969 w4964 w4968) w4968 w4972) w4976 (.slice (some ⟨g4976, 0, none⟩) 1 1) [r4729.1] [g4976] := hv4976
           obtain ⟨y4979, hy4979, hs⟩ := bind_some hs
           have hO := hO.fr1
           obtain ⟨a4978, n4978, c4978, w4978, f4978, hr4978, hC4978, hf4978, hv4978⟩ := app_os Rw59 hy4979 hv4491 hv4976 hO.inM (fun g hg hq => hO.apart g hq (mem_l hg))
           have hG4978 := os_block hv4491
           refine pl_val (w' := w4978) (.slice a4978 n4978 c4978) (y_append rfl rfl (hr4978 _)) ?_
           have hO := hO.fr1
           have hO := hO.fr1
           have h0 := h0.mut hC4978 (fun g hg => hO.inM g (hG4978 g hg)) (fun _ _ h => nomatch h)
           have hb2 := hb2.chg hC4978 (fun hg => hO.apart _ (hG4978 _ hg) (mem_r (mem_l (List.mem_singleton.2 rfl))))
           have hv4968x0 := hv4968x0.mut hC4978 (fun g hg => hO.inM g (hG4978 g hg)) (fun _ _ h => nomatch h)
           have hv4972x0 := hv4972x0.mut hC4978 (fun g hg => hO.inM g (hG4978 g hg)) (fun _ _ h => nomatch h)
           have hC := hC.step hC4978 (fun g hg => hO.inN g (hG4978 g hg))
           have hO := hO.eat hC4978 hf4978 (os_nodup hv4978) hv4978.fpl
           refine pl_val (.slice a4978 n4978 c4978) (y_assign rfl) ?_
           refine c_nil ?_
           refine c_region ?_
           refine pl_val (.int .i64 s4482.2.2) (y_move rfl) ?_
           refine pl_val (.int .i64 (w64 (s4482.2.2 + 1))) (y_add rfl rfl) ?_
           refine pl_val (.int .i64 (w64 (s4482.2.2 + 1))) (y_assign rfl) ?_
           refine c_nil ?_
           cases hs
           have hO := hO.fr1
           have hO := hO.fr1
           exact ⟨_, (Past (Past M4969 w4964 w4968) w4968 w4972), a4972x0, n4972x0, c4972x0, a4978, n4978, c4978, f4978, fr_ovl 96 ⟨rfl, rfl, rfl, rfl, rfl, trivial⟩, hC, hO, hK, h0, hb2, hv4972x0, hv4978⟩
          ·skip
           refine c_condF (congrArg Value.bool hc4975) ?_
           refine wp_skip ?_
           refine c_region ?_
           refine pl_val (.int .i64 s4482.2.2) (y_move rfl) ?_
           refine pl_val (.int .i64 (w64 (s4482.2.2 + 1))) (y_add rfl rfl) ?_
           refine pl_val (.int .i64 (w64 (s4482.2.2 + 1))) (y_assign rfl) ?_
           refine c_nil ?_
           cases hs
           have hO := hO.fr1
           have hO := hO.fr1
           exact ⟨_, (Past (Past M4969 w4964 w4968) w4968 w4972), a4489, n4489, c4489, a4491, n4491, c4491, f4491, fr_ovl 96 ⟨rfl, rfl, rfl, rfl, rfl, trivial⟩, hC, hO, hK, h0, hb2, hv4489, hv4491⟩
         ·skip
          obtain ⟨w4981, g4981, ew4981, eg4981, hC4981, hb4981⟩ := new_block w4956 [] 25
          refine xk_val (w' := w4981) (b := false) (.slice (some ⟨g4981, 0, none⟩) 0 0) rfl  (y_bslice rfl (by rw [ew4981, eg4981]; kernel_rfl)) rfl (fun _ => hS.ext hC4981) ?_
          have h0 := h0.ext hC4981
          have hb2 := hb2.chg hC4981 (fun h => nomatch h)
          have hv4489 := hv4489.ext hC4981
          have hv4491 := hv4491.ext hC4981
          have hv4713 := hv4713.ext hC4981
          have hv4956 := hv4956.ext hC4981
          have hC := hC.ext hC4981
          have hO := hO.new1 hC4981 eg4981 hb4981.lt
          have hv4981 := os_of_box (r := (RT.os 3 (RT.int .i64))) (M := M4488) (css := []) (fps := []) (xs := ([] : List (List Int))) hb4981 trivial (Nat.zero_le _) (List.nodup_cons.2 ⟨(fun h => nomatch h), List.nodup_nil⟩)
          have hv4981 : (RT.os 25 (RT.os 3 (RT.int .i64))).val M4488 w4981 (.slice (some ⟨g4981, 0, none⟩) 0 0) [] [g4981] := hv4981
          have hS := hS.ext hC4981
          refine x_two (i := 0) (j := 6) (by kernel_rfl) ?_ ?_
          ·skip
           refine xk_val (b := false) (.agg #[(.int .i64 a_.1), (.slice pa0 pn0 pc0)]) rfl  (y_load rfl ((box_load Ag34 Sz34 hb2 [] [(.int .i64 a_.1), (.slice pa0 pn0 pc0)] [] rfl rfl (fun h => nomatch h)) _ (Chg.refl _ _))) rfl (fun _ => hS) ?_
           refine x_one (i := 6) (by kernel_rfl) ?_
           obtain ⟨M4984, f4984, hs4984, hk4984, hO, hv4984⟩ := os_inner (Frz.os Frz.int) hv4981 hO
           have h0 := h0.sub (M' := M4984) hs4984
           have hv4489 := hv4489.sub (M' := M4984) hs4984
           have hv4491 := hv4491.sub (M' := M4984) hs4984
           have hv4713 := hv4713.sub (M' := M4984) hs4984
           have hv4956 := hv4956.sub (M' := M4984) hs4984
           have hK := hK.trans hk4984
           obtain ⟨y4719, hy4719, hs⟩ := bind_some hs
           obtain ⟨a4983, n4983, c4983, w4983, f4983, hr4983, hC4983, hf4983, hv4983⟩ := app_rs Rw49 hy4719 hv4984 hv4713 hO.inM
           have hG4983 := os_block hv4984
           refine xk_val (w' := w4983) (b := true) (.slice a4983 n4983 c4983) rfl  (y_append rfl rfl (hr4983 _)) rfl (fun h => nomatch h) ?_
           have h0 := h0.mut hC4983 (fun g hg => hO.inM g (hG4983 g hg)) (fun _ _ h => nomatch h)
           have hb2 := hb2.chg hC4983 (fun hg => hO.apart _ (hG4983 _ hg) (mem_r (mem_r (mem_l (List.mem_singleton.2 rfl)))))
           have hv4489 := hv4489.mut hC4983 (fun g hg => hO.inM g (hG4983 g hg)) (fun _ _ h => nomatch h)
           have hv4491 := hv4491.mut hC4983 (fun g hg => hO.inM g (hG4983 g hg)) (fun g hg e => hO.apart g (hG4983 g hg) (mem_r (mem_l (e))))
           have hv4713 := hv4713.mut hC4983 (fun g hg => hO.inM g (hG4983 g hg)) (fun _ _ h => nomatch h)
           have hv4956 := hv4956.mut hC4983 (fun g hg => hO.inM g (hG4983 g hg)) (fun g hg e => hO.apart g (hG4983 g hg) (mem_l (e)))
           have hC := hC.step hC4983 (fun g hg => hO.inN g (hG4983 g hg))
           have hO := hO.grow hC4983 hf4983 (os_nodup hv4983) hv4983.fpl
           refine x_one (i := 9) (by kernel_rfl) ?_
           have hO := hO.fr1
           obtain ⟨M4988, f4988, hs4988, hk4988, hO, hv4988⟩ := os_inner (Frz.os Frz.int) hv4956 hO
           have h0 := h0.sub (M' := M4988) hs4988
           have hv4489 := hv4489.sub (M' := M4988) hs4988
           have hv4491 := hv4491.sub (M' := M4988) hs4988
           have hv4713 := hv4713.sub (M' := M4988) hs4988
           have hv4983 := hv4983.sub (M' := M4988) hs4988
           have hK := hK.trans hk4988
           obtain ⟨y4725, hy4725, hs⟩ := bind_some hs
           have hO := hO.fr1
           obtain ⟨a4987, n4987, c4987, w4987, f4987, hr4987, hC4987, hf4987, hv4987⟩ := app_os Rw49 hy4725 hv4983 hv4988 hO.inM (fun g hg hq => hO.apart g hq (mem_l hg))
           have hG4987 := os_block hv4983
           refine xk_val (w' := w4987) (b := true) (.slice a4987 n4987 c4987) rfl  (y_append rfl rfl (hr4987 _)) rfl (fun h => nomatch h) ?_
           have hO := hO.fr1
           have hO := hO.fr1
           have h0 := h0.mut hC4987 (fun g hg => hO.inM g (hG4987 g hg)) (fun _ _ h => nomatch h)
           have hb2 := hb2.chg hC4987 (fun hg => hO.apart _ (hG4987 _ hg) (mem_r (mem_r (mem_l (List.mem_singleton.2 rfl)))))
           have hv4489 := hv4489.mut hC4987 (fun g hg => hO.inM g (hG4987 g hg)) (fun _ _ h => nomatch h)
           have hv4491 := hv4491.mut hC4987 (fun g hg => hO.inM g (hG4987 g hg)) (fun g hg e => hO.apart g (hG4987 g hg) (mem_r (mem_l (e))))
           have hv4713 := hv4713.mut hC4987 (fun g hg => hO.inM g (hG4987 g hg)) (fun _ _ h => nomatch h)
           have hC := hC.step hC4987 (fun g hg => hO.inN g (hG4987 g hg))
           have hO := hO.eat hC4987 hf4987 (os_nodup hv4987) hv4987.fpl
           refine x_one (i := 10) (by kernel_rfl) ?_
           obtain ⟨M4992, eM4992, hs4992, hk4992, hO, hv4992⟩ := frz_own (Frz.os (Frz.rs Frz.int)) hv4987 hO
           have h0 := h0.sub (M' := M4992) hs4992
           have hv4489 := hv4489.sub (M' := M4992) hs4992
           have hv4491 := hv4491.sub (M' := M4992) hs4992
           have hv4713 := hv4713.sub (M' := M4992) hs4992
           have hK := hK.trans hk4992
           obtain ⟨r4729, hr4729, hs⟩ := bind_some hs
           refine xk_call (b := true) rfl  Bd69 rfl (c_spec_l8Close (M := M4992) (a_.1, a_.2) 2 y4725 h0 hv4992 hO.fut hr4729) rfl (fun h => nomatch h) ?_
           rintro _ w4991 ⟨a4991x0, n4991x0, c4991x0, rfl, hC4991, hv4991x0⟩
           have hK := hK.trans (show Keeps w M4992 (Past M4992 w4987 w4991) from Keeps.past hC.size)
           have h0 := h0.ext hC4991
           have hb2 := hb2.chg hC4991 (fun h => nomatch h)
           have hv4489 := hv4489.ext hC4991
           have hv4491 := hv4491.ext hC4991
           have hv4713 := hv4713.ext hC4991
           have hv4992 := hv4992.ext hC4991
           have hC := hC.ext hC4991
           have hO := hO.past hC4991
           have h0 := h0.sub (M' := (Past M4992 w4987 w4991)) (fun g hg => .inl hg.1)
           have hv4489 := hv4489.sub (M' := (Past M4992 w4987 w4991)) (fun g hg => .inl hg.1)
           have hv4491 := hv4491.sub (M' := (Past M4992 w4987 w4991)) (fun g hg => .inl hg.1)
           have hv4713 := hv4713.sub (M' := (Past M4992 w4987 w4991)) (fun g hg => .inl hg.1)
           have hv4992 := hv4992.sub (M' := (Past M4992 w4987 w4991)) (fun g hg => .inl hg.1)
           refine x_p 11 (.tuple #[(.slice a4991x0 n4991x0 c4991x0), (.bool r4729.2)]) rfl (by kernel_rfl)  (fun _ => y_move rfl) (fun h => nomatch h) ?_
           refine x_p 12 (.slice a4991x0 n4991x0 c4991x0) rfl (by kernel_rfl)  (fun _ => y_extract rfl (by kernel_rfl)) (fun h => nomatch h) ?_
           refine x_p 13 (.bool r4729.2) rfl (by kernel_rfl)  (fun _ => y_extract rfl (by kernel_rfl)) (fun h => nomatch h) ?_
           refine x_p 14 (.slice a4991x0 n4991x0 c4991x0) rfl (by kernel_rfl)  (fun _ => y_assign rfl) (fun h => nomatch h) ?_
           refine x_p 15 (.bool r4729.2) rfl (by kernel_rfl)  (fun _ => y_assign rfl) (fun h => nomatch h) ?_
           refine x_end (by kernel_rfl) ?_
           clear hS
           refine c_seq (c_region ?_)
           refine pl_val (.slice a4489 n4489 c4489) (y_move rfl) ?_
           refine pl_val (.slice a4991x0 n4991x0 c4991x0) (y_move rfl) ?_
           obtain ⟨r4732, hr4732, hs⟩ := bind_some hs
           refine pl_call Bd72 rfl (c_spec_l18Put (M := (Past M4992 w4987 w4991)) s4482.1 r4729.1 hv4489 hv4991x0 hO.fut hr4732) ?_
           rintro _ w4995 ⟨a4995x0, n4995x0, c4995x0, rfl, hC4995, hv4995x0⟩
           have hK := hK.trans (show Keeps w (Past M4992 w4987 w4991) (Past (Past M4992 w4987 w4991) w4991 w4995) from Keeps.past hC.size)
           have h0 := h0.ext hC4995
           have hb2 := hb2.chg hC4995 (fun h => nomatch h)
           have hv4489 := hv4489.ext hC4995
           have hv4491 := hv4491.ext hC4995
           have hv4713 := hv4713.ext hC4995
           have hv4992 := hv4992.ext hC4995
           have hv4991x0 := hv4991x0.ext hC4995
           have hC := hC.ext hC4995
           have hO := hO.past hC4995
           have h0 := h0.sub (M' := (Past (Past M4992 w4987 w4991) w4991 w4995)) (fun g hg => .inl hg.1)
           have hv4489 := hv4489.sub (M' := (Past (Past M4992 w4987 w4991) w4991 w4995)) (fun g hg => .inl hg.1)
           have hv4491 := hv4491.sub (M' := (Past (Past M4992 w4987 w4991) w4991 w4995)) (fun g hg => .inl hg.1)
           have hv4713 := hv4713.sub (M' := (Past (Past M4992 w4987 w4991) w4991 w4995)) (fun g hg => .inl hg.1)
           have hv4992 := hv4992.sub (M' := (Past (Past M4992 w4987 w4991) w4991 w4995)) (fun g hg => .inl hg.1)
           have hv4991x0 := hv4991x0.sub (M' := (Past (Past M4992 w4987 w4991) w4991 w4995)) (fun g hg => .inl hg.1)
           refine pl_val (.slice a4995x0 n4995x0 c4995x0) (y_assign rfl) ?_
           refine c_nil ?_
           refine c_seq (c_region ?_)
           refine pl_val (.slice a4995x0 n4995x0 c4995x0) (y_move rfl) ?_
           refine pl_val (.int .i64 (r4732.length : Int)) (y_len' Sl59 (rs_len hv4995x0) rfl) ?_
           refine pl_val (.slice a4489 n4489 c4489) (y_move rfl) ?_
           refine pl_val (.int .i64 (s4482.1.length : Int)) (y_len' Sl59 (rs_len hv4489) rfl) ?_
           refine pl_val (.bool (decide ((s4482.1.length : Int) < (r4732.length : Int)))) (y_gtr rfl rfl) ?_
           refine c_nil ?_
           rcases bif_some hs with ⟨hc4998, hs⟩ | ⟨hc4998, hs⟩
           ·skip
            refine c_condT (congrArg Value.bool hc4998) ?_
            refine c_seq (c_region ?_)
            refine pl_val (.slice a4995x0 n4995x0 c4995x0) (y_move rfl) ?_
            refine pl_val (.slice a4995x0 n4995x0 c4995x0) (y_assign rfl) ?_
            refine c_nil ?_
            refine c_region ?_
            refine pl_val (.slice a4491 n4491 c4491) (y_move rfl) ?_
            refine pl_val (.slice a4991x0 n4991x0 c4991x0) (y_move rfl) ?_
            obtain ⟨w4999, g4999, ew4999, eg4999, hC4999, hb4999⟩ := new_block w4995 [(.slice a4991x0 n4991x0 c4991x0)] 49
            refine pl_val (w' := w4999) (.slice (some ⟨g4999, 0, none⟩) 1 1) (y_bslice rfl (by rw [ew4999, eg4999]; kernel_rfl)) ?_
            have h0 := h0.ext hC4999
            have hb2 := hb2.chg hC4999 (fun h => nomatch h)
            have hv4491 := hv4491.ext hC4999
            have hv4991x0 := hv4991x0.ext hC4999
            have hv4995x0 := hv4995x0.ext hC4999
            have hC := hC.ext hC4999
            have hO := hO.new1 hC4999 eg4999 hb4999.lt
            have hv4999 := os_of_box (r := (RT.rs (RT.rs (RT.int .i64)))) (M := (Past (Past M4992 w4987 w4991) w4991 w4995)) (css := [[(.slice a4991x0 n4991x0 c4991x0)]]) (fps := [([] : List Nat)]) (xs := ([r4729.1] : List (List (List Int)))) hb4999 ⟨(rs_unval hv4991x0), trivial⟩ (Nat.le_of_ble_eq_true rfl) (List.nodup_cons.2 ⟨(fun h => nomatch h), List.nodup_nil⟩)
            have hv4999 : (RT.os 49 (RT.rs (RT.rs (RT.int .i64)))).val (Past (Past M4992 w4987 w4991) w4991 w4995) w4999 (.slice (some ⟨g4999, 0, none⟩) 1 1) [r4729.1] [g4999] := hv4999
            obtain ⟨y5002, hy5002, hs⟩ := bind_some hs
            have hO := hO.fr1
            obtain ⟨a5001, n5001, c5001, w5001, f5001, hr5001, hC5001, hf5001, hv5001⟩ := app_os Rw59 hy5002 hv4491 hv4999 hO.inM (fun g hg hq => hO.apart g hq (mem_l hg))
            have hG5001 := os_block hv4491
            refine pl_val (w' := w5001) (.slice a5001 n5001 c5001) (y_append rfl rfl (hr5001 _)) ?_
            have hO := hO.fr1
            have hO := hO.fr1
            have h0 := h0.mut hC5001 (fun g hg => hO.inM g (hG5001 g hg)) (fun _ _ h => nomatch h)
            have hb2 := hb2.chg hC5001 (fun hg => hO.apart _ (hG5001 _ hg) (mem_r (mem_l (List.mem_singleton.2 rfl))))
            have hv4991x0 := hv4991x0.mut hC5001 (fun g hg => hO.inM g (hG5001 g hg)) (fun _ _ h => nomatch h)
            have hv4995x0 := hv4995x0.mut hC5001 (fun g hg => hO.inM g (hG5001 g hg)) (fun _ _ h => nomatch h)
            have hC := hC.step hC5001 (fun g hg => hO.inN g (hG5001 g hg))
            have hO := hO.eat hC5001 hf5001 (os_nodup hv5001) hv5001.fpl
            refine pl_val (.slice a5001 n5001 c5001) (y_assign rfl) ?_
            refine c_nil ?_
            refine c_region ?_
            refine pl_val (.int .i64 s4482.2.2) (y_move rfl) ?_
            refine pl_val (.int .i64 (w64 (s4482.2.2 + 1))) (y_add rfl rfl) ?_
            refine pl_val (.int .i64 (w64 (s4482.2.2 + 1))) (y_assign rfl) ?_
            refine c_nil ?_
            cases hs
            have hO := hO.fr1
            have hO := hO.fr1
            exact ⟨_, (Past (Past M4992 w4987 w4991) w4991 w4995), a4995x0, n4995x0, c4995x0, a5001, n5001, c5001, f5001, fr_ovl 96 ⟨rfl, rfl, rfl, rfl, rfl, trivial⟩, hC, hO, hK, h0, hb2, hv4995x0, hv5001⟩
           ·skip
            refine c_condF (congrArg Value.bool hc4998) ?_
            refine wp_skip ?_
            refine c_region ?_
            refine pl_val (.int .i64 s4482.2.2) (y_move rfl) ?_
            refine pl_val (.int .i64 (w64 (s4482.2.2 + 1))) (y_add rfl rfl) ?_
            refine pl_val (.int .i64 (w64 (s4482.2.2 + 1))) (y_assign rfl) ?_
            refine c_nil ?_
            cases hs
            have hO := hO.fr1
            have hO := hO.fr1
            exact ⟨_, (Past (Past M4992 w4987 w4991) w4991 w4995), a4489, n4489, c4489, a4491, n4491, c4491, f4491, fr_ovl 96 ⟨rfl, rfl, rfl, rfl, rfl, trivial⟩, hC, hO, hK, h0, hb2, hv4489, hv4491⟩
          ·skip
           obtain ⟨M5005, f5005, hs5005, hk5005, hO, hv5005⟩ := os_inner (Frz.os Frz.int) hv4981 hO
           have h0 := h0.sub (M' := M5005) hs5005
           have hv4489 := hv4489.sub (M' := M5005) hs5005
           have hv4491 := hv4491.sub (M' := M5005) hs5005
           have hv4713 := hv4713.sub (M' := M5005) hs5005
           have hv4956 := hv4956.sub (M' := M5005) hs5005
           have hK := hK.trans hk5005
           obtain ⟨y4719, hy4719, hs⟩ := bind_some hs
           obtain ⟨a5004, n5004, c5004, w5004, f5004, hr5004, hC5004, hf5004, hv5004⟩ := app_rs Rw49 hy4719 hv5005 hv4713 hO.inM
           have hG5004 := os_block hv5005
           refine xk_val (w' := w5004) (b := true) (.slice a5004 n5004 c5004) rfl  (y_append rfl rfl (hr5004 _)) rfl (fun h => nomatch h) ?_
           have h0 := h0.mut hC5004 (fun g hg => hO.inM g (hG5004 g hg)) (fun _ _ h => nomatch h)
           have hb2 := hb2.chg hC5004 (fun hg => hO.apart _ (hG5004 _ hg) (mem_r (mem_r (mem_l (List.mem_singleton.2 rfl)))))
           have hv4489 := hv4489.mut hC5004 (fun g hg => hO.inM g (hG5004 g hg)) (fun _ _ h => nomatch h)
           have hv4491 := hv4491.mut hC5004 (fun g hg => hO.inM g (hG5004 g hg)) (fun g hg e => hO.apart g (hG5004 g hg) (mem_r (mem_l (e))))
           have hv4713 := hv4713.mut hC5004 (fun g hg => hO.inM g (hG5004 g hg)) (fun _ _ h => nomatch h)
           have hv4956 := hv4956.mut hC5004 (fun g hg => hO.inM g (hG5004 g hg)) (fun g hg e => hO.apart g (hG5004 g hg) (mem_l (e)))
           have hC := hC.step hC5004 (fun g hg => hO.inN g (hG5004 g hg))
           have hO := hO.grow hC5004 hf5004 (os_nodup hv5004) hv5004.fpl
           refine x_two (i := 0) (j := 9) (by kernel_rfl) ?_ ?_
           ·skip
            refine xk_val (b := true) (.agg #[(.int .i64 a_.1), (.slice pa0 pn0 pc0)]) rfl  (y_load rfl ((box_load Ag34 Sz34 hb2 [] [(.int .i64 a_.1), (.slice pa0 pn0 pc0)] [] rfl rfl (fun h => nomatch h)) _ (Chg.refl _ _))) rfl (fun h => nomatch h) ?_
            refine x_one (i := 9) (by kernel_rfl) ?_
            have hO := hO.fr1
            obtain ⟨M5009, f5009, hs5009, hk5009, hO, hv5009⟩ := os_inner (Frz.os Frz.int) hv4956 hO
            have h0 := h0.sub (M' := M5009) hs5009
            have hv4489 := hv4489.sub (M' := M5009) hs5009
            have hv4491 := hv4491.sub (M' := M5009) hs5009
            have hv4713 := hv4713.sub (M' := M5009) hs5009
            have hv5004 := hv5004.sub (M' := M5009) hs5009
            have hK := hK.trans hk5009
            obtain ⟨y4725, hy4725, hs⟩ := bind_some hs
            have hO := hO.fr1
            obtain ⟨a5008, n5008, c5008, w5008, f5008, hr5008, hC5008, hf5008, hv5008⟩ := app_os Rw49 hy4725 hv5004 hv5009 hO.inM (fun g hg hq => hO.apart g hq (mem_l hg))
            have hG5008 := os_block hv5004
            refine xk_val (w' := w5008) (b := true) (.slice a5008 n5008 c5008) rfl  (y_append rfl rfl (hr5008 _)) rfl (fun h => nomatch h) ?_
            have hO := hO.fr1
            have hO := hO.fr1
            have h0 := h0.mut hC5008 (fun g hg => hO.inM g (hG5008 g hg)) (fun _ _ h => nomatch h)
            have hb2 := hb2.chg hC5008 (fun hg => hO.apart _ (hG5008 _ hg) (mem_r (mem_r (mem_l (List.mem_singleton.2 rfl)))))
            have hv4489 := hv4489.mut hC5008 (fun g hg => hO.inM g (hG5008 g hg)) (fun _ _ h => nomatch h)
            have hv4491 := hv4491.mut hC5008 (fun g hg => hO.inM g (hG5008 g hg)) (fun g hg e => hO.apart g (hG5008 g hg) (mem_r (mem_l (e))))
            have hv4713 := hv4713.mut hC5008 (fun g hg => hO.inM g (hG5008 g hg)) (fun _ _ h => nomatch h)
            have hC := hC.step hC5008 (fun g hg => hO.inN g (hG5008 g hg))
            have hO := hO.eat hC5008 hf5008 (os_nodup hv5008) hv5008.fpl
            refine x_one (i := 10) (by kernel_rfl) ?_
            obtain ⟨M5013, eM5013, hs5013, hk5013, hO, hv5013⟩ := frz_own (Frz.os (Frz.rs Frz.int)) hv5008 hO
            have h0 := h0.sub (M' := M5013) hs5013
            have hv4489 := hv4489.sub (M' := M5013) hs5013
            have hv4491 := hv4491.sub (M' := M5013) hs5013
            have hv4713 := hv4713.sub (M' := M5013) hs5013
            have hK := hK.trans hk5013
            obtain ⟨r4729, hr4729, hs⟩ := bind_some hs
            refine xk_call (b := true) rfl  Bd69 rfl (c_spec_l8Close (M := M5013) (a_.1, a_.2) 2 y4725 h0 hv5013 hO.fut hr4729) rfl (fun h => nomatch h) ?_
            rintro _ w5012 ⟨a5012x0, n5012x0, c5012x0, rfl, hC5012, hv5012x0⟩
            have hK := hK.trans (show Keeps w M5013 (Past M5013 w5008 w5012) from Keeps.past hC.size)
            have h0 := h0.ext hC5012
            have hb2 := hb2.chg hC5012 (fun h => nomatch h)
            have hv4489 := hv4489.ext hC5012
            have hv4491 := hv4491.ext hC5012
            have hv4713 := hv4713.ext hC5012
            have hv5013 := hv5013.ext hC5012
            have hC := hC.ext hC5012
            have hO := hO.past hC5012
            have h0 := h0.sub (M' := (Past M5013 w5008 w5012)) (fun g hg => .inl hg.1)
            have hv4489 := hv4489.sub (M' := (Past M5013 w5008 w5012)) (fun g hg => .inl hg.1)
            have hv4491 := hv4491.sub (M' := (Past M5013 w5008 w5012)) (fun g hg => .inl hg.1)
            have hv4713 := hv4713.sub (M' := (Past M5013 w5008 w5012)) (fun g hg => .inl hg.1)
            have hv5013 := hv5013.sub (M' := (Past M5013 w5008 w5012)) (fun g hg => .inl hg.1)
            refine x_p 11 (.tuple #[(.slice a5012x0 n5012x0 c5012x0), (.bool r4729.2)]) rfl (by kernel_rfl)  (fun _ => y_move rfl) (fun h => nomatch h) ?_
            refine x_p 12 (.slice a5012x0 n5012x0 c5012x0) rfl (by kernel_rfl)  (fun _ => y_extract rfl (by kernel_rfl)) (fun h => nomatch h) ?_
            refine x_p 13 (.bool r4729.2) rfl (by kernel_rfl)  (fun _ => y_extract rfl (by kernel_rfl)) (fun h => nomatch h) ?_
            refine x_p 14 (.slice a5012x0 n5012x0 c5012x0) rfl (by kernel_rfl)  (fun _ => y_assign rfl) (fun h => nomatch h) ?_
            refine x_p 15 (.bool r4729.2) rfl (by kernel_rfl)  (fun _ => y_assign rfl) (fun h => nomatch h) ?_
            refine x_end (by kernel_rfl) ?_
            clear hS
            refine c_seq (c_region ?_)
            refine pl_val (.slice a4489 n4489 c4489) (y_move rfl) ?_
            refine pl_val (.slice a5012x0 n5012x0 c5012x0) (y_move rfl) ?_
            obtain ⟨r4732, hr4732, hs⟩ := bind_some hs
            refine pl_call Bd72 rfl (c_spec_l18Put (M := (Past M5013 w5008 w5012)) s4482.1 r4729.1 hv4489 hv5012x0 hO.fut hr4732) ?_
            rintro _ w5016 ⟨a5016x0, n5016x0, c5016x0, rfl, hC5016, hv5016x0⟩
            have hK := hK.trans (show Keeps w (Past M5013 w5008 w5012) (Past (Past M5013 w5008 w5012) w5012 w5016) from Keeps.past hC.size)
            have h0 := h0.ext hC5016
            have hb2 := hb2.chg hC5016 (fun h => nomatch h)
            have hv4489 := hv4489.ext hC5016
            have hv4491 := hv4491.ext hC5016
            have hv4713 := hv4713.ext hC5016
            have hv5013 := hv5013.ext hC5016
            have hv5012x0 := hv5012x0.ext hC5016
            have hC := hC.ext hC5016
            have hO := hO.past hC5016
            have h0 := h0.sub (M' := (Past (Past M5013 w5008 w5012) w5012 w5016)) (fun g hg => .inl hg.1)
            have hv4489 := hv4489.sub (M' := (Past (Past M5013 w5008 w5012) w5012 w5016)) (fun g hg => .inl hg.1)
            have hv4491 := hv4491.sub (M' := (Past (Past M5013 w5008 w5012) w5012 w5016)) (fun g hg => .inl hg.1)
            have hv4713 := hv4713.sub (M' := (Past (Past M5013 w5008 w5012) w5012 w5016)) (fun g hg => .inl hg.1)
            have hv5013 := hv5013.sub (M' := (Past (Past M5013 w5008 w5012) w5012 w5016)) (fun g hg => .inl hg.1)
            have hv5012x0 := hv5012x0.sub (M' := (Past (Past M5013 w5008 w5012) w5012 w5016)) (fun g hg => .inl hg.1)
            refine pl_val (.slice a5016x0 n5016x0 c5016x0) (y_assign rfl) ?_
            refine c_nil ?_
            refine c_seq (c_region ?_)
            refine pl_val (.slice a5016x0 n5016x0 c5016x0) (y_move rfl) ?_
            refine pl_val (.int .i64 (r4732.length : Int)) (y_len' Sl59 (rs_len hv5016x0) rfl) ?_
            refine pl_val (.slice a4489 n4489 c4489) (y_move rfl) ?_
            refine pl_val (.int .i64 (s4482.1.length : Int)) (y_len' Sl59 (rs_len hv4489) rfl) ?_
            refine pl_val (.bool (decide ((s4482.1.length : Int) < (r4732.length : Int)))) (y_gtr rfl rfl) ?_
            refine c_nil ?_
            rcases bif_some hs with ⟨hc5019, hs⟩ | ⟨hc5019, hs⟩
            ·skip
             refine c_condT (congrArg Value.bool hc5019) ?_
             refine c_seq (c_region ?_)
             refine pl_val (.slice a5016x0 n5016x0 c5016x0) (y_move rfl) ?_
             refine pl_val (.slice a5016x0 n5016x0 c5016x0) (y_assign rfl) ?_
             refine c_nil ?_
             refine c_region ?_
             refine pl_val (.slice a4491 n4491 c4491) (y_move rfl) ?_
             refine pl_val (.slice a5012x0 n5012x0 c5012x0) (y_move rfl) ?_
             obtain ⟨w5020, g5020, ew5020, eg5020, hC5020, hb5020⟩ := new_block w5016 [(.slice a5012x0 n5012x0 c5012x0)] 49
             refine pl_val (w' := w5020) (.slice (some ⟨g5020, 0, none⟩) 1 1) (y_bslice rfl (by rw [ew5020, eg5020]; kernel_rfl)) ?_
             have h0 := h0.ext hC5020
             have hb2 := hb2.chg hC5020 (fun h => nomatch h)
             have hv4491 := hv4491.ext hC5020
             have hv5012x0 := hv5012x0.ext hC5020
             have hv5016x0 := hv5016x0.ext hC5020
             have hC := hC.ext hC5020
             have hO := hO.new1 hC5020 eg5020 hb5020.lt
             have hv5020 := os_of_box (r := (RT.rs (RT.rs (RT.int .i64)))) (M := (Past (Past M5013 w5008 w5012) w5012 w5016)) (css := [[(.slice a5012x0 n5012x0 c5012x0)]]) (fps := [([] : List Nat)]) (xs := ([r4729.1] : List (List (List Int)))) hb5020 ⟨(rs_unval hv5012x0), trivial⟩ (Nat.le_of_ble_eq_true rfl) (List.nodup_cons.2 ⟨(fun h => nomatch h), List.nodup_nil⟩)
             have hv5020 : (RT.os 49 (RT.rs (RT.rs (RT.int .i64)))).val (Past (Past M5013 w5008 w5012) w5012 w5016) w5020 (.slice (some ⟨g5020, 0, none⟩) 1 1) [r4729.1] [g5020] := hv5020
             obtain ⟨y5023, hy5023, hs⟩ := bind_some hs
             have hO := hO.fr1
             obtain ⟨a5022, n5022, c5022, w5022, f5022, hr5022, hC5022, hf5022, hv5022⟩ := app_os Rw59 hy5023 hv4491 hv5020 hO.inM (fun g hg hq => hO.apart g hq (mem_l hg))
             have hG5022 := os_block hv4491
             refine pl_val (w' := w5022) (.slice a5022 n5022 c5022) (y_append rfl rfl (hr5022 _)) ?_
             have hO := hO.fr1
             have hO := hO.fr1
             have h0 := h0.mut hC5022 (fun g hg => hO.inM g (hG5022 g hg)) (fun _ _ h => nomatch h)
             have hb2 := hb2.chg hC5022 (fun hg => hO.apart _ (hG5022 _ hg) (mem_r (mem_l (List.mem_singleton.2 rfl))))
             have hv5012x0 := hv5012x0.mut hC5022 (fun g hg => hO.inM g (hG5022 g hg)) (fun _ _ h => nomatch h)
             have hv5016x0 := hv5016x0.mut hC5022 (fun g hg => hO.inM g (hG5022 g hg)) (fun _ _ h => nomatch h)
             have hC := hC.step hC5022 (fun g hg => hO.inN g (hG5022 g hg))
             have hO := hO.eat hC5022 hf5022 (os_nodup hv5022) hv5022.fpl
             refine pl_val (.slice a5022 n5022 c5022) (y_assign rfl) ?_
             refine c_nil ?_
             refine c_region ?_
             refine pl_val (.int .i64 s4482.2.2) (y_move rfl) ?_
             refine pl_val (.int .i64 (w64 (s4482.2.2 + 1))) (y_add rfl rfl) ?_
             refine pl_val (.int .i64 (w64 (s4482.2.2 + 1))) (y_assign rfl) ?_
             refine c_nil ?_
             cases hs
             have hO := hO.fr1
             have hO := hO.fr1
             exact ⟨_, (Past (Past M5013 w5008 w5012) w5012 w5016), a5016x0, n5016x0, c5016x0, a5022, n5022, c5022, f5022, fr_ovl 96 ⟨rfl, rfl, rfl, rfl, rfl, trivial⟩, hC, hO, hK, h0, hb2, hv5016x0, hv5022⟩
            ·skip
             refine c_condF (congrArg Value.bool hc5019) ?_
             refine wp_skip ?_
             refine c_region ?_
             refine pl_val (.int .i64 s4482.2.2) (y_move rfl) ?_
             refine pl_val (.int .i64 (w64 (s4482.2.2 + 1))) (y_add rfl rfl) ?_
             refine pl_val (.int .i64 (w64 (s4482.2.2 + 1))) (y_assign rfl) ?_
             refine c_nil ?_
             cases hs
             have hO := hO.fr1
             have hO := hO.fr1
             exact ⟨_, (Past (Past M5013 w5008 w5012) w5012 w5016), a4489, n4489, c4489, a4491, n4491, c4491, f4491, fr_ovl 96 ⟨rfl, rfl, rfl, rfl, rfl, trivial⟩, hC, hO, hK, h0, hb2, hv4489, hv4491⟩
           ·skip
            have hO := hO.fr1
            obtain ⟨M5026, f5026, hs5026, hk5026, hO, hv5026⟩ := os_inner (Frz.os Frz.int) hv4956 hO
            have h0 := h0.sub (M' := M5026) hs5026
            have hv4489 := hv4489.sub (M' := M5026) hs5026
            have hv4491 := hv4491.sub (M' := M5026) hs5026
            have hv4713 := hv4713.sub (M' := M5026) hs5026
            have hv5004 := hv5004.sub (M' := M5026) hs5026
            have hK := hK.trans hk5026
            obtain ⟨y4725, hy4725, hs⟩ := bind_some hs
            have hO := hO.fr1
            obtain ⟨a5025, n5025, c5025, w5025, f5025, hr5025, hC5025, hf5025, hv5025⟩ := app_os Rw49 hy4725 hv5004 hv5026 hO.inM (fun g hg hq => hO.apart g hq (mem_l hg))
            have hG5025 := os_block hv5004
            refine xk_val (w' := w5025) (b := true) (.slice a5025 n5025 c5025) rfl  (y_append rfl rfl (hr5025 _)) rfl (fun h => nomatch h) ?_
            have hO := hO.fr1
            have hO := hO.fr1
            have h0 := h0.mut hC5025 (fun g hg => hO.inM g (hG5025 g hg)) (fun _ _ h => nomatch h)
            have hb2 := hb2.chg hC5025 (fun hg => hO.apart _ (hG5025 _ hg) (mem_r (mem_r (mem_l (List.mem_singleton.2 rfl)))))
            have hv4489 := hv4489.mut hC5025 (fun g hg => hO.inM g (hG5025 g hg)) (fun _ _ h => nomatch h)
            have hv4491 := hv4491.mut hC5025 (fun g hg => hO.inM g (hG5025 g hg)) (fun g hg e => hO.apart g (hG5025 g hg) (mem_r (mem_l (e))))
            have hv4713 := hv4713.mut hC5025 (fun g hg => hO.inM g (hG5025 g hg)) (fun _ _ h => nomatch h)
            have hC := hC.step hC5025 (fun g hg => hO.inN g (hG5025 g hg))
            have hO := hO.eat hC5025 hf5025 (os_nodup hv5025) hv5025.fpl
            refine x_one (i := 0) (by kernel_rfl) ?_
            refine xk_val (b := true) (.agg #[(.int .i64 a_.1), (.slice pa0 pn0 pc0)]) rfl  (y_load rfl ((box_load Ag34 Sz34 hb2 [] [(.int .i64 a_.1), (.slice pa0 pn0 pc0)] [] rfl rfl (fun h => nomatch h)) _ (Chg.refl _ _))) rfl (fun h => nomatch h) ?_
            refine x_one (i := 10) (by kernel_rfl) ?_
            obtain ⟨M5030, eM5030, hs5030, hk5030, hO, hv5030⟩ := frz_own (Frz.os (Frz.rs Frz.int)) hv5025 hO
            have h0 := h0.sub (M' := M5030) hs5030
            have hv4489 := hv4489.sub (M' := M5030) hs5030
            have hv4491 := hv4491.sub (M' := M5030) hs5030
            have hv4713 := hv4713.sub (M' := M5030) hs5030
            have hK := hK.trans hk5030
            obtain ⟨r4729, hr4729, hs⟩ := bind_some hs
            refine xk_call (b := true) rfl  Bd69 rfl (c_spec_l8Close (M := M5030) (a_.1, a_.2) 2 y4725 h0 hv5030 hO.fut hr4729) rfl (fun h => nomatch h) ?_
            rintro _ w5029 ⟨a5029x0, n5029x0, c5029x0, rfl, hC5029, hv5029x0⟩
            have hK := hK.trans (show Keeps w M5030 (Past M5030 w5025 w5029) from Keeps.past hC.size)
            have h0 := h0.ext hC5029
            have hb2 := hb2.chg hC5029 (fun h => nomatch h)
            have hv4489 := hv4489.ext hC5029
            have hv4491 := hv4491.ext hC5029
            have hv4713 := hv4713.ext hC5029
            have hv5030 := hv5030.ext hC5029
            have hC := hC.ext hC5029
            have hO := hO.past hC5029
            have h0 := h0.sub (M' := (Past M5030 w5025 w5029)) (fun g hg => .inl hg.1)
            have hv4489 := hv4489.sub (M' := (Past M5030 w5025 w5029)) (fun g hg => .inl hg.1)
            have hv4491 := hv4491.sub (M' := (Past M5030 w5025 w5029)) (fun g hg => .inl hg.1)
            have hv4713 := hv4713.sub (M' := (Past M5030 w5025 w5029)) (fun g hg => .inl hg.1)
            have hv5030 := hv5030.sub (M' := (Past M5030 w5025 w5029)) (fun g hg => .inl hg.1)
            refine x_p 11 (.tuple #[(.slice a5029x0 n5029x0 c5029x0), (.bool r4729.2)]) rfl (by kernel_rfl)  (fun _ => y_move rfl) (fun h => nomatch h) ?_
            refine x_p 12 (.slice a5029x0 n5029x0 c5029x0) rfl (by kernel_rfl)  (fun _ => y_extract rfl (by kernel_rfl)) (fun h => nomatch h) ?_
            refine x_p 13 (.bool r4729.2) rfl (by kernel_rfl)  (fun _ => y_extract rfl (by kernel_rfl)) (fun h => nomatch h) ?_
            refine x_p 14 (.slice a5029x0 n5029x0 c5029x0) rfl (by kernel_rfl)  (fun _ => y_assign rfl) (fun h => nomatch h) ?_
            refine x_p 15 (.bool r4729.2) rfl (by kernel_rfl)  (fun _ => y_assign rfl) (fun h => nomatch h) ?_
            refine x_end (by kernel_rfl) ?_
            clear hS
            refine c_seq (c_region ?_)
            refine pl_val (.slice a4489 n4489 c4489) (y_move rfl) ?_
            refine pl_val (.slice a5029x0 n5029x0 c5029x0) (y_move rfl) ?_
            obtain ⟨r4732, hr4732, hs⟩ := bind_some hs
            refine pl_call Bd72 rfl (c_spec_l18Put (M := (Past M5030 w5025 w5029)) s4482.1 r4729.1 hv4489 hv5029x0 hO.fut hr4732) ?_
            rintro _ w5033 ⟨a5033x0, n5033x0, c5033x0, rfl, hC5033, hv5033x0⟩
            have hK := hK.trans (show Keeps w (Past M5030 w5025 w5029) (Past (Past M5030 w5025 w5029) w5029 w5033) from Keeps.past hC.size)
            have h0 := h0.ext hC5033
            have hb2 := hb2.chg hC5033 (fun h => nomatch h)
            have hv4489 := hv4489.ext hC5033
            have hv4491 := hv4491.ext hC5033
            have hv4713 := hv4713.ext hC5033
            have hv5030 := hv5030.ext hC5033
            have hv5029x0 := hv5029x0.ext hC5033
            have hC := hC.ext hC5033
            have hO := hO.past hC5033
            have h0 := h0.sub (M' := (Past (Past M5030 w5025 w5029) w5029 w5033)) (fun g hg => .inl hg.1)
            have hv4489 := hv4489.sub (M' := (Past (Past M5030 w5025 w5029) w5029 w5033)) (fun g hg => .inl hg.1)
            have hv4491 := hv4491.sub (M' := (Past (Past M5030 w5025 w5029) w5029 w5033)) (fun g hg => .inl hg.1)
            have hv4713 := hv4713.sub (M' := (Past (Past M5030 w5025 w5029) w5029 w5033)) (fun g hg => .inl hg.1)
            have hv5030 := hv5030.sub (M' := (Past (Past M5030 w5025 w5029) w5029 w5033)) (fun g hg => .inl hg.1)
            have hv5029x0 := hv5029x0.sub (M' := (Past (Past M5030 w5025 w5029) w5029 w5033)) (fun g hg => .inl hg.1)
            refine pl_val (.slice a5033x0 n5033x0 c5033x0) (y_assign rfl) ?_
            refine c_nil ?_
            refine c_seq (c_region ?_)
            refine pl_val (.slice a5033x0 n5033x0 c5033x0) (y_move rfl) ?_
            refine pl_val (.int .i64 (r4732.length : Int)) (y_len' Sl59 (rs_len hv5033x0) rfl) ?_
            refine pl_val (.slice a4489 n4489 c4489) (y_move rfl) ?_
            refine pl_val (.int .i64 (s4482.1.length : Int)) (y_len' Sl59 (rs_len hv4489) rfl) ?_
            refine pl_val (.bool (decide ((s4482.1.length : Int) < (r4732.length : Int)))) (y_gtr rfl rfl) ?_
            refine c_nil ?_
            rcases bif_some hs with ⟨hc5036, hs⟩ | ⟨hc5036, hs⟩
            ·skip
             refine c_condT (congrArg Value.bool hc5036) ?_
             refine c_seq (c_region ?_)
             refine pl_val (.slice a5033x0 n5033x0 c5033x0) (y_move rfl) ?_
             refine pl_val (.slice a5033x0 n5033x0 c5033x0) (y_assign rfl) ?_
             refine c_nil ?_
             refine c_region ?_
             refine pl_val (.slice a4491 n4491 c4491) (y_move rfl) ?_
             refine pl_val (.slice a5029x0 n5029x0 c5029x0) (y_move rfl) ?_
             obtain ⟨w5037, g5037, ew5037, eg5037, hC5037, hb5037⟩ := new_block w5033 [(.slice a5029x0 n5029x0 c5029x0)] 49
             refine pl_val (w' := w5037) (.slice (some ⟨g5037, 0, none⟩) 1 1) (y_bslice rfl (by rw [ew5037, eg5037]; kernel_rfl)) ?_
             have h0 := h0.ext hC5037
             have hb2 := hb2.chg hC5037 (fun h => nomatch h)
             have hv4491 := hv4491.ext hC5037
             have hv5029x0 := hv5029x0.ext hC5037
             have hv5033x0 := hv5033x0.ext hC5037
             have hC := hC.ext hC5037
             have hO := hO.new1 hC5037 eg5037 hb5037.lt
             have hv5037 := os_of_box (r := (RT.rs (RT.rs (RT.int .i64)))) (M := (Past (Past M5030 w5025 w5029) w5029 w5033)) (css := [[(.slice a5029x0 n5029x0 c5029x0)]]) (fps := [([] : List Nat)]) (xs := ([r4729.1] : List (List (List Int)))) hb5037 ⟨(rs_unval hv5029x0), trivial⟩ (Nat.le_of_ble_eq_true rfl) (List.nodup_cons.2 ⟨(fun h => nomatch h), List.nodup_nil⟩)
             have hv5037 : (RT.os 49 (RT.rs (RT.rs (RT.int .i64)))).val (Past (Past M5030 w5025 w5029) w5029 w5033) w5037 (.slice (some ⟨g5037, 0, none⟩) 1 1) [r4729.1] [g5037] := hv5037
             obtain ⟨y5040, hy5040, hs⟩ := bind_some hs
             have hO := hO.fr1
             obtain ⟨a5039, n5039, c5039, w5039, f5039, hr5039, hC5039, hf5039, hv5039⟩ := app_os Rw59 hy5040 hv4491 hv5037 hO.inM (fun g hg hq => hO.apart g hq (mem_l hg))
             have hG5039 := os_block hv4491
             refine pl_val (w' := w5039) (.slice a5039 n5039 c5039) (y_append rfl rfl (hr5039 _)) ?_
             have hO := hO.fr1
             have hO := hO.fr1
             have h0 := h0.mut hC5039 (fun g hg => hO.inM g (hG5039 g hg)) (fun _ _ h => nomatch h)
             have hb2 := hb2.chg hC5039 (fun hg => hO.apart _ (hG5039 _ hg) (mem_r (mem_l (List.mem_singleton.2 rfl))))
             have hv5029x0 := hv5029x0.mut hC5039 (fun g hg => hO.inM g (hG5039 g hg)) (fun _ _ h => nomatch h)
             have hv5033x0 := hv5033x0.mut hC5039 (fun g hg => hO.inM g (hG5039 g hg)) (fun _ _ h => nomatch h)
             have hC := hC.step hC5039 (fun g hg => hO.inN g (hG5039 g hg))
             have hO := hO.eat hC5039 hf5039 (os_nodup hv5039) hv5039.fpl
             refine pl_val (.slice a5039 n5039 c5039) (y_assign rfl) ?_
             refine c_nil ?_
             refine c_region ?_
             refine pl_val (.int .i64 s4482.2.2) (y_move rfl) ?_
             refine pl_val (.int .i64 (w64 (s4482.2.2 + 1))) (y_add rfl rfl) ?_
             refine pl_val (.int .i64 (w64 (s4482.2.2 + 1))) (y_assign rfl) ?_
             refine c_nil ?_
             cases hs
             have hO := hO.fr1
             have hO := hO.fr1
             exact ⟨_, (Past (Past M5030 w5025 w5029) w5029 w5033), a5033x0, n5033x0, c5033x0, a5039, n5039, c5039, f5039, fr_ovl 96 ⟨rfl, rfl, rfl, rfl, rfl, trivial⟩, hC, hO, hK, h0, hb2, hv5033x0, hv5039⟩
            ·skip
             refine c_condF (congrArg Value.bool hc5036) ?_
             refine wp_skip ?_
             refine c_region ?_
             refine pl_val (.int .i64 s4482.2.2) (y_move rfl) ?_
             refine pl_val (.int .i64 (w64 (s4482.2.2 + 1))) (y_add rfl rfl) ?_
             refine pl_val (.int .i64 (w64 (s4482.2.2 + 1))) (y_assign rfl) ?_
             refine c_nil ?_
             cases hs
             have hO := hO.fr1
             have hO := hO.fr1
             exact ⟨_, (Past (Past M5030 w5025 w5029) w5029 w5033), a4489, n4489, c4489, a4491, n4491, c4491, f4491, fr_ovl 96 ⟨rfl, rfl, rfl, rfl, rfl, trivial⟩, hC, hO, hK, h0, hb2, hv4489, hv4491⟩
      ·skip
       refine c_condF (congrArg Value.bool hc4502) ?_
       refine wp_exit ?_
       cases hs
       have hO := hO.fr1
       have hO := hO.fr1
       exact ⟨rfl, _, M4488, a4489, n4489, c4489, a4491, n4491, c4491, f4491, fr_ovl 96 ⟨rfl, rfl, rfl, rfl, trivial⟩, hC, hO, hK, h0, hb2, hv4489, hv4491⟩
    ·skip
     have hO := hO.fr1
     have hO := hO.fr1
     exact ⟨_, M3370, a3371, n3371, c3371, a3373, n3373, c3373, f3373, fr_ovl 96 ⟨rfl, rfl, rfl, rfl, rfl, trivial⟩, hC, hO, hK, h0, hb2, hv3371, hv3373⟩
    ·cases o4486 with
     | nx _ => exact True.intro
     | rt r_ =>
      have hs := after_rt hs
      intro a1 w1 hK
      cases hs
      exact hK
     | br s4482 =>
      have hs := after_br hs
      rintro a1 w4483 ⟨σ, M4493, a4494, n4494, c4494, a4496, n4496, c4496, f4496, rfl, hC, hO, hK, h0, hb2, hv4494, hv4496⟩
      refine c_region ?_
      refine pl_val (.int .i64 s3364.2.2) (y_move rfl) ?_
      refine pl_val (.int .i64 (w64 (s3364.2.2 + 1))) (y_add rfl rfl) ?_
      refine pl_val (.int .i64 (w64 (s3364.2.2 + 1))) (y_assign rfl) ?_
      refine c_nil ?_
      cases hs
      have hO := hO.fr1
      have hO := hO.fr1
      exact ⟨_, M4493, a4494, n4494, c4494, a4496, n4496, c4496, f4496, fr_ovl 96 ⟨rfl, rfl, rfl, rfl, trivial⟩, hC, hO, hK, h0, hb2, hv4494, hv4496⟩
   ·skip
    refine c_condF (congrArg Value.bool hc3384) ?_
    refine wp_exit ?_
    cases hs
    have hO := hO.fr1
    have hO := hO.fr1
    exact ⟨rfl, _, M3370, a3371, n3371, c3371, a3373, n3373, c3373, f3373, fr_ovl 96 ⟨rfl, trivial⟩, hC, hO, hK, h0, hb2, hv3371, hv3373⟩
 ·skip
  have hO := hO.fr1
  have hO := hO.fr1
  exact ⟨_, M3363, (some ⟨g9, 0, none⟩), 1, 1, (some ⟨g11, 0, none⟩), 1, 1, ([g11]), fr_ovl 96 ⟨rfl, rfl, rfl, rfl, trivial⟩, hC, hO, hK, h0, hb2, hv3363, hv11⟩
 ·cases o3368 with
  | nx _ => exact True.intro
  | rt r_ =>
   have hs := after_rt hs
   intro a1 w1 hK
   cases hs
   exact hK
  | br s3364 =>
   have hs := after_br hs
   rintro a1 w3365 ⟨σ, M3375, a3376, n3376, c3376, a3378, n3378, c3378, f3378, rfl, hC, hO, hK, h0, hb2, hv3376, hv3378⟩
   refine c_seq (c_region ?_)
   refine pl_val (.slice a3376 n3376 c3376) (y_move rfl) ?_
   refine pl_val (.slice a3376 n3376 c3376) (y_move rfl) ?_
   refine pl_val (.int .i64 (s3364.1.length : Int)) (y_len' Sl59 (rs_len hv3376) rfl) ?_
   refine pl_val (.bool (decide ((s3364.1.length : Int) ≤ 200))) (y_leq rfl rfl) ?_
   refine pl_val (.slice a3376 n3376 c3376) (y_assign rfl) ?_
   refine pl_val (.bool (decide ((s3364.1.length : Int) ≤ 200))) (y_assign rfl) ?_
   refine c_nil ?_
   refine wp_ret ?_
   cases hs
   exact ⟨_, a3376, n3376, c3376, fr_ovl 96 ⟨rfl, rfl, trivial⟩, hC, (Keeps.out hK hv3376)⟩

end Go.Proofs
