/- What functions of the program compute, as plain functions, and that a call gives just that. Conditions: those named in each theorem. -/
import Derived.Test.YtlfpejnpjpmejaaF1
set_option linter.unusedVariables false
namespace Go.Proofs
open Go.G Go.RowKit
set_option maxRecDepth 100000

def k_spec_l18All (M : Nat → Prop) (w0 : World) (r : (List (List (List Int))) × Bool) (a : Act) (w : World) : Prop :=
  ∃ (σ : Nat → Value) (ra0 : Option Addr) (rn0 rc0 : Nat), a = fr 96 (ovl σ [(2, (.slice ra0 rn0 rc0)), (3, (.bool r.2))]) ∧ Chg [] w0 w ∧ (RT.rs (RT.rs (RT.rs (RT.int .i64)))).val (Past M w0 w) w (.slice ra0 rn0 rc0) r.1 []
def s_spec_l18All (a_ : Int × (List (Int × (List Int)))) : Option ((List (List (List Int))) × Bool) :=
  (s_spec_l8Close (a_.1, a_.2) 2 ([])).bind fun r7 =>
  (iter (S := (List (List (List Int))) × (List (List (List Int))) × Int) (R := (List (List (List Int))) × Bool) (fun s2600 =>
  (bif ((decide (s2600.2.2 < (s2600.2.1.length : Int))) && (decide ((s2600.1.length : Int) ≤ 200))) then (iter (S := (List (List (List Int))) × (List (List (List Int))) × Int) (R := (List (List (List Int))) × Bool) (fun s3468 =>
  (bif ((decide (s3468.2.2 < (w64 (a_.1 * a_.1)))) && (decide ((s3468.1.length : Int) ≤ 200))) then (s_spec_l2Args a_.1 2 s3468.2.2).bind fun r3490 =>
  (idx s3468.2.1 s2600.2.2).bind fun x3492 =>
  (s_spec_l8Find x3492 r3490).bind fun r3497 =>
  (bif r3497.2 then some (.nx (s3468.1, s3468.2.1, w64 (s3468.2.2 + 1))) else (idx s3468.2.1 s2600.2.2).bind fun x3500 =>
  (app ([]) x3500).bind fun y3508 =>
  (app y3508 ([r3490])).bind fun y3514 =>
  (s_spec_l8Close (a_.1, a_.2) 2 y3514).bind fun r3518 =>
  (s_spec_l18Put s3468.1 r3518.1).bind fun r3895 =>
  (bif (decide ((s3468.1.length : Int) < (r3895.length : Int))) then (app s3468.2.1 ([r3518.1])).bind fun y3901 =>
  some (.nx (r3895, y3901, w64 (s3468.2.2 + 1))) else some (.nx (s3468.1, s3468.2.1, w64 (s3468.2.2 + 1))))) else some (.br (s3468.1, s3468.2.1, s3468.2.2)))) FU (s2600.1, s2600.2.1, 0)).bind fun o3472 => after o3472 (fun r_ => some (.rt r_)) (fun s3468 =>
  some (.nx (s3468.1, s3468.2.1, w64 (s2600.2.2 + 1)))) else some (.br (s2600.1, s2600.2.1, s2600.2.2)))) FU ([r7.1], [r7.1], 0)).bind fun o2604 => after o2604 (fun r_ => some r_) (fun s2600 =>
  some (s2600.1, (decide ((s2600.1.length : Int) ≤ 200))))
set_option maxHeartbeats 4000000 in
theorem c_spec_l18All {M : Nat → Prop} {w : World} {pa0 : Option Addr} {pn0 pc0 : Nat} (a_ : Int × (List (Int × (List Int)))) (h0 : (RT.rs (RT.pr (RT.int .i64) (RT.rs (RT.int .i64)))).val M w (.slice pa0 pn0 pc0) a_.2 ([])) (hM : ∀ g, w.heap.size ≤ g → M g) {r : (List (List (List Int))) × Bool} (hs : s_spec_l18All a_ = some r) :
    Gives Try.prog 55 [(.agg #[(.int .i64 a_.1), (.slice pa0 pn0 pc0)])] w (fun v w' => ∃ (ra0 : Option Addr) (rn0 rc0 : Nat), v = (.tuple #[(.slice ra0 rn0 rc0), (.bool r.2)]) ∧ Chg [] w w' ∧ (RT.rs (RT.rs (RT.rs (RT.int .i64)))).val (Past M w w') w' (.slice ra0 rn0 rc0) r.1 []) := by
 refine calls_fr Try.func55 rfl Try.ntmps55 (Nat.le_of_ble_eq_true rfl) ?_
 have hO := Own.start (N := Nw w []) hM Nw.fut
 have hC := Chg.refl [] w
 unfold s_spec_l18All at hs
 refine wp_mono (Q := KPost (k_spec_l18All M w r)) ?_ (fun e a w1 h => ?_)
 rotate_left
 ·cases e
  case ret =>
   obtain ⟨σ, ra0, rn0, rc0, rfl, hrest⟩ := h
   exact ret2x Try.results55 (res_tmp rfl) (res_tmp rfl) ⟨ra0, rn0, rc0, rfl, hrest⟩
  all_goals exact (h : False).elim
 refine c_seq (c_region ?_)
 obtain ⟨w2, g2, ew2, eg2, hC2, hb2⟩ := new_block w [(.int .i64 a_.1), (.slice pa0 pn0 pc0)] 34
 refine pl_val (w' := w2) (.pointer (some ⟨g2, 0, none⟩)) (y_box rfl (by rw [ew2, eg2]; kernel_rfl)) ?_
 have h0 := h0.ext hC2
 have hC := hC.ext hC2
 have hO := hO.new1 hC2 eg2 hb2.lt
 refine pl_val (.slice none 0 0) (y_assign rfl) ?_
 refine pl_val (.bool false) (y_assign rfl) ?_
 refine c_nil ?_
 refine c_seq (c_region ?_)
 refine pl_val (.agg #[(.int .i64 a_.1), (.slice pa0 pn0 pc0)]) (y_load rfl ((box_load Ag34 Sz34 hb2 [] [(.int .i64 a_.1), (.slice pa0 pn0 pc0)] [] rfl rfl (fun h => nomatch h)) _ (Chg.refl _ _))) ?_
 obtain ⟨w3, g3, ew3, eg3, hC3, hb3⟩ := new_block w2 [] 25
 refine pl_val (w' := w3) (.slice (some ⟨g3, 0, none⟩) 0 0) (y_bslice rfl (by rw [ew3, eg3]; kernel_rfl)) ?_
 have h0 := h0.ext hC3
 have hb2 := hb2.chg hC3 (fun h => nomatch h)
 have hC := hC.ext hC3
 have hO := hO.new1 hC3 eg3 hb3.lt
 have hv3 := os_of_box (r := (RT.os 3 (RT.int .i64))) (M := M) (css := []) (fps := []) (xs := ([] : List (List Int))) hb3 trivial (Nat.zero_le _) (List.nodup_cons.2 ⟨(fun h => nomatch h), List.nodup_nil⟩)
 have hv3 : (RT.os 25 (RT.os 3 (RT.int .i64))).val M w3 (.slice (some ⟨g3, 0, none⟩) 0 0) [] [g3] := hv3
 obtain ⟨M6, eM6, hs6, hk6, hO, hv6⟩ := frz_own (Frz.os (Frz.os Frz.int)) hv3 hO
 have h0 := h0.sub (M' := M6) hs6
 have hK := hk6
 obtain ⟨r7, hr7, hs⟩ := bind_some hs
 refine pl_call Bd69 rfl (c_spec_l8Close (M := M6) (a_.1, a_.2) 2 ([]) h0 hv6 hO.fut hr7) ?_
 rintro _ w5 ⟨a5x0, n5x0, c5x0, rfl, hC5, hv5x0⟩
 have hK := hK.trans (show Keeps w M6 (Past M6 w3 w5) from Keeps.past hC.size)
 have h0 := h0.ext hC5
 have hb2 := hb2.chg hC5 (fun h => nomatch h)
 have hv6 := hv6.ext hC5
 have hC := hC.ext hC5
 have hO := hO.past hC5
 have h0 := h0.sub (M' := (Past M6 w3 w5)) (fun g hg => .inl hg.1)
 have hv6 := hv6.sub (M' := (Past M6 w3 w5)) (fun g hg => .inl hg.1)
 refine pl_val (.tuple #[(.slice a5x0 n5x0 c5x0), (.bool r7.2)]) (y_move rfl) ?_
 refine pl_val (.slice a5x0 n5x0 c5x0) (y_extract rfl (by kernel_rfl)) ?_
 refine pl_val (.bool r7.2) (y_extract rfl (by kernel_rfl)) ?_
 refine pl_val (.slice a5x0 n5x0 c5x0) (y_assign rfl) ?_
 refine pl_val (.bool r7.2) (y_assign rfl) ?_
 refine c_nil ?_
 refine c_seq (c_region ?_)
 refine pl_val (.slice a5x0 n5x0 c5x0) (y_move rfl) ?_
 obtain ⟨w9, g9, ew9, eg9, hC9, hb9⟩ := new_block w5 [(.slice a5x0 n5x0 c5x0)] 49
 refine pl_val (w' := w9) (.slice (some ⟨g9, 0, none⟩) 1 1) (y_bslice rfl (by rw [ew9, eg9]; kernel_rfl)) ?_
 have h0 := h0.ext hC9
 have hb2 := hb2.chg hC9 (fun h => nomatch h)
 have hv5x0 := hv5x0.ext hC9
 have hC := hC.ext hC9
 have hO := hO.new1 hC9 eg9 hb9.lt
 have hv9 := os_of_box (r := (RT.rs (RT.rs (RT.int .i64)))) (M := (Past M6 w3 w5)) (css := [[(.slice a5x0 n5x0 c5x0)]]) (fps := [([] : List Nat)]) (xs := ([r7.1] : List (List (List Int)))) hb9 ⟨(rs_unval hv5x0), trivial⟩ (Nat.le_of_ble_eq_true rfl) (List.nodup_cons.2 ⟨(fun h => nomatch h), List.nodup_nil⟩)
 have hv9 : (RT.os 49 (RT.rs (RT.rs (RT.int .i64)))).val (Past M6 w3 w5) w9 (.slice (some ⟨g9, 0, none⟩) 1 1) [r7.1] [g9] := hv9
 refine pl_val (.slice a5x0 n5x0 c5x0) (y_move rfl) ?_
 obtain ⟨w11, g11, ew11, eg11, hC11, hb11⟩ := new_block w9 [(.slice a5x0 n5x0 c5x0)] 49
 refine pl_val (w' := w11) (.slice (some ⟨g11, 0, none⟩) 1 1) (y_bslice rfl (by rw [ew11, eg11]; kernel_rfl)) ?_
 have h0 := h0.ext hC11
 have hb2 := hb2.chg hC11 (fun h => nomatch h)
 have hv5x0 := hv5x0.ext hC11
 have hv9 := hv9.ext hC11
 have hC := hC.ext hC11
 have hO := hO.new1 hC11 eg11 hb11.lt
 have hv11 := os_of_box (r := (RT.rs (RT.rs (RT.int .i64)))) (M := (Past M6 w3 w5)) (css := [[(.slice a5x0 n5x0 c5x0)]]) (fps := [([] : List Nat)]) (xs := ([r7.1] : List (List (List Int)))) hb11 ⟨(rs_unval hv5x0), trivial⟩ (Nat.le_of_ble_eq_true rfl) (List.nodup_cons.2 ⟨(fun h => nomatch h), List.nodup_nil⟩)
 have hv11 : (RT.os 49 (RT.rs (RT.rs (RT.int .i64)))).val (Past M6 w3 w5) w11 (.slice (some ⟨g11, 0, none⟩) 1 1) [r7.1] [g11] := hv11
 refine pl_val (.slice (some ⟨g9, 0, none⟩) 1 1) (y_assign rfl) ?_
 refine pl_val (.slice (some ⟨g11, 0, none⟩) 1 1) (y_assign rfl) ?_
 refine c_nil ?_
 refine c_seq ?_
 refine c_seq (c_region ?_)
 refine pl_val (.int .i64 0) (y_assign rfl) ?_
 refine c_nil ?_
 have hO := hO.fr1
 obtain ⟨M2599, eM2599, hs2599, hk2599, hO, hv2599⟩ := frz_own (Frz.os (Frz.rs (Frz.rs Frz.int))) hv9 hO
 have h0 := h0.sub (M' := M2599) hs2599
 have hv11 := hv11.sub (M' := M2599) hs2599
 have hK := hK.trans hk2599
 obtain ⟨o2604, hl2605, hs⟩ := bind_some hs
 refine wp_block ?_
 refine wp_iter (id := 0) (I := fun s2600 a w2601 => ∃ (σ : Nat → Value) (M2606 : Nat → Prop) (a2607 : Option Addr) (n2607 : Nat) (c2607 : Nat) (a2609 : Option Addr) (n2609 : Nat) (c2609 : Nat) (f2609 : List Nat), a = fr 96 (ovl σ [(1, (.pointer (some ⟨g2, 0, none⟩))), (6, (.slice a2607 n2607 c2607)), (7, (.slice a2609 n2609 c2609)), (8, (.int .i64 s2600.2.2))]) ∧ Chg [] w w2601 ∧ Own (Nw w []) M2606 w2601 (f2609 ++ (([g2]) ++ [])) ∧ Keeps w M M2606 ∧ (RT.rs (RT.pr (RT.int .i64) (RT.rs (RT.int .i64)))).val M2606 w2601 (.slice pa0 pn0 pc0) a_.2 ([]) ∧ BoxV w2601 g2 34 [(.int .i64 a_.1), (.slice pa0 pn0 pc0)] ∧ (RT.rs (RT.rs (RT.rs (RT.int .i64)))).val M2606 w2601 (.slice a2607 n2607 c2607) s2600.1 ([]) ∧ (RT.os 49 (RT.rs (RT.rs (RT.int .i64)))).val M2606 w2601 (.slice a2609 n2609 c2609) s2600.2.1 f2609) (J := fun s2600 a w2601 => ∃ (σ : Nat → Value) (M2611 : Nat → Prop) (a2612 : Option Addr) (n2612 : Nat) (c2612 : Nat) (a2614 : Option Addr) (n2614 : Nat) (c2614 : Nat) (f2614 : List Nat), a = fr 96 (ovl σ [(6, (.slice a2612 n2612 c2612))]) ∧ Chg [] w w2601 ∧ Own (Nw w []) M2611 w2601 (f2614 ++ (([g2]) ++ [])) ∧ Keeps w M M2611 ∧ (RT.rs (RT.pr (RT.int .i64) (RT.rs (RT.int .i64)))).val M2611 w2601 (.slice pa0 pn0 pc0) a_.2 ([]) ∧ BoxV w2601 g2 34 [(.int .i64 a_.1), (.slice pa0 pn0 pc0)] ∧ (RT.rs (RT.rs (RT.rs (RT.int .i64)))).val M2611 w2601 (.slice a2612 n2612 c2612) s2600.1 ([]) ∧ (RT.os 49 (RT.rs (RT.rs (RT.int .i64)))).val M2611 w2601 (.slice a2614 n2614 c2614) s2600.2.1 f2614) (K := (k_spec_l18All M w)) ?_ FU ([r7.1], [r7.1], 0) o2604 _ _ ?_ hl2605 ?_
 ·rintro s2600 o2604 a w2601 ⟨σ, M2606, a2607, n2607, c2607, a2609, n2609, c2609, f2609, rfl, hC, hO, hK, h0, hb2, hv2607, hv2609⟩ hs
  refine c_seq ?_
  refine c_seq ?_
  refine c_mid (I := fun a w2617 => ∃ (σ : Nat → Value), a = fr 96 (ovl σ [(1, (.pointer (some ⟨g2, 0, none⟩))), (6, (.slice a2607 n2607 c2607)), (7, (.slice a2609 n2609 c2609)), (8, (.int .i64 s2600.2.2)), (34, (.bool ((decide (s2600.2.2 < (s2600.2.1.length : Int))) && (decide ((s2600.1.length : Int) ≤ 200)))))]) ∧ Chg [] w2601 w2617) ?_ ?_
  ·have hMid := Chg.refl [] w2601
   refine c_region ?_
   refine pl_val (.int .i64 s2600.2.2) (y_move rfl) ?_
   refine pl_val (.slice a2609 n2609 c2609) (y_move rfl) ?_
   refine pl_val (.int .i64 (s2600.2.1.length : Int)) (y_len' Sl59 (os_len hv2609) rfl) ?_
   refine pl_val (.bool (decide (s2600.2.2 < (s2600.2.1.length : Int)))) (y_lss rfl rfl) ?_
   refine pl_val (.bool (decide (s2600.2.2 < (s2600.2.1.length : Int)))) (y_move rfl) ?_
   rcases Bool.eq_false_or_eq_true ((decide (s2600.2.2 < (s2600.2.1.length : Int)))) with hc2619 | hc2619
   ·skip
    refine pl_yes (.slice a2607 n2607 c2607) (tg := 30) (by kernel_rfl) (congrArg Value.bool hc2619) (y_move rfl) ?_
    refine pl_yes (.int .i64 (s2600.1.length : Int)) (tg := 30) (by kernel_rfl) (congrArg Value.bool hc2619) (y_len' Sl59 (rs_len hv2607) rfl) ?_
    refine pl_yes (.bool (decide ((s2600.1.length : Int) ≤ 200))) (tg := 30) (by kernel_rfl) (congrArg Value.bool hc2619) (y_leq rfl rfl) ?_
    refine pl_val (.bool ((decide (s2600.2.2 < (s2600.2.1.length : Int))) && (decide ((s2600.1.length : Int) ≤ 200)))) (y_pick_t (congrArg Value.bool hc2619) (congrArg Value.bool (by rw [hc2619]; rfl))) ?_
    refine c_nil ?_
    exact ⟨_, fr_ovl 96 ⟨rfl, rfl, rfl, rfl, rfl, trivial⟩, hMid⟩
   ·skip
    refine pl_not (tg := 30) (by kernel_rfl) (congrArg Value.bool hc2619) ?_
    refine pl_not (tg := 30) (by kernel_rfl) (congrArg Value.bool hc2619) ?_
    refine pl_not (tg := 30) (by kernel_rfl) (congrArg Value.bool hc2619) ?_
    refine pl_val (.bool ((decide (s2600.2.2 < (s2600.2.1.length : Int))) && (decide ((s2600.1.length : Int) ≤ 200)))) (y_pick_f (congrArg Value.bool hc2619) (congrArg Value.bool (by rw [hc2619]; rfl))) ?_
    refine c_nil ?_
    exact ⟨_, fr_ovl 96 ⟨rfl, rfl, rfl, rfl, rfl, trivial⟩, hMid⟩
  ·rintro a1 w2617 ⟨σ, rfl, hCs2616⟩
   have h0 := h0.ext hCs2616
   have hb2 := hb2.chg hCs2616 (fun h => nomatch h)
   have hv2607 := hv2607.ext hCs2616
   have hv2609 := hv2609.ext hCs2616
   have hC := hC.ext hCs2616
   have hO := hO.ext hCs2616
   rcases bif_some hs with ⟨hc2620, hs⟩ | ⟨hc2620, hs⟩
   ·skip
    refine c_condT (congrArg Value.bool hc2620) ?_
    refine wp_skip ?_
    refine c_seq ?_
    refine wp_block ?_
    refine c_seq (c_region ?_)
    refine pl_val (.int .i64 0) (y_assign rfl) ?_
    refine c_nil ?_
    obtain ⟨o3472, hl3473, hs⟩ := bind_some hs
    refine wp_block ?_
    refine wp_iter (id := 2) (I := fun s3468 a w3469 => ∃ (σ : Nat → Value) (M3474 : Nat → Prop) (a3475 : Option Addr) (n3475 : Nat) (c3475 : Nat) (a3477 : Option Addr) (n3477 : Nat) (c3477 : Nat) (f3477 : List Nat), a = fr 96 (ovl σ [(1, (.pointer (some ⟨g2, 0, none⟩))), (6, (.slice a3475 n3475 c3475)), (7, (.slice a3477 n3477 c3477)), (8, (.int .i64 s2600.2.2)), (9, (.int .i64 s3468.2.2))]) ∧ Chg [] w w3469 ∧ Own (Nw w []) M3474 w3469 (f3477 ++ (([g2]) ++ [])) ∧ Keeps w M M3474 ∧ (RT.rs (RT.pr (RT.int .i64) (RT.rs (RT.int .i64)))).val M3474 w3469 (.slice pa0 pn0 pc0) a_.2 ([]) ∧ BoxV w3469 g2 34 [(.int .i64 a_.1), (.slice pa0 pn0 pc0)] ∧ (RT.rs (RT.rs (RT.rs (RT.int .i64)))).val M3474 w3469 (.slice a3475 n3475 c3475) s3468.1 ([]) ∧ (RT.os 49 (RT.rs (RT.rs (RT.int .i64)))).val M3474 w3469 (.slice a3477 n3477 c3477) s3468.2.1 f3477) (J := fun s3468 a w3469 => ∃ (σ : Nat → Value) (M3479 : Nat → Prop) (a3480 : Option Addr) (n3480 : Nat) (c3480 : Nat) (a3482 : Option Addr) (n3482 : Nat) (c3482 : Nat) (f3482 : List Nat), a = fr 96 (ovl σ [(1, (.pointer (some ⟨g2, 0, none⟩))), (6, (.slice a3480 n3480 c3480)), (7, (.slice a3482 n3482 c3482)), (8, (.int .i64 s2600.2.2))]) ∧ Chg [] w w3469 ∧ Own (Nw w []) M3479 w3469 (f3482 ++ (([g2]) ++ [])) ∧ Keeps w M M3479 ∧ (RT.rs (RT.pr (RT.int .i64) (RT.rs (RT.int .i64)))).val M3479 w3469 (.slice pa0 pn0 pc0) a_.2 ([]) ∧ BoxV w3469 g2 34 [(.int .i64 a_.1), (.slice pa0 pn0 pc0)] ∧ (RT.rs (RT.rs (RT.rs (RT.int .i64)))).val M3479 w3469 (.slice a3480 n3480 c3480) s3468.1 ([]) ∧ (RT.os 49 (RT.rs (RT.rs (RT.int .i64)))).val M3479 w3469 (.slice a3482 n3482 c3482) s3468.2.1 f3482) (K := (k_spec_l18All M w)) ?_ FU (s2600.1, s2600.2.1, 0) o3472 _ _ ?_ hl3473 ?_
    ·rintro s3468 o3472 a w3469 ⟨σ, M3474, a3475, n3475, c3475, a3477, n3477, c3477, f3477, rfl, hC, hO, hK, h0, hb2, hv3475, hv3477⟩ hs
     refine c_seq ?_
     refine c_seq ?_
     refine c_mid (I := fun a w3485 => ∃ (σ : Nat → Value), a = fr 96 (ovl σ [(1, (.pointer (some ⟨g2, 0, none⟩))), (6, (.slice a3475 n3475 c3475)), (7, (.slice a3477 n3477 c3477)), (8, (.int .i64 s2600.2.2)), (9, (.int .i64 s3468.2.2)), (48, (.bool ((decide (s3468.2.2 < (w64 (a_.1 * a_.1)))) && (decide ((s3468.1.length : Int) ≤ 200)))))]) ∧ Chg [] w3469 w3485) ?_ ?_
     ·have hMid := Chg.refl [] w3469
      refine c_region ?_
      refine pl_val (.int .i64 s3468.2.2) (y_move rfl) ?_
      refine pl_val (.pointer (some ⟨g2, 0, none⟩)) (y_faddr rfl Fa34x0) ?_
      refine pl_val (.int .i64 a_.1) (y_load rfl ((box_load Ag3 Sz3 hb2 [] [(.int .i64 a_.1)] [(.slice pa0 pn0 pc0)] rfl rfl (fun _ => rfl)) _ (Chg.refl _ _))) ?_
      refine pl_val (.pointer (some ⟨g2, 0, none⟩)) (y_faddr rfl Fa34x0) ?_
      refine pl_val (.int .i64 a_.1) (y_load rfl ((box_load Ag3 Sz3 hb2 [] [(.int .i64 a_.1)] [(.slice pa0 pn0 pc0)] rfl rfl (fun _ => rfl)) _ (Chg.refl _ _))) ?_
      refine pl_val (.int .i64 (w64 (a_.1 * a_.1))) (y_mul rfl rfl) ?_
      refine pl_val (.bool (decide (s3468.2.2 < (w64 (a_.1 * a_.1))))) (y_lss rfl rfl) ?_
      refine pl_val (.bool (decide (s3468.2.2 < (w64 (a_.1 * a_.1))))) (y_move rfl) ?_
      rcases Bool.eq_false_or_eq_true ((decide (s3468.2.2 < (w64 (a_.1 * a_.1))))) with hc3487 | hc3487
      ·skip
       refine pl_yes (.slice a3475 n3475 c3475) (tg := 44) (by kernel_rfl) (congrArg Value.bool hc3487) (y_move rfl) ?_
       refine pl_yes (.int .i64 (s3468.1.length : Int)) (tg := 44) (by kernel_rfl) (congrArg Value.bool hc3487) (y_len' Sl59 (rs_len hv3475) rfl) ?_
       refine pl_yes (.bool (decide ((s3468.1.length : Int) ≤ 200))) (tg := 44) (by kernel_rfl) (congrArg Value.bool hc3487) (y_leq rfl rfl) ?_
       refine pl_val (.bool ((decide (s3468.2.2 < (w64 (a_.1 * a_.1)))) && (decide ((s3468.1.length : Int) ≤ 200)))) (y_pick_t (congrArg Value.bool hc3487) (congrArg Value.bool (by rw [hc3487]; rfl))) ?_
       refine c_nil ?_
       exact ⟨_, fr_ovl 96 ⟨rfl, rfl, rfl, rfl, rfl, rfl, trivial⟩, hMid⟩
      ·skip
       refine pl_not (tg := 44) (by kernel_rfl) (congrArg Value.bool hc3487) ?_
       refine pl_not (tg := 44) (by kernel_rfl) (congrArg Value.bool hc3487) ?_
       refine pl_not (tg := 44) (by kernel_rfl) (congrArg Value.bool hc3487) ?_
       refine pl_val (.bool ((decide (s3468.2.2 < (w64 (a_.1 * a_.1)))) && (decide ((s3468.1.length : Int) ≤ 200)))) (y_pick_f (congrArg Value.bool hc3487) (congrArg Value.bool (by rw [hc3487]; rfl))) ?_
       refine c_nil ?_
       exact ⟨_, fr_ovl 96 ⟨rfl, rfl, rfl, rfl, rfl, rfl, trivial⟩, hMid⟩
     ·rintro a1 w3485 ⟨σ, rfl, hCs3484⟩
      have h0 := h0.ext hCs3484
      have hb2 := hb2.chg hCs3484 (fun h => nomatch h)
      have hv3475 := hv3475.ext hCs3484
      have hv3477 := hv3477.ext hCs3484
      have hC := hC.ext hCs3484
      have hO := hO.ext hCs3484
      rcases bif_some hs with ⟨hc3488, hs⟩ | ⟨hc3488, hs⟩
      ·skip
       refine c_condT (congrArg Value.bool hc3488) ?_
       refine wp_skip ?_
       refine c_seq ?_
       refine wp_block ?_
       refine c_seq (c_region ?_)
       refine pl_val (.pointer (some ⟨g2, 0, none⟩)) (y_faddr rfl Fa34x0) ?_
       refine pl_val (.int .i64 a_.1) (y_load rfl ((box_load Ag3 Sz3 hb2 [] [(.int .i64 a_.1)] [(.slice pa0 pn0 pc0)] rfl rfl (fun _ => rfl)) _ (Chg.refl _ _))) ?_
       refine pl_val (.int .i64 s3468.2.2) (y_move rfl) ?_
       obtain ⟨r3490, hr3490, hs⟩ := bind_some hs
       refine pl_call Bd70 rfl (c_spec_l2Args (M := M3474) a_.1 2 s3468.2.2  hO.fut hr3490) ?_
       rintro _ w3489 ⟨a3489x0, n3489x0, c3489x0, f3489x0, rfl, hC3489, hv3489x0, hOc3489⟩
       have h0 := h0.ext hC3489
       have hb2 := hb2.chg hC3489 (fun h => nomatch h)
       have hv3475 := hv3475.ext hC3489
       have hv3477 := hv3477.ext hC3489
       have hC := hC.ext hC3489
       have hO := Own.join0 hO hC3489 hOc3489
       have hO := hO.perm (R := f3489x0 ++ (f3477 ++ (([g2]) ++ ([])))) (by simp)
       refine pl_val (.slice a3489x0 n3489x0 c3489x0) (y_assign rfl) ?_
       refine c_nil ?_
       refine c_seq ?_
       refine c_seq (c_region ?_)
       refine pl_val (.slice a3477 n3477 c3477) (y_move rfl) ?_
       refine pl_val (.int .i64 s2600.2.2) (y_move rfl) ?_
       obtain ⟨x3492, hx3492, hs⟩ := bind_some hs
       obtain ⟨g3493, f3493, hg3493, hk3493, hp3493, ha3493, hf3493⟩ := os_idx Sl59 Sz49 hv3477 hx3492
       have hb3493 := rd_row Rd.rs ha3493
       refine pl_val (.pointer (some ⟨g3493, 0 + Int.toNat s2600.2.2 * 1, none⟩)) (hp3493 _ _ _ _ _ _ _ _ _ rfl rfl) ?_
       obtain ⟨v3494, hl3494, hv3494⟩ := at_load Ag49 Sz49 (fun _ => rfl) hb3493
       obtain ⟨a3494, n3494, c3494, rfl⟩ := rs_sl hv3494
       refine pl_val (.slice a3494 n3494 c3494) (y_load rfl (hl3494 _ (Chg.refl _ _))) ?_
       refine pl_val (.slice a3489x0 n3489x0 c3489x0) (y_move rfl) ?_
       obtain ⟨r3497, hr3497, hs⟩ := bind_some hs
       refine pl_call Bd71 rfl (c_spec_l8Find (M := (Less M3474 f3489x0)) x3492 r3490 (hv3494.sub Less.sub) (((Frz.os Frz.int)).val hv3489x0 Less.sub Less.not) hO.less.fut hr3497) ?_
       rintro _ w3496 ⟨rfl, hC3496⟩
       have h0 := h0.ext hC3496
       have hb2 := hb2.chg hC3496 (fun h => nomatch h)
       have hv3475 := hv3475.ext hC3496
       have hv3477 := hv3477.ext hC3496
       have hv3489x0 := hv3489x0.ext hC3496
       have hv3494 := hv3494.ext hC3496
       have hC := hC.ext hC3496
       have hO := hO.ext hC3496
       refine pl_val (.tuple #[(.int .i64 r3497.1), (.bool r3497.2)]) (y_move rfl) ?_
       refine pl_val (.int .i64 r3497.1) (y_extract rfl (by kernel_rfl)) ?_
       refine pl_val (.bool r3497.2) (y_extract rfl (by kernel_rfl)) ?_
       refine pl_val (.int .i64 r3497.1) (y_assign rfl) ?_
       refine pl_val (.bool r3497.2) (y_assign rfl) ?_
       refine c_nil ?_
       refine c_seq (c_region ?_)
       refine pl_val (.bool r3497.2) (y_move rfl) ?_
       refine c_nil ?_
       rcases bif_some hs with ⟨hc3498, hs⟩ | ⟨hc3498, hs⟩
       ·skip
        refine c_condT (congrArg Value.bool hc3498) ?_
        refine wp_exit ?_
        refine c_region ?_
        refine pl_val (.int .i64 s3468.2.2) (y_move rfl) ?_
        refine pl_val (.int .i64 (w64 (s3468.2.2 + 1))) (y_add rfl rfl) ?_
        refine pl_val (.int .i64 (w64 (s3468.2.2 + 1))) (y_assign rfl) ?_
        refine c_nil ?_
        cases hs
        have hO := hO.drop
        have hO := hO.fr1
        have hO := hO.fr1
        exact ⟨_, M3474, a3475, n3475, c3475, a3477, n3477, c3477, f3477, fr_ovl 96 ⟨rfl, rfl, rfl, rfl, rfl, trivial⟩, hC, hO, hK, h0, hb2, hv3475, hv3477⟩
       ·skip
        refine c_condF (congrArg Value.bool hc3498) ?_
        refine wp_skip ?_
        refine c_seq ?_
        obtain ⟨x3500, hx3500, hs⟩ := bind_some hs
        obtain ⟨y3508, hy3508, hs⟩ := bind_some hs
        obtain ⟨y3514, hy3514, hs⟩ := bind_some hs
        obtain ⟨r3518, hr3518, hs⟩ := bind_some hs
        refine c_mid (I := fun a w3516 => ∃ (σ : Nat → Value) (M3696 : Nat → Prop) (a3516x0 : Option Addr) (c3516x0 : Nat) (n3516x0 : Nat), a = fr 96 (ovl σ [(1, (.pointer (some ⟨g2, 0, none⟩))), (6, (.slice a3475 n3475 c3475)), (7, (.slice a3477 n3477 c3477)), (8, (.int .i64 s2600.2.2)), (9, (.int .i64 s3468.2.2)), (13, (.slice a3516x0 n3516x0 c3516x0))]) ∧ Chg [] w w3516 ∧ Own (Nw w []) M3696 w3516 (f3477 ++ (([g2]) ++ [])) ∧ Keeps w M M3696 ∧ (RT.rs (RT.pr (RT.int .i64) (RT.rs (RT.int .i64)))).val M3696 w3516 (.slice pa0 pn0 pc0) a_.2 ([]) ∧ BoxV w3516 g2 34 [(.int .i64 a_.1), (.slice pa0 pn0 pc0)] ∧ (RT.rs (RT.rs (RT.rs (RT.int .i64)))).val M3696 w3516 (.slice a3475 n3475 c3475) s3468.1 ([]) ∧ (RT.os 49 (RT.rs (RT.rs (RT.int .i64)))).val M3696 w3516 (.slice a3477 n3477 c3477) s3468.2.1 f3477 ∧ (RT.rs (RT.rs (RT.int .i64))).val M3696 w3516 (.slice a3516x0 n3516x0 c3516x0) r3518.1 ([])) ?_ ?_
        ·skip
         refine x_start [6, 9, 10] Mx rfl ?_
         have hCw3697 := Chg.drew w3496
         generalize World.drew w3496 = w3697 at hCw3697 ⊢
         have h0 := h0.ext hCw3697
         have hb2 := hb2.chg hCw3697 (fun h => nomatch h)
         have hv3475 := hv3475.ext hCw3697
         have hv3477 := hv3477.ext hCw3697
         have hv3489x0 := hv3489x0.ext hCw3697
         have hC := hC.ext hCw3697
         have hO := hO.ext hCw3697
         have hS := Chg.refl [] w3697
         refine x_p 2 (.slice a3477 n3477 c3477) rfl (by kernel_rfl)  (fun _ => y_move rfl) (fun _ => hS) ?_
         refine x_p 3 (.int .i64 s2600.2.2) rfl (by kernel_rfl)  (fun _ => y_move rfl) (fun _ => hS) ?_
         obtain ⟨g3699, f3699, hg3699, hk3699, hp3699, ha3699, hf3699⟩ := os_idx Sl59 Sz49 hv3477 hx3500
         have hb3699 := rd_row Rd.rs ha3699
         refine x_p 4 (.pointer (some ⟨g3699, 0 + Int.toNat s2600.2.2 * 1, none⟩)) rfl (by kernel_rfl)  (fun _ => hp3699 _ _ _ _ _ _ _ _ _ rfl rfl) (fun _ => hS) ?_
         obtain ⟨v3700, hl3700, hv3700⟩ := at_load Ag49 Sz49 (fun _ => rfl) hb3699
         obtain ⟨a3700, n3700, c3700, rfl⟩ := rs_sl hv3700
         refine x_l 5 (.slice a3700 n3700 c3700) rfl (by kernel_rfl)  (fun w' hw' => y_load rfl (hl3700 w' hw')) hS ?_
         refine x_p 7 (.slice a3489x0 n3489x0 c3489x0) rfl (by kernel_rfl)  (fun _ => y_move rfl) (fun _ => hS) ?_
         refine x_many [0, 1, 8] (by kernel_rfl) (fun h => nomatch h) (all3 ?_ ?_ ?_)
         ·skip
          refine xk_val (b := false) (.agg #[(.int .i64 a_.1), (.slice pa0 pn0 pc0)]) rfl  (y_load rfl ((box_load Ag34 Sz34 hb2 [] [(.int .i64 a_.1), (.slice pa0 pn0 pc0)] [] rfl rfl (fun h => nomatch h)) _ (Chg.refl _ _))) rfl (fun _ => hS) ?_
          refine x_two (i := 1) (j := 8) (by kernel_rfl) ?_ ?_
          ·skip
           obtain ⟨w3702, g3702, ew3702, eg3702, hC3702, hb3702⟩ := new_block w3697 [] 25
           refine xk_val (w' := w3702) (b := false) (.slice (some ⟨g3702, 0, none⟩) 0 0) rfl  (y_bslice rfl (by rw [ew3702, eg3702]; kernel_rfl)) rfl (fun _ => hS.ext hC3702) ?_
           have h0 := h0.ext hC3702
           have hb2 := hb2.chg hC3702 (fun h => nomatch h)
           have hv3475 := hv3475.ext hC3702
           have hv3477 := hv3477.ext hC3702
           have hv3489x0 := hv3489x0.ext hC3702
           have hv3700 := hv3700.ext hC3702
           have hC := hC.ext hC3702
           have hO := hO.new1 hC3702 eg3702 hb3702.lt
           have hv3702 := os_of_box (r := (RT.os 3 (RT.int .i64))) (M := M3474) (css := []) (fps := []) (xs := ([] : List (List Int))) hb3702 trivial (Nat.zero_le _) (List.nodup_cons.2 ⟨(fun h => nomatch h), List.nodup_nil⟩)
           have hv3702 : (RT.os 25 (RT.os 3 (RT.int .i64))).val M3474 w3702 (.slice (some ⟨g3702, 0, none⟩) 0 0) [] [g3702] := hv3702
           have hS := hS.ext hC3702
           refine x_two (i := 6) (j := 8) (by kernel_rfl) ?_ ?_
           ·skip
            obtain ⟨M3705, f3705, hs3705, hk3705, hO, hv3705⟩ := os_inner (Frz.os Frz.int) hv3702 hO
            have h0 := h0.sub (M' := M3705) hs3705
            have hv3475 := hv3475.sub (M' := M3705) hs3705
            have hv3477 := hv3477.sub (M' := M3705) hs3705
            have hv3489x0 := hv3489x0.sub (M' := M3705) hs3705
            have hv3700 := hv3700.sub (M' := M3705) hs3705
            have hK := hK.trans hk3705
            obtain ⟨a3704, n3704, c3704, w3704, f3704, hr3704, hC3704, hf3704, hv3704⟩ := app_rs Rw49 hy3508 hv3705 hv3700 hO.inM
            have hG3704 := os_block hv3705
            refine xk_val (w' := w3704) (b := true) (.slice a3704 n3704 c3704) rfl  (y_append rfl rfl (hr3704 _)) rfl (fun h => nomatch h) ?_
            have h0 := h0.mut hC3704 (fun g hg => hO.inM g (hG3704 g hg)) (fun _ _ h => nomatch h)
            have hb2 := hb2.chg hC3704 (fun hg => hO.apart _ (hG3704 _ hg) (mem_r (mem_r (mem_l (List.mem_singleton.2 rfl)))))
            have hv3475 := hv3475.mut hC3704 (fun g hg => hO.inM g (hG3704 g hg)) (fun _ _ h => nomatch h)
            have hv3477 := hv3477.mut hC3704 (fun g hg => hO.inM g (hG3704 g hg)) (fun g hg e => hO.apart g (hG3704 g hg) (mem_r (mem_l (e))))
            have hv3489x0 := hv3489x0.mut hC3704 (fun g hg => hO.inM g (hG3704 g hg)) (fun g hg e => hO.apart g (hG3704 g hg) (mem_l (e)))
            have hv3700 := hv3700.mut hC3704 (fun g hg => hO.inM g (hG3704 g hg)) (fun _ _ h => nomatch h)
            have hC := hC.step hC3704 (fun g hg => hO.inN g (hG3704 g hg))
            have hO := hO.grow hC3704 hf3704 (os_nodup hv3704) hv3704.fpl
            refine x_one (i := 8) (by kernel_rfl) ?_
            obtain ⟨w3708, g3708, ew3708, eg3708, hC3708, hb3708⟩ := new_block w3704 [(.slice a3489x0 n3489x0 c3489x0)] 25
            refine xk_val (w' := w3708) (b := true) (.slice (some ⟨g3708, 0, none⟩) 1 1) rfl  (y_bslice rfl (by rw [ew3708, eg3708]; kernel_rfl)) rfl (fun h => nomatch h) ?_
            have h0 := h0.ext hC3708
            have hb2 := hb2.chg hC3708 (fun h => nomatch h)
            have hv3475 := hv3475.ext hC3708
            have hv3477 := hv3477.ext hC3708
            have hv3489x0 := hv3489x0.ext hC3708
            have hv3700 := hv3700.ext hC3708
            have hv3704 := hv3704.ext hC3708
            have hC := hC.ext hC3708
            have hO := hO.fr1
            have hO := hO.new1 hC3708 eg3708 hb3708.lt
            have hO := hO.perm (R := (g3708 :: ((f3489x0) ++ ([]))) ++ (f3704 ++ (f3477 ++ (([g2]) ++ ([]))))) (by simp)
            have hnd3708 := hO.nd
            have hv3708 := os_of_box (r := (RT.os 3 (RT.int .i64))) (M := M3705) (css := [[(.slice a3489x0 n3489x0 c3489x0)]]) (fps := [(f3489x0 : List Nat)]) (xs := ([r3490] : List (List Int))) hb3708 ⟨(os_unval hv3489x0), trivial⟩ (Nat.le_of_ble_eq_true rfl) hnd3708
            have hv3708 : (RT.os 25 (RT.os 3 (RT.int .i64))).val M3705 w3708 (.slice (some ⟨g3708, 0, none⟩) 1 1) [r3490] (g3708 :: ((f3489x0) ++ ([]))) := hv3708
            refine x_one (i := 9) (by kernel_rfl) ?_
            obtain ⟨M3711, f3711, hs3711, hk3711, hO, hv3711⟩ := os_inner (Frz.os Frz.int) hv3708 hO
            have h0 := h0.sub (M' := M3711) hs3711
            have hv3475 := hv3475.sub (M' := M3711) hs3711
            have hv3477 := hv3477.sub (M' := M3711) hs3711
            have hv3700 := hv3700.sub (M' := M3711) hs3711
            have hv3704 := hv3704.sub (M' := M3711) hs3711
            have hK := hK.trans hk3711
            have hO := hO.fr1
            obtain ⟨a3710, n3710, c3710, w3710, f3710, hr3710, hC3710, hf3710, hv3710⟩ := app_os Rw49 hy3514 hv3704 hv3711 hO.inM (fun g hg hq => hO.apart g hq (mem_l hg))
            have hG3710 := os_block hv3704
            refine xk_val (w' := w3710) (b := true) (.slice a3710 n3710 c3710) rfl  (y_append rfl rfl (hr3710 _)) rfl (fun h => nomatch h) ?_
            have hO := hO.fr1
            have hO := hO.fr1
            have h0 := h0.mut hC3710 (fun g hg => hO.inM g (hG3710 g hg)) (fun _ _ h => nomatch h)
            have hb2 := hb2.chg hC3710 (fun hg => hO.apart _ (hG3710 _ hg) (mem_r (mem_r (mem_l (List.mem_singleton.2 rfl)))))
            have hv3475 := hv3475.mut hC3710 (fun g hg => hO.inM g (hG3710 g hg)) (fun _ _ h => nomatch h)
            have hv3477 := hv3477.mut hC3710 (fun g hg => hO.inM g (hG3710 g hg)) (fun g hg e => hO.apart g (hG3710 g hg) (mem_r (mem_l (e))))
            have hv3700 := hv3700.mut hC3710 (fun g hg => hO.inM g (hG3710 g hg)) (fun _ _ h => nomatch h)
            have hC := hC.step hC3710 (fun g hg => hO.inN g (hG3710 g hg))
            have hO := hO.eat hC3710 hf3710 (os_nodup hv3710) hv3710.fpl
            refine x_one (i := 10) (by kernel_rfl) ?_
            obtain ⟨M3715, eM3715, hs3715, hk3715, hO, hv3715⟩ := frz_own (Frz.os (Frz.rs Frz.int)) hv3710 hO
            have h0 := h0.sub (M' := M3715) hs3715
            have hv3475 := hv3475.sub (M' := M3715) hs3715
            have hv3477 := hv3477.sub (M' := M3715) hs3715
            have hv3700 := hv3700.sub (M' := M3715) hs3715
            have hK := hK.trans hk3715
            refine xk_call (b := true) rfl  Bd69 rfl (c_spec_l8Close (M := M3715) (a_.1, a_.2) 2 y3514 h0 hv3715 hO.fut hr3518) rfl (fun h => nomatch h) ?_
            rintro _ w3714 ⟨a3714x0, n3714x0, c3714x0, rfl, hC3714, hv3714x0⟩
            have hK := hK.trans (show Keeps w M3715 (Past M3715 w3710 w3714) from Keeps.past hC.size)
            have h0 := h0.ext hC3714
            have hb2 := hb2.chg hC3714 (fun h => nomatch h)
            have hv3475 := hv3475.ext hC3714
            have hv3477 := hv3477.ext hC3714
            have hv3700 := hv3700.ext hC3714
            have hv3715 := hv3715.ext hC3714
            have hC := hC.ext hC3714
            have hO := hO.past hC3714
            have h0 := h0.sub (M' := (Past M3715 w3710 w3714)) (fun g hg => .inl hg.1)
            have hv3475 := hv3475.sub (M' := (Past M3715 w3710 w3714)) (fun g hg => .inl hg.1)
            have hv3477 := hv3477.sub (M' := (Past M3715 w3710 w3714)) (fun g hg => .inl hg.1)
            have hv3700 := hv3700.sub (M' := (Past M3715 w3710 w3714)) (fun g hg => .inl hg.1)
            have hv3715 := hv3715.sub (M' := (Past M3715 w3710 w3714)) (fun g hg => .inl hg.1)
            refine x_p 11 (.tuple #[(.slice a3714x0 n3714x0 c3714x0), (.bool r3518.2)]) rfl (by kernel_rfl)  (fun _ => y_move rfl) (fun h => nomatch h) ?_
            refine x_p 12 (.slice a3714x0 n3714x0 c3714x0) rfl (by kernel_rfl)  (fun _ => y_extract rfl (by kernel_rfl)) (fun h => nomatch h) ?_
            refine x_p 13 (.bool r3518.2) rfl (by kernel_rfl)  (fun _ => y_extract rfl (by kernel_rfl)) (fun h => nomatch h) ?_
            refine x_p 14 (.slice a3714x0 n3714x0 c3714x0) rfl (by kernel_rfl)  (fun _ => y_assign rfl) (fun h => nomatch h) ?_
            refine x_p 15 (.bool r3518.2) rfl (by kernel_rfl)  (fun _ => y_assign rfl) (fun h => nomatch h) ?_
            refine x_end (by kernel_rfl) ?_
            clear hS
            have hO := hO.fr1
            have hO := hO.fr1
            exact ⟨_, (Past M3715 w3710 w3714), a3714x0, c3714x0, n3714x0, fr_ovl 96 ⟨rfl, rfl, rfl, rfl, rfl, rfl, trivial⟩, hC, hO, hK, h0, hb2, hv3475, hv3477, hv3714x0⟩
           ·skip
            obtain ⟨w3718, g3718, ew3718, eg3718, hC3718, hb3718⟩ := new_block w3702 [(.slice a3489x0 n3489x0 c3489x0)] 25
            refine xk_val (w' := w3718) (b := false) (.slice (some ⟨g3718, 0, none⟩) 1 1) rfl  (y_bslice rfl (by rw [ew3718, eg3718]; kernel_rfl)) rfl (fun _ => hS.ext hC3718) ?_
            have h0 := h0.ext hC3718
            have hb2 := hb2.chg hC3718 (fun h => nomatch h)
            have hv3475 := hv3475.ext hC3718
            have hv3477 := hv3477.ext hC3718
            have hv3489x0 := hv3489x0.ext hC3718
            have hv3700 := hv3700.ext hC3718
            have hv3702 := hv3702.ext hC3718
            have hC := hC.ext hC3718
            have hO := hO.fr1
            have hO := hO.new1 hC3718 eg3718 hb3718.lt
            have hO := hO.perm (R := (g3718 :: ((f3489x0) ++ ([]))) ++ (([g3702]) ++ (f3477 ++ (([g2]) ++ ([]))))) (by simp)
            have hnd3718 := hO.nd
            have hv3718 := os_of_box (r := (RT.os 3 (RT.int .i64))) (M := M3474) (css := [[(.slice a3489x0 n3489x0 c3489x0)]]) (fps := [(f3489x0 : List Nat)]) (xs := ([r3490] : List (List Int))) hb3718 ⟨(os_unval hv3489x0), trivial⟩ (Nat.le_of_ble_eq_true rfl) hnd3718
            have hv3718 : (RT.os 25 (RT.os 3 (RT.int .i64))).val M3474 w3718 (.slice (some ⟨g3718, 0, none⟩) 1 1) [r3490] (g3718 :: ((f3489x0) ++ ([]))) := hv3718
            have hS := hS.ext hC3718
            refine x_one (i := 6) (by kernel_rfl) ?_
            have hO := hO.fr1
            obtain ⟨M3721, f3721, hs3721, hk3721, hO, hv3721⟩ := os_inner (Frz.os Frz.int) hv3702 hO
            have h0 := h0.sub (M' := M3721) hs3721
            have hv3475 := hv3475.sub (M' := M3721) hs3721
            have hv3477 := hv3477.sub (M' := M3721) hs3721
            have hv3700 := hv3700.sub (M' := M3721) hs3721
            have hv3718 := hv3718.sub (M' := M3721) hs3721
            have hK := hK.trans hk3721
            obtain ⟨a3720, n3720, c3720, w3720, f3720, hr3720, hC3720, hf3720, hv3720⟩ := app_rs Rw49 hy3508 hv3721 hv3700 hO.inM
            have hG3720 := os_block hv3721
            refine xk_val (w' := w3720) (b := true) (.slice a3720 n3720 c3720) rfl  (y_append rfl rfl (hr3720 _)) rfl (fun h => nomatch h) ?_
            have h0 := h0.mut hC3720 (fun g hg => hO.inM g (hG3720 g hg)) (fun _ _ h => nomatch h)
            have hb2 := hb2.chg hC3720 (fun hg => hO.apart _ (hG3720 _ hg) (mem_r (mem_r (mem_l (List.mem_singleton.2 rfl)))))
            have hv3475 := hv3475.mut hC3720 (fun g hg => hO.inM g (hG3720 g hg)) (fun _ _ h => nomatch h)
            have hv3477 := hv3477.mut hC3720 (fun g hg => hO.inM g (hG3720 g hg)) (fun g hg e => hO.apart g (hG3720 g hg) (mem_r (mem_l (e))))
            have hv3700 := hv3700.mut hC3720 (fun g hg => hO.inM g (hG3720 g hg)) (fun _ _ h => nomatch h)
            have hv3718 := hv3718.mut hC3720 (fun g hg => hO.inM g (hG3720 g hg)) (fun g hg e => hO.apart g (hG3720 g hg) (mem_l (e)))
            have hC := hC.step hC3720 (fun g hg => hO.inN g (hG3720 g hg))
            have hO := hO.grow hC3720 hf3720 (os_nodup hv3720) hv3720.fpl
            refine x_one (i := 9) (by kernel_rfl) ?_
            have hO := hO.fr1
            obtain ⟨M3725, f3725, hs3725, hk3725, hO, hv3725⟩ := os_inner (Frz.os Frz.int) hv3718 hO
            have h0 := h0.sub (M' := M3725) hs3725
            have hv3475 := hv3475.sub (M' := M3725) hs3725
            have hv3477 := hv3477.sub (M' := M3725) hs3725
            have hv3700 := hv3700.sub (M' := M3725) hs3725
            have hv3720 := hv3720.sub (M' := M3725) hs3725
            have hK := hK.trans hk3725
            have hO := hO.fr1
            obtain ⟨a3724, n3724, c3724, w3724, f3724, hr3724, hC3724, hf3724, hv3724⟩ := app_os Rw49 hy3514 hv3720 hv3725 hO.inM (fun g hg hq => hO.apart g hq (mem_l hg))
            have hG3724 := os_block hv3720
            refine xk_val (w' := w3724) (b := true) (.slice a3724 n3724 c3724) rfl  (y_append rfl rfl (hr3724 _)) rfl (fun h => nomatch h) ?_
            have hO := hO.fr1
            have hO := hO.fr1
            have h0 := h0.mut hC3724 (fun g hg => hO.inM g (hG3724 g hg)) (fun _ _ h => nomatch h)
            have hb2 := hb2.chg hC3724 (fun hg => hO.apart _ (hG3724 _ hg) (mem_r (mem_r (mem_l (List.mem_singleton.2 rfl)))))
            have hv3475 := hv3475.mut hC3724 (fun g hg => hO.inM g (hG3724 g hg)) (fun _ _ h => nomatch h)
            have hv3477 := hv3477.mut hC3724 (fun g hg => hO.inM g (hG3724 g hg)) (fun g hg e => hO.apart g (hG3724 g hg) (mem_r (mem_l (e))))
            have hv3700 := hv3700.mut hC3724 (fun g hg => hO.inM g (hG3724 g hg)) (fun _ _ h => nomatch h)
            have hC := hC.step hC3724 (fun g hg => hO.inN g (hG3724 g hg))
            have hO := hO.eat hC3724 hf3724 (os_nodup hv3724) hv3724.fpl
            refine x_one (i := 10) (by kernel_rfl) ?_
            obtain ⟨M3729, eM3729, hs3729, hk3729, hO, hv3729⟩ := frz_own (Frz.os (Frz.rs Frz.int)) hv3724 hO
            have h0 := h0.sub (M' := M3729) hs3729
            have hv3475 := hv3475.sub (M' := M3729) hs3729
            have hv3477 := hv3477.sub (M' := M3729) hs3729
            have hv3700 := hv3700.sub (M' := M3729) hs3729
            have hK := hK.trans hk3729
            refine xk_call (b := true) rfl  Bd69 rfl (c_spec_l8Close (M := M3729) (a_.1, a_.2) 2 y3514 h0 hv3729 hO.fut hr3518) rfl (fun h => nomatch h) ?_
            rintro _ w3728 ⟨a3728x0, n3728x0, c3728x0, rfl, hC3728, hv3728x0⟩
            have hK := hK.trans (show Keeps w M3729 (Past M3729 w3724 w3728) from Keeps.past hC.size)
            have h0 := h0.ext hC3728
            have hb2 := hb2.chg hC3728 (fun h => nomatch h)
            have hv3475 := hv3475.ext hC3728
            have hv3477 := hv3477.ext hC3728
            have hv3700 := hv3700.ext hC3728
            have hv3729 := hv3729.ext hC3728
            have hC := hC.ext hC3728
            have hO := hO.past hC3728
            have h0 := h0.sub (M' := (Past M3729 w3724 w3728)) (fun g hg => .inl hg.1)
            have hv3475 := hv3475.sub (M' := (Past M3729 w3724 w3728)) (fun g hg => .inl hg.1)
            have hv3477 := hv3477.sub (M' := (Past M3729 w3724 w3728)) (fun g hg => .inl hg.1)
            have hv3700 := hv3700.sub (M' := (Past M3729 w3724 w3728)) (fun g hg => .inl hg.1)
            have hv3729 := hv3729.sub (M' := (Past M3729 w3724 w3728)) (fun g hg => .inl hg.1)
            refine x_p 11 (.tuple #[(.slice a3728x0 n3728x0 c3728x0), (.bool r3518.2)]) rfl (by kernel_rfl)  (fun _ => y_move rfl) (fun h => nomatch h) ?_
            refine x_p 12 (.slice a3728x0 n3728x0 c3728x0) rfl (by kernel_rfl)  (fun _ => y_extract rfl (by kernel_rfl)) (fun h => nomatch h) ?_
            refine x_p 13 (.bool r3518.2) rfl (by kernel_rfl)  (fun _ => y_extract rfl (by kernel_rfl)) (fun h => nomatch h) ?_
            refine x_p 14 (.slice a3728x0 n3728x0 c3728x0) rfl (by kernel_rfl)  (fun _ => y_assign rfl) (fun h => nomatch h) ?_
            refine x_p 15 (.bool r3518.2) rfl (by kernel_rfl)  (fun _ => y_assign rfl) (fun h => nomatch h) ?_
            refine x_end (by kernel_rfl) ?_
            clear hS
            have hO := hO.fr1
            have hO := hO.fr1
            exact ⟨_, (Past M3729 w3724 w3728), a3728x0, c3728x0, n3728x0, fr_ovl 96 ⟨rfl, rfl, rfl, rfl, rfl, rfl, trivial⟩, hC, hO, hK, h0, hb2, hv3475, hv3477, hv3728x0⟩
          ·skip
           obtain ⟨w3732, g3732, ew3732, eg3732, hC3732, hb3732⟩ := new_block w3697 [(.slice a3489x0 n3489x0 c3489x0)] 25
           refine xk_val (w' := w3732) (b := false) (.slice (some ⟨g3732, 0, none⟩) 1 1) rfl  (y_bslice rfl (by rw [ew3732, eg3732]; kernel_rfl)) rfl (fun _ => hS.ext hC3732) ?_
           have h0 := h0.ext hC3732
           have hb2 := hb2.chg hC3732 (fun h => nomatch h)
           have hv3475 := hv3475.ext hC3732
           have hv3477 := hv3477.ext hC3732
           have hv3489x0 := hv3489x0.ext hC3732
           have hv3700 := hv3700.ext hC3732
           have hC := hC.ext hC3732
           have hO := hO.new1 hC3732 eg3732 hb3732.lt
           have hO := hO.perm (R := (g3732 :: ((f3489x0) ++ ([]))) ++ (f3477 ++ (([g2]) ++ ([])))) (by simp)
           have hnd3732 := hO.nd
           have hv3732 := os_of_box (r := (RT.os 3 (RT.int .i64))) (M := M3474) (css := [[(.slice a3489x0 n3489x0 c3489x0)]]) (fps := [(f3489x0 : List Nat)]) (xs := ([r3490] : List (List Int))) hb3732 ⟨(os_unval hv3489x0), trivial⟩ (Nat.le_of_ble_eq_true rfl) hnd3732
           have hv3732 : (RT.os 25 (RT.os 3 (RT.int .i64))).val M3474 w3732 (.slice (some ⟨g3732, 0, none⟩) 1 1) [r3490] (g3732 :: ((f3489x0) ++ ([]))) := hv3732
           have hS := hS.ext hC3732
           refine x_one (i := 1) (by kernel_rfl) ?_
           obtain ⟨w3734, g3734, ew3734, eg3734, hC3734, hb3734⟩ := new_block w3732 [] 25
           refine xk_val (w' := w3734) (b := false) (.slice (some ⟨g3734, 0, none⟩) 0 0) rfl  (y_bslice rfl (by rw [ew3734, eg3734]; kernel_rfl)) rfl (fun _ => hS.ext hC3734) ?_
           have h0 := h0.ext hC3734
           have hb2 := hb2.chg hC3734 (fun h => nomatch h)
           have hv3475 := hv3475.ext hC3734
           have hv3477 := hv3477.ext hC3734
           have hv3700 := hv3700.ext hC3734
           have hv3732 := hv3732.ext hC3734
           have hC := hC.ext hC3734
           have hO := hO.new1 hC3734 eg3734 hb3734.lt
           have hv3734 := os_of_box (r := (RT.os 3 (RT.int .i64))) (M := M3474) (css := []) (fps := []) (xs := ([] : List (List Int))) hb3734 trivial (Nat.zero_le _) (List.nodup_cons.2 ⟨(fun h => nomatch h), List.nodup_nil⟩)
           have hv3734 : (RT.os 25 (RT.os 3 (RT.int .i64))).val M3474 w3734 (.slice (some ⟨g3734, 0, none⟩) 0 0) [] [g3734] := hv3734
           have hS := hS.ext hC3734
           refine x_one (i := 6) (by kernel_rfl) ?_
           obtain ⟨M3737, f3737, hs3737, hk3737, hO, hv3737⟩ := os_inner (Frz.os Frz.int) hv3734 hO
           have h0 := h0.sub (M' := M3737) hs3737
           have hv3475 := hv3475.sub (M' := M3737) hs3737
           have hv3477 := hv3477.sub (M' := M3737) hs3737
           have hv3700 := hv3700.sub (M' := M3737) hs3737
           have hv3732 := hv3732.sub (M' := M3737) hs3737
           have hK := hK.trans hk3737
           obtain ⟨a3736, n3736, c3736, w3736, f3736, hr3736, hC3736, hf3736, hv3736⟩ := app_rs Rw49 hy3508 hv3737 hv3700 hO.inM
           have hG3736 := os_block hv3737
           refine xk_val (w' := w3736) (b := true) (.slice a3736 n3736 c3736) rfl  (y_append rfl rfl (hr3736 _)) rfl (fun h => nomatch h) ?_
           have h0 := h0.mut hC3736 (fun g hg => hO.inM g (hG3736 g hg)) (fun _ _ h => nomatch h)
           have hb2 := hb2.chg hC3736 (fun hg => hO.apart _ (hG3736 _ hg) (mem_r (mem_r (mem_l (List.mem_singleton.2 rfl)))))
           have hv3475 := hv3475.mut hC3736 (fun g hg => hO.inM g (hG3736 g hg)) (fun _ _ h => nomatch h)
           have hv3477 := hv3477.mut hC3736 (fun g hg => hO.inM g (hG3736 g hg)) (fun g hg e => hO.apart g (hG3736 g hg) (mem_r (mem_l (e))))
           have hv3700 := hv3700.mut hC3736 (fun g hg => hO.inM g (hG3736 g hg)) (fun _ _ h => nomatch h)
           have hv3732 := hv3732.mut hC3736 (fun g hg => hO.inM g (hG3736 g hg)) (fun g hg e => hO.apart g (hG3736 g hg) (mem_l (e)))
           have hC := hC.step hC3736 (fun g hg => hO.inN g (hG3736 g hg))
           have hO := hO.grow hC3736 hf3736 (os_nodup hv3736) hv3736.fpl
           refine x_one (i := 9) (by kernel_rfl) ?_
           have hO := hO.fr1
           obtain ⟨M3741, f3741, hs3741, hk3741, hO, hv3741⟩ := os_inner (Frz.os Frz.int) hv3732 hO
           have h0 := h0.sub (M' := M3741) hs3741
           have hv3475 := hv3475.sub (M' := M3741) hs3741
           have hv3477 := hv3477.sub (M' := M3741) hs3741
           have hv3700 := hv3700.sub (M' := M3741) hs3741
           have hv3736 := hv3736.sub (M' := M3741) hs3741
           have hK := hK.trans hk3741
           have hO := hO.fr1
           obtain ⟨a3740, n3740, c3740, w3740, f3740, hr3740, hC3740, hf3740, hv3740⟩ := app_os Rw49 hy3514 hv3736 hv3741 hO.inM (fun g hg hq => hO.apart g hq (mem_l hg))
           have hG3740 := os_block hv3736
           refine xk_val (w' := w3740) (b := true) (.slice a3740 n3740 c3740) rfl  (y_append rfl rfl (hr3740 _)) rfl (fun h => nomatch h) ?_
           have hO := hO.fr1
           have hO := hO.fr1
           have h0 := h0.mut hC3740 (fun g hg => hO.inM g (hG3740 g hg)) (fun _ _ h => nomatch h)
           have hb2 := hb2.chg hC3740 (fun hg => hO.apart _ (hG3740 _ hg) (mem_r (mem_r (mem_l (List.mem_singleton.2 rfl)))))
           have hv3475 := hv3475.mut hC3740 (fun g hg => hO.inM g (hG3740 g hg)) (fun _ _ h => nomatch h)
           have hv3477 := hv3477.mut hC3740 (fun g hg => hO.inM g (hG3740 g hg)) (fun g hg e => hO.apart g (hG3740 g hg) (mem_r (mem_l (e))))
           have hv3700 := hv3700.mut hC3740 (fun g hg => hO.inM g (hG3740 g hg)) (fun _ _ h => nomatch h)
           have hC := hC.step hC3740 (fun g hg => hO.inN g (hG3740 g hg))
           have hO := hO.eat hC3740 hf3740 (os_nodup hv3740) hv3740.fpl
           refine x_one (i := 10) (by kernel_rfl) ?_
           obtain ⟨M3745, eM3745, hs3745, hk3745, hO, hv3745⟩ := frz_own (Frz.os (Frz.rs Frz.int)) hv3740 hO
           have h0 := h0.sub (M' := M3745) hs3745
           have hv3475 := hv3475.sub (M' := M3745) hs3745
           have hv3477 := hv3477.sub (M' := M3745) hs3745
           have hv3700 := hv3700.sub (M' := M3745) hs3745
           have hK := hK.trans hk3745
           refine xk_call (b := true) rfl  Bd69 rfl (c_spec_l8Close (M := M3745) (a_.1, a_.2) 2 y3514 h0 hv3745 hO.fut hr3518) rfl (fun h => nomatch h) ?_
           rintro _ w3744 ⟨a3744x0, n3744x0, c3744x0, rfl, hC3744, hv3744x0⟩
           have hK := hK.trans (show Keeps w M3745 (Past M3745 w3740 w3744) from Keeps.past hC.size)
           have h0 := h0.ext hC3744
           have hb2 := hb2.chg hC3744 (fun h => nomatch h)
           have hv3475 := hv3475.ext hC3744
           have hv3477 := hv3477.ext hC3744
           have hv3700 := hv3700.ext hC3744
           have hv3745 := hv3745.ext hC3744
           have hC := hC.ext hC3744
           have hO := hO.past hC3744
           have h0 := h0.sub (M' := (Past M3745 w3740 w3744)) (fun g hg => .inl hg.1)
           have hv3475 := hv3475.sub (M' := (Past M3745 w3740 w3744)) (fun g hg => .inl hg.1)
           have hv3477 := hv3477.sub (M' := (Past M3745 w3740 w3744)) (fun g hg => .inl hg.1)
           have hv3700 := hv3700.sub (M' := (Past M3745 w3740 w3744)) (fun g hg => .inl hg.1)
           have hv3745 := hv3745.sub (M' := (Past M3745 w3740 w3744)) (fun g hg => .inl hg.1)
           refine x_p 11 (.tuple #[(.slice a3744x0 n3744x0 c3744x0), (.bool r3518.2)]) rfl (by kernel_rfl)  (fun _ => y_move rfl) (fun h => nomatch h) ?_
           refine x_p 12 (.slice a3744x0 n3744x0 c3744x0) rfl (by kernel_rfl)  (fun _ => y_extract rfl (by kernel_rfl)) (fun h => nomatch h) ?_
           refine x_p 13 (.bool r3518.2) rfl (by kernel_rfl)  (fun _ => y_extract rfl (by kernel_rfl)) (fun h => nomatch h) ?_
           refine x_p 14 (.slice a3744x0 n3744x0 c3744x0) rfl (by kernel_rfl)  (fun _ => y_assign rfl) (fun h => nomatch h) ?_
           refine x_p 15 (.bool r3518.2) rfl (by kernel_rfl)  (fun _ => y_assign rfl) (fun h => nomatch h) ?_
           refine x_end (by kernel_rfl) ?_
           clear hS
           have hO := hO.fr1
           have hO := hO.fr1
           exact ⟨_, (Past M3745 w3740 w3744), a3744x0, c3744x0, n3744x0, fr_ovl 96 ⟨rfl, rfl, rfl, rfl, rfl, rfl, trivial⟩, hC, hO, hK, h0, hb2, hv3475, hv3477, hv3744x0⟩
         ·skip
          obtain ⟨w3748, g3748, ew3748, eg3748, hC3748, hb3748⟩ := new_block w3697 [] 25
          refine xk_val (w' := w3748) (b := false) (.slice (some ⟨g3748, 0, none⟩) 0 0) rfl  (y_bslice rfl (by rw [ew3748, eg3748]; kernel_rfl)) rfl (fun _ => hS.ext hC3748) ?_
          have h0 := h0.ext hC3748
          have hb2 := hb2.chg hC3748 (fun h => nomatch h)
          have hv3475 := hv3475.ext hC3748
          have hv3477 := hv3477.ext hC3748
          have hv3489x0 := hv3489x0.ext hC3748
          have hv3700 := hv3700.ext hC3748
          have hC := hC.ext hC3748
          have hO := hO.new1 hC3748 eg3748 hb3748.lt
          have hv3748 := os_of_box (r := (RT.os 3 (RT.int .i64))) (M := M3474) (css := []) (fps := []) (xs := ([] : List (List Int))) hb3748 trivial (Nat.zero_le _) (List.nodup_cons.2 ⟨(fun h => nomatch h), List.nodup_nil⟩)
          have hv3748 : (RT.os 25 (RT.os 3 (RT.int .i64))).val M3474 w3748 (.slice (some ⟨g3748, 0, none⟩) 0 0) [] [g3748] := hv3748
          have hS := hS.ext hC3748
          refine x_many [0, 6, 8] (by kernel_rfl) (fun h => nomatch h) (all3 ?_ ?_ ?_)
          ·skip
           refine xk_val (b := false) (.agg #[(.int .i64 a_.1), (.slice pa0 pn0 pc0)]) rfl  (y_load rfl ((box_load Ag34 Sz34 hb2 [] [(.int .i64 a_.1), (.slice pa0 pn0 pc0)] [] rfl rfl (fun h => nomatch h)) _ (Chg.refl _ _))) rfl (fun _ => hS) ?_
           refine x_two (i := 6) (j := 8) (by kernel_rfl) ?_ ?_
           ·skip
            obtain ⟨M3751, f3751, hs3751, hk3751, hO, hv3751⟩ := os_inner (Frz.os Frz.int) hv3748 hO
            have h0 := h0.sub (M' := M3751) hs3751
            have hv3475 := hv3475.sub (M' := M3751) hs3751
            have hv3477 := hv3477.sub (M' := M3751) hs3751
            have hv3489x0 := hv3489x0.sub (M' := M3751) hs3751
            have hv3700 := hv3700.sub (M' := M3751) hs3751
            have hK := hK.trans hk3751
            obtain ⟨a3750, n3750, c3750, w3750, f3750, hr3750, hC3750, hf3750, hv3750⟩ := app_rs Rw49 hy3508 hv3751 hv3700 hO.inM
            have hG3750 := os_block hv3751
            refine xk_val (w' := w3750) (b := true) (.slice a3750 n3750 c3750) rfl  (y_append rfl rfl (hr3750 _)) rfl (fun h => nomatch h) ?_
            have h0 := h0.mut hC3750 (fun g hg => hO.inM g (hG3750 g hg)) (fun _ _ h => nomatch h)
            have hb2 := hb2.chg hC3750 (fun hg => hO.apart _ (hG3750 _ hg) (mem_r (mem_r (mem_l (List.mem_singleton.2 rfl)))))
            have hv3475 := hv3475.mut hC3750 (fun g hg => hO.inM g (hG3750 g hg)) (fun _ _ h => nomatch h)
            have hv3477 := hv3477.mut hC3750 (fun g hg => hO.inM g (hG3750 g hg)) (fun g hg e => hO.apart g (hG3750 g hg) (mem_r (mem_l (e))))
            have hv3489x0 := hv3489x0.mut hC3750 (fun g hg => hO.inM g (hG3750 g hg)) (fun g hg e => hO.apart g (hG3750 g hg) (mem_l (e)))
            have hv3700 := hv3700.mut hC3750 (fun g hg => hO.inM g (hG3750 g hg)) (fun _ _ h => nomatch h)
            have hC := hC.step hC3750 (fun g hg => hO.inN g (hG3750 g hg))
            have hO := hO.grow hC3750 hf3750 (os_nodup hv3750) hv3750.fpl
            refine x_one (i := 8) (by kernel_rfl) ?_
            obtain ⟨w3754, g3754, ew3754, eg3754, hC3754, hb3754⟩ := new_block w3750 [(.slice a3489x0 n3489x0 c3489x0)] 25
            refine xk_val (w' := w3754) (b := true) (.slice (some ⟨g3754, 0, none⟩) 1 1) rfl  (y_bslice rfl (by rw [ew3754, eg3754]; kernel_rfl)) rfl (fun h => nomatch h) ?_
            have h0 := h0.ext hC3754
            have hb2 := hb2.chg hC3754 (fun h => nomatch h)
            have hv3475 := hv3475.ext hC3754
            have hv3477 := hv3477.ext hC3754
            have hv3489x0 := hv3489x0.ext hC3754
            have hv3700 := hv3700.ext hC3754
            have hv3750 := hv3750.ext hC3754
            have hC := hC.ext hC3754
            have hO := hO.fr1
            have hO := hO.new1 hC3754 eg3754 hb3754.lt
            have hO := hO.perm (R := (g3754 :: ((f3489x0) ++ ([]))) ++ (f3750 ++ (f3477 ++ (([g2]) ++ ([]))))) (by simp)
            have hnd3754 := hO.nd
            have hv3754 := os_of_box (r := (RT.os 3 (RT.int .i64))) (M := M3751) (css := [[(.slice a3489x0 n3489x0 c3489x0)]]) (fps := [(f3489x0 : List Nat)]) (xs := ([r3490] : List (List Int))) hb3754 ⟨(os_unval hv3489x0), trivial⟩ (Nat.le_of_ble_eq_true rfl) hnd3754
            have hv3754 : (RT.os 25 (RT.os 3 (RT.int .i64))).val M3751 w3754 (.slice (some ⟨g3754, 0, none⟩) 1 1) [r3490] (g3754 :: ((f3489x0) ++ ([]))) := hv3754
            refine x_one (i := 9) (by kernel_rfl) ?_
            obtain ⟨M3757, f3757, hs3757, hk3757, hO, hv3757⟩ := os_inner (Frz.os Frz.int) hv3754 hO
            have h0 := h0.sub (M' := M3757) hs3757
            have hv3475 := hv3475.sub (M' := M3757) hs3757
            have hv3477 := hv3477.sub (M' := M3757) hs3757
            have hv3700 := hv3700.sub (M' := M3757) hs3757
            have hv3750 := hv3750.sub (M' := M3757) hs3757
            have hK := hK.trans hk3757
            have hO := hO.fr1
            obtain ⟨a3756, n3756, c3756, w3756, f3756, hr3756, hC3756, hf3756, hv3756⟩ := app_os Rw49 hy3514 hv3750 hv3757 hO.inM (fun g hg hq => hO.apart g hq (mem_l hg))
            have hG3756 := os_block hv3750
            refine xk_val (w' := w3756) (b := true) (.slice a3756 n3756 c3756) rfl  (y_append rfl rfl (hr3756 _)) rfl (fun h => nomatch h) ?_
            have hO := hO.fr1
            have hO := hO.fr1
            have h0 := h0.mut hC3756 (fun g hg => hO.inM g (hG3756 g hg)) (fun _ _ h => nomatch h)
            have hb2 := hb2.chg hC3756 (fun hg => hO.apart _ (hG3756 _ hg) (mem_r (mem_r (mem_l (List.mem_singleton.2 rfl)))))
            have hv3475 := hv3475.mut hC3756 (fun g hg => hO.inM g (hG3756 g hg)) (fun _ _ h => nomatch h)
            have hv3477 := hv3477.mut hC3756 (fun g hg => hO.inM g (hG3756 g hg)) (fun g hg e => hO.apart g (hG3756 g hg) (mem_r (mem_l (e))))
            have hv3700 := hv3700.mut hC3756 (fun g hg => hO.inM g (hG3756 g hg)) (fun _ _ h => nomatch h)
            have hC := hC.step hC3756 (fun g hg => hO.inN g (hG3756 g hg))
            have hO := hO.eat hC3756 hf3756 (os_nodup hv3756) hv3756.fpl
            refine x_one (i := 10) (by kernel_rfl) ?_
            obtain ⟨M3761, eM3761, hs3761, hk3761, hO, hv3761⟩ := frz_own (Frz.os (Frz.rs Frz.int)) hv3756 hO
            have h0 := h0.sub (M' := M3761) hs3761
            have hv3475 := hv3475.sub (M' := M3761) hs3761
            have hv3477 := hv3477.sub (M' := M3761) hs3761
            have hv3700 := hv3700.sub (M' := M3761) hs3761
            have hK := hK.trans hk3761
            refine xk_call (b := true) rfl  Bd69 rfl (c_spec_l8Close (M := M3761) (a_.1, a_.2) 2 y3514 h0 hv3761 hO.fut hr3518) rfl (fun h => nomatch h) ?_
            rintro _ w3760 ⟨a3760x0, n3760x0, c3760x0, rfl, hC3760, hv3760x0⟩
            have hK := hK.trans (show Keeps w M3761 (Past M3761 w3756 w3760) from Keeps.past hC.size)
            have h0 := h0.ext hC3760
            have hb2 := hb2.chg hC3760 (fun h => nomatch h)
            have hv3475 := hv3475.ext hC3760
            have hv3477 := hv3477.ext hC3760
            have hv3700 := hv3700.ext hC3760
            have hv3761 := hv3761.ext hC3760
            have hC := hC.ext hC3760
            have hO := hO.past hC3760
            have h0 := h0.sub (M' := (Past M3761 w3756 w3760)) (fun g hg => .inl hg.1)
            have hv3475 := hv3475.sub (M' := (Past M3761 w3756 w3760)) (fun g hg => .inl hg.1)
            have hv3477 := hv3477.sub (M' := (Past M3761 w3756 w3760)) (fun g hg => .inl hg.1)
            have hv3700 := hv3700.sub (M' := (Past M3761 w3756 w3760)) (fun g hg => .inl hg.1)
            have hv3761 := hv3761.sub (M' := (Past M3761 w3756 w3760)) (fun g hg => .inl hg.1)
            refine x_p 11 (.tuple #[(.slice a3760x0 n3760x0 c3760x0), (.bool r3518.2)]) rfl (by kernel_rfl)  (fun _ => y_move rfl) (fun h => nomatch h) ?_
            refine x_p 12 (.slice a3760x0 n3760x0 c3760x0) rfl (by kernel_rfl)  (fun _ => y_extract rfl (by kernel_rfl)) (fun h => nomatch h) ?_
            refine x_p 13 (.bool r3518.2) rfl (by kernel_rfl)  (fun _ => y_extract rfl (by kernel_rfl)) (fun h => nomatch h) ?_
            refine x_p 14 (.slice a3760x0 n3760x0 c3760x0) rfl (by kernel_rfl)  (fun _ => y_assign rfl) (fun h => nomatch h) ?_
            refine x_p 15 (.bool r3518.2) rfl (by kernel_rfl)  (fun _ => y_assign rfl) (fun h => nomatch h) ?_
            refine x_end (by kernel_rfl) ?_
            clear hS
            have hO := hO.fr1
            have hO := hO.fr1
            exact ⟨_, (Past M3761 w3756 w3760), a3760x0, c3760x0, n3760x0, fr_ovl 96 ⟨rfl, rfl, rfl, rfl, rfl, rfl, trivial⟩, hC, hO, hK, h0, hb2, hv3475, hv3477, hv3760x0⟩
           ·skip
            obtain ⟨w3764, g3764, ew3764, eg3764, hC3764, hb3764⟩ := new_block w3748 [(.slice a3489x0 n3489x0 c3489x0)] 25
            refine xk_val (w' := w3764) (b := false) (.slice (some ⟨g3764, 0, none⟩) 1 1) rfl  (y_bslice rfl (by rw [ew3764, eg3764]; kernel_rfl)) rfl (fun _ => hS.ext hC3764) ?_
            have h0 := h0.ext hC3764
            have hb2 := hb2.chg hC3764 (fun h => nomatch h)
            have hv3475 := hv3475.ext hC3764
            have hv3477 := hv3477.ext hC3764
            have hv3489x0 := hv3489x0.ext hC3764
            have hv3700 := hv3700.ext hC3764
            have hv3748 := hv3748.ext hC3764
            have hC := hC.ext hC3764
            have hO := hO.fr1
            have hO := hO.new1 hC3764 eg3764 hb3764.lt
            have hO := hO.perm (R := (g3764 :: ((f3489x0) ++ ([]))) ++ (([g3748]) ++ (f3477 ++ (([g2]) ++ ([]))))) (by simp)
            have hnd3764 := hO.nd
            have hv3764 := os_of_box (r := (RT.os 3 (RT.int .i64))) (M := M3474) (css := [[(.slice a3489x0 n3489x0 c3489x0)]]) (fps := [(f3489x0 : List Nat)]) (xs := ([r3490] : List (List Int))) hb3764 ⟨(os_unval hv3489x0), trivial⟩ (Nat.le_of_ble_eq_true rfl) hnd3764
            have hv3764 : (RT.os 25 (RT.os 3 (RT.int .i64))).val M3474 w3764 (.slice (some ⟨g3764, 0, none⟩) 1 1) [r3490] (g3764 :: ((f3489x0) ++ ([]))) := hv3764
            have hS := hS.ext hC3764
            refine x_one (i := 6) (by kernel_rfl) ?_
            have hO := hO.fr1
            obtain ⟨M3767, f3767, hs3767, hk3767, hO, hv3767⟩ := os_inner (Frz.os Frz.int) hv3748 hO
            have h0 := h0.sub (M' := M3767) hs3767
            have hv3475 := hv3475.sub (M' := M3767) hs3767
            have hv3477 := hv3477.sub (M' := M3767) hs3767
            have hv3700 := hv3700.sub (M' := M3767) hs3767
            have hv3764 := hv3764.sub (M' := M3767) hs3767
            have hK := hK.trans hk3767
            obtain ⟨a3766, n3766, c3766, w3766, f3766, hr3766, hC3766, hf3766, hv3766⟩ := app_rs Rw49 hy3508 hv3767 hv3700 hO.inM
            have hG3766 := os_block hv3767
            refine xk_val (w' := w3766) (b := true) (.slice a3766 n3766 c3766) rfl  (y_append rfl rfl (hr3766 _)) rfl (fun h => nomatch h) ?_
            have h0 := h0.mut hC3766 (fun g hg => hO.inM g (hG3766 g hg)) (fun _ _ h => nomatch h)
            have hb2 := hb2.chg hC3766 (fun hg => hO.apart _ (hG3766 _ hg) (mem_r (mem_r (mem_l (List.mem_singleton.2 rfl)))))
            have hv3475 := hv3475.mut hC3766 (fun g hg => hO.inM g (hG3766 g hg)) (fun _ _ h => nomatch h)
            have hv3477 := hv3477.mut hC3766 (fun g hg => hO.inM g (hG3766 g hg)) (fun g hg e => hO.apart g (hG3766 g hg) (mem_r (mem_l (e))))
            have hv3700 := hv3700.mut hC3766 (fun g hg => hO.inM g (hG3766 g hg)) (fun _ _ h => nomatch h)
            have hv3764 := hv3764.mut hC3766 (fun g hg => hO.inM g (hG3766 g hg)) (fun g hg e => hO.apart g (hG3766 g hg) (mem_l (e)))
            have hC := hC.step hC3766 (fun g hg => hO.inN g (hG3766 g hg))
            have hO := hO.grow hC3766 hf3766 (os_nodup hv3766) hv3766.fpl
            refine x_one (i := 9) (by kernel_rfl) ?_
            have hO := hO.fr1
            obtain ⟨M3771, f3771, hs3771, hk3771, hO, hv3771⟩ := os_inner (Frz.os Frz.int) hv3764 hO
            have h0 := h0.sub (M' := M3771) hs3771
            have hv3475 := hv3475.sub (M' := M3771) hs3771
            have hv3477 := hv3477.sub (M' := M3771) hs3771
            have hv3700 := hv3700.sub (M' := M3771) hs3771
            have hv3766 := hv3766.sub (M' := M3771) hs3771
            have hK := hK.trans hk3771
            have hO := hO.fr1
            obtain ⟨a3770, n3770, c3770, w3770, f3770, hr3770, hC3770, hf3770, hv3770⟩ := app_os Rw49 hy3514 hv3766 hv3771 hO.inM (fun g hg hq => hO.apart g hq (mem_l hg))
            have hG3770 := os_block hv3766
            refine xk_val (w' := w3770) (b := true) (.slice a3770 n3770 c3770) rfl  (y_append rfl rfl (hr3770 _)) rfl (fun h => nomatch h) ?_
            have hO := hO.fr1
            have hO := hO.fr1
            have h0 := h0.mut hC3770 (fun g hg => hO.inM g (hG3770 g hg)) (fun _ _ h => nomatch h)
            have hb2 := hb2.chg hC3770 (fun hg => hO.apart _ (hG3770 _ hg) (mem_r (mem_r (mem_l (List.mem_singleton.2 rfl)))))
            have hv3475 := hv3475.mut hC3770 (fun g hg => hO.inM g (hG3770 g hg)) (fun _ _ h => nomatch h)
            have hv3477 := hv3477.mut hC3770 (fun g hg => hO.inM g (hG3770 g hg)) (fun g hg e => hO.apart g (hG3770 g hg) (mem_r (mem_l (e))))
            have hv3700 := hv3700.mut hC3770 (fun g hg => hO.inM g (hG3770 g hg)) (fun _ _ h => nomatch h)
            have hC := hC.step hC3770 (fun g hg => hO.inN g (hG3770 g hg))
            have hO := hO.eat hC3770 hf3770 (os_nodup hv3770) hv3770.fpl
            refine x_one (i := 10) (by kernel_rfl) ?_
            obtain ⟨M3775, eM3775, hs3775, hk3775, hO, hv3775⟩ := frz_own (Frz.os (Frz.rs Frz.int)) hv3770 hO
            have h0 := h0.sub (M' := M3775) hs3775
            have hv3475 := hv3475.sub (M' := M3775) hs3775
            have hv3477 := hv3477.sub (M' := M3775) hs3775
            have hv3700 := hv3700.sub (M' := M3775) hs3775
            have hK := hK.trans hk3775
            refine xk_call (b := true) rfl  Bd69 rfl (c_spec_l8Close (M := M3775) (a_.1, a_.2) 2 y3514 h0 hv3775 hO.fut hr3518) rfl (fun h => nomatch h) ?_
            rintro _ w3774 ⟨a3774x0, n3774x0, c3774x0, rfl, hC3774, hv3774x0⟩
            have hK := hK.trans (show Keeps w M3775 (Past M3775 w3770 w3774) from Keeps.past hC.size)
            have h0 := h0.ext hC3774
            have hb2 := hb2.chg hC3774 (fun h => nomatch h)
            have hv3475 := hv3475.ext hC3774
            have hv3477 := hv3477.ext hC3774
            have hv3700 := hv3700.ext hC3774
            have hv3775 := hv3775.ext hC3774
            have hC := hC.ext hC3774
            have hO := hO.past hC3774
            have h0 := h0.sub (M' := (Past M3775 w3770 w3774)) (fun g hg => .inl hg.1)
            have hv3475 := hv3475.sub (M' := (Past M3775 w3770 w3774)) (fun g hg => .inl hg.1)
            have hv3477 := hv3477.sub (M' := (Past M3775 w3770 w3774)) (fun g hg => .inl hg.1)
            have hv3700 := hv3700.sub (M' := (Past M3775 w3770 w3774)) (fun g hg => .inl hg.1)
            have hv3775 := hv3775.sub (M' := (Past M3775 w3770 w3774)) (fun g hg => .inl hg.1)
            refine x_p 11 (.tuple #[(.slice a3774x0 n3774x0 c3774x0), (.bool r3518.2)]) rfl (by kernel_rfl)  (fun _ => y_move rfl) (fun h => nomatch h) ?_
            refine x_p 12 (.slice a3774x0 n3774x0 c3774x0) rfl (by kernel_rfl)  (fun _ => y_extract rfl (by kernel_rfl)) (fun h => nomatch h) ?_
            refine x_p 13 (.bool r3518.2) rfl (by kernel_rfl)  (fun _ => y_extract rfl (by kernel_rfl)) (fun h => nomatch h) ?_
            refine x_p 14 (.slice a3774x0 n3774x0 c3774x0) rfl (by kernel_rfl)  (fun _ => y_assign rfl) (fun h => nomatch h) ?_
            refine x_p 15 (.bool r3518.2) rfl (by kernel_rfl)  (fun _ => y_assign rfl) (fun h => nomatch h) ?_
            refine x_end (by kernel_rfl) ?_
            clear hS
            have hO := hO.fr1
            have hO := hO.fr1
            exact ⟨_, (Past M3775 w3770 w3774), a3774x0, c3774x0, n3774x0, fr_ovl 96 ⟨rfl, rfl, rfl, rfl, rfl, rfl, trivial⟩, hC, hO, hK, h0, hb2, hv3475, hv3477, hv3774x0⟩
          ·skip
           obtain ⟨M3779, f3779, hs3779, hk3779, hO, hv3779⟩ := os_inner (Frz.os Frz.int) hv3748 hO
           have h0 := h0.sub (M' := M3779) hs3779
           have hv3475 := hv3475.sub (M' := M3779) hs3779
           have hv3477 := hv3477.sub (M' := M3779) hs3779
           have hv3489x0 := hv3489x0.sub (M' := M3779) hs3779
           have hv3700 := hv3700.sub (M' := M3779) hs3779
           have hK := hK.trans hk3779
           obtain ⟨a3778, n3778, c3778, w3778, f3778, hr3778, hC3778, hf3778, hv3778⟩ := app_rs Rw49 hy3508 hv3779 hv3700 hO.inM
           have hG3778 := os_block hv3779
           refine xk_val (w' := w3778) (b := true) (.slice a3778 n3778 c3778) rfl  (y_append rfl rfl (hr3778 _)) rfl (fun h => nomatch h) ?_
           have h0 := h0.mut hC3778 (fun g hg => hO.inM g (hG3778 g hg)) (fun _ _ h => nomatch h)
           have hb2 := hb2.chg hC3778 (fun hg => hO.apart _ (hG3778 _ hg) (mem_r (mem_r (mem_l (List.mem_singleton.2 rfl)))))
           have hv3475 := hv3475.mut hC3778 (fun g hg => hO.inM g (hG3778 g hg)) (fun _ _ h => nomatch h)
           have hv3477 := hv3477.mut hC3778 (fun g hg => hO.inM g (hG3778 g hg)) (fun g hg e => hO.apart g (hG3778 g hg) (mem_r (mem_l (e))))
           have hv3489x0 := hv3489x0.mut hC3778 (fun g hg => hO.inM g (hG3778 g hg)) (fun g hg e => hO.apart g (hG3778 g hg) (mem_l (e)))
           have hv3700 := hv3700.mut hC3778 (fun g hg => hO.inM g (hG3778 g hg)) (fun _ _ h => nomatch h)
           have hC := hC.step hC3778 (fun g hg => hO.inN g (hG3778 g hg))
           have hO := hO.grow hC3778 hf3778 (os_nodup hv3778) hv3778.fpl
           refine x_two (i := 0) (j := 8) (by kernel_rfl) ?_ ?_
           ·skip
            refine xk_val (b := true) (.agg #[(.int .i64 a_.1), (.slice pa0 pn0 pc0)]) rfl  (y_load rfl ((box_load Ag34 Sz34 hb2 [] [(.int .i64 a_.1), (.slice pa0 pn0 pc0)] [] rfl rfl (fun h => nomatch h)) _ (Chg.refl _ _))) rfl (fun h => nomatch h) ?_
            refine x_one (i := 8) (by kernel_rfl) ?_
            obtain ⟨w3782, g3782, ew3782, eg3782, hC3782, hb3782⟩ := new_block w3778 [(.slice a3489x0 n3489x0 c3489x0)] 25
            refine xk_val (w' := w3782) (b := true) (.slice (some ⟨g3782, 0, none⟩) 1 1) rfl  (y_bslice rfl (by rw [ew3782, eg3782]; kernel_rfl)) rfl (fun h => nomatch h) ?_
            have h0 := h0.ext hC3782
            have hb2 := hb2.chg hC3782 (fun h => nomatch h)
            have hv3475 := hv3475.ext hC3782
            have hv3477 := hv3477.ext hC3782
            have hv3489x0 := hv3489x0.ext hC3782
            have hv3700 := hv3700.ext hC3782
            have hv3778 := hv3778.ext hC3782
            have hC := hC.ext hC3782
            have hO := hO.fr1
            have hO := hO.new1 hC3782 eg3782 hb3782.lt
            have hO := hO.perm (R := (g3782 :: ((f3489x0) ++ ([]))) ++ (f3778 ++ (f3477 ++ (([g2]) ++ ([]))))) (by simp)
            have hnd3782 := hO.nd
            have hv3782 := os_of_box (r := (RT.os 3 (RT.int .i64))) (M := M3779) (css := [[(.slice a3489x0 n3489x0 c3489x0)]]) (fps := [(f3489x0 : List Nat)]) (xs := ([r3490] : List (List Int))) hb3782 ⟨(os_unval hv3489x0), trivial⟩ (Nat.le_of_ble_eq_true rfl) hnd3782
            have hv3782 : (RT.os 25 (RT.os 3 (RT.int .i64))).val M3779 w3782 (.slice (some ⟨g3782, 0, none⟩) 1 1) [r3490] (g3782 :: ((f3489x0) ++ ([]))) := hv3782
            refine x_one (i := 9) (by kernel_rfl) ?_
            obtain ⟨M3785, f3785, hs3785, hk3785, hO, hv3785⟩ := os_inner (Frz.os Frz.int) hv3782 hO
            have h0 := h0.sub (M' := M3785) hs3785
            have hv3475 := hv3475.sub (M' := M3785) hs3785
            have hv3477 := hv3477.sub (M' := M3785) hs3785
            have hv3700 := hv3700.sub (M' := M3785) hs3785
            have hv3778 := hv3778.sub (M' := M3785) hs3785
            have hK := hK.trans hk3785
            have hO := hO.fr1
            obtain ⟨a3784, n3784, c3784, w3784, f3784, hr3784, hC3784, hf3784, hv3784⟩ := app_os Rw49 hy3514 hv3778 hv3785 hO.inM (fun g hg hq => hO.apart g hq (mem_l hg))
            have hG3784 := os_block hv3778
            refine xk_val (w' := w3784) (b := true) (.slice a3784 n3784 c3784) rfl  (y_append rfl rfl (hr3784 _)) rfl (fun h => nomatch h) ?_
            have hO := hO.fr1
            have hO := hO.fr1
            have h0 := h0.mut hC3784 (fun g hg => hO.inM g (hG3784 g hg)) (fun _ _ h => nomatch h)
            have hb2 := hb2.chg hC3784 (fun hg => hO.apart _ (hG3784 _ hg) (mem_r (mem_r (mem_l (List.mem_singleton.2 rfl)))))
            have hv3475 := hv3475.mut hC3784 (fun g hg => hO.inM g (hG3784 g hg)) (fun _ _ h => nomatch h)
            have hv3477 := hv3477.mut hC3784 (fun g hg => hO.inM g (hG3784 g hg)) (fun g hg e => hO.apart g (hG3784 g hg) (mem_r (mem_l (e))))
            have hv3700 := hv3700.mut hC3784 (fun g hg => hO.inM g (hG3784 g hg)) (fun _ _ h => nomatch h)
            have hC := hC.step hC3784 (fun g hg => hO.inN g (hG3784 g hg))
            have hO := hO.eat hC3784 hf3784 (os_nodup hv3784) hv3784.fpl
            refine x_one (i := 10) (by kernel_rfl) ?_
            obtain ⟨M3789, eM3789, hs3789, hk3789, hO, hv3789⟩ := frz_own (Frz.os (Frz.rs Frz.int)) hv3784 hO
            have h0 := h0.sub (M' := M3789) hs3789
            have hv3475 := hv3475.sub (M' := M3789) hs3789
            have hv3477 := hv3477.sub (M' := M3789) hs3789
            have hv3700 := hv3700.sub (M' := M3789) hs3789
            have hK := hK.trans hk3789
            refine xk_call (b := true) rfl  Bd69 rfl (c_spec_l8Close (M := M3789) (a_.1, a_.2) 2 y3514 h0 hv3789 hO.fut hr3518) rfl (fun h => nomatch h) ?_
            rintro _ w3788 ⟨a3788x0, n3788x0, c3788x0, rfl, hC3788, hv3788x0⟩
            have hK := hK.trans (show Keeps w M3789 (Past M3789 w3784 w3788) from Keeps.past hC.size)
            have h0 := h0.ext hC3788
            have hb2 := hb2.chg hC3788 (fun h => nomatch h)
            have hv3475 := hv3475.ext hC3788
            have hv3477 := hv3477.ext hC3788
            have hv3700 := hv3700.ext hC3788
            have hv3789 := hv3789.ext hC3788
            have hC := hC.ext hC3788
            have hO := hO.past hC3788
            have h0 := h0.sub (M' := (Past M3789 w3784 w3788)) (fun g hg => .inl hg.1)
            have hv3475 := hv3475.sub (M' := (Past M3789 w3784 w3788)) (fun g hg => .inl hg.1)
            have hv3477 := hv3477.sub (M' := (Past M3789 w3784 w3788)) (fun g hg => .inl hg.1)
            have hv3700 := hv3700.sub (M' := (Past M3789 w3784 w3788)) (fun g hg => .inl hg.1)
            have hv3789 := hv3789.sub (M' := (Past M3789 w3784 w3788)) (fun g hg => .inl hg.1)
            refine x_p 11 (.tuple #[(.slice a3788x0 n3788x0 c3788x0), (.bool r3518.2)]) rfl (by kernel_rfl)  (fun _ => y_move rfl) (fun h => nomatch h) ?_
            refine x_p 12 (.slice a3788x0 n3788x0 c3788x0) rfl (by kernel_rfl)  (fun _ => y_extract rfl (by kernel_rfl)) (fun h => nomatch h) ?_
            refine x_p 13 (.bool r3518.2) rfl (by kernel_rfl)  (fun _ => y_extract rfl (by kernel_rfl)) (fun h => nomatch h) ?_
            refine x_p 14 (.slice a3788x0 n3788x0 c3788x0) rfl (by kernel_rfl)  (fun _ => y_assign rfl) (fun h => nomatch h) ?_
            refine x_p 15 (.bool r3518.2) rfl (by kernel_rfl)  (fun _ => y_assign rfl) (fun h => nomatch h) ?_
            refine x_end (by kernel_rfl) ?_
            clear hS
            have hO := hO.fr1
            have hO := hO.fr1
            exact ⟨_, (Past M3789 w3784 w3788), a3788x0, c3788x0, n3788x0, fr_ovl 96 ⟨rfl, rfl, rfl, rfl, rfl, rfl, trivial⟩, hC, hO, hK, h0, hb2, hv3475, hv3477, hv3788x0⟩
           ·skip
            obtain ⟨w3792, g3792, ew3792, eg3792, hC3792, hb3792⟩ := new_block w3778 [(.slice a3489x0 n3489x0 c3489x0)] 25
            refine xk_val (w' := w3792) (b := true) (.slice (some ⟨g3792, 0, none⟩) 1 1) rfl  (y_bslice rfl (by rw [ew3792, eg3792]; kernel_rfl)) rfl (fun h => nomatch h) ?_
            have h0 := h0.ext hC3792
            have hb2 := hb2.chg hC3792 (fun h => nomatch h)
            have hv3475 := hv3475.ext hC3792
            have hv3477 := hv3477.ext hC3792
            have hv3489x0 := hv3489x0.ext hC3792
            have hv3700 := hv3700.ext hC3792
            have hv3778 := hv3778.ext hC3792
            have hC := hC.ext hC3792
            have hO := hO.fr1
            have hO := hO.new1 hC3792 eg3792 hb3792.lt
            have hO := hO.perm (R := (g3792 :: ((f3489x0) ++ ([]))) ++ (f3778 ++ (f3477 ++ (([g2]) ++ ([]))))) (by simp)
            have hnd3792 := hO.nd
            have hv3792 := os_of_box (r := (RT.os 3 (RT.int .i64))) (M := M3779) (css := [[(.slice a3489x0 n3489x0 c3489x0)]]) (fps := [(f3489x0 : List Nat)]) (xs := ([r3490] : List (List Int))) hb3792 ⟨(os_unval hv3489x0), trivial⟩ (Nat.le_of_ble_eq_true rfl) hnd3792
            have hv3792 : (RT.os 25 (RT.os 3 (RT.int .i64))).val M3779 w3792 (.slice (some ⟨g3792, 0, none⟩) 1 1) [r3490] (g3792 :: ((f3489x0) ++ ([]))) := hv3792
            refine x_two (i := 0) (j := 9) (by kernel_rfl) ?_ ?_
            ·skip
             refine xk_val (b := true) (.agg #[(.int .i64 a_.1), (.slice pa0 pn0 pc0)]) rfl  (y_load rfl ((box_load Ag34 Sz34 hb2 [] [(.int .i64 a_.1), (.slice pa0 pn0 pc0)] [] rfl rfl (fun h => nomatch h)) _ (Chg.refl _ _))) rfl (fun h => nomatch h) ?_
             refine x_one (i := 9) (by kernel_rfl) ?_
             obtain ⟨M3795, f3795, hs3795, hk3795, hO, hv3795⟩ := os_inner (Frz.os Frz.int) hv3792 hO
             have h0 := h0.sub (M' := M3795) hs3795
             have hv3475 := hv3475.sub (M' := M3795) hs3795
             have hv3477 := hv3477.sub (M' := M3795) hs3795
             have hv3700 := hv3700.sub (M' := M3795) hs3795
             have hv3778 := hv3778.sub (M' := M3795) hs3795
             have hK := hK.trans hk3795
             have hO := hO.fr1
             obtain ⟨a3794, n3794, c3794, w3794, f3794, hr3794, hC3794, hf3794, hv3794⟩ := app_os Rw49 hy3514 hv3778 hv3795 hO.inM (fun g hg hq => hO.apart g hq (mem_l hg))
             have hG3794 := os_block hv3778
             refine xk_val (w' := w3794) (b := true) (.slice a3794 n3794 c3794) rfl  (y_append rfl rfl (hr3794 _)) rfl (fun h => nomatch h) ?_
             have hO := hO.fr1
             have hO := hO.fr1
             have h0 := h0.mut hC3794 (fun g hg => hO.inM g (hG3794 g hg)) (fun _ _ h => nomatch h)
             have hb2 := hb2.chg hC3794 (fun hg => hO.apart _ (hG3794 _ hg) (mem_r (mem_r (mem_l (List.mem_singleton.2 rfl)))))
             have hv3475 := hv3475.mut hC3794 (fun g hg => hO.inM g (hG3794 g hg)) (fun _ _ h => nomatch h)
             have hv3477 := hv3477.mut hC3794 (fun g hg => hO.inM g (hG3794 g hg)) (fun g hg e => hO.apart g (hG3794 g hg) (mem_r (mem_l (e))))
             have hv3700 := hv3700.mut hC3794 (fun g hg => hO.inM g (hG3794 g hg)) (fun _ _ h => nomatch h)
             have hC := hC.step hC3794 (fun g hg => hO.inN g (hG3794 g hg))
             have hO := hO.eat hC3794 hf3794 (os_nodup hv3794) hv3794.fpl
             refine x_one (i := 10) (by kernel_rfl) ?_
             obtain ⟨M3799, eM3799, hs3799, hk3799, hO, hv3799⟩ := frz_own (Frz.os (Frz.rs Frz.int)) hv3794 hO
             have h0 := h0.sub (M' := M3799) hs3799
             have hv3475 := hv3475.sub (M' := M3799) hs3799
             have hv3477 := hv3477.sub (M' := M3799) hs3799
             have hv3700 := hv3700.sub (M' := M3799) hs3799
             have hK := hK.trans hk3799
             refine xk_call (b := true) rfl  Bd69 rfl (c_spec_l8Close (M := M3799) (a_.1, a_.2) 2 y3514 h0 hv3799 hO.fut hr3518) rfl (fun h => nomatch h) ?_
             rintro _ w3798 ⟨a3798x0, n3798x0, c3798x0, rfl, hC3798, hv3798x0⟩
             have hK := hK.trans (show Keeps w M3799 (Past M3799 w3794 w3798) from Keeps.past hC.size)
             have h0 := h0.ext hC3798
             have hb2 := hb2.chg hC3798 (fun h => nomatch h)
             have hv3475 := hv3475.ext hC3798
             have hv3477 := hv3477.ext hC3798
             have hv3700 := hv3700.ext hC3798
             have hv3799 := hv3799.ext hC3798
             have hC := hC.ext hC3798
             have hO := hO.past hC3798
             have h0 := h0.sub (M' := (Past M3799 w3794 w3798)) (fun g hg => .inl hg.1)
             have hv3475 := hv3475.sub (M' := (Past M3799 w3794 w3798)) (fun g hg => .inl hg.1)
             have hv3477 := hv3477.sub (M' := (Past M3799 w3794 w3798)) (fun g hg => .inl hg.1)
             have hv3700 := hv3700.sub (M' := (Past M3799 w3794 w3798)) (fun g hg => .inl hg.1)
             have hv3799 := hv3799.sub (M' := (Past M3799 w3794 w3798)) (fun g hg => .inl hg.1)
             refine x_p 11 (.tuple #[(.slice a3798x0 n3798x0 c3798x0), (.bool r3518.2)]) rfl (by kernel_rfl)  (fun _ => y_move rfl) (fun h => nomatch h) ?_
             refine x_p 12 (.slice a3798x0 n3798x0 c3798x0) rfl (by kernel_rfl)  (fun _ => y_extract rfl (by kernel_rfl)) (fun h => nomatch h) ?_
             refine x_p 13 (.bool r3518.2) rfl (by kernel_rfl)  (fun _ => y_extract rfl (by kernel_rfl)) (fun h => nomatch h) ?_
             refine x_p 14 (.slice a3798x0 n3798x0 c3798x0) rfl (by kernel_rfl)  (fun _ => y_assign rfl) (fun h => nomatch h) ?_
             refine x_p 15 (.bool r3518.2) rfl (by kernel_rfl)  (fun _ => y_assign rfl) (fun h => nomatch h) ?_
             refine x_end (by kernel_rfl) ?_
             clear hS
             have hO := hO.fr1
             have hO := hO.fr1
             exact ⟨_, (Past M3799 w3794 w3798), a3798x0, c3798x0, n3798x0, fr_ovl 96 ⟨rfl, rfl, rfl, rfl, rfl, rfl, trivial⟩, hC, hO, hK, h0, hb2, hv3475, hv3477, hv3798x0⟩
            ·skip
             obtain ⟨M3803, f3803, hs3803, hk3803, hO, hv3803⟩ := os_inner (Frz.os Frz.int) hv3792 hO
             have h0 := h0.sub (M' := M3803) hs3803
             have hv3475 := hv3475.sub (M' := M3803) hs3803
             have hv3477 := hv3477.sub (M' := M3803) hs3803
             have hv3700 := hv3700.sub (M' := M3803) hs3803
             have hv3778 := hv3778.sub (M' := M3803) hs3803
             have hK := hK.trans hk3803
             have hO := hO.fr1
             obtain ⟨a3802, n3802, c3802, w3802, f3802, hr3802, hC3802, hf3802, hv3802⟩ := app_os Rw49 hy3514 hv3778 hv3803 hO.inM (fun g hg hq => hO.apart g hq (mem_l hg))
             have hG3802 := os_block hv3778
             refine xk_val (w' := w3802) (b := true) (.slice a3802 n3802 c3802) rfl  (y_append rfl rfl (hr3802 _)) rfl (fun h => nomatch h) ?_
             have hO := hO.fr1
             have hO := hO.fr1
             have h0 := h0.mut hC3802 (fun g hg => hO.inM g (hG3802 g hg)) (fun _ _ h => nomatch h)
             have hb2 := hb2.chg hC3802 (fun hg => hO.apart _ (hG3802 _ hg) (mem_r (mem_r (mem_l (List.mem_singleton.2 rfl)))))
             have hv3475 := hv3475.mut hC3802 (fun g hg => hO.inM g (hG3802 g hg)) (fun _ _ h => nomatch h)
             have hv3477 := hv3477.mut hC3802 (fun g hg => hO.inM g (hG3802 g hg)) (fun g hg e => hO.apart g (hG3802 g hg) (mem_r (mem_l (e))))
             have hv3700 := hv3700.mut hC3802 (fun g hg => hO.inM g (hG3802 g hg)) (fun _ _ h => nomatch h)
             have hC := hC.step hC3802 (fun g hg => hO.inN g (hG3802 g hg))
             have hO := hO.eat hC3802 hf3802 (os_nodup hv3802) hv3802.fpl
             refine x_one (i := 0) (by kernel_rfl) ?_
             refine xk_val (b := true) (.agg #[(.int .i64 a_.1), (.slice pa0 pn0 pc0)]) rfl  (y_load rfl ((box_load Ag34 Sz34 hb2 [] [(.int .i64 a_.1), (.slice pa0 pn0 pc0)] [] rfl rfl (fun h => nomatch h)) _ (Chg.refl _ _))) rfl (fun h => nomatch h) ?_
             refine x_one (i := 10) (by kernel_rfl) ?_
             obtain ⟨M3807, eM3807, hs3807, hk3807, hO, hv3807⟩ := frz_own (Frz.os (Frz.rs Frz.int)) hv3802 hO
             have h0 := h0.sub (M' := M3807) hs3807
             have hv3475 := hv3475.sub (M' := M3807) hs3807
             have hv3477 := hv3477.sub (M' := M3807) hs3807
             have hv3700 := hv3700.sub (M' := M3807) hs3807
             have hK := hK.trans hk3807
             refine xk_call (b := true) rfl  Bd69 rfl (c_spec_l8Close (M := M3807) (a_.1, a_.2) 2 y3514 h0 hv3807 hO.fut hr3518) rfl (fun h => nomatch h) ?_
             rintro _ w3806 ⟨a3806x0, n3806x0, c3806x0, rfl, hC3806, hv3806x0⟩
             have hK := hK.trans (show Keeps w M3807 (Past M3807 w3802 w3806) from Keeps.past hC.size)
             have h0 := h0.ext hC3806
             have hb2 := hb2.chg hC3806 (fun h => nomatch h)
             have hv3475 := hv3475.ext hC3806
             have hv3477 := hv3477.ext hC3806
             have hv3700 := hv3700.ext hC3806
             have hv3807 := hv3807.ext hC3806
             have hC := hC.ext hC3806
             have hO := hO.past hC3806
             have h0 := h0.sub (M' := (Past M3807 w3802 w3806)) (fun g hg => .inl hg.1)
             have hv3475 := hv3475.sub (M' := (Past M3807 w3802 w3806)) (fun g hg => .inl hg.1)
             have hv3477 := hv3477.sub (M' := (Past M3807 w3802 w3806)) (fun g hg => .inl hg.1)
             have hv3700 := hv3700.sub (M' := (Past M3807 w3802 w3806)) (fun g hg => .inl hg.1)
             have hv3807 := hv3807.sub (M' := (Past M3807 w3802 w3806)) (fun g hg => .inl hg.1)
             refine x_p 11 (.tuple #[(.slice a3806x0 n3806x0 c3806x0), (.bool r3518.2)]) rfl (by kernel_rfl)  (fun _ => y_move rfl) (fun h => nomatch h) ?_
             refine x_p 12 (.slice a3806x0 n3806x0 c3806x0) rfl (by kernel_rfl)  (fun _ => y_extract rfl (by kernel_rfl)) (fun h => nomatch h) ?_
             refine x_p 13 (.bool r3518.2) rfl (by kernel_rfl)  (fun _ => y_extract rfl (by kernel_rfl)) (fun h => nomatch h) ?_
             refine x_p 14 (.slice a3806x0 n3806x0 c3806x0) rfl (by kernel_rfl)  (fun _ => y_assign rfl) (fun h => nomatch h) ?_
             refine x_p 15 (.bool r3518.2) rfl (by kernel_rfl)  (fun _ => y_assign rfl) (fun h => nomatch h) ?_
             refine x_end (by kernel_rfl) ?_
             clear hS
             have hO := hO.fr1
             have hO := hO.fr1
             exact ⟨_, (Past M3807 w3802 w3806), a3806x0, c3806x0, n3806x0, fr_ovl 96 ⟨rfl, rfl, rfl, rfl, rfl, rfl, trivial⟩, hC, hO, hK, h0, hb2, hv3475, hv3477, hv3806x0⟩
          ·skip
           obtain ⟨w3810, g3810, ew3810, eg3810, hC3810, hb3810⟩ := new_block w3748 [(.slice a3489x0 n3489x0 c3489x0)] 25
           refine xk_val (w' := w3810) (b := false) (.slice (some ⟨g3810, 0, none⟩) 1 1) rfl  (y_bslice rfl (by rw [ew3810, eg3810]; kernel_rfl)) rfl (fun _ => hS.ext hC3810) ?_
           have h0 := h0.ext hC3810
           have hb2 := hb2.chg hC3810 (fun h => nomatch h)
           have hv3475 := hv3475.ext hC3810
           have hv3477 := hv3477.ext hC3810
           have hv3489x0 := hv3489x0.ext hC3810
           have hv3700 := hv3700.ext hC3810
           have hv3748 := hv3748.ext hC3810
           have hC := hC.ext hC3810
           have hO := hO.fr1
           have hO := hO.new1 hC3810 eg3810 hb3810.lt
           have hO := hO.perm (R := (g3810 :: ((f3489x0) ++ ([]))) ++ (([g3748]) ++ (f3477 ++ (([g2]) ++ ([]))))) (by simp)
           have hnd3810 := hO.nd
           have hv3810 := os_of_box (r := (RT.os 3 (RT.int .i64))) (M := M3474) (css := [[(.slice a3489x0 n3489x0 c3489x0)]]) (fps := [(f3489x0 : List Nat)]) (xs := ([r3490] : List (List Int))) hb3810 ⟨(os_unval hv3489x0), trivial⟩ (Nat.le_of_ble_eq_true rfl) hnd3810
           have hv3810 : (RT.os 25 (RT.os 3 (RT.int .i64))).val M3474 w3810 (.slice (some ⟨g3810, 0, none⟩) 1 1) [r3490] (g3810 :: ((f3489x0) ++ ([]))) := hv3810
           have hS := hS.ext hC3810
           refine x_two (i := 0) (j := 6) (by kernel_rfl) ?_ ?_
           ·skip
            refine xk_val (b := false) (.agg #[(.int .i64 a_.1), (.slice pa0 pn0 pc0)]) rfl  (y_load rfl ((box_load Ag34 Sz34 hb2 [] [(.int .i64 a_.1), (.slice pa0 pn0 pc0)] [] rfl rfl (fun h => nomatch h)) _ (Chg.refl _ _))) rfl (fun _ => hS) ?_
            refine x_one (i := 6) (by kernel_rfl) ?_
            have hO := hO.fr1
            obtain ⟨M3813, f3813, hs3813, hk3813, hO, hv3813⟩ := os_inner (Frz.os Frz.int) hv3748 hO
            have h0 := h0.sub (M' := M3813) hs3813
            have hv3475 := hv3475.sub (M' := M3813) hs3813
            have hv3477 := hv3477.sub (M' := M3813) hs3813
            have hv3700 := hv3700.sub (M' := M3813) hs3813
            have hv3810 := hv3810.sub (M' := M3813) hs3813
            have hK := hK.trans hk3813
            obtain ⟨a3812, n3812, c3812, w3812, f3812, hr3812, hC3812, hf3812, hv3812⟩ := app_rs Rw49 hy3508 hv3813 hv3700 hO.inM
            have hG3812 := os_block hv3813
            refine xk_val (w' := w3812) (b := true) (.slice a3812 n3812 c3812) rfl  (y_append rfl rfl (hr3812 _)) rfl (fun h => nomatch h) ?_
            have h0 := h0.mut hC3812 (fun g hg => hO.inM g (hG3812 g hg)) (fun _ _ h => nomatch h)
            have hb2 := hb2.chg hC3812 (fun hg => hO.apart _ (hG3812 _ hg) (mem_r (mem_r (mem_l (List.mem_singleton.2 rfl)))))
            have hv3475 := hv3475.mut hC3812 (fun g hg => hO.inM g (hG3812 g hg)) (fun _ _ h => nomatch h)
            have hv3477 := hv3477.mut hC3812 (fun g hg => hO.inM g (hG3812 g hg)) (fun g hg e => hO.apart g (hG3812 g hg) (mem_r (mem_l (e))))
            have hv3700 := hv3700.mut hC3812 (fun g hg => hO.inM g (hG3812 g hg)) (fun _ _ h => nomatch h)
            have hv3810 := hv3810.mut hC3812 (fun g hg => hO.inM g (hG3812 g hg)) (fun g hg e => hO.apart g (hG3812 g hg) (mem_l (e)))
            have hC := hC.step hC3812 (fun g hg => hO.inN g (hG3812 g hg))
            have hO := hO.grow hC3812 hf3812 (os_nodup hv3812) hv3812.fpl
            refine x_one (i := 9) (by kernel_rfl) ?_
            have hO := hO.fr1
            obtain ⟨M3817, f3817, hs3817, hk3817, hO, hv3817⟩ := os_inner (Frz.os Frz.int) hv3810 hO
            have h0 := h0.sub (M' := M3817) hs3817
            have hv3475 := hv3475.sub (M' := M3817) hs3817
            have hv3477 := hv3477.sub (M' := M3817) hs3817
            have hv3700 := hv3700.sub (M' := M3817) hs3817
            have hv3812 := hv3812.sub (M' := M3817) hs3817
            have hK := hK.trans hk3817
            have hO := hO.fr1
            obtain ⟨a3816, n3816, c3816, w3816, f3816, hr3816, hC3816, hf3816, hv3816⟩ := app_os Rw49 hy3514 hv3812 hv3817 hO.inM (fun g hg hq => hO.apart g hq (mem_l hg))
            have hG3816 := os_block hv3812
            refine xk_val (w' := w3816) (b := true) (.slice a3816 n3816 c3816) rfl  (y_append rfl rfl (hr3816 _)) rfl (fun h => nomatch h) ?_
            have hO := hO.fr1
            have hO := hO.fr1
            have h0 := h0.mut hC3816 (fun g hg => hO.inM g (hG3816 g hg)) (fun _ _ h => nomatch h)
            have hb2 := hb2.chg hC3816 (fun hg => hO.apart _ (hG3816 _ hg) (mem_r (mem_r (mem_l (List.mem_singleton.2 rfl)))))
            have hv3475 := hv3475.mut hC3816 (fun g hg => hO.inM g (hG3816 g hg)) (fun _ _ h => nomatch h)
            have hv3477 := hv3477.mut hC3816 (fun g hg => hO.inM g (hG3816 g hg)) (fun g hg e => hO.apart g (hG3816 g hg) (mem_r (mem_l (e))))
            have hv3700 := hv3700.mut hC3816 (fun g hg => hO.inM g (hG3816 g hg)) (fun _ _ h => nomatch h)
            have hC := hC.step hC3816 (fun g hg => hO.inN g (hG3816 g hg))
            have hO := hO.eat hC3816 hf3816 (os_nodup hv3816) hv3816.fpl
            refine x_one (i := 10) (by kernel_rfl) ?_
            obtain ⟨M3821, eM3821, hs3821, hk3821, hO, hv3821⟩ := frz_own (Frz.os (Frz.rs Frz.int)) hv3816 hO
            have h0 := h0.sub (M' := M3821) hs3821
            have hv3475 := hv3475.sub (M' := M3821) hs3821
            have hv3477 := hv3477.sub (M' := M3821) hs3821
            have hv3700 := hv3700.sub (M' := M3821) hs3821
            have hK := hK.trans hk3821
            refine xk_call (b := true) rfl  Bd69 rfl (c_spec_l8Close (M := M3821) (a_.1, a_.2) 2 y3514 h0 hv3821 hO.fut hr3518) rfl (fun h => nomatch h) ?_
            rintro _ w3820 ⟨a3820x0, n3820x0, c3820x0, rfl, hC3820, hv3820x0⟩
            have hK := hK.trans (show Keeps w M3821 (Past M3821 w3816 w3820) from Keeps.past hC.size)
            have h0 := h0.ext hC3820
            have hb2 := hb2.chg hC3820 (fun h => nomatch h)
            have hv3475 := hv3475.ext hC3820
            have hv3477 := hv3477.ext hC3820
            have hv3700 := hv3700.ext hC3820
            have hv3821 := hv3821.ext hC3820
            have hC := hC.ext hC3820
            have hO := hO.past hC3820
            have h0 := h0.sub (M' := (Past M3821 w3816 w3820)) (fun g hg => .inl hg.1)
            have hv3475 := hv3475.sub (M' := (Past M3821 w3816 w3820)) (fun g hg => .inl hg.1)
            have hv3477 := hv3477.sub (M' := (Past M3821 w3816 w3820)) (fun g hg => .inl hg.1)
            have hv3700 := hv3700.sub (M' := (Past M3821 w3816 w3820)) (fun g hg => .inl hg.1)
            have hv3821 := hv3821.sub (M' := (Past M3821 w3816 w3820)) (fun g hg => .inl hg.1)
            refine x_p 11 (.tuple #[(.slice a3820x0 n3820x0 c3820x0), (.bool r3518.2)]) rfl (by kernel_rfl)  (fun _ => y_move rfl) (fun h => nomatch h) ?_
            refine x_p 12 (.slice a3820x0 n3820x0 c3820x0) rfl (by kernel_rfl)  (fun _ => y_extract rfl (by kernel_rfl)) (fun h => nomatch h) ?_
            refine x_p 13 (.bool r3518.2) rfl (by kernel_rfl)  (fun _ => y_extract rfl (by kernel_rfl)) (fun h => nomatch h) ?_
            refine x_p 14 (.slice a3820x0 n3820x0 c3820x0) rfl (by kernel_rfl)  (fun _ => y_assign rfl) (fun h => nomatch h) ?_
            refine x_p 15 (.bool r3518.2) rfl (by kernel_rfl)  (fun _ => y_assign rfl) (fun h => nomatch h) ?_
            refine x_end (by kernel_rfl) ?_
            clear hS
            have hO := hO.fr1
            have hO := hO.fr1
            exact ⟨_, (Past M3821 w3816 w3820), a3820x0, c3820x0, n3820x0, fr_ovl 96 ⟨rfl, rfl, rfl, rfl, rfl, rfl, trivial⟩, hC, hO, hK, h0, hb2, hv3475, hv3477, hv3820x0⟩
           ·skip
            have hO := hO.fr1
            obtain ⟨M3825, f3825, hs3825, hk3825, hO, hv3825⟩ := os_inner (Frz.os Frz.int) hv3748 hO
            have h0 := h0.sub (M' := M3825) hs3825
            have hv3475 := hv3475.sub (M' := M3825) hs3825
            have hv3477 := hv3477.sub (M' := M3825) hs3825
            have hv3700 := hv3700.sub (M' := M3825) hs3825
            have hv3810 := hv3810.sub (M' := M3825) hs3825
            have hK := hK.trans hk3825
            obtain ⟨a3824, n3824, c3824, w3824, f3824, hr3824, hC3824, hf3824, hv3824⟩ := app_rs Rw49 hy3508 hv3825 hv3700 hO.inM
            have hG3824 := os_block hv3825
            refine xk_val (w' := w3824) (b := true) (.slice a3824 n3824 c3824) rfl  (y_append rfl rfl (hr3824 _)) rfl (fun h => nomatch h) ?_
            have h0 := h0.mut hC3824 (fun g hg => hO.inM g (hG3824 g hg)) (fun _ _ h => nomatch h)
            have hb2 := hb2.chg hC3824 (fun hg => hO.apart _ (hG3824 _ hg) (mem_r (mem_r (mem_l (List.mem_singleton.2 rfl)))))
            have hv3475 := hv3475.mut hC3824 (fun g hg => hO.inM g (hG3824 g hg)) (fun _ _ h => nomatch h)
            have hv3477 := hv3477.mut hC3824 (fun g hg => hO.inM g (hG3824 g hg)) (fun g hg e => hO.apart g (hG3824 g hg) (mem_r (mem_l (e))))
            have hv3700 := hv3700.mut hC3824 (fun g hg => hO.inM g (hG3824 g hg)) (fun _ _ h => nomatch h)
            have hv3810 := hv3810.mut hC3824 (fun g hg => hO.inM g (hG3824 g hg)) (fun g hg e => hO.apart g (hG3824 g hg) (mem_l (e)))
            have hC := hC.step hC3824 (fun g hg => hO.inN g (hG3824 g hg))
            have hO := hO.grow hC3824 hf3824 (os_nodup hv3824) hv3824.fpl
            refine x_two (i := 0) (j := 9) (by kernel_rfl) ?_ ?_
            ·skip
             refine xk_val (b := true) (.agg #[(.int .i64 a_.1), (.slice pa0 pn0 pc0)]) rfl  (y_load rfl ((box_load Ag34 Sz34 hb2 [] [(.int .i64 a_.1), (.slice pa0 pn0 pc0)] [] rfl rfl (fun h => nomatch h)) _ (Chg.refl _ _))) rfl (fun h => nomatch h) ?_
             refine x_one (i := 9) (by kernel_rfl) ?_
             have hO := hO.fr1
             obtain ⟨M3829, f3829, hs3829, hk3829, hO, hv3829⟩ := os_inner (Frz.os Frz.int) hv3810 hO
             have h0 := h0.sub (M' := M3829) hs3829
             have hv3475 := hv3475.sub (M' := M3829) hs3829
             have hv3477 := hv3477.sub (M' := M3829) hs3829
             have hv3700 := hv3700.sub (M' := M3829) hs3829
             have hv3824 := hv3824.sub (M' := M3829) hs3829
             have hK := hK.trans hk3829
             have hO := hO.fr1
             obtain ⟨a3828, n3828, c3828, w3828, f3828, hr3828, hC3828, hf3828, hv3828⟩ := app_os Rw49 hy3514 hv3824 hv3829 hO.inM (fun g hg hq => hO.apart g hq (mem_l hg))
             have hG3828 := os_block hv3824
             refine xk_val (w' := w3828) (b := true) (.slice a3828 n3828 c3828) rfl  (y_append rfl rfl (hr3828 _)) rfl (fun h => nomatch h) ?_
             have hO := hO.fr1
             have hO := hO.fr1
             have h0 := h0.mut hC3828 (fun g hg => hO.inM g (hG3828 g hg)) (fun _ _ h => nomatch h)
             have hb2 := hb2.chg hC3828 (fun hg => hO.apart _ (hG3828 _ hg) (mem_r (mem_r (mem_l (List.mem_singleton.2 rfl)))))
             have hv3475 := hv3475.mut hC3828 (fun g hg => hO.inM g (hG3828 g hg)) (fun _ _ h => nomatch h)
             have hv3477 := hv3477.mut hC3828 (fun g hg => hO.inM g (hG3828 g hg)) (fun g hg e => hO.apart g (hG3828 g hg) (mem_r (mem_l (e))))
             have hv3700 := hv3700.mut hC3828 (fun g hg => hO.inM g (hG3828 g hg)) (fun _ _ h => nomatch h)
             have hC := hC.step hC3828 (fun g hg => hO.inN g (hG3828 g hg))
             have hO := hO.eat hC3828 hf3828 (os_nodup hv3828) hv3828.fpl
             refine x_one (i := 10) (by kernel_rfl) ?_
             obtain ⟨M3833, eM3833, hs3833, hk3833, hO, hv3833⟩ := frz_own (Frz.os (Frz.rs Frz.int)) hv3828 hO
             have h0 := h0.sub (M' := M3833) hs3833
             have hv3475 := hv3475.sub (M' := M3833) hs3833
             have hv3477 := hv3477.sub (M' := M3833) hs3833
             have hv3700 := hv3700.sub (M' := M3833) hs3833
             have hK := hK.trans hk3833
             refine xk_call (b := true) rfl  Bd69 rfl (c_spec_l8Close (M := M3833) (a_.1, a_.2) 2 y3514 h0 hv3833 hO.fut hr3518) rfl (fun h => nomatch h) ?_
             rintro _ w3832 ⟨a3832x0, n3832x0, c3832x0, rfl, hC3832, hv3832x0⟩
             have hK := hK.trans (show Keeps w M3833 (Past M3833 w3828 w3832) from Keeps.past hC.size)
             have h0 := h0.ext hC3832
             have hb2 := hb2.chg hC3832 (fun h => nomatch h)
             have hv3475 := hv3475.ext hC3832
             have hv3477 := hv3477.ext hC3832
             have hv3700 := hv3700.ext hC3832
             have hv3833 := hv3833.ext hC3832
             have hC := hC.ext hC3832
             have hO := hO.past hC3832
             have h0 := h0.sub (M' := (Past M3833 w3828 w3832)) (fun g hg => .inl hg.1)
             have hv3475 := hv3475.sub (M' := (Past M3833 w3828 w3832)) (fun g hg => .inl hg.1)
             have hv3477 := hv3477.sub (M' := (Past M3833 w3828 w3832)) (fun g hg => .inl hg.1)
             have hv3700 := hv3700.sub (M' := (Past M3833 w3828 w3832)) (fun g hg => .inl hg.1)
             have hv3833 := hv3833.sub (M' := (Past M3833 w3828 w3832)) (fun g hg => .inl hg.1)
             refine x_p 11 (.tuple #[(.slice a3832x0 n3832x0 c3832x0), (.bool r3518.2)]) rfl (by kernel_rfl)  (fun _ => y_move rfl) (fun h => nomatch h) ?_
             refine x_p 12 (.slice a3832x0 n3832x0 c3832x0) rfl (by kernel_rfl)  (fun _ => y_extract rfl (by kernel_rfl)) (fun h => nomatch h) ?_
             refine x_p 13 (.bool r3518.2) rfl (by kernel_rfl)  (fun _ => y_extract rfl (by kernel_rfl)) (fun h => nomatch h) ?_
             refine x_p 14 (.slice a3832x0 n3832x0 c3832x0) rfl (by kernel_rfl)  (fun _ => y_assign rfl) (fun h => nomatch h) ?_
             refine x_p 15 (.bool r3518.2) rfl (by kernel_rfl)  (fun _ => y_assign rfl) (fun h => nomatch h) ?_
             refine x_end (by kernel_rfl) ?_
             clear hS
             have hO := hO.fr1
             have hO := hO.fr1
             exact ⟨_, (Past M3833 w3828 w3832), a3832x0, c3832x0, n3832x0, fr_ovl 96 ⟨rfl, rfl, rfl, rfl, rfl, rfl, trivial⟩, hC, hO, hK, h0, hb2, hv3475, hv3477, hv3832x0⟩
            ·skip
             have hO := hO.fr1
             obtain ⟨M3837, f3837, hs3837, hk3837, hO, hv3837⟩ := os_inner (Frz.os Frz.int) hv3810 hO
             have h0 := h0.sub (M' := M3837) hs3837
             have hv3475 := hv3475.sub (M' := M3837) hs3837
             have hv3477 := hv3477.sub (M' := M3837) hs3837
             have hv3700 := hv3700.sub (M' := M3837) hs3837
             have hv3824 := hv3824.sub (M' := M3837) hs3837
             have hK := hK.trans hk3837
             have hO := hO.fr1
             obtain ⟨a3836, n3836, c3836, w3836, f3836, hr3836, hC3836, hf3836, hv3836⟩ := app_os Rw49 hy3514 hv3824 hv3837 hO.inM (fun g hg hq => hO.apart g hq (mem_l hg))
             have hG3836 := os_block hv3824
             refine xk_val (w' := w3836) (b := true) (.slice a3836 n3836 c3836) rfl  (y_append rfl rfl (hr3836 _)) rfl (fun h => nomatch h) ?_
             have hO := hO.fr1
             have hO := hO.fr1
             have h0 := h0.mut hC3836 (fun g hg => hO.inM g (hG3836 g hg)) (fun _ _ h => nomatch h)
             have hb2 := hb2.chg hC3836 (fun hg => hO.apart _ (hG3836 _ hg) (mem_r (mem_r (mem_l (List.mem_singleton.2 rfl)))))
             have hv3475 := hv3475.mut hC3836 (fun g hg => hO.inM g (hG3836 g hg)) (fun _ _ h => nomatch h)
             have hv3477 := hv3477.mut hC3836 (fun g hg => hO.inM g (hG3836 g hg)) (fun g hg e => hO.apart g (hG3836 g hg) (mem_r (mem_l (e))))
             have hv3700 := hv3700.mut hC3836 (fun g hg => hO.inM g (hG3836 g hg)) (fun _ _ h => nomatch h)
             have hC := hC.step hC3836 (fun g hg => hO.inN g (hG3836 g hg))
             have hO := hO.eat hC3836 hf3836 (os_nodup hv3836) hv3836.fpl
             refine x_one (i := 0) (by kernel_rfl) ?_
             refine xk_val (b := true) (.agg #[(.int .i64 a_.1), (.slice pa0 pn0 pc0)]) rfl  (y_load rfl ((box_load Ag34 Sz34 hb2 [] [(.int .i64 a_.1), (.slice pa0 pn0 pc0)] [] rfl rfl (fun h => nomatch h)) _ (Chg.refl _ _))) rfl (fun h => nomatch h) ?_
             refine x_one (i := 10) (by kernel_rfl) ?_
             obtain ⟨M3841, eM3841, hs3841, hk3841, hO, hv3841⟩ := frz_own (Frz.os (Frz.rs Frz.int)) hv3836 hO
             have h0 := h0.sub (M' := M3841) hs3841
             have hv3475 := hv3475.sub (M' := M3841) hs3841
             have hv3477 := hv3477.sub (M' := M3841) hs3841
             have hv3700 := hv3700.sub (M' := M3841) hs3841
             have hK := hK.trans hk3841
             refine xk_call (b := true) rfl  Bd69 rfl (c_spec_l8Close (M := M3841) (a_.1, a_.2) 2 y3514 h0 hv3841 hO.fut hr3518) rfl (fun h => nomatch h) ?_
             rintro _ w3840 ⟨a3840x0, n3840x0, c3840x0, rfl, hC3840, hv3840x0⟩
             have hK := hK.trans (show Keeps w M3841 (Past M3841 w3836 w3840) from Keeps.past hC.size)
             have h0 := h0.ext hC3840
             have hb2 := hb2.chg hC3840 (fun h => nomatch h)
             have hv3475 := hv3475.ext hC3840
             have hv3477 := hv3477.ext hC3840
             have hv3700 := hv3700.ext hC3840
             have hv3841 := hv3841.ext hC3840
             have hC := hC.ext hC3840
             have hO := hO.past hC3840
             have h0 := h0.sub (M' := (Past M3841 w3836 w3840)) (fun g hg => .inl hg.1)
             have hv3475 := hv3475.sub (M' := (Past M3841 w3836 w3840)) (fun g hg => .inl hg.1)
             have hv3477 := hv3477.sub (M' := (Past M3841 w3836 w3840)) (fun g hg => .inl hg.1)
             have hv3700 := hv3700.sub (M' := (Past M3841 w3836 w3840)) (fun g hg => .inl hg.1)
             have hv3841 := hv3841.sub (M' := (Past M3841 w3836 w3840)) (fun g hg => .inl hg.1)
             refine x_p 11 (.tuple #[(.slice a3840x0 n3840x0 c3840x0), (.bool r3518.2)]) rfl (by kernel_rfl)  (fun _ => y_move rfl) (fun h => nomatch h) ?_
             refine x_p 12 (.slice a3840x0 n3840x0 c3840x0) rfl (by kernel_rfl)  (fun _ => y_extract rfl (by kernel_rfl)) (fun h => nomatch h) ?_
             refine x_p 13 (.bool r3518.2) rfl (by kernel_rfl)  (fun _ => y_extract rfl (by kernel_rfl)) (fun h => nomatch h) ?_
             refine x_p 14 (.slice a3840x0 n3840x0 c3840x0) rfl (by kernel_rfl)  (fun _ => y_assign rfl) (fun h => nomatch h) ?_
             refine x_p 15 (.bool r3518.2) rfl (by kernel_rfl)  (fun _ => y_assign rfl) (fun h => nomatch h) ?_
             refine x_end (by kernel_rfl) ?_
             clear hS
             have hO := hO.fr1
             have hO := hO.fr1
             exact ⟨_, (Past M3841 w3836 w3840), a3840x0, c3840x0, n3840x0, fr_ovl 96 ⟨rfl, rfl, rfl, rfl, rfl, rfl, trivial⟩, hC, hO, hK, h0, hb2, hv3475, hv3477, hv3840x0⟩
         ·skip
          obtain ⟨w3844, g3844, ew3844, eg3844, hC3844, hb3844⟩ := new_block w3697 [(.slice a3489x0 n3489x0 c3489x0)] 25
          refine xk_val (w' := w3844) (b := false) (.slice (some ⟨g3844, 0, none⟩) 1 1) rfl  (y_bslice rfl (by rw [ew3844, eg3844]; kernel_rfl)) rfl (fun _ => hS.ext hC3844) ?_
          have h0 := h0.ext hC3844
          have hb2 := hb2.chg hC3844 (fun h => nomatch h)
          have hv3475 := hv3475.ext hC3844
          have hv3477 := hv3477.ext hC3844
          have hv3489x0 := hv3489x0.ext hC3844
          have hv3700 := hv3700.ext hC3844
          have hC := hC.ext hC3844
          have hO := hO.new1 hC3844 eg3844 hb3844.lt
          have hO := hO.perm (R := (g3844 :: ((f3489x0) ++ ([]))) ++ (f3477 ++ (([g2]) ++ ([])))) (by simp)
          have hnd3844 := hO.nd
          have hv3844 := os_of_box (r := (RT.os 3 (RT.int .i64))) (M := M3474) (css := [[(.slice a3489x0 n3489x0 c3489x0)]]) (fps := [(f3489x0 : List Nat)]) (xs := ([r3490] : List (List Int))) hb3844 ⟨(os_unval hv3489x0), trivial⟩ (Nat.le_of_ble_eq_true rfl) hnd3844
          have hv3844 : (RT.os 25 (RT.os 3 (RT.int .i64))).val M3474 w3844 (.slice (some ⟨g3844, 0, none⟩) 1 1) [r3490] (g3844 :: ((f3489x0) ++ ([]))) := hv3844
          have hS := hS.ext hC3844
          refine x_two (i := 0) (j := 1) (by kernel_rfl) ?_ ?_
          ·skip
           refine xk_val (b := false) (.agg #[(.int .i64 a_.1), (.slice pa0 pn0 pc0)]) rfl  (y_load rfl ((box_load Ag34 Sz34 hb2 [] [(.int .i64 a_.1), (.slice pa0 pn0 pc0)] [] rfl rfl (fun h => nomatch h)) _ (Chg.refl _ _))) rfl (fun _ => hS) ?_
           refine x_one (i := 1) (by kernel_rfl) ?_
           obtain ⟨w3846, g3846, ew3846, eg3846, hC3846, hb3846⟩ := new_block w3844 [] 25
           refine xk_val (w' := w3846) (b := false) (.slice (some ⟨g3846, 0, none⟩) 0 0) rfl  (y_bslice rfl (by rw [ew3846, eg3846]; kernel_rfl)) rfl (fun _ => hS.ext hC3846) ?_
           have h0 := h0.ext hC3846
           have hb2 := hb2.chg hC3846 (fun h => nomatch h)
           have hv3475 := hv3475.ext hC3846
           have hv3477 := hv3477.ext hC3846
           have hv3700 := hv3700.ext hC3846
           have hv3844 := hv3844.ext hC3846
           have hC := hC.ext hC3846
           have hO := hO.new1 hC3846 eg3846 hb3846.lt
           have hv3846 := os_of_box (r := (RT.os 3 (RT.int .i64))) (M := M3474) (css := []) (fps := []) (xs := ([] : List (List Int))) hb3846 trivial (Nat.zero_le _) (List.nodup_cons.2 ⟨(fun h => nomatch h), List.nodup_nil⟩)
           have hv3846 : (RT.os 25 (RT.os 3 (RT.int .i64))).val M3474 w3846 (.slice (some ⟨g3846, 0, none⟩) 0 0) [] [g3846] := hv3846
           have hS := hS.ext hC3846
           refine x_one (i := 6) (by kernel_rfl) ?_
           obtain ⟨M3849, f3849, hs3849, hk3849, hO, hv3849⟩ := os_inner (Frz.os Frz.int) hv3846 hO
           have h0 := h0.sub (M' := M3849) hs3849
           have hv3475 := hv3475.sub (M' := M3849) hs3849
           have hv3477 := hv3477.sub (M' := M3849) hs3849
           have hv3700 := hv3700.sub (M' := M3849) hs3849
           have hv3844 := hv3844.sub (M' := M3849) hs3849
           have hK := hK.trans hk3849
           obtain ⟨a3848, n3848, c3848, w3848, f3848, hr3848, hC3848, hf3848, hv3848⟩ := app_rs Rw49 hy3508 hv3849 hv3700 hO.inM
           have hG3848 := os_block hv3849
           refine xk_val (w' := w3848) (b := true) (.slice a3848 n3848 c3848) rfl  (y_append rfl rfl (hr3848 _)) rfl (fun h => nomatch h) ?_
           have h0 := h0.mut hC3848 (fun g hg => hO.inM g (hG3848 g hg)) (fun _ _ h => nomatch h)
           have hb2 := hb2.chg hC3848 (fun hg => hO.apart _ (hG3848 _ hg) (mem_r (mem_r (mem_l (List.mem_singleton.2 rfl)))))
           have hv3475 := hv3475.mut hC3848 (fun g hg => hO.inM g (hG3848 g hg)) (fun _ _ h => nomatch h)
           have hv3477 := hv3477.mut hC3848 (fun g hg => hO.inM g (hG3848 g hg)) (fun g hg e => hO.apart g (hG3848 g hg) (mem_r (mem_l (e))))
           have hv3700 := hv3700.mut hC3848 (fun g hg => hO.inM g (hG3848 g hg)) (fun _ _ h => nomatch h)
           have hv3844 := hv3844.mut hC3848 (fun g hg => hO.inM g (hG3848 g hg)) (fun g hg e => hO.apart g (hG3848 g hg) (mem_l (e)))
           have hC := hC.step hC3848 (fun g hg => hO.inN g (hG3848 g hg))
           have hO := hO.grow hC3848 hf3848 (os_nodup hv3848) hv3848.fpl
           refine x_one (i := 9) (by kernel_rfl) ?_
           have hO := hO.fr1
           obtain ⟨M3853, f3853, hs3853, hk3853, hO, hv3853⟩ := os_inner (Frz.os Frz.int) hv3844 hO
           have h0 := h0.sub (M' := M3853) hs3853
           have hv3475 := hv3475.sub (M' := M3853) hs3853
           have hv3477 := hv3477.sub (M' := M3853) hs3853
           have hv3700 := hv3700.sub (M' := M3853) hs3853
           have hv3848 := hv3848.sub (M' := M3853) hs3853
           have hK := hK.trans hk3853
           have hO := hO.fr1
           obtain ⟨a3852, n3852, c3852, w3852, f3852, hr3852, hC3852, hf3852, hv3852⟩ := app_os Rw49 hy3514 hv3848 hv3853 hO.inM (fun g hg hq => hO.apart g hq (mem_l hg))
           have hG3852 := os_block hv3848
           refine xk_val (w' := w3852) (b := true) (.slice a3852 n3852 c3852) rfl  (y_append rfl rfl (hr3852 _)) rfl (fun h => nomatch h) ?_
           have hO := hO.fr1
           have hO := hO.fr1
           have h0 := h0.mut hC3852 (fun g hg => hO.inM g (hG3852 g hg)) (fun _ _ h => nomatch h)
           have hb2 := hb2.chg hC3852 (fun hg => hO.apart _ (hG3852 _ hg) (mem_r (mem_r (mem_l (List.mem_singleton.2 rfl)))))
           have hv3475 := hv3475.mut hC3852 (fun g hg => hO.inM g (hG3852 g hg)) (fun _ _ h => nomatch h)
           have hv3477 := hv3477.mut hC3852 (fun g hg => hO.inM g (hG3852 g hg)) (fun g hg e => hO.apart g (hG3852 g hg) (mem_r (mem_l (e))))
           have hv3700 := hv3700.mut hC3852 (fun g hg => hO.inM g (hG3852 g hg)) (fun _ _ h => nomatch h)
           have hC := hC.step hC3852 (fun g hg => hO.inN g (hG3852 g hg))
           have hO := hO.eat hC3852 hf3852 (os_nodup hv3852) hv3852.fpl
           refine x_one (i := 10) (by kernel_rfl) ?_
           obtain ⟨M3857, eM3857, hs3857, hk3857, hO, hv3857⟩ := frz_own (Frz.os (Frz.rs Frz.int)) hv3852 hO
           have h0 := h0.sub (M' := M3857) hs3857
           have hv3475 := hv3475.sub (M' := M3857) hs3857
           have hv3477 := hv3477.sub (M' := M3857) hs3857
           have hv3700 := hv3700.sub (M' := M3857) hs3857
           have hK := hK.trans hk3857
           refine xk_call (b := true) rfl  Bd69 rfl (c_spec_l8Close (M := M3857) (a_.1, a_.2) 2 y3514 h0 hv3857 hO.fut hr3518) rfl (fun h => nomatch h) ?_
           rintro _ w3856 ⟨a3856x0, n3856x0, c3856x0, rfl, hC3856, hv3856x0⟩
           have hK := hK.trans (show Keeps w M3857 (Past M3857 w3852 w3856) from Keeps.past hC.size)
           have h0 := h0.ext hC3856
           have hb2 := hb2.chg hC3856 (fun h => nomatch h)
           have hv3475 := hv3475.ext hC3856
           have hv3477 := hv3477.ext hC3856
           have hv3700 := hv3700.ext hC3856
           have hv3857 := hv3857.ext hC3856
           have hC := hC.ext hC3856
           have hO := hO.past hC3856
           have h0 := h0.sub (M' := (Past M3857 w3852 w3856)) (fun g hg => .inl hg.1)
           have hv3475 := hv3475.sub (M' := (Past M3857 w3852 w3856)) (fun g hg => .inl hg.1)
           have hv3477 := hv3477.sub (M' := (Past M3857 w3852 w3856)) (fun g hg => .inl hg.1)
           have hv3700 := hv3700.sub (M' := (Past M3857 w3852 w3856)) (fun g hg => .inl hg.1)
           have hv3857 := hv3857.sub (M' := (Past M3857 w3852 w3856)) (fun g hg => .inl hg.1)
           refine x_p 11 (.tuple #[(.slice a3856x0 n3856x0 c3856x0), (.bool r3518.2)]) rfl (by kernel_rfl)  (fun _ => y_move rfl) (fun h => nomatch h) ?_
           refine x_p 12 (.slice a3856x0 n3856x0 c3856x0) rfl (by kernel_rfl)  (fun _ => y_extract rfl (by kernel_rfl)) (fun h => nomatch h) ?_
           refine x_p 13 (.bool r3518.2) rfl (by kernel_rfl)  (fun _ => y_extract rfl (by kernel_rfl)) (fun h => nomatch h) ?_
           refine x_p 14 (.slice a3856x0 n3856x0 c3856x0) rfl (by kernel_rfl)  (fun _ => y_assign rfl) (fun h => nomatch h) ?_
           refine x_p 15 (.bool r3518.2) rfl (by kernel_rfl)  (fun _ => y_assign rfl) (fun h => nomatch h) ?_
           refine x_end (by kernel_rfl) ?_
           clear hS
           have hO := hO.fr1
           have hO := hO.fr1
           exact ⟨_, (Past M3857 w3852 w3856), a3856x0, c3856x0, n3856x0, fr_ovl 96 ⟨rfl, rfl, rfl, rfl, rfl, rfl, trivial⟩, hC, hO, hK, h0, hb2, hv3475, hv3477, hv3856x0⟩
          ·skip
           obtain ⟨w3860, g3860, ew3860, eg3860, hC3860, hb3860⟩ := new_block w3844 [] 25
           refine xk_val (w' := w3860) (b := false) (.slice (some ⟨g3860, 0, none⟩) 0 0) rfl  (y_bslice rfl (by rw [ew3860, eg3860]; kernel_rfl)) rfl (fun _ => hS.ext hC3860) ?_
           have h0 := h0.ext hC3860
           have hb2 := hb2.chg hC3860 (fun h => nomatch h)
           have hv3475 := hv3475.ext hC3860
           have hv3477 := hv3477.ext hC3860
           have hv3700 := hv3700.ext hC3860
           have hv3844 := hv3844.ext hC3860
           have hC := hC.ext hC3860
           have hO := hO.new1 hC3860 eg3860 hb3860.lt
           have hv3860 := os_of_box (r := (RT.os 3 (RT.int .i64))) (M := M3474) (css := []) (fps := []) (xs := ([] : List (List Int))) hb3860 trivial (Nat.zero_le _) (List.nodup_cons.2 ⟨(fun h => nomatch h), List.nodup_nil⟩)
           have hv3860 : (RT.os 25 (RT.os 3 (RT.int .i64))).val M3474 w3860 (.slice (some ⟨g3860, 0, none⟩) 0 0) [] [g3860] := hv3860
           have hS := hS.ext hC3860
           refine x_two (i := 0) (j := 6) (by kernel_rfl) ?_ ?_
           ·skip
            refine xk_val (b := false) (.agg #[(.int .i64 a_.1), (.slice pa0 pn0 pc0)]) rfl  (y_load rfl ((box_load Ag34 Sz34 hb2 [] [(.int .i64 a_.1), (.slice pa0 pn0 pc0)] [] rfl rfl (fun h => nomatch h)) _ (Chg.refl _ _))) rfl (fun _ => hS) ?_
            refine x_one (i := 6) (by kernel_rfl) ?_
            obtain ⟨M3863, f3863, hs3863, hk3863, hO, hv3863⟩ := os_inner (Frz.os Frz.int) hv3860 hO
            have h0 := h0.sub (M' := M3863) hs3863
            have hv3475 := hv3475.sub (M' := M3863) hs3863
            have hv3477 := hv3477.sub (M' := M3863) hs3863
            have hv3700 := hv3700.sub (M' := M3863) hs3863
            have hv3844 := hv3844.sub (M' := M3863) hs3863
            have hK := hK.trans hk3863
            obtain ⟨a3862, n3862, c3862, w3862, f3862, hr3862, hC3862, hf3862, hv3862⟩ := app_rs Rw49 hy3508 hv3863 hv3700 hO.inM
            have hG3862 := os_block hv3863
            refine xk_val (w' := w3862) (b := true) (.slice a3862 n3862 c3862) rfl  (y_append rfl rfl (hr3862 _)) rfl (fun h => nomatch h) ?_
            have h0 := h0.mut hC3862 (fun g hg => hO.inM g (hG3862 g hg)) (fun _ _ h => nomatch h)
            have hb2 := hb2.chg hC3862 (fun hg => hO.apart _ (hG3862 _ hg) (mem_r (mem_r (mem_l (List.mem_singleton.2 rfl)))))
            have hv3475 := hv3475.mut hC3862 (fun g hg => hO.inM g (hG3862 g hg)) (fun _ _ h => nomatch h)
            have hv3477 := hv3477.mut hC3862 (fun g hg => hO.inM g (hG3862 g hg)) (fun g hg e => hO.apart g (hG3862 g hg) (mem_r (mem_l (e))))
            have hv3700 := hv3700.mut hC3862 (fun g hg => hO.inM g (hG3862 g hg)) (fun _ _ h => nomatch h)
            have hv3844 := hv3844.mut hC3862 (fun g hg => hO.inM g (hG3862 g hg)) (fun g hg e => hO.apart g (hG3862 g hg) (mem_l (e)))
            have hC := hC.step hC3862 (fun g hg => hO.inN g (hG3862 g hg))
            have hO := hO.grow hC3862 hf3862 (os_nodup hv3862) hv3862.fpl
            refine x_one (i := 9) (by kernel_rfl) ?_
            have hO := hO.fr1
            obtain ⟨M3867, f3867, hs3867, hk3867, hO, hv3867⟩ := os_inner (Frz.os Frz.int) hv3844 hO
            have h0 := h0.sub (M' := M3867) hs3867
            have hv3475 := hv3475.sub (M' := M3867) hs3867
            have hv3477 := hv3477.sub (M' := M3867) hs3867
            have hv3700 := hv3700.sub (M' := M3867) hs3867
            have hv3862 := hv3862.sub (M' := M3867) hs3867
            have hK := hK.trans hk3867
            have hO := hO.fr1
            obtain ⟨a3866, n3866, c3866, w3866, f3866, hr3866, hC3866, hf3866, hv3866⟩ := app_os Rw49 hy3514 hv3862 hv3867 hO.inM (fun g hg hq => hO.apart g hq (mem_l hg))
            have hG3866 := os_block hv3862
            refine xk_val (w' := w3866) (b := true) (.slice a3866 n3866 c3866) rfl  (y_append rfl rfl (hr3866 _)) rfl (fun h => nomatch h) ?_
            have hO := hO.fr1
            have hO := hO.fr1
            have h0 := h0.mut hC3866 (fun g hg => hO.inM g (hG3866 g hg)) (fun _ _ h => nomatch h)
            have hb2 := hb2.chg hC3866 (fun hg => hO.apart _ (hG3866 _ hg) (mem_r (mem_r (mem_l (List.mem_singleton.2 rfl)))))
            have hv3475 := hv3475.mut hC3866 (fun g hg => hO.inM g (hG3866 g hg)) (fun _ _ h => nomatch h)
            have hv3477 := hv3477.mut hC3866 (fun g hg => hO.inM g (hG3866 g hg)) (fun g hg e => hO.apart g (hG3866 g hg) (mem_r (mem_l (e))))
            have hv3700 := hv3700.mut hC3866 (fun g hg => hO.inM g (hG3866 g hg)) (fun _ _ h => nomatch h)
            have hC := hC.step hC3866 (fun g hg => hO.inN g (hG3866 g hg))
            have hO := hO.eat hC3866 hf3866 (os_nodup hv3866) hv3866.fpl
            refine x_one (i := 10) (by kernel_rfl) ?_
            obtain ⟨M3871, eM3871, hs3871, hk3871, hO, hv3871⟩ := frz_own (Frz.os (Frz.rs Frz.int)) hv3866 hO
            have h0 := h0.sub (M' := M3871) hs3871
            have hv3475 := hv3475.sub (M' := M3871) hs3871
            have hv3477 := hv3477.sub (M' := M3871) hs3871
            have hv3700 := hv3700.sub (M' := M3871) hs3871
            have hK := hK.trans hk3871
            refine xk_call (b := true) rfl  Bd69 rfl (c_spec_l8Close (M := M3871) (a_.1, a_.2) 2 y3514 h0 hv3871 hO.fut hr3518) rfl (fun h => nomatch h) ?_
            rintro _ w3870 ⟨a3870x0, n3870x0, c3870x0, rfl, hC3870, hv3870x0⟩
            have hK := hK.trans (show Keeps w M3871 (Past M3871 w3866 w3870) from Keeps.past hC.size)
            have h0 := h0.ext hC3870
            have hb2 := hb2.chg hC3870 (fun h => nomatch h)
            have hv3475 := hv3475.ext hC3870
            have hv3477 := hv3477.ext hC3870
            have hv3700 := hv3700.ext hC3870
            have hv3871 := hv3871.ext hC3870
            have hC := hC.ext hC3870
            have hO := hO.past hC3870
            have h0 := h0.sub (M' := (Past M3871 w3866 w3870)) (fun g hg => .inl hg.1)
            have hv3475 := hv3475.sub (M' := (Past M3871 w3866 w3870)) (fun g hg => .inl hg.1)
            have hv3477 := hv3477.sub (M' := (Past M3871 w3866 w3870)) (fun g hg => .inl hg.1)
            have hv3700 := hv3700.sub (M' := (Past M3871 w3866 w3870)) (fun g hg => .inl hg.1)
            have hv3871 := hv3871.sub (M' := (Past M3871 w3866 w3870)) (fun g hg => .inl hg.1)
            refine x_p 11 (.tuple #[(.slice a3870x0 n3870x0 c3870x0), (.bool r3518.2)]) rfl (by kernel_rfl)  (fun _ => y_move rfl) (fun h => nomatch h) ?_
            refine x_p 12 (.slice a3870x0 n3870x0 c3870x0) rfl (by kernel_rfl)  (fun _ => y_extract rfl (by kernel_rfl)) (fun h => nomatch h) ?_
            refine x_p 13 (.bool r3518.2) rfl (by kernel_rfl)  (fun _ => y_extract rfl (by kernel_rfl)) (fun h => nomatch h) ?_
            refine x_p 14 (.slice a3870x0 n3870x0 c3870x0) rfl (by kernel_rfl)  (fun _ => y_assign rfl) (fun h => nomatch h) ?_
            refine x_p 15 (.bool r3518.2) rfl (by kernel_rfl)  (fun _ => y_assign rfl) (fun h => nomatch h) ?_
            refine x_end (by kernel_rfl) ?_
            clear hS
            have hO := hO.fr1
            have hO := hO.fr1
            exact ⟨_, (Past M3871 w3866 w3870), a3870x0, c3870x0, n3870x0, fr_ovl 96 ⟨rfl, rfl, rfl, rfl, rfl, rfl, trivial⟩, hC, hO, hK, h0, hb2, hv3475, hv3477, hv3870x0⟩
           ·skip
            obtain ⟨M3875, f3875, hs3875, hk3875, hO, hv3875⟩ := os_inner (Frz.os Frz.int) hv3860 hO
            have h0 := h0.sub (M' := M3875) hs3875
            have hv3475 := hv3475.sub (M' := M3875) hs3875
            have hv3477 := hv3477.sub (M' := M3875) hs3875
            have hv3700 := hv3700.sub (M' := M3875) hs3875
            have hv3844 := hv3844.sub (M' := M3875) hs3875
            have hK := hK.trans hk3875
            obtain ⟨a3874, n3874, c3874, w3874, f3874, hr3874, hC3874, hf3874, hv3874⟩ := app_rs Rw49 hy3508 hv3875 hv3700 hO.inM
            have hG3874 := os_block hv3875
            refine xk_val (w' := w3874) (b := true) (.slice a3874 n3874 c3874) rfl  (y_append rfl rfl (hr3874 _)) rfl (fun h => nomatch h) ?_
            have h0 := h0.mut hC3874 (fun g hg => hO.inM g (hG3874 g hg)) (fun _ _ h => nomatch h)
            have hb2 := hb2.chg hC3874 (fun hg => hO.apart _ (hG3874 _ hg) (mem_r (mem_r (mem_l (List.mem_singleton.2 rfl)))))
            have hv3475 := hv3475.mut hC3874 (fun g hg => hO.inM g (hG3874 g hg)) (fun _ _ h => nomatch h)
            have hv3477 := hv3477.mut hC3874 (fun g hg => hO.inM g (hG3874 g hg)) (fun g hg e => hO.apart g (hG3874 g hg) (mem_r (mem_l (e))))
            have hv3700 := hv3700.mut hC3874 (fun g hg => hO.inM g (hG3874 g hg)) (fun _ _ h => nomatch h)
            have hv3844 := hv3844.mut hC3874 (fun g hg => hO.inM g (hG3874 g hg)) (fun g hg e => hO.apart g (hG3874 g hg) (mem_l (e)))
            have hC := hC.step hC3874 (fun g hg => hO.inN g (hG3874 g hg))
            have hO := hO.grow hC3874 hf3874 (os_nodup hv3874) hv3874.fpl
            refine x_two (i := 0) (j := 9) (by kernel_rfl) ?_ ?_
            ·skip
             refine xk_val (b := true) (.agg #[(.int .i64 a_.1), (.slice pa0 pn0 pc0)]) rfl  (y_load rfl ((box_load Ag34 Sz34 hb2 [] [(.int .i64 a_.1), (.slice pa0 pn0 pc0)] [] rfl rfl (fun h => nomatch h)) _ (Chg.refl _ _))) rfl (fun h => nomatch h) ?_
             refine x_one (i := 9) (by kernel_rfl) ?_
             have hO := hO.fr1
             obtain ⟨M3879, f3879, hs3879, hk3879, hO, hv3879⟩ := os_inner (Frz.os Frz.int) hv3844 hO
             have h0 := h0.sub (M' := M3879) hs3879
             have hv3475 := hv3475.sub (M' := M3879) hs3879
             have hv3477 := hv3477.sub (M' := M3879) hs3879
             have hv3700 := hv3700.sub (M' := M3879) hs3879
             have hv3874 := hv3874.sub (M' := M3879) hs3879
             have hK := hK.trans hk3879
             have hO := hO.fr1
             obtain ⟨a3878, n3878, c3878, w3878, f3878, hr3878, hC3878, hf3878, hv3878⟩ := app_os Rw49 hy3514 hv3874 hv3879 hO.inM (fun g hg hq => hO.apart g hq (mem_l hg))
             have hG3878 := os_block hv3874
             refine xk_val (w' := w3878) (b := true) (.slice a3878 n3878 c3878) rfl  (y_append rfl rfl (hr3878 _)) rfl (fun h => nomatch h) ?_
             have hO := hO.fr1
             have hO := hO.fr1
             have h0 := h0.mut hC3878 (fun g hg => hO.inM g (hG3878 g hg)) (fun _ _ h => nomatch h)
             have hb2 := hb2.chg hC3878 (fun hg => hO.apart _ (hG3878 _ hg) (mem_r (mem_r (mem_l (List.mem_singleton.2 rfl)))))
             have hv3475 := hv3475.mut hC3878 (fun g hg => hO.inM g (hG3878 g hg)) (fun _ _ h => nomatch h)
             have hv3477 := hv3477.mut hC3878 (fun g hg => hO.inM g (hG3878 g hg)) (fun g hg e => hO.apart g (hG3878 g hg) (mem_r (mem_l (e))))
             have hv3700 := hv3700.mut hC3878 (fun g hg => hO.inM g (hG3878 g hg)) (fun _ _ h => nomatch h)
             have hC := hC.step hC3878 (fun g hg => hO.inN g (hG3878 g hg))
             have hO := hO.eat hC3878 hf3878 (os_nodup hv3878) hv3878.fpl
             refine x_one (i := 10) (by kernel_rfl) ?_
             obtain ⟨M3883, eM3883, hs3883, hk3883, hO, hv3883⟩ := frz_own (Frz.os (Frz.rs Frz.int)) hv3878 hO
             have h0 := h0.sub (M' := M3883) hs3883
             have hv3475 := hv3475.sub (M' := M3883) hs3883
             have hv3477 := hv3477.sub (M' := M3883) hs3883
             have hv3700 := hv3700.sub (M' := M3883) hs3883
             have hK := hK.trans hk3883
             refine xk_call (b := true) rfl  Bd69 rfl (c_spec_l8Close (M := M3883) (a_.1, a_.2) 2 y3514 h0 hv3883 hO.fut hr3518) rfl (fun h => nomatch h) ?_
             rintro _ w3882 ⟨a3882x0, n3882x0, c3882x0, rfl, hC3882, hv3882x0⟩
             have hK := hK.trans (show Keeps w M3883 (Past M3883 w3878 w3882) from Keeps.past hC.size)
             have h0 := h0.ext hC3882
             have hb2 := hb2.chg hC3882 (fun h => nomatch h)
             have hv3475 := hv3475.ext hC3882
             have hv3477 := hv3477.ext hC3882
             have hv3700 := hv3700.ext hC3882
             have hv3883 := hv3883.ext hC3882
             have hC := hC.ext hC3882
             have hO := hO.past hC3882
             have h0 := h0.sub (M' := (Past M3883 w3878 w3882)) (fun g hg => .inl hg.1)
             have hv3475 := hv3475.sub (M' := (Past M3883 w3878 w3882)) (fun g hg => .inl hg.1)
             have hv3477 := hv3477.sub (M' := (Past M3883 w3878 w3882)) (fun g hg => .inl hg.1)
             have hv3700 := hv3700.sub (M' := (Past M3883 w3878 w3882)) (fun g hg => .inl hg.1)
             have hv3883 := hv3883.sub (M' := (Past M3883 w3878 w3882)) (fun g hg => .inl hg.1)
             refine x_p 11 (.tuple #[(.slice a3882x0 n3882x0 c3882x0), (.bool r3518.2)]) rfl (by kernel_rfl)  (fun _ => y_move rfl) (fun h => nomatch h) ?_
             refine x_p 12 (.slice a3882x0 n3882x0 c3882x0) rfl (by kernel_rfl)  (fun _ => y_extract rfl (by kernel_rfl)) (fun h => nomatch h) ?_
             refine x_p 13 (.bool r3518.2) rfl (by kernel_rfl)  (fun _ => y_extract rfl (by kernel_rfl)) (fun h => nomatch h) ?_
             refine x_p 14 (.slice a3882x0 n3882x0 c3882x0) rfl (by kernel_rfl)  (fun _ => y_assign rfl) (fun h => nomatch h) ?_
             refine x_p 15 (.bool r3518.2) rfl (by kernel_rfl)  (fun _ => y_assign rfl) (fun h => nomatch h) ?_
             refine x_end (by kernel_rfl) ?_
             clear hS
             have hO := hO.fr1
             have hO := hO.fr1
             exact ⟨_, (Past M3883 w3878 w3882), a3882x0, c3882x0, n3882x0, fr_ovl 96 ⟨rfl, rfl, rfl, rfl, rfl, rfl, trivial⟩, hC, hO, hK, h0, hb2, hv3475, hv3477, hv3882x0⟩
            ·skip
             have hO := hO.fr1
             obtain ⟨M3887, f3887, hs3887, hk3887, hO, hv3887⟩ := os_inner (Frz.os Frz.int) hv3844 hO
             have h0 := h0.sub (M' := M3887) hs3887
             have hv3475 := hv3475.sub (M' := M3887) hs3887
             have hv3477 := hv3477.sub (M' := M3887) hs3887
             have hv3700 := hv3700.sub (M' := M3887) hs3887
             have hv3874 := hv3874.sub (M' := M3887) hs3887
             have hK := hK.trans hk3887
             have hO := hO.fr1
             obtain ⟨a3886, n3886, c3886, w3886, f3886, hr3886, hC3886, hf3886, hv3886⟩ := app_os Rw49 hy3514 hv3874 hv3887 hO.inM (fun g hg hq => hO.apart g hq (mem_l hg))
             have hG3886 := os_block hv3874
             refine xk_val (w' := w3886) (b := true) (.slice a3886 n3886 c3886) rfl  (y_append rfl rfl (hr3886 _)) rfl (fun h => nomatch h) ?_
             have hO := hO.fr1
             have hO := hO.fr1
             have h0 := h0.mut hC3886 (fun g hg => hO.inM g (hG3886 g hg)) (fun _ _ h => nomatch h)
             have hb2 := hb2.chg hC3886 (fun hg => hO.apart _ (hG3886 _ hg) (mem_r (mem_r (mem_l (List.mem_singleton.2 rfl)))))
             have hv3475 := hv3475.mut hC3886 (fun g hg => hO.inM g (hG3886 g hg)) (fun _ _ h => nomatch h)
             have hv3477 := hv3477.mut hC3886 (fun g hg => hO.inM g (hG3886 g hg)) (fun g hg e => hO.apart g (hG3886 g hg) (mem_r (mem_l (e))))
             have hv3700 := hv3700.mut hC3886 (fun g hg => hO.inM g (hG3886 g hg)) (fun _ _ h => nomatch h)
             have hC := hC.step hC3886 (fun g hg => hO.inN g (hG3886 g hg))
             have hO := hO.eat hC3886 hf3886 (os_nodup hv3886) hv3886.fpl
             refine x_one (i := 0) (by kernel_rfl) ?_
             refine xk_val (b := true) (.agg #[(.int .i64 a_.1), (.slice pa0 pn0 pc0)]) rfl  (y_load rfl ((box_load Ag34 Sz34 hb2 [] [(.int .i64 a_.1), (.slice pa0 pn0 pc0)] [] rfl rfl (fun h => nomatch h)) _ (Chg.refl _ _))) rfl (fun h => nomatch h) ?_
             refine x_one (i := 10) (by kernel_rfl) ?_
             obtain ⟨M3891, eM3891, hs3891, hk3891, hO, hv3891⟩ := frz_own (Frz.os (Frz.rs Frz.int)) hv3886 hO
             have h0 := h0.sub (M' := M3891) hs3891
             have hv3475 := hv3475.sub (M' := M3891) hs3891
             have hv3477 := hv3477.sub (M' := M3891) hs3891
             have hv3700 := hv3700.sub (M' := M3891) hs3891
             have hK := hK.trans hk3891
             refine xk_call (b := true) rfl  Bd69 rfl (c_spec_l8Close (M := M3891) (a_.1, a_.2) 2 y3514 h0 hv3891 hO.fut hr3518) rfl (fun h => nomatch h) ?_
             rintro _ w3890 ⟨a3890x0, n3890x0, c3890x0, rfl, hC3890, hv3890x0⟩
             have hK := hK.trans (show Keeps w M3891 (Past M3891 w3886 w3890) from Keeps.past hC.size)
             have h0 := h0.ext hC3890
             have hb2 := hb2.chg hC3890 (fun h => nomatch h)
             have hv3475 := hv3475.ext hC3890
             have hv3477 := hv3477.ext hC3890
             have hv3700 := hv3700.ext hC3890
             have hv3891 := hv3891.ext hC3890
             have hC := hC.ext hC3890
             have hO := hO.past hC3890
             have h0 := h0.sub (M' := (Past M3891 w3886 w3890)) (fun g hg => .inl hg.1)
             have hv3475 := hv3475.sub (M' := (Past M3891 w3886 w3890)) (fun g hg => .inl hg.1)
             have hv3477 := hv3477.sub (M' := (Past M3891 w3886 w3890)) (fun g hg => .inl hg.1)
             have hv3700 := hv3700.sub (M' := (Past M3891 w3886 w3890)) (fun g hg => .inl hg.1)
             have hv3891 := hv3891.sub (M' := (Past M3891 w3886 w3890)) (fun g hg => .inl hg.1)
             refine x_p 11 (.tuple #[(.slice a3890x0 n3890x0 c3890x0), (.bool r3518.2)]) rfl (by kernel_rfl)  (fun _ => y_move rfl) (fun h => nomatch h) ?_
             refine x_p 12 (.slice a3890x0 n3890x0 c3890x0) rfl (by kernel_rfl)  (fun _ => y_extract rfl (by kernel_rfl)) (fun h => nomatch h) ?_
             refine x_p 13 (.bool r3518.2) rfl (by kernel_rfl)  (fun _ => y_extract rfl (by kernel_rfl)) (fun h => nomatch h) ?_
             refine x_p 14 (.slice a3890x0 n3890x0 c3890x0) rfl (by kernel_rfl)  (fun _ => y_assign rfl) (fun h => nomatch h) ?_
             refine x_p 15 (.bool r3518.2) rfl (by kernel_rfl)  (fun _ => y_assign rfl) (fun h => nomatch h) ?_
             refine x_end (by kernel_rfl) ?_
             clear hS
             have hO := hO.fr1
             have hO := hO.fr1
             exact ⟨_, (Past M3891 w3886 w3890), a3890x0, c3890x0, n3890x0, fr_ovl 96 ⟨rfl, rfl, rfl, rfl, rfl, rfl, trivial⟩, hC, hO, hK, h0, hb2, hv3475, hv3477, hv3890x0⟩
        ·rintro a1 w3516 ⟨σ, M3696, a3516x0, c3516x0, n3516x0, rfl, hC, hO, hK, h0, hb2, hv3475, hv3477, hv3516x0⟩
         refine c_seq (c_region ?_)
         refine pl_val (.slice a3475 n3475 c3475) (y_move rfl) ?_
         refine pl_val (.slice a3516x0 n3516x0 c3516x0) (y_move rfl) ?_
         obtain ⟨r3895, hr3895, hs⟩ := bind_some hs
         refine pl_call Bd72 rfl (c_spec_l18Put (M := M3696) s3468.1 r3518.1 hv3475 hv3516x0 hO.fut hr3895) ?_
         rintro _ w3894 ⟨a3894x0, n3894x0, c3894x0, rfl, hC3894, hv3894x0⟩
         have hK := hK.trans (show Keeps w M3696 (Past M3696 w3516 w3894) from Keeps.past hC.size)
         have h0 := h0.ext hC3894
         have hb2 := hb2.chg hC3894 (fun h => nomatch h)
         have hv3475 := hv3475.ext hC3894
         have hv3477 := hv3477.ext hC3894
         have hv3516x0 := hv3516x0.ext hC3894
         have hC := hC.ext hC3894
         have hO := hO.past hC3894
         have h0 := h0.sub (M' := (Past M3696 w3516 w3894)) (fun g hg => .inl hg.1)
         have hv3475 := hv3475.sub (M' := (Past M3696 w3516 w3894)) (fun g hg => .inl hg.1)
         have hv3477 := hv3477.sub (M' := (Past M3696 w3516 w3894)) (fun g hg => .inl hg.1)
         have hv3516x0 := hv3516x0.sub (M' := (Past M3696 w3516 w3894)) (fun g hg => .inl hg.1)
         refine pl_val (.slice a3894x0 n3894x0 c3894x0) (y_assign rfl) ?_
         refine c_nil ?_
         refine c_seq (c_region ?_)
         refine pl_val (.slice a3894x0 n3894x0 c3894x0) (y_move rfl) ?_
         refine pl_val (.int .i64 (r3895.length : Int)) (y_len' Sl59 (rs_len hv3894x0) rfl) ?_
         refine pl_val (.slice a3475 n3475 c3475) (y_move rfl) ?_
         refine pl_val (.int .i64 (s3468.1.length : Int)) (y_len' Sl59 (rs_len hv3475) rfl) ?_
         refine pl_val (.bool (decide ((s3468.1.length : Int) < (r3895.length : Int)))) (y_gtr rfl rfl) ?_
         refine c_nil ?_
         rcases bif_some hs with ⟨hc3897, hs⟩ | ⟨hc3897, hs⟩
         ·skip
          refine c_condT (congrArg Value.bool hc3897) ?_
          refine c_seq (c_region ?_)
          refine pl_val (.slice a3894x0 n3894x0 c3894x0) (y_move rfl) ?_
          refine pl_val (.slice a3894x0 n3894x0 c3894x0) (y_assign rfl) ?_
          refine c_nil ?_
          refine c_region ?_
          refine pl_val (.slice a3477 n3477 c3477) (y_move rfl) ?_
          refine pl_val (.slice a3516x0 n3516x0 c3516x0) (y_move rfl) ?_
          obtain ⟨w3898, g3898, ew3898, eg3898, hC3898, hb3898⟩ := new_block w3894 [(.slice a3516x0 n3516x0 c3516x0)] 49
          refine pl_val (w' := w3898) (.slice (some ⟨g3898, 0, none⟩) 1 1) (y_bslice rfl (by rw [ew3898, eg3898]; kernel_rfl)) ?_
          have h0 := h0.ext hC3898
          have hb2 := hb2.chg hC3898 (fun h => nomatch h)
          have hv3477 := hv3477.ext hC3898
          have hv3516x0 := hv3516x0.ext hC3898
          have hv3894x0 := hv3894x0.ext hC3898
          have hC := hC.ext hC3898
          have hO := hO.new1 hC3898 eg3898 hb3898.lt
          have hv3898 := os_of_box (r := (RT.rs (RT.rs (RT.int .i64)))) (M := (Past M3696 w3516 w3894)) (css := [[(.slice a3516x0 n3516x0 c3516x0)]]) (fps := [([] : List Nat)]) (xs := ([r3518.1] : List (List (List Int)))) hb3898 ⟨(rs_unval hv3516x0), trivial⟩ (Nat.le_of_ble_eq_true rfl) (List.nodup_cons.2 ⟨(fun h => nomatch h), List.nodup_nil⟩)
          have hv3898 : (RT.os 49 (RT.rs (RT.rs (RT.int .i64)))).val (Past M3696 w3516 w3894) w3898 (.slice (some ⟨g3898, 0, none⟩) 1 1) [r3518.1] [g3898] := hv3898
          obtain ⟨y3901, hy3901, hs⟩ := bind_some hs
          have hO := hO.fr1
          obtain ⟨a3900, n3900, c3900, w3900, f3900, hr3900, hC3900, hf3900, hv3900⟩ := app_os Rw59 hy3901 hv3477 hv3898 hO.inM (fun g hg hq => hO.apart g hq (mem_l hg))
          have hG3900 := os_block hv3477
          refine pl_val (w' := w3900) (.slice a3900 n3900 c3900) (y_append rfl rfl (hr3900 _)) ?_
          have hO := hO.fr1
          have hO := hO.fr1
          have h0 := h0.mut hC3900 (fun g hg => hO.inM g (hG3900 g hg)) (fun _ _ h => nomatch h)
          have hb2 := hb2.chg hC3900 (fun hg => hO.apart _ (hG3900 _ hg) (mem_r (mem_l (List.mem_singleton.2 rfl))))
          have hv3516x0 := hv3516x0.mut hC3900 (fun g hg => hO.inM g (hG3900 g hg)) (fun _ _ h => nomatch h)
          have hv3894x0 := hv3894x0.mut hC3900 (fun g hg => hO.inM g (hG3900 g hg)) (fun _ _ h => nomatch h)
          have hC := hC.step hC3900 (fun g hg => hO.inN g (hG3900 g hg))
          have hO := hO.eat hC3900 hf3900 (os_nodup hv3900) hv3900.fpl
          refine pl_val (.slice a3900 n3900 c3900) (y_assign rfl) ?_
          refine c_nil ?_
          refine c_region ?_
          refine pl_val (.int .i64 s3468.2.2) (y_move rfl) ?_
          refine pl_val (.int .i64 (w64 (s3468.2.2 + 1))) (y_add rfl rfl) ?_
          refine pl_val (.int .i64 (w64 (s3468.2.2 + 1))) (y_assign rfl) ?_
          refine c_nil ?_
          cases hs
          have hO := hO.fr1
          have hO := hO.fr1
          exact ⟨_, (Past M3696 w3516 w3894), a3894x0, n3894x0, c3894x0, a3900, n3900, c3900, f3900, fr_ovl 96 ⟨rfl, rfl, rfl, rfl, rfl, trivial⟩, hC, hO, hK, h0, hb2, hv3894x0, hv3900⟩
         ·skip
          refine c_condF (congrArg Value.bool hc3897) ?_
          refine wp_skip ?_
          refine c_region ?_
          refine pl_val (.int .i64 s3468.2.2) (y_move rfl) ?_
          refine pl_val (.int .i64 (w64 (s3468.2.2 + 1))) (y_add rfl rfl) ?_
          refine pl_val (.int .i64 (w64 (s3468.2.2 + 1))) (y_assign rfl) ?_
          refine c_nil ?_
          cases hs
          have hO := hO.fr1
          have hO := hO.fr1
          exact ⟨_, (Past M3696 w3516 w3894), a3475, n3475, c3475, a3477, n3477, c3477, f3477, fr_ovl 96 ⟨rfl, rfl, rfl, rfl, rfl, trivial⟩, hC, hO, hK, h0, hb2, hv3475, hv3477⟩
      ·skip
       refine c_condF (congrArg Value.bool hc3488) ?_
       refine wp_exit ?_
       cases hs
       have hO := hO.fr1
       have hO := hO.fr1
       exact ⟨rfl, _, M3474, a3475, n3475, c3475, a3477, n3477, c3477, f3477, fr_ovl 96 ⟨rfl, rfl, rfl, rfl, trivial⟩, hC, hO, hK, h0, hb2, hv3475, hv3477⟩
    ·skip
     have hO := hO.fr1
     have hO := hO.fr1
     exact ⟨_, M2606, a2607, n2607, c2607, a2609, n2609, c2609, f2609, fr_ovl 96 ⟨rfl, rfl, rfl, rfl, rfl, trivial⟩, hC, hO, hK, h0, hb2, hv2607, hv2609⟩
    ·cases o3472 with
     | nx _ => exact True.intro
     | rt r_ =>
      have hs := after_rt hs
      intro a1 w1 hK
      cases hs
      exact hK
     | br s3468 =>
      have hs := after_br hs
      rintro a1 w3469 ⟨σ, M3479, a3480, n3480, c3480, a3482, n3482, c3482, f3482, rfl, hC, hO, hK, h0, hb2, hv3480, hv3482⟩
      refine c_region ?_
      refine pl_val (.int .i64 s2600.2.2) (y_move rfl) ?_
      refine pl_val (.int .i64 (w64 (s2600.2.2 + 1))) (y_add rfl rfl) ?_
      refine pl_val (.int .i64 (w64 (s2600.2.2 + 1))) (y_assign rfl) ?_
      refine c_nil ?_
      cases hs
      have hO := hO.fr1
      have hO := hO.fr1
      exact ⟨_, M3479, a3480, n3480, c3480, a3482, n3482, c3482, f3482, fr_ovl 96 ⟨rfl, rfl, rfl, rfl, trivial⟩, hC, hO, hK, h0, hb2, hv3480, hv3482⟩
   ·skip
    refine c_condF (congrArg Value.bool hc2620) ?_
    refine wp_exit ?_
    cases hs
    have hO := hO.fr1
    have hO := hO.fr1
    exact ⟨rfl, _, M2606, a2607, n2607, c2607, a2609, n2609, c2609, f2609, fr_ovl 96 ⟨rfl, trivial⟩, hC, hO, hK, h0, hb2, hv2607, hv2609⟩
 ·skip
  have hO := hO.fr1
  have hO := hO.fr1
  exact ⟨_, M2599, (some ⟨g9, 0, none⟩), 1, 1, (some ⟨g11, 0, none⟩), 1, 1, ([g11]), fr_ovl 96 ⟨rfl, rfl, rfl, rfl, trivial⟩, hC, hO, hK, h0, hb2, hv2599, hv11⟩
 ·cases o2604 with
  | nx _ => exact True.intro
  | rt r_ =>
   have hs := after_rt hs
   intro a1 w1 hK
   cases hs
   exact hK
  | br s2600 =>
   have hs := after_br hs
   rintro a1 w2601 ⟨σ, M2611, a2612, n2612, c2612, a2614, n2614, c2614, f2614, rfl, hC, hO, hK, h0, hb2, hv2612, hv2614⟩
   refine c_seq (c_region ?_)
   refine pl_val (.slice a2612 n2612 c2612) (y_move rfl) ?_
   refine pl_val (.slice a2612 n2612 c2612) (y_move rfl) ?_
   refine pl_val (.int .i64 (s2600.1.length : Int)) (y_len' Sl59 (rs_len hv2612) rfl) ?_
   refine pl_val (.bool (decide ((s2600.1.length : Int) ≤ 200))) (y_leq rfl rfl) ?_
   refine pl_val (.slice a2612 n2612 c2612) (y_assign rfl) ?_
   refine pl_val (.bool (decide ((s2600.1.length : Int) ≤ 200))) (y_assign rfl) ?_
   refine c_nil ?_
   refine wp_ret ?_
   cases hs
   exact ⟨_, a2612, n2612, c2612, fr_ovl 96 ⟨rfl, rfl, trivial⟩, hC, (Keeps.out hK hv2612)⟩

theorem Bd54 : Bodied Try.prog 54 := bodied Try.func54 (by kernel_rfl) rfl

theorem Bd55 : Bodied Try.prog 55 := bodied Try.func55 (by kernel_rfl) rfl

def k_spec_l18Asked (M : Nat → Prop) (w0 : World) (r : (List (List (List Int))) × Bool) (a : Act) (w : World) : Prop :=
  ∃ (σ : Nat → Value) (ra0 : Option Addr) (rn0 rc0 : Nat), a = fr 17 (ovl σ [(2, (.slice ra0 rn0 rc0)), (3, (.bool r.2))]) ∧ Chg [] w0 w ∧ (RT.rs (RT.rs (RT.rs (RT.int .i64)))).val (Past M w0 w) w (.slice ra0 rn0 rc0) r.1 []
def s_spec_l18Asked (a_ : Int × (List (Int × (List Int)))) : Option ((List (List (List Int))) × Bool) :=
  ((s_spec_l2Good (a_.1, a_.2)).bind fun r7 =>
  (bif (!r7) then some true else some (decide (4 < a_.1)))).bind fun s3 =>
  (bif s3 then some ([], false) else (s_spec_l18All (a_.1, a_.2)).bind fun r14 =>
  some (r14.1, r14.2))
set_option maxHeartbeats 4000000 in
theorem c_spec_l18Asked {M : Nat → Prop} {w : World} {pa0 : Option Addr} {pn0 pc0 : Nat} (a_ : Int × (List (Int × (List Int)))) (h0 : (RT.rs (RT.pr (RT.int .i64) (RT.rs (RT.int .i64)))).val M w (.slice pa0 pn0 pc0) a_.2 ([])) (hM : ∀ g, w.heap.size ≤ g → M g) {r : (List (List (List Int))) × Bool} (hs : s_spec_l18Asked a_ = some r) :
    Gives Try.prog 34 [(.agg #[(.int .i64 a_.1), (.slice pa0 pn0 pc0)])] w (fun v w' => ∃ (ra0 : Option Addr) (rn0 rc0 : Nat), v = (.tuple #[(.slice ra0 rn0 rc0), (.bool r.2)]) ∧ Chg [] w w' ∧ (RT.rs (RT.rs (RT.rs (RT.int .i64)))).val (Past M w w') w' (.slice ra0 rn0 rc0) r.1 []) := by
 refine calls_fr Try.func34 rfl Try.ntmps34 (Nat.le_of_ble_eq_true rfl) ?_
 have hO := Own.start (N := Nw w []) hM Nw.fut
 have hC := Chg.refl [] w
 unfold s_spec_l18Asked at hs
 refine wp_mono (Q := KPost (k_spec_l18Asked M w r)) ?_ (fun e a w1 h => ?_)
 rotate_left
 ·cases e
  case ret =>
   obtain ⟨σ, ra0, rn0, rc0, rfl, hrest⟩ := h
   exact ret2x Try.results34 (res_tmp rfl) (res_tmp rfl) ⟨ra0, rn0, rc0, rfl, hrest⟩
  all_goals exact (h : False).elim
 refine c_seq (c_region ?_)
 obtain ⟨w2, g2, ew2, eg2, hC2, hb2⟩ := new_block w [(.int .i64 a_.1), (.slice pa0 pn0 pc0)] 34
 refine pl_val (w' := w2) (.pointer (some ⟨g2, 0, none⟩)) (y_box rfl (by rw [ew2, eg2]; kernel_rfl)) ?_
 have h0 := h0.ext hC2
 have hC := hC.ext hC2
 have hO := hO.new1 hC2 eg2 hb2.lt
 refine pl_val (.slice none 0 0) (y_assign rfl) ?_
 refine pl_val (.bool false) (y_assign rfl) ?_
 refine c_nil ?_
 refine c_seq ?_
 refine c_seq ?_
 obtain ⟨s3, hm5, hs⟩ := bind_some hs
 refine c_mid (I := fun a w4 => ∃ (σ : Nat → Value), a = fr 17 (ovl σ [(1, (.pointer (some ⟨g2, 0, none⟩))), (2, (.slice none 0 0)), (3, (.bool false)), (11, (.bool s3))]) ∧ Chg [] w2 w4) ?_ ?_
 ·replace hs := hm5
  have hMid := Chg.refl [] w2
  refine c_region ?_
  refine pl_val (.agg #[(.int .i64 a_.1), (.slice pa0 pn0 pc0)]) (y_load rfl ((box_load Ag34 Sz34 hb2 [] [(.int .i64 a_.1), (.slice pa0 pn0 pc0)] [] rfl rfl (fun h => nomatch h)) _ (Chg.refl _ _))) ?_
  obtain ⟨r7, hr7, hs⟩ := bind_some hs
  refine pl_call Bd54 rfl (c_spec_l2Good (M := M) (a_.1, a_.2) h0 hO.fut hr7) ?_
  rintro _ w6 ⟨rfl, hC6⟩
  have h0 := h0.ext hC6
  have hb2 := hb2.chg hC6 (fun h => nomatch h)
  have hMid := hMid.ext hC6
  have hC := hC.ext hC6
  have hO := hO.ext hC6
  refine pl_val (.bool (!r7)) (y_not rfl) ?_
  refine pl_val (.bool (!r7)) (y_move rfl) ?_
  rcases bif_some hs with ⟨hc8, hs⟩ | ⟨hc8, hs⟩
  ·skip
   refine pl_not (tg := 7) (by kernel_rfl) (congrArg Value.bool hc8) ?_
   refine pl_not (tg := 7) (by kernel_rfl) (congrArg Value.bool hc8) ?_
   refine pl_not (tg := 7) (by kernel_rfl) (congrArg Value.bool hc8) ?_
   refine pl_val (.bool true) (y_pick_t (congrArg Value.bool hc8) rfl) ?_
   refine c_nil ?_
   cases hs
   exact ⟨_, fr_ovl 17 ⟨rfl, rfl, rfl, rfl, trivial⟩, hMid⟩
  ·skip
   refine pl_yes (.pointer (some ⟨g2, 0, none⟩)) (tg := 7) (by kernel_rfl) (congrArg Value.bool hc8) (y_faddr rfl Fa34x0) ?_
   refine pl_yes (.int .i64 a_.1) (tg := 7) (by kernel_rfl) (congrArg Value.bool hc8) (y_load rfl ((box_load Ag3 Sz3 hb2 [] [(.int .i64 a_.1)] [(.slice pa0 pn0 pc0)] rfl rfl (fun _ => rfl)) _ (Chg.refl _ _))) ?_
   refine pl_yes (.bool (decide (4 < a_.1))) (tg := 7) (by kernel_rfl) (congrArg Value.bool hc8) (y_gtr rfl rfl) ?_
   refine pl_val (.bool (decide (4 < a_.1))) (y_pick_f (congrArg Value.bool hc8) rfl) ?_
   refine c_nil ?_
   cases hs
   exact ⟨_, fr_ovl 17 ⟨rfl, rfl, rfl, rfl, trivial⟩, hMid⟩
 ·rintro a1 w4 ⟨σ, rfl, hCs3⟩
  have h0 := h0.ext hCs3
  have hb2 := hb2.chg hCs3 (fun h => nomatch h)
  have hC := hC.ext hCs3
  have hO := hO.ext hCs3
  rcases bif_some hs with ⟨hc9, hs⟩ | ⟨hc9, hs⟩
  ·skip
   refine c_condT (congrArg Value.bool hc9) ?_
   refine c_seq (c_region ?_)
   obtain ⟨w10, g10, ew10, eg10, hC10, hb10⟩ := new_block w4 [] 49
   refine pl_val (w' := w10) (.slice (some ⟨g10, 0, none⟩) 0 0) (y_bslice rfl (by rw [ew10, eg10]; kernel_rfl)) ?_
   have h0 := h0.ext hC10
   have hb2 := hb2.chg hC10 (fun h => nomatch h)
   have hC := hC.ext hC10
   have hO := hO.new1 hC10 eg10 hb10.lt
   have hv10 := os_of_box (r := (RT.os 25 (RT.os 3 (RT.int .i64)))) (M := M) (css := []) (fps := []) (xs := ([] : List (List (List Int)))) hb10 trivial (Nat.zero_le _) (List.nodup_cons.2 ⟨(fun h => nomatch h), List.nodup_nil⟩)
   have hv10 : (RT.os 49 (RT.os 25 (RT.os 3 (RT.int .i64)))).val M w10 (.slice (some ⟨g10, 0, none⟩) 0 0) [] [g10] := hv10
   refine pl_val (.slice (some ⟨g10, 0, none⟩) 0 0) (y_assign rfl) ?_
   refine pl_val (.bool false) (y_assign rfl) ?_
   refine c_nil ?_
   refine wp_ret ?_
   cases hs
   obtain ⟨M12, eM12, hs12, hk12, hO, hv12⟩ := frz_own (Frz.os (Frz.os (Frz.os Frz.int))) hv10 hO
   have h0 := h0.sub (M' := M12) hs12
   have hK := hk12
   exact ⟨_, (some ⟨g10, 0, none⟩), 0, 0, fr_ovl 17 ⟨rfl, rfl, trivial⟩, hC, (Keeps.out hK hv12)⟩
  ·skip
   refine c_condF (congrArg Value.bool hc9) ?_
   refine wp_skip ?_
   refine c_seq (c_region ?_)
   refine pl_val (.agg #[(.int .i64 a_.1), (.slice pa0 pn0 pc0)]) (y_load rfl ((box_load Ag34 Sz34 hb2 [] [(.int .i64 a_.1), (.slice pa0 pn0 pc0)] [] rfl rfl (fun h => nomatch h)) _ (Chg.refl _ _))) ?_
   obtain ⟨r14, hr14, hs⟩ := bind_some hs
   refine pl_call Bd55 rfl (c_spec_l18All (M := M) (a_.1, a_.2) h0 hO.fut hr14) ?_
   rintro _ w13 ⟨a13x0, n13x0, c13x0, rfl, hC13, hv13x0⟩
   have hK := (show Keeps w M (Past M w4 w13) from Keeps.past hC.size)
   have h0 := h0.ext hC13
   have hb2 := hb2.chg hC13 (fun h => nomatch h)
   have hC := hC.ext hC13
   have hO := hO.past hC13
   have h0 := h0.sub (M' := (Past M w4 w13)) (fun g hg => .inl hg.1)
   refine pl_val (.slice a13x0 n13x0 c13x0) (y_extract rfl (by kernel_rfl)) ?_
   refine pl_val (.bool r14.2) (y_extract rfl (by kernel_rfl)) ?_
   refine pl_val (.slice a13x0 n13x0 c13x0) (y_assign rfl) ?_
   refine pl_val (.bool r14.2) (y_assign rfl) ?_
   refine c_nil ?_
   refine wp_ret ?_
   cases hs
   exact ⟨_, a13x0, n13x0, c13x0, fr_ovl 17 ⟨rfl, rfl, trivial⟩, hC, (Keeps.out hK hv13x0)⟩

def k_spec_l13Result (M : Nat → Prop) (w0 : World) (r : (List Int)) (a : Act) (w : World) : Prop :=
  ∃ (σ : Nat → Value) (ra0 : Option Addr) (rn0 rc0 : Nat) (rf0 : List Nat), a = fr 16 (ovl σ [(8, (.slice ra0 rn0 rc0))]) ∧ Chg [] w0 w ∧ (RT.os 3 (RT.int .i64)).val M w (.slice ra0 rn0 rc0) r rf0 ∧ Own (Nw w0 []) (fun _ => True) w (rf0 ++ ([]))
def s_spec_l13Result (n : Int) (op : Int × (List Int)) (tuples : List (List Int)) (arity : Int) : Option ((List Int)) :=
  (s_spec_l8Apply (n, [(op.1, op.2)]) 0 tuples arity).bind fun r7 =>
  some r7
set_option maxHeartbeats 4000000 in
theorem c_spec_l13Result {M : Nat → Prop} {w : World} {pa0 : Option Addr} {pn0 pc0 : Nat} {pa1 : Option Addr} {pn1 pc1 : Nat} (n : Int) (op : Int × (List Int)) (tuples : List (List Int)) (arity : Int) (h0 : (RT.rs (RT.int .i64)).val M w (.slice pa0 pn0 pc0) op.2 ([])) (h1 : (RT.rs (RT.rs (RT.int .i64))).val M w (.slice pa1 pn1 pc1) tuples ([])) (hM : ∀ g, w.heap.size ≤ g → M g) {r : (List Int)} (hs : s_spec_l13Result n op tuples arity = some r) :
    Gives Try.prog 92 [(.int .i64 n), (.agg #[(.int .i64 op.1), (.slice pa0 pn0 pc0)]), (.slice pa1 pn1 pc1), (.int .i64 arity)] w (fun v w' => ∃ (ra0 : Option Addr) (rn0 rc0 : Nat) (rf0 : List Nat), v = (.slice ra0 rn0 rc0) ∧ Chg [] w w' ∧ (RT.os 3 (RT.int .i64)).val M w' (.slice ra0 rn0 rc0) r rf0 ∧ Own (Nw w []) (fun _ => True) w' (rf0 ++ ([]))) := by
 refine calls_fr Try.func92 rfl Try.ntmps92 (Nat.le_of_ble_eq_true rfl) ?_
 have hO := Own.start (N := Nw w []) hM Nw.fut
 have hC := Chg.refl [] w
 unfold s_spec_l13Result at hs
 refine wp_mono (Q := KPost (k_spec_l13Result M w r)) ?_ (fun e a w1 h => ?_)
 rotate_left
 ·cases e
  case ret =>
   obtain ⟨σ, ra0, rn0, rc0, rf0, rfl, hrest⟩ := h
   exact ret1x Try.results92 (res_tmp rfl) ⟨ra0, rn0, rc0, rf0, rfl, hrest⟩
  all_goals exact (h : False).elim
 refine c_seq (c_region ?_)
 obtain ⟨w3, g3, ew3, eg3, hC3, hb3⟩ := new_block w [(.int .i64 op.1), (.slice pa0 pn0 pc0)] 36
 refine pl_val (w' := w3) (.pointer (some ⟨g3, 0, none⟩)) (y_box rfl (by rw [ew3, eg3]; kernel_rfl)) ?_
 have h0 := h0.ext hC3
 have h1 := h1.ext hC3
 have hC := hC.ext hC3
 have hO := hO.new1 hC3 eg3 hb3.lt
 refine pl_val (.slice none 0 0) (y_assign rfl) ?_
 refine c_nil ?_
 refine c_seq (c_region ?_)
 refine pl_val (.int .i64 n) (y_move rfl) ?_
 refine pl_val (.agg #[(.int .i64 op.1), (.slice pa0 pn0 pc0)]) (y_load rfl ((box_load Ag36 Sz36 hb3 [] [(.int .i64 op.1), (.slice pa0 pn0 pc0)] [] rfl rfl (fun h => nomatch h)) _ (Chg.refl _ _))) ?_
 obtain ⟨w4, g4, ew4, eg4, hC4, hb4⟩ := new_block w3 [(.int .i64 op.1), (.slice pa0 pn0 pc0)] 36
 refine pl_val (w' := w4) (.slice (some ⟨g4, 0, none⟩) 1 1) (y_bslice rfl (by rw [ew4, eg4]; kernel_rfl)) ?_
 have h0 := h0.ext hC4
 have h1 := h1.ext hC4
 have hb3 := hb3.chg hC4 (fun h => nomatch h)
 have hC := hC.ext hC4
 have hO := hO.new1 hC4 eg4 hb4.lt
 have hv4 := os_of_box (r := (RT.pr (RT.int .i64) (RT.rs (RT.int .i64)))) (M := M) (css := [[(.int .i64 op.1), (.slice pa0 pn0 pc0)]]) (fps := [([] : List Nat)]) (xs := ([(op.1, op.2)] : List (Int × (List Int)))) hb4 ⟨⟨_, _, _, _, rfl, rfl, ⟨rfl, rfl⟩, (rs_unval h0)⟩, trivial⟩ (Nat.le_of_ble_eq_true rfl) (List.nodup_cons.2 ⟨(fun h => nomatch h), List.nodup_nil⟩)
 have hv4 : (RT.os 36 (RT.pr (RT.int .i64) (RT.rs (RT.int .i64)))).val M w4 (.slice (some ⟨g4, 0, none⟩) 1 1) [(op.1, op.2)] [g4] := hv4
 refine pl_val (.agg #[(.int .i64 n), (.slice (some ⟨g4, 0, none⟩) 1 1)]) (y_build rfl (by kernel_rfl)) ?_
 refine pl_val (.slice pa1 pn1 pc1) (y_move rfl) ?_
 refine pl_val (.int .i64 arity) (y_move rfl) ?_
 obtain ⟨r7, hr7, hs⟩ := bind_some hs
 refine pl_call Bd83 rfl (c_spec_l8Apply (M := (Less M ([g4]))) (n, [(op.1, op.2)]) 0 tuples arity (((Frz.os (Frz.pr Frz.int (Frz.rs Frz.int)))).val hv4 Less.sub Less.not) (h1.sub Less.sub) hO.less.fut hr7) ?_
 rintro _ w6 ⟨a6x0, n6x0, c6x0, f6x0, rfl, hC6, hv6x0, hOc6⟩
 have h0 := h0.ext hC6
 have h1 := h1.ext hC6
 have hb3 := hb3.chg hC6 (fun h => nomatch h)
 have hv4 := hv4.ext hC6
 have hC := hC.ext hC6
 have hO := Own.join0 hO hC6 hOc6
 have hO := hO.perm (R := f6x0 ++ (([g4]) ++ (([g3]) ++ ([])))) (by simp)
 have hv6x0 := hv6x0.free (M' := M) (Free.os Free.int)
 refine pl_val (.slice a6x0 n6x0 c6x0) (y_assign rfl) ?_
 refine c_nil ?_
 refine wp_ret ?_
 cases hs
 have hO := hO.fr1
 have hO := hO.drop
 have hO := hO.fr1
 have hO := hO.drop
 exact ⟨_, a6x0, n6x0, c6x0, f6x0, fr_ovl 16 ⟨rfl, trivial⟩, hC, hv6x0, hO.top⟩

theorem Fa51x0 : ∀ (a : Addr) (w : World), (Instr.fieldAt 51 (.pointer (some a)) 0).run Try.prog w = .ok (.pointer (some (a.add 0))) w := fun _ _ => by kernel_rfl

theorem Fa51x1 : ∀ (a : Addr) (w : World), (Instr.fieldAt 51 (.pointer (some a)) 1).run Try.prog w = .ok (.pointer (some (a.add 1))) w := fun _ _ => by kernel_rfl

def k_spec_l13Has (M : Nat → Prop) (w0 : World) (r : Bool) (a : Act) (w : World) : Prop :=
  ∃ (σ : Nat → Value) , a = fr 20 (ovl σ [(4, (.bool r))]) ∧ Chg [] w0 w
def s_spec_l13Has (r_ : Int × (List (List Int))) (t : List Int) : Option (Bool) :=
  (bif ((t.length : Int) != r_.1) then some false else (s_spec_l8Find r_.2 t).bind fun r6 =>
  some r6.2)
set_option maxHeartbeats 4000000 in
theorem c_spec_l13Has {M : Nat → Prop} {w : World} {pa0 : Option Addr} {pn0 pc0 : Nat} {pa1 : Option Addr} {pn1 pc1 : Nat} (r_ : Int × (List (List Int))) (t : List Int) (h0 : (RT.rs (RT.rs (RT.int .i64))).val M w (.slice pa0 pn0 pc0) r_.2 ([])) (h1 : (RT.rs (RT.int .i64)).val M w (.slice pa1 pn1 pc1) t ([])) (hM : ∀ g, w.heap.size ≤ g → M g) {r : Bool} (hs : s_spec_l13Has r_ t = some r) :
    Gives Try.prog 64 [(.agg #[(.int .i64 r_.1), (.slice pa0 pn0 pc0)]), (.slice pa1 pn1 pc1)] w (fun v w' => v = (.bool r) ∧ Chg [] w w') := by
 refine calls_fr Try.func64 rfl Try.ntmps64 (Nat.le_of_ble_eq_true rfl) ?_
 have hO := Own.start (N := Nw w []) hM Nw.fut
 have hC := Chg.refl [] w
 unfold s_spec_l13Has at hs
 refine wp_mono (Q := KPost (k_spec_l13Has M w r)) ?_ (fun e a w1 h => ?_)
 rotate_left
 ·cases e
  case ret =>
   obtain ⟨σ, rfl, hrest⟩ := h
   exact ret1x Try.results64 (res_tmp rfl) ⟨rfl, hrest⟩
  all_goals exact (h : False).elim
 refine c_seq (c_region ?_)
 obtain ⟨w3, g3, ew3, eg3, hC3, hb3⟩ := new_block w [(.int .i64 r_.1), (.slice pa0 pn0 pc0)] 51
 refine pl_val (w' := w3) (.pointer (some ⟨g3, 0, none⟩)) (y_box rfl (by rw [ew3, eg3]; kernel_rfl)) ?_
 have h0 := h0.ext hC3
 have h1 := h1.ext hC3
 have hC := hC.ext hC3
 have hO := hO.new1 hC3 eg3 hb3.lt
 refine pl_val (.bool false) (y_assign rfl) ?_
 refine c_nil ?_
 refine c_seq ?_
 refine c_seq (c_region ?_)
 refine pl_val (.slice pa1 pn1 pc1) (y_move rfl) ?_
 refine pl_val (.int .i64 (t.length : Int)) (y_len' Sl25 (rs_len h1) rfl) ?_
 refine pl_val (.pointer (some ⟨g3, 0, none⟩)) (y_faddr rfl Fa51x0) ?_
 refine pl_val (.int .i64 r_.1) (y_load rfl ((box_load Ag3 Sz3 hb3 [] [(.int .i64 r_.1)] [(.slice pa0 pn0 pc0)] rfl rfl (fun _ => rfl)) _ (Chg.refl _ _))) ?_
 refine pl_val (.bool ((t.length : Int) != r_.1)) (y_neq rfl rfl) ?_
 refine c_nil ?_
 rcases bif_some hs with ⟨hc4, hs⟩ | ⟨hc4, hs⟩
 ·skip
  refine c_condT (congrArg Value.bool hc4) ?_
  refine c_seq (c_region ?_)
  refine pl_val (.bool false) (y_assign rfl) ?_
  refine c_nil ?_
  refine wp_ret ?_
  cases hs
  exact ⟨_, fr_ovl 20 ⟨rfl, trivial⟩, hC⟩
 ·skip
  refine c_condF (congrArg Value.bool hc4) ?_
  refine wp_skip ?_
  refine c_seq (c_region ?_)
  refine pl_val (.pointer (some ⟨g3, 1, none⟩)) (y_faddr rfl Fa51x1) ?_
  refine pl_val (.slice pa0 pn0 pc0) (y_load rfl ((box_load Ag49 Sz49 hb3 [(.int .i64 r_.1)] [(.slice pa0 pn0 pc0)] [] rfl rfl (fun _ => rfl)) _ (Chg.refl _ _))) ?_
  refine pl_val (.slice pa1 pn1 pc1) (y_move rfl) ?_
  obtain ⟨r6, hr6, hs⟩ := bind_some hs
  refine pl_call Bd71 rfl (c_spec_l8Find (M := M) r_.2 t h0 h1 hO.fut hr6) ?_
  rintro _ w5 ⟨rfl, hC5⟩
  have h0 := h0.ext hC5
  have h1 := h1.ext hC5
  have hb3 := hb3.chg hC5 (fun h => nomatch h)
  have hC := hC.ext hC5
  have hO := hO.ext hC5
  refine pl_val (.tuple #[(.int .i64 r6.1), (.bool r6.2)]) (y_move rfl) ?_
  refine pl_val (.int .i64 r6.1) (y_extract rfl (by kernel_rfl)) ?_
  refine pl_val (.bool r6.2) (y_extract rfl (by kernel_rfl)) ?_
  refine pl_val (.int .i64 r6.1) (y_assign rfl) ?_
  refine pl_val (.bool r6.2) (y_assign rfl) ?_
  refine c_nil ?_
  refine c_seq (c_region ?_)
  refine pl_val (.bool r6.2) (y_move rfl) ?_
  refine pl_val (.bool r6.2) (y_assign rfl) ?_
  refine c_nil ?_
  refine wp_ret ?_
  cases hs
  exact ⟨_, fr_ovl 20 ⟨rfl, trivial⟩, hC⟩

theorem Bd92 : Bodied Try.prog 92 := bodied Try.func92 (by kernel_rfl) rfl

theorem Ag51 : AggT Try.prog 51 true := fun _ => by kernel_rfl

theorem Sz51 : SzT Try.prog 51 2 := ⟨_, rfl, rfl⟩

theorem Bd64 : Bodied Try.prog 64 := bodied Try.func64 (by kernel_rfl) rfl

def k_spec_l13Break (M : Nat → Prop) (w0 : World) (r : (List Int) × (List Int) × Bool) (a : Act) (w : World) : Prop :=
  ∃ (σ : Nat → Value) (ra0 : Option Addr) (rn0 rc0 : Nat) (ra1 : Option Addr) (rn1 rc1 : Nat), a = fr 50 (ovl σ [(6, (.slice ra0 rn0 rc0)), (7, (.slice ra1 rn1 rc1)), (8, (.bool r.2.2))]) ∧ Chg [] w0 w ∧ (RT.rs (RT.int .i64)).val (Past M w0 w) w (.slice ra0 rn0 rc0) r.1 [] ∧ (RT.rs (RT.int .i64)).val (Past M w0 w) w (.slice ra1 rn1 rc1) r.2.1 []
def s_spec_l13Break (n : Int) (op : Int × (List Int)) (r_ : Int × (List (List Int))) : Option ((List Int) × (List Int) × Bool) :=
  ((bif (op.1 == 0) then (mks op.1 (0 : Int)).bind fun y29 =>
  some (y29, true) else (mks op.1 (0 : Int)).bind fun y32 =>
  some (y32, (decide (0 < (r_.2.length : Int)))))).bind fun s21 =>
  (iter (S := (List Int) × Bool) (R := (List Int) × (List Int) × Bool) (fun s87 =>
  (bif s87.2 then (s_spec_l8Choose r_.2 s87.1).bind fun r111 =>
  (s_spec_l13Result n (op.1, op.2) r111 r_.1).bind fun r114 =>
  (s_spec_l13Has (r_.1, r_.2) r114).bind fun r117 =>
  (bif (!r117) then some (.rt (s87.1, r114, true)) else (s_spec_l8Next s87.1 (r_.2.length : Int)).bind fun r121 =>
  some (.nx (r121.1, r121.2))) else some (.br (s87.1, s87.2)))) FU (s21.1, s21.2)).bind fun o91 => after o91 (fun r_ => some r_) (fun s87 =>
  some ([], [], false))
set_option maxHeartbeats 4000000 in
theorem c_spec_l13Break {M : Nat → Prop} {w : World} {pa0 : Option Addr} {pn0 pc0 : Nat} {pa1 : Option Addr} {pn1 pc1 : Nat} (n : Int) (op : Int × (List Int)) (r_ : Int × (List (List Int))) (h0 : (RT.rs (RT.int .i64)).val M w (.slice pa0 pn0 pc0) op.2 ([])) (h1 : (RT.rs (RT.rs (RT.int .i64))).val M w (.slice pa1 pn1 pc1) r_.2 ([])) (hM : ∀ g, w.heap.size ≤ g → M g) {r : (List Int) × (List Int) × Bool} (hs : s_spec_l13Break n op r_ = some r) :
    Gives Try.prog 73 [(.int .i64 n), (.agg #[(.int .i64 op.1), (.slice pa0 pn0 pc0)]), (.agg #[(.int .i64 r_.1), (.slice pa1 pn1 pc1)])] w (fun v w' => ∃ (ra0 : Option Addr) (rn0 rc0 : Nat) (ra1 : Option Addr) (rn1 rc1 : Nat), v = (.tuple #[(.slice ra0 rn0 rc0), (.slice ra1 rn1 rc1), (.bool r.2.2)]) ∧ Chg [] w w' ∧ (RT.rs (RT.int .i64)).val (Past M w w') w' (.slice ra0 rn0 rc0) r.1 [] ∧ (RT.rs (RT.int .i64)).val (Past M w w') w' (.slice ra1 rn1 rc1) r.2.1 []) := by
 refine calls_fr Try.func73 rfl Try.ntmps73 (Nat.le_of_ble_eq_true rfl) ?_
 have hO := Own.start (N := Nw w []) hM Nw.fut
 have hC := Chg.refl [] w
 unfold s_spec_l13Break at hs
 refine wp_mono (Q := KPost (k_spec_l13Break M w r)) ?_ (fun e a w1 h => ?_)
 rotate_left
 ·cases e
  case ret =>
   obtain ⟨σ, ra0, rn0, rc0, ra1, rn1, rc1, rfl, hrest⟩ := h
   exact ret3x Try.results73 (res_tmp rfl) (res_tmp rfl) (res_tmp rfl) ⟨ra0, rn0, rc0, ra1, rn1, rc1, rfl, hrest⟩
  all_goals exact (h : False).elim
 refine c_seq (c_region ?_)
 obtain ⟨w3, g3, ew3, eg3, hC3, hb3⟩ := new_block w [(.int .i64 op.1), (.slice pa0 pn0 pc0)] 36
 refine pl_val (w' := w3) (.pointer (some ⟨g3, 0, none⟩)) (y_box rfl (by rw [ew3, eg3]; kernel_rfl)) ?_
 have h0 := h0.ext hC3
 have h1 := h1.ext hC3
 have hC := hC.ext hC3
 have hO := hO.new1 hC3 eg3 hb3.lt
 obtain ⟨w4, g4, ew4, eg4, hC4, hb4⟩ := new_block w3 [(.int .i64 r_.1), (.slice pa1 pn1 pc1)] 51
 refine pl_val (w' := w4) (.pointer (some ⟨g4, 0, none⟩)) (y_box rfl (by rw [ew4, eg4]; kernel_rfl)) ?_
 have h0 := h0.ext hC4
 have h1 := h1.ext hC4
 have hb3 := hb3.chg hC4 (fun h => nomatch h)
 have hC := hC.ext hC4
 have hO := hO.new1 hC4 eg4 hb4.lt
 refine pl_val (.slice none 0 0) (y_assign rfl) ?_
 refine pl_val (.slice none 0 0) (y_assign rfl) ?_
 refine pl_val (.bool false) (y_assign rfl) ?_
 refine c_nil ?_
 refine c_seq ?_
 obtain ⟨s21, hm23, hs⟩ := bind_some hs
 refine c_mid (I := fun a w22 => ∃ (σ : Nat → Value) (a24 : Option Addr) (n24 : Nat) (c24 : Nat) (f24 : List Nat), a = fr 50 (ovl σ [(0, (.int .i64 n)), (4, (.pointer (some ⟨g3, 0, none⟩))), (5, (.pointer (some ⟨g4, 0, none⟩))), (9, (.slice a24 n24 c24)), (10, (.bool s21.2))]) ∧ Chg [] w w22 ∧ Own (Nw w []) M w22 (f24 ++ (([g4]) ++ (([g3]) ++ []))) ∧ (RT.rs (RT.int .i64)).val M w22 (.slice pa0 pn0 pc0) op.2 ([]) ∧ (RT.rs (RT.rs (RT.int .i64))).val M w22 (.slice pa1 pn1 pc1) r_.2 ([]) ∧ BoxV w22 g3 36 [(.int .i64 op.1), (.slice pa0 pn0 pc0)] ∧ BoxV w22 g4 51 [(.int .i64 r_.1), (.slice pa1 pn1 pc1)] ∧ (RT.os 3 (RT.int .i64)).val M w22 (.slice a24 n24 c24) s21.1 f24) ?_ ?_
 ·replace hs := hm23
  refine x_start [] Mx rfl ?_
  have hCw26 := Chg.drew w4
  generalize World.drew w4 = w26 at hCw26 ⊢
  have h0 := h0.ext hCw26
  have h1 := h1.ext hCw26
  have hb3 := hb3.chg hCw26 (fun h => nomatch h)
  have hb4 := hb4.chg hCw26 (fun h => nomatch h)
  have hC := hC.ext hCw26
  have hO := hO.ext hCw26
  have hS := Chg.refl [] w26
  refine x_p 0 (.pointer (some ⟨g3, 0, none⟩)) rfl (by kernel_rfl)  (fun _ => y_faddr rfl Fa36x0) (fun _ => hS) ?_
  refine x_l 1 (.int .i64 op.1) rfl (by kernel_rfl)  (fun w' hw' => y_load rfl ((box_load Ag3 Sz3 hb3 [] [(.int .i64 op.1)] [(.slice pa0 pn0 pc0)] rfl rfl (fun _ => rfl)) w' hw')) hS ?_
  refine x_p 3 (.pointer (some ⟨g3, 0, none⟩)) rfl (by kernel_rfl)  (fun _ => y_faddr rfl Fa36x0) (fun _ => hS) ?_
  refine x_l 4 (.int .i64 op.1) rfl (by kernel_rfl)  (fun w' hw' => y_load rfl ((box_load Ag3 Sz3 hb3 [] [(.int .i64 op.1)] [(.slice pa0 pn0 pc0)] rfl rfl (fun _ => rfl)) w' hw')) hS ?_
  refine x_p 5 (.bool (op.1 == 0)) rfl (by kernel_rfl)  (fun _ => y_eql rfl rfl) (fun _ => hS) ?_
  refine x_p 6 (.bool (op.1 == 0)) rfl (by kernel_rfl)  (fun _ => y_move rfl) (fun _ => hS) ?_
  rcases bif_some hs with ⟨hc27, hs⟩ | ⟨hc27, hs⟩
  ·skip
   refine x_pn 7 rfl (by kernel_rfl) (tg := 18) (by kernel_rfl) (congrArg Value.bool hc27) (fun _ => hS) ?_
   refine x_pn 8 rfl (by kernel_rfl) (tg := 18) (by kernel_rfl) (congrArg Value.bool hc27) (fun _ => hS) ?_
   refine x_pn 9 rfl (by kernel_rfl) (tg := 18) (by kernel_rfl) (congrArg Value.bool hc27) (fun _ => hS) ?_
   refine x_pn 10 rfl (by kernel_rfl) (tg := 18) (by kernel_rfl) (congrArg Value.bool hc27) (fun _ => hS) ?_
   refine x_p 11 (.bool true) rfl (by kernel_rfl)  (fun _ => y_pick_t (congrArg Value.bool hc27) rfl) (fun _ => hS) ?_
   refine x_one (i := 2) (by kernel_rfl) ?_
   obtain ⟨y29, hy29, hs⟩ := bind_some hs
   obtain ⟨a28, n28, c28, w28, f28, hm28, hC28, hfr28, hv28⟩ := mk_os (M := M) (w := w26) (r := (RT.int .i64)) Rw25 hy29 (fun _ _ => ⟨rfl, rfl⟩)
   refine xk_val (w' := w28) (b := false) (.slice a28 n28 c28) rfl  (y_make rfl rfl hm28) rfl (fun _ => hS.ext hC28) ?_
   have h0 := h0.ext hC28
   have h1 := h1.ext hC28
   have hb3 := hb3.chg hC28 (fun h => nomatch h)
   have hb4 := hb4.chg hC28 (fun h => nomatch h)
   have hC := hC.ext hC28
   have hO := hO.new hC28 hfr28 (os_nodup hv28) hv28.fpl
   have hS := hS.ext hC28
   refine x_p 12 (.slice a28 n28 c28) rfl (by kernel_rfl)  (fun _ => y_assign rfl) (fun _ => hS) ?_
   refine x_p 13 (.bool true) rfl (by kernel_rfl)  (fun _ => y_assign rfl) (fun _ => hS) ?_
   refine x_end (by kernel_rfl) ?_
   clear hS
   cases hs
   have hO := hO.fr2
   have hO := hO.fr2
   have hO := hO.fr2
   exact ⟨_, a28, n28, c28, f28, fr_ovl 50 ⟨rfl, rfl, rfl, rfl, rfl, trivial⟩, hC, hO, h0, h1, hb3, hb4, hv28⟩
  ·skip
   refine x_py 7 (.pointer (some ⟨g4, 1, none⟩)) rfl (by kernel_rfl) (tg := 18) (by kernel_rfl) (congrArg Value.bool hc27) (fun _ => y_faddr rfl Fa51x1) (fun _ => hS) ?_
   refine x_ly 8 (.slice pa1 pn1 pc1) rfl (by kernel_rfl) (tg := 18) (by kernel_rfl) (congrArg Value.bool hc27) (fun w' hw' => y_load rfl ((box_load Ag49 Sz49 hb4 [(.int .i64 r_.1)] [(.slice pa1 pn1 pc1)] [] rfl rfl (fun _ => rfl)) w' hw')) hS ?_
   refine x_py 9 (.int .i64 (r_.2.length : Int)) rfl (by kernel_rfl) (tg := 18) (by kernel_rfl) (congrArg Value.bool hc27) (fun _ => y_len' Sl49 (rs_len h1) rfl) (fun _ => hS) ?_
   refine x_py 10 (.bool (decide (0 < (r_.2.length : Int)))) rfl (by kernel_rfl) (tg := 18) (by kernel_rfl) (congrArg Value.bool hc27) (fun _ => y_gtr rfl rfl) (fun _ => hS) ?_
   refine x_p 11 (.bool (decide (0 < (r_.2.length : Int)))) rfl (by kernel_rfl)  (fun _ => y_pick_f (congrArg Value.bool hc27) rfl) (fun _ => hS) ?_
   refine x_one (i := 2) (by kernel_rfl) ?_
   obtain ⟨y32, hy32, hs⟩ := bind_some hs
   obtain ⟨a31, n31, c31, w31, f31, hm31, hC31, hfr31, hv31⟩ := mk_os (M := M) (w := w26) (r := (RT.int .i64)) Rw25 hy32 (fun _ _ => ⟨rfl, rfl⟩)
   refine xk_val (w' := w31) (b := false) (.slice a31 n31 c31) rfl  (y_make rfl rfl hm31) rfl (fun _ => hS.ext hC31) ?_
   have h0 := h0.ext hC31
   have h1 := h1.ext hC31
   have hb3 := hb3.chg hC31 (fun h => nomatch h)
   have hb4 := hb4.chg hC31 (fun h => nomatch h)
   have hC := hC.ext hC31
   have hO := hO.new hC31 hfr31 (os_nodup hv31) hv31.fpl
   have hS := hS.ext hC31
   refine x_p 12 (.slice a31 n31 c31) rfl (by kernel_rfl)  (fun _ => y_assign rfl) (fun _ => hS) ?_
   refine x_p 13 (.bool (decide (0 < (r_.2.length : Int)))) rfl (by kernel_rfl)  (fun _ => y_assign rfl) (fun _ => hS) ?_
   refine x_end (by kernel_rfl) ?_
   clear hS
   cases hs
   have hO := hO.fr2
   have hO := hO.fr2
   have hO := hO.fr2
   exact ⟨_, a31, n31, c31, f31, fr_ovl 50 ⟨rfl, rfl, rfl, rfl, rfl, trivial⟩, hC, hO, h0, h1, hb3, hb4, hv31⟩
 ·rintro a1 w22 ⟨σ, a24, n24, c24, f24, rfl, hC, hO, h0, h1, hb3, hb4, hv24⟩
  refine c_seq ?_
  obtain ⟨o91, hl92, hs⟩ := bind_some hs
  refine wp_block ?_
  refine wp_iter (id := 0) (I := fun s87 a w88 => ∃ (σ : Nat → Value) (M93 : Nat → Prop) (a94 : Option Addr) (n94 : Nat) (c94 : Nat) (f94 : List Nat), a = fr 50 (ovl σ [(0, (.int .i64 n)), (4, (.pointer (some ⟨g3, 0, none⟩))), (5, (.pointer (some ⟨g4, 0, none⟩))), (9, (.slice a94 n94 c94)), (10, (.bool s87.2))]) ∧ Chg [] w w88 ∧ Own (Nw w []) M93 w88 (f94 ++ (([g4]) ++ (([g3]) ++ []))) ∧ Keeps w M M93 ∧ (RT.rs (RT.int .i64)).val M93 w88 (.slice pa0 pn0 pc0) op.2 ([]) ∧ (RT.rs (RT.rs (RT.int .i64))).val M93 w88 (.slice pa1 pn1 pc1) r_.2 ([]) ∧ BoxV w88 g3 36 [(.int .i64 op.1), (.slice pa0 pn0 pc0)] ∧ BoxV w88 g4 51 [(.int .i64 r_.1), (.slice pa1 pn1 pc1)] ∧ (RT.os 3 (RT.int .i64)).val M93 w88 (.slice a94 n94 c94) s87.1 f94) (J := fun s87 a w88 => ∃ (σ : Nat → Value) (M96 : Nat → Prop) (a97 : Option Addr) (n97 : Nat) (c97 : Nat) (f97 : List Nat), a = fr 50 (ovl σ []) ∧ Chg [] w w88 ∧ Own (Nw w []) M96 w88 (f97 ++ (([g4]) ++ (([g3]) ++ []))) ∧ Keeps w M M96 ∧ (RT.rs (RT.int .i64)).val M96 w88 (.slice pa0 pn0 pc0) op.2 ([]) ∧ (RT.rs (RT.rs (RT.int .i64))).val M96 w88 (.slice pa1 pn1 pc1) r_.2 ([]) ∧ BoxV w88 g3 36 [(.int .i64 op.1), (.slice pa0 pn0 pc0)] ∧ BoxV w88 g4 51 [(.int .i64 r_.1), (.slice pa1 pn1 pc1)] ∧ (RT.os 3 (RT.int .i64)).val M96 w88 (.slice a97 n97 c97) s87.1 f97) (K := (k_spec_l13Break M w)) ?_ FU (s21.1, s21.2) o91 _ _ ?_ hl92 ?_
  ·rintro s87 o91 a w88 ⟨σ, M93, a94, n94, c94, f94, rfl, hC, hO, hK, h0, h1, hb3, hb4, hv94⟩ hs
   refine c_seq ?_
   refine c_seq (c_region ?_)
   refine pl_val (.bool s87.2) (y_move rfl) ?_
   refine c_nil ?_
   rcases bif_some hs with ⟨hc99, hs⟩ | ⟨hc99, hs⟩
   ·skip
    refine c_condT (congrArg Value.bool hc99) ?_
    refine wp_skip ?_
    refine wp_block ?_
    refine c_seq ?_
    refine x_start [] Mx rfl ?_
    have hCw108 := Chg.drew w88
    generalize World.drew w88 = w108 at hCw108 ⊢
    have h0 := h0.ext hCw108
    have h1 := h1.ext hCw108
    have hb3 := hb3.chg hCw108 (fun h => nomatch h)
    have hb4 := hb4.chg hCw108 (fun h => nomatch h)
    have hv94 := hv94.ext hCw108
    have hC := hC.ext hCw108
    have hO := hO.ext hCw108
    have hS := Chg.refl [] w108
    refine x_p 0 (.int .i64 n) rfl (by kernel_rfl)  (fun _ => y_move rfl) (fun _ => hS) ?_
    refine x_l 1 (.agg #[(.int .i64 op.1), (.slice pa0 pn0 pc0)]) rfl (by kernel_rfl)  (fun w' hw' => y_load rfl ((box_load Ag36 Sz36 hb3 [] [(.int .i64 op.1), (.slice pa0 pn0 pc0)] [] rfl rfl (fun h => nomatch h)) w' hw')) hS ?_
    refine x_p 2 (.pointer (some ⟨g4, 1, none⟩)) rfl (by kernel_rfl)  (fun _ => y_faddr rfl Fa51x1) (fun _ => hS) ?_
    refine x_l 3 (.slice pa1 pn1 pc1) rfl (by kernel_rfl)  (fun w' hw' => y_load rfl ((box_load Ag49 Sz49 hb4 [(.int .i64 r_.1)] [(.slice pa1 pn1 pc1)] [] rfl rfl (fun _ => rfl)) w' hw')) hS ?_
    refine x_p 4 (.slice a94 n94 c94) rfl (by kernel_rfl)  (fun _ => y_move rfl) (fun _ => hS) ?_
    refine x_p 6 (.pointer (some ⟨g4, 0, none⟩)) rfl (by kernel_rfl)  (fun _ => y_faddr rfl Fa51x0) (fun _ => hS) ?_
    refine x_l 7 (.int .i64 r_.1) rfl (by kernel_rfl)  (fun w' hw' => y_load rfl ((box_load Ag3 Sz3 hb4 [] [(.int .i64 r_.1)] [(.slice pa1 pn1 pc1)] rfl rfl (fun _ => rfl)) w' hw')) hS ?_
    refine x_one (i := 5) (by kernel_rfl) ?_
    obtain ⟨M110, eM110, hs110, hk110, hO, hv110⟩ := frz_own (Frz.os Frz.int) hv94 hO
    have h0 := h0.sub (M' := M110) hs110
    have h1 := h1.sub (M' := M110) hs110
    have hK := hK.trans hk110
    obtain ⟨r111, hr111, hs⟩ := bind_some hs
    refine xk_call (b := false) rfl  Bd86 rfl (c_spec_l8Choose (M := M110) r_.2 s87.1 h1 hv110 hO.fut hr111) rfl (by rintro _ _ _ ⟨a109x0, n109x0, c109x0, rfl, hC109, hv109x0⟩; exact hS.ext hC109) ?_
    rintro _ w109 ⟨a109x0, n109x0, c109x0, rfl, hC109, hv109x0⟩
    have hK := hK.trans (show Keeps w M110 (Past M110 w108 w109) from Keeps.past hC.size)
    have h0 := h0.ext hC109
    have h1 := h1.ext hC109
    have hb3 := hb3.chg hC109 (fun h => nomatch h)
    have hb4 := hb4.chg hC109 (fun h => nomatch h)
    have hv110 := hv110.ext hC109
    have hC := hC.ext hC109
    have hO := hO.past hC109
    have h0 := h0.sub (M' := (Past M110 w108 w109)) (fun g hg => .inl hg.1)
    have h1 := h1.sub (M' := (Past M110 w108 w109)) (fun g hg => .inl hg.1)
    have hv110 := hv110.sub (M' := (Past M110 w108 w109)) (fun g hg => .inl hg.1)
    have hS := hS.ext hC109
    refine x_one (i := 8) (by kernel_rfl) ?_
    obtain ⟨r114, hr114, hs⟩ := bind_some hs
    refine xk_call (b := false) rfl  Bd92 rfl (c_spec_l13Result (M := (Past M110 w108 w109)) n (op.1, op.2) r111 r_.1 h0 hv109x0 hO.fut hr114) rfl (by rintro _ _ _ ⟨a113x0, n113x0, c113x0, f113x0, rfl, hC113, hv113x0, hOc113⟩; exact hS.ext hC113) ?_
    rintro _ w113 ⟨a113x0, n113x0, c113x0, f113x0, rfl, hC113, hv113x0, hOc113⟩
    have h0 := h0.ext hC113
    have h1 := h1.ext hC113
    have hb3 := hb3.chg hC113 (fun h => nomatch h)
    have hb4 := hb4.chg hC113 (fun h => nomatch h)
    have hv110 := hv110.ext hC113
    have hv109x0 := hv109x0.ext hC113
    have hC := hC.ext hC113
    have hO := Own.join0 hO hC113 hOc113
    have hO := hO.perm (R := f113x0 ++ (([g4]) ++ (([g3]) ++ ([])))) (by simp)
    have hS := hS.ext hC113
    refine x_p 9 (.slice a113x0 n113x0 c113x0) rfl (by kernel_rfl)  (fun _ => y_assign rfl) (fun _ => hS) ?_
    refine x_end (by kernel_rfl) ?_
    clear hS
    refine c_seq ?_
    refine c_seq (c_region ?_)
    refine pl_val (.agg #[(.int .i64 r_.1), (.slice pa1 pn1 pc1)]) (y_load rfl ((box_load Ag51 Sz51 hb4 [] [(.int .i64 r_.1), (.slice pa1 pn1 pc1)] [] rfl rfl (fun h => nomatch h)) _ (Chg.refl _ _))) ?_
    refine pl_val (.slice a113x0 n113x0 c113x0) (y_move rfl) ?_
    obtain ⟨r117, hr117, hs⟩ := bind_some hs
    refine pl_call Bd64 rfl (c_spec_l13Has (M := (Less (Past M110 w108 w109) f113x0)) (r_.1, r_.2) r114 (h1.sub Less.sub) (((Frz.os Frz.int)).val hv113x0 Less.sub Less.not) hO.less.fut hr117) ?_
    rintro _ w116 ⟨rfl, hC116⟩
    have h0 := h0.ext hC116
    have h1 := h1.ext hC116
    have hb3 := hb3.chg hC116 (fun h => nomatch h)
    have hb4 := hb4.chg hC116 (fun h => nomatch h)
    have hv110 := hv110.ext hC116
    have hv109x0 := hv109x0.ext hC116
    have hv113x0 := hv113x0.ext hC116
    have hC := hC.ext hC116
    have hO := hO.ext hC116
    refine pl_val (.bool (!r117)) (y_not rfl) ?_
    refine c_nil ?_
    rcases bif_some hs with ⟨hc118, hs⟩ | ⟨hc118, hs⟩
    ·skip
     refine c_condT (congrArg Value.bool hc118) ?_
     refine c_seq (c_region ?_)
     refine pl_val (.slice a94 n94 c94) (y_move rfl) ?_
     refine pl_val (.slice a113x0 n113x0 c113x0) (y_move rfl) ?_
     refine pl_val (.slice a94 n94 c94) (y_assign rfl) ?_
     refine pl_val (.slice a113x0 n113x0 c113x0) (y_assign rfl) ?_
     refine pl_val (.bool true) (y_assign rfl) ?_
     refine c_nil ?_
     refine wp_ret ?_
     cases hs
     obtain ⟨M119, eM119, hs119, hk119, hO, hv119⟩ := frz_own (Frz.os Frz.int) hv113x0 hO
     have h0 := h0.sub (M' := M119) hs119
     have h1 := h1.sub (M' := M119) hs119
     have hv110 := hv110.sub (M' := M119) hs119
     have hK := hK.trans hk119
     exact ⟨_, a94, n94, c94, a113x0, n113x0, c113x0, fr_ovl 50 ⟨rfl, rfl, rfl, trivial⟩, hC, (Keeps.out hK hv110), (Keeps.out hK hv119)⟩
    ·skip
     refine c_condF (congrArg Value.bool hc118) ?_
     refine wp_skip ?_
     refine c_region ?_
     refine pl_val (.slice a94 n94 c94) (y_move rfl) ?_
     refine pl_val (.pointer (some ⟨g4, 1, none⟩)) (y_faddr rfl Fa51x1) ?_
     refine pl_val (.slice pa1 pn1 pc1) (y_load rfl ((box_load Ag49 Sz49 hb4 [(.int .i64 r_.1)] [(.slice pa1 pn1 pc1)] [] rfl rfl (fun _ => rfl)) _ (Chg.refl _ _))) ?_
     refine pl_val (.int .i64 (r_.2.length : Int)) (y_len' Sl49 (rs_len h1) rfl) ?_
     obtain ⟨r121, hr121, hs⟩ := bind_some hs
     refine pl_call Bd87 rfl (c_spec_l8Next (M := (Past M110 w108 w109)) s87.1 (r_.2.length : Int) hv110 hO.fut hr121) ?_
     rintro _ w120 ⟨a120x0, n120x0, c120x0, f120x0, rfl, hC120, hv120x0, hOc120⟩
     have h0 := h0.ext hC120
     have h1 := h1.ext hC120
     have hb3 := hb3.chg hC120 (fun h => nomatch h)
     have hb4 := hb4.chg hC120 (fun h => nomatch h)
     have hv110 := hv110.ext hC120
     have hv113x0 := hv113x0.ext hC120
     have hC := hC.ext hC120
     have hO := Own.join0 hO hC120 hOc120
     have hO := hO.perm (R := f120x0 ++ (f113x0 ++ (([g4]) ++ (([g3]) ++ ([]))))) (by simp)
     refine pl_val (.tuple #[(.slice a120x0 n120x0 c120x0), (.bool r121.2)]) (y_move rfl) ?_
     refine pl_val (.slice a120x0 n120x0 c120x0) (y_extract rfl (by kernel_rfl)) ?_
     refine pl_val (.bool r121.2) (y_extract rfl (by kernel_rfl)) ?_
     refine pl_val (.slice a120x0 n120x0 c120x0) (y_assign rfl) ?_
     refine pl_val (.bool r121.2) (y_assign rfl) ?_
     refine c_nil ?_
     cases hs
     have hO := hO.fr1
     have hO := hO.drop
     have hO := hO.fr2
     have hO := hO.fr2
     have hO := hO.fr2
     exact ⟨_, (Past M110 w108 w109), a120x0, n120x0, c120x0, f120x0, fr_ovl 50 ⟨rfl, rfl, rfl, rfl, rfl, trivial⟩, hC, hO, hK, h0, h1, hb3, hb4, hv120x0⟩
   ·skip
    refine c_condF (congrArg Value.bool hc99) ?_
    refine wp_exit ?_
    cases hs
    have hO := hO.fr2
    have hO := hO.fr2
    have hO := hO.fr2
    exact ⟨rfl, _, M93, a94, n94, c94, f94, fr_ovl 50 trivial, hC, hO, hK, h0, h1, hb3, hb4, hv94⟩
  ·skip
   have hO := hO.fr2
   have hO := hO.fr2
   have hO := hO.fr2
   exact ⟨_, M, a24, n24, c24, f24, fr_ovl 50 ⟨rfl, rfl, rfl, rfl, rfl, trivial⟩, hC, hO, Keeps.refl, h0, h1, hb3, hb4, hv24⟩
  ·cases o91 with
   | nx _ => exact True.intro
   | rt r_ =>
    have hs := after_rt hs
    intro a1 w1 hK
    cases hs
    exact hK
   | br s87 =>
    have hs := after_br hs
    rintro a1 w88 ⟨σ, M96, a97, n97, c97, f97, rfl, hC, hO, hK, h0, h1, hb3, hb4, hv97⟩
    refine c_seq (c_region ?_)
    obtain ⟨w123, g123, ew123, eg123, hC123, hb123⟩ := new_block w88 [] 3
    refine pl_val (w' := w123) (.slice (some ⟨g123, 0, none⟩) 0 0) (y_bslice rfl (by rw [ew123, eg123]; kernel_rfl)) ?_
    have h0 := h0.ext hC123
    have h1 := h1.ext hC123
    have hb3 := hb3.chg hC123 (fun h => nomatch h)
    have hb4 := hb4.chg hC123 (fun h => nomatch h)
    have hv97 := hv97.ext hC123
    have hC := hC.ext hC123
    have hO := hO.new1 hC123 eg123 hb123.lt
    have hv123 := os_of_box (r := (RT.int .i64)) (M := M96) (css := []) (fps := []) (xs := ([] : List Int)) hb123 trivial (Nat.zero_le _) (List.nodup_cons.2 ⟨(fun h => nomatch h), List.nodup_nil⟩)
    have hv123 : (RT.os 3 (RT.int .i64)).val M96 w123 (.slice (some ⟨g123, 0, none⟩) 0 0) [] [g123] := hv123
    obtain ⟨w125, g125, ew125, eg125, hC125, hb125⟩ := new_block w123 [] 3
    refine pl_val (w' := w125) (.slice (some ⟨g125, 0, none⟩) 0 0) (y_bslice rfl (by rw [ew125, eg125]; kernel_rfl)) ?_
    have h0 := h0.ext hC125
    have h1 := h1.ext hC125
    have hb3 := hb3.chg hC125 (fun h => nomatch h)
    have hb4 := hb4.chg hC125 (fun h => nomatch h)
    have hv97 := hv97.ext hC125
    have hv123 := hv123.ext hC125
    have hC := hC.ext hC125
    have hO := hO.new1 hC125 eg125 hb125.lt
    have hv125 := os_of_box (r := (RT.int .i64)) (M := M96) (css := []) (fps := []) (xs := ([] : List Int)) hb125 trivial (Nat.zero_le _) (List.nodup_cons.2 ⟨(fun h => nomatch h), List.nodup_nil⟩)
    have hv125 : (RT.os 3 (RT.int .i64)).val M96 w125 (.slice (some ⟨g125, 0, none⟩) 0 0) [] [g125] := hv125
    refine pl_val (.slice (some ⟨g123, 0, none⟩) 0 0) (y_assign rfl) ?_
    refine pl_val (.slice (some ⟨g125, 0, none⟩) 0 0) (y_assign rfl) ?_
    refine pl_val (.bool false) (y_assign rfl) ?_
    refine c_nil ?_
    refine wp_ret ?_
    cases hs
    have hO := hO.fr1
    obtain ⟨M127, eM127, hs127, hk127, hO, hv127⟩ := frz_own (Frz.os Frz.int) hv123 hO
    have hv97 := hv97.sub (M' := M127) hs127
    have hv125 := hv125.sub (M' := M127) hs127
    have hK := hK.trans hk127
    obtain ⟨M128, eM128, hs128, hk128, hO, hv128⟩ := frz_own (Frz.os Frz.int) hv125 hO
    have hv97 := hv97.sub (M' := M128) hs128
    have hv127 := hv127.sub (M' := M128) hs128
    have hK := hK.trans hk128
    exact ⟨_, (some ⟨g123, 0, none⟩), 0, 0, (some ⟨g125, 0, none⟩), 0, 0, fr_ovl 50 ⟨rfl, rfl, rfl, trivial⟩, hC, (Keeps.out hK hv127), (Keeps.out hK hv128)⟩

theorem Bd73 : Bodied Try.prog 73 := bodied Try.func73 (by kernel_rfl) rfl

def k_spec_l13Keeps (M : Nat → Prop) (w0 : World) (r : Bool) (a : Act) (w : World) : Prop :=
  ∃ (σ : Nat → Value) , a = fr 20 (ovl σ [(6, (.bool r))]) ∧ Chg [] w0 w
def s_spec_l13Keeps (n : Int) (op : Int × (List Int)) (r_ : Int × (List (List Int))) : Option (Bool) :=
  (s_spec_l13Break n (op.1, op.2) (r_.1, r_.2)).bind fun r6 =>
  some (!r6.2.2)
set_option maxHeartbeats 4000000 in
theorem c_spec_l13Keeps {M : Nat → Prop} {w : World} {pa0 : Option Addr} {pn0 pc0 : Nat} {pa1 : Option Addr} {pn1 pc1 : Nat} (n : Int) (op : Int × (List Int)) (r_ : Int × (List (List Int))) (h0 : (RT.rs (RT.int .i64)).val M w (.slice pa0 pn0 pc0) op.2 ([])) (h1 : (RT.rs (RT.rs (RT.int .i64))).val M w (.slice pa1 pn1 pc1) r_.2 ([])) (hM : ∀ g, w.heap.size ≤ g → M g) {r : Bool} (hs : s_spec_l13Keeps n op r_ = some r) :
    Gives Try.prog 58 [(.int .i64 n), (.agg #[(.int .i64 op.1), (.slice pa0 pn0 pc0)]), (.agg #[(.int .i64 r_.1), (.slice pa1 pn1 pc1)])] w (fun v w' => v = (.bool r) ∧ Chg [] w w') := by
 refine calls_fr Try.func58 rfl Try.ntmps58 (Nat.le_of_ble_eq_true rfl) ?_
 have hO := Own.start (N := Nw w []) hM Nw.fut
 have hC := Chg.refl [] w
 unfold s_spec_l13Keeps at hs
 refine wp_mono (Q := KPost (k_spec_l13Keeps M w r)) ?_ (fun e a w1 h => ?_)
 rotate_left
 ·cases e
  case ret =>
   obtain ⟨σ, rfl, hrest⟩ := h
   exact ret1x Try.results58 (res_tmp rfl) ⟨rfl, hrest⟩
  all_goals exact (h : False).elim
 refine c_seq (c_region ?_)
 obtain ⟨w3, g3, ew3, eg3, hC3, hb3⟩ := new_block w [(.int .i64 op.1), (.slice pa0 pn0 pc0)] 36
 refine pl_val (w' := w3) (.pointer (some ⟨g3, 0, none⟩)) (y_box rfl (by rw [ew3, eg3]; kernel_rfl)) ?_
 have h0 := h0.ext hC3
 have h1 := h1.ext hC3
 have hC := hC.ext hC3
 have hO := hO.new1 hC3 eg3 hb3.lt
 obtain ⟨w4, g4, ew4, eg4, hC4, hb4⟩ := new_block w3 [(.int .i64 r_.1), (.slice pa1 pn1 pc1)] 51
 refine pl_val (w' := w4) (.pointer (some ⟨g4, 0, none⟩)) (y_box rfl (by rw [ew4, eg4]; kernel_rfl)) ?_
 have h0 := h0.ext hC4
 have h1 := h1.ext hC4
 have hb3 := hb3.chg hC4 (fun h => nomatch h)
 have hC := hC.ext hC4
 have hO := hO.new1 hC4 eg4 hb4.lt
 refine pl_val (.bool false) (y_assign rfl) ?_
 refine c_nil ?_
 refine c_seq (c_region ?_)
 refine pl_val (.int .i64 n) (y_move rfl) ?_
 refine pl_val (.agg #[(.int .i64 op.1), (.slice pa0 pn0 pc0)]) (y_load rfl ((box_load Ag36 Sz36 hb3 [] [(.int .i64 op.1), (.slice pa0 pn0 pc0)] [] rfl rfl (fun h => nomatch h)) _ (Chg.refl _ _))) ?_
 refine pl_val (.agg #[(.int .i64 r_.1), (.slice pa1 pn1 pc1)]) (y_load rfl ((box_load Ag51 Sz51 hb4 [] [(.int .i64 r_.1), (.slice pa1 pn1 pc1)] [] rfl rfl (fun h => nomatch h)) _ (Chg.refl _ _))) ?_
 obtain ⟨r6, hr6, hs⟩ := bind_some hs
 refine pl_call Bd73 rfl (c_spec_l13Break (M := M) n (op.1, op.2) (r_.1, r_.2) h0 h1 hO.fut hr6) ?_
 rintro _ w5 ⟨a5x0, n5x0, c5x0, a5x1, n5x1, c5x1, rfl, hC5, hv5x0, hv5x1⟩
 have hK := (show Keeps w M (Past M w4 w5) from Keeps.past hC.size)
 have h0 := h0.ext hC5
 have h1 := h1.ext hC5
 have hb3 := hb3.chg hC5 (fun h => nomatch h)
 have hb4 := hb4.chg hC5 (fun h => nomatch h)
 have hC := hC.ext hC5
 have hO := hO.past hC5
 have h0 := h0.sub (M' := (Past M w4 w5)) (fun g hg => .inl hg.1)
 have h1 := h1.sub (M' := (Past M w4 w5)) (fun g hg => .inl hg.1)
 refine pl_val (.tuple #[(.slice a5x0 n5x0 c5x0), (.slice a5x1 n5x1 c5x1), (.bool r6.2.2)]) (y_move rfl) ?_
 refine pl_val (.slice a5x0 n5x0 c5x0) (y_extract rfl (by kernel_rfl)) ?_
 refine pl_val (.slice a5x1 n5x1 c5x1) (y_extract rfl (by kernel_rfl)) ?_
 refine pl_val (.bool r6.2.2) (y_extract rfl (by kernel_rfl)) ?_
 refine pl_val (.slice a5x0 n5x0 c5x0) (y_assign rfl) ?_
 refine pl_val (.slice a5x1 n5x1 c5x1) (y_assign rfl) ?_
 refine pl_val (.bool r6.2.2) (y_assign rfl) ?_
 refine c_nil ?_
 refine c_seq (c_region ?_)
 refine pl_val (.bool r6.2.2) (y_move rfl) ?_
 refine pl_val (.bool (!r6.2.2)) (y_not rfl) ?_
 refine pl_val (.bool (!r6.2.2)) (y_assign rfl) ?_
 refine c_nil ?_
 refine wp_ret ?_
 cases hs
 exact ⟨_, fr_ovl 20 ⟨rfl, trivial⟩, hC⟩

theorem Bd58 : Bodied Try.prog 58 := bodied Try.func58 (by kernel_rfl) rfl

def k_spec_l18Broken (M : Nat → Prop) (w0 : World) (r : Int) (a : Act) (w : World) : Prop :=
  ∃ (σ : Nat → Value) , a = fr 24 (ovl σ [(6, (.int .i64 r))]) ∧ Chg [] w0 w
def s_spec_l18Broken (n : Int) (all : List (List (List Int))) (op : Int × (List Int)) : Option (Int) :=
  (forC (S := Unit) (R := Int) (fun k14 s12 =>
  (idx all k14).bind fun x19 =>
  (s_spec_l13Keeps n (op.1, op.2) (2, x19)).bind fun r24 =>
  (bif (!r24) then some (.rt k14) else some (.nx ()))) 0 (all.length : Int) ()).bind fun o16 => after o16 (fun r_ => some r_) (fun s12 =>
  some (-1))
set_option maxHeartbeats 4000000 in
theorem c_spec_l18Broken {M : Nat → Prop} {w : World} {pa0 : Option Addr} {pn0 pc0 : Nat} {pa1 : Option Addr} {pn1 pc1 : Nat} (n : Int) (all : List (List (List Int))) (op : Int × (List Int)) (h0 : (RT.rs (RT.rs (RT.rs (RT.int .i64)))).val M w (.slice pa0 pn0 pc0) all ([])) (h1 : (RT.rs (RT.int .i64)).val M w (.slice pa1 pn1 pc1) op.2 ([])) (hM : ∀ g, w.heap.size ≤ g → M g) {r : Int} (hs : s_spec_l18Broken n all op = some r) :
    Gives Try.prog 36 [(.int .i64 n), (.slice pa0 pn0 pc0), (.agg #[(.int .i64 op.1), (.slice pa1 pn1 pc1)])] w (fun v w' => v = (.int .i64 r) ∧ Chg [] w w') := by
 refine calls_fr Try.func36 rfl Try.ntmps36 (Nat.le_of_ble_eq_true rfl) ?_
 have hO := Own.start (N := Nw w []) hM Nw.fut
 have hC := Chg.refl [] w
 unfold s_spec_l18Broken at hs
 refine wp_mono (Q := KPost (k_spec_l18Broken M w r)) ?_ (fun e a w1 h => ?_)
 rotate_left
 ·cases e
  case ret =>
   obtain ⟨σ, rfl, hrest⟩ := h
   exact ret1x Try.results36 (res_tmp rfl) ⟨rfl, hrest⟩
  all_goals exact (h : False).elim
 refine c_seq (c_region ?_)
 obtain ⟨w3, g3, ew3, eg3, hC3, hb3⟩ := new_block w [(.int .i64 op.1), (.slice pa1 pn1 pc1)] 36
 refine pl_val (w' := w3) (.pointer (some ⟨g3, 0, none⟩)) (y_box rfl (by rw [ew3, eg3]; kernel_rfl)) ?_
 have h0 := h0.ext hC3
 have h1 := h1.ext hC3
 have hC := hC.ext hC3
 have hO := hO.new1 hC3 eg3 hb3.lt
 refine pl_val (.int .i64 0) (y_assign rfl) ?_
 refine c_nil ?_
 refine c_seq ?_
 refine c_seq (c_region ?_)
 refine pl_val (.int .i64 0) (y_assign rfl) ?_
 refine c_nil ?_
 obtain ⟨o16, hl17, hs⟩ := bind_some hs
 refine wp_block ?_
 refine wp_forC (id := 0) (all.length : Int) (I := fun k14 s12 a w13 => ∃ (σ : Nat → Value), a = fr 24 (ovl σ [(0, (.int .i64 n)), (1, (.slice pa0 pn0 pc0)), (5, (.pointer (some ⟨g3, 0, none⟩))), (7, (.int .i64 k14))]) ∧ Chg [] w w13 ∧ Own (Nw w []) M w13 (([g3]) ++ []) ∧ (RT.rs (RT.rs (RT.rs (RT.int .i64)))).val M w13 (.slice pa0 pn0 pc0) all ([]) ∧ (RT.rs (RT.int .i64)).val M w13 (.slice pa1 pn1 pc1) op.2 ([]) ∧ BoxV w13 g3 36 [(.int .i64 op.1), (.slice pa1 pn1 pc1)]) (J := fun s12 a w13 => ∃ (σ : Nat → Value), a = fr 24 (ovl σ []) ∧ Chg [] w w13 ∧ Own (Nw w []) M w13 (([g3]) ++ []) ∧ (RT.rs (RT.rs (RT.rs (RT.int .i64)))).val M w13 (.slice pa0 pn0 pc0) all ([]) ∧ (RT.rs (RT.int .i64)).val M w13 (.slice pa1 pn1 pc1) op.2 ([]) ∧ BoxV w13 g3 36 [(.int .i64 op.1), (.slice pa1 pn1 pc1)]) (K := (k_spec_l18Broken M w)) ?_ ?_ 0 () o16 _ _ ?_ hl17 ?_
 ·rintro k14 s12 a w13 ⟨σ, rfl, hC, hO, h0, h1, hb3⟩ hlt
  refine c_seq ?_
  refine c_seq (c_region ?_)
  refine pl_val (.int .i64 k14) (y_move rfl) ?_
  refine pl_val (.slice pa0 pn0 pc0) (y_move rfl) ?_
  refine pl_val (.int .i64 (all.length : Int)) (y_len' Sl59 (rs_len h0) rfl) ?_
  refine pl_val (.bool (decide (k14 < (all.length : Int)))) (y_lss rfl rfl) ?_
  refine c_nil ?_
  refine c_condF (congrArg Value.bool (decide_eq_false hlt)) ?_
  refine wp_exit ?_
  exact ⟨rfl, _, fr_ovl 24 trivial, hC, hO, h0, h1, hb3⟩
 ·rintro k14 s12 o16 a w13 ⟨σ, rfl, hC, hO, h0, h1, hb3⟩ hlt hw hs
  refine c_seq ?_
  refine c_seq (c_region ?_)
  refine pl_val (.int .i64 k14) (y_move rfl) ?_
  refine pl_val (.slice pa0 pn0 pc0) (y_move rfl) ?_
  refine pl_val (.int .i64 (all.length : Int)) (y_len' Sl59 (rs_len h0) rfl) ?_
  refine pl_val (.bool (decide (k14 < (all.length : Int)))) (y_lss rfl rfl) ?_
  refine c_nil ?_
  refine c_condT (congrArg Value.bool (decide_eq_true hlt)) ?_
  refine wp_skip ?_
  refine c_seq ?_
  refine wp_block ?_
  refine c_seq ?_
  refine x_start [] Mx rfl ?_
  have hCw18 := Chg.drew w13
  generalize World.drew w13 = w18 at hCw18 ⊢
  have h0 := h0.ext hCw18
  have h1 := h1.ext hCw18
  have hb3 := hb3.chg hCw18 (fun h => nomatch h)
  have hC := hC.ext hCw18
  have hO := hO.ext hCw18
  have hS := Chg.refl [] w18
  refine x_p 0 (.int .i64 n) rfl (by kernel_rfl)  (fun _ => y_move rfl) (fun _ => hS) ?_
  refine x_l 1 (.agg #[(.int .i64 op.1), (.slice pa1 pn1 pc1)]) rfl (by kernel_rfl)  (fun w' hw' => y_load rfl ((box_load Ag36 Sz36 hb3 [] [(.int .i64 op.1), (.slice pa1 pn1 pc1)] [] rfl rfl (fun h => nomatch h)) w' hw')) hS ?_
  refine x_p 2 (.slice pa0 pn0 pc0) rfl (by kernel_rfl)  (fun _ => y_move rfl) (fun _ => hS) ?_
  refine x_p 3 (.int .i64 k14) rfl (by kernel_rfl)  (fun _ => y_move rfl) (fun _ => hS) ?_
  obtain ⟨x19, hx19, hs⟩ := bind_some hs
  obtain ⟨b20, o20, hp20, ha20⟩ := rs_idx Sl59 Sz49 h0 hx19
  refine x_p 4 (.pointer (some ⟨b20, o20, none⟩)) rfl (by kernel_rfl)  (fun _ => hp20 _ _ _ _ _ _ _ _ _ rfl rfl) (fun _ => hS) ?_
  obtain ⟨v21, hl21, hv21⟩ := at_load Ag49 Sz49 (fun _ => rfl) ha20
  obtain ⟨a21, n21, c21, rfl⟩ := rs_sl hv21
  refine x_l 5 (.slice a21 n21 c21) rfl (by kernel_rfl)  (fun w' hw' => y_load rfl (hl21 w' hw')) hS ?_
  refine x_p 6 (.agg #[(.int .i64 2), (.slice a21 n21 c21)]) rfl (by kernel_rfl)  (fun _ => y_build rfl (by kernel_rfl)) (fun _ => hS) ?_
  refine x_one (i := 7) (by kernel_rfl) ?_
  obtain ⟨r24, hr24, hs⟩ := bind_some hs
  refine xk_call (b := false) rfl  Bd58 rfl (c_spec_l13Keeps (M := M) n (op.1, op.2) (2, x19) h1 hv21 hO.fut hr24) rfl (by rintro _ _ _ ⟨rfl, hC23⟩; exact hS.ext hC23) ?_
  rintro _ w23 ⟨rfl, hC23⟩
  have h0 := h0.ext hC23
  have h1 := h1.ext hC23
  have hb3 := hb3.chg hC23 (fun h => nomatch h)
  have hv21 := hv21.ext hC23
  have hC := hC.ext hC23
  have hO := hO.ext hC23
  have hS := hS.ext hC23
  refine x_p 8 (.bool (!r24)) rfl (by kernel_rfl)  (fun _ => y_not rfl) (fun _ => hS) ?_
  refine x_end (by kernel_rfl) ?_
  clear hS
  rcases bif_some hs with ⟨hc25, hs⟩ | ⟨hc25, hs⟩
  ·skip
   refine c_condT (congrArg Value.bool hc25) ?_
   refine c_seq (c_region ?_)
   refine pl_val (.int .i64 k14) (y_move rfl) ?_
   refine pl_val (.int .i64 k14) (y_assign rfl) ?_
   refine c_nil ?_
   refine wp_ret ?_
   cases hs
   exact ⟨_, fr_ovl 24 ⟨rfl, trivial⟩, hC⟩
  ·skip
   refine c_condF (congrArg Value.bool hc25) ?_
   refine wp_skip ?_
   refine c_region ?_
   refine pl_val (.int .i64 k14) (y_move rfl) ?_
   refine pl_val (.int .i64 (w64 (k14 + 1))) (y_add rfl rfl) ?_
   refine pl_val (.int .i64 (w64 (k14 + 1))) (y_assign rfl) ?_
   refine c_nil ?_
   cases hs
   exact ⟨_, fr_ovl 24 ⟨rfl, rfl, rfl, congrArg (Value.int .i64) hw, trivial⟩, hC, hO, h0, h1, hb3⟩
 ·skip
  exact ⟨_, fr_ovl 24 ⟨rfl, rfl, rfl, rfl, trivial⟩, hC, hO, h0, h1, hb3⟩
 ·cases o16 with
  | nx _ => exact True.intro
  | rt r_ =>
   have hs := after_rt hs
   intro a1 w1 hK
   cases hs
   exact hK
  | br s12 =>
   have hs := after_br hs
   rintro a1 w13 ⟨σ, rfl, hC, hO, h0, h1, hb3⟩
   refine c_seq (c_region ?_)
   refine pl_val (.int .i64 (-1)) (y_assign rfl) ?_
   refine c_nil ?_
   refine wp_ret ?_
   cases hs
   exact ⟨_, fr_ovl 24 ⟨rfl, trivial⟩, hC⟩

theorem Bd34 : Bodied Try.prog 34 := bodied Try.func34 (by kernel_rfl) rfl

theorem Bd36 : Bodied Try.prog 36 := bodied Try.func36 (by kernel_rfl) rfl

def k_spec_KeepsAllPairs (M : Nat → Prop) (w0 : World) (r : Bool × Bool) (a : Act) (w : World) : Prop :=
  ∃ (σ : Nat → Value) , a = fr 28 (ovl σ [(4, (.bool r.1)), (5, (.bool r.2))]) ∧ Chg [] w0 w
def s_spec_KeepsAllPairs (a_ : Int × (List (Int × (List Int)))) (op : Int × (List Int)) : Option (Bool × Bool) :=
  (s_spec_l18Asked (a_.1, a_.2)).bind fun r6 =>
  ((bif (!r6.2) then some true else (s_spec_l2Op a_.1 (op.1, op.2)).bind fun r13 =>
  some (!r13))).bind fun s8 =>
  (bif s8 then some (false, false) else (s_spec_l18Broken a_.1 r6.1 (op.1, op.2)).bind fun r16 =>
  some ((decide (r16 < 0)), true))
set_option maxHeartbeats 4000000 in
theorem c_spec_KeepsAllPairs {M : Nat → Prop} {w : World} {pa0 : Option Addr} {pn0 pc0 : Nat} {pa1 : Option Addr} {pn1 pc1 : Nat} (a_ : Int × (List (Int × (List Int)))) (op : Int × (List Int)) (h0 : (RT.rs (RT.pr (RT.int .i64) (RT.rs (RT.int .i64)))).val M w (.slice pa0 pn0 pc0) a_.2 ([])) (h1 : (RT.rs (RT.int .i64)).val M w (.slice pa1 pn1 pc1) op.2 ([])) (hM : ∀ g, w.heap.size ≤ g → M g) {r : Bool × Bool} (hs : s_spec_KeepsAllPairs a_ op = some r) :
    Gives Try.prog 10 [(.agg #[(.int .i64 a_.1), (.slice pa0 pn0 pc0)]), (.agg #[(.int .i64 op.1), (.slice pa1 pn1 pc1)])] w (fun v w' => v = (.tuple #[(.bool r.1), (.bool r.2)]) ∧ Chg [] w w') := by
 refine calls_fr Try.func10 rfl Try.ntmps10 (Nat.le_of_ble_eq_true rfl) ?_
 have hO := Own.start (N := Nw w []) hM Nw.fut
 have hC := Chg.refl [] w
 unfold s_spec_KeepsAllPairs at hs
 refine wp_mono (Q := KPost (k_spec_KeepsAllPairs M w r)) ?_ (fun e a w1 h => ?_)
 rotate_left
 ·cases e
  case ret =>
   obtain ⟨σ, rfl, hrest⟩ := h
   exact ret2x Try.results10 (res_tmp rfl) (res_tmp rfl) ⟨rfl, hrest⟩
  all_goals exact (h : False).elim
 refine c_seq (c_region ?_)
 obtain ⟨w3, g3, ew3, eg3, hC3, hb3⟩ := new_block w [(.int .i64 a_.1), (.slice pa0 pn0 pc0)] 34
 refine pl_val (w' := w3) (.pointer (some ⟨g3, 0, none⟩)) (y_box rfl (by rw [ew3, eg3]; kernel_rfl)) ?_
 have h0 := h0.ext hC3
 have h1 := h1.ext hC3
 have hC := hC.ext hC3
 have hO := hO.new1 hC3 eg3 hb3.lt
 obtain ⟨w4, g4, ew4, eg4, hC4, hb4⟩ := new_block w3 [(.int .i64 op.1), (.slice pa1 pn1 pc1)] 36
 refine pl_val (w' := w4) (.pointer (some ⟨g4, 0, none⟩)) (y_box rfl (by rw [ew4, eg4]; kernel_rfl)) ?_
 have h0 := h0.ext hC4
 have h1 := h1.ext hC4
 have hb3 := hb3.chg hC4 (fun h => nomatch h)
 have hC := hC.ext hC4
 have hO := hO.new1 hC4 eg4 hb4.lt
 refine pl_val (.bool false) (y_assign rfl) ?_
 refine pl_val (.bool false) (y_assign rfl) ?_
 refine c_nil ?_
 refine c_seq (c_region ?_)
 refine pl_val (.agg #[(.int .i64 a_.1), (.slice pa0 pn0 pc0)]) (y_load rfl ((box_load Ag34 Sz34 hb3 [] [(.int .i64 a_.1), (.slice pa0 pn0 pc0)] [] rfl rfl (fun h => nomatch h)) _ (Chg.refl _ _))) ?_
 obtain ⟨r6, hr6, hs⟩ := bind_some hs
 refine pl_call Bd34 rfl (c_spec_l18Asked (M := M) (a_.1, a_.2) h0 hO.fut hr6) ?_
 rintro _ w5 ⟨a5x0, n5x0, c5x0, rfl, hC5, hv5x0⟩
 have hK := (show Keeps w M (Past M w4 w5) from Keeps.past hC.size)
 have h0 := h0.ext hC5
 have h1 := h1.ext hC5
 have hb3 := hb3.chg hC5 (fun h => nomatch h)
 have hb4 := hb4.chg hC5 (fun h => nomatch h)
 have hC := hC.ext hC5
 have hO := hO.past hC5
 have h0 := h0.sub (M' := (Past M w4 w5)) (fun g hg => .inl hg.1)
 have h1 := h1.sub (M' := (Past M w4 w5)) (fun g hg => .inl hg.1)
 refine pl_val (.tuple #[(.slice a5x0 n5x0 c5x0), (.bool r6.2)]) (y_move rfl) ?_
 refine pl_val (.slice a5x0 n5x0 c5x0) (y_extract rfl (by kernel_rfl)) ?_
 refine pl_val (.bool r6.2) (y_extract rfl (by kernel_rfl)) ?_
 refine pl_val (.slice a5x0 n5x0 c5x0) (y_assign rfl) ?_
 refine pl_val (.bool r6.2) (y_assign rfl) ?_
 refine c_nil ?_
 refine c_seq ?_
 refine c_seq ?_
 obtain ⟨s8, hm10, hs⟩ := bind_some hs
 refine c_mid (I := fun a w9 => ∃ (σ : Nat → Value), a = fr 28 (ovl σ [(2, (.pointer (some ⟨g3, 0, none⟩))), (3, (.pointer (some ⟨g4, 0, none⟩))), (4, (.bool false)), (5, (.bool false)), (6, (.slice a5x0 n5x0 c5x0)), (21, (.bool s8))]) ∧ Chg [] w5 w9) ?_ ?_
 ·replace hs := hm10
  have hMid := Chg.refl [] w5
  refine c_region ?_
  refine pl_val (.bool r6.2) (y_move rfl) ?_
  refine pl_val (.bool (!r6.2)) (y_not rfl) ?_
  refine pl_val (.bool (!r6.2)) (y_move rfl) ?_
  rcases bif_some hs with ⟨hc11, hs⟩ | ⟨hc11, hs⟩
  ·skip
   refine pl_not (tg := 15) (by kernel_rfl) (congrArg Value.bool hc11) ?_
   refine pl_not (tg := 15) (by kernel_rfl) (congrArg Value.bool hc11) ?_
   refine pl_not (tg := 15) (by kernel_rfl) (congrArg Value.bool hc11) ?_
   refine pl_not (tg := 15) (by kernel_rfl) (congrArg Value.bool hc11) ?_
   refine pl_not (tg := 15) (by kernel_rfl) (congrArg Value.bool hc11) ?_
   refine pl_val (.bool true) (y_pick_t (congrArg Value.bool hc11) rfl) ?_
   refine c_nil ?_
   cases hs
   exact ⟨_, fr_ovl 28 ⟨rfl, rfl, rfl, rfl, rfl, rfl, trivial⟩, hMid⟩
  ·skip
   refine pl_yes (.pointer (some ⟨g3, 0, none⟩)) (tg := 15) (by kernel_rfl) (congrArg Value.bool hc11) (y_faddr rfl Fa34x0) ?_
   refine pl_yes (.int .i64 a_.1) (tg := 15) (by kernel_rfl) (congrArg Value.bool hc11) (y_load rfl ((box_load Ag3 Sz3 hb3 [] [(.int .i64 a_.1)] [(.slice pa0 pn0 pc0)] rfl rfl (fun _ => rfl)) _ (Chg.refl _ _))) ?_
   refine pl_yes (.agg #[(.int .i64 op.1), (.slice pa1 pn1 pc1)]) (tg := 15) (by kernel_rfl) (congrArg Value.bool hc11) (y_load rfl ((box_load Ag36 Sz36 hb4 [] [(.int .i64 op.1), (.slice pa1 pn1 pc1)] [] rfl rfl (fun h => nomatch h)) _ (Chg.refl _ _))) ?_
   obtain ⟨r13, hr13, hs⟩ := bind_some hs
   refine pl_cally (tg := 15) (by kernel_rfl) (congrArg Value.bool hc11) Bd35 rfl (c_spec_l2Op (M := (Past M w4 w5)) a_.1 (op.1, op.2) h1 hO.fut hr13) ?_
   rintro _ w12 ⟨rfl, hC12⟩
   have h0 := h0.ext hC12
   have h1 := h1.ext hC12
   have hb3 := hb3.chg hC12 (fun h => nomatch h)
   have hb4 := hb4.chg hC12 (fun h => nomatch h)
   have hv5x0 := hv5x0.ext hC12
   have hMid := hMid.ext hC12
   have hC := hC.ext hC12
   have hO := hO.ext hC12
   refine pl_yes (.bool (!r13)) (tg := 15) (by kernel_rfl) (congrArg Value.bool hc11) (y_not rfl) ?_
   refine pl_val (.bool (!r13)) (y_pick_f (congrArg Value.bool hc11) rfl) ?_
   refine c_nil ?_
   cases hs
   exact ⟨_, fr_ovl 28 ⟨rfl, rfl, rfl, rfl, rfl, rfl, trivial⟩, hMid⟩
 ·rintro a1 w9 ⟨σ, rfl, hCs8⟩
  have h0 := h0.ext hCs8
  have h1 := h1.ext hCs8
  have hb3 := hb3.chg hCs8 (fun h => nomatch h)
  have hb4 := hb4.chg hCs8 (fun h => nomatch h)
  have hv5x0 := hv5x0.ext hCs8
  have hC := hC.ext hCs8
  have hO := hO.ext hCs8
  rcases bif_some hs with ⟨hc14, hs⟩ | ⟨hc14, hs⟩
  ·skip
   refine c_condT (congrArg Value.bool hc14) ?_
   refine c_seq (c_region ?_)
   refine pl_val (.bool false) (y_assign rfl) ?_
   refine pl_val (.bool false) (y_assign rfl) ?_
   refine c_nil ?_
   refine wp_ret ?_
   cases hs
   exact ⟨_, fr_ovl 28 ⟨rfl, rfl, trivial⟩, hC⟩
  ·skip
   refine c_condF (congrArg Value.bool hc14) ?_
   refine wp_skip ?_
   refine c_seq (c_region ?_)
   refine pl_val (.pointer (some ⟨g3, 0, none⟩)) (y_faddr rfl Fa34x0) ?_
   refine pl_val (.int .i64 a_.1) (y_load rfl ((box_load Ag3 Sz3 hb3 [] [(.int .i64 a_.1)] [(.slice pa0 pn0 pc0)] rfl rfl (fun _ => rfl)) _ (Chg.refl _ _))) ?_
   refine pl_val (.slice a5x0 n5x0 c5x0) (y_move rfl) ?_
   refine pl_val (.agg #[(.int .i64 op.1), (.slice pa1 pn1 pc1)]) (y_load rfl ((box_load Ag36 Sz36 hb4 [] [(.int .i64 op.1), (.slice pa1 pn1 pc1)] [] rfl rfl (fun h => nomatch h)) _ (Chg.refl _ _))) ?_
   obtain ⟨r16, hr16, hs⟩ := bind_some hs
   refine pl_call Bd36 rfl (c_spec_l18Broken (M := (Past M w4 w5)) a_.1 r6.1 (op.1, op.2) hv5x0 h1 hO.fut hr16) ?_
   rintro _ w15 ⟨rfl, hC15⟩
   have h0 := h0.ext hC15
   have h1 := h1.ext hC15
   have hb3 := hb3.chg hC15 (fun h => nomatch h)
   have hb4 := hb4.chg hC15 (fun h => nomatch h)
   have hv5x0 := hv5x0.ext hC15
   have hC := hC.ext hC15
   have hO := hO.ext hC15
   refine pl_val (.bool (decide (r16 < 0))) (y_lss rfl rfl) ?_
   refine pl_val (.bool (decide (r16 < 0))) (y_assign rfl) ?_
   refine pl_val (.bool true) (y_assign rfl) ?_
   refine c_nil ?_
   refine wp_ret ?_
   cases hs
   exact ⟨_, fr_ovl 28 ⟨rfl, rfl, trivial⟩, hC⟩

def k_impl_power (M : Nat → Prop) (w0 : World) (r : Int) (a : Act) (w : World) : Prop :=
  ∃ (σ : Nat → Value) , a = fr 14 (ovl σ [(4, (.int .i64 r))]) ∧ Chg [] w0 w
def s_impl_power (n : Int) (k : Int) : Option (Int) :=
  (iter (S := Int × Int) (R := Int) (fun s2 =>
  (bif (decide (0 < s2.1)) then some (.nx (w64 (s2.1 - 1), w64 (s2.2 * n))) else some (.br (s2.1, s2.2)))) FU (k, 1)).bind fun o6 => after o6 (fun r_ => some r_) (fun s2 =>
  some s2.2)
set_option maxHeartbeats 4000000 in
theorem c_impl_power {M : Nat → Prop} {w : World}  (n : Int) (k : Int)  (hM : ∀ g, w.heap.size ≤ g → M g) {r : Int} (hs : s_impl_power n k = some r) :
    Gives Try.prog 61 [(.int .i64 n), (.int .i64 k)] w (fun v w' => v = (.int .i64 r) ∧ Chg [] w w') := by
 refine calls_fr Try.func61 rfl Try.ntmps61 (Nat.le_of_ble_eq_true rfl) ?_
 have hO := Own.start (N := Nw w []) hM Nw.fut
 have hC := Chg.refl [] w
 unfold s_impl_power at hs
 refine wp_mono (Q := KPost (k_impl_power M w r)) ?_ (fun e a w1 h => ?_)
 rotate_left
 ·cases e
  case ret =>
   obtain ⟨σ, rfl, hrest⟩ := h
   exact ret1x Try.results61 (res_tmp rfl) ⟨rfl, hrest⟩
  all_goals exact (h : False).elim
 refine c_seq (c_region ?_)
 refine pl_val (.int .i64 0) (y_assign rfl) ?_
 refine c_nil ?_
 refine c_seq (c_region ?_)
 refine pl_val (.int .i64 1) (y_assign rfl) ?_
 refine c_nil ?_
 refine c_seq ?_
 obtain ⟨o6, hl7, hs⟩ := bind_some hs
 refine wp_block ?_
 refine wp_iter (id := 0) (I := fun s2 a w3 => ∃ (σ : Nat → Value), a = fr 14 (ovl σ [(0, (.int .i64 n)), (1, (.int .i64 s2.1)), (5, (.int .i64 s2.2))]) ∧ Chg [] w w3 ∧ Own (Nw w []) M w3 ([])) (J := fun s2 a w3 => ∃ (σ : Nat → Value), a = fr 14 (ovl σ [(5, (.int .i64 s2.2))]) ∧ Chg [] w w3 ∧ Own (Nw w []) M w3 ([])) (K := (k_impl_power M w)) ?_ FU (k, 1) o6 _ _ ?_ hl7 ?_
 ·rintro s2 o6 a w3 ⟨σ, rfl, hC, hO⟩ hs
  refine c_seq ?_
  refine c_seq (c_region ?_)
  refine pl_val (.int .i64 s2.1) (y_move rfl) ?_
  refine pl_val (.bool (decide (0 < s2.1))) (y_gtr rfl rfl) ?_
  refine c_nil ?_
  rcases bif_some hs with ⟨hc8, hs⟩ | ⟨hc8, hs⟩
  ·skip
   refine c_condT (congrArg Value.bool hc8) ?_
   refine wp_skip ?_
   refine c_seq ?_
   refine wp_block ?_
   refine c_region ?_
   refine pl_val (.int .i64 s2.2) (y_move rfl) ?_
   refine pl_val (.int .i64 n) (y_move rfl) ?_
   refine pl_val (.int .i64 (w64 (s2.2 * n))) (y_mul rfl rfl) ?_
   refine pl_val (.int .i64 (w64 (s2.2 * n))) (y_assign rfl) ?_
   refine c_nil ?_
   refine c_region ?_
   refine pl_val (.int .i64 s2.1) (y_move rfl) ?_
   refine pl_val (.int .i64 (w64 (s2.1 - 1))) (y_sub rfl rfl) ?_
   refine pl_val (.int .i64 (w64 (s2.1 - 1))) (y_assign rfl) ?_
   refine c_nil ?_
   cases hs
   exact ⟨_, fr_ovl 14 ⟨rfl, rfl, rfl, trivial⟩, hC, hO⟩
  ·skip
   refine c_condF (congrArg Value.bool hc8) ?_
   refine wp_exit ?_
   cases hs
   exact ⟨rfl, _, fr_ovl 14 ⟨rfl, trivial⟩, hC, hO⟩
 ·skip
  exact ⟨_, fr_ovl 14 ⟨rfl, rfl, rfl, trivial⟩, hC, hO⟩
 ·cases o6 with
  | nx _ => exact True.intro
  | rt r_ =>
   have hs := after_rt hs
   intro a1 w1 hK
   cases hs
   exact hK
  | br s2 =>
   have hs := after_br hs
   rintro a1 w3 ⟨σ, rfl, hC, hO⟩
   refine c_seq (c_region ?_)
   refine pl_val (.int .i64 s2.2) (y_move rfl) ?_
   refine pl_val (.int .i64 s2.2) (y_assign rfl) ?_
   refine c_nil ?_
   refine wp_ret ?_
   cases hs
   exact ⟨_, fr_ovl 14 ⟨rfl, trivial⟩, hC⟩

end Go.Proofs
