/- What functions of the program compute, as plain functions, and that a call gives just that. Conditions: those named in each theorem. -/
import Derived.Test.YtchgbcjecdnclaaF1
set_option linter.unusedVariables false
namespace Go.Proofs
open Go.G Go.RowKit
set_option maxRecDepth 100000

def k_spec_FirstPairApart (M : Nat → Prop) (w0 : World) (r : (List Int) × (List Int) × Bool) (a : Act) (w : World) : Prop :=
  ∃ (σ : Nat → Value) (ra0 : Option Addr) (rn0 rc0 : Nat) (ra1 : Option Addr) (rn1 rc1 : Nat), a = fr 37 (ovl σ [(2, (.slice ra0 rn0 rc0)), (3, (.slice ra1 rn1 rc1)), (4, (.bool r.2.2))]) ∧ Chg [] w0 w ∧ (RT.rs (RT.int .i64)).val (Past M w0 w) w (.slice ra0 rn0 rc0) r.1 [] ∧ (RT.rs (RT.int .i64)).val (Past M w0 w) w (.slice ra1 rn1 rc1) r.2.1 []
def s_spec_FirstPairApart (a_ : Int × (List (Int × (List Int)))) : Option ((List Int) × (List Int) × Bool) :=
  (s_spec_l16All (a_.1, a_.2)).bind fun r4 =>
  (bif (!r4.2) then some ([], [], false) else (s_spec_l16Apart r4.1).bind fun r14 =>
  (bif (!r14.2.2) then some ([], [], false) else (idx r4.1 r14.1).bind fun x23 =>
  (idx r4.1 r14.2.1).bind fun x27 =>
  some (x23, x27, true)))
set_option maxHeartbeats 4000000 in
theorem c_spec_FirstPairApart {M : Nat → Prop} {w : World} {pa0 : Option Addr} {pn0 pc0 : Nat} (a_ : Int × (List (Int × (List Int)))) (h0 : (RT.rs (RT.pr (RT.int .i64) (RT.rs (RT.int .i64)))).val M w (.slice pa0 pn0 pc0) a_.2 ([])) (hM : ∀ g, w.heap.size ≤ g → M g) {r : (List Int) × (List Int) × Bool} (hs : s_spec_FirstPairApart a_ = some r) :
    Gives Try.prog 35 [(.agg #[(.int .i64 a_.1), (.slice pa0 pn0 pc0)])] w (fun v w' => ∃ (ra0 : Option Addr) (rn0 rc0 : Nat) (ra1 : Option Addr) (rn1 rc1 : Nat), v = (.tuple #[(.slice ra0 rn0 rc0), (.slice ra1 rn1 rc1), (.bool r.2.2)]) ∧ Chg [] w w' ∧ (RT.rs (RT.int .i64)).val (Past M w w') w' (.slice ra0 rn0 rc0) r.1 [] ∧ (RT.rs (RT.int .i64)).val (Past M w w') w' (.slice ra1 rn1 rc1) r.2.1 []) := by
 refine calls_fr Try.func35 rfl Try.ntmps35 (Nat.le_of_ble_eq_true rfl) ?_
 have hO := Own.start (N := Nw w []) hM Nw.fut
 have hC := Chg.refl [] w
 unfold s_spec_FirstPairApart at hs
 refine wp_mono (Q := KPost (k_spec_FirstPairApart M w r)) ?_ (fun e a w1 h => ?_)
 rotate_left
 ·cases e
  case ret =>
   obtain ⟨σ, ra0, rn0, rc0, ra1, rn1, rc1, rfl, hrest⟩ := h
   exact ret3x Try.results35 (res_tmp rfl) (res_tmp rfl) (res_tmp rfl) ⟨ra0, rn0, rc0, ra1, rn1, rc1, rfl, hrest⟩
  all_goals exact (h : False).elim
 refine c_seq (c_region ?_)
 obtain ⟨w2, g2, ew2, eg2, hC2, hb2⟩ := new_block w [(.int .i64 a_.1), (.slice pa0 pn0 pc0)] 35
 refine pl_val (w' := w2) (.pointer (some ⟨g2, 0, none⟩)) (y_box rfl (by rw [ew2, eg2]; kernel_rfl)) ?_
 have h0 := h0.ext hC2
 have hC := hC.ext hC2
 have hO := hO.new1 hC2 eg2 hb2.lt
 refine pl_val (.slice none 0 0) (y_assign rfl) ?_
 refine pl_val (.slice none 0 0) (y_assign rfl) ?_
 refine pl_val (.bool false) (y_assign rfl) ?_
 refine c_nil ?_
 refine c_seq (c_region ?_)
 refine pl_val (.agg #[(.int .i64 a_.1), (.slice pa0 pn0 pc0)]) (y_load rfl ((box_load Ag35 Sz35 hb2 [] [(.int .i64 a_.1), (.slice pa0 pn0 pc0)] [] rfl rfl (fun h => nomatch h)) _ (Chg.refl _ _))) ?_
 obtain ⟨r4, hr4, hs⟩ := bind_some hs
 refine pl_call Bd49 rfl (c_spec_l16All (M := M) (a_.1, a_.2) h0 hO.fut hr4) ?_
 rintro _ w3 ⟨a3x0, n3x0, c3x0, rfl, hC3, hv3x0⟩
 have hK := (show Keeps w M (Past M w2 w3) from Keeps.past hC.size)
 have h0 := h0.ext hC3
 have hb2 := hb2.chg hC3 (fun h => nomatch h)
 have hC := hC.ext hC3
 have hO := hO.past hC3
 have h0 := h0.sub (M' := (Past M w2 w3)) (fun g hg => .inl hg.1)
 refine pl_val (.tuple #[(.slice a3x0 n3x0 c3x0), (.bool r4.2)]) (y_move rfl) ?_
 refine pl_val (.slice a3x0 n3x0 c3x0) (y_extract rfl (by kernel_rfl)) ?_
 refine pl_val (.bool r4.2) (y_extract rfl (by kernel_rfl)) ?_
 refine pl_val (.slice a3x0 n3x0 c3x0) (y_assign rfl) ?_
 refine pl_val (.bool r4.2) (y_assign rfl) ?_
 refine c_nil ?_
 refine c_seq ?_
 refine c_seq (c_region ?_)
 refine pl_val (.bool r4.2) (y_move rfl) ?_
 refine pl_val (.bool (!r4.2)) (y_not rfl) ?_
 refine c_nil ?_
 rcases bif_some hs with ⟨hc6, hs⟩ | ⟨hc6, hs⟩
 ·skip
  refine c_condT (congrArg Value.bool hc6) ?_
  refine c_seq (c_region ?_)
  obtain ⟨w7, g7, ew7, eg7, hC7, hb7⟩ := new_block w3 [] 3
  refine pl_val (w' := w7) (.slice (some ⟨g7, 0, none⟩) 0 0) (y_bslice rfl (by rw [ew7, eg7]; kernel_rfl)) ?_
  have hb2 := hb2.chg hC7 (fun h => nomatch h)
  have hv3x0 := hv3x0.ext hC7
  have hC := hC.ext hC7
  have hO := hO.new1 hC7 eg7 hb7.lt
  have hv7 := os_of_box (r := (RT.int .i64)) (M := (Past M w2 w3)) (css := []) (fps := []) (xs := ([] : List Int)) hb7 trivial (Nat.zero_le _) (List.nodup_cons.2 ⟨(fun h => nomatch h), List.nodup_nil⟩)
  have hv7 : (RT.os 3 (RT.int .i64)).val (Past M w2 w3) w7 (.slice (some ⟨g7, 0, none⟩) 0 0) [] [g7] := hv7
  obtain ⟨w9, g9, ew9, eg9, hC9, hb9⟩ := new_block w7 [] 3
  refine pl_val (w' := w9) (.slice (some ⟨g9, 0, none⟩) 0 0) (y_bslice rfl (by rw [ew9, eg9]; kernel_rfl)) ?_
  have hb2 := hb2.chg hC9 (fun h => nomatch h)
  have hv3x0 := hv3x0.ext hC9
  have hv7 := hv7.ext hC9
  have hC := hC.ext hC9
  have hO := hO.new1 hC9 eg9 hb9.lt
  have hv9 := os_of_box (r := (RT.int .i64)) (M := (Past M w2 w3)) (css := []) (fps := []) (xs := ([] : List Int)) hb9 trivial (Nat.zero_le _) (List.nodup_cons.2 ⟨(fun h => nomatch h), List.nodup_nil⟩)
  have hv9 : (RT.os 3 (RT.int .i64)).val (Past M w2 w3) w9 (.slice (some ⟨g9, 0, none⟩) 0 0) [] [g9] := hv9
  refine pl_val (.slice (some ⟨g7, 0, none⟩) 0 0) (y_assign rfl) ?_
  refine pl_val (.slice (some ⟨g9, 0, none⟩) 0 0) (y_assign rfl) ?_
  refine pl_val (.bool false) (y_assign rfl) ?_
  refine c_nil ?_
  refine wp_ret ?_
  cases hs
  have hO := hO.fr1
  obtain ⟨M11, eM11, hs11, hk11, hO, hv11⟩ := frz_own (Frz.os Frz.int) hv7 hO
  have hv3x0 := hv3x0.sub (M' := M11) hs11
  have hv9 := hv9.sub (M' := M11) hs11
  have hK := hK.trans hk11
  obtain ⟨M12, eM12, hs12, hk12, hO, hv12⟩ := frz_own (Frz.os Frz.int) hv9 hO
  have hv3x0 := hv3x0.sub (M' := M12) hs12
  have hv11 := hv11.sub (M' := M12) hs12
  have hK := hK.trans hk12
  exact ⟨_, (some ⟨g7, 0, none⟩), 0, 0, (some ⟨g9, 0, none⟩), 0, 0, fr_ovl 37 ⟨rfl, rfl, rfl, trivial⟩, hC, (Keeps.out hK hv11), (Keeps.out hK hv12)⟩
 ·skip
  refine c_condF (congrArg Value.bool hc6) ?_
  refine wp_skip ?_
  refine c_seq (c_region ?_)
  refine pl_val (.slice a3x0 n3x0 c3x0) (y_move rfl) ?_
  obtain ⟨r14, hr14, hs⟩ := bind_some hs
  refine pl_call Bd60 rfl (c_spec_l16Apart (M := (Past M w2 w3)) r4.1 hv3x0 hO.fut hr14) ?_
  rintro _ w13 ⟨rfl, hC13⟩
  have hb2 := hb2.chg hC13 (fun h => nomatch h)
  have hv3x0 := hv3x0.ext hC13
  have hC := hC.ext hC13
  have hO := hO.ext hC13
  refine pl_val (.tuple #[(.int .i64 r14.1), (.int .i64 r14.2.1), (.bool r14.2.2)]) (y_move rfl) ?_
  refine pl_val (.int .i64 r14.1) (y_extract rfl (by kernel_rfl)) ?_
  refine pl_val (.int .i64 r14.2.1) (y_extract rfl (by kernel_rfl)) ?_
  refine pl_val (.bool r14.2.2) (y_extract rfl (by kernel_rfl)) ?_
  refine pl_val (.int .i64 r14.1) (y_assign rfl) ?_
  refine pl_val (.int .i64 r14.2.1) (y_assign rfl) ?_
  refine pl_val (.bool r14.2.2) (y_assign rfl) ?_
  refine c_nil ?_
  refine c_seq ?_
  refine c_seq (c_region ?_)
  refine pl_val (.bool r14.2.2) (y_move rfl) ?_
  refine pl_val (.bool (!r14.2.2)) (y_not rfl) ?_
  refine c_nil ?_
  rcases bif_some hs with ⟨hc15, hs⟩ | ⟨hc15, hs⟩
  ·skip
   refine c_condT (congrArg Value.bool hc15) ?_
   refine c_seq (c_region ?_)
   obtain ⟨w16, g16, ew16, eg16, hC16, hb16⟩ := new_block w13 [] 3
   refine pl_val (w' := w16) (.slice (some ⟨g16, 0, none⟩) 0 0) (y_bslice rfl (by rw [ew16, eg16]; kernel_rfl)) ?_
   have hb2 := hb2.chg hC16 (fun h => nomatch h)
   have hv3x0 := hv3x0.ext hC16
   have hC := hC.ext hC16
   have hO := hO.new1 hC16 eg16 hb16.lt
   have hv16 := os_of_box (r := (RT.int .i64)) (M := (Past M w2 w3)) (css := []) (fps := []) (xs := ([] : List Int)) hb16 trivial (Nat.zero_le _) (List.nodup_cons.2 ⟨(fun h => nomatch h), List.nodup_nil⟩)
   have hv16 : (RT.os 3 (RT.int .i64)).val (Past M w2 w3) w16 (.slice (some ⟨g16, 0, none⟩) 0 0) [] [g16] := hv16
   obtain ⟨w18, g18, ew18, eg18, hC18, hb18⟩ := new_block w16 [] 3
   refine pl_val (w' := w18) (.slice (some ⟨g18, 0, none⟩) 0 0) (y_bslice rfl (by rw [ew18, eg18]; kernel_rfl)) ?_
   have hb2 := hb2.chg hC18 (fun h => nomatch h)
   have hv3x0 := hv3x0.ext hC18
   have hv16 := hv16.ext hC18
   have hC := hC.ext hC18
   have hO := hO.new1 hC18 eg18 hb18.lt
   have hv18 := os_of_box (r := (RT.int .i64)) (M := (Past M w2 w3)) (css := []) (fps := []) (xs := ([] : List Int)) hb18 trivial (Nat.zero_le _) (List.nodup_cons.2 ⟨(fun h => nomatch h), List.nodup_nil⟩)
   have hv18 : (RT.os 3 (RT.int .i64)).val (Past M w2 w3) w18 (.slice (some ⟨g18, 0, none⟩) 0 0) [] [g18] := hv18
   refine pl_val (.slice (some ⟨g16, 0, none⟩) 0 0) (y_assign rfl) ?_
   refine pl_val (.slice (some ⟨g18, 0, none⟩) 0 0) (y_assign rfl) ?_
   refine pl_val (.bool false) (y_assign rfl) ?_
   refine c_nil ?_
   refine wp_ret ?_
   cases hs
   have hO := hO.fr1
   obtain ⟨M20, eM20, hs20, hk20, hO, hv20⟩ := frz_own (Frz.os Frz.int) hv16 hO
   have hv3x0 := hv3x0.sub (M' := M20) hs20
   have hv18 := hv18.sub (M' := M20) hs20
   have hK := hK.trans hk20
   obtain ⟨M21, eM21, hs21, hk21, hO, hv21⟩ := frz_own (Frz.os Frz.int) hv18 hO
   have hv3x0 := hv3x0.sub (M' := M21) hs21
   have hv20 := hv20.sub (M' := M21) hs21
   have hK := hK.trans hk21
   exact ⟨_, (some ⟨g16, 0, none⟩), 0, 0, (some ⟨g18, 0, none⟩), 0, 0, fr_ovl 37 ⟨rfl, rfl, rfl, trivial⟩, hC, (Keeps.out hK hv20), (Keeps.out hK hv21)⟩
  ·skip
   refine c_condF (congrArg Value.bool hc15) ?_
   refine wp_skip ?_
   refine c_seq ?_
   refine x_start [] Mx rfl ?_
   have hCw22 := Chg.drew w13
   generalize World.drew w13 = w22 at hCw22 ⊢
   have hb2 := hb2.chg hCw22 (fun h => nomatch h)
   have hv3x0 := hv3x0.ext hCw22
   have hC := hC.ext hCw22
   have hO := hO.ext hCw22
   have hS := Chg.refl [] w22
   refine x_p 0 (.slice a3x0 n3x0 c3x0) rfl (by kernel_rfl)  (fun _ => y_move rfl) (fun _ => hS) ?_
   refine x_p 1 (.int .i64 r14.1) rfl (by kernel_rfl)  (fun _ => y_move rfl) (fun _ => hS) ?_
   obtain ⟨x23, hx23, hs⟩ := bind_some hs
   obtain ⟨b24, o24, hp24, ha24⟩ := rs_idx Sl41 Sz22 hv3x0 hx23
   refine x_p 2 (.pointer (some ⟨b24, o24, none⟩)) rfl (by kernel_rfl)  (fun _ => hp24 _ _ _ _ _ _ _ _ _ rfl rfl) (fun _ => hS) ?_
   obtain ⟨v25, hl25, hv25⟩ := at_load Ag22 Sz22 (fun _ => rfl) ha24
   obtain ⟨a25, n25, c25, rfl⟩ := rs_sl hv25
   refine x_l 3 (.slice a25 n25 c25) rfl (by kernel_rfl)  (fun w' hw' => y_load rfl (hl25 w' hw')) hS ?_
   refine x_p 4 (.slice a3x0 n3x0 c3x0) rfl (by kernel_rfl)  (fun _ => y_move rfl) (fun _ => hS) ?_
   refine x_p 5 (.int .i64 r14.2.1) rfl (by kernel_rfl)  (fun _ => y_move rfl) (fun _ => hS) ?_
   obtain ⟨x27, hx27, hs⟩ := bind_some hs
   obtain ⟨b28, o28, hp28, ha28⟩ := rs_idx Sl41 Sz22 hv3x0 hx27
   refine x_p 6 (.pointer (some ⟨b28, o28, none⟩)) rfl (by kernel_rfl)  (fun _ => hp28 _ _ _ _ _ _ _ _ _ rfl rfl) (fun _ => hS) ?_
   obtain ⟨v29, hl29, hv29⟩ := at_load Ag22 Sz22 (fun _ => rfl) ha28
   obtain ⟨a29, n29, c29, rfl⟩ := rs_sl hv29
   refine x_l 7 (.slice a29 n29 c29) rfl (by kernel_rfl)  (fun w' hw' => y_load rfl (hl29 w' hw')) hS ?_
   refine x_p 8 (.slice a25 n25 c25) rfl (by kernel_rfl)  (fun _ => y_assign rfl) (fun _ => hS) ?_
   refine x_p 9 (.slice a29 n29 c29) rfl (by kernel_rfl)  (fun _ => y_assign rfl) (fun _ => hS) ?_
   refine x_p 10 (.bool true) rfl (by kernel_rfl)  (fun _ => y_assign rfl) (fun _ => hS) ?_
   refine x_end (by kernel_rfl) ?_
   clear hS
   refine wp_ret ?_
   cases hs
   exact ⟨_, a25, n25, c25, a29, n29, c29, fr_ovl 37 ⟨rfl, rfl, rfl, trivial⟩, hC, (Keeps.out hK hv25), (Keeps.out hK hv29)⟩

def k_impl_power (M : Nat → Prop) (w0 : World) (r : Int) (a : Act) (w : World) : Prop :=
  ∃ (σ : Nat → Value) , a = fr 14 (ovl σ [(4, (.int .i64 r))]) ∧ Chg [] w0 w
def s_impl_power (n : Int) (k : Int) : Option (Int) :=
  (iter (S := Int × Int) (R := Int) (fun s2 =>
  (bif (decide (0 < s2.1)) then some (.nx (w64 (s2.1 - 1), w64 (s2.2 * n))) else some (.br (s2.1, s2.2)))) FU (k, 1)).bind fun o6 => after o6 (fun r_ => some r_) (fun s2 =>
  some s2.2)
set_option maxHeartbeats 4000000 in
theorem c_impl_power {M : Nat → Prop} {w : World}  (n : Int) (k : Int)  (hM : ∀ g, w.heap.size ≤ g → M g) {r : Int} (hs : s_impl_power n k = some r) :
    Gives Try.prog 133 [(.int .i64 n), (.int .i64 k)] w (fun v w' => v = (.int .i64 r) ∧ Chg [] w w') := by
 refine calls_fr Try.func133 rfl Try.ntmps133 (Nat.le_of_ble_eq_true rfl) ?_
 have hO := Own.start (N := Nw w []) hM Nw.fut
 have hC := Chg.refl [] w
 unfold s_impl_power at hs
 refine wp_mono (Q := KPost (k_impl_power M w r)) ?_ (fun e a w1 h => ?_)
 rotate_left
 ·cases e
  case ret =>
   obtain ⟨σ, rfl, hrest⟩ := h
   exact ret1x Try.results133 (res_tmp rfl) ⟨rfl, hrest⟩
  all_goals exact (h : False).elim
 refine c_seq (c_region ?_)
 refine pl_val (.int .i64 0) (y_assign rfl) ?_
 refine c_nil ?_
 refine c_seq (c_region ?_)
 refine pl_val (.int .i64 1) (y_assign rfl) ?_
 refine c_nil ?_
 refine c_seq ?_
 obtain ⟨o6, hl7, hs⟩ := bind_some hs
 refine wp_block ?_
 refine wp_iter (id := 0) (I := fun s2 a w3 => ∃ (σ : Nat → Value), a = fr 14 (ovl σ [(0, (.int .i64 n)), (1, (.int .i64 s2.1)), (5, (.int .i64 s2.2))]) ∧ Chg [] w w3 ∧ Own (Nw w []) M w3 ([])) (J := fun s2 a w3 => ∃ (σ : Nat → Value), a = fr 14 (ovl σ [(5, (.int .i64 s2.2))]) ∧ Chg [] w w3 ∧ Own (Nw w []) M w3 ([])) (K := (k_impl_power M w)) ?_ FU (k, 1) o6 _ _ ?_ hl7 ?_
 ·rintro s2 o6 a w3 ⟨σ, rfl, hC, hO⟩ hs
  refine c_seq ?_
  refine c_seq (c_region ?_)
  refine pl_val (.int .i64 s2.1) (y_move rfl) ?_
  refine pl_val (.bool (decide (0 < s2.1))) (y_gtr rfl rfl) ?_
  refine c_nil ?_
  rcases bif_some hs with ⟨hc8, hs⟩ | ⟨hc8, hs⟩
  ·skip
   refine c_condT (congrArg Value.bool hc8) ?_
   refine wp_skip ?_
   refine c_seq ?_
   refine wp_block ?_
   refine c_region ?_
   refine pl_val (.int .i64 s2.2) (y_move rfl) ?_
   refine pl_val (.int .i64 n) (y_move rfl) ?_
   refine pl_val (.int .i64 (w64 (s2.2 * n))) (y_mul rfl rfl) ?_
   refine pl_val (.int .i64 (w64 (s2.2 * n))) (y_assign rfl) ?_
   refine c_nil ?_
   refine c_region ?_
   refine pl_val (.int .i64 s2.1) (y_move rfl) ?_
   refine pl_val (.int .i64 (w64 (s2.1 - 1))) (y_sub rfl rfl) ?_
   refine pl_val (.int .i64 (w64 (s2.1 - 1))) (y_assign rfl) ?_
   refine c_nil ?_
   cases hs
   exact ⟨_, fr_ovl 14 ⟨rfl, rfl, rfl, trivial⟩, hC, hO⟩
  ·skip
   refine c_condF (congrArg Value.bool hc8) ?_
   refine wp_exit ?_
   cases hs
   exact ⟨rfl, _, fr_ovl 14 ⟨rfl, trivial⟩, hC, hO⟩
 ·skip
  exact ⟨_, fr_ovl 14 ⟨rfl, rfl, rfl, trivial⟩, hC, hO⟩
 ·cases o6 with
  | nx _ => exact True.intro
  | rt r_ =>
   have hs := after_rt hs
   intro a1 w1 hK
   cases hs
   exact hK
  | br s2 =>
   have hs := after_br hs
   rintro a1 w3 ⟨σ, rfl, hC, hO⟩
   refine c_seq (c_region ?_)
   refine pl_val (.int .i64 s2.2) (y_move rfl) ?_
   refine pl_val (.int .i64 s2.2) (y_assign rfl) ?_
   refine c_nil ?_
   refine wp_ret ?_
   cases hs
   exact ⟨_, fr_ovl 14 ⟨rfl, trivial⟩, hC⟩

def k_impl_inSize (M : Nat → Prop) (w0 : World) (r : Bool) (a : Act) (w : World) : Prop :=
  ∃ (σ : Nat → Value) , a = fr 21 (ovl σ [(4, (.bool r))]) ∧ Chg [] w0 w
def s_impl_inSize (list : List Int) (n : Int) : Option (Bool) :=
  (forR (S := Unit) (R := Bool) (fun _ x8 s5 =>
  (bif (decide (x8 < 0)) then some (.rt false) else (bif (decide (n ≤ x8)) then some (.rt false) else some (.nx ())))) 0 list ()).bind fun o9 => after o9 (fun r_ => some r_) (fun s5 =>
  some true)
set_option maxHeartbeats 4000000 in
theorem c_impl_inSize {M : Nat → Prop} {w : World} {pa0 : Option Addr} {pn0 pc0 : Nat} (list : List Int) (n : Int) (h0 : (RT.rs (RT.int .i64)).val M w (.slice pa0 pn0 pc0) list ([])) (hM : ∀ g, w.heap.size ≤ g → M g) {r : Bool} (hs : s_impl_inSize list n = some r) :
    Gives Try.prog 134 [(.slice pa0 pn0 pc0), (.int .i64 n)] w (fun v w' => v = (.bool r) ∧ Chg [] w w') := by
 refine calls_fr Try.func134 rfl Try.ntmps134 (Nat.le_of_ble_eq_true rfl) ?_
 have hO := Own.start (N := Nw w []) hM Nw.fut
 have hC := Chg.refl [] w
 unfold s_impl_inSize at hs
 refine wp_mono (Q := KPost (k_impl_inSize M w r)) ?_ (fun e a w1 h => ?_)
 rotate_left
 ·cases e
  case ret =>
   obtain ⟨σ, rfl, hrest⟩ := h
   exact ret1x Try.results134 (res_tmp rfl) ⟨rfl, hrest⟩
  all_goals exact (h : False).elim
 refine c_seq (c_region ?_)
 refine pl_val (.bool false) (y_assign rfl) ?_
 refine c_nil ?_
 refine c_seq ?_
 refine c_seq (c_region ?_)
 refine pl_val (.slice pa0 pn0 pc0) (y_move rfl) ?_
 refine pl_val (.int .i64 (list.length : Int)) (y_len' Sl22 (rs_len h0) rfl) ?_
 refine pl_val (.int .i64 0) (y_move rfl) ?_
 refine c_nil ?_
 obtain ⟨o9, hl10, hs⟩ := bind_some hs
 refine wp_block ?_
 refine wp_forR (id := 0) (I := fun i_ xs_ s5 a w6 => ∃ k7 : Nat, i_ = (k7 : Int) ∧ List.drop k7 list = xs_ ∧ (∃ (σ : Nat → Value), a = fr 21 (ovl σ [(1, (.int .i64 n)), (7, (.slice pa0 pn0 pc0)), (8, (.int .i64 (list.length : Int))), (9, (.int .i64 (k7 : Int)))]) ∧ Chg [] w w6 ∧ Own (Nw w []) M w6 ([]) ∧ (RT.rs (RT.int .i64)).val M w6 (.slice pa0 pn0 pc0) list ([]))) (J := fun s5 a w6 => ∃ (σ : Nat → Value), a = fr 21 (ovl σ []) ∧ Chg [] w w6 ∧ Own (Nw w []) M w6 ([]) ∧ (RT.rs (RT.int .i64)).val M w6 (.slice pa0 pn0 pc0) list ([])) (K := (k_impl_inSize M w)) ?_ ?_ list 0 () o9 _ _ ?_ hl10 ?_
 ·rintro _ s5 a w6 ⟨k7, rfl, hd, σ, rfl, hC, hO, h0⟩
  have hlt := drop_nil_ge hd
  refine c_seq (c_region ?_)
  refine pl_val (.bool (decide ((k7 : Int) < (list.length : Int)))) (y_lss rfl rfl) ?_
  refine c_nil ?_
  refine c_seq ?_
  refine c_condF (congrArg Value.bool (decide_eq_false hlt)) ?_
  refine wp_exit ?_
  exact ⟨rfl, _, fr_ovl 21 trivial, hC, hO, h0⟩
 ·rintro _ x8 xs_ s5 o9 a w6 ⟨k7, rfl, hd, σ, rfl, hC, hO, h0⟩ hs
  have hlt := drop_cons_lt hd
  have hxk7 := drop_cons_idx hd
  refine c_seq (c_region ?_)
  refine pl_val (.bool (decide ((k7 : Int) < (list.length : Int)))) (y_lss rfl rfl) ?_
  refine c_nil ?_
  refine c_seq ?_
  refine c_condT (congrArg Value.bool (decide_eq_true hlt)) ?_
  refine wp_skip ?_
  refine c_seq ?_
  refine wp_block ?_
  refine c_seq (c_region ?_)
  obtain ⟨b11, o11, hp11, ha11⟩ := rs_idx Sl22 Sz3 h0 hxk7
  refine pl_val (.pointer (some ⟨b11, o11, none⟩)) (hp11 _ _ _ _ _ _ _ _ _ rfl rfl) ?_
  refine pl_val (.int .i64 x8) (y_load rfl ((at_load_int Ag3 Sz3 ha11) _ (Chg.refl _ _))) ?_
  refine pl_val (.int .i64 x8) (y_assign rfl) ?_
  refine c_nil ?_
  refine c_seq (c_region ?_)
  refine pl_val (.int .i64 x8) (y_move rfl) ?_
  refine pl_val (.bool (decide (x8 < 0))) (y_lss rfl rfl) ?_
  refine pl_val (.bool (decide (x8 < 0))) (y_move rfl) ?_
  rcases bif_some hs with ⟨hc12, hs⟩ | ⟨hc12, hs⟩
  ·skip
   refine pl_not (tg := 15) (by kernel_rfl) (congrArg Value.bool hc12) ?_
   refine pl_not (tg := 15) (by kernel_rfl) (congrArg Value.bool hc12) ?_
   refine pl_not (tg := 15) (by kernel_rfl) (congrArg Value.bool hc12) ?_
   refine pl_val (.bool true) (y_pick_t (congrArg Value.bool hc12) rfl) ?_
   refine c_nil ?_
   refine c_condT (by rfl) ?_
   refine c_seq (c_region ?_)
   refine pl_val (.bool false) (y_assign rfl) ?_
   refine c_nil ?_
   refine wp_ret ?_
   cases hs
   exact ⟨_, fr_ovl 21 ⟨rfl, trivial⟩, hC⟩
  ·skip
   refine pl_yes (.int .i64 x8) (tg := 15) (by kernel_rfl) (congrArg Value.bool hc12) (y_move rfl) ?_
   refine pl_yes (.int .i64 n) (tg := 15) (by kernel_rfl) (congrArg Value.bool hc12) (y_move rfl) ?_
   refine pl_yes (.bool (decide (n ≤ x8))) (tg := 15) (by kernel_rfl) (congrArg Value.bool hc12) (y_geq rfl rfl) ?_
   refine pl_val (.bool (decide (n ≤ x8))) (y_pick_f (congrArg Value.bool hc12) rfl) ?_
   refine c_nil ?_
   rcases bif_some hs with ⟨hc13, hs⟩ | ⟨hc13, hs⟩
   ·skip
    refine c_condT (congrArg Value.bool hc13) ?_
    refine c_seq (c_region ?_)
    refine pl_val (.bool false) (y_assign rfl) ?_
    refine c_nil ?_
    refine wp_ret ?_
    cases hs
    exact ⟨_, fr_ovl 21 ⟨rfl, trivial⟩, hC⟩
   ·skip
    refine c_condF (congrArg Value.bool hc13) ?_
    refine wp_skip ?_
    refine c_region ?_
    refine pl_val (.int .i64 (w64 ((k7 : Int) + 1))) (y_add rfl rfl) ?_
    refine pl_val (.int .i64 (w64 ((k7 : Int) + 1))) (y_move rfl) ?_
    refine c_nil ?_
    cases hs
    exact ⟨_, rfl, drop_cons_next hd, _, fr_ovl 21 ⟨rfl, rfl, rfl, congrArg (Value.int .i64) (w64_succ hlt (Int.natCast_nonneg _) (rs_max h0)), trivial⟩, hC, hO, h0⟩
 ·skip
  exact ⟨0, rfl, rfl, _, fr_ovl 21 ⟨rfl, rfl, rfl, rfl, trivial⟩, hC, hO, h0⟩
 ·cases o9 with
  | nx _ => exact True.intro
  | rt r_ =>
   have hs := after_rt hs
   intro a1 w1 hK
   cases hs
   exact hK
  | br s5 =>
   have hs := after_br hs
   rintro a1 w6 ⟨σ, rfl, hC, hO, h0⟩
   refine c_seq (c_region ?_)
   refine pl_val (.bool true) (y_assign rfl) ?_
   refine c_nil ?_
   refine wp_ret ?_
   cases hs
   exact ⟨_, fr_ovl 21 ⟨rfl, trivial⟩, hC⟩

theorem Bd133 : Bodied Try.prog 133 := bodied Try.func133 (by kernel_rfl) rfl

theorem Bd134 : Bodied Try.prog 134 := bodied Try.func134 (by kernel_rfl) rfl

def k_impl_isOp (M : Nat → Prop) (w0 : World) (r : Bool) (a : Act) (w : World) : Prop :=
  ∃ (σ : Nat → Value) , a = fr 29 (ovl σ [(4, (.bool r))]) ∧ Chg [] w0 w
def s_impl_isOp (f : Int × (List Int)) (n : Int) : Option (Bool) :=
  (bif (decide (0 ≤ f.1)) then (bif (decide (f.1 ≤ 3)) then (s_impl_power n f.1).bind fun r7 =>
  (bif ((f.2.length : Int) == r7) then (s_impl_inSize f.2 n).bind fun r10 =>
  some r10 else some false) else some false) else some false)
set_option maxHeartbeats 4000000 in
theorem c_impl_isOp {M : Nat → Prop} {w : World} {pa0 : Option Addr} {pn0 pc0 : Nat} (f : Int × (List Int)) (n : Int) (h0 : (RT.rs (RT.int .i64)).val M w (.slice pa0 pn0 pc0) f.2 ([])) (hM : ∀ g, w.heap.size ≤ g → M g) {r : Bool} (hs : s_impl_isOp f n = some r) :
    Gives Try.prog 124 [(.agg #[(.int .i64 f.1), (.slice pa0 pn0 pc0)]), (.int .i64 n)] w (fun v w' => v = (.bool r) ∧ Chg [] w w') := by
 refine calls_fr Try.func124 rfl Try.ntmps124 (Nat.le_of_ble_eq_true rfl) ?_
 have hO := Own.start (N := Nw w []) hM Nw.fut
 have hC := Chg.refl [] w
 unfold s_impl_isOp at hs
 refine wp_mono (Q := KPost (k_impl_isOp M w r)) ?_ (fun e a w1 h => ?_)
 rotate_left
 ·cases e
  case ret =>
   obtain ⟨σ, rfl, hrest⟩ := h
   exact ret1x Try.results124 (res_tmp rfl) ⟨rfl, hrest⟩
  all_goals exact (h : False).elim
 refine c_seq (c_region ?_)
 obtain ⟨w2, g2, ew2, eg2, hC2, hb2⟩ := new_block w [(.int .i64 f.1), (.slice pa0 pn0 pc0)] 81
 refine pl_val (w' := w2) (.pointer (some ⟨g2, 0, none⟩)) (y_box rfl (by rw [ew2, eg2]; kernel_rfl)) ?_
 have h0 := h0.ext hC2
 have hC := hC.ext hC2
 have hO := hO.new1 hC2 eg2 hb2.lt
 refine pl_val (.bool false) (y_assign rfl) ?_
 refine c_nil ?_
 refine c_seq ?_
 refine x_start [] Mx rfl ?_
 have hCw3 := Chg.drew w2
 generalize World.drew w2 = w3 at hCw3 ⊢
 have h0 := h0.ext hCw3
 have hb2 := hb2.chg hCw3 (fun h => nomatch h)
 have hC := hC.ext hCw3
 have hO := hO.ext hCw3
 have hS := Chg.refl [] w3
 refine x_p 0 (.pointer (some ⟨g2, 0, none⟩)) rfl (by kernel_rfl)  (fun _ => y_faddr rfl Fa81x0) (fun _ => hS) ?_
 refine x_l 1 (.int .i64 f.1) rfl (by kernel_rfl)  (fun w' hw' => y_load rfl ((box_load Ag3 Sz3 hb2 [] [(.int .i64 f.1)] [(.slice pa0 pn0 pc0)] rfl rfl (fun _ => rfl)) w' hw')) hS ?_
 refine x_p 2 (.bool (decide (0 ≤ f.1))) rfl (by kernel_rfl)  (fun _ => y_geq rfl rfl) (fun _ => hS) ?_
 refine x_p 3 (.bool (decide (0 ≤ f.1))) rfl (by kernel_rfl)  (fun _ => y_move rfl) (fun _ => hS) ?_
 rcases bif_some hs with ⟨hc4, hs⟩ | ⟨hc4, hs⟩
 ·skip
  refine x_py 4 (.pointer (some ⟨g2, 0, none⟩)) rfl (by kernel_rfl) (tg := 8) (by kernel_rfl) (congrArg Value.bool hc4) (fun _ => y_faddr rfl Fa81x0) (fun _ => hS) ?_
  refine x_ly 5 (.int .i64 f.1) rfl (by kernel_rfl) (tg := 8) (by kernel_rfl) (congrArg Value.bool hc4) (fun w' hw' => y_load rfl ((box_load Ag3 Sz3 hb2 [] [(.int .i64 f.1)] [(.slice pa0 pn0 pc0)] rfl rfl (fun _ => rfl)) w' hw')) hS ?_
  refine x_py 6 (.bool (decide (f.1 ≤ 3))) rfl (by kernel_rfl) (tg := 8) (by kernel_rfl) (congrArg Value.bool hc4) (fun _ => y_leq rfl rfl) (fun _ => hS) ?_
  refine x_p 7 (.bool (decide (f.1 ≤ 3))) rfl (by kernel_rfl)  (fun _ => y_pick_t (congrArg Value.bool hc4) rfl) (fun _ => hS) ?_
  refine x_p 8 (.bool (decide (f.1 ≤ 3))) rfl (by kernel_rfl)  (fun _ => y_move rfl) (fun _ => hS) ?_
  rcases bif_some hs with ⟨hc5, hs⟩ | ⟨hc5, hs⟩
  ·skip
   refine x_py 9 (.pointer (some ⟨g2, 1, none⟩)) rfl (by kernel_rfl) (tg := 13) (by kernel_rfl) (congrArg Value.bool hc5) (fun _ => y_faddr rfl Fa81x1) (fun _ => hS) ?_
   refine x_ly 10 (.slice pa0 pn0 pc0) rfl (by kernel_rfl) (tg := 13) (by kernel_rfl) (congrArg Value.bool hc5) (fun w' hw' => y_load rfl ((box_load Ag22 Sz22 hb2 [(.int .i64 f.1)] [(.slice pa0 pn0 pc0)] [] rfl rfl (fun _ => rfl)) w' hw')) hS ?_
   refine x_py 11 (.int .i64 (f.2.length : Int)) rfl (by kernel_rfl) (tg := 13) (by kernel_rfl) (congrArg Value.bool hc5) (fun _ => y_len' Sl22 (rs_len h0) rfl) (fun _ => hS) ?_
   refine x_py 12 (.int .i64 n) rfl (by kernel_rfl) (tg := 13) (by kernel_rfl) (congrArg Value.bool hc5) (fun _ => y_move rfl) (fun _ => hS) ?_
   refine x_py 13 (.pointer (some ⟨g2, 0, none⟩)) rfl (by kernel_rfl) (tg := 13) (by kernel_rfl) (congrArg Value.bool hc5) (fun _ => y_faddr rfl Fa81x0) (fun _ => hS) ?_
   refine x_ly 14 (.int .i64 f.1) rfl (by kernel_rfl) (tg := 13) (by kernel_rfl) (congrArg Value.bool hc5) (fun w' hw' => y_load rfl ((box_load Ag3 Sz3 hb2 [] [(.int .i64 f.1)] [(.slice pa0 pn0 pc0)] rfl rfl (fun _ => rfl)) w' hw')) hS ?_
   refine x_one (i := 15) (by kernel_rfl) ?_
   obtain ⟨r7, hr7, hs⟩ := bind_some hs
   refine xk_cally (b := false) rfl (tg := 13) (by kernel_rfl) (congrArg Value.bool hc5) Bd133 rfl (c_impl_power (M := M) n f.1  hO.fut hr7) rfl (by rintro _ _ _ ⟨rfl, hC6⟩; exact hS.ext hC6) ?_
   rintro _ w6 ⟨rfl, hC6⟩
   have h0 := h0.ext hC6
   have hb2 := hb2.chg hC6 (fun h => nomatch h)
   have hC := hC.ext hC6
   have hO := hO.ext hC6
   have hS := hS.ext hC6
   refine x_py 16 (.bool ((f.2.length : Int) == r7)) rfl (by kernel_rfl) (tg := 13) (by kernel_rfl) (congrArg Value.bool hc5) (fun _ => y_eql rfl rfl) (fun _ => hS) ?_
   refine x_p 17 (.bool ((f.2.length : Int) == r7)) rfl (by kernel_rfl)  (fun _ => y_pick_t (congrArg Value.bool hc5) rfl) (fun _ => hS) ?_
   refine x_p 18 (.bool ((f.2.length : Int) == r7)) rfl (by kernel_rfl)  (fun _ => y_move rfl) (fun _ => hS) ?_
   rcases bif_some hs with ⟨hc8, hs⟩ | ⟨hc8, hs⟩
   ·skip
    refine x_py 19 (.pointer (some ⟨g2, 1, none⟩)) rfl (by kernel_rfl) (tg := 23) (by kernel_rfl) (congrArg Value.bool hc8) (fun _ => y_faddr rfl Fa81x1) (fun _ => hS) ?_
    refine x_py 21 (.int .i64 n) rfl (by kernel_rfl) (tg := 23) (by kernel_rfl) (congrArg Value.bool hc8) (fun _ => y_move rfl) (fun _ => hS) ?_
    refine x_one (i := 20) (by kernel_rfl) ?_
    refine xk_valy (b := false) (.slice pa0 pn0 pc0) rfl (tg := 23) (by kernel_rfl) (congrArg Value.bool hc8) (y_load rfl ((box_load Ag22 Sz22 hb2 [(.int .i64 f.1)] [(.slice pa0 pn0 pc0)] [] rfl rfl (fun _ => rfl)) _ (Chg.refl _ _))) rfl (fun _ => hS) ?_
    refine x_one (i := 22) (by kernel_rfl) ?_
    obtain ⟨r10, hr10, hs⟩ := bind_some hs
    refine xk_cally (b := false) rfl (tg := 23) (by kernel_rfl) (congrArg Value.bool hc8) Bd134 rfl (c_impl_inSize (M := M) f.2 n h0 hO.fut hr10) rfl (by rintro _ _ _ ⟨rfl, hC9⟩; exact hS.ext hC9) ?_
    rintro _ w9 ⟨rfl, hC9⟩
    have h0 := h0.ext hC9
    have hb2 := hb2.chg hC9 (fun h => nomatch h)
    have hC := hC.ext hC9
    have hO := hO.ext hC9
    have hS := hS.ext hC9
    refine x_p 23 (.bool r10) rfl (by kernel_rfl)  (fun _ => y_pick_t (congrArg Value.bool hc8) rfl) (fun _ => hS) ?_
    refine x_p 24 (.bool r10) rfl (by kernel_rfl)  (fun _ => y_assign rfl) (fun _ => hS) ?_
    refine x_end (by kernel_rfl) ?_
    clear hS
    refine wp_ret ?_
    cases hs
    exact ⟨_, fr_ovl 29 ⟨rfl, trivial⟩, hC⟩
   ·skip
    refine x_pn 19 rfl (by kernel_rfl) (tg := 23) (by kernel_rfl) (congrArg Value.bool hc8) (fun _ => hS) ?_
    refine x_pn 20 rfl (by kernel_rfl) (tg := 23) (by kernel_rfl) (congrArg Value.bool hc8) (fun _ => hS) ?_
    refine x_pn 21 rfl (by kernel_rfl) (tg := 23) (by kernel_rfl) (congrArg Value.bool hc8) (fun _ => hS) ?_
    refine x_pn 22 rfl (by kernel_rfl) (tg := 23) (by kernel_rfl) (congrArg Value.bool hc8) (fun _ => hS) ?_
    refine x_p 23 (.bool false) rfl (by kernel_rfl)  (fun _ => y_pick_f (congrArg Value.bool hc8) rfl) (fun _ => hS) ?_
    refine x_p 24 (.bool false) rfl (by kernel_rfl)  (fun _ => y_assign rfl) (fun _ => hS) ?_
    refine x_end (by kernel_rfl) ?_
    clear hS
    refine wp_ret ?_
    cases hs
    exact ⟨_, fr_ovl 29 ⟨rfl, trivial⟩, hC⟩
  ·skip
   refine x_pn 9 rfl (by kernel_rfl) (tg := 13) (by kernel_rfl) (congrArg Value.bool hc5) (fun _ => hS) ?_
   refine x_pn 10 rfl (by kernel_rfl) (tg := 13) (by kernel_rfl) (congrArg Value.bool hc5) (fun _ => hS) ?_
   refine x_pn 11 rfl (by kernel_rfl) (tg := 13) (by kernel_rfl) (congrArg Value.bool hc5) (fun _ => hS) ?_
   refine x_pn 12 rfl (by kernel_rfl) (tg := 13) (by kernel_rfl) (congrArg Value.bool hc5) (fun _ => hS) ?_
   refine x_pn 13 rfl (by kernel_rfl) (tg := 13) (by kernel_rfl) (congrArg Value.bool hc5) (fun _ => hS) ?_
   refine x_pn 14 rfl (by kernel_rfl) (tg := 13) (by kernel_rfl) (congrArg Value.bool hc5) (fun _ => hS) ?_
   refine x_pn 15 rfl (by kernel_rfl) (tg := 13) (by kernel_rfl) (congrArg Value.bool hc5) (fun _ => hS) ?_
   refine x_pn 16 rfl (by kernel_rfl) (tg := 13) (by kernel_rfl) (congrArg Value.bool hc5) (fun _ => hS) ?_
   refine x_p 17 (.bool false) rfl (by kernel_rfl)  (fun _ => y_pick_f (congrArg Value.bool hc5) rfl) (fun _ => hS) ?_
   refine x_p 18 (.bool false) rfl (by kernel_rfl)  (fun _ => y_move rfl) (fun _ => hS) ?_
   refine x_pn 19 rfl (by kernel_rfl) (tg := 23) (by kernel_rfl) (by rfl) (fun _ => hS) ?_
   refine x_pn 20 rfl (by kernel_rfl) (tg := 23) (by kernel_rfl) (by rfl) (fun _ => hS) ?_
   refine x_pn 21 rfl (by kernel_rfl) (tg := 23) (by kernel_rfl) (by rfl) (fun _ => hS) ?_
   refine x_pn 22 rfl (by kernel_rfl) (tg := 23) (by kernel_rfl) (by rfl) (fun _ => hS) ?_
   refine x_p 23 (.bool false) rfl (by kernel_rfl)  (fun _ => y_pick_f (by rfl) rfl) (fun _ => hS) ?_
   refine x_p 24 (.bool false) rfl (by kernel_rfl)  (fun _ => y_assign rfl) (fun _ => hS) ?_
   refine x_end (by kernel_rfl) ?_
   clear hS
   refine wp_ret ?_
   cases hs
   exact ⟨_, fr_ovl 29 ⟨rfl, trivial⟩, hC⟩
 ·skip
  refine x_pn 4 rfl (by kernel_rfl) (tg := 8) (by kernel_rfl) (congrArg Value.bool hc4) (fun _ => hS) ?_
  refine x_pn 5 rfl (by kernel_rfl) (tg := 8) (by kernel_rfl) (congrArg Value.bool hc4) (fun _ => hS) ?_
  refine x_pn 6 rfl (by kernel_rfl) (tg := 8) (by kernel_rfl) (congrArg Value.bool hc4) (fun _ => hS) ?_
  refine x_p 7 (.bool false) rfl (by kernel_rfl)  (fun _ => y_pick_f (congrArg Value.bool hc4) rfl) (fun _ => hS) ?_
  refine x_p 8 (.bool false) rfl (by kernel_rfl)  (fun _ => y_move rfl) (fun _ => hS) ?_
  refine x_pn 9 rfl (by kernel_rfl) (tg := 13) (by kernel_rfl) (by rfl) (fun _ => hS) ?_
  refine x_pn 10 rfl (by kernel_rfl) (tg := 13) (by kernel_rfl) (by rfl) (fun _ => hS) ?_
  refine x_pn 11 rfl (by kernel_rfl) (tg := 13) (by kernel_rfl) (by rfl) (fun _ => hS) ?_
  refine x_pn 12 rfl (by kernel_rfl) (tg := 13) (by kernel_rfl) (by rfl) (fun _ => hS) ?_
  refine x_pn 13 rfl (by kernel_rfl) (tg := 13) (by kernel_rfl) (by rfl) (fun _ => hS) ?_
  refine x_pn 14 rfl (by kernel_rfl) (tg := 13) (by kernel_rfl) (by rfl) (fun _ => hS) ?_
  refine x_pn 15 rfl (by kernel_rfl) (tg := 13) (by kernel_rfl) (by rfl) (fun _ => hS) ?_
  refine x_pn 16 rfl (by kernel_rfl) (tg := 13) (by kernel_rfl) (by rfl) (fun _ => hS) ?_
  refine x_p 17 (.bool false) rfl (by kernel_rfl)  (fun _ => y_pick_f (by rfl) rfl) (fun _ => hS) ?_
  refine x_p 18 (.bool false) rfl (by kernel_rfl)  (fun _ => y_move rfl) (fun _ => hS) ?_
  refine x_pn 19 rfl (by kernel_rfl) (tg := 23) (by kernel_rfl) (by rfl) (fun _ => hS) ?_
  refine x_pn 20 rfl (by kernel_rfl) (tg := 23) (by kernel_rfl) (by rfl) (fun _ => hS) ?_
  refine x_pn 21 rfl (by kernel_rfl) (tg := 23) (by kernel_rfl) (by rfl) (fun _ => hS) ?_
  refine x_pn 22 rfl (by kernel_rfl) (tg := 23) (by kernel_rfl) (by rfl) (fun _ => hS) ?_
  refine x_p 23 (.bool false) rfl (by kernel_rfl)  (fun _ => y_pick_f (by rfl) rfl) (fun _ => hS) ?_
  refine x_p 24 (.bool false) rfl (by kernel_rfl)  (fun _ => y_assign rfl) (fun _ => hS) ?_
  refine x_end (by kernel_rfl) ?_
  clear hS
  refine wp_ret ?_
  cases hs
  exact ⟨_, fr_ovl 29 ⟨rfl, trivial⟩, hC⟩

theorem Bd124 : Bodied Try.prog 124 := bodied Try.func124 (by kernel_rfl) rfl

def k_impl_IsAlgebra (M : Nat → Prop) (w0 : World) (r : Bool) (a : Act) (w : World) : Prop :=
  ∃ (σ : Nat → Value) , a = fr 32 (ovl σ [(2, (.bool r))]) ∧ Chg [] w0 w
def s_impl_IsAlgebra (a_ : Int × (List (Int × (List Int)))) : Option (Bool) :=
  (bif (((decide (a_.1 < 1)) || (decide (8 < a_.1))) || (decide (4 < (a_.2.length : Int)))) then some false else (forR (S := Unit) (R := Bool) (fun _ x21 s18 =>
  (s_impl_isOp (x21.1, x21.2) a_.1).bind fun r30 =>
  (bif (!r30) then some (.rt false) else some (.nx ()))) 0 a_.2 ()).bind fun o22 => after o22 (fun r_ => some r_) (fun s18 =>
  some true))
set_option maxHeartbeats 4000000 in
theorem c_impl_IsAlgebra {M : Nat → Prop} {w : World} {pa0 : Option Addr} {pn0 pc0 : Nat} (a_ : Int × (List (Int × (List Int)))) (h0 : (RT.rs (RT.pr (RT.int .i64) (RT.rs (RT.int .i64)))).val M w (.slice pa0 pn0 pc0) a_.2 ([])) (hM : ∀ g, w.heap.size ≤ g → M g) {r : Bool} (hs : s_impl_IsAlgebra a_ = some r) :
    Gives Try.prog 109 [(.agg #[(.int .i64 a_.1), (.slice pa0 pn0 pc0)])] w (fun v w' => v = (.bool r) ∧ Chg [] w w') := by
 refine calls_fr Try.func109 rfl Try.ntmps109 (Nat.le_of_ble_eq_true rfl) ?_
 have hO := Own.start (N := Nw w []) hM Nw.fut
 have hC := Chg.refl [] w
 unfold s_impl_IsAlgebra at hs
 refine wp_mono (Q := KPost (k_impl_IsAlgebra M w r)) ?_ (fun e a w1 h => ?_)
 rotate_left
 ·cases e
  case ret =>
   obtain ⟨σ, rfl, hrest⟩ := h
   exact ret1x Try.results109 (res_tmp rfl) ⟨rfl, hrest⟩
  all_goals exact (h : False).elim
 refine c_seq (c_region ?_)
 obtain ⟨w2, g2, ew2, eg2, hC2, hb2⟩ := new_block w [(.int .i64 a_.1), (.slice pa0 pn0 pc0)] 35
 refine pl_val (w' := w2) (.pointer (some ⟨g2, 0, none⟩)) (y_box rfl (by rw [ew2, eg2]; kernel_rfl)) ?_
 have h0 := h0.ext hC2
 have hC := hC.ext hC2
 have hO := hO.new1 hC2 eg2 hb2.lt
 refine pl_val (.bool false) (y_assign rfl) ?_
 refine c_nil ?_
 refine c_seq ?_
 refine c_seq ?_
 refine c_mid (I := fun a w4 => ∃ (σ : Nat → Value), a = fr 32 (ovl σ [(1, (.pointer (some ⟨g2, 0, none⟩))), (2, (.bool false)), (18, (.bool (((decide (a_.1 < 1)) || (decide (8 < a_.1))) || (decide (4 < (a_.2.length : Int))))))]) ∧ Chg [] w2 w4) ?_ ?_
 ·have hMid := Chg.refl [] w2
  refine c_region ?_
  refine pl_val (.pointer (some ⟨g2, 0, none⟩)) (y_faddr rfl Fa35x0) ?_
  refine pl_val (.int .i64 a_.1) (y_load rfl ((box_load Ag3 Sz3 hb2 [] [(.int .i64 a_.1)] [(.slice pa0 pn0 pc0)] rfl rfl (fun _ => rfl)) _ (Chg.refl _ _))) ?_
  refine pl_val (.bool (decide (a_.1 < 1))) (y_lss rfl rfl) ?_
  refine pl_val (.bool (decide (a_.1 < 1))) (y_move rfl) ?_
  rcases Bool.eq_false_or_eq_true ((decide (a_.1 < 1))) with hc6 | hc6
  ·skip
   refine pl_not (tg := 8) (by kernel_rfl) (congrArg Value.bool hc6) ?_
   refine pl_not (tg := 8) (by kernel_rfl) (congrArg Value.bool hc6) ?_
   refine pl_not (tg := 8) (by kernel_rfl) (congrArg Value.bool hc6) ?_
   refine pl_val (.bool ((decide (a_.1 < 1)) || (decide (8 < a_.1)))) (y_pick_t (congrArg Value.bool hc6) (congrArg Value.bool (by rw [hc6]; rfl))) ?_
   refine pl_val (.bool ((decide (a_.1 < 1)) || (decide (8 < a_.1)))) (y_move rfl) ?_
   rcases Bool.eq_false_or_eq_true (((decide (a_.1 < 1)) || (decide (8 < a_.1)))) with hc7 | hc7
   ·skip
    refine pl_not (tg := 13) (by kernel_rfl) (congrArg Value.bool hc7) ?_
    refine pl_not (tg := 13) (by kernel_rfl) (congrArg Value.bool hc7) ?_
    refine pl_not (tg := 13) (by kernel_rfl) (congrArg Value.bool hc7) ?_
    refine pl_not (tg := 13) (by kernel_rfl) (congrArg Value.bool hc7) ?_
    refine pl_val (.bool (((decide (a_.1 < 1)) || (decide (8 < a_.1))) || (decide (4 < (a_.2.length : Int))))) (y_pick_t (congrArg Value.bool hc7) (congrArg Value.bool (by rw [hc7]; rfl))) ?_
    refine c_nil ?_
    exact ⟨_, fr_ovl 32 ⟨rfl, rfl, rfl, trivial⟩, hMid⟩
   ·skip
    refine pl_yes (.pointer (some ⟨g2, 1, none⟩)) (tg := 13) (by kernel_rfl) (congrArg Value.bool hc7) (y_faddr rfl Fa35x1) ?_
    refine pl_yes (.slice pa0 pn0 pc0) (tg := 13) (by kernel_rfl) (congrArg Value.bool hc7) (y_load rfl ((box_load Ag33 Sz33 hb2 [(.int .i64 a_.1)] [(.slice pa0 pn0 pc0)] [] rfl rfl (fun _ => rfl)) _ (Chg.refl _ _))) ?_
    refine pl_yes (.int .i64 (a_.2.length : Int)) (tg := 13) (by kernel_rfl) (congrArg Value.bool hc7) (y_len' Sl33 (rs_len h0) rfl) ?_
    refine pl_yes (.bool (decide (4 < (a_.2.length : Int)))) (tg := 13) (by kernel_rfl) (congrArg Value.bool hc7) (y_gtr rfl rfl) ?_
    refine pl_val (.bool (((decide (a_.1 < 1)) || (decide (8 < a_.1))) || (decide (4 < (a_.2.length : Int))))) (y_pick_f (congrArg Value.bool hc7) (congrArg Value.bool (by rw [hc7]; rfl))) ?_
    refine c_nil ?_
    exact ⟨_, fr_ovl 32 ⟨rfl, rfl, rfl, trivial⟩, hMid⟩
  ·skip
   refine pl_yes (.pointer (some ⟨g2, 0, none⟩)) (tg := 8) (by kernel_rfl) (congrArg Value.bool hc6) (y_faddr rfl Fa35x0) ?_
   refine pl_yes (.int .i64 a_.1) (tg := 8) (by kernel_rfl) (congrArg Value.bool hc6) (y_load rfl ((box_load Ag3 Sz3 hb2 [] [(.int .i64 a_.1)] [(.slice pa0 pn0 pc0)] rfl rfl (fun _ => rfl)) _ (Chg.refl _ _))) ?_
   refine pl_yes (.bool (decide (8 < a_.1))) (tg := 8) (by kernel_rfl) (congrArg Value.bool hc6) (y_gtr rfl rfl) ?_
   refine pl_val (.bool ((decide (a_.1 < 1)) || (decide (8 < a_.1)))) (y_pick_f (congrArg Value.bool hc6) (congrArg Value.bool (by rw [hc6]; rfl))) ?_
   refine pl_val (.bool ((decide (a_.1 < 1)) || (decide (8 < a_.1)))) (y_move rfl) ?_
   rcases Bool.eq_false_or_eq_true (((decide (a_.1 < 1)) || (decide (8 < a_.1)))) with hc8 | hc8
   ·skip
    refine pl_not (tg := 13) (by kernel_rfl) (congrArg Value.bool hc8) ?_
    refine pl_not (tg := 13) (by kernel_rfl) (congrArg Value.bool hc8) ?_
    refine pl_not (tg := 13) (by kernel_rfl) (congrArg Value.bool hc8) ?_
    refine pl_not (tg := 13) (by kernel_rfl) (congrArg Value.bool hc8) ?_
    refine pl_val (.bool (((decide (a_.1 < 1)) || (decide (8 < a_.1))) || (decide (4 < (a_.2.length : Int))))) (y_pick_t (congrArg Value.bool hc8) (congrArg Value.bool (by rw [hc8]; rfl))) ?_
    refine c_nil ?_
    exact ⟨_, fr_ovl 32 ⟨rfl, rfl, rfl, trivial⟩, hMid⟩
   ·skip
    refine pl_yes (.pointer (some ⟨g2, 1, none⟩)) (tg := 13) (by kernel_rfl) (congrArg Value.bool hc8) (y_faddr rfl Fa35x1) ?_
    refine pl_yes (.slice pa0 pn0 pc0) (tg := 13) (by kernel_rfl) (congrArg Value.bool hc8) (y_load rfl ((box_load Ag33 Sz33 hb2 [(.int .i64 a_.1)] [(.slice pa0 pn0 pc0)] [] rfl rfl (fun _ => rfl)) _ (Chg.refl _ _))) ?_
    refine pl_yes (.int .i64 (a_.2.length : Int)) (tg := 13) (by kernel_rfl) (congrArg Value.bool hc8) (y_len' Sl33 (rs_len h0) rfl) ?_
    refine pl_yes (.bool (decide (4 < (a_.2.length : Int)))) (tg := 13) (by kernel_rfl) (congrArg Value.bool hc8) (y_gtr rfl rfl) ?_
    refine pl_val (.bool (((decide (a_.1 < 1)) || (decide (8 < a_.1))) || (decide (4 < (a_.2.length : Int))))) (y_pick_f (congrArg Value.bool hc8) (congrArg Value.bool (by rw [hc8]; rfl))) ?_
    refine c_nil ?_
    exact ⟨_, fr_ovl 32 ⟨rfl, rfl, rfl, trivial⟩, hMid⟩
 ·rintro a1 w4 ⟨σ, rfl, hCs3⟩
  have h0 := h0.ext hCs3
  have hb2 := hb2.chg hCs3 (fun h => nomatch h)
  have hC := hC.ext hCs3
  have hO := hO.ext hCs3
  rcases bif_some hs with ⟨hc9, hs⟩ | ⟨hc9, hs⟩
  ·skip
   refine c_condT (congrArg Value.bool hc9) ?_
   refine c_seq (c_region ?_)
   refine pl_val (.bool false) (y_assign rfl) ?_
   refine c_nil ?_
   refine wp_ret ?_
   cases hs
   exact ⟨_, fr_ovl 32 ⟨rfl, trivial⟩, hC⟩
  ·skip
   refine c_condF (congrArg Value.bool hc9) ?_
   refine wp_skip ?_
   refine c_seq ?_
   refine c_seq (c_region ?_)
   refine pl_val (.pointer (some ⟨g2, 1, none⟩)) (y_faddr rfl Fa35x1) ?_
   refine pl_val (.slice pa0 pn0 pc0) (y_load rfl ((box_load Ag33 Sz33 hb2 [(.int .i64 a_.1)] [(.slice pa0 pn0 pc0)] [] rfl rfl (fun _ => rfl)) _ (Chg.refl _ _))) ?_
   refine pl_val (.int .i64 (a_.2.length : Int)) (y_len' Sl33 (rs_len h0) rfl) ?_
   refine pl_val (.int .i64 0) (y_move rfl) ?_
   refine c_nil ?_
   obtain ⟨o22, hl23, hs⟩ := bind_some hs
   refine wp_block ?_
   refine wp_forR (id := 0) (I := fun i_ xs_ s18 a w19 => ∃ k20 : Nat, i_ = (k20 : Int) ∧ List.drop k20 a_.2 = xs_ ∧ (∃ (σ : Nat → Value), a = fr 32 (ovl σ [(1, (.pointer (some ⟨g2, 0, none⟩))), (20, (.slice pa0 pn0 pc0)), (21, (.int .i64 (a_.2.length : Int))), (22, (.int .i64 (k20 : Int)))]) ∧ Chg [] w w19 ∧ Own (Nw w []) M w19 (([g2]) ++ []) ∧ (RT.rs (RT.pr (RT.int .i64) (RT.rs (RT.int .i64)))).val M w19 (.slice pa0 pn0 pc0) a_.2 ([]) ∧ BoxV w19 g2 35 [(.int .i64 a_.1), (.slice pa0 pn0 pc0)])) (J := fun s18 a w19 => ∃ (σ : Nat → Value), a = fr 32 (ovl σ []) ∧ Chg [] w w19 ∧ Own (Nw w []) M w19 (([g2]) ++ []) ∧ (RT.rs (RT.pr (RT.int .i64) (RT.rs (RT.int .i64)))).val M w19 (.slice pa0 pn0 pc0) a_.2 ([]) ∧ BoxV w19 g2 35 [(.int .i64 a_.1), (.slice pa0 pn0 pc0)]) (K := (k_impl_IsAlgebra M w)) ?_ ?_ a_.2 0 () o22 _ _ ?_ hl23 ?_
   ·rintro _ s18 a w19 ⟨k20, rfl, hd, σ, rfl, hC, hO, h0, hb2⟩
    have hlt := drop_nil_ge hd
    refine c_seq (c_region ?_)
    refine pl_val (.bool (decide ((k20 : Int) < (a_.2.length : Int)))) (y_lss rfl rfl) ?_
    refine c_nil ?_
    refine c_seq ?_
    refine c_condF (congrArg Value.bool (decide_eq_false hlt)) ?_
    refine wp_exit ?_
    exact ⟨rfl, _, fr_ovl 32 trivial, hC, hO, h0, hb2⟩
   ·rintro _ x21 xs_ s18 o22 a w19 ⟨k20, rfl, hd, σ, rfl, hC, hO, h0, hb2⟩ hs
    have hlt := drop_cons_lt hd
    have hxk20 := drop_cons_idx hd
    refine c_seq (c_region ?_)
    refine pl_val (.bool (decide ((k20 : Int) < (a_.2.length : Int)))) (y_lss rfl rfl) ?_
    refine c_nil ?_
    refine c_seq ?_
    refine c_condT (congrArg Value.bool (decide_eq_true hlt)) ?_
    refine wp_skip ?_
    refine c_seq ?_
    refine wp_block ?_
    refine c_seq (c_region ?_)
    obtain ⟨b24, o24, hp24, ha24⟩ := rs_idx Sl33 Sz81 h0 hxk20
    refine pl_val (.pointer (some ⟨b24, o24, none⟩)) (hp24 _ _ _ _ _ _ _ _ _ rfl rfl) ?_
    obtain ⟨v25, hl25, hv25⟩ := at_load Ag81 Sz81 (by intro h; cases h) ha24
    obtain ⟨cs25, rfl, hr25⟩ := hv25
    obtain ⟨cc25x1, cd25x1, rfl, hh25x1, ht25x1⟩ := pr_open hr25
    obtain rfl := int_rel hh25x1
    obtain ⟨a25x2, n25x2, c25x2, rfl, hv25x2⟩ := rs_rel ht25x1
    refine pl_val (.agg #[(.int .i64 x21.1), (.slice a25x2 n25x2 c25x2)]) (y_load rfl (hl25 _ (Chg.refl _ _))) ?_
    obtain ⟨w27, g27, ew27, eg27, hC27, hb27⟩ := new_block w19 [(.int .i64 0), (.slice none 0 0)] 81
    refine pl_val (w' := w27) (.pointer (some ⟨g27, 0, none⟩)) (y_alloc (by rw [ew27, eg27]; kernel_rfl)) ?_
    have h0 := h0.ext hC27
    have hb2 := hb2.chg hC27 (fun h => nomatch h)
    have hv25x2 := hv25x2.ext hC27
    have hC := hC.ext hC27
    have hO := hO.new1 hC27 eg27 hb27.lt
    obtain ⟨w28, hst28, hC28, hb28⟩ := box_store (P := Try.prog) hb27 [] [(.int .i64 0), (.slice none 0 0)] [] [(.int .i64 x21.1), (.slice a25x2 n25x2 c25x2)] rfl rfl (by intro u hu; simp only [List.mem_cons, List.not_mem_nil, or_false] at hu; rcases hu with rfl | rfl <;> rfl)
    refine pl_skip (w' := w28) (ys_store rfl rfl (hst28 _ _ rfl Sz81)) ?_
    have h0 := h0.mut hC28 (fun g hg => hO.inM g ((fun _ h => h) g hg)) (fun _ _ h => nomatch h)
    have hb2 := hb2.chg hC28 (fun hg => hO.apart _ ((fun _ h => h) _ hg) (mem_l (List.mem_singleton.2 rfl)))
    have hv25x2 := hv25x2.mut hC28 (fun g hg => hO.inM g ((fun _ h => h) g hg)) (fun _ _ h => nomatch h)
    have hC := hC.step hC28 (fun g hg => hO.inN g ((fun _ h => h) g hg))
    have hO := hO.ext hC28
    have hb28 : BoxV w28 g27 81 [(.int .i64 x21.1), (.slice a25x2 n25x2 c25x2)] := hb28
    refine c_nil ?_
    refine c_seq (c_region ?_)
    refine pl_val (.agg #[(.int .i64 x21.1), (.slice a25x2 n25x2 c25x2)]) (y_load rfl ((box_load Ag81 Sz81 hb28 [] [(.int .i64 x21.1), (.slice a25x2 n25x2 c25x2)] [] rfl rfl (fun h => nomatch h)) _ (Chg.refl _ _))) ?_
    refine pl_val (.pointer (some ⟨g2, 0, none⟩)) (y_faddr rfl Fa35x0) ?_
    refine pl_val (.int .i64 a_.1) (y_load rfl ((box_load Ag3 Sz3 hb2 [] [(.int .i64 a_.1)] [(.slice pa0 pn0 pc0)] rfl rfl (fun _ => rfl)) _ (Chg.refl _ _))) ?_
    obtain ⟨r30, hr30, hs⟩ := bind_some hs
    refine pl_call Bd124 rfl (c_impl_isOp (M := M) (x21.1, x21.2) a_.1 hv25x2 hO.fut hr30) ?_
    rintro _ w29 ⟨rfl, hC29⟩
    have h0 := h0.ext hC29
    have hb2 := hb2.chg hC29 (fun h => nomatch h)
    have hv25x2 := hv25x2.ext hC29
    have hb28 := hb28.chg hC29 (fun h => nomatch h)
    have hC := hC.ext hC29
    have hO := hO.ext hC29
    refine pl_val (.bool (!r30)) (y_not rfl) ?_
    refine c_nil ?_
    rcases bif_some hs with ⟨hc31, hs⟩ | ⟨hc31, hs⟩
    ·skip
     refine c_condT (congrArg Value.bool hc31) ?_
     refine c_seq (c_region ?_)
     refine pl_val (.bool false) (y_assign rfl) ?_
     refine c_nil ?_
     refine wp_ret ?_
     cases hs
     exact ⟨_, fr_ovl 32 ⟨rfl, trivial⟩, hC⟩
    ·skip
     refine c_condF (congrArg Value.bool hc31) ?_
     refine wp_skip ?_
     refine c_region ?_
     refine pl_val (.int .i64 (w64 ((k20 : Int) + 1))) (y_add rfl rfl) ?_
     refine pl_val (.int .i64 (w64 ((k20 : Int) + 1))) (y_move rfl) ?_
     refine c_nil ?_
     cases hs
     have hO := hO.drop
     exact ⟨_, rfl, drop_cons_next hd, _, fr_ovl 32 ⟨rfl, rfl, rfl, congrArg (Value.int .i64) (w64_succ hlt (Int.natCast_nonneg _) (rs_max h0)), trivial⟩, hC, hO, h0, hb2⟩
   ·skip
    exact ⟨0, rfl, rfl, _, fr_ovl 32 ⟨rfl, rfl, rfl, rfl, trivial⟩, hC, hO, h0, hb2⟩
   ·cases o22 with
    | nx _ => exact True.intro
    | rt r_ =>
     have hs := after_rt hs
     intro a1 w1 hK
     cases hs
     exact hK
    | br s18 =>
     have hs := after_br hs
     rintro a1 w19 ⟨σ, rfl, hC, hO, h0, hb2⟩
     refine c_seq (c_region ?_)
     refine pl_val (.bool true) (y_assign rfl) ?_
     refine c_nil ?_
     refine wp_ret ?_
     cases hs
     exact ⟨_, fr_ovl 32 ⟨rfl, trivial⟩, hC⟩

def k_impl_identityOf (M : Nat → Prop) (w0 : World) (r : (List Int)) (a : Act) (w : World) : Prop :=
  ∃ (σ : Nat → Value) (ra0 : Option Addr) (rn0 rc0 : Nat) (rf0 : List Nat), a = fr 18 (ovl σ [(2, (.slice ra0 rn0 rc0))]) ∧ Chg [] w0 w ∧ (RT.os 3 (RT.int .i64)).val M w (.slice ra0 rn0 rc0) r rf0 ∧ Own (Nw w0 []) (fun _ => True) w (rf0 ++ ([]))
def s_impl_identityOf (n : Int) : Option ((List Int)) :=
  (mks n (0 : Int)).bind fun y2 =>
  (forC (S := (List Int)) (R := (List Int)) (fun k13 s11 =>
  (idx s11 k13).bind fun x19 =>
  some (.nx (List.set s11 (Int.toNat k13) k13))) 0 (y2.length : Int) y2).bind fun o15 => after o15 (fun r_ => some r_) (fun s11 =>
  some s11)
set_option maxHeartbeats 4000000 in
theorem c_impl_identityOf {M : Nat → Prop} {w : World}  (n : Int)  (hM : ∀ g, w.heap.size ≤ g → M g) {r : (List Int)} (hs : s_impl_identityOf n = some r) :
    Gives Try.prog 126 [(.int .i64 n)] w (fun v w' => ∃ (ra0 : Option Addr) (rn0 rc0 : Nat) (rf0 : List Nat), v = (.slice ra0 rn0 rc0) ∧ Chg [] w w' ∧ (RT.os 3 (RT.int .i64)).val M w' (.slice ra0 rn0 rc0) r rf0 ∧ Own (Nw w []) (fun _ => True) w' (rf0 ++ ([]))) := by
 refine calls_fr Try.func126 rfl Try.ntmps126 (Nat.le_of_ble_eq_true rfl) ?_
 have hO := Own.start (N := Nw w []) hM Nw.fut
 have hC := Chg.refl [] w
 unfold s_impl_identityOf at hs
 refine wp_mono (Q := KPost (k_impl_identityOf M w r)) ?_ (fun e a w1 h => ?_)
 rotate_left
 ·cases e
  case ret =>
   obtain ⟨σ, ra0, rn0, rc0, rf0, rfl, hrest⟩ := h
   exact ret1x Try.results126 (res_tmp rfl) ⟨ra0, rn0, rc0, rf0, rfl, hrest⟩
  all_goals exact (h : False).elim
 refine c_seq (c_region ?_)
 refine pl_val (.slice none 0 0) (y_assign rfl) ?_
 refine c_nil ?_
 refine c_seq (c_region ?_)
 refine pl_val (.int .i64 n) (y_move rfl) ?_
 obtain ⟨y2, hy2, hs⟩ := bind_some hs
 obtain ⟨a1, n1, c1, w1, f1, hm1, hC1, hfr1, hv1⟩ := mk_os (M := M) (w := w) (r := (RT.int .i64)) Rw22 hy2 (fun _ _ => ⟨rfl, rfl⟩)
 refine pl_val (w' := w1) (.slice a1 n1 c1) (y_make rfl rfl hm1) ?_
 have hC := hC.ext hC1
 have hO := hO.new hC1 hfr1 (os_nodup hv1) hv1.fpl
 refine pl_val (.slice a1 n1 c1) (y_assign rfl) ?_
 refine c_nil ?_
 refine c_seq ?_
 refine c_seq (c_region ?_)
 refine pl_val (.slice a1 n1 c1) (y_move rfl) ?_
 refine pl_val (.int .i64 (y2.length : Int)) (y_len' Sl22 (os_len hv1) rfl) ?_
 refine pl_val (.int .i64 0) (y_move rfl) ?_
 refine c_nil ?_
 obtain ⟨o15, hl16, hs⟩ := bind_some hs
 refine wp_block ?_
 refine wp_forC (id := 0) (y2.length : Int) (I := fun k13 s11 a w12 => ∃ (σ : Nat → Value) (f17 : List Nat), a = fr 18 (ovl σ [(3, (.slice a1 n1 c1)), (8, (.int .i64 (y2.length : Int))), (9, (.int .i64 k13))]) ∧ Chg [] w w12 ∧ Own (Nw w []) M w12 (f17 ++ []) ∧ (RT.os 3 (RT.int .i64)).val M w12 (.slice a1 n1 c1) s11 f17) (J := fun s11 a w12 => ∃ (σ : Nat → Value) (f18 : List Nat), a = fr 18 (ovl σ [(3, (.slice a1 n1 c1))]) ∧ Chg [] w w12 ∧ Own (Nw w []) M w12 (f18 ++ []) ∧ (RT.os 3 (RT.int .i64)).val M w12 (.slice a1 n1 c1) s11 f18) (K := (k_impl_identityOf M w)) ?_ ?_ 0 y2 o15 _ _ ?_ hl16 ?_
 ·rintro k13 s11 a w12 ⟨σ, f17, rfl, hC, hO, hv17⟩ hlt
  refine c_seq (c_region ?_)
  refine pl_val (.bool (decide (k13 < (y2.length : Int)))) (y_lss rfl rfl) ?_
  refine c_nil ?_
  refine c_seq ?_
  refine c_condF (congrArg Value.bool (decide_eq_false hlt)) ?_
  refine wp_exit ?_
  exact ⟨rfl, _, f17, fr_ovl 18 ⟨rfl, trivial⟩, hC, hO, hv17⟩
 ·rintro k13 s11 o15 a w12 ⟨σ, f17, rfl, hC, hO, hv17⟩ hlt hw hs
  refine c_seq (c_region ?_)
  refine pl_val (.bool (decide (k13 < (y2.length : Int)))) (y_lss rfl rfl) ?_
  refine c_nil ?_
  refine c_seq ?_
  refine c_condT (congrArg Value.bool (decide_eq_true hlt)) ?_
  refine wp_skip ?_
  refine c_seq ?_
  refine wp_block ?_
  refine c_seq (c_region ?_)
  refine pl_val (.int .i64 k13) (y_move rfl) ?_
  refine pl_val (.int .i64 k13) (y_assign rfl) ?_
  refine c_nil ?_
  refine c_region ?_
  refine pl_val (.slice a1 n1 c1) (y_move rfl) ?_
  refine pl_val (.int .i64 k13) (y_move rfl) ?_
  refine pl_val (.int .i64 k13) (y_move rfl) ?_
  obtain ⟨x19, hx19, hs⟩ := bind_some hs
  obtain ⟨g20, f20, hg20, hk20, hp20, ha20, hf20⟩ := os_idx Sl22 Sz3 hv17 hx19
  refine pl_val (.pointer (some ⟨g20, 0 + Int.toNat k13 * 1, none⟩)) (hp20 _ _ _ _ _ _ _ _ _ rfl rfl) ?_
  obtain ⟨w21, f21, hst21, hC21, hf21, hv21⟩ := os_store (P := Try.prog) (c' := [(.int .i64 k13)]) hg20 hv17 hk20 (fun g hg => hO.inM g (os_block hv17 g (by simpa using hg))) ⟨rfl, rfl⟩ List.nodup_nil (fun _ h => nomatch h) (fun _ h => .inl h)
  have hG21 : ∀ q ∈ [g20], q ∈ f17 := fun q hq => os_block hv17 q (by rw [hg20]; exact hq)
  refine pl_skip (w' := w21) (ys_store rfl rfl (hst21 _ _ rfl Sz3)) ?_
  have hC := hC.step hC21 (fun g hg => hO.inN g (hG21 g hg))
  have hO := hO.grow hC21 (fun q hq => .inl ((hf21 q hq).resolve_right (fun h => nomatch h))) (os_nodup hv21) hv21.fpl
  refine c_nil ?_
  refine c_region ?_
  refine pl_val (.int .i64 (w64 (k13 + 1))) (y_add rfl rfl) ?_
  refine pl_val (.int .i64 (w64 (k13 + 1))) (y_move rfl) ?_
  refine c_nil ?_
  cases hs
  exact ⟨_, f21, fr_ovl 18 ⟨rfl, rfl, congrArg (Value.int .i64) hw, trivial⟩, hC, hO, hv21⟩
 ·skip
  exact ⟨_, f1, fr_ovl 18 ⟨rfl, rfl, rfl, trivial⟩, hC, hO, hv1⟩
 ·cases o15 with
  | nx _ => exact True.intro
  | rt r_ =>
   have hs := after_rt hs
   intro a1 w1 hK
   cases hs
   exact hK
  | br s11 =>
   have hs := after_br hs
   rintro a1 w12 ⟨σ, f18, rfl, hC, hO, hv18⟩
   refine c_seq (c_region ?_)
   refine pl_val (.slice a1 n1 c1) (y_move rfl) ?_
   refine pl_val (.slice a1 n1 c1) (y_assign rfl) ?_
   refine c_nil ?_
   refine wp_ret ?_
   cases hs
   exact ⟨_, a1, n1, c1, f18, fr_ovl 18 ⟨rfl, trivial⟩, hC, hv18, hO.top⟩

def k_impl_unite (M : Nat → Prop) (w0 : World) (qa0 : Option Addr) (qn0 qc0 : Nat) (qf0 : List Nat) (r : Bool × (List Int)) (a : Act) (w : World) : Prop :=
  ∃ (σ : Nat → Value) (rfi0 : List Nat), a = fr 40 (ovl σ [(6, (.bool r.1))]) ∧ Chg (qf0 ++ ([])) w0 w ∧ (RT.os 3 (RT.int .i64)).val M w (.slice qa0 qn0 qc0) r.2 rfi0 ∧ Own (Nw w0 (qf0 ++ ([]))) (fun _ => True) w (rfi0 ++ ([]))
def s_impl_unite (p : List Int) (x_ : Int) (y : Int) : Option (Bool × (List Int)) :=
  (idx p x_).bind fun x8 =>
  (idx p y).bind fun x10 =>
  (bif (x8 == x10) then some (false, p) else (bif (decide (x10 < x8)) then some (x10, x8) else some (x8, x10)).bind fun s13 =>
  (forC (S := (List Int)) (R := Bool × (List Int)) (fun k32 s30 =>
  (idx s30 k32).bind fun x38 =>
  (bif (x38 == s13.2) then (idx s30 k32).bind fun x41 =>
  some (.nx (List.set s30 (Int.toNat k32) s13.1)) else some (.nx s30))) 0 (p.length : Int) p).bind fun o34 => after o34 (fun r_ => some r_) (fun s30 =>
  some (true, s30)))
set_option maxHeartbeats 4000000 in
theorem c_impl_unite {M : Nat → Prop} {w : World} {pa0 : Option Addr} {pn0 pc0 : Nat} {pf0 : List Nat} (p : List Int) (x_ : Int) (y : Int) (h0 : (RT.os 3 (RT.int .i64)).val M w (.slice pa0 pn0 pc0) p pf0) (hI : Own (Nw w (pf0 ++ ([]))) M w (pf0 ++ ([]))) (hM : ∀ g, w.heap.size ≤ g → M g) {r : Bool × (List Int)} (hs : s_impl_unite p x_ y = some r) :
    Gives Try.prog 103 [(.slice pa0 pn0 pc0), (.int .i64 x_), (.int .i64 y)] w (fun v w' => ∃ (rfi0 : List Nat), v = (.bool r.1) ∧ Chg (pf0 ++ ([])) w w' ∧ (RT.os 3 (RT.int .i64)).val M w' (.slice pa0 pn0 pc0) r.2 rfi0 ∧ Own (Nw w (pf0 ++ ([]))) (fun _ => True) w' (rfi0 ++ ([]))) := by
 refine calls_fr Try.func103 rfl Try.ntmps103 (Nat.le_of_ble_eq_true rfl) ?_
 have hO := hI
 have hC := Chg.refl (pf0 ++ ([])) w
 unfold s_impl_unite at hs
 refine wp_mono (Q := KPost (k_impl_unite M w pa0 pn0 pc0 pf0 r)) ?_ (fun e a w1 h => ?_)
 rotate_left
 ·cases e
  case ret =>
   obtain ⟨σ, rfi0, rfl, hrest⟩ := h
   exact ret1x Try.results103 (res_tmp rfl) ⟨rfi0, rfl, hrest⟩
  all_goals exact (h : False).elim
 refine c_seq (c_region ?_)
 refine pl_val (.bool false) (y_assign rfl) ?_
 refine c_nil ?_
 refine c_seq ?_
 refine x_start [] Mx rfl ?_
 have hCw7 := Chg.drew w
 generalize World.drew w = w7 at hCw7 ⊢
 have h0 := h0.ext hCw7
 have hC := hC.ext hCw7
 have hO := hO.ext hCw7
 have hS := Chg.refl [] w7
 refine x_p 0 (.slice pa0 pn0 pc0) rfl (by kernel_rfl)  (fun _ => y_move rfl) (fun _ => hS) ?_
 refine x_p 1 (.int .i64 x_) rfl (by kernel_rfl)  (fun _ => y_move rfl) (fun _ => hS) ?_
 obtain ⟨x8, hx8, hs⟩ := bind_some hs
 obtain ⟨g9, f9, hg9, hk9, hp9, ha9, hf9⟩ := os_idx Sl22 Sz3 h0 hx8
 refine x_p 2 (.pointer (some ⟨g9, 0 + Int.toNat x_ * 1, none⟩)) rfl (by kernel_rfl)  (fun _ => hp9 _ _ _ _ _ _ _ _ _ rfl rfl) (fun _ => hS) ?_
 refine x_l 3 (.int .i64 x8) rfl (by kernel_rfl)  (fun w' hw' => y_load rfl ((at_load_int Ag3 Sz3 ha9) w' hw')) hS ?_
 refine x_p 4 (.slice pa0 pn0 pc0) rfl (by kernel_rfl)  (fun _ => y_move rfl) (fun _ => hS) ?_
 refine x_p 5 (.int .i64 y) rfl (by kernel_rfl)  (fun _ => y_move rfl) (fun _ => hS) ?_
 obtain ⟨x10, hx10, hs⟩ := bind_some hs
 obtain ⟨g11, f11, hg11, hk11, hp11, ha11, hf11⟩ := os_idx Sl22 Sz3 h0 hx10
 refine x_p 6 (.pointer (some ⟨g11, 0 + Int.toNat y * 1, none⟩)) rfl (by kernel_rfl)  (fun _ => hp11 _ _ _ _ _ _ _ _ _ rfl rfl) (fun _ => hS) ?_
 refine x_l 7 (.int .i64 x10) rfl (by kernel_rfl)  (fun w' hw' => y_load rfl ((at_load_int Ag3 Sz3 ha11) w' hw')) hS ?_
 refine x_p 8 (.int .i64 x8) rfl (by kernel_rfl)  (fun _ => y_assign rfl) (fun _ => hS) ?_
 refine x_p 9 (.int .i64 x10) rfl (by kernel_rfl)  (fun _ => y_assign rfl) (fun _ => hS) ?_
 refine x_end (by kernel_rfl) ?_
 clear hS
 refine c_seq ?_
 refine c_seq (c_region ?_)
 refine pl_val (.int .i64 x8) (y_move rfl) ?_
 refine pl_val (.int .i64 x10) (y_move rfl) ?_
 refine pl_val (.bool (x8 == x10)) (y_eql rfl rfl) ?_
 refine c_nil ?_
 rcases bif_some hs with ⟨hc12, hs⟩ | ⟨hc12, hs⟩
 ·skip
  refine c_condT (congrArg Value.bool hc12) ?_
  refine c_seq (c_region ?_)
  refine pl_val (.bool false) (y_assign rfl) ?_
  refine c_nil ?_
  refine wp_ret ?_
  cases hs
  exact ⟨_, pf0, fr_ovl 40 ⟨rfl, trivial⟩, hC, h0, hO.top⟩
 ·skip
  refine c_condF (congrArg Value.bool hc12) ?_
  refine wp_skip ?_
  refine c_seq ?_
  refine c_seq (c_region ?_)
  refine pl_val (.int .i64 x8) (y_move rfl) ?_
  refine pl_val (.int .i64 x10) (y_move rfl) ?_
  refine pl_val (.bool (decide (x10 < x8))) (y_gtr rfl rfl) ?_
  refine c_nil ?_
  obtain ⟨s13, hm15, hs⟩ := bind_some hs
  refine c_mid (I := fun a w14 => ∃ (σ : Nat → Value), a = fr 40 (ovl σ [(0, (.slice pa0 pn0 pc0)), (1, (.int .i64 s13.1)), (2, (.int .i64 s13.2))]) ∧ Chg (pf0 ++ ([])) w w14 ∧ Own (Nw w (pf0 ++ ([]))) M w14 (pf0 ++ []) ∧ (RT.os 3 (RT.int .i64)).val M w14 (.slice pa0 pn0 pc0) p pf0) ?_ ?_
  ·replace hs := hm15
   rcases bif_some hs with ⟨hc16, hs⟩ | ⟨hc16, hs⟩
   ·skip
    refine c_condT (congrArg Value.bool hc16) ?_
    refine c_region ?_
    refine pl_val (.int .i64 x10) (y_move rfl) ?_
    refine pl_val (.int .i64 x8) (y_move rfl) ?_
    refine pl_val (.int .i64 x10) (y_assign rfl) ?_
    refine pl_val (.int .i64 x8) (y_assign rfl) ?_
    refine c_nil ?_
    cases hs
    exact ⟨_, fr_ovl 40 ⟨rfl, rfl, rfl, trivial⟩, hC, hO, h0⟩
   ·skip
    refine c_condF (congrArg Value.bool hc16) ?_
    refine wp_skip ?_
    cases hs
    exact ⟨_, fr_ovl 40 ⟨rfl, rfl, rfl, trivial⟩, hC, hO, h0⟩
  ·rintro a1 w14 ⟨σ, rfl, hC, hO, h0⟩
   refine c_seq ?_
   refine c_seq (c_region ?_)
   refine pl_val (.slice pa0 pn0 pc0) (y_move rfl) ?_
   refine pl_val (.int .i64 (p.length : Int)) (y_len' Sl22 (os_len h0) rfl) ?_
   refine pl_val (.int .i64 0) (y_move rfl) ?_
   refine c_nil ?_
   obtain ⟨o34, hl35, hs⟩ := bind_some hs
   refine wp_block ?_
   refine wp_forC (id := 0) (p.length : Int) (I := fun k32 s30 a w31 => ∃ (σ : Nat → Value) (f36 : List Nat), a = fr 40 (ovl σ [(0, (.slice pa0 pn0 pc0)), (1, (.int .i64 s13.1)), (2, (.int .i64 s13.2)), (25, (.int .i64 (p.length : Int))), (26, (.int .i64 k32))]) ∧ Chg (pf0 ++ ([])) w w31 ∧ Own (Nw w (pf0 ++ ([]))) M w31 (f36 ++ []) ∧ (RT.os 3 (RT.int .i64)).val M w31 (.slice pa0 pn0 pc0) s30 f36) (J := fun s30 a w31 => ∃ (σ : Nat → Value) (f37 : List Nat), a = fr 40 (ovl σ []) ∧ Chg (pf0 ++ ([])) w w31 ∧ Own (Nw w (pf0 ++ ([]))) M w31 (f37 ++ []) ∧ (RT.os 3 (RT.int .i64)).val M w31 (.slice pa0 pn0 pc0) s30 f37) (K := (k_impl_unite M w pa0 pn0 pc0 pf0)) ?_ ?_ 0 p o34 _ _ ?_ hl35 ?_
   ·rintro k32 s30 a w31 ⟨σ, f36, rfl, hC, hO, hv36⟩ hlt
    refine c_seq (c_region ?_)
    refine pl_val (.bool (decide (k32 < (p.length : Int)))) (y_lss rfl rfl) ?_
    refine c_nil ?_
    refine c_seq ?_
    refine c_condF (congrArg Value.bool (decide_eq_false hlt)) ?_
    refine wp_exit ?_
    exact ⟨rfl, _, f36, fr_ovl 40 trivial, hC, hO, hv36⟩
   ·rintro k32 s30 o34 a w31 ⟨σ, f36, rfl, hC, hO, hv36⟩ hlt hw hs
    refine c_seq (c_region ?_)
    refine pl_val (.bool (decide (k32 < (p.length : Int)))) (y_lss rfl rfl) ?_
    refine c_nil ?_
    refine c_seq ?_
    refine c_condT (congrArg Value.bool (decide_eq_true hlt)) ?_
    refine wp_skip ?_
    refine c_seq ?_
    refine wp_block ?_
    refine c_seq (c_region ?_)
    refine pl_val (.int .i64 k32) (y_move rfl) ?_
    refine pl_val (.int .i64 k32) (y_assign rfl) ?_
    refine c_nil ?_
    refine c_seq (c_region ?_)
    refine pl_val (.slice pa0 pn0 pc0) (y_move rfl) ?_
    refine pl_val (.int .i64 k32) (y_move rfl) ?_
    obtain ⟨x38, hx38, hs⟩ := bind_some hs
    obtain ⟨g39, f39, hg39, hk39, hp39, ha39, hf39⟩ := os_idx Sl22 Sz3 hv36 hx38
    refine pl_val (.pointer (some ⟨g39, 0 + Int.toNat k32 * 1, none⟩)) (hp39 _ _ _ _ _ _ _ _ _ rfl rfl) ?_
    refine pl_val (.int .i64 x38) (y_load rfl ((at_load_int Ag3 Sz3 ha39) _ (Chg.refl _ _))) ?_
    refine pl_val (.int .i64 s13.2) (y_move rfl) ?_
    refine pl_val (.bool (x38 == s13.2)) (y_eql rfl rfl) ?_
    refine c_nil ?_
    rcases bif_some hs with ⟨hc40, hs⟩ | ⟨hc40, hs⟩
    ·skip
     refine c_condT (congrArg Value.bool hc40) ?_
     refine c_region ?_
     refine pl_val (.slice pa0 pn0 pc0) (y_move rfl) ?_
     refine pl_val (.int .i64 k32) (y_move rfl) ?_
     refine pl_val (.int .i64 s13.1) (y_move rfl) ?_
     obtain ⟨x41, hx41, hs⟩ := bind_some hs
     obtain ⟨g42, f42, hg42, hk42, hp42, ha42, hf42⟩ := os_idx Sl22 Sz3 hv36 hx41
     refine pl_val (.pointer (some ⟨g42, 0 + Int.toNat k32 * 1, none⟩)) (hp42 _ _ _ _ _ _ _ _ _ rfl rfl) ?_
     obtain ⟨w43, f43, hst43, hC43, hf43, hv43⟩ := os_store (P := Try.prog) (c' := [(.int .i64 s13.1)]) hg42 hv36 hk42 (fun g hg => hO.inM g (os_block hv36 g (by simpa using hg))) ⟨rfl, rfl⟩ List.nodup_nil (fun _ h => nomatch h) (fun _ h => .inl h)
     have hG43 : ∀ q ∈ [g42], q ∈ f36 := fun q hq => os_block hv36 q (by rw [hg42]; exact hq)
     refine pl_skip (w' := w43) (ys_store rfl rfl (hst43 _ _ rfl Sz3)) ?_
     have hC := hC.step hC43 (fun g hg => hO.inN g (hG43 g hg))
     have hO := hO.grow hC43 (fun q hq => .inl ((hf43 q hq).resolve_right (fun h => nomatch h))) (os_nodup hv43) hv43.fpl
     refine c_nil ?_
     refine c_region ?_
     refine pl_val (.int .i64 (w64 (k32 + 1))) (y_add rfl rfl) ?_
     refine pl_val (.int .i64 (w64 (k32 + 1))) (y_move rfl) ?_
     refine c_nil ?_
     cases hs
     exact ⟨_, f43, fr_ovl 40 ⟨rfl, rfl, rfl, rfl, congrArg (Value.int .i64) hw, trivial⟩, hC, hO, hv43⟩
    ·skip
     refine c_condF (congrArg Value.bool hc40) ?_
     refine wp_skip ?_
     refine c_region ?_
     refine pl_val (.int .i64 (w64 (k32 + 1))) (y_add rfl rfl) ?_
     refine pl_val (.int .i64 (w64 (k32 + 1))) (y_move rfl) ?_
     refine c_nil ?_
     cases hs
     exact ⟨_, f36, fr_ovl 40 ⟨rfl, rfl, rfl, rfl, congrArg (Value.int .i64) hw, trivial⟩, hC, hO, hv36⟩
   ·skip
    exact ⟨_, pf0, fr_ovl 40 ⟨rfl, rfl, rfl, rfl, rfl, trivial⟩, hC, hO, h0⟩
   ·cases o34 with
    | nx _ => exact True.intro
    | rt r_ =>
     have hs := after_rt hs
     intro a1 w1 hK
     cases hs
     exact hK
    | br s30 =>
     have hs := after_br hs
     rintro a1 w31 ⟨σ, f37, rfl, hC, hO, hv37⟩
     refine c_seq (c_region ?_)
     refine pl_val (.bool true) (y_assign rfl) ?_
     refine c_nil ?_
     refine wp_ret ?_
     cases hs
     exact ⟨_, f37, fr_ovl 40 ⟨rfl, trivial⟩, hC, hv37, hO.top⟩

theorem Bd103 : Bodied Try.prog 103 := bodied Try.func103 (by kernel_rfl) rfl

def k_impl_closePartition (M : Nat → Prop) (w0 : World) (qa0 : Option Addr) (qn0 qc0 : Nat) (qf0 : List Nat) (r : Bool × (List Int)) (a : Act) (w : World) : Prop :=
  ∃ (σ : Nat → Value) (rfi0 : List Nat), a = fr 66 (ovl σ [(4, (.bool r.1))]) ∧ Chg (qf0 ++ ([])) w0 w ∧ (RT.os 3 (RT.int .i64)).val M w (.slice qa0 qn0 qc0) r.2 rfi0 ∧ Own (Nw w0 (qf0 ++ ([]))) (fun _ => True) w (rfi0 ++ ([]))
def s_impl_closePartition (a_ : Int × (List (Int × (List Int)))) (p : List Int) : Option (Bool × (List Int)) :=
  (iter (S := Bool × Bool × (List Int)) (R := Bool × (List Int)) (fun s1136 =>
  (bif s1136.2.1 then (forR (S := Bool × Bool × (List Int)) (R := Bool × (List Int)) (fun _ x1519 s1516 =>
  (forC (S := Bool × Bool × Int × (List Int)) (R := Bool × (List Int)) (fun k1646 s1644 =>
  (forC (S := Bool × Bool × (List Int)) (R := Bool × (List Int)) (fun k1687 s1685 =>
  (idx x1519.2 k1687).bind fun x1693 =>
  (nz s1644.2.2.1).bind fun u1699 =>
  (nz a_.1).bind fun u1700 =>
  (idx s1685.2.2 (Int.tmod (w64 (Int.tdiv k1687 s1644.2.2.1)) a_.1)).bind fun x1702 =>
  (idx x1519.2 (w64 (k1687 + (w64 ((w64 (x1702 - (Int.tmod (w64 (Int.tdiv k1687 s1644.2.2.1)) a_.1))) * s1644.2.2.1))))).bind fun x1704 =>
  (s_impl_unite s1685.2.2 x1693 x1704).bind fun r1707 =>
  (bif r1707.1 then some (.nx (true, true, r1707.2)) else some (.nx (s1685.1, s1685.2.1, r1707.2)))) 0 (x1519.2.length : Int) (s1644.1, s1644.2.1, s1644.2.2.2)).bind fun o1689 => after o1689 (fun r_ => some (.rt r_)) (fun s1685 =>
  some (.nx (s1685.1, s1685.2.1, w64 (s1644.2.2.1 * a_.1), s1685.2.2)))) 0 x1519.1 (s1516.1, s1516.2.1, 1, s1516.2.2)).bind fun o1648 => after o1648 (fun r_ => some (.rt r_)) (fun s1644 =>
  some (.nx (s1644.1, s1644.2.1, s1644.2.2.2)))) 0 a_.2 (s1136.1, false, s1136.2.2)).bind fun o1520 => after o1520 (fun r_ => some (.rt r_)) (fun s1516 =>
  some (.nx (s1516.1, s1516.2.1, s1516.2.2))) else some (.br (s1136.1, s1136.2.1, s1136.2.2)))) FU (false, true, p)).bind fun o1140 => after o1140 (fun r_ => some r_) (fun s1136 =>
  some (s1136.1, s1136.2.2))
set_option maxHeartbeats 4000000 in
theorem c_impl_closePartition {M : Nat → Prop} {w : World} {pa0 : Option Addr} {pn0 pc0 : Nat} {pa1 : Option Addr} {pn1 pc1 : Nat} {pf1 : List Nat} (a_ : Int × (List (Int × (List Int)))) (p : List Int) (h0 : (RT.rs (RT.pr (RT.int .i64) (RT.rs (RT.int .i64)))).val M w (.slice pa0 pn0 pc0) a_.2 ([])) (h1 : (RT.os 3 (RT.int .i64)).val M w (.slice pa1 pn1 pc1) p pf1) (hI : Own (Nw w (pf1 ++ ([]))) M w (pf1 ++ ([]))) (hM : ∀ g, w.heap.size ≤ g → M g) {r : Bool × (List Int)} (hs : s_impl_closePartition a_ p = some r) :
    Gives Try.prog 97 [(.agg #[(.int .i64 a_.1), (.slice pa0 pn0 pc0)]), (.slice pa1 pn1 pc1)] w (fun v w' => ∃ (rfi0 : List Nat), v = (.bool r.1) ∧ Chg (pf1 ++ ([])) w w' ∧ (RT.os 3 (RT.int .i64)).val M w' (.slice pa1 pn1 pc1) r.2 rfi0 ∧ Own (Nw w (pf1 ++ ([]))) (fun _ => True) w' (rfi0 ++ ([]))) := by
 refine calls_fr Try.func97 rfl Try.ntmps97 (Nat.le_of_ble_eq_true rfl) ?_
 have hO := hI
 have hC := Chg.refl (pf1 ++ ([])) w
 unfold s_impl_closePartition at hs
 refine wp_mono (Q := KPost (k_impl_closePartition M w pa1 pn1 pc1 pf1 r)) ?_ (fun e a w1 h => ?_)
 rotate_left
 ·cases e
  case ret =>
   obtain ⟨σ, rfi0, rfl, hrest⟩ := h
   exact ret1x Try.results97 (res_tmp rfl) ⟨rfi0, rfl, hrest⟩
  all_goals exact (h : False).elim
 refine c_seq (c_region ?_)
 obtain ⟨w3, g3, ew3, eg3, hC3, hb3⟩ := new_block w [(.int .i64 a_.1), (.slice pa0 pn0 pc0)] 35
 refine pl_val (w' := w3) (.pointer (some ⟨g3, 0, none⟩)) (y_box rfl (by rw [ew3, eg3]; kernel_rfl)) ?_
 have h0 := h0.ext hC3
 have h1 := h1.ext hC3
 have hC := hC.ext hC3
 have hO := hO.new1 hC3 eg3 hb3.lt
 refine pl_val (.bool false) (y_assign rfl) ?_
 refine c_nil ?_
 refine c_seq (c_region ?_)
 refine pl_val (.bool false) (y_assign rfl) ?_
 refine c_nil ?_
 refine c_seq ?_
 refine c_seq (c_region ?_)
 refine pl_val (.bool true) (y_assign rfl) ?_
 refine c_nil ?_
 obtain ⟨o1140, hl1141, hs⟩ := bind_some hs
 refine wp_block ?_
 refine wp_iter (id := 0) (I := fun s1136 a w1137 => ∃ (σ : Nat → Value) (f1142 : List Nat), a = fr 66 (ovl σ [(1, (.slice pa1 pn1 pc1)), (2, (.pointer (some ⟨g3, 0, none⟩))), (5, (.bool s1136.1)), (6, (.bool s1136.2.1))]) ∧ Chg (pf1 ++ ([])) w w1137 ∧ Own (Nw w (pf1 ++ ([]))) M w1137 (([g3]) ++ (f1142 ++ [])) ∧ (RT.rs (RT.pr (RT.int .i64) (RT.rs (RT.int .i64)))).val M w1137 (.slice pa0 pn0 pc0) a_.2 ([]) ∧ (RT.os 3 (RT.int .i64)).val M w1137 (.slice pa1 pn1 pc1) s1136.2.2 f1142 ∧ BoxV w1137 g3 35 [(.int .i64 a_.1), (.slice pa0 pn0 pc0)]) (J := fun s1136 a w1137 => ∃ (σ : Nat → Value) (f1143 : List Nat), a = fr 66 (ovl σ [(5, (.bool s1136.1))]) ∧ Chg (pf1 ++ ([])) w w1137 ∧ Own (Nw w (pf1 ++ ([]))) M w1137 (([g3]) ++ (f1143 ++ [])) ∧ (RT.rs (RT.pr (RT.int .i64) (RT.rs (RT.int .i64)))).val M w1137 (.slice pa0 pn0 pc0) a_.2 ([]) ∧ (RT.os 3 (RT.int .i64)).val M w1137 (.slice pa1 pn1 pc1) s1136.2.2 f1143 ∧ BoxV w1137 g3 35 [(.int .i64 a_.1), (.slice pa0 pn0 pc0)]) (K := (k_impl_closePartition M w pa1 pn1 pc1 pf1)) ?_ FU (false, true, p) o1140 _ _ ?_ hl1141 ?_
 ·rintro s1136 o1140 a w1137 ⟨σ, f1142, rfl, hC, hO, h0, hv1142, hb3⟩ hs
  refine c_seq ?_
  refine c_seq (c_region ?_)
  refine pl_val (.bool s1136.2.1) (y_move rfl) ?_
  refine c_nil ?_
  rcases bif_some hs with ⟨hc1144, hs⟩ | ⟨hc1144, hs⟩
  ·skip
   refine c_condT (congrArg Value.bool hc1144) ?_
   refine wp_skip ?_
   refine wp_block ?_
   refine c_seq (c_region ?_)
   refine pl_val (.bool false) (y_assign rfl) ?_
   refine c_nil ?_
   refine c_seq (c_region ?_)
   refine pl_val (.pointer (some ⟨g3, 1, none⟩)) (y_faddr rfl Fa35x1) ?_
   refine pl_val (.slice pa0 pn0 pc0) (y_load rfl ((box_load Ag33 Sz33 hb3 [(.int .i64 a_.1)] [(.slice pa0 pn0 pc0)] [] rfl rfl (fun _ => rfl)) _ (Chg.refl _ _))) ?_
   refine pl_val (.int .i64 (a_.2.length : Int)) (y_len' Sl33 (rs_len h0) rfl) ?_
   refine pl_val (.int .i64 0) (y_move rfl) ?_
   refine c_nil ?_
   obtain ⟨o1520, hl1521, hs⟩ := bind_some hs
   refine wp_block ?_
   refine wp_forR (id := 2) (I := fun i_ xs_ s1516 a w1517 => ∃ k1518 : Nat, i_ = (k1518 : Int) ∧ List.drop k1518 a_.2 = xs_ ∧ (∃ (σ : Nat → Value) (f1522 : List Nat), a = fr 66 (ovl σ [(1, (.slice pa1 pn1 pc1)), (2, (.pointer (some ⟨g3, 0, none⟩))), (5, (.bool s1516.1)), (6, (.bool s1516.2.1)), (16, (.slice pa0 pn0 pc0)), (17, (.int .i64 (a_.2.length : Int))), (18, (.int .i64 (k1518 : Int)))]) ∧ Chg (pf1 ++ ([])) w w1517 ∧ Own (Nw w (pf1 ++ ([]))) M w1517 (([g3]) ++ (f1522 ++ [])) ∧ (RT.rs (RT.pr (RT.int .i64) (RT.rs (RT.int .i64)))).val M w1517 (.slice pa0 pn0 pc0) a_.2 ([]) ∧ (RT.os 3 (RT.int .i64)).val M w1517 (.slice pa1 pn1 pc1) s1516.2.2 f1522 ∧ BoxV w1517 g3 35 [(.int .i64 a_.1), (.slice pa0 pn0 pc0)])) (J := fun s1516 a w1517 => ∃ (σ : Nat → Value) (f1523 : List Nat), a = fr 66 (ovl σ [(1, (.slice pa1 pn1 pc1)), (2, (.pointer (some ⟨g3, 0, none⟩))), (5, (.bool s1516.1)), (6, (.bool s1516.2.1))]) ∧ Chg (pf1 ++ ([])) w w1517 ∧ Own (Nw w (pf1 ++ ([]))) M w1517 (([g3]) ++ (f1523 ++ [])) ∧ (RT.rs (RT.pr (RT.int .i64) (RT.rs (RT.int .i64)))).val M w1517 (.slice pa0 pn0 pc0) a_.2 ([]) ∧ (RT.os 3 (RT.int .i64)).val M w1517 (.slice pa1 pn1 pc1) s1516.2.2 f1523 ∧ BoxV w1517 g3 35 [(.int .i64 a_.1), (.slice pa0 pn0 pc0)]) (K := (k_impl_closePartition M w pa1 pn1 pc1 pf1)) ?_ ?_ a_.2 0 (s1136.1, false, s1136.2.2) o1520 _ _ ?_ hl1521 ?_
   ·rintro _ s1516 a w1517 ⟨k1518, rfl, hd, σ, f1522, rfl, hC, hO, h0, hv1522, hb3⟩
    have hlt := drop_nil_ge hd
    refine c_seq (c_region ?_)
    refine pl_val (.bool (decide ((k1518 : Int) < (a_.2.length : Int)))) (y_lss rfl rfl) ?_
    refine c_nil ?_
    refine c_seq ?_
    refine c_condF (congrArg Value.bool (decide_eq_false hlt)) ?_
    refine wp_exit ?_
    have hO := hO.fr1
    have hO := hO.fr1
    exact ⟨rfl, _, f1522, fr_ovl 66 ⟨rfl, rfl, rfl, rfl, trivial⟩, hC, hO, h0, hv1522, hb3⟩
   ·rintro _ x1519 xs_ s1516 o1520 a w1517 ⟨k1518, rfl, hd, σ, f1522, rfl, hC, hO, h0, hv1522, hb3⟩ hs
    have hlt := drop_cons_lt hd
    have hxk1518 := drop_cons_idx hd
    refine c_seq (c_region ?_)
    refine pl_val (.bool (decide ((k1518 : Int) < (a_.2.length : Int)))) (y_lss rfl rfl) ?_
    refine c_nil ?_
    refine c_seq ?_
    refine c_condT (congrArg Value.bool (decide_eq_true hlt)) ?_
    refine wp_skip ?_
    refine c_seq ?_
    refine wp_block ?_
    refine c_seq (c_region ?_)
    obtain ⟨b1524, o1524, hp1524, ha1524⟩ := rs_idx Sl33 Sz81 h0 hxk1518
    refine pl_val (.pointer (some ⟨b1524, o1524, none⟩)) (hp1524 _ _ _ _ _ _ _ _ _ rfl rfl) ?_
    obtain ⟨v1525, hl1525, hv1525⟩ := at_load Ag81 Sz81 (by intro h; cases h) ha1524
    obtain ⟨cs1525, rfl, hr1525⟩ := hv1525
    obtain ⟨cc1525x1, cd1525x1, rfl, hh1525x1, ht1525x1⟩ := pr_open hr1525
    obtain rfl := int_rel hh1525x1
    obtain ⟨a1525x2, n1525x2, c1525x2, rfl, hv1525x2⟩ := rs_rel ht1525x1
    refine pl_val (.agg #[(.int .i64 x1519.1), (.slice a1525x2 n1525x2 c1525x2)]) (y_load rfl (hl1525 _ (Chg.refl _ _))) ?_
    obtain ⟨w1527, g1527, ew1527, eg1527, hC1527, hb1527⟩ := new_block w1517 [(.int .i64 0), (.slice none 0 0)] 81
    refine pl_val (w' := w1527) (.pointer (some ⟨g1527, 0, none⟩)) (y_alloc (by rw [ew1527, eg1527]; kernel_rfl)) ?_
    have h0 := h0.ext hC1527
    have hv1522 := hv1522.ext hC1527
    have hb3 := hb3.chg hC1527 (fun h => nomatch h)
    have hv1525x2 := hv1525x2.ext hC1527
    have hC := hC.ext hC1527
    have hO := hO.new1 hC1527 eg1527 hb1527.lt
    obtain ⟨w1528, hst1528, hC1528, hb1528⟩ := box_store (P := Try.prog) hb1527 [] [(.int .i64 0), (.slice none 0 0)] [] [(.int .i64 x1519.1), (.slice a1525x2 n1525x2 c1525x2)] rfl rfl (by intro u hu; simp only [List.mem_cons, List.not_mem_nil, or_false] at hu; rcases hu with rfl | rfl <;> rfl)
    refine pl_skip (w' := w1528) (ys_store rfl rfl (hst1528 _ _ rfl Sz81)) ?_
    have h0 := h0.mut hC1528 (fun g hg => hO.inM g ((fun _ h => h) g hg)) (fun _ _ h => nomatch h)
    have hv1522 := hv1522.mut hC1528 (fun g hg => hO.inM g ((fun _ h => h) g hg)) (fun g hg e => hO.apart g ((fun _ h => h) g hg) (mem_r (mem_l (e))))
    have hb3 := hb3.chg hC1528 (fun hg => hO.apart _ ((fun _ h => h) _ hg) (mem_l (List.mem_singleton.2 rfl)))
    have hv1525x2 := hv1525x2.mut hC1528 (fun g hg => hO.inM g ((fun _ h => h) g hg)) (fun _ _ h => nomatch h)
    have hC := hC.step hC1528 (fun g hg => hO.inN g ((fun _ h => h) g hg))
    have hO := hO.ext hC1528
    have hb1528 : BoxV w1528 g1527 81 [(.int .i64 x1519.1), (.slice a1525x2 n1525x2 c1525x2)] := hb1528
    refine c_nil ?_
    refine c_seq (c_region ?_)
    refine pl_val (.int .i64 1) (y_assign rfl) ?_
    refine c_nil ?_
    refine c_seq (c_region ?_)
    refine pl_val (.int .i64 0) (y_assign rfl) ?_
    refine c_nil ?_
    obtain ⟨o1648, hl1649, hs⟩ := bind_some hs
    refine wp_block ?_
    refine wp_forC (id := 4) x1519.1 (I := fun k1646 s1644 a w1645 => ∃ (σ : Nat → Value) (f1650 : List Nat), a = fr 66 (ovl σ [(1, (.slice pa1 pn1 pc1)), (2, (.pointer (some ⟨g3, 0, none⟩))), (5, (.bool s1644.1)), (6, (.bool s1644.2.1)), (8, (.pointer (some ⟨g1527, 0, none⟩))), (9, (.int .i64 s1644.2.2.1)), (10, (.int .i64 k1646)), (16, (.slice pa0 pn0 pc0)), (17, (.int .i64 (a_.2.length : Int))), (18, (.int .i64 (k1518 : Int)))]) ∧ Chg (pf1 ++ ([])) w w1645 ∧ Own (Nw w (pf1 ++ ([]))) M w1645 (([g1527]) ++ (([g3]) ++ (f1650 ++ []))) ∧ (RT.rs (RT.pr (RT.int .i64) (RT.rs (RT.int .i64)))).val M w1645 (.slice pa0 pn0 pc0) a_.2 ([]) ∧ (RT.os 3 (RT.int .i64)).val M w1645 (.slice pa1 pn1 pc1) s1644.2.2.2 f1650 ∧ BoxV w1645 g3 35 [(.int .i64 a_.1), (.slice pa0 pn0 pc0)] ∧ (RT.rs (RT.int .i64)).val M w1645 (.slice a1525x2 n1525x2 c1525x2) x1519.2 ([]) ∧ BoxV w1645 g1527 81 [(.int .i64 x1519.1), (.slice a1525x2 n1525x2 c1525x2)]) (J := fun s1644 a w1645 => ∃ (σ : Nat → Value) (f1651 : List Nat), a = fr 66 (ovl σ [(1, (.slice pa1 pn1 pc1)), (2, (.pointer (some ⟨g3, 0, none⟩))), (5, (.bool s1644.1)), (6, (.bool s1644.2.1)), (16, (.slice pa0 pn0 pc0)), (17, (.int .i64 (a_.2.length : Int))), (18, (.int .i64 (k1518 : Int)))]) ∧ Chg (pf1 ++ ([])) w w1645 ∧ Own (Nw w (pf1 ++ ([]))) M w1645 (([g1527]) ++ (([g3]) ++ (f1651 ++ []))) ∧ (RT.rs (RT.pr (RT.int .i64) (RT.rs (RT.int .i64)))).val M w1645 (.slice pa0 pn0 pc0) a_.2 ([]) ∧ (RT.os 3 (RT.int .i64)).val M w1645 (.slice pa1 pn1 pc1) s1644.2.2.2 f1651 ∧ BoxV w1645 g3 35 [(.int .i64 a_.1), (.slice pa0 pn0 pc0)] ∧ (RT.rs (RT.int .i64)).val M w1645 (.slice a1525x2 n1525x2 c1525x2) x1519.2 ([]) ∧ BoxV w1645 g1527 81 [(.int .i64 x1519.1), (.slice a1525x2 n1525x2 c1525x2)]) (K := (k_impl_closePartition M w pa1 pn1 pc1 pf1)) ?_ ?_ 0 (s1516.1, s1516.2.1, 1, s1516.2.2) o1648 _ _ ?_ hl1649 ?_
    ·rintro k1646 s1644 a w1645 ⟨σ, f1650, rfl, hC, hO, h0, hv1650, hb3, hv1525x2, hb1528⟩ hlt
     refine c_seq ?_
     refine c_seq (c_region ?_)
     refine pl_val (.int .i64 k1646) (y_move rfl) ?_
     refine pl_val (.pointer (some ⟨g1527, 0, none⟩)) (y_faddr rfl Fa81x0) ?_
     refine pl_val (.int .i64 x1519.1) (y_load rfl ((box_load Ag3 Sz3 hb1528 [] [(.int .i64 x1519.1)] [(.slice a1525x2 n1525x2 c1525x2)] rfl rfl (fun _ => rfl)) _ (Chg.refl _ _))) ?_
     refine pl_val (.bool (decide (k1646 < x1519.1))) (y_lss rfl rfl) ?_
     refine c_nil ?_
     refine c_condF (congrArg Value.bool (decide_eq_false hlt)) ?_
     refine wp_exit ?_
     have hO := hO.fr2
     have hO := hO.fr2
     have hO := hO.fr2
     exact ⟨rfl, _, f1650, fr_ovl 66 ⟨rfl, rfl, rfl, rfl, rfl, rfl, rfl, trivial⟩, hC, hO, h0, hv1650, hb3, hv1525x2, hb1528⟩
    ·rintro k1646 s1644 o1648 a w1645 ⟨σ, f1650, rfl, hC, hO, h0, hv1650, hb3, hv1525x2, hb1528⟩ hlt hw hs
     refine c_seq ?_
     refine c_seq (c_region ?_)
     refine pl_val (.int .i64 k1646) (y_move rfl) ?_
     refine pl_val (.pointer (some ⟨g1527, 0, none⟩)) (y_faddr rfl Fa81x0) ?_
     refine pl_val (.int .i64 x1519.1) (y_load rfl ((box_load Ag3 Sz3 hb1528 [] [(.int .i64 x1519.1)] [(.slice a1525x2 n1525x2 c1525x2)] rfl rfl (fun _ => rfl)) _ (Chg.refl _ _))) ?_
     refine pl_val (.bool (decide (k1646 < x1519.1))) (y_lss rfl rfl) ?_
     refine c_nil ?_
     refine c_condT (congrArg Value.bool (decide_eq_true hlt)) ?_
     refine wp_skip ?_
     refine c_seq ?_
     refine wp_block ?_
     refine c_seq ?_
     refine c_seq (c_region ?_)
     refine pl_val (.pointer (some ⟨g1527, 1, none⟩)) (y_faddr rfl Fa81x1) ?_
     refine pl_val (.slice a1525x2 n1525x2 c1525x2) (y_load rfl ((box_load Ag22 Sz22 hb1528 [(.int .i64 x1519.1)] [(.slice a1525x2 n1525x2 c1525x2)] [] rfl rfl (fun _ => rfl)) _ (Chg.refl _ _))) ?_
     refine pl_val (.int .i64 (x1519.2.length : Int)) (y_len' Sl22 (rs_len hv1525x2) rfl) ?_
     refine pl_val (.int .i64 0) (y_move rfl) ?_
     refine c_nil ?_
     obtain ⟨o1689, hl1690, hs⟩ := bind_some hs
     refine wp_block ?_
     refine wp_forC (id := 6) (x1519.2.length : Int) (I := fun k1687 s1685 a w1686 => ∃ (σ : Nat → Value) (f1691 : List Nat), a = fr 66 (ovl σ [(1, (.slice pa1 pn1 pc1)), (2, (.pointer (some ⟨g3, 0, none⟩))), (5, (.bool s1685.1)), (6, (.bool s1685.2.1)), (8, (.pointer (some ⟨g1527, 0, none⟩))), (9, (.int .i64 s1644.2.2.1)), (10, (.int .i64 k1646)), (16, (.slice pa0 pn0 pc0)), (17, (.int .i64 (a_.2.length : Int))), (18, (.int .i64 (k1518 : Int))), (29, (.slice a1525x2 n1525x2 c1525x2)), (30, (.int .i64 (x1519.2.length : Int))), (31, (.int .i64 k1687))]) ∧ Chg (pf1 ++ ([])) w w1686 ∧ Own (Nw w (pf1 ++ ([]))) M w1686 (([g1527]) ++ (([g3]) ++ (f1691 ++ []))) ∧ (RT.rs (RT.pr (RT.int .i64) (RT.rs (RT.int .i64)))).val M w1686 (.slice pa0 pn0 pc0) a_.2 ([]) ∧ (RT.os 3 (RT.int .i64)).val M w1686 (.slice pa1 pn1 pc1) s1685.2.2 f1691 ∧ BoxV w1686 g3 35 [(.int .i64 a_.1), (.slice pa0 pn0 pc0)] ∧ (RT.rs (RT.int .i64)).val M w1686 (.slice a1525x2 n1525x2 c1525x2) x1519.2 ([]) ∧ BoxV w1686 g1527 81 [(.int .i64 x1519.1), (.slice a1525x2 n1525x2 c1525x2)]) (J := fun s1685 a w1686 => ∃ (σ : Nat → Value) (f1692 : List Nat), a = fr 66 (ovl σ [(1, (.slice pa1 pn1 pc1)), (2, (.pointer (some ⟨g3, 0, none⟩))), (5, (.bool s1685.1)), (6, (.bool s1685.2.1)), (8, (.pointer (some ⟨g1527, 0, none⟩))), (9, (.int .i64 s1644.2.2.1)), (10, (.int .i64 k1646)), (16, (.slice pa0 pn0 pc0)), (17, (.int .i64 (a_.2.length : Int))), (18, (.int .i64 (k1518 : Int)))]) ∧ Chg (pf1 ++ ([])) w w1686 ∧ Own (Nw w (pf1 ++ ([]))) M w1686 (([g1527]) ++ (([g3]) ++ (f1692 ++ []))) ∧ (RT.rs (RT.pr (RT.int .i64) (RT.rs (RT.int .i64)))).val M w1686 (.slice pa0 pn0 pc0) a_.2 ([]) ∧ (RT.os 3 (RT.int .i64)).val M w1686 (.slice pa1 pn1 pc1) s1685.2.2 f1692 ∧ BoxV w1686 g3 35 [(.int .i64 a_.1), (.slice pa0 pn0 pc0)] ∧ (RT.rs (RT.int .i64)).val M w1686 (.slice a1525x2 n1525x2 c1525x2) x1519.2 ([]) ∧ BoxV w1686 g1527 81 [(.int .i64 x1519.1), (.slice a1525x2 n1525x2 c1525x2)]) (K := (k_impl_closePartition M w pa1 pn1 pc1 pf1)) ?_ ?_ 0 (s1644.1, s1644.2.1, s1644.2.2.2) o1689 _ _ ?_ hl1690 ?_
     ·rintro k1687 s1685 a w1686 ⟨σ, f1691, rfl, hC, hO, h0, hv1691, hb3, hv1525x2, hb1528⟩ hlt
      refine c_seq (c_region ?_)
      refine pl_val (.bool (decide (k1687 < (x1519.2.length : Int)))) (y_lss rfl rfl) ?_
      refine c_nil ?_
      refine c_seq ?_
      refine c_condF (congrArg Value.bool (decide_eq_false hlt)) ?_
      refine wp_exit ?_
      have hO := hO.fr2
      have hO := hO.fr2
      have hO := hO.fr2
      exact ⟨rfl, _, f1691, fr_ovl 66 ⟨rfl, rfl, rfl, rfl, rfl, rfl, rfl, rfl, rfl, rfl, trivial⟩, hC, hO, h0, hv1691, hb3, hv1525x2, hb1528⟩
     ·rintro k1687 s1685 o1689 a w1686 ⟨σ, f1691, rfl, hC, hO, h0, hv1691, hb3, hv1525x2, hb1528⟩ hlt hw hs
      refine c_seq (c_region ?_)
      refine pl_val (.bool (decide (k1687 < (x1519.2.length : Int)))) (y_lss rfl rfl) ?_
      refine c_nil ?_
      refine c_seq ?_
      refine c_condT (congrArg Value.bool (decide_eq_true hlt)) ?_
      refine wp_skip ?_
      refine c_seq ?_
      refine wp_block ?_
      refine c_seq (c_region ?_)
      refine pl_val (.int .i64 k1687) (y_move rfl) ?_
      obtain ⟨x1693, hx1693, hs⟩ := bind_some hs
      obtain ⟨b1694, o1694, hp1694, ha1694⟩ := rs_idx Sl22 Sz3 hv1525x2 hx1693
      refine pl_val (.pointer (some ⟨b1694, o1694, none⟩)) (hp1694 _ _ _ _ _ _ _ _ _ rfl rfl) ?_
      refine pl_val (.int .i64 x1693) (y_load rfl ((at_load_int Ag3 Sz3 ha1694) _ (Chg.refl _ _))) ?_
      refine pl_val (.int .i64 k1687) (y_assign rfl) ?_
      refine pl_val (.int .i64 x1693) (y_assign rfl) ?_
      refine c_nil ?_
      refine c_seq ?_
      refine x_start [] Mx rfl ?_
      have hCw1698 := Chg.drew w1686
      generalize World.drew w1686 = w1698 at hCw1698 ⊢
      have h0 := h0.ext hCw1698
      have hv1691 := hv1691.ext hCw1698
      have hb3 := hb3.chg hCw1698 (fun h => nomatch h)
      have hv1525x2 := hv1525x2.ext hCw1698
      have hb1528 := hb1528.chg hCw1698 (fun h => nomatch h)
      have hC := hC.ext hCw1698
      have hO := hO.ext hCw1698
      have hS := Chg.refl [] w1698
      refine x_p 0 (.int .i64 k1687) rfl (by kernel_rfl)  (fun _ => y_move rfl) (fun _ => hS) ?_
      refine x_p 1 (.int .i64 s1644.2.2.1) rfl (by kernel_rfl)  (fun _ => y_move rfl) (fun _ => hS) ?_
      obtain ⟨u1699, hu1699, hs⟩ := bind_some hs
      refine x_p 2 (.int .i64 (w64 (Int.tdiv k1687 s1644.2.2.1))) rfl (by kernel_rfl)  (fun _ => y_quo rfl rfl (nz_ne hu1699)) (fun _ => hS) ?_
      refine x_p 3 (.pointer (some ⟨g3, 0, none⟩)) rfl (by kernel_rfl)  (fun _ => y_faddr rfl Fa35x0) (fun _ => hS) ?_
      refine x_l 4 (.int .i64 a_.1) rfl (by kernel_rfl)  (fun w' hw' => y_load rfl ((box_load Ag3 Sz3 hb3 [] [(.int .i64 a_.1)] [(.slice pa0 pn0 pc0)] rfl rfl (fun _ => rfl)) w' hw')) hS ?_
      obtain ⟨u1700, hu1700, hs⟩ := bind_some hs
      refine x_p 5 (.int .i64 (Int.tmod (w64 (Int.tdiv k1687 s1644.2.2.1)) a_.1)) rfl (by kernel_rfl)  (fun _ => y_rem rfl rfl (nz_ne hu1700)) (fun _ => hS) ?_
      refine x_p 6 (.int .i64 (Int.tmod (w64 (Int.tdiv k1687 s1644.2.2.1)) a_.1)) rfl (by kernel_rfl)  (fun _ => y_assign rfl) (fun _ => hS) ?_
      refine x_end (by kernel_rfl) ?_
      clear hS
      refine c_seq ?_
      refine x_start [16] Mx rfl ?_
      have hCw1701 := Chg.drew w1698
      generalize World.drew w1698 = w1701 at hCw1701 ⊢
      have h0 := h0.ext hCw1701
      have hv1691 := hv1691.ext hCw1701
      have hb3 := hb3.chg hCw1701 (fun h => nomatch h)
      have hv1525x2 := hv1525x2.ext hCw1701
      have hb1528 := hb1528.chg hCw1701 (fun h => nomatch h)
      have hC := hC.ext hCw1701
      have hO := hO.ext hCw1701
      have hS := Chg.refl [] w1701
      refine x_p 0 (.slice pa1 pn1 pc1) rfl (by kernel_rfl)  (fun _ => y_move rfl) (fun _ => hS) ?_
      refine x_p 1 (.int .i64 x1693) rfl (by kernel_rfl)  (fun _ => y_move rfl) (fun _ => hS) ?_
      refine x_p 2 (.pointer (some ⟨g1527, 1, none⟩)) rfl (by kernel_rfl)  (fun _ => y_faddr rfl Fa81x1) (fun _ => hS) ?_
      refine x_l 3 (.slice a1525x2 n1525x2 c1525x2) rfl (by kernel_rfl)  (fun w' hw' => y_load rfl ((box_load Ag22 Sz22 hb1528 [(.int .i64 x1519.1)] [(.slice a1525x2 n1525x2 c1525x2)] [] rfl rfl (fun _ => rfl)) w' hw')) hS ?_
      refine x_p 4 (.int .i64 k1687) rfl (by kernel_rfl)  (fun _ => y_move rfl) (fun _ => hS) ?_
      refine x_p 5 (.slice pa1 pn1 pc1) rfl (by kernel_rfl)  (fun _ => y_move rfl) (fun _ => hS) ?_
      refine x_p 6 (.int .i64 (Int.tmod (w64 (Int.tdiv k1687 s1644.2.2.1)) a_.1)) rfl (by kernel_rfl)  (fun _ => y_move rfl) (fun _ => hS) ?_
      obtain ⟨x1702, hx1702, hs⟩ := bind_some hs
      obtain ⟨g1703, f1703, hg1703, hk1703, hp1703, ha1703, hf1703⟩ := os_idx Sl22 Sz3 hv1691 hx1702
      refine x_p 7 (.pointer (some ⟨g1703, 0 + Int.toNat (Int.tmod (w64 (Int.tdiv k1687 s1644.2.2.1)) a_.1) * 1, none⟩)) rfl (by kernel_rfl)  (fun _ => hp1703 _ _ _ _ _ _ _ _ _ rfl rfl) (fun _ => hS) ?_
      refine x_l 8 (.int .i64 x1702) rfl (by kernel_rfl)  (fun w' hw' => y_load rfl ((at_load_int Ag3 Sz3 ha1703) w' hw')) hS ?_
      refine x_p 9 (.int .i64 (Int.tmod (w64 (Int.tdiv k1687 s1644.2.2.1)) a_.1)) rfl (by kernel_rfl)  (fun _ => y_move rfl) (fun _ => hS) ?_
      refine x_p 10 (.int .i64 (w64 (x1702 - (Int.tmod (w64 (Int.tdiv k1687 s1644.2.2.1)) a_.1)))) rfl (by kernel_rfl)  (fun _ => y_sub rfl rfl) (fun _ => hS) ?_
      refine x_p 11 (.int .i64 s1644.2.2.1) rfl (by kernel_rfl)  (fun _ => y_move rfl) (fun _ => hS) ?_
      refine x_p 12 (.int .i64 (w64 ((w64 (x1702 - (Int.tmod (w64 (Int.tdiv k1687 s1644.2.2.1)) a_.1))) * s1644.2.2.1))) rfl (by kernel_rfl)  (fun _ => y_mul rfl rfl) (fun _ => hS) ?_
      refine x_p 13 (.int .i64 (w64 (k1687 + (w64 ((w64 (x1702 - (Int.tmod (w64 (Int.tdiv k1687 s1644.2.2.1)) a_.1))) * s1644.2.2.1))))) rfl (by kernel_rfl)  (fun _ => y_add rfl rfl) (fun _ => hS) ?_
      obtain ⟨x1704, hx1704, hs⟩ := bind_some hs
      obtain ⟨b1705, o1705, hp1705, ha1705⟩ := rs_idx Sl22 Sz3 hv1525x2 hx1704
      refine x_p 14 (.pointer (some ⟨b1705, o1705, none⟩)) rfl (by kernel_rfl)  (fun _ => hp1705 _ _ _ _ _ _ _ _ _ rfl rfl) (fun _ => hS) ?_
      refine x_l 15 (.int .i64 x1704) rfl (by kernel_rfl)  (fun w' hw' => y_load rfl ((at_load_int Ag3 Sz3 ha1705) w' hw')) hS ?_
      refine x_one (i := 16) (by kernel_rfl) ?_
      have hO := hO.fr2
      have hL1706 := hO
      have hI1706 := Own.lend (F := (f1691 ++ ([]))) (R := ([g1527]) ++ (([g3]) ++ ([]))) (Own.perm (hL1706) (by simp))
      obtain ⟨r1707, hr1707, hs⟩ := bind_some hs
      refine xk_call (b := true) rfl  Bd103 rfl (c_impl_unite (M := M) s1685.2.2 x1693 x1704 hv1691 hI1706 hI1706.fut hr1707) rfl (fun h => nomatch h) ?_
      rintro _ w1706 ⟨fi1706x0, rfl, hC1706, hvi1706x0, hOc1706⟩
      have hO := hO.perm (R := (f1691 ++ ([])) ++ (([g1527]) ++ (([g3]) ++ ([])))) (by simp)
      have h0 := h0.mut hC1706 (fun g hg => hO.inM g ((fun _ h => h) g hg)) (fun _ _ h => nomatch h)
      have hb3 := hb3.chg hC1706 (fun hg => hO.apart _ ((fun _ h => h) _ hg) (mem_r (mem_l (List.mem_singleton.2 rfl))))
      have hv1525x2 := hv1525x2.mut hC1706 (fun g hg => hO.inM g ((fun _ h => h) g hg)) (fun _ _ h => nomatch h)
      have hb1528 := hb1528.chg hC1706 (fun hg => hO.apart _ ((fun _ h => h) _ hg) (mem_l (List.mem_singleton.2 rfl)))
      have hC := hC.step hC1706 (fun g hg => hO.inN g ((fun _ h => h) g hg))
      have hO := Own.join hO hC1706 hOc1706
      have hO := hO.perm (R := fi1706x0 ++ (([g1527]) ++ (([g3]) ++ ([])))) (by simp)
      refine x_end (by kernel_rfl) ?_
      clear hS
      rcases bif_some hs with ⟨hc1708, hs⟩ | ⟨hc1708, hs⟩
      ·skip
       refine c_condT (congrArg Value.bool hc1708) ?_
       refine c_region ?_
       refine pl_val (.bool true) (y_assign rfl) ?_
       refine pl_val (.bool true) (y_assign rfl) ?_
       refine c_nil ?_
       refine c_region ?_
       refine pl_val (.int .i64 (w64 (k1687 + 1))) (y_add rfl rfl) ?_
       refine pl_val (.int .i64 (w64 (k1687 + 1))) (y_move rfl) ?_
       refine c_nil ?_
       cases hs
       have hO := hO.fr2
       have hO := hO.fr2
       exact ⟨_, fi1706x0, fr_ovl 66 ⟨rfl, rfl, rfl, rfl, rfl, rfl, rfl, rfl, rfl, rfl, rfl, rfl, congrArg (Value.int .i64) hw, trivial⟩, hC, hO, h0, hvi1706x0, hb3, hv1525x2, hb1528⟩
      ·skip
       refine c_condF (congrArg Value.bool hc1708) ?_
       refine wp_skip ?_
       refine c_region ?_
       refine pl_val (.int .i64 (w64 (k1687 + 1))) (y_add rfl rfl) ?_
       refine pl_val (.int .i64 (w64 (k1687 + 1))) (y_move rfl) ?_
       refine c_nil ?_
       cases hs
       have hO := hO.fr2
       have hO := hO.fr2
       exact ⟨_, fi1706x0, fr_ovl 66 ⟨rfl, rfl, rfl, rfl, rfl, rfl, rfl, rfl, rfl, rfl, rfl, rfl, congrArg (Value.int .i64) hw, trivial⟩, hC, hO, h0, hvi1706x0, hb3, hv1525x2, hb1528⟩
     ·skip
      have hO := hO.fr2
      have hO := hO.fr2
      have hO := hO.fr2
      exact ⟨_, f1650, fr_ovl 66 ⟨rfl, rfl, rfl, rfl, rfl, rfl, rfl, rfl, rfl, rfl, rfl, rfl, rfl, trivial⟩, hC, hO, h0, hv1650, hb3, hv1525x2, hb1528⟩
     ·cases o1689 with
      | nx _ => exact True.intro
      | rt r_ =>
       have hs := after_rt hs
       intro a1 w1 hK
       cases hs
       exact hK
      | br s1685 =>
       have hs := after_br hs
       rintro a1 w1686 ⟨σ, f1692, rfl, hC, hO, h0, hv1692, hb3, hv1525x2, hb1528⟩
       refine c_region ?_
       refine pl_val (.int .i64 s1644.2.2.1) (y_move rfl) ?_
       refine pl_val (.pointer (some ⟨g3, 0, none⟩)) (y_faddr rfl Fa35x0) ?_
       refine pl_val (.int .i64 a_.1) (y_load rfl ((box_load Ag3 Sz3 hb3 [] [(.int .i64 a_.1)] [(.slice pa0 pn0 pc0)] rfl rfl (fun _ => rfl)) _ (Chg.refl _ _))) ?_
       refine pl_val (.int .i64 (w64 (s1644.2.2.1 * a_.1))) (y_mul rfl rfl) ?_
       refine pl_val (.int .i64 (w64 (s1644.2.2.1 * a_.1))) (y_assign rfl) ?_
       refine c_nil ?_
       refine c_region ?_
       refine pl_val (.int .i64 k1646) (y_move rfl) ?_
       refine pl_val (.int .i64 (w64 (k1646 + 1))) (y_add rfl rfl) ?_
       refine pl_val (.int .i64 (w64 (k1646 + 1))) (y_assign rfl) ?_
       refine c_nil ?_
       cases hs
       have hO := hO.fr2
       have hO := hO.fr2
       have hO := hO.fr2
       exact ⟨_, f1692, fr_ovl 66 ⟨rfl, rfl, rfl, rfl, rfl, rfl, congrArg (Value.int .i64) hw, rfl, rfl, rfl, trivial⟩, hC, hO, h0, hv1692, hb3, hv1525x2, hb1528⟩
    ·skip
     have hO := hO.fr2
     have hO := hO.fr2
     have hO := hO.fr2
     exact ⟨_, f1522, fr_ovl 66 ⟨rfl, rfl, rfl, rfl, rfl, rfl, rfl, rfl, rfl, rfl, trivial⟩, hC, hO, h0, hv1522, hb3, hv1525x2, hb1528⟩
    ·cases o1648 with
     | nx _ => exact True.intro
     | rt r_ =>
      have hs := after_rt hs
      intro a1 w1 hK
      cases hs
      exact hK
     | br s1644 =>
      have hs := after_br hs
      rintro a1 w1645 ⟨σ, f1651, rfl, hC, hO, h0, hv1651, hb3, hv1525x2, hb1528⟩
      refine c_region ?_
      refine pl_val (.int .i64 (w64 ((k1518 : Int) + 1))) (y_add rfl rfl) ?_
      refine pl_val (.int .i64 (w64 ((k1518 : Int) + 1))) (y_move rfl) ?_
      refine c_nil ?_
      cases hs
      have hO := hO.drop
      have hO := hO.fr1
      have hO := hO.fr1
      exact ⟨_, rfl, drop_cons_next hd, _, f1651, fr_ovl 66 ⟨rfl, rfl, rfl, rfl, rfl, rfl, congrArg (Value.int .i64) (w64_succ hlt (Int.natCast_nonneg _) (rs_max h0)), trivial⟩, hC, hO, h0, hv1651, hb3⟩
   ·skip
    have hO := hO.fr1
    have hO := hO.fr1
    exact ⟨0, rfl, rfl, _, f1142, fr_ovl 66 ⟨rfl, rfl, rfl, rfl, rfl, rfl, rfl, trivial⟩, hC, hO, h0, hv1142, hb3⟩
   ·cases o1520 with
    | nx _ => exact True.intro
    | rt r_ =>
     have hs := after_rt hs
     intro a1 w1 hK
     cases hs
     exact hK
    | br s1516 =>
     have hs := after_br hs
     rintro a1 w1517 ⟨σ, f1523, rfl, hC, hO, h0, hv1523, hb3⟩
     cases hs
     have hO := hO.fr1
     have hO := hO.fr1
     exact ⟨_, f1523, fr_ovl 66 ⟨rfl, rfl, rfl, rfl, trivial⟩, hC, hO, h0, hv1523, hb3⟩
  ·skip
   refine c_condF (congrArg Value.bool hc1144) ?_
   refine wp_exit ?_
   cases hs
   have hO := hO.fr1
   have hO := hO.fr1
   exact ⟨rfl, _, f1142, fr_ovl 66 ⟨rfl, trivial⟩, hC, hO, h0, hv1142, hb3⟩
 ·skip
  have hO := hO.fr1
  have hO := hO.fr1
  exact ⟨_, pf1, fr_ovl 66 ⟨rfl, rfl, rfl, rfl, trivial⟩, hC, hO, h0, h1, hb3⟩
 ·cases o1140 with
  | nx _ => exact True.intro
  | rt r_ =>
   have hs := after_rt hs
   intro a1 w1 hK
   cases hs
   exact hK
  | br s1136 =>
   have hs := after_br hs
   rintro a1 w1137 ⟨σ, f1143, rfl, hC, hO, h0, hv1143, hb3⟩
   refine c_seq (c_region ?_)
   refine pl_val (.bool s1136.1) (y_move rfl) ?_
   refine pl_val (.bool s1136.1) (y_assign rfl) ?_
   refine c_nil ?_
   refine wp_ret ?_
   cases hs
   have hO := hO.drop
   exact ⟨_, f1143, fr_ovl 66 ⟨rfl, trivial⟩, hC, hv1143, hO.top⟩

theorem Bd126 : Bodied Try.prog 126 := bodied Try.func126 (by kernel_rfl) rfl

theorem Sl111 : SlT Try.prog 111 103 := Try.underlying111

theorem Sz103 : SzT Try.prog 103 2 := ⟨_, rfl, rfl⟩

theorem Ag103 : AggT Try.prog 103 true := fun _ => by kernel_rfl

theorem Bd97 : Bodied Try.prog 97 := bodied Try.func97 (by kernel_rfl) rfl

def k_impl_congruenceOf (M : Nat → Prop) (w0 : World) (r : (List Int)) (a : Act) (w : World) : Prop :=
  ∃ (σ : Nat → Value) (ra0 : Option Addr) (rn0 rc0 : Nat) (rf0 : List Nat), a = fr 28 (ovl σ [(4, (.slice ra0 rn0 rc0))]) ∧ Chg [] w0 w ∧ (RT.os 3 (RT.int .i64)).val M w (.slice ra0 rn0 rc0) r rf0 ∧ Own (Nw w0 []) (fun _ => True) w (rf0 ++ ([]))
def s_impl_congruenceOf (a_ : Int × (List (Int × (List Int)))) (pairs : List (Int × Int)) : Option ((List Int)) :=
  (s_impl_identityOf a_.1).bind fun r5 =>
  (forR (S := (List Int)) (R := (List Int)) (fun _ x23 s20 =>
  (s_impl_unite s20 x23.1 x23.2).bind fun r33 =>
  some (.nx r33.2)) 0 pairs r5).bind fun o24 => after o24 (fun r_ => some r_) (fun s20 =>
  (s_impl_closePartition (a_.1, a_.2) s20).bind fun r35 =>
  some r35.2)
set_option maxHeartbeats 4000000 in
theorem c_impl_congruenceOf {M : Nat → Prop} {w : World} {pa0 : Option Addr} {pn0 pc0 : Nat} {pa1 : Option Addr} {pn1 pc1 : Nat} (a_ : Int × (List (Int × (List Int)))) (pairs : List (Int × Int)) (h0 : (RT.rs (RT.pr (RT.int .i64) (RT.rs (RT.int .i64)))).val M w (.slice pa0 pn0 pc0) a_.2 ([])) (h1 : (RT.rs (RT.pr (RT.int .i64) (RT.int .i64))).val M w (.slice pa1 pn1 pc1) pairs ([])) (hM : ∀ g, w.heap.size ≤ g → M g) {r : (List Int)} (hs : s_impl_congruenceOf a_ pairs = some r) :
    Gives Try.prog 125 [(.agg #[(.int .i64 a_.1), (.slice pa0 pn0 pc0)]), (.slice pa1 pn1 pc1)] w (fun v w' => ∃ (ra0 : Option Addr) (rn0 rc0 : Nat) (rf0 : List Nat), v = (.slice ra0 rn0 rc0) ∧ Chg [] w w' ∧ (RT.os 3 (RT.int .i64)).val M w' (.slice ra0 rn0 rc0) r rf0 ∧ Own (Nw w []) (fun _ => True) w' (rf0 ++ ([]))) := by
 refine calls_fr Try.func125 rfl Try.ntmps125 (Nat.le_of_ble_eq_true rfl) ?_
 have hO := Own.start (N := Nw w []) hM Nw.fut
 have hC := Chg.refl [] w
 unfold s_impl_congruenceOf at hs
 refine wp_mono (Q := KPost (k_impl_congruenceOf M w r)) ?_ (fun e a w1 h => ?_)
 rotate_left
 ·cases e
  case ret =>
   obtain ⟨σ, ra0, rn0, rc0, rf0, rfl, hrest⟩ := h
   exact ret1x Try.results125 (res_tmp rfl) ⟨ra0, rn0, rc0, rf0, rfl, hrest⟩
  all_goals exact (h : False).elim
 refine c_seq (c_region ?_)
 obtain ⟨w3, g3, ew3, eg3, hC3, hb3⟩ := new_block w [(.int .i64 a_.1), (.slice pa0 pn0 pc0)] 35
 refine pl_val (w' := w3) (.pointer (some ⟨g3, 0, none⟩)) (y_box rfl (by rw [ew3, eg3]; kernel_rfl)) ?_
 have h0 := h0.ext hC3
 have h1 := h1.ext hC3
 have hC := hC.ext hC3
 have hO := hO.new1 hC3 eg3 hb3.lt
 refine pl_val (.slice none 0 0) (y_assign rfl) ?_
 refine c_nil ?_
 refine c_seq (c_region ?_)
 refine pl_val (.pointer (some ⟨g3, 0, none⟩)) (y_faddr rfl Fa35x0) ?_
 refine pl_val (.int .i64 a_.1) (y_load rfl ((box_load Ag3 Sz3 hb3 [] [(.int .i64 a_.1)] [(.slice pa0 pn0 pc0)] rfl rfl (fun _ => rfl)) _ (Chg.refl _ _))) ?_
 obtain ⟨r5, hr5, hs⟩ := bind_some hs
 refine pl_call Bd126 rfl (c_impl_identityOf (M := M) a_.1  hO.fut hr5) ?_
 rintro _ w4 ⟨a4x0, n4x0, c4x0, f4x0, rfl, hC4, hv4x0, hOc4⟩
 have h0 := h0.ext hC4
 have h1 := h1.ext hC4
 have hb3 := hb3.chg hC4 (fun h => nomatch h)
 have hC := hC.ext hC4
 have hO := Own.join0 hO hC4 hOc4
 have hO := hO.perm (R := f4x0 ++ (([g3]) ++ ([]))) (by simp)
 refine pl_val (.slice a4x0 n4x0 c4x0) (y_assign rfl) ?_
 refine c_nil ?_
 refine c_seq ?_
 refine c_seq (c_region ?_)
 refine pl_val (.slice pa1 pn1 pc1) (y_move rfl) ?_
 refine pl_val (.int .i64 (pairs.length : Int)) (y_len' Sl111 (rs_len h1) rfl) ?_
 refine pl_val (.int .i64 0) (y_move rfl) ?_
 refine c_nil ?_
 obtain ⟨o24, hl25, hs⟩ := bind_some hs
 refine wp_block ?_
 refine wp_forR (id := 0) (I := fun i_ xs_ s20 a w21 => ∃ k22 : Nat, i_ = (k22 : Int) ∧ List.drop k22 pairs = xs_ ∧ (∃ (σ : Nat → Value) (f26 : List Nat), a = fr 28 (ovl σ [(2, (.pointer (some ⟨g3, 0, none⟩))), (5, (.slice a4x0 n4x0 c4x0)), (11, (.slice pa1 pn1 pc1)), (12, (.int .i64 (pairs.length : Int))), (13, (.int .i64 (k22 : Int)))]) ∧ Chg [] w w21 ∧ Own (Nw w []) M w21 (f26 ++ (([g3]) ++ [])) ∧ (RT.rs (RT.pr (RT.int .i64) (RT.rs (RT.int .i64)))).val M w21 (.slice pa0 pn0 pc0) a_.2 ([]) ∧ (RT.rs (RT.pr (RT.int .i64) (RT.int .i64))).val M w21 (.slice pa1 pn1 pc1) pairs ([]) ∧ BoxV w21 g3 35 [(.int .i64 a_.1), (.slice pa0 pn0 pc0)] ∧ (RT.os 3 (RT.int .i64)).val M w21 (.slice a4x0 n4x0 c4x0) s20 f26)) (J := fun s20 a w21 => ∃ (σ : Nat → Value) (f27 : List Nat), a = fr 28 (ovl σ [(2, (.pointer (some ⟨g3, 0, none⟩))), (5, (.slice a4x0 n4x0 c4x0))]) ∧ Chg [] w w21 ∧ Own (Nw w []) M w21 (f27 ++ (([g3]) ++ [])) ∧ (RT.rs (RT.pr (RT.int .i64) (RT.rs (RT.int .i64)))).val M w21 (.slice pa0 pn0 pc0) a_.2 ([]) ∧ (RT.rs (RT.pr (RT.int .i64) (RT.int .i64))).val M w21 (.slice pa1 pn1 pc1) pairs ([]) ∧ BoxV w21 g3 35 [(.int .i64 a_.1), (.slice pa0 pn0 pc0)] ∧ (RT.os 3 (RT.int .i64)).val M w21 (.slice a4x0 n4x0 c4x0) s20 f27) (K := (k_impl_congruenceOf M w)) ?_ ?_ pairs 0 r5 o24 _ _ ?_ hl25 ?_
 ·rintro _ s20 a w21 ⟨k22, rfl, hd, σ, f26, rfl, hC, hO, h0, h1, hb3, hv26⟩
  have hlt := drop_nil_ge hd
  refine c_seq (c_region ?_)
  refine pl_val (.bool (decide ((k22 : Int) < (pairs.length : Int)))) (y_lss rfl rfl) ?_
  refine c_nil ?_
  refine c_seq ?_
  refine c_condF (congrArg Value.bool (decide_eq_false hlt)) ?_
  refine wp_exit ?_
  have hO := hO.fr1
  have hO := hO.fr1
  exact ⟨rfl, _, f26, fr_ovl 28 ⟨rfl, rfl, trivial⟩, hC, hO, h0, h1, hb3, hv26⟩
 ·rintro _ x23 xs_ s20 o24 a w21 ⟨k22, rfl, hd, σ, f26, rfl, hC, hO, h0, h1, hb3, hv26⟩ hs
  have hlt := drop_cons_lt hd
  have hxk22 := drop_cons_idx hd
  refine c_seq (c_region ?_)
  refine pl_val (.bool (decide ((k22 : Int) < (pairs.length : Int)))) (y_lss rfl rfl) ?_
  refine c_nil ?_
  refine c_seq ?_
  refine c_condT (congrArg Value.bool (decide_eq_true hlt)) ?_
  refine wp_skip ?_
  refine c_seq ?_
  refine wp_block ?_
  refine c_seq (c_region ?_)
  obtain ⟨b28, o28, hp28, ha28⟩ := rs_idx Sl111 Sz103 h1 hxk22
  refine pl_val (.pointer (some ⟨b28, o28, none⟩)) (hp28 _ _ _ _ _ _ _ _ _ rfl rfl) ?_
  obtain ⟨v29, hl29, hv29⟩ := at_load Ag103 Sz103 (by intro h; cases h) ha28
  obtain ⟨cs29, rfl, hr29⟩ := hv29
  obtain ⟨cc29x1, cd29x1, rfl, hh29x1, ht29x1⟩ := pr_open hr29
  obtain rfl := int_rel hh29x1
  obtain rfl := int_rel ht29x1
  refine pl_val (.agg #[(.int .i64 x23.1), (.int .i64 x23.2)]) (y_load rfl (hl29 _ (Chg.refl _ _))) ?_
  obtain ⟨w30, g30, ew30, eg30, hC30, hb30⟩ := new_block w21 [(.int .i64 0), (.int .i64 0)] 103
  refine pl_val (w' := w30) (.pointer (some ⟨g30, 0, none⟩)) (y_alloc (by rw [ew30, eg30]; kernel_rfl)) ?_
  have h0 := h0.ext hC30
  have h1 := h1.ext hC30
  have hb3 := hb3.chg hC30 (fun h => nomatch h)
  have hv26 := hv26.ext hC30
  have hC := hC.ext hC30
  have hO := hO.new1 hC30 eg30 hb30.lt
  obtain ⟨w31, hst31, hC31, hb31⟩ := box_store (P := Try.prog) hb30 [] [(.int .i64 0), (.int .i64 0)] [] [(.int .i64 x23.1), (.int .i64 x23.2)] rfl rfl (by intro u hu; simp only [List.mem_cons, List.not_mem_nil, or_false] at hu; rcases hu with rfl | rfl <;> rfl)
  refine pl_skip (w' := w31) (ys_store rfl rfl (hst31 _ _ rfl Sz103)) ?_
  have h0 := h0.mut hC31 (fun g hg => hO.inM g ((fun _ h => h) g hg)) (fun _ _ h => nomatch h)
  have h1 := h1.mut hC31 (fun g hg => hO.inM g ((fun _ h => h) g hg)) (fun _ _ h => nomatch h)
  have hb3 := hb3.chg hC31 (fun hg => hO.apart _ ((fun _ h => h) _ hg) (mem_r (mem_l (List.mem_singleton.2 rfl))))
  have hv26 := hv26.mut hC31 (fun g hg => hO.inM g ((fun _ h => h) g hg)) (fun g hg e => hO.apart g ((fun _ h => h) g hg) (mem_l (e)))
  have hC := hC.step hC31 (fun g hg => hO.inN g ((fun _ h => h) g hg))
  have hO := hO.ext hC31
  have hb31 : BoxV w31 g30 103 [(.int .i64 x23.1), (.int .i64 x23.2)] := hb31
  refine c_nil ?_
  refine c_region ?_
  refine pl_val (.slice a4x0 n4x0 c4x0) (y_move rfl) ?_
  refine pl_val (.pointer (some ⟨g30, 0, none⟩)) (y_aidx (i := 0) (n := 2) Try.underlying103 Sz3 rfl rfl (by decide)) ?_
  refine pl_val (.int .i64 x23.1) (y_load rfl ((box_load Ag3 Sz3 hb31 [] [(.int .i64 x23.1)] [(.int .i64 x23.2)] rfl rfl (fun _ => rfl)) _ (Chg.refl _ _))) ?_
  refine pl_val (.pointer (some ⟨g30, 1, none⟩)) (y_aidx (i := 1) (n := 2) Try.underlying103 Sz3 rfl rfl (by decide)) ?_
  refine pl_val (.int .i64 x23.2) (y_load rfl ((box_load Ag3 Sz3 hb31 [(.int .i64 x23.1)] [(.int .i64 x23.2)] [] rfl rfl (fun _ => rfl)) _ (Chg.refl _ _))) ?_
  have hO := hO.fr1
  have hL32 := hO
  have hI32 := Own.lend (F := (f26 ++ ([]))) (R := ([g30]) ++ (([g3]) ++ ([]))) (Own.perm (hL32) (by simp))
  obtain ⟨r33, hr33, hs⟩ := bind_some hs
  refine pl_call Bd103 rfl (c_impl_unite (M := M) s20 x23.1 x23.2 hv26 hI32 hI32.fut hr33) ?_
  rintro _ w32 ⟨fi32x0, rfl, hC32, hvi32x0, hOc32⟩
  have hO := hO.perm (R := (f26 ++ ([])) ++ (([g30]) ++ (([g3]) ++ ([])))) (by simp)
  have h0 := h0.mut hC32 (fun g hg => hO.inM g ((fun _ h => h) g hg)) (fun _ _ h => nomatch h)
  have h1 := h1.mut hC32 (fun g hg => hO.inM g ((fun _ h => h) g hg)) (fun _ _ h => nomatch h)
  have hb3 := hb3.chg hC32 (fun hg => hO.apart _ ((fun _ h => h) _ hg) (mem_r (mem_l (List.mem_singleton.2 rfl))))
  have hb31 := hb31.chg hC32 (fun hg => hO.apart _ ((fun _ h => h) _ hg) (mem_l (List.mem_singleton.2 rfl)))
  have hC := hC.step hC32 (fun g hg => hO.inN g ((fun _ h => h) g hg))
  have hO := Own.join hO hC32 hOc32
  have hO := hO.perm (R := fi32x0 ++ (([g30]) ++ (([g3]) ++ ([])))) (by simp)
  refine c_nil ?_
  refine c_region ?_
  refine pl_val (.int .i64 (w64 ((k22 : Int) + 1))) (y_add rfl rfl) ?_
  refine pl_val (.int .i64 (w64 ((k22 : Int) + 1))) (y_move rfl) ?_
  refine c_nil ?_
  cases hs
  have hO := hO.fr1
  have hO := hO.drop
  have hO := hO.fr1
  have hO := hO.fr1
  exact ⟨_, rfl, drop_cons_next hd, _, fi32x0, fr_ovl 28 ⟨rfl, rfl, rfl, rfl, congrArg (Value.int .i64) (w64_succ hlt (Int.natCast_nonneg _) (rs_max h1)), trivial⟩, hC, hO, h0, h1, hb3, hvi32x0⟩
 ·skip
  have hO := hO.fr1
  have hO := hO.fr1
  exact ⟨0, rfl, rfl, _, f4x0, fr_ovl 28 ⟨rfl, rfl, rfl, rfl, rfl, trivial⟩, hC, hO, h0, h1, hb3, hv4x0⟩
 ·cases o24 with
  | nx _ => exact True.intro
  | rt r_ =>
   have hs := after_rt hs
   intro a1 w1 hK
   cases hs
   exact hK
  | br s20 =>
   have hs := after_br hs
   rintro a1 w21 ⟨σ, f27, rfl, hC, hO, h0, h1, hb3, hv27⟩
   refine c_seq (c_region ?_)
   refine pl_val (.agg #[(.int .i64 a_.1), (.slice pa0 pn0 pc0)]) (y_load rfl ((box_load Ag35 Sz35 hb3 [] [(.int .i64 a_.1), (.slice pa0 pn0 pc0)] [] rfl rfl (fun h => nomatch h)) _ (Chg.refl _ _))) ?_
   refine pl_val (.slice a4x0 n4x0 c4x0) (y_move rfl) ?_
   have hL34 := hO
   have hI34 := Own.lend (F := (f27 ++ ([]))) (R := ([g3]) ++ ([])) (Own.perm (hL34) (by simp))
   obtain ⟨r35, hr35, hs⟩ := bind_some hs
   refine pl_call Bd97 rfl (c_impl_closePartition (M := M) (a_.1, a_.2) s20 h0 hv27 hI34 hI34.fut hr35) ?_
   rintro _ w34 ⟨fi34x0, rfl, hC34, hvi34x0, hOc34⟩
   have hO := hO.perm (R := (f27 ++ ([])) ++ (([g3]) ++ ([]))) (by simp)
   have h0 := h0.mut hC34 (fun g hg => hO.inM g ((fun _ h => h) g hg)) (fun _ _ h => nomatch h)
   have h1 := h1.mut hC34 (fun g hg => hO.inM g ((fun _ h => h) g hg)) (fun _ _ h => nomatch h)
   have hb3 := hb3.chg hC34 (fun hg => hO.apart _ ((fun _ h => h) _ hg) (mem_l (List.mem_singleton.2 rfl)))
   have hC := hC.step hC34 (fun g hg => hO.inN g ((fun _ h => h) g hg))
   have hO := Own.join hO hC34 hOc34
   have hO := hO.perm (R := fi34x0 ++ (([g3]) ++ ([]))) (by simp)
   refine c_nil ?_
   refine c_seq (c_region ?_)
   refine pl_val (.slice a4x0 n4x0 c4x0) (y_move rfl) ?_
   refine pl_val (.slice a4x0 n4x0 c4x0) (y_assign rfl) ?_
   refine c_nil ?_
   refine wp_ret ?_
   cases hs
   have hO := hO.fr1
   have hO := hO.drop
   exact ⟨_, a4x0, n4x0, c4x0, fi34x0, fr_ovl 28 ⟨rfl, trivial⟩, hC, hvi34x0, hO.top⟩

theorem Rw112 : RowT Try.prog 112 5 1 [(.int .u8 0)] := ⟨Try.underlying112, ⟨_, _, rfl, rfl, rfl, rfl, by decide⟩, rfl, by decide⟩

def k_impl_keyOf (M : Nat → Prop) (w0 : World) (r : ByteArray) (a : Act) (w : World) : Prop :=
  ∃ (σ : Nat → Value) , a = fr 27 (ovl σ [(2, (.string r))]) ∧ Chg [] w0 w
def s_impl_keyOf (list : List Int) : Option (ByteArray) :=
  (mkc 0 (w64 (2 * (list.length : Int)))).bind fun u3 =>
  (forR (S := (List Int)) (R := ByteArray) (fun _ x16 s13 =>
  (app s13 ([IntKind.u8.wrap (ishr .i64 x16 8), IntKind.u8.wrap x16])).bind fun y27 =>
  some (.nx y27)) 0 list (List.replicate (Int.toNat 0) (0 : Int))).bind fun o17 => after o17 (fun r_ => some r_) (fun s13 =>
  some (bstr s13))
set_option maxHeartbeats 4000000 in
theorem c_impl_keyOf {M : Nat → Prop} {w : World} {pa0 : Option Addr} {pn0 pc0 : Nat} (list : List Int) (h0 : (RT.rs (RT.int .i64)).val M w (.slice pa0 pn0 pc0) list ([])) (hM : ∀ g, w.heap.size ≤ g → M g) {r : ByteArray} (hs : s_impl_keyOf list = some r) :
    Gives Try.prog 127 [(.slice pa0 pn0 pc0)] w (fun v w' => v = (.string r) ∧ Chg [] w w') := by
 refine calls_fr Try.func127 rfl Try.ntmps127 (Nat.le_of_ble_eq_true rfl) ?_
 have hO := Own.start (N := Nw w []) hM Nw.fut
 have hC := Chg.refl [] w
 unfold s_impl_keyOf at hs
 refine wp_mono (Q := KPost (k_impl_keyOf M w r)) ?_ (fun e a w1 h => ?_)
 rotate_left
 ·cases e
  case ret =>
   obtain ⟨σ, rfl, hrest⟩ := h
   exact ret1x Try.results127 (res_tmp rfl) ⟨rfl, hrest⟩
  all_goals exact (h : False).elim
 refine c_seq (c_region ?_)
 refine pl_val (.string ByteArray.empty) (y_assign rfl) ?_
 refine c_nil ?_
 refine c_seq (c_region ?_)
 refine pl_val (.slice pa0 pn0 pc0) (y_move rfl) ?_
 refine pl_val (.int .i64 (list.length : Int)) (y_len' Sl22 (rs_len h0) rfl) ?_
 refine pl_val (.int .i64 (w64 (2 * (list.length : Int)))) (y_mul rfl rfl) ?_
 obtain ⟨u3, hu3, hs⟩ := bind_some hs
 obtain ⟨a2, n2, c2, w2, f2, hm2, hC2, hfr2, hv2⟩ := mk_cap (M := M) (w := w) (r := (RT.int .u8)) (x := (0 : Int)) Rw112 hu3 (fun _ _ => ⟨rfl, rfl⟩)
 refine pl_val (w' := w2) (.slice a2 n2 c2) (y_make rfl rfl hm2) ?_
 have h0 := h0.ext hC2
 have hC := hC.ext hC2
 have hO := hO.new hC2 hfr2 (os_nodup hv2) hv2.fpl
 refine pl_val (.slice a2 n2 c2) (y_assign rfl) ?_
 refine c_nil ?_
 refine c_seq ?_
 refine c_seq (c_region ?_)
 refine pl_val (.slice pa0 pn0 pc0) (y_move rfl) ?_
 refine pl_val (.int .i64 (list.length : Int)) (y_len' Sl22 (rs_len h0) rfl) ?_
 refine pl_val (.int .i64 0) (y_move rfl) ?_
 refine c_nil ?_
 obtain ⟨o17, hl18, hs⟩ := bind_some hs
 refine wp_block ?_
 refine wp_forR (id := 0) (I := fun i_ xs_ s13 a w14 => ∃ k15 : Nat, i_ = (k15 : Int) ∧ List.drop k15 list = xs_ ∧ (∃ (σ : Nat → Value) (a19 : Option Addr) (n19 : Nat) (c19 : Nat) (f19 : List Nat), a = fr 27 (ovl σ [(3, (.slice a19 n19 c19)), (10, (.slice pa0 pn0 pc0)), (11, (.int .i64 (list.length : Int))), (12, (.int .i64 (k15 : Int)))]) ∧ Chg [] w w14 ∧ Own (Nw w []) M w14 (f19 ++ []) ∧ (RT.rs (RT.int .i64)).val M w14 (.slice pa0 pn0 pc0) list ([]) ∧ (RT.os 5 (RT.int .u8)).val M w14 (.slice a19 n19 c19) s13 f19)) (J := fun s13 a w14 => ∃ (σ : Nat → Value) (a21 : Option Addr) (n21 : Nat) (c21 : Nat) (f21 : List Nat), a = fr 27 (ovl σ [(3, (.slice a21 n21 c21))]) ∧ Chg [] w w14 ∧ Own (Nw w []) M w14 (f21 ++ []) ∧ (RT.rs (RT.int .i64)).val M w14 (.slice pa0 pn0 pc0) list ([]) ∧ (RT.os 5 (RT.int .u8)).val M w14 (.slice a21 n21 c21) s13 f21) (K := (k_impl_keyOf M w)) ?_ ?_ list 0 (List.replicate (Int.toNat 0) (0 : Int)) o17 _ _ ?_ hl18 ?_
 ·rintro _ s13 a w14 ⟨k15, rfl, hd, σ, a19, n19, c19, f19, rfl, hC, hO, h0, hv19⟩
  have hlt := drop_nil_ge hd
  refine c_seq (c_region ?_)
  refine pl_val (.bool (decide ((k15 : Int) < (list.length : Int)))) (y_lss rfl rfl) ?_
  refine c_nil ?_
  refine c_seq ?_
  refine c_condF (congrArg Value.bool (decide_eq_false hlt)) ?_
  refine wp_exit ?_
  exact ⟨rfl, _, a19, n19, c19, f19, fr_ovl 27 ⟨rfl, trivial⟩, hC, hO, h0, hv19⟩
 ·rintro _ x16 xs_ s13 o17 a w14 ⟨k15, rfl, hd, σ, a19, n19, c19, f19, rfl, hC, hO, h0, hv19⟩ hs
  have hlt := drop_cons_lt hd
  have hxk15 := drop_cons_idx hd
  refine c_seq (c_region ?_)
  refine pl_val (.bool (decide ((k15 : Int) < (list.length : Int)))) (y_lss rfl rfl) ?_
  refine c_nil ?_
  refine c_seq ?_
  refine c_condT (congrArg Value.bool (decide_eq_true hlt)) ?_
  refine wp_skip ?_
  refine c_seq ?_
  refine wp_block ?_
  refine c_seq (c_region ?_)
  obtain ⟨b23, o23, hp23, ha23⟩ := rs_idx Sl22 Sz3 h0 hxk15
  refine pl_val (.pointer (some ⟨b23, o23, none⟩)) (hp23 _ _ _ _ _ _ _ _ _ rfl rfl) ?_
  refine pl_val (.int .i64 x16) (y_load rfl ((at_load_int Ag3 Sz3 ha23) _ (Chg.refl _ _))) ?_
  refine pl_val (.int .i64 x16) (y_assign rfl) ?_
  refine c_nil ?_
  refine c_region ?_
  refine pl_val (.slice a19 n19 c19) (y_move rfl) ?_
  refine pl_val (.int .i64 x16) (y_move rfl) ?_
  refine pl_val (.int .i64 (ishr .i64 x16 8)) (y_shr rfl rfl (by decide)) ?_
  refine pl_val (.int .u8 (IntKind.u8.wrap (ishr .i64 x16 8))) (y_conv_int Try.underlying3 Try.underlying5 rfl) ?_
  refine pl_val (.int .i64 x16) (y_move rfl) ?_
  refine pl_val (.int .u8 (IntKind.u8.wrap x16)) (y_conv_int Try.underlying3 Try.underlying5 rfl) ?_
  obtain ⟨w24, g24, ew24, eg24, hC24, hb24⟩ := new_block w14 [(.int .u8 (IntKind.u8.wrap (ishr .i64 x16 8))), (.int .u8 (IntKind.u8.wrap x16))] 5
  refine pl_val (w' := w24) (.slice (some ⟨g24, 0, none⟩) 2 2) (y_bslice rfl (by rw [ew24, eg24]; kernel_rfl)) ?_
  have h0 := h0.ext hC24
  have hv19 := hv19.ext hC24
  have hC := hC.ext hC24
  have hO := hO.new1 hC24 eg24 hb24.lt
  have hv24 := os_of_box (r := (RT.int .u8)) (M := M) (css := [[(.int .u8 (IntKind.u8.wrap (ishr .i64 x16 8)))], [(.int .u8 (IntKind.u8.wrap x16))]]) (fps := [([] : List Nat), ([] : List Nat)]) (xs := ([IntKind.u8.wrap (ishr .i64 x16 8), IntKind.u8.wrap x16] : List Int)) hb24 ⟨⟨rfl, rfl⟩, ⟨⟨rfl, rfl⟩, trivial⟩⟩ (Nat.le_of_ble_eq_true rfl) (List.nodup_cons.2 ⟨(fun h => nomatch h), List.nodup_nil⟩)
  have hv24 : (RT.os 5 (RT.int .u8)).val M w24 (.slice (some ⟨g24, 0, none⟩) 2 2) [IntKind.u8.wrap (ishr .i64 x16 8), IntKind.u8.wrap x16] [g24] := hv24
  obtain ⟨y27, hy27, hs⟩ := bind_some hs
  have hO := hO.fr1
  obtain ⟨a26, n26, c26, w26, f26, hr26, hC26, hf26, hv26⟩ := app_os Rw112 hy27 hv19 hv24 hO.inM (fun g hg hq => hO.apart g hq (mem_l hg))
  have hG26 := os_block hv19
  refine pl_val (w' := w26) (.slice a26 n26 c26) (y_append rfl rfl (hr26 _)) ?_
  have hO := hO.fr1
  have hO := hO.fr1
  have h0 := h0.mut hC26 (fun g hg => hO.inM g (hG26 g hg)) (fun _ _ h => nomatch h)
  have hC := hC.step hC26 (fun g hg => hO.inN g (hG26 g hg))
  have hO := hO.eat hC26 hf26 (os_nodup hv26) hv26.fpl
  refine pl_val (.slice a26 n26 c26) (y_assign rfl) ?_
  refine c_nil ?_
  refine c_region ?_
  refine pl_val (.int .i64 (w64 ((k15 : Int) + 1))) (y_add rfl rfl) ?_
  refine pl_val (.int .i64 (w64 ((k15 : Int) + 1))) (y_move rfl) ?_
  refine c_nil ?_
  cases hs
  exact ⟨_, rfl, drop_cons_next hd, _, a26, n26, c26, f26, fr_ovl 27 ⟨rfl, rfl, rfl, congrArg (Value.int .i64) (w64_succ hlt (Int.natCast_nonneg _) (rs_max h0)), trivial⟩, hC, hO, h0, hv26⟩
 ·skip
  exact ⟨0, rfl, rfl, _, a2, n2, c2, f2, fr_ovl 27 ⟨rfl, rfl, rfl, rfl, trivial⟩, hC, hO, h0, hv2⟩
 ·cases o17 with
  | nx _ => exact True.intro
  | rt r_ =>
   have hs := after_rt hs
   intro a1 w1 hK
   cases hs
   exact hK
  | br s13 =>
   have hs := after_br hs
   rintro a1 w14 ⟨σ, a21, n21, c21, f21, rfl, hC, hO, h0, hv21⟩
   refine c_seq (c_region ?_)
   refine pl_val (.slice a21 n21 c21) (y_move rfl) ?_
   refine pl_val (.string (bstr s13)) (y_str Try.underlying112 Try.underlying9 Try.underlying5 hv21 rfl) ?_
   refine pl_val (.string (bstr s13)) (y_assign rfl) ?_
   refine c_nil ?_
   refine wp_ret ?_
   cases hs
   exact ⟨_, fr_ovl 27 ⟨rfl, trivial⟩, hC⟩

def k_impl_clone (M : Nat → Prop) (w0 : World) (r : (List Int)) (a : Act) (w : World) : Prop :=
  ∃ (σ : Nat → Value) (ra0 : Option Addr) (rn0 rc0 : Nat) (rf0 : List Nat), a = fr 6 (ovl σ [(2, (.slice ra0 rn0 rc0))]) ∧ Chg [] w0 w ∧ (RT.os 3 (RT.int .i64)).val M w (.slice ra0 rn0 rc0) r rf0 ∧ Own (Nw w0 []) (fun _ => True) w (rf0 ++ ([]))
def s_impl_clone (list : List Int) : Option ((List Int)) :=
  (app ([]) list).bind fun y5 =>
  some y5
set_option maxHeartbeats 4000000 in
theorem c_impl_clone {M : Nat → Prop} {w : World} {pa0 : Option Addr} {pn0 pc0 : Nat} (list : List Int) (h0 : (RT.rs (RT.int .i64)).val M w (.slice pa0 pn0 pc0) list ([])) (hM : ∀ g, w.heap.size ≤ g → M g) {r : (List Int)} (hs : s_impl_clone list = some r) :
    Gives Try.prog 98 [(.slice pa0 pn0 pc0)] w (fun v w' => ∃ (ra0 : Option Addr) (rn0 rc0 : Nat) (rf0 : List Nat), v = (.slice ra0 rn0 rc0) ∧ Chg [] w w' ∧ (RT.os 3 (RT.int .i64)).val M w' (.slice ra0 rn0 rc0) r rf0 ∧ Own (Nw w []) (fun _ => True) w' (rf0 ++ ([]))) := by
 refine calls_fr Try.func98 rfl Try.ntmps98 (Nat.le_of_ble_eq_true rfl) ?_
 have hO := Own.start (N := Nw w []) hM Nw.fut
 have hC := Chg.refl [] w
 unfold s_impl_clone at hs
 refine wp_mono (Q := KPost (k_impl_clone M w r)) ?_ (fun e a w1 h => ?_)
 rotate_left
 ·cases e
  case ret =>
   obtain ⟨σ, ra0, rn0, rc0, rf0, rfl, hrest⟩ := h
   exact ret1x Try.results98 (res_tmp rfl) ⟨ra0, rn0, rc0, rf0, rfl, hrest⟩
  all_goals exact (h : False).elim
 refine c_seq (c_region ?_)
 refine pl_val (.slice none 0 0) (y_assign rfl) ?_
 refine c_nil ?_
 refine c_seq (c_region ?_)
 obtain ⟨w2, g2, ew2, eg2, hC2, hb2⟩ := new_block w [] 3
 refine pl_val (w' := w2) (.slice (some ⟨g2, 0, none⟩) 0 0) (y_bslice rfl (by rw [ew2, eg2]; kernel_rfl)) ?_
 have h0 := h0.ext hC2
 have hC := hC.ext hC2
 have hO := hO.new1 hC2 eg2 hb2.lt
 have hv2 := os_of_box (r := (RT.int .i64)) (M := M) (css := []) (fps := []) (xs := ([] : List Int)) hb2 trivial (Nat.zero_le _) (List.nodup_cons.2 ⟨(fun h => nomatch h), List.nodup_nil⟩)
 have hv2 : (RT.os 3 (RT.int .i64)).val M w2 (.slice (some ⟨g2, 0, none⟩) 0 0) [] [g2] := hv2
 refine pl_val (.slice pa0 pn0 pc0) (y_move rfl) ?_
 obtain ⟨y5, hy5, hs⟩ := bind_some hs
 obtain ⟨a4, n4, c4, w4, f4, hr4, hC4, hf4, hv4⟩ := app_rs Rw22 hy5 hv2 h0 hO.inM
 have hG4 := os_block hv2
 refine pl_val (w' := w4) (.slice a4 n4 c4) (y_append rfl rfl (hr4 _)) ?_
 have h0 := h0.mut hC4 (fun g hg => hO.inM g (hG4 g hg)) (fun _ _ h => nomatch h)
 have hC := hC.step hC4 (fun g hg => hO.inN g (hG4 g hg))
 have hO := hO.grow hC4 hf4 (os_nodup hv4) hv4.fpl
 refine pl_val (.slice a4 n4 c4) (y_assign rfl) ?_
 refine c_nil ?_
 refine wp_ret ?_
 cases hs
 exact ⟨_, a4, n4, c4, f4, fr_ovl 6 ⟨rfl, trivial⟩, hC, hv4, hO.top⟩

theorem Bd98 : Bodied Try.prog 98 := bodied Try.func98 (by kernel_rfl) rfl

def k_impl_join (M : Nat → Prop) (w0 : World) (r : (List Int)) (a : Act) (w : World) : Prop :=
  ∃ (σ : Nat → Value) (ra0 : Option Addr) (rn0 rc0 : Nat) (rf0 : List Nat), a = fr 23 (ovl σ [(4, (.slice ra0 rn0 rc0))]) ∧ Chg [] w0 w ∧ (RT.os 3 (RT.int .i64)).val M w (.slice ra0 rn0 rc0) r rf0 ∧ Own (Nw w0 []) (fun _ => True) w (rf0 ++ ([]))
def s_impl_join (p : List Int) (q : List Int) : Option ((List Int)) :=
  (s_impl_clone p).bind fun r4 =>
  (forC (S := (List Int)) (R := (List Int)) (fun k17 s15 =>
  (idx q k17).bind fun x23 =>
  (s_impl_unite s15 k17 x23).bind fun r26 =>
  some (.nx r26.2)) 0 (q.length : Int) r4).bind fun o19 => after o19 (fun r_ => some r_) (fun s15 =>
  some s15)
set_option maxHeartbeats 4000000 in
theorem c_impl_join {M : Nat → Prop} {w : World} {pa0 : Option Addr} {pn0 pc0 : Nat} {pa1 : Option Addr} {pn1 pc1 : Nat} (p : List Int) (q : List Int) (h0 : (RT.rs (RT.int .i64)).val M w (.slice pa0 pn0 pc0) p ([])) (h1 : (RT.rs (RT.int .i64)).val M w (.slice pa1 pn1 pc1) q ([])) (hM : ∀ g, w.heap.size ≤ g → M g) {r : (List Int)} (hs : s_impl_join p q = some r) :
    Gives Try.prog 78 [(.slice pa0 pn0 pc0), (.slice pa1 pn1 pc1)] w (fun v w' => ∃ (ra0 : Option Addr) (rn0 rc0 : Nat) (rf0 : List Nat), v = (.slice ra0 rn0 rc0) ∧ Chg [] w w' ∧ (RT.os 3 (RT.int .i64)).val M w' (.slice ra0 rn0 rc0) r rf0 ∧ Own (Nw w []) (fun _ => True) w' (rf0 ++ ([]))) := by
 refine calls_fr Try.func78 rfl Try.ntmps78 (Nat.le_of_ble_eq_true rfl) ?_
 have hO := Own.start (N := Nw w []) hM Nw.fut
 have hC := Chg.refl [] w
 unfold s_impl_join at hs
 refine wp_mono (Q := KPost (k_impl_join M w r)) ?_ (fun e a w1 h => ?_)
 rotate_left
 ·cases e
  case ret =>
   obtain ⟨σ, ra0, rn0, rc0, rf0, rfl, hrest⟩ := h
   exact ret1x Try.results78 (res_tmp rfl) ⟨ra0, rn0, rc0, rf0, rfl, hrest⟩
  all_goals exact (h : False).elim
 refine c_seq (c_region ?_)
 refine pl_val (.slice none 0 0) (y_assign rfl) ?_
 refine c_nil ?_
 refine c_seq (c_region ?_)
 refine pl_val (.slice pa0 pn0 pc0) (y_move rfl) ?_
 obtain ⟨r4, hr4, hs⟩ := bind_some hs
 refine pl_call Bd98 rfl (c_impl_clone (M := M) p h0 hO.fut hr4) ?_
 rintro _ w3 ⟨a3x0, n3x0, c3x0, f3x0, rfl, hC3, hv3x0, hOc3⟩
 have h0 := h0.ext hC3
 have h1 := h1.ext hC3
 have hC := hC.ext hC3
 have hO := Own.join0 hO hC3 hOc3
 have hO := hO.perm (R := f3x0 ++ ([])) (by simp)
 refine pl_val (.slice a3x0 n3x0 c3x0) (y_assign rfl) ?_
 refine c_nil ?_
 refine c_seq ?_
 refine c_seq (c_region ?_)
 refine pl_val (.slice pa1 pn1 pc1) (y_move rfl) ?_
 refine pl_val (.int .i64 (q.length : Int)) (y_len' Sl22 (rs_len h1) rfl) ?_
 refine pl_val (.int .i64 0) (y_move rfl) ?_
 refine c_nil ?_
 obtain ⟨o19, hl20, hs⟩ := bind_some hs
 refine wp_block ?_
 refine wp_forC (id := 0) (q.length : Int) (I := fun k17 s15 a w16 => ∃ (σ : Nat → Value) (f21 : List Nat), a = fr 23 (ovl σ [(5, (.slice a3x0 n3x0 c3x0)), (10, (.slice pa1 pn1 pc1)), (11, (.int .i64 (q.length : Int))), (12, (.int .i64 k17))]) ∧ Chg [] w w16 ∧ Own (Nw w []) M w16 (f21 ++ []) ∧ (RT.rs (RT.int .i64)).val M w16 (.slice pa1 pn1 pc1) q ([]) ∧ (RT.os 3 (RT.int .i64)).val M w16 (.slice a3x0 n3x0 c3x0) s15 f21) (J := fun s15 a w16 => ∃ (σ : Nat → Value) (f22 : List Nat), a = fr 23 (ovl σ [(5, (.slice a3x0 n3x0 c3x0))]) ∧ Chg [] w w16 ∧ Own (Nw w []) M w16 (f22 ++ []) ∧ (RT.rs (RT.int .i64)).val M w16 (.slice pa1 pn1 pc1) q ([]) ∧ (RT.os 3 (RT.int .i64)).val M w16 (.slice a3x0 n3x0 c3x0) s15 f22) (K := (k_impl_join M w)) ?_ ?_ 0 r4 o19 _ _ ?_ hl20 ?_
 ·rintro k17 s15 a w16 ⟨σ, f21, rfl, hC, hO, h1, hv21⟩ hlt
  refine c_seq (c_region ?_)
  refine pl_val (.bool (decide (k17 < (q.length : Int)))) (y_lss rfl rfl) ?_
  refine c_nil ?_
  refine c_seq ?_
  refine c_condF (congrArg Value.bool (decide_eq_false hlt)) ?_
  refine wp_exit ?_
  exact ⟨rfl, _, f21, fr_ovl 23 ⟨rfl, trivial⟩, hC, hO, h1, hv21⟩
 ·rintro k17 s15 o19 a w16 ⟨σ, f21, rfl, hC, hO, h1, hv21⟩ hlt hw hs
  refine c_seq (c_region ?_)
  refine pl_val (.bool (decide (k17 < (q.length : Int)))) (y_lss rfl rfl) ?_
  refine c_nil ?_
  refine c_seq ?_
  refine c_condT (congrArg Value.bool (decide_eq_true hlt)) ?_
  refine wp_skip ?_
  refine c_seq ?_
  refine wp_block ?_
  refine c_seq (c_region ?_)
  refine pl_val (.int .i64 k17) (y_move rfl) ?_
  obtain ⟨x23, hx23, hs⟩ := bind_some hs
  obtain ⟨b24, o24, hp24, ha24⟩ := rs_idx Sl22 Sz3 h1 hx23
  refine pl_val (.pointer (some ⟨b24, o24, none⟩)) (hp24 _ _ _ _ _ _ _ _ _ rfl rfl) ?_
  refine pl_val (.int .i64 x23) (y_load rfl ((at_load_int Ag3 Sz3 ha24) _ (Chg.refl _ _))) ?_
  refine pl_val (.int .i64 k17) (y_assign rfl) ?_
  refine pl_val (.int .i64 x23) (y_assign rfl) ?_
  refine c_nil ?_
  refine c_region ?_
  refine pl_val (.slice a3x0 n3x0 c3x0) (y_move rfl) ?_
  refine pl_val (.int .i64 k17) (y_move rfl) ?_
  refine pl_val (.int .i64 x23) (y_move rfl) ?_
  have hL25 := hO
  have hI25 := Own.lend (F := (f21 ++ ([]))) (R := []) (Own.perm (hL25) (by simp))
  obtain ⟨r26, hr26, hs⟩ := bind_some hs
  refine pl_call Bd103 rfl (c_impl_unite (M := M) s15 k17 x23 hv21 hI25 hI25.fut hr26) ?_
  rintro _ w25 ⟨fi25x0, rfl, hC25, hvi25x0, hOc25⟩
  have hO := hO.perm (R := (f21 ++ ([])) ++ ([])) (by simp)
  have h1 := h1.mut hC25 (fun g hg => hO.inM g ((fun _ h => h) g hg)) (fun _ _ h => nomatch h)
  have hC := hC.step hC25 (fun g hg => hO.inN g ((fun _ h => h) g hg))
  have hO := Own.join hO hC25 hOc25
  have hO := hO.perm (R := fi25x0 ++ ([])) (by simp)
  refine c_nil ?_
  refine c_region ?_
  refine pl_val (.int .i64 (w64 (k17 + 1))) (y_add rfl rfl) ?_
  refine pl_val (.int .i64 (w64 (k17 + 1))) (y_move rfl) ?_
  refine c_nil ?_
  cases hs
  exact ⟨_, fi25x0, fr_ovl 23 ⟨rfl, rfl, rfl, congrArg (Value.int .i64) hw, trivial⟩, hC, hO, h1, hvi25x0⟩
 ·skip
  exact ⟨_, f3x0, fr_ovl 23 ⟨rfl, rfl, rfl, rfl, trivial⟩, hC, hO, h1, hv3x0⟩
 ·cases o19 with
  | nx _ => exact True.intro
  | rt r_ =>
   have hs := after_rt hs
   intro a1 w1 hK
   cases hs
   exact hK
  | br s15 =>
   have hs := after_br hs
   rintro a1 w16 ⟨σ, f22, rfl, hC, hO, h1, hv22⟩
   refine c_seq (c_region ?_)
   refine pl_val (.slice a3x0 n3x0 c3x0) (y_move rfl) ?_
   refine pl_val (.slice a3x0 n3x0 c3x0) (y_assign rfl) ?_
   refine c_nil ?_
   refine wp_ret ?_
   cases hs
   exact ⟨_, a3x0, n3x0, c3x0, f22, fr_ovl 23 ⟨rfl, trivial⟩, hC, hv22, hO.top⟩

theorem Fa125x0 : ∀ (a : Addr) (w : World), (Instr.fieldAt 125 (.pointer (some a)) 0).run Try.prog w = .ok (.pointer (some (a.add 0))) w := fun _ _ => by kernel_rfl

theorem Ag115 : AggT Try.prog 115 false := fun _ => by kernel_rfl

theorem Sz115 : SzT Try.prog 115 1 := ⟨_, rfl, rfl⟩

theorem Fa125x1 : ∀ (a : Addr) (w : World), (Instr.fieldAt 125 (.pointer (some a)) 1).run Try.prog w = .ok (.pointer (some (a.add 1))) w := fun _ _ => by kernel_rfl

theorem Ag121 : AggT Try.prog 121 false := fun _ => by kernel_rfl

theorem Sz121 : SzT Try.prog 121 1 := ⟨_, rfl, rfl⟩

def k_sort_insertionSort_func (M : Nat → Prop) (w0 : World) {α_ : Type} (I_ : World → List α_ → Prop) (G_ : List Nat) (r : (List α_)) (a : Act) (w : World) : Prop :=
  ∃ (σ : Nat → Value) , a = fr 35 (ovl σ []) ∧ Chg (G_ ++ ([])) w0 w ∧ I_ w r
def s_sort_insertionSort_func {α_ : Type} (ls_ : α_ → α_ → Option Bool) (d_ : List α_) (a_ : Int) (b : Int) : Option ((List α_)) :=
  (forC (S := (List α_)) (R := (List α_)) (fun k78 s76 =>
  (iter (S := Int × (List α_)) (R := (List α_)) (fun s103 =>
  ((bif (decide (a_ < s103.1)) then (lsx ls_ s103.2 s103.1 (w64 (s103.1 - 1))).bind fun r116 =>
  some r116 else some false)).bind fun s111 =>
  (bif s111 then (swx s103.2 s103.1 (w64 (s103.1 - 1))).bind fun y119 =>
  some (.nx (w64 (s103.1 - 1), y119)) else some (.br (s103.1, s103.2)))) FU (k78, s76)).bind fun o107 => after o107 (fun r_ => some (.rt r_)) (fun s103 =>
  some (.nx s103.2))) (w64 (a_ + 1)) b d_).bind fun o80 => after o80 (fun r_ => some r_) (fun s76 =>
  some s76)
set_option maxHeartbeats 4000000 in
theorem c_sort_insertionSort_func {M : Nat → Prop} {w : World} {α_ : Type} {n0_ : Nat} {I_ : World → List α_ → Prop} {G_ : List Nat} {g_ sf_ : Nat} {lb_ sb_ : Array Value} (ls_ : α_ → α_ → Option Bool) (d_ : List α_) (a_ : Int) (b : Int) (hN_ : n0_ ≤ w.heap.size) (hE_ : Env Try.prog n0_ I_ G_ ls_ g_ lb_ sf_ sb_) (hI_ : I_ w d_) (hI : Own (Nw w (G_ ++ ([]))) M w (G_ ++ ([]))) (hM : ∀ g, w.heap.size ≤ g → M g) {r : (List α_)} (hs : s_sort_insertionSort_func ls_ d_ a_ b = some r) :
    Gives Try.prog 150 [(.agg #[(.func (.func g_) #[] lb_), (.func (.func sf_) #[] sb_)]), (.int .i64 a_), (.int .i64 b)] w (fun v w' => v = (.tuple #[]) ∧ Chg (G_ ++ ([])) w w' ∧ I_ w' r) := by
 refine calls_fr Try.func150 rfl Try.ntmps150 (Nat.le_of_ble_eq_true rfl) ?_
 have hO := hI
 have hC := Chg.refl (G_ ++ ([])) w
 unfold s_sort_insertionSort_func at hs
 refine wp_mono (Q := KPostN (k_sort_insertionSort_func M w I_ G_ r)) ?_ (fun e a w1 h => ?_)
 rotate_left
 ·cases e
  case ret =>
   obtain ⟨σ, rfl, hrest⟩ := h
   exact ret0x Try.results150  ⟨rfl, hrest⟩
  case normal =>
   obtain ⟨σ, rfl, hrest⟩ := h
   exact ret0n Try.results150  ⟨rfl, hrest⟩
  all_goals exact (h : False).elim
 refine c_seq (c_region ?_)
 obtain ⟨w1, g1, ew1, eg1, hC1, hb1⟩ := new_block w [(.func (.func g_) #[] lb_), (.func (.func sf_) #[] sb_)] 125
 refine pl_val (w' := w1) (.pointer (some ⟨g1, 0, none⟩)) (y_box rfl (by rw [ew1, eg1]; kernel_rfl)) ?_
 have hI_ := hE_.ext hI_ hC1 (fun _ h => nomatch h)
 have hC := hC.ext hC1
 have hO := hO.new1 hC1 eg1 hb1.lt
 refine c_nil ?_
 refine c_seq (c_region ?_)
 refine pl_val (.int .i64 a_) (y_move rfl) ?_
 refine pl_val (.int .i64 (w64 (a_ + 1))) (y_add rfl rfl) ?_
 refine pl_val (.int .i64 (w64 (a_ + 1))) (y_assign rfl) ?_
 refine c_nil ?_
 obtain ⟨o80, hl81, hs⟩ := bind_some hs
 refine wp_block ?_
 refine wp_forC (id := 0) b (I := fun k78 s76 a w77 => ∃ (σ : Nat → Value), a = fr 35 (ovl σ [(1, (.int .i64 a_)), (2, (.int .i64 b)), (3, (.pointer (some ⟨g1, 0, none⟩))), (6, (.int .i64 k78))]) ∧ Chg (G_ ++ ([])) w w77 ∧ Own (Nw w (G_ ++ ([]))) M w77 (([g1]) ++ (G_ ++ [])) ∧ I_ w77 s76 ∧ BoxV w77 g1 125 [(.func (.func g_) #[] lb_), (.func (.func sf_) #[] sb_)]) (J := fun s76 a w77 => ∃ (σ : Nat → Value), a = fr 35 (ovl σ []) ∧ Chg (G_ ++ ([])) w w77 ∧ Own (Nw w (G_ ++ ([]))) M w77 (([g1]) ++ (G_ ++ [])) ∧ I_ w77 s76 ∧ BoxV w77 g1 125 [(.func (.func g_) #[] lb_), (.func (.func sf_) #[] sb_)]) (K := (k_sort_insertionSort_func M w I_ G_)) ?_ ?_ (w64 (a_ + 1)) d_ o80 _ _ ?_ hl81 ?_
 ·rintro k78 s76 a w77 ⟨σ, rfl, hC, hO, hv82, hb1⟩ hlt
  refine c_seq ?_
  refine c_seq (c_region ?_)
  refine pl_val (.int .i64 k78) (y_move rfl) ?_
  refine pl_val (.int .i64 b) (y_move rfl) ?_
  refine pl_val (.bool (decide (k78 < b))) (y_lss rfl rfl) ?_
  refine c_nil ?_
  refine c_condF (congrArg Value.bool (decide_eq_false hlt)) ?_
  refine wp_exit ?_
  have hO := hO.fr1
  have hO := hO.fr1
  exact ⟨rfl, _, fr_ovl 35 trivial, hC, hO, hv82, hb1⟩
 ·rintro k78 s76 o80 a w77 ⟨σ, rfl, hC, hO, hv82, hb1⟩ hlt hw hs
  refine c_seq ?_
  refine c_seq (c_region ?_)
  refine pl_val (.int .i64 k78) (y_move rfl) ?_
  refine pl_val (.int .i64 b) (y_move rfl) ?_
  refine pl_val (.bool (decide (k78 < b))) (y_lss rfl rfl) ?_
  refine c_nil ?_
  refine c_condT (congrArg Value.bool (decide_eq_true hlt)) ?_
  refine wp_skip ?_
  refine c_seq ?_
  refine wp_block ?_
  refine c_seq (c_region ?_)
  refine pl_val (.int .i64 k78) (y_move rfl) ?_
  refine pl_val (.int .i64 k78) (y_assign rfl) ?_
  refine c_nil ?_
  obtain ⟨o107, hl108, hs⟩ := bind_some hs
  refine wp_block ?_
  refine wp_iter (id := 2) (I := fun s103 a w104 => ∃ (σ : Nat → Value), a = fr 35 (ovl σ [(1, (.int .i64 a_)), (2, (.int .i64 b)), (3, (.pointer (some ⟨g1, 0, none⟩))), (6, (.int .i64 k78)), (7, (.int .i64 s103.1))]) ∧ Chg (G_ ++ ([])) w w104 ∧ Own (Nw w (G_ ++ ([]))) M w104 (([g1]) ++ (G_ ++ [])) ∧ I_ w104 s103.2 ∧ BoxV w104 g1 125 [(.func (.func g_) #[] lb_), (.func (.func sf_) #[] sb_)]) (J := fun s103 a w104 => ∃ (σ : Nat → Value), a = fr 35 (ovl σ [(1, (.int .i64 a_)), (2, (.int .i64 b)), (3, (.pointer (some ⟨g1, 0, none⟩))), (6, (.int .i64 k78))]) ∧ Chg (G_ ++ ([])) w w104 ∧ Own (Nw w (G_ ++ ([]))) M w104 (([g1]) ++ (G_ ++ [])) ∧ I_ w104 s103.2 ∧ BoxV w104 g1 125 [(.func (.func g_) #[] lb_), (.func (.func sf_) #[] sb_)]) (K := (k_sort_insertionSort_func M w I_ G_)) ?_ FU (k78, s76) o107 _ _ ?_ hl108 ?_
  ·rintro s103 o107 a w104 ⟨σ, rfl, hC, hO, hv109, hb1⟩ hs
   refine c_seq ?_
   refine c_seq ?_
   obtain ⟨s111, hm113, hs⟩ := bind_some hs
   refine c_mid (I := fun a w112 => ∃ (σ : Nat → Value), a = fr 35 (ovl σ [(1, (.int .i64 a_)), (2, (.int .i64 b)), (3, (.pointer (some ⟨g1, 0, none⟩))), (6, (.int .i64 k78)), (7, (.int .i64 s103.1)), (26, (.bool s111))]) ∧ Chg [] w104 w112) ?_ ?_
   ·replace hs := hm113
    have hMid := Chg.refl [] w104
    refine c_region ?_
    refine pl_val (.int .i64 s103.1) (y_move rfl) ?_
    refine pl_val (.int .i64 a_) (y_move rfl) ?_
    refine pl_val (.bool (decide (a_ < s103.1))) (y_gtr rfl rfl) ?_
    refine pl_val (.bool (decide (a_ < s103.1))) (y_move rfl) ?_
    rcases bif_some hs with ⟨hc114, hs⟩ | ⟨hc114, hs⟩
    ·skip
     refine pl_yes (.pointer (some ⟨g1, 0, none⟩)) (tg := 19) (by kernel_rfl) (congrArg Value.bool hc114) (y_faddr rfl Fa125x0) ?_
     refine pl_yes (.func (.func g_) #[] lb_) (tg := 19) (by kernel_rfl) (congrArg Value.bool hc114) (y_load rfl ((box_load Ag115 Sz115 hb1 [] [(.func (.func g_) #[] lb_)] [(.func (.func sf_) #[] sb_)] rfl rfl (fun _ => rfl)) _ (Chg.refl _ _))) ?_
     refine pl_yes (.int .i64 s103.1) (tg := 19) (by kernel_rfl) (congrArg Value.bool hc114) (y_move rfl) ?_
     refine pl_yes (.int .i64 s103.1) (tg := 19) (by kernel_rfl) (congrArg Value.bool hc114) (y_move rfl) ?_
     refine pl_yes (.int .i64 (w64 (s103.1 - 1))) (tg := 19) (by kernel_rfl) (congrArg Value.bool hc114) (y_sub rfl rfl) ?_
     obtain ⟨r116, hr116, hs⟩ := bind_some hs
     refine pl_callby (tg := 19) (by kernel_rfl) (congrArg Value.bool hc114) rfl hE_.bod rfl (hE_.less hv109 hr116) ?_
     rintro _ w115 ⟨rfl, hC115⟩
     have hv109 := hE_.ext hv109 hC115 (fun _ h => nomatch h)
     have hb1 := hb1.chg hC115 (fun h => nomatch h)
     have hMid := hMid.ext hC115
     have hC := hC.ext hC115
     have hO := hO.ext hC115
     refine pl_val (.bool r116) (y_pick_t (congrArg Value.bool hc114) rfl) ?_
     refine c_nil ?_
     cases hs
     exact ⟨_, fr_ovl 35 ⟨rfl, rfl, rfl, rfl, rfl, rfl, trivial⟩, hMid⟩
    ·skip
     refine pl_not (tg := 19) (by kernel_rfl) (congrArg Value.bool hc114) ?_
     refine pl_not (tg := 19) (by kernel_rfl) (congrArg Value.bool hc114) ?_
     refine pl_not (tg := 19) (by kernel_rfl) (congrArg Value.bool hc114) ?_
     refine pl_not (tg := 19) (by kernel_rfl) (congrArg Value.bool hc114) ?_
     refine pl_not (tg := 19) (by kernel_rfl) (congrArg Value.bool hc114) ?_
     refine pl_not (tg := 19) (by kernel_rfl) (congrArg Value.bool hc114) ?_
     refine pl_val (.bool false) (y_pick_f (congrArg Value.bool hc114) rfl) ?_
     refine c_nil ?_
     cases hs
     exact ⟨_, fr_ovl 35 ⟨rfl, rfl, rfl, rfl, rfl, rfl, trivial⟩, hMid⟩
   ·rintro a1 w112 ⟨σ, rfl, hCs111⟩
    have hv109 := hE_.ext hv109 hCs111 (fun _ h => nomatch h)
    have hb1 := hb1.chg hCs111 (fun h => nomatch h)
    have hC := hC.ext hCs111
    have hO := hO.ext hCs111
    rcases bif_some hs with ⟨hc117, hs⟩ | ⟨hc117, hs⟩
    ·skip
     refine c_condT (congrArg Value.bool hc117) ?_
     refine wp_skip ?_
     refine c_seq ?_
     refine wp_block ?_
     refine c_region ?_
     refine pl_val (.pointer (some ⟨g1, 1, none⟩)) (y_faddr rfl Fa125x1) ?_
     refine pl_val (.func (.func sf_) #[] sb_) (y_load rfl ((box_load Ag121 Sz121 hb1 [(.func (.func g_) #[] lb_)] [(.func (.func sf_) #[] sb_)] [] rfl rfl (fun _ => rfl)) _ (Chg.refl _ _))) ?_
     refine pl_val (.int .i64 s103.1) (y_move rfl) ?_
     refine pl_val (.int .i64 s103.1) (y_move rfl) ?_
     refine pl_val (.int .i64 (w64 (s103.1 - 1))) (y_sub rfl rfl) ?_
     obtain ⟨y119, hy119, hs⟩ := bind_some hs
     obtain ⟨w118, hx118, hC118, hv118⟩ := hE_.swap hv109 hy119
     refine pl_val (w' := w118) (.tuple #[]) (y_callx rfl rfl hx118) ?_
     have hO := hO.fr1
     have hb1 := hb1.chg hC118 (fun hg => hO.apart _ ((fun _ h => h) _ hg) (mem_l (List.mem_singleton.2 rfl)))
     have hC := hC.step hC118 (fun g hg => hO.inN g ((fun _ h => h) g hg))
     have hO := hO.ext hC118
     refine c_nil ?_
     refine c_region ?_
     refine pl_val (.int .i64 s103.1) (y_move rfl) ?_
     refine pl_val (.int .i64 (w64 (s103.1 - 1))) (y_sub rfl rfl) ?_
     refine pl_val (.int .i64 (w64 (s103.1 - 1))) (y_assign rfl) ?_
     refine c_nil ?_
     cases hs
     have hO := hO.fr1
     exact ⟨_, fr_ovl 35 ⟨rfl, rfl, rfl, rfl, rfl, trivial⟩, hC, hO, hv118, hb1⟩
    ·skip
     refine c_condF (congrArg Value.bool hc117) ?_
     refine wp_exit ?_
     cases hs
     have hO := hO.fr1
     have hO := hO.fr1
     exact ⟨rfl, _, fr_ovl 35 ⟨rfl, rfl, rfl, rfl, trivial⟩, hC, hO, hv109, hb1⟩
  ·skip
   have hO := hO.fr1
   have hO := hO.fr1
   exact ⟨_, fr_ovl 35 ⟨rfl, rfl, rfl, rfl, rfl, trivial⟩, hC, hO, hv82, hb1⟩
  ·cases o107 with
   | nx _ => exact True.intro
   | rt r_ =>
    have hs := after_rt hs
    intro a1 w1 hK
    cases hs
    exact hK
   | br s103 =>
    have hs := after_br hs
    rintro a1 w104 ⟨σ, rfl, hC, hO, hv110, hb1⟩
    refine c_region ?_
    refine pl_val (.int .i64 k78) (y_move rfl) ?_
    refine pl_val (.int .i64 (w64 (k78 + 1))) (y_add rfl rfl) ?_
    refine pl_val (.int .i64 (w64 (k78 + 1))) (y_assign rfl) ?_
    refine c_nil ?_
    cases hs
    have hO := hO.fr1
    have hO := hO.fr1
    exact ⟨_, fr_ovl 35 ⟨rfl, rfl, rfl, congrArg (Value.int .i64) hw, trivial⟩, hC, hO, hv110, hb1⟩
 ·skip
  have hO := hO.fr1
  have hO := hO.fr1
  exact ⟨_, fr_ovl 35 ⟨rfl, rfl, rfl, rfl, trivial⟩, hC, hO, hI_, hb1⟩
 ·cases o80 with
  | nx _ => exact True.intro
  | rt r_ =>
   have hs := after_rt hs
   intro a1 w1 hK
   cases hs
   exact hK
  | br s76 =>
   have hs := after_br hs
   rintro a1 w77 ⟨σ, rfl, hC, hO, hv83, hb1⟩
   cases hs
   exact ⟨_, fr_ovl 35 trivial, hC, hv83⟩

def k_sort_swapRange_func (M : Nat → Prop) (w0 : World) {α_ : Type} (I_ : World → List α_ → Prop) (G_ : List Nat) (r : (List α_)) (a : Act) (w : World) : Prop :=
  ∃ (σ : Nat → Value) , a = fr 23 (ovl σ []) ∧ Chg (G_ ++ ([])) w0 w ∧ I_ w r
def s_sort_swapRange_func {α_ : Type} (ls_ : α_ → α_ → Option Bool) (d_ : List α_) (a_ : Int) (b : Int) (n : Int) : Option ((List α_)) :=
  (forC (S := (List α_)) (R := (List α_)) (fun k9 s7 =>
  (swx s7 (w64 (a_ + k9)) (w64 (b + k9))).bind fun y16 =>
  some (.nx y16)) 0 n d_).bind fun o11 => after o11 (fun r_ => some r_) (fun s7 =>
  some s7)
set_option maxHeartbeats 4000000 in
theorem c_sort_swapRange_func {M : Nat → Prop} {w : World} {α_ : Type} {n0_ : Nat} {I_ : World → List α_ → Prop} {G_ : List Nat} {g_ sf_ : Nat} {lb_ sb_ : Array Value} (ls_ : α_ → α_ → Option Bool) (d_ : List α_) (a_ : Int) (b : Int) (n : Int) (hN_ : n0_ ≤ w.heap.size) (hE_ : Env Try.prog n0_ I_ G_ ls_ g_ lb_ sf_ sb_) (hI_ : I_ w d_) (hI : Own (Nw w (G_ ++ ([]))) M w (G_ ++ ([]))) (hM : ∀ g, w.heap.size ≤ g → M g) {r : (List α_)} (hs : s_sort_swapRange_func ls_ d_ a_ b n = some r) :
    Gives Try.prog 153 [(.agg #[(.func (.func g_) #[] lb_), (.func (.func sf_) #[] sb_)]), (.int .i64 a_), (.int .i64 b), (.int .i64 n)] w (fun v w' => v = (.tuple #[]) ∧ Chg (G_ ++ ([])) w w' ∧ I_ w' r) := by
 refine calls_fr Try.func153 rfl Try.ntmps153 (Nat.le_of_ble_eq_true rfl) ?_
 have hO := hI
 have hC := Chg.refl (G_ ++ ([])) w
 unfold s_sort_swapRange_func at hs
 refine wp_mono (Q := KPostN (k_sort_swapRange_func M w I_ G_ r)) ?_ (fun e a w1 h => ?_)
 rotate_left
 ·cases e
  case ret =>
   obtain ⟨σ, rfl, hrest⟩ := h
   exact ret0x Try.results153  ⟨rfl, hrest⟩
  case normal =>
   obtain ⟨σ, rfl, hrest⟩ := h
   exact ret0n Try.results153  ⟨rfl, hrest⟩
  all_goals exact (h : False).elim
 refine c_seq (c_region ?_)
 obtain ⟨w1, g1, ew1, eg1, hC1, hb1⟩ := new_block w [(.func (.func g_) #[] lb_), (.func (.func sf_) #[] sb_)] 125
 refine pl_val (w' := w1) (.pointer (some ⟨g1, 0, none⟩)) (y_box rfl (by rw [ew1, eg1]; kernel_rfl)) ?_
 have hI_ := hE_.ext hI_ hC1 (fun _ h => nomatch h)
 have hC := hC.ext hC1
 have hO := hO.new1 hC1 eg1 hb1.lt
 refine c_nil ?_
 refine c_seq (c_region ?_)
 refine pl_val (.int .i64 0) (y_assign rfl) ?_
 refine c_nil ?_
 obtain ⟨o11, hl12, hs⟩ := bind_some hs
 refine wp_block ?_
 refine wp_forC (id := 0) n (I := fun k9 s7 a w8 => ∃ (σ : Nat → Value), a = fr 23 (ovl σ [(1, (.int .i64 a_)), (2, (.int .i64 b)), (3, (.int .i64 n)), (4, (.pointer (some ⟨g1, 0, none⟩))), (8, (.int .i64 k9))]) ∧ Chg (G_ ++ ([])) w w8 ∧ Own (Nw w (G_ ++ ([]))) M w8 (([g1]) ++ (G_ ++ [])) ∧ I_ w8 s7 ∧ BoxV w8 g1 125 [(.func (.func g_) #[] lb_), (.func (.func sf_) #[] sb_)]) (J := fun s7 a w8 => ∃ (σ : Nat → Value), a = fr 23 (ovl σ []) ∧ Chg (G_ ++ ([])) w w8 ∧ Own (Nw w (G_ ++ ([]))) M w8 (([g1]) ++ (G_ ++ [])) ∧ I_ w8 s7 ∧ BoxV w8 g1 125 [(.func (.func g_) #[] lb_), (.func (.func sf_) #[] sb_)]) (K := (k_sort_swapRange_func M w I_ G_)) ?_ ?_ 0 d_ o11 _ _ ?_ hl12 ?_
 ·rintro k9 s7 a w8 ⟨σ, rfl, hC, hO, hv13, hb1⟩ hlt
  refine c_seq ?_
  refine c_seq (c_region ?_)
  refine pl_val (.int .i64 k9) (y_move rfl) ?_
  refine pl_val (.int .i64 n) (y_move rfl) ?_
  refine pl_val (.bool (decide (k9 < n))) (y_lss rfl rfl) ?_
  refine c_nil ?_
  refine c_condF (congrArg Value.bool (decide_eq_false hlt)) ?_
  refine wp_exit ?_
  have hO := hO.fr1
  have hO := hO.fr1
  exact ⟨rfl, _, fr_ovl 23 trivial, hC, hO, hv13, hb1⟩
 ·rintro k9 s7 o11 a w8 ⟨σ, rfl, hC, hO, hv13, hb1⟩ hlt hw hs
  refine c_seq ?_
  refine c_seq (c_region ?_)
  refine pl_val (.int .i64 k9) (y_move rfl) ?_
  refine pl_val (.int .i64 n) (y_move rfl) ?_
  refine pl_val (.bool (decide (k9 < n))) (y_lss rfl rfl) ?_
  refine c_nil ?_
  refine c_condT (congrArg Value.bool (decide_eq_true hlt)) ?_
  refine wp_skip ?_
  refine c_seq ?_
  refine wp_block ?_
  refine c_region ?_
  refine pl_val (.pointer (some ⟨g1, 1, none⟩)) (y_faddr rfl Fa125x1) ?_
  refine pl_val (.func (.func sf_) #[] sb_) (y_load rfl ((box_load Ag121 Sz121 hb1 [(.func (.func g_) #[] lb_)] [(.func (.func sf_) #[] sb_)] [] rfl rfl (fun _ => rfl)) _ (Chg.refl _ _))) ?_
  refine pl_val (.int .i64 a_) (y_move rfl) ?_
  refine pl_val (.int .i64 k9) (y_move rfl) ?_
  refine pl_val (.int .i64 (w64 (a_ + k9))) (y_add rfl rfl) ?_
  refine pl_val (.int .i64 b) (y_move rfl) ?_
  refine pl_val (.int .i64 k9) (y_move rfl) ?_
  refine pl_val (.int .i64 (w64 (b + k9))) (y_add rfl rfl) ?_
  obtain ⟨y16, hy16, hs⟩ := bind_some hs
  obtain ⟨w15, hx15, hC15, hv15⟩ := hE_.swap hv13 hy16
  refine pl_val (w' := w15) (.tuple #[]) (y_callx rfl rfl hx15) ?_
  have hO := hO.fr1
  have hb1 := hb1.chg hC15 (fun hg => hO.apart _ ((fun _ h => h) _ hg) (mem_l (List.mem_singleton.2 rfl)))
  have hC := hC.step hC15 (fun g hg => hO.inN g ((fun _ h => h) g hg))
  have hO := hO.ext hC15
  refine c_nil ?_
  refine c_region ?_
  refine pl_val (.int .i64 k9) (y_move rfl) ?_
  refine pl_val (.int .i64 (w64 (k9 + 1))) (y_add rfl rfl) ?_
  refine pl_val (.int .i64 (w64 (k9 + 1))) (y_assign rfl) ?_
  refine c_nil ?_
  cases hs
  have hO := hO.fr1
  exact ⟨_, fr_ovl 23 ⟨rfl, rfl, rfl, rfl, congrArg (Value.int .i64) hw, trivial⟩, hC, hO, hv15, hb1⟩
 ·skip
  have hO := hO.fr1
  have hO := hO.fr1
  exact ⟨_, fr_ovl 23 ⟨rfl, rfl, rfl, rfl, rfl, trivial⟩, hC, hO, hI_, hb1⟩
 ·cases o11 with
  | nx _ => exact True.intro
  | rt r_ =>
   have hs := after_rt hs
   intro a1 w1 hK
   cases hs
   exact hK
  | br s7 =>
   have hs := after_br hs
   rintro a1 w8 ⟨σ, rfl, hC, hO, hv14, hb1⟩
   cases hs
   exact ⟨_, fr_ovl 23 trivial, hC, hv14⟩

theorem Ag125 : AggT Try.prog 125 true := fun _ => by kernel_rfl

theorem Sz125 : SzT Try.prog 125 2 := ⟨_, rfl, rfl⟩

theorem Bd153 : Bodied Try.prog 153 := bodied Try.func153 (by kernel_rfl) rfl

def k_sort_rotate_func (M : Nat → Prop) (w0 : World) {α_ : Type} (I_ : World → List α_ → Prop) (G_ : List Nat) (r : (List α_)) (a : Act) (w : World) : Prop :=
  ∃ (σ : Nat → Value) , a = fr 53 (ovl σ []) ∧ Chg (G_ ++ ([])) w0 w ∧ I_ w r
def s_sort_rotate_func {α_ : Type} (ls_ : α_ → α_ → Option Bool) (d_ : List α_) (a_ : Int) (m : Int) (b : Int) : Option ((List α_)) :=
  (iter (S := Int × Int × (List α_)) (R := (List α_)) (fun s15 =>
  (bif (s15.1 != s15.2.1) then (bif (decide (s15.2.1 < s15.1)) then (s_sort_swapRange_func ls_ s15.2.2 (w64 (m - s15.1)) m s15.2.1).bind fun r26 =>
  some (.nx (w64 (s15.1 - s15.2.1), s15.2.1, r26)) else (s_sort_swapRange_func ls_ s15.2.2 (w64 (m - s15.1)) (w64 ((w64 (m + s15.2.1)) - s15.1)) s15.1).bind fun r28 =>
  some (.nx (s15.1, w64 (s15.2.1 - s15.1), r28))) else some (.br (s15.1, s15.2.1, s15.2.2)))) FU (w64 (m - a_), w64 (b - m), d_)).bind fun o19 => after o19 (fun r_ => some r_) (fun s15 =>
  (s_sort_swapRange_func ls_ s15.2.2 (w64 (m - s15.1)) m s15.1).bind fun r30 =>
  some r30)
set_option maxHeartbeats 4000000 in
theorem c_sort_rotate_func {M : Nat → Prop} {w : World} {α_ : Type} {n0_ : Nat} {I_ : World → List α_ → Prop} {G_ : List Nat} {g_ sf_ : Nat} {lb_ sb_ : Array Value} (ls_ : α_ → α_ → Option Bool) (d_ : List α_) (a_ : Int) (m : Int) (b : Int) (hN_ : n0_ ≤ w.heap.size) (hE_ : Env Try.prog n0_ I_ G_ ls_ g_ lb_ sf_ sb_) (hI_ : I_ w d_) (hI : Own (Nw w (G_ ++ ([]))) M w (G_ ++ ([]))) (hM : ∀ g, w.heap.size ≤ g → M g) {r : (List α_)} (hs : s_sort_rotate_func ls_ d_ a_ m b = some r) :
    Gives Try.prog 152 [(.agg #[(.func (.func g_) #[] lb_), (.func (.func sf_) #[] sb_)]), (.int .i64 a_), (.int .i64 m), (.int .i64 b)] w (fun v w' => v = (.tuple #[]) ∧ Chg (G_ ++ ([])) w w' ∧ I_ w' r) := by
 refine calls_fr Try.func152 rfl Try.ntmps152 (Nat.le_of_ble_eq_true rfl) ?_
 have hO := hI
 have hC := Chg.refl (G_ ++ ([])) w
 unfold s_sort_rotate_func at hs
 refine wp_mono (Q := KPostN (k_sort_rotate_func M w I_ G_ r)) ?_ (fun e a w1 h => ?_)
 rotate_left
 ·cases e
  case ret =>
   obtain ⟨σ, rfl, hrest⟩ := h
   exact ret0x Try.results152  ⟨rfl, hrest⟩
  case normal =>
   obtain ⟨σ, rfl, hrest⟩ := h
   exact ret0n Try.results152  ⟨rfl, hrest⟩
  all_goals exact (h : False).elim
 refine c_seq (c_region ?_)
 obtain ⟨w1, g1, ew1, eg1, hC1, hb1⟩ := new_block w [(.func (.func g_) #[] lb_), (.func (.func sf_) #[] sb_)] 125
 refine pl_val (w' := w1) (.pointer (some ⟨g1, 0, none⟩)) (y_box rfl (by rw [ew1, eg1]; kernel_rfl)) ?_
 have hI_ := hE_.ext hI_ hC1 (fun _ h => nomatch h)
 have hC := hC.ext hC1
 have hO := hO.new1 hC1 eg1 hb1.lt
 refine c_nil ?_
 refine c_seq (c_region ?_)
 refine pl_val (.int .i64 m) (y_move rfl) ?_
 refine pl_val (.int .i64 a_) (y_move rfl) ?_
 refine pl_val (.int .i64 (w64 (m - a_))) (y_sub rfl rfl) ?_
 refine pl_val (.int .i64 (w64 (m - a_))) (y_assign rfl) ?_
 refine c_nil ?_
 refine c_seq (c_region ?_)
 refine pl_val (.int .i64 b) (y_move rfl) ?_
 refine pl_val (.int .i64 m) (y_move rfl) ?_
 refine pl_val (.int .i64 (w64 (b - m))) (y_sub rfl rfl) ?_
 refine pl_val (.int .i64 (w64 (b - m))) (y_assign rfl) ?_
 refine c_nil ?_
 refine c_seq ?_
 obtain ⟨o19, hl20, hs⟩ := bind_some hs
 refine wp_block ?_
 refine wp_iter (id := 0) (I := fun s15 a w16 => ∃ (σ : Nat → Value), a = fr 53 (ovl σ [(2, (.int .i64 m)), (4, (.pointer (some ⟨g1, 0, none⟩))), (8, (.int .i64 s15.1)), (9, (.int .i64 s15.2.1))]) ∧ Chg (G_ ++ ([])) w w16 ∧ Own (Nw w (G_ ++ ([]))) M w16 (([g1]) ++ (G_ ++ [])) ∧ I_ w16 s15.2.2 ∧ BoxV w16 g1 125 [(.func (.func g_) #[] lb_), (.func (.func sf_) #[] sb_)]) (J := fun s15 a w16 => ∃ (σ : Nat → Value), a = fr 53 (ovl σ [(2, (.int .i64 m)), (4, (.pointer (some ⟨g1, 0, none⟩))), (8, (.int .i64 s15.1))]) ∧ Chg (G_ ++ ([])) w w16 ∧ Own (Nw w (G_ ++ ([]))) M w16 (([g1]) ++ (G_ ++ [])) ∧ I_ w16 s15.2.2 ∧ BoxV w16 g1 125 [(.func (.func g_) #[] lb_), (.func (.func sf_) #[] sb_)]) (K := (k_sort_rotate_func M w I_ G_)) ?_ FU (w64 (m - a_), w64 (b - m), d_) o19 _ _ ?_ hl20 ?_
 ·rintro s15 o19 a w16 ⟨σ, rfl, hC, hO, hv21, hb1⟩ hs
  refine c_seq ?_
  refine c_seq (c_region ?_)
  refine pl_val (.int .i64 s15.1) (y_move rfl) ?_
  refine pl_val (.int .i64 s15.2.1) (y_move rfl) ?_
  refine pl_val (.bool (s15.1 != s15.2.1)) (y_neq rfl rfl) ?_
  refine c_nil ?_
  rcases bif_some hs with ⟨hc23, hs⟩ | ⟨hc23, hs⟩
  ·skip
   refine c_condT (congrArg Value.bool hc23) ?_
   refine wp_skip ?_
   refine wp_block ?_
   refine c_seq (c_region ?_)
   refine pl_val (.int .i64 s15.1) (y_move rfl) ?_
   refine pl_val (.int .i64 s15.2.1) (y_move rfl) ?_
   refine pl_val (.bool (decide (s15.2.1 < s15.1))) (y_gtr rfl rfl) ?_
   refine c_nil ?_
   rcases bif_some hs with ⟨hc24, hs⟩ | ⟨hc24, hs⟩
   ·skip
    refine c_condT (congrArg Value.bool hc24) ?_
    refine c_seq (c_region ?_)
    refine pl_val (.agg #[(.func (.func g_) #[] lb_), (.func (.func sf_) #[] sb_)]) (y_load rfl ((box_load Ag125 Sz125 hb1 [] [(.func (.func g_) #[] lb_), (.func (.func sf_) #[] sb_)] [] rfl rfl (fun h => nomatch h)) _ (Chg.refl _ _))) ?_
    refine pl_val (.int .i64 m) (y_move rfl) ?_
    refine pl_val (.int .i64 s15.1) (y_move rfl) ?_
    refine pl_val (.int .i64 (w64 (m - s15.1))) (y_sub rfl rfl) ?_
    refine pl_val (.int .i64 m) (y_move rfl) ?_
    refine pl_val (.int .i64 s15.2.1) (y_move rfl) ?_
    have hO := hO.fr1
    have hI25 := Own.lend (F := (G_ ++ ([]))) (R := ([g1]) ++ ([])) (Own.perm hO (by simp))
    obtain ⟨r26, hr26, hs⟩ := bind_some hs
    refine pl_call Bd153 rfl (c_sort_swapRange_func (M := M) ls_ s15.2.2 (w64 (m - s15.1)) m s15.2.1 (Nat.le_trans hN_ hC.size) hE_ hv21 hI25 hO.fut hr26) ?_
    rintro _ w25 ⟨rfl, hC25, hv25⟩
    have hb1 := hb1.chg hC25 (fun hg => hO.apart _ (nil_mem _ hg) (mem_l (List.mem_singleton.2 rfl)))
    have hC := hC.step hC25 (fun g hg => hO.inN g (nil_mem g hg))
    have hO := hO.ext hC25
    refine c_nil ?_
    refine c_region ?_
    refine pl_val (.int .i64 s15.1) (y_move rfl) ?_
    refine pl_val (.int .i64 s15.2.1) (y_move rfl) ?_
    refine pl_val (.int .i64 (w64 (s15.1 - s15.2.1))) (y_sub rfl rfl) ?_
    refine pl_val (.int .i64 (w64 (s15.1 - s15.2.1))) (y_assign rfl) ?_
    refine c_nil ?_
    cases hs
    have hO := hO.fr1
    exact ⟨_, fr_ovl 53 ⟨rfl, rfl, rfl, rfl, trivial⟩, hC, hO, hv25, hb1⟩
   ·skip
    refine c_condF (congrArg Value.bool hc24) ?_
    refine c_seq (c_region ?_)
    refine pl_val (.agg #[(.func (.func g_) #[] lb_), (.func (.func sf_) #[] sb_)]) (y_load rfl ((box_load Ag125 Sz125 hb1 [] [(.func (.func g_) #[] lb_), (.func (.func sf_) #[] sb_)] [] rfl rfl (fun h => nomatch h)) _ (Chg.refl _ _))) ?_
    refine pl_val (.int .i64 m) (y_move rfl) ?_
    refine pl_val (.int .i64 s15.1) (y_move rfl) ?_
    refine pl_val (.int .i64 (w64 (m - s15.1))) (y_sub rfl rfl) ?_
    refine pl_val (.int .i64 m) (y_move rfl) ?_
    refine pl_val (.int .i64 s15.2.1) (y_move rfl) ?_
    refine pl_val (.int .i64 (w64 (m + s15.2.1))) (y_add rfl rfl) ?_
    refine pl_val (.int .i64 s15.1) (y_move rfl) ?_
    refine pl_val (.int .i64 (w64 ((w64 (m + s15.2.1)) - s15.1))) (y_sub rfl rfl) ?_
    refine pl_val (.int .i64 s15.1) (y_move rfl) ?_
    have hO := hO.fr1
    have hI27 := Own.lend (F := (G_ ++ ([]))) (R := ([g1]) ++ ([])) (Own.perm hO (by simp))
    obtain ⟨r28, hr28, hs⟩ := bind_some hs
    refine pl_call Bd153 rfl (c_sort_swapRange_func (M := M) ls_ s15.2.2 (w64 (m - s15.1)) (w64 ((w64 (m + s15.2.1)) - s15.1)) s15.1 (Nat.le_trans hN_ hC.size) hE_ hv21 hI27 hO.fut hr28) ?_
    rintro _ w27 ⟨rfl, hC27, hv27⟩
    have hb1 := hb1.chg hC27 (fun hg => hO.apart _ (nil_mem _ hg) (mem_l (List.mem_singleton.2 rfl)))
    have hC := hC.step hC27 (fun g hg => hO.inN g (nil_mem g hg))
    have hO := hO.ext hC27
    refine c_nil ?_
    refine c_region ?_
    refine pl_val (.int .i64 s15.2.1) (y_move rfl) ?_
    refine pl_val (.int .i64 s15.1) (y_move rfl) ?_
    refine pl_val (.int .i64 (w64 (s15.2.1 - s15.1))) (y_sub rfl rfl) ?_
    refine pl_val (.int .i64 (w64 (s15.2.1 - s15.1))) (y_assign rfl) ?_
    refine c_nil ?_
    cases hs
    have hO := hO.fr1
    exact ⟨_, fr_ovl 53 ⟨rfl, rfl, rfl, rfl, trivial⟩, hC, hO, hv27, hb1⟩
  ·skip
   refine c_condF (congrArg Value.bool hc23) ?_
   refine wp_exit ?_
   cases hs
   have hO := hO.fr1
   have hO := hO.fr1
   exact ⟨rfl, _, fr_ovl 53 ⟨rfl, rfl, rfl, trivial⟩, hC, hO, hv21, hb1⟩
 ·skip
  have hO := hO.fr1
  have hO := hO.fr1
  exact ⟨_, fr_ovl 53 ⟨rfl, rfl, rfl, rfl, trivial⟩, hC, hO, hI_, hb1⟩
 ·cases o19 with
  | nx _ => exact True.intro
  | rt r_ =>
   have hs := after_rt hs
   intro a1 w1 hK
   cases hs
   exact hK
  | br s15 =>
   have hs := after_br hs
   rintro a1 w16 ⟨σ, rfl, hC, hO, hv22, hb1⟩
   refine c_region ?_
   refine pl_val (.agg #[(.func (.func g_) #[] lb_), (.func (.func sf_) #[] sb_)]) (y_load rfl ((box_load Ag125 Sz125 hb1 [] [(.func (.func g_) #[] lb_), (.func (.func sf_) #[] sb_)] [] rfl rfl (fun h => nomatch h)) _ (Chg.refl _ _))) ?_
   refine pl_val (.int .i64 m) (y_move rfl) ?_
   refine pl_val (.int .i64 s15.1) (y_move rfl) ?_
   refine pl_val (.int .i64 (w64 (m - s15.1))) (y_sub rfl rfl) ?_
   refine pl_val (.int .i64 m) (y_move rfl) ?_
   refine pl_val (.int .i64 s15.1) (y_move rfl) ?_
   have hO := hO.fr1
   have hI29 := Own.lend (F := (G_ ++ ([]))) (R := ([g1]) ++ ([])) (Own.perm hO (by simp))
   obtain ⟨r30, hr30, hs⟩ := bind_some hs
   refine pl_call Bd153 rfl (c_sort_swapRange_func (M := M) ls_ s15.2.2 (w64 (m - s15.1)) m s15.1 (Nat.le_trans hN_ hC.size) hE_ hv22 hI29 hO.fut hr30) ?_
   rintro _ w29 ⟨rfl, hC29, hv29⟩
   have hb1 := hb1.chg hC29 (fun hg => hO.apart _ (nil_mem _ hg) (mem_l (List.mem_singleton.2 rfl)))
   have hC := hC.step hC29 (fun g hg => hO.inN g (nil_mem g hg))
   have hO := hO.ext hC29
   refine c_nil ?_
   cases hs
   exact ⟨_, fr_ovl 53 trivial, hC, hv29⟩

theorem Bd152 : Bodied Try.prog 152 := bodied Try.func152 (by kernel_rfl) rfl

theorem Bd151 : Bodied Try.prog 151 := bodied Try.func151 (by kernel_rfl) rfl

end Go.Proofs
