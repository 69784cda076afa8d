/- What functions of the program compute, as plain functions, and that a call gives just that. Conditions: those named in each theorem. -/
import Derived.Test.YtdbfekcoaappnaaF2
set_option linter.unusedVariables false
namespace Go.Proofs
open Go.G Go.RowKit
set_option maxRecDepth 100000

def k_spec_IsUnanimityOp (M : Nat → Prop) (w0 : World) (r : Bool × Bool) (a : Act) (w : World) : Prop :=
  ∃ (σ : Nat → Value) , a = fr 53 (ovl σ [(4, (.bool r.1)), (5, (.bool r.2))]) ∧ Chg [] w0 w
def s_spec_IsUnanimityOp (n : Int) (op : Int × (List Int)) : Option (Bool × Bool) :=
  (s_spec_l18Takes n (op.1, op.2)).bind fun r4 =>
  (bif (!r4) then some (false, false) else (bif (op.1 != 3) then some (false, true) else (forC (S := Unit) (R := Bool × Bool) (fun k39 s37 =>
  (forC (S := Unit) (R := Bool × Bool) (fun k57 s55 =>
  ((s_spec_l18At n (op.1, op.2) k39 k39 k57).bind fun r66 =>
  (bif (r66 != k39) then some true else (s_spec_l18At n (op.1, op.2) k39 k57 k39).bind fun r69 =>
  (bif (r69 != k39) then some true else (s_spec_l18At n (op.1, op.2) k57 k39 k39).bind fun r72 =>
  some (r72 != k39)))).bind fun s61 =>
  (bif s61 then some (.rt (false, true)) else some (.nx ()))) 0 n ()).bind fun o59 => after o59 (fun r_ => some (.rt r_)) (fun s55 =>
  some (.nx ()))) 0 n ()).bind fun o41 => after o41 (fun r_ => some r_) (fun s37 =>
  some (true, true))))
set_option maxHeartbeats 4000000 in
theorem c_spec_IsUnanimityOp {M : Nat → Prop} {w : World} {pa0 : Option Addr} {pn0 pc0 : Nat} (n : Int) (op : Int × (List Int)) (h0 : (RT.rs (RT.int .i64)).val M w (.slice pa0 pn0 pc0) op.2 ([])) (hM : ∀ g, w.heap.size ≤ g → M g) {r : Bool × Bool} (hs : s_spec_IsUnanimityOp n op = some r) :
    Gives Try.prog 17 [(.int .i64 n), (.agg #[(.int .i64 op.1), (.slice pa0 pn0 pc0)])] w (fun v w' => v = (.tuple #[(.bool r.1), (.bool r.2)]) ∧ Chg [] w w') := by
 refine calls_fr Try.func17 rfl Try.ntmps17 (Nat.le_of_ble_eq_true rfl) ?_
 have hO := Own.start (N := Nw w []) hM Nw.fut
 have hC := Chg.refl [] w
 unfold s_spec_IsUnanimityOp at hs
 refine wp_mono (Q := KPost (k_spec_IsUnanimityOp M w r)) ?_ (fun e a b6 h => ?_)
 rotate_left
 ·cases e
  case ret =>
   obtain ⟨σ, rfl, hrest⟩ := h
   exact ret2x Try.results17 (res_tmp rfl) (res_tmp rfl) ⟨rfl, hrest⟩
  all_goals exact (h : False).elim
 refine c_sr ?_
 obtain ⟨b9, a3, c0, b7, b2, a0⟩ := new_block w [(.int .i64 op.1), (.slice pa0 pn0 pc0)] 27
 refine pl_val (w' := b9) (.pointer (some ⟨a3, 0, none⟩)) (y_box rfl (by rw [c0, b7]; kernel_rfl)) ?_
 have h0 := h0.ext b2
 have hC := hC.ext b2
 have hO := hO.new1 b2 b7 a0.lt
 refine pl_val (.bool false) (y_assign rfl) ?_
 refine pl_val (.bool false) (y_assign rfl) ?_
 refine c_nil ?_
 refine c_seq ?_
 refine c_sr ?_
 refine pl_val (.int .i64 n) (y_move rfl) ?_
 refine pl_val (.agg #[(.int .i64 op.1), (.slice pa0 pn0 pc0)]) (y_load rfl ((box_load Ag27 Sz27 a0 [] [(.int .i64 op.1), (.slice pa0 pn0 pc0)] [] rfl rfl (fun h => nomatch h)) _ (Chg.refl _ _))) ?_
 obtain ⟨r4, c1, hs⟩ := bind_some hs
 refine pl_call Bd44 rfl (c_spec_l18Takes (M := M) n (op.1, op.2) h0 hO.fut c1) ?_
 rintro _ c8 ⟨rfl, a9⟩
 have h0 := h0.ext a9
 have a0 := a0.cn a9
 have hC := hC.ext a9
 have hO := hO.ext a9
 refine pl_val (.bool (!r4)) (y_not rfl) ?_
 refine c_nil ?_
 rcases bif_some hs with ⟨b3, hs⟩ | ⟨b3, hs⟩
 ·refine c_condT (congrArg Value.bool b3) ?_
  refine c_sr ?_
  refine pl_val (.bool false) (y_assign rfl) ?_
  refine pl_val (.bool false) (y_assign rfl) ?_
  refine c_nil ?_
  refine wp_ret ?_
  cases hs
  exact ⟨_, fr_ovl 53 ⟨rfl, rfl, trivial⟩, hC⟩
 refine c_condF (congrArg Value.bool b3) ?_
 refine wp_skip ?_
 refine c_seq ?_
 refine c_sr ?_
 refine pl_val (.pointer (some ⟨a3, 0, none⟩)) (y_faddr rfl Fa27x0) ?_
 refine pl_val (.int .i64 op.1) (y_load rfl ((box_load Ag3 Sz3 a0 [] [(.int .i64 op.1)] [(.slice pa0 pn0 pc0)] rfl rfl (fun _ => rfl)) _ (Chg.refl _ _))) ?_
 refine pl_val (.bool (op.1 != 3)) (y_neq rfl rfl) ?_
 refine c_nil ?_
 rcases bif_some hs with ⟨b4, hs⟩ | ⟨b4, hs⟩
 ·refine c_condT (congrArg Value.bool b4) ?_
  refine c_sr ?_
  refine pl_val (.bool false) (y_assign rfl) ?_
  refine pl_val (.bool true) (y_assign rfl) ?_
  refine c_nil ?_
  refine wp_ret ?_
  cases hs
  exact ⟨_, fr_ovl 53 ⟨rfl, rfl, trivial⟩, hC⟩
 refine c_condF (congrArg Value.bool b4) ?_
 refine wp_skip ?_
 refine c_seq ?_
 refine c_sr ?_
 refine pl_val (.int .i64 0) (y_assign rfl) ?_
 refine c_nil ?_
 obtain ⟨o41, c2, hs⟩ := bind_some hs
 refine wp_block ?_
 refine wp_forC (id := 0) n (I := fun k39 s37 a a5 => ∃ (σ : Nat → Value), a = fr 53 (ovl σ [(0, (.int .i64 n)), (3, (.pointer (some ⟨a3, 0, none⟩))), (6, (.int .i64 k39))]) ∧ Chg [] w a5 ∧ Own (Nw w []) M a5 (([a3]) ++ []) ∧ (RT.rs (RT.int .i64)).val M a5 (.slice pa0 pn0 pc0) op.2 ([]) ∧ BoxV a5 a3 27 [(.int .i64 op.1), (.slice pa0 pn0 pc0)]) (J := fun s37 a a5 => ∃ (σ : Nat → Value), a = fr 53 (ovl σ []) ∧ Chg [] w a5 ∧ Own (Nw w []) M a5 (([a3]) ++ []) ∧ (RT.rs (RT.int .i64)).val M a5 (.slice pa0 pn0 pc0) op.2 ([]) ∧ BoxV a5 a3 27 [(.int .i64 op.1), (.slice pa0 pn0 pc0)]) (K := (k_spec_IsUnanimityOp M w)) ?_ ?_ 0 () o41 _ _ ?_ c2 ?_
 ·rintro k39 s37 a a5 ⟨σ, rfl, hC, hO, h0, a0⟩ hlt
  refine c_seq ?_
  refine c_sr ?_
  refine pl_val (.int .i64 k39) (y_move rfl) ?_
  refine pl_val (.int .i64 n) (y_move rfl) ?_
  refine pl_val (.bool (decide (k39 < n))) (y_lss rfl rfl) ?_
  refine c_nil ?_
  refine c_condF (congrArg Value.bool (decide_eq_false hlt)) ?_
  refine wp_exit ?_
  exact ⟨rfl, _, fr_ovl 53 trivial, hC, hO, h0, a0⟩
 ·rintro k39 s37 o41 a a5 ⟨σ, rfl, hC, hO, h0, a0⟩ hlt hw hs
  refine c_seq ?_
  refine c_sr ?_
  refine pl_val (.int .i64 k39) (y_move rfl) ?_
  refine pl_val (.int .i64 n) (y_move rfl) ?_
  refine pl_val (.bool (decide (k39 < n))) (y_lss rfl rfl) ?_
  refine c_nil ?_
  refine c_condT (congrArg Value.bool (decide_eq_true hlt)) ?_
  refine wp_skip ?_
  refine c_seq ?_
  refine wp_block ?_
  refine c_sr ?_
  refine pl_val (.int .i64 0) (y_assign rfl) ?_
  refine c_nil ?_
  obtain ⟨o59, c3, hs⟩ := bind_some hs
  refine wp_block ?_
  refine wp_forC (id := 2) n (I := fun k57 s55 a a4 => ∃ (σ : Nat → Value), a = fr 53 (ovl σ [(0, (.int .i64 n)), (3, (.pointer (some ⟨a3, 0, none⟩))), (6, (.int .i64 k39)), (7, (.int .i64 k57))]) ∧ Chg [] w a4 ∧ Own (Nw w []) M a4 (([a3]) ++ []) ∧ (RT.rs (RT.int .i64)).val M a4 (.slice pa0 pn0 pc0) op.2 ([]) ∧ BoxV a4 a3 27 [(.int .i64 op.1), (.slice pa0 pn0 pc0)]) (J := fun s55 a a4 => ∃ (σ : Nat → Value), a = fr 53 (ovl σ [(0, (.int .i64 n)), (3, (.pointer (some ⟨a3, 0, none⟩))), (6, (.int .i64 k39))]) ∧ Chg [] w a4 ∧ Own (Nw w []) M a4 (([a3]) ++ []) ∧ (RT.rs (RT.int .i64)).val M a4 (.slice pa0 pn0 pc0) op.2 ([]) ∧ BoxV a4 a3 27 [(.int .i64 op.1), (.slice pa0 pn0 pc0)]) (K := (k_spec_IsUnanimityOp M w)) ?_ ?_ 0 () o59 _ _ ?_ c3 ?_
  ·rintro k57 s55 a a4 ⟨σ, rfl, hC, hO, h0, a0⟩ hlt
   refine c_seq ?_
   refine c_sr ?_
   refine pl_val (.int .i64 k57) (y_move rfl) ?_
   refine pl_val (.int .i64 n) (y_move rfl) ?_
   refine pl_val (.bool (decide (k57 < n))) (y_lss rfl rfl) ?_
   refine c_nil ?_
   refine c_condF (congrArg Value.bool (decide_eq_false hlt)) ?_
   refine wp_exit ?_
   exact ⟨rfl, _, fr_ovl 53 ⟨rfl, rfl, rfl, trivial⟩, hC, hO, h0, a0⟩
  ·rintro k57 s55 o59 a a4 ⟨σ, rfl, hC, hO, h0, a0⟩ hlt hw hs
   refine c_seq ?_
   refine c_sr ?_
   refine pl_val (.int .i64 k57) (y_move rfl) ?_
   refine pl_val (.int .i64 n) (y_move rfl) ?_
   refine pl_val (.bool (decide (k57 < n))) (y_lss rfl rfl) ?_
   refine c_nil ?_
   refine c_condT (congrArg Value.bool (decide_eq_true hlt)) ?_
   refine wp_skip ?_
   refine c_seq ?_
   refine wp_block ?_
   refine c_seq ?_
   obtain ⟨s61, c4, hs⟩ := bind_some hs
   refine c_mid (I := fun a b8 => ∃ (σ : Nat → Value), a = fr 53 (ovl σ [(0, (.int .i64 n)), (3, (.pointer (some ⟨a3, 0, none⟩))), (6, (.int .i64 k39)), (7, (.int .i64 k57)), (52, (.bool s61))]) ∧ Chg [] a4 b8) ?_ ?_
   ·replace hs := c4
    have hMid := Chg.refl [] a4
    refine c_region ?_
    refine pl_val (.int .i64 n) (y_move rfl) ?_
    refine pl_val (.agg #[(.int .i64 op.1), (.slice pa0 pn0 pc0)]) (y_load rfl ((box_load Ag27 Sz27 a0 [] [(.int .i64 op.1), (.slice pa0 pn0 pc0)] [] rfl rfl (fun h => nomatch h)) _ (Chg.refl _ _))) ?_
    refine pl_val (.int .i64 k39) (y_move rfl) ?_
    refine pl_val (.int .i64 k39) (y_move rfl) ?_
    refine pl_val (.int .i64 k57) (y_move rfl) ?_
    obtain ⟨r66, c5, hs⟩ := bind_some hs
    refine pl_call Bd45 rfl (c_spec_l18At (M := M) n (op.1, op.2) k39 k39 k57 h0 hO.fut c5) ?_
    rintro _ c9 ⟨rfl, a6⟩
    have h0 := h0.ext a6
    have a0 := a0.cn a6
    have hMid := hMid.ext a6
    have hC := hC.ext a6
    have hO := hO.ext a6
    refine pl_val (.int .i64 k39) (y_move rfl) ?_
    refine pl_val (.bool (r66 != k39)) (y_neq rfl rfl) ?_
    refine pl_val (.bool (r66 != k39)) (y_move rfl) ?_
    rcases bif_some hs with ⟨a1, hs⟩ | ⟨a1, hs⟩
    ·skip
     refine pl_not (tg := 33) (by kernel_rfl) (congrArg Value.bool a1) ?_
     refine pl_not (tg := 33) (by kernel_rfl) (congrArg Value.bool a1) ?_
     refine pl_not (tg := 33) (by kernel_rfl) (congrArg Value.bool a1) ?_
     refine pl_not (tg := 33) (by kernel_rfl) (congrArg Value.bool a1) ?_
     refine pl_not (tg := 33) (by kernel_rfl) (congrArg Value.bool a1) ?_
     refine pl_not (tg := 33) (by kernel_rfl) (congrArg Value.bool a1) ?_
     refine pl_not (tg := 33) (by kernel_rfl) (congrArg Value.bool a1) ?_
     refine pl_not (tg := 33) (by kernel_rfl) (congrArg Value.bool a1) ?_
     refine pl_val (.bool true) (y_pick_t (congrArg Value.bool a1) rfl) ?_
     refine pl_val (.bool true) (y_move rfl) ?_
     refine pl_not (tg := 43) (by kernel_rfl) (by rfl) ?_
     refine pl_not (tg := 43) (by kernel_rfl) (by rfl) ?_
     refine pl_not (tg := 43) (by kernel_rfl) (by rfl) ?_
     refine pl_not (tg := 43) (by kernel_rfl) (by rfl) ?_
     refine pl_not (tg := 43) (by kernel_rfl) (by rfl) ?_
     refine pl_not (tg := 43) (by kernel_rfl) (by rfl) ?_
     refine pl_not (tg := 43) (by kernel_rfl) (by rfl) ?_
     refine pl_not (tg := 43) (by kernel_rfl) (by rfl) ?_
     refine pl_val (.bool true) (y_pick_t (by rfl) rfl) ?_
     refine c_nil ?_
     cases hs
     exact ⟨_, fr_ovl 53 ⟨rfl, rfl, rfl, rfl, rfl, trivial⟩, hMid⟩
    refine pl_yes (.int .i64 n) (tg := 33) (by kernel_rfl) (congrArg Value.bool a1) (y_move rfl) ?_
    refine pl_yes (.agg #[(.int .i64 op.1), (.slice pa0 pn0 pc0)]) (tg := 33) (by kernel_rfl) (congrArg Value.bool a1) (y_load rfl ((box_load Ag27 Sz27 a0 [] [(.int .i64 op.1), (.slice pa0 pn0 pc0)] [] rfl rfl (fun h => nomatch h)) _ (Chg.refl _ _))) ?_
    refine pl_yes (.int .i64 k39) (tg := 33) (by kernel_rfl) (congrArg Value.bool a1) (y_move rfl) ?_
    refine pl_yes (.int .i64 k57) (tg := 33) (by kernel_rfl) (congrArg Value.bool a1) (y_move rfl) ?_
    refine pl_yes (.int .i64 k39) (tg := 33) (by kernel_rfl) (congrArg Value.bool a1) (y_move rfl) ?_
    obtain ⟨r69, c6, hs⟩ := bind_some hs
    refine pl_cally (tg := 33) (by kernel_rfl) (congrArg Value.bool a1) Bd45 rfl (c_spec_l18At (M := M) n (op.1, op.2) k39 k57 k39 h0 hO.fut c6) ?_
    rintro _ d0 ⟨rfl, a7⟩
    have h0 := h0.ext a7
    have a0 := a0.cn a7
    have hMid := hMid.ext a7
    have hC := hC.ext a7
    have hO := hO.ext a7
    refine pl_yes (.int .i64 k39) (tg := 33) (by kernel_rfl) (congrArg Value.bool a1) (y_move rfl) ?_
    refine pl_yes (.bool (r69 != k39)) (tg := 33) (by kernel_rfl) (congrArg Value.bool a1) (y_neq rfl rfl) ?_
    refine pl_val (.bool (r69 != k39)) (y_pick_f (congrArg Value.bool a1) rfl) ?_
    refine pl_val (.bool (r69 != k39)) (y_move rfl) ?_
    rcases bif_some hs with ⟨a2, hs⟩ | ⟨a2, hs⟩
    ·skip
     refine pl_not (tg := 43) (by kernel_rfl) (congrArg Value.bool a2) ?_
     refine pl_not (tg := 43) (by kernel_rfl) (congrArg Value.bool a2) ?_
     refine pl_not (tg := 43) (by kernel_rfl) (congrArg Value.bool a2) ?_
     refine pl_not (tg := 43) (by kernel_rfl) (congrArg Value.bool a2) ?_
     refine pl_not (tg := 43) (by kernel_rfl) (congrArg Value.bool a2) ?_
     refine pl_not (tg := 43) (by kernel_rfl) (congrArg Value.bool a2) ?_
     refine pl_not (tg := 43) (by kernel_rfl) (congrArg Value.bool a2) ?_
     refine pl_not (tg := 43) (by kernel_rfl) (congrArg Value.bool a2) ?_
     refine pl_val (.bool true) (y_pick_t (congrArg Value.bool a2) rfl) ?_
     refine c_nil ?_
     cases hs
     exact ⟨_, fr_ovl 53 ⟨rfl, rfl, rfl, rfl, rfl, trivial⟩, hMid⟩
    refine pl_yes (.int .i64 n) (tg := 43) (by kernel_rfl) (congrArg Value.bool a2) (y_move rfl) ?_
    refine pl_yes (.agg #[(.int .i64 op.1), (.slice pa0 pn0 pc0)]) (tg := 43) (by kernel_rfl) (congrArg Value.bool a2) (y_load rfl ((box_load Ag27 Sz27 a0 [] [(.int .i64 op.1), (.slice pa0 pn0 pc0)] [] rfl rfl (fun h => nomatch h)) _ (Chg.refl _ _))) ?_
    refine pl_yes (.int .i64 k57) (tg := 43) (by kernel_rfl) (congrArg Value.bool a2) (y_move rfl) ?_
    refine pl_yes (.int .i64 k39) (tg := 43) (by kernel_rfl) (congrArg Value.bool a2) (y_move rfl) ?_
    refine pl_yes (.int .i64 k39) (tg := 43) (by kernel_rfl) (congrArg Value.bool a2) (y_move rfl) ?_
    obtain ⟨r72, c7, hs⟩ := bind_some hs
    refine pl_cally (tg := 43) (by kernel_rfl) (congrArg Value.bool a2) Bd45 rfl (c_spec_l18At (M := M) n (op.1, op.2) k57 k39 k39 h0 hO.fut c7) ?_
    rintro _ d1 ⟨rfl, a8⟩
    have h0 := h0.ext a8
    have a0 := a0.cn a8
    have hMid := hMid.ext a8
    have hC := hC.ext a8
    have hO := hO.ext a8
    refine pl_yes (.int .i64 k39) (tg := 43) (by kernel_rfl) (congrArg Value.bool a2) (y_move rfl) ?_
    refine pl_yes (.bool (r72 != k39)) (tg := 43) (by kernel_rfl) (congrArg Value.bool a2) (y_neq rfl rfl) ?_
    refine pl_val (.bool (r72 != k39)) (y_pick_f (congrArg Value.bool a2) rfl) ?_
    refine c_nil ?_
    cases hs
    exact ⟨_, fr_ovl 53 ⟨rfl, rfl, rfl, rfl, rfl, trivial⟩, hMid⟩
   rintro b0 b8 ⟨σ, rfl, b1⟩
   have h0 := h0.ext b1
   have a0 := a0.cn b1
   have hC := hC.ext b1
   have hO := hO.ext b1
   rcases bif_some hs with ⟨b5, hs⟩ | ⟨b5, hs⟩
   ·refine c_condT (congrArg Value.bool b5) ?_
    refine c_sr ?_
    refine pl_val (.bool false) (y_assign rfl) ?_
    refine pl_val (.bool true) (y_assign rfl) ?_
    refine c_nil ?_
    refine wp_ret ?_
    cases hs
    exact ⟨_, fr_ovl 53 ⟨rfl, rfl, trivial⟩, hC⟩
   refine c_condF (congrArg Value.bool b5) ?_
   refine wp_skip ?_
   refine c_region ?_
   refine pl_val (.int .i64 k57) (y_move rfl) ?_
   refine pl_val (.int .i64 (w64 (k57 + 1))) (y_add rfl rfl) ?_
   refine pl_val (.int .i64 (w64 (k57 + 1))) (y_assign rfl) ?_
   refine c_nil ?_
   cases hs
   exact ⟨_, fr_ovl 53 ⟨rfl, rfl, rfl, congrArg (Value.int .i64) hw, trivial⟩, hC, hO, h0, a0⟩
  ·skip
   exact ⟨_, fr_ovl 53 ⟨rfl, rfl, rfl, rfl, trivial⟩, hC, hO, h0, a0⟩
  cases o59 with
  | nx _ => exact True.intro
  | rt r_ =>
   have hs := after_rt hs
   intro b0 b6 hK
   cases hs
   exact hK
  | br s55 =>
   have hs := after_br hs
   rintro b0 a4 ⟨σ, rfl, hC, hO, h0, a0⟩
   refine c_region ?_
   refine pl_val (.int .i64 k39) (y_move rfl) ?_
   refine pl_val (.int .i64 (w64 (k39 + 1))) (y_add rfl rfl) ?_
   refine pl_val (.int .i64 (w64 (k39 + 1))) (y_assign rfl) ?_
   refine c_nil ?_
   cases hs
   exact ⟨_, fr_ovl 53 ⟨rfl, rfl, congrArg (Value.int .i64) hw, trivial⟩, hC, hO, h0, a0⟩
 ·skip
  exact ⟨_, fr_ovl 53 ⟨rfl, rfl, rfl, trivial⟩, hC, hO, h0, a0⟩
 cases o41 with
 | nx _ => exact True.intro
 | rt r_ =>
  have hs := after_rt hs
  intro b0 b6 hK
  cases hs
  exact hK
 | br s37 =>
  have hs := after_br hs
  rintro b0 a5 ⟨σ, rfl, hC, hO, h0, a0⟩
  refine c_sr ?_
  refine pl_val (.bool true) (y_assign rfl) ?_
  refine pl_val (.bool true) (y_assign rfl) ?_
  refine c_nil ?_
  refine wp_ret ?_
  cases hs
  exact ⟨_, fr_ovl 53 ⟨rfl, rfl, trivial⟩, hC⟩

def k_spec_l1Same (M : Nat → Prop) (w0 : World) (r : Bool) (a : Act) (w : World) : Prop :=
  ∃ (σ : Nat → Value) , a = fr 26 (ovl σ [(4, (.bool r))]) ∧ Chg [] w0 w
def s_spec_l1Same (a_ : List Int) (b : List Int) : Option (Bool) :=
  (bif ((a_.length : Int) != (b.length : Int)) then some false else (forC (S := Unit) (R := Bool) (fun k12 s10 =>
  (idx a_ k12).bind fun x17 =>
  (idx b k12).bind fun x19 =>
  (bif (x17 != x19) then some (.rt false) else some (.nx ()))) 0 (a_.length : Int) ()).bind fun o14 => after o14 (fun r_ => some r_) (fun s10 =>
  some true))
set_option maxHeartbeats 4000000 in
theorem c_spec_l1Same {M : Nat → Prop} {w : World} {pa0 : Option Addr} {pn0 pc0 : Nat} {pa1 : Option Addr} {pn1 pc1 : Nat} (a_ : List Int) (b : List Int) (h0 : (RT.rs (RT.int .i64)).val M w (.slice pa0 pn0 pc0) a_ ([])) (h1 : (RT.rs (RT.int .i64)).val M w (.slice pa1 pn1 pc1) b ([])) (hM : ∀ g, w.heap.size ≤ g → M g) {r : Bool} (hs : s_spec_l1Same a_ b = some r) :
    Gives Try.prog 46 [(.slice pa0 pn0 pc0), (.slice pa1 pn1 pc1)] w (fun v w' => v = (.bool r) ∧ Chg [] w w') := by
 refine calls_fr Try.func46 rfl Try.ntmps46 (Nat.le_of_ble_eq_true rfl) ?_
 have hO := Own.start (N := Nw w []) hM Nw.fut
 have hC := Chg.refl [] w
 unfold s_spec_l1Same at hs
 refine wp_mono (Q := KPost (k_spec_l1Same M w r)) ?_ (fun e a a4 h => ?_)
 rotate_left
 ·cases e
  case ret =>
   obtain ⟨σ, rfl, hrest⟩ := h
   exact ret1x Try.results46 (res_tmp rfl) ⟨rfl, hrest⟩
  all_goals exact (h : False).elim
 refine c_sr ?_
 refine pl_val (.bool false) (y_assign rfl) ?_
 refine c_nil ?_
 refine c_seq ?_
 refine c_sr ?_
 refine pl_val (.slice pa0 pn0 pc0) (y_move rfl) ?_
 refine pl_val (.int .i64 (a_.length : Int)) (y_len' Sl25 (rs_len h0) rfl) ?_
 refine pl_val (.slice pa1 pn1 pc1) (y_move rfl) ?_
 refine pl_val (.int .i64 (b.length : Int)) (y_len' Sl25 (rs_len h1) rfl) ?_
 refine pl_val (.bool ((a_.length : Int) != (b.length : Int))) (y_neq rfl rfl) ?_
 refine c_nil ?_
 rcases bif_some hs with ⟨a2, hs⟩ | ⟨a2, hs⟩
 ·refine c_condT (congrArg Value.bool a2) ?_
  refine c_sr ?_
  refine pl_val (.bool false) (y_assign rfl) ?_
  refine c_nil ?_
  refine wp_ret ?_
  cases hs
  exact ⟨_, fr_ovl 26 ⟨rfl, trivial⟩, hC⟩
 refine c_condF (congrArg Value.bool a2) ?_
 refine wp_skip ?_
 refine c_seq ?_
 refine c_sr ?_
 refine pl_val (.int .i64 0) (y_assign rfl) ?_
 refine c_nil ?_
 obtain ⟨o14, a5, hs⟩ := bind_some hs
 refine wp_block ?_
 refine wp_forC (id := 0) (a_.length : Int) (I := fun k12 s10 a a0 => ∃ (σ : Nat → Value), a = fr 26 (ovl σ [(0, (.slice pa0 pn0 pc0)), (1, (.slice pa1 pn1 pc1)), (5, (.int .i64 k12))]) ∧ Chg [] w a0 ∧ Own (Nw w []) M a0 ([]) ∧ (RT.rs (RT.int .i64)).val M a0 (.slice pa0 pn0 pc0) a_ ([]) ∧ (RT.rs (RT.int .i64)).val M a0 (.slice pa1 pn1 pc1) b ([])) (J := fun s10 a a0 => ∃ (σ : Nat → Value), a = fr 26 (ovl σ []) ∧ Chg [] w a0 ∧ Own (Nw w []) M a0 ([]) ∧ (RT.rs (RT.int .i64)).val M a0 (.slice pa0 pn0 pc0) a_ ([]) ∧ (RT.rs (RT.int .i64)).val M a0 (.slice pa1 pn1 pc1) b ([])) (K := (k_spec_l1Same M w)) ?_ ?_ 0 () o14 _ _ ?_ a5 ?_
 ·rintro k12 s10 a a0 ⟨σ, rfl, hC, hO, h0, h1⟩ hlt
  refine c_seq ?_
  refine c_sr ?_
  refine pl_val (.int .i64 k12) (y_move rfl) ?_
  refine pl_val (.slice pa0 pn0 pc0) (y_move rfl) ?_
  refine pl_val (.int .i64 (a_.length : Int)) (y_len' Sl25 (rs_len h0) rfl) ?_
  refine pl_val (.bool (decide (k12 < (a_.length : Int)))) (y_lss rfl rfl) ?_
  refine c_nil ?_
  refine c_condF (congrArg Value.bool (decide_eq_false hlt)) ?_
  refine wp_exit ?_
  exact ⟨rfl, _, fr_ovl 26 trivial, hC, hO, h0, h1⟩
 ·rintro k12 s10 o14 a a0 ⟨σ, rfl, hC, hO, h0, h1⟩ hlt hw hs
  refine c_seq ?_
  refine c_sr ?_
  refine pl_val (.int .i64 k12) (y_move rfl) ?_
  refine pl_val (.slice pa0 pn0 pc0) (y_move rfl) ?_
  refine pl_val (.int .i64 (a_.length : Int)) (y_len' Sl25 (rs_len h0) rfl) ?_
  refine pl_val (.bool (decide (k12 < (a_.length : Int)))) (y_lss rfl rfl) ?_
  refine c_nil ?_
  refine c_condT (congrArg Value.bool (decide_eq_true hlt)) ?_
  refine wp_skip ?_
  refine c_seq ?_
  refine wp_block ?_
  refine c_seq ?_
  refine x_start [] Mx rfl ?_
  have a1 := Chg.drew a0
  generalize World.drew a0 = a6 at a1 ⊢
  have h0 := h0.ext a1
  have h1 := h1.ext a1
  have hC := hC.ext a1
  have hO := hO.ext a1
  have hS := Chg.refl [] a6
  refine x_p 0 (.slice pa0 pn0 pc0) rfl (by kernel_rfl)  (fun _ => y_move rfl) (fun _ => hS) ?_
  refine x_p 1 (.int .i64 k12) rfl (by kernel_rfl)  (fun _ => y_move rfl) (fun _ => hS) ?_
  obtain ⟨x17, a7, hs⟩ := bind_some hs
  obtain ⟨a8, a9, b0, b1⟩ := rs_idx Sl25 Sz3 h0 a7
  refine x_p 2 (.pointer (some ⟨a8, a9, none⟩)) rfl (by kernel_rfl)  (fun _ => b0 _ _ _ _ _ _ _ _ _ rfl rfl) (fun _ => hS) ?_
  refine x_l 3 (.int .i64 x17) rfl (by kernel_rfl)  (fun w' hw' => y_load rfl ((at_load_int Ag3 Sz3 b1) w' hw')) hS ?_
  refine x_p 4 (.slice pa1 pn1 pc1) rfl (by kernel_rfl)  (fun _ => y_move rfl) (fun _ => hS) ?_
  refine x_p 5 (.int .i64 k12) rfl (by kernel_rfl)  (fun _ => y_move rfl) (fun _ => hS) ?_
  obtain ⟨x19, b2, hs⟩ := bind_some hs
  obtain ⟨b3, b4, b5, b6⟩ := rs_idx Sl25 Sz3 h1 b2
  refine x_p 6 (.pointer (some ⟨b3, b4, none⟩)) rfl (by kernel_rfl)  (fun _ => b5 _ _ _ _ _ _ _ _ _ rfl rfl) (fun _ => hS) ?_
  refine x_l 7 (.int .i64 x19) rfl (by kernel_rfl)  (fun w' hw' => y_load rfl ((at_load_int Ag3 Sz3 b6) w' hw')) hS ?_
  refine x_p 8 (.bool (x17 != x19)) rfl (by kernel_rfl)  (fun _ => y_neq rfl rfl) (fun _ => hS) ?_
  refine x_end (by kernel_rfl) ?_
  clear hS
  rcases bif_some hs with ⟨a3, hs⟩ | ⟨a3, hs⟩
  ·refine c_condT (congrArg Value.bool a3) ?_
   refine c_sr ?_
   refine pl_val (.bool false) (y_assign rfl) ?_
   refine c_nil ?_
   refine wp_ret ?_
   cases hs
   exact ⟨_, fr_ovl 26 ⟨rfl, trivial⟩, hC⟩
  refine c_condF (congrArg Value.bool a3) ?_
  refine wp_skip ?_
  refine c_region ?_
  refine pl_val (.int .i64 k12) (y_move rfl) ?_
  refine pl_val (.int .i64 (w64 (k12 + 1))) (y_add rfl rfl) ?_
  refine pl_val (.int .i64 (w64 (k12 + 1))) (y_assign rfl) ?_
  refine c_nil ?_
  cases hs
  exact ⟨_, fr_ovl 26 ⟨rfl, rfl, congrArg (Value.int .i64) hw, trivial⟩, hC, hO, h0, h1⟩
 ·skip
  exact ⟨_, fr_ovl 26 ⟨rfl, rfl, rfl, trivial⟩, hC, hO, h0, h1⟩
 cases o14 with
 | nx _ => exact True.intro
 | rt r_ =>
  have hs := after_rt hs
  intro b7 a4 hK
  cases hs
  exact hK
 | br s10 =>
  have hs := after_br hs
  rintro b7 a0 ⟨σ, rfl, hC, hO, h0, h1⟩
  refine c_sr ?_
  refine pl_val (.bool true) (y_assign rfl) ?_
  refine c_nil ?_
  refine wp_ret ?_
  cases hs
  exact ⟨_, fr_ovl 26 ⟨rfl, trivial⟩, hC⟩

theorem Bd46 : Bodied Try.prog 46 := bodied Try.func46 (by kernel_rfl) rfl

def k_spec_IsDiscriminatorOp (M : Nat → Prop) (w0 : World) (r : Bool × Bool) (a : Act) (w : World) : Prop :=
  ∃ (σ : Nat → Value) , a = fr 21 (ovl σ [(4, (.bool r.1)), (5, (.bool r.2))]) ∧ Chg [] w0 w
def s_spec_IsDiscriminatorOp (n : Int) (op : Int × (List Int)) : Option (Bool × Bool) :=
  (s_spec_l18Takes n (op.1, op.2)).bind fun r4 =>
  (bif (!r4) then some (false, false) else (bif (op.1 == 3) then (s_spec_l18Op n false).bind fun r9 =>
  (s_spec_l1Same op.2 r9.2).bind fun r12 =>
  some (r12, true) else some (false, true)))
set_option maxHeartbeats 4000000 in
theorem c_spec_IsDiscriminatorOp {M : Nat → Prop} {w : World} {pa0 : Option Addr} {pn0 pc0 : Nat} (n : Int) (op : Int × (List Int)) (h0 : (RT.rs (RT.int .i64)).val M w (.slice pa0 pn0 pc0) op.2 ([])) (hM : ∀ g, w.heap.size ≤ g → M g) {r : Bool × Bool} (hs : s_spec_IsDiscriminatorOp n op = some r) :
    Gives Try.prog 18 [(.int .i64 n), (.agg #[(.int .i64 op.1), (.slice pa0 pn0 pc0)])] w (fun v w' => v = (.tuple #[(.bool r.1), (.bool r.2)]) ∧ Chg [] w w') := by
 refine calls_fr Try.func18 rfl Try.ntmps18 (Nat.le_of_ble_eq_true rfl) ?_
 have hO := Own.start (N := Nw w []) hM Nw.fut
 have hC := Chg.refl [] w
 unfold s_spec_IsDiscriminatorOp at hs
 refine wp_mono (Q := KPost (k_spec_IsDiscriminatorOp M w r)) ?_ (fun e a c3 h => ?_)
 rotate_left
 ·cases e
  case ret =>
   obtain ⟨σ, rfl, hrest⟩ := h
   exact ret2x Try.results18 (res_tmp rfl) (res_tmp rfl) ⟨rfl, hrest⟩
  all_goals exact (h : False).elim
 refine c_sr ?_
 obtain ⟨b7, a5, b8, b1, a8, a1⟩ := new_block w [(.int .i64 op.1), (.slice pa0 pn0 pc0)] 27
 refine pl_val (w' := b7) (.pointer (some ⟨a5, 0, none⟩)) (y_box rfl (by rw [b8, b1]; kernel_rfl)) ?_
 have h0 := h0.ext a8
 have hC := hC.ext a8
 have hO := hO.new1 a8 b1 a1.lt
 refine pl_val (.bool false) (y_assign rfl) ?_
 refine pl_val (.bool false) (y_assign rfl) ?_
 refine c_nil ?_
 refine c_seq ?_
 refine c_sr ?_
 refine pl_val (.int .i64 n) (y_move rfl) ?_
 refine pl_val (.agg #[(.int .i64 op.1), (.slice pa0 pn0 pc0)]) (y_load rfl ((box_load Ag27 Sz27 a1 [] [(.int .i64 op.1), (.slice pa0 pn0 pc0)] [] rfl rfl (fun h => nomatch h)) _ (Chg.refl _ _))) ?_
 obtain ⟨r4, b9, hs⟩ := bind_some hs
 refine pl_call Bd44 rfl (c_spec_l18Takes (M := M) n (op.1, op.2) h0 hO.fut b9) ?_
 rintro _ b2 ⟨rfl, a6⟩
 have h0 := h0.ext a6
 have a1 := a1.cn a6
 have hC := hC.ext a6
 have hO := hO.ext a6
 refine pl_val (.bool (!r4)) (y_not rfl) ?_
 refine c_nil ?_
 rcases bif_some hs with ⟨a9, hs⟩ | ⟨a9, hs⟩
 ·refine c_condT (congrArg Value.bool a9) ?_
  refine c_sr ?_
  refine pl_val (.bool false) (y_assign rfl) ?_
  refine pl_val (.bool false) (y_assign rfl) ?_
  refine c_nil ?_
  refine wp_ret ?_
  cases hs
  exact ⟨_, fr_ovl 21 ⟨rfl, rfl, trivial⟩, hC⟩
 refine c_condF (congrArg Value.bool a9) ?_
 refine wp_skip ?_
 refine c_seq ?_
 refine x_start [] Mx rfl ?_
 have a4 := Chg.drew b2
 generalize World.drew b2 = c0 at a4 ⊢
 have h0 := h0.ext a4
 have a1 := a1.cn a4
 have hC := hC.ext a4
 have hO := hO.ext a4
 have hS := Chg.refl [] c0
 refine x_p 0 (.pointer (some ⟨a5, 0, none⟩)) rfl (by kernel_rfl)  (fun _ => y_faddr rfl Fa27x0) (fun _ => hS) ?_
 refine x_l 1 (.int .i64 op.1) rfl (by kernel_rfl)  (fun w' hw' => y_load rfl ((box_load Ag3 Sz3 a1 [] [(.int .i64 op.1)] [(.slice pa0 pn0 pc0)] rfl rfl (fun _ => rfl)) w' hw')) hS ?_
 refine x_p 2 (.bool (op.1 == 3)) rfl (by kernel_rfl)  (fun _ => y_eql rfl rfl) (fun _ => hS) ?_
 refine x_p 3 (.bool (op.1 == 3)) rfl (by kernel_rfl)  (fun _ => y_move rfl) (fun _ => hS) ?_
 rcases bif_some hs with ⟨a0, hs⟩ | ⟨a0, hs⟩
 ·skip
  refine x_py 4 (.pointer (some ⟨a5, 1, none⟩)) rfl (by kernel_rfl) (tg := 13) (by kernel_rfl) (congrArg Value.bool a0) (fun _ => y_faddr rfl Fa27x1) (fun _ => hS) ?_
  refine x_ly 5 (.slice pa0 pn0 pc0) rfl (by kernel_rfl) (tg := 13) (by kernel_rfl) (congrArg Value.bool a0) (fun w' hw' => y_load rfl ((box_load Ag25 Sz25 a1 [(.int .i64 op.1)] [(.slice pa0 pn0 pc0)] [] rfl rfl (fun _ => rfl)) w' hw')) hS ?_
  refine x_py 6 (.int .i64 n) rfl (by kernel_rfl) (tg := 13) (by kernel_rfl) (congrArg Value.bool a0) (fun _ => y_move rfl) (fun _ => hS) ?_
  refine x_one (i := 7) (by kernel_rfl) ?_
  obtain ⟨r9, c1, hs⟩ := bind_some hs
  refine xk_cally (b := false) rfl (tg := 13) (by kernel_rfl) (congrArg Value.bool a0) Bd35 rfl (c_spec_l18Op (M := M) n false  hO.fut c1) rfl (by rintro _ _ _ ⟨b3, b4, b5, b0, rfl, a3, a7, b6⟩; exact hS.ext a3) ?_
  rintro _ c4 ⟨b3, b4, b5, b0, rfl, a3, a7, b6⟩
  have h0 := h0.ext a3
  have a1 := a1.cn a3
  have hC := hC.ext a3
  have hO := Own.join0 hO a3 b6
  have hO := hO.perm (R := b0 ++ (([a5]) ++ ([]))) (by simp)
  have hS := hS.ext a3
  refine x_py 8 (.slice b3 b4 b5) rfl (by kernel_rfl) (tg := 13) (by kernel_rfl) (congrArg Value.bool a0) (fun _ => y_field rfl (by kernel_rfl)) (fun _ => hS) ?_
  refine x_one (i := 9) (by kernel_rfl) ?_
  obtain ⟨r12, c2, hs⟩ := bind_some hs
  refine xk_cally (b := false) rfl (tg := 13) (by kernel_rfl) (congrArg Value.bool a0) Bd46 rfl (c_spec_l1Same (M := (Less M b0)) op.2 r9.2 (h0.sub Less.sub) (((Frz.os Frz.int)).val a7 Less.sub Less.not) hO.less.fut c2) rfl (by rintro _ _ _ ⟨rfl, a2⟩; exact hS.ext a2) ?_
  rintro _ c5 ⟨rfl, a2⟩
  have h0 := h0.ext a2
  have a1 := a1.cn a2
  have a7 := a7.ext a2
  have hC := hC.ext a2
  have hO := hO.ext a2
  have hS := hS.ext a2
  refine x_p 10 (.bool r12) rfl (by kernel_rfl)  (fun _ => y_pick_t (congrArg Value.bool a0) rfl) (fun _ => hS) ?_
  refine x_p 11 (.bool r12) rfl (by kernel_rfl)  (fun _ => y_assign rfl) (fun _ => hS) ?_
  refine x_p 12 (.bool true) rfl (by kernel_rfl)  (fun _ => y_assign rfl) (fun _ => hS) ?_
  refine x_end (by kernel_rfl) ?_
  clear hS
  refine wp_ret ?_
  cases hs
  exact ⟨_, fr_ovl 21 ⟨rfl, rfl, trivial⟩, hC⟩
 refine x_pn 4 rfl (by kernel_rfl) (tg := 13) (by kernel_rfl) (congrArg Value.bool a0) (fun _ => hS) ?_
 refine x_pn 5 rfl (by kernel_rfl) (tg := 13) (by kernel_rfl) (congrArg Value.bool a0) (fun _ => hS) ?_
 refine x_pn 6 rfl (by kernel_rfl) (tg := 13) (by kernel_rfl) (congrArg Value.bool a0) (fun _ => hS) ?_
 refine x_pn 7 rfl (by kernel_rfl) (tg := 13) (by kernel_rfl) (congrArg Value.bool a0) (fun _ => hS) ?_
 refine x_pn 8 rfl (by kernel_rfl) (tg := 13) (by kernel_rfl) (congrArg Value.bool a0) (fun _ => hS) ?_
 refine x_pn 9 rfl (by kernel_rfl) (tg := 13) (by kernel_rfl) (congrArg Value.bool a0) (fun _ => hS) ?_
 refine x_p 10 (.bool false) rfl (by kernel_rfl)  (fun _ => y_pick_f (congrArg Value.bool a0) rfl) (fun _ => hS) ?_
 refine x_p 11 (.bool false) rfl (by kernel_rfl)  (fun _ => y_assign rfl) (fun _ => hS) ?_
 refine x_p 12 (.bool true) rfl (by kernel_rfl)  (fun _ => y_assign rfl) (fun _ => hS) ?_
 refine x_end (by kernel_rfl) ?_
 clear hS
 refine wp_ret ?_
 cases hs
 exact ⟨_, fr_ovl 21 ⟨rfl, rfl, trivial⟩, hC⟩

theorem Bd5 : Bodied Try.prog 5 := bodied Try.func5 (by kernel_rfl) rfl

theorem Bd6 : Bodied Try.prog 6 := bodied Try.func6 (by kernel_rfl) rfl

theorem Bd7 : Bodied Try.prog 7 := bodied Try.func7 (by kernel_rfl) rfl

theorem Bd8 : Bodied Try.prog 8 := bodied Try.func8 (by kernel_rfl) rfl

theorem Bd9 : Bodied Try.prog 9 := bodied Try.func9 (by kernel_rfl) rfl

theorem Bd10 : Bodied Try.prog 10 := bodied Try.func10 (by kernel_rfl) rfl

theorem Bd11 : Bodied Try.prog 11 := bodied Try.func11 (by kernel_rfl) rfl

theorem Bd12 : Bodied Try.prog 12 := bodied Try.func12 (by kernel_rfl) rfl

theorem Bd13 : Bodied Try.prog 13 := bodied Try.func13 (by kernel_rfl) rfl

theorem Bd14 : Bodied Try.prog 14 := bodied Try.func14 (by kernel_rfl) rfl

theorem Bd15 : Bodied Try.prog 15 := bodied Try.func15 (by kernel_rfl) rfl

theorem Bd16 : Bodied Try.prog 16 := bodied Try.func16 (by kernel_rfl) rfl

theorem Bd17 : Bodied Try.prog 17 := bodied Try.func17 (by kernel_rfl) rfl

theorem Bd18 : Bodied Try.prog 18 := bodied Try.func18 (by kernel_rfl) rfl

def k_laws_FnDiscriminators (M : Nat → Prop) (w0 : World) (r : Bool) (a : Act) (w : World) : Prop :=
  ∃ (σ : Nat → Value) , a = fr 259 (ovl σ [(2, (.bool r))]) ∧ Chg [] w0 w
def s_laws_FnDiscriminators (code : List Int) : Option (Bool) :=
  (s_laws_vBig code).bind fun r3 =>
  (bif r3 then some true else (s_spec_DrawDiscriminatorOp code).bind fun r6 =>
  (s_impl_DiscriminatorOp r6).bind fun r8 =>
  (s_spec_DiscriminatorOp r6).bind fun r13 =>
  ((bif (!(r8.2 == r13.2)) then some true else (s_laws_vOp (r8.1.1, r8.1.2) (r13.1.1, r13.1.2)).bind fun r22 =>
  some (!r22))).bind fun s17 =>
  (bif s17 then some false else (s_impl_DualDiscriminatorOp r6).bind fun r25 =>
  (s_spec_DualDiscriminatorOp r6).bind fun r30 =>
  ((bif (!(r25.2 == r30.2)) then some true else (bif (!(r25.2 == r8.2)) then some true else (s_laws_vOp (r25.1.1, r25.1.2) (r30.1.1, r30.1.2)).bind fun r40 =>
  some (!r40)))).bind fun s34 =>
  (bif s34 then some false else (bif r8.2 then (s_impl_IsPixleyOp r6 (r8.1.1, r8.1.2)).bind fun r44 =>
  (s_impl_IsUnanimityOp r6 (r25.1.1, r25.1.2)).bind fun r46 =>
  (s_impl_IsDiscriminatorOp r6 (r8.1.1, r8.1.2)).bind fun r48 =>
  (bif ((((((!r44.2) || (!r46.2)) || (!r48.2)) || (!r44.1)) || (!r46.1)) || (!r48.1)) then some false else (s_spec_DrawIsPixleyOp code).bind fun r85 =>
  (s_impl_IsPixleyOp r85.1 (r85.2.1, r85.2.2)).bind fun r90 =>
  (s_spec_IsPixleyOp r85.1 (r85.2.1, r85.2.2)).bind fun r92 =>
  (bif ((!(r90.1 == r92.1)) || (!(r90.2 == r92.2))) then some false else (bif r90.1 then (forC (S := (List Int)) (R := Bool) (fun k401 s399 =>
  (forC (S := (List Int)) (R := Bool) (fun k503 s501 =>
  (forC (S := (List Int)) (R := Bool) (fun k537 s535 =>
  (idx r85.2.2 (w64 ((w64 ((w64 ((w64 (k401 * r85.1)) + k503)) * r85.1)) + k537))).bind fun x545 =>
  (idx r85.2.2 (w64 ((w64 ((w64 ((w64 (k401 * r85.1)) + x545)) * r85.1)) + k537))).bind fun x548 =>
  (app s535 ([x548])).bind fun y553 =>
  some (.nx y553)) 0 r85.1 s501).bind fun o539 => after o539 (fun r_ => some (.rt r_)) (fun s535 =>
  some (.nx s535))) 0 r85.1 s399).bind fun o505 => after o505 (fun r_ => some (.rt r_)) (fun s501 =>
  some (.nx s501))) 0 r85.1 ([])).bind fun o403 => after o403 (fun r_ => some r_) (fun s399 =>
  (s_impl_IsUnanimityOp r85.1 (3, s399)).bind fun r557 =>
  (bif ((!r557.2) || (!r557.1)) then some false else (s_impl_IsUnanimityOp r85.1 (r85.2.1, r85.2.2)).bind fun r564 =>
  (s_spec_IsUnanimityOp r85.1 (r85.2.1, r85.2.2)).bind fun r566 =>
  (bif ((!(r564.1 == r566.1)) || (!(r564.2 == r566.2))) then some false else (s_impl_IsDiscriminatorOp r85.1 (r85.2.1, r85.2.2)).bind fun r573 =>
  (s_spec_IsDiscriminatorOp r85.1 (r85.2.1, r85.2.2)).bind fun r575 =>
  (bif (r573.1 == r575.1) then (bif (r573.2 == r575.2) then (bif (!r573.1) then some true else some r90.1) else some false) else some false)))) else (s_impl_IsUnanimityOp r85.1 (r85.2.1, r85.2.2)).bind fun r580 =>
  (s_spec_IsUnanimityOp r85.1 (r85.2.1, r85.2.2)).bind fun r582 =>
  (bif ((!(r580.1 == r582.1)) || (!(r580.2 == r582.2))) then some false else (s_impl_IsDiscriminatorOp r85.1 (r85.2.1, r85.2.2)).bind fun r589 =>
  (s_spec_IsDiscriminatorOp r85.1 (r85.2.1, r85.2.2)).bind fun r591 =>
  (bif (r589.1 == r591.1) then (bif (r589.2 == r591.2) then (bif (!r589.1) then some true else some r90.1) else some false) else some false))))) else (s_spec_DrawIsPixleyOp code).bind fun r596 =>
  (s_impl_IsPixleyOp r596.1 (r596.2.1, r596.2.2)).bind fun r601 =>
  (s_spec_IsPixleyOp r596.1 (r596.2.1, r596.2.2)).bind fun r603 =>
  (bif ((!(r601.1 == r603.1)) || (!(r601.2 == r603.2))) then some false else (bif r601.1 then (forC (S := (List Int)) (R := Bool) (fun k912 s910 =>
  (forC (S := (List Int)) (R := Bool) (fun k1014 s1012 =>
  (forC (S := (List Int)) (R := Bool) (fun k1048 s1046 =>
  (idx r596.2.2 (w64 ((w64 ((w64 ((w64 (k912 * r596.1)) + k1014)) * r596.1)) + k1048))).bind fun x1056 =>
  (idx r596.2.2 (w64 ((w64 ((w64 ((w64 (k912 * r596.1)) + x1056)) * r596.1)) + k1048))).bind fun x1059 =>
  (app s1046 ([x1059])).bind fun y1064 =>
  some (.nx y1064)) 0 r596.1 s1012).bind fun o1050 => after o1050 (fun r_ => some (.rt r_)) (fun s1046 =>
  some (.nx s1046))) 0 r596.1 s910).bind fun o1016 => after o1016 (fun r_ => some (.rt r_)) (fun s1012 =>
  some (.nx s1012))) 0 r596.1 ([])).bind fun o914 => after o914 (fun r_ => some r_) (fun s910 =>
  (s_impl_IsUnanimityOp r596.1 (3, s910)).bind fun r1068 =>
  (bif ((!r1068.2) || (!r1068.1)) then some false else (s_impl_IsUnanimityOp r596.1 (r596.2.1, r596.2.2)).bind fun r1075 =>
  (s_spec_IsUnanimityOp r596.1 (r596.2.1, r596.2.2)).bind fun r1077 =>
  (bif ((!(r1075.1 == r1077.1)) || (!(r1075.2 == r1077.2))) then some false else (s_impl_IsDiscriminatorOp r596.1 (r596.2.1, r596.2.2)).bind fun r1084 =>
  (s_spec_IsDiscriminatorOp r596.1 (r596.2.1, r596.2.2)).bind fun r1086 =>
  (bif (r1084.1 == r1086.1) then (bif (r1084.2 == r1086.2) then (bif (!r1084.1) then some true else some r601.1) else some false) else some false)))) else (s_impl_IsUnanimityOp r596.1 (r596.2.1, r596.2.2)).bind fun r1091 =>
  (s_spec_IsUnanimityOp r596.1 (r596.2.1, r596.2.2)).bind fun r1093 =>
  (bif ((!(r1091.1 == r1093.1)) || (!(r1091.2 == r1093.2))) then some false else (s_impl_IsDiscriminatorOp r596.1 (r596.2.1, r596.2.2)).bind fun r1100 =>
  (s_spec_IsDiscriminatorOp r596.1 (r596.2.1, r596.2.2)).bind fun r1102 =>
  (bif (r1100.1 == r1102.1) then (bif (r1100.2 == r1102.2) then (bif (!r1100.1) then some true else some r601.1) else some false) else some false))))))))
set_option maxHeartbeats 4000000 in
theorem c_laws_FnDiscriminators {M : Nat → Prop} {w : World} {pa0 : Option Addr} {pn0 pc0 : Nat} (code : List Int) (h0 : (RT.rs (RT.int .u8)).val M w (.slice pa0 pn0 pc0) code ([])) (hM : ∀ g, w.heap.size ≤ g → M g) {r : Bool} (hs : s_laws_FnDiscriminators code = some r) :
    Gives Try.prog 3 [(.slice pa0 pn0 pc0)] w (fun v w' => v = (.bool r) ∧ Chg [] w w') := by
 refine calls_fr Try.func3 rfl Try.ntmps3 (Nat.le_of_ble_eq_true rfl) ?_
 have hO := Own.start (N := Nw w []) hM Nw.fut
 have hC := Chg.refl [] w
 unfold s_laws_FnDiscriminators at hs
 refine wp_mono (Q := KPost (k_laws_FnDiscriminators M w r)) ?_ (fun e a m0 h => ?_)
 rotate_left
 ·cases e
  case ret =>
   obtain ⟨σ, rfl, hrest⟩ := h
   exact ret1x Try.results3 (res_tmp rfl) ⟨rfl, hrest⟩
  all_goals exact (h : False).elim
 refine c_sr ?_
 refine pl_val (.bool false) (y_assign rfl) ?_
 refine c_nil ?_
 refine c_seq ?_
 refine c_sr ?_
 refine pl_val (.slice pa0 pn0 pc0) (y_move rfl) ?_
 obtain ⟨r3, G6, hs⟩ := bind_some hs
 refine pl_call Bd5 rfl (c_laws_vBig (M := M) code h0 hO.fut G6) ?_
 rintro _ R9 ⟨rfl, x8⟩
 have h0 := h0.ext x8
 have hC := hC.ext x8
 have hO := hO.ext x8
 refine c_nil ?_
 rcases bif_some hs with ⟨x9, hs⟩ | ⟨x9, hs⟩
 ·refine c_condT (congrArg Value.bool x9) ?_
  refine c_sr ?_
  refine pl_val (.bool true) (y_assign rfl) ?_
  refine c_nil ?_
  refine wp_ret ?_
  cases hs
  exact ⟨_, fr_ovl 259 ⟨rfl, trivial⟩, hC⟩
 refine c_condF (congrArg Value.bool x9) ?_
 refine wp_skip ?_
 refine c_sr ?_
 refine pl_val (.slice pa0 pn0 pc0) (y_move rfl) ?_
 obtain ⟨r6, G7, hs⟩ := bind_some hs
 refine pl_call Bd6 rfl (c_spec_DrawDiscriminatorOp (M := M) code h0 hO.fut G7) ?_
 rintro _ S0 ⟨rfl, y0⟩
 have h0 := h0.ext y0
 have hC := hC.ext y0
 have hO := hO.ext y0
 refine pl_val (.int .i64 r6) (y_assign rfl) ?_
 refine c_nil ?_
 refine c_sr ?_
 refine pl_val (.int .i64 r6) (y_move rfl) ?_
 obtain ⟨r8, G8, hs⟩ := bind_some hs
 refine pl_call Bd7 rfl (c_impl_DiscriminatorOp (M := M) r6  hO.fut G8) ?_
 rintro _ G9 ⟨e3, e4, e5, i9, rfl, y1, a4, H0⟩
 have h0 := h0.ext y1
 have hC := hC.ext y1
 have hO := Own.join0 hO y1 H0
 have hO := hO.perm (R := i9 ++ ([])) (by simp)
 refine pl_val (.tuple #[(.agg #[(.int .i64 r8.1.1), (.slice e3 e4 e5)]), (.bool r8.2)]) (y_move rfl) ?_
 refine pl_val (.agg #[(.int .i64 r8.1.1), (.slice e3 e4 e5)]) (y_extract rfl (by kernel_rfl)) ?_
 refine pl_val (.bool r8.2) (y_extract rfl (by kernel_rfl)) ?_
 obtain ⟨H1, j0, H2, B4, q9, B5⟩ := new_block G9 [(.int .i64 0), (.slice none 0 0)] 27
 refine pl_val (w' := H1) (.pointer (some ⟨j0, 0, none⟩)) (y_alloc (by rw [H2, B4]; kernel_rfl)) ?_
 have h0 := h0.ext q9
 have a4 := a4.ext q9
 have hC := hC.ext q9
 have hO := hO.new1 q9 B4 B5.lt
 obtain ⟨B6, H3, r0, a5⟩ := box_store (P := Try.prog) B5 [] [(.int .i64 0), (.slice none 0 0)] [] [(.int .i64 r8.1.1), (.slice e3 e4 e5)] rfl rfl (by intro u hu; simp only [List.mem_cons, List.not_mem_nil, or_false] at hu; rcases hu with rfl | rfl <;> rfl)
 refine pl_skip (w' := B6) (ys_store rfl rfl (H3 _ _ rfl Sz27)) ?_
 have h0 := h0.mt r0 hO same_
 have a4 := a4.ma r0 hO same_ (fun _ e => (mem_l (e)))
 have hC := hC.st r0 hO same_
 have hO := hO.ext r0
 have a5 : BoxV B6 j0 27 [(.int .i64 r8.1.1), (.slice e3 e4 e5)] := a5
 refine pl_val (.bool r8.2) (y_assign rfl) ?_
 refine c_nil ?_
 refine c_seq ?_
 refine c_sr ?_
 refine pl_val (.int .i64 r6) (y_move rfl) ?_
 obtain ⟨r13, H4, hs⟩ := bind_some hs
 refine pl_call Bd8 rfl (c_spec_DiscriminatorOp (M := M) r6  hO.fut H4) ?_
 rintro _ H5 ⟨m1, m2, m3, y2, rfl, o7, c9, H6⟩
 have h0 := h0.ext o7
 have a4 := a4.ext o7
 have a5 := a5.cn o7
 have hC := hC.ext o7
 have hO := Own.join0 hO o7 H6
 have hO := hO.perm (R := y2 ++ (([j0]) ++ (i9 ++ ([])))) (by simp)
 refine pl_val (.tuple #[(.agg #[(.int .i64 r13.1.1), (.slice m1 m2 m3)]), (.bool r13.2)]) (y_move rfl) ?_
 refine pl_val (.agg #[(.int .i64 r13.1.1), (.slice m1 m2 m3)]) (y_extract rfl (by kernel_rfl)) ?_
 refine pl_val (.bool r13.2) (y_extract rfl (by kernel_rfl)) ?_
 obtain ⟨H7, y3, H8, B7, m4, B8⟩ := new_block H5 [(.int .i64 0), (.slice none 0 0)] 27
 refine pl_val (w' := H7) (.pointer (some ⟨y3, 0, none⟩)) (y_alloc (by rw [H8, B7]; kernel_rfl)) ?_
 have h0 := h0.ext m4
 have a4 := a4.ext m4
 have a5 := a5.cn m4
 have c9 := c9.ext m4
 have hC := hC.ext m4
 have hO := hO.new1 m4 B7 B8.lt
 obtain ⟨r1, H9, m5, d0⟩ := box_store (P := Try.prog) B8 [] [(.int .i64 0), (.slice none 0 0)] [] [(.int .i64 r13.1.1), (.slice m1 m2 m3)] rfl rfl (by intro u hu; simp only [List.mem_cons, List.not_mem_nil, or_false] at hu; rcases hu with rfl | rfl <;> rfl)
 refine pl_skip (w' := r1) (ys_store rfl rfl (H9 _ _ rfl Sz27)) ?_
 have h0 := h0.mt m5 hO same_
 have a4 := a4.ma m5 hO same_ (fun _ e => (mem_r (mem_r (mem_l (e)))))
 have a5 := a5.ap m5 hO same_ (mem_r (mem_l (List.mem_singleton.2 rfl)))
 have c9 := c9.ma m5 hO same_ (fun _ e => (mem_l (e)))
 have hC := hC.st m5 hO same_
 have hO := hO.ext m5
 have d0 : BoxV r1 y3 27 [(.int .i64 r13.1.1), (.slice m1 m2 m3)] := d0
 refine pl_val (.bool r13.2) (y_assign rfl) ?_
 refine c_nil ?_
 refine c_seq ?_
 obtain ⟨s17, I0, hs⟩ := bind_some hs
 refine c_mid (I := fun a B9 => ∃ (σ : Nat → Value), a = fr 259 (ovl σ [(0, (.slice pa0 pn0 pc0)), (2, (.bool false)), (3, (.int .i64 r6)), (4, (.pointer (some ⟨j0, 0, none⟩))), (5, (.bool r8.2)), (61, (.bool s17))]) ∧ Chg [] r1 B9) ?_ ?_
 ·replace hs := I0
  have hMid := Chg.refl [] r1
  refine c_region ?_
  refine pl_val (.bool r8.2) (y_move rfl) ?_
  refine pl_val (.bool r13.2) (y_move rfl) ?_
  refine pl_val (.bool (!(r8.2 == r13.2))) (y_bneq Try.underlying4 rfl rfl) ?_
  refine pl_val (.bool (!(r8.2 == r13.2))) (y_move rfl) ?_
  rcases bif_some hs with ⟨d5, hs⟩ | ⟨d5, hs⟩
  ·skip
   refine pl_not (tg := 56) (by kernel_rfl) (congrArg Value.bool d5) ?_
   refine pl_not (tg := 56) (by kernel_rfl) (congrArg Value.bool d5) ?_
   refine pl_not (tg := 56) (by kernel_rfl) (congrArg Value.bool d5) ?_
   refine pl_not (tg := 56) (by kernel_rfl) (congrArg Value.bool d5) ?_
   refine pl_val (.bool true) (y_pick_t (congrArg Value.bool d5) rfl) ?_
   refine c_nil ?_
   have hO := hO.drop
   have hO := hO.drop
   cases hs
   exact ⟨_, fr_ovl 259 ⟨rfl, rfl, rfl, rfl, rfl, rfl, trivial⟩, hMid⟩
  refine pl_yes (.agg #[(.int .i64 r8.1.1), (.slice e3 e4 e5)]) (tg := 56) (by kernel_rfl) (congrArg Value.bool d5) (y_load rfl ((box_load Ag27 Sz27 a5 [] [(.int .i64 r8.1.1), (.slice e3 e4 e5)] [] rfl rfl (fun h => nomatch h)) _ (Chg.refl _ _))) ?_
  refine pl_yes (.agg #[(.int .i64 r13.1.1), (.slice m1 m2 m3)]) (tg := 56) (by kernel_rfl) (congrArg Value.bool d5) (y_load rfl ((box_load Ag27 Sz27 d0 [] [(.int .i64 r13.1.1), (.slice m1 m2 m3)] [] rfl rfl (fun h => nomatch h)) _ (Chg.refl _ _))) ?_
  have hO := hO.fr1
  have hO := hO.fr3
  obtain ⟨r22, I1, hs⟩ := bind_some hs
  refine pl_cally (tg := 56) (by kernel_rfl) (congrArg Value.bool d5) Bd9 rfl (c_laws_vOp (M := (Less (Less M i9) y2)) (r8.1.1, r8.1.2) (r13.1.1, r13.1.2) ((((Frz.os Frz.int)).val a4 Less.sub Less.not).sub Less.sub) (((Frz.os Frz.int)).val (c9.sub Less.sub) Less.sub Less.not) (hO.less).less.fut I1) ?_
  rintro _ S1 ⟨rfl, j1⟩
  have h0 := h0.ext j1
  have a4 := a4.ext j1
  have a5 := a5.cn j1
  have c9 := c9.ext j1
  have d0 := d0.cn j1
  have hMid := hMid.ext j1
  have hC := hC.ext j1
  have hO := hO.ext j1
  refine pl_yes (.bool (!r22)) (tg := 56) (by kernel_rfl) (congrArg Value.bool d5) (y_not rfl) ?_
  refine pl_val (.bool (!r22)) (y_pick_f (congrArg Value.bool d5) rfl) ?_
  refine c_nil ?_
  have hO := hO.fr1
  have hO := hO.drop
  have hO := hO.fr1
  have hO := hO.drop
  cases hs
  exact ⟨_, fr_ovl 259 ⟨rfl, rfl, rfl, rfl, rfl, rfl, trivial⟩, hMid⟩
 rintro c2 B9 ⟨σ, rfl, l1⟩
 have h0 := h0.ext l1
 have a4 := a4.ext l1
 have a5 := a5.cn l1
 have c9 := c9.ext l1
 have d0 := d0.cn l1
 have hC := hC.ext l1
 have hO := hO.ext l1
 rcases bif_some hs with ⟨y4, hs⟩ | ⟨y4, hs⟩
 ·refine c_condT (congrArg Value.bool y4) ?_
  refine c_sr ?_
  refine pl_val (.bool false) (y_assign rfl) ?_
  refine c_nil ?_
  have hO := hO.drop
  have hO := hO.drop
  refine wp_ret ?_
  cases hs
  exact ⟨_, fr_ovl 259 ⟨rfl, trivial⟩, hC⟩
 refine c_condF (congrArg Value.bool y4) ?_
 refine wp_skip ?_
 refine c_sr ?_
 refine pl_val (.int .i64 r6) (y_move rfl) ?_
 obtain ⟨r25, I2, hs⟩ := bind_some hs
 refine pl_call Bd10 rfl (c_impl_DualDiscriminatorOp (M := M) r6  hO.fut I2) ?_
 rintro _ I3 ⟨j2, j3, j4, o8, rfl, l2, b4, I4⟩
 have h0 := h0.ext l2
 have a4 := a4.ext l2
 have a5 := a5.cn l2
 have c9 := c9.ext l2
 have d0 := d0.cn l2
 have hC := hC.ext l2
 have hO := Own.join0 hO l2 I4
 have hO := hO.perm (R := o8 ++ (([y3]) ++ (y2 ++ (([j0]) ++ (i9 ++ ([])))))) (by simp)
 refine pl_val (.tuple #[(.agg #[(.int .i64 r25.1.1), (.slice j2 j3 j4)]), (.bool r25.2)]) (y_move rfl) ?_
 refine pl_val (.agg #[(.int .i64 r25.1.1), (.slice j2 j3 j4)]) (y_extract rfl (by kernel_rfl)) ?_
 refine pl_val (.bool r25.2) (y_extract rfl (by kernel_rfl)) ?_
 obtain ⟨I5, o9, I6, C0, j5, C1⟩ := new_block I3 [(.int .i64 0), (.slice none 0 0)] 27
 refine pl_val (w' := I5) (.pointer (some ⟨o9, 0, none⟩)) (y_alloc (by rw [I6, C0]; kernel_rfl)) ?_
 have h0 := h0.ext j5
 have a4 := a4.ext j5
 have a5 := a5.cn j5
 have c9 := c9.ext j5
 have d0 := d0.cn j5
 have b4 := b4.ext j5
 have hC := hC.ext j5
 have hO := hO.new1 j5 C0 C1.lt
 obtain ⟨C2, I7, j6, b7⟩ := box_store (P := Try.prog) C1 [] [(.int .i64 0), (.slice none 0 0)] [] [(.int .i64 r25.1.1), (.slice j2 j3 j4)] rfl rfl (by intro u hu; simp only [List.mem_cons, List.not_mem_nil, or_false] at hu; rcases hu with rfl | rfl <;> rfl)
 refine pl_skip (w' := C2) (ys_store rfl rfl (I7 _ _ rfl Sz27)) ?_
 have h0 := h0.mt j6 hO same_
 have a4 := a4.ma j6 hO same_ (fun _ e => (mem_r (mem_r (mem_r (mem_r (mem_l (e)))))))
 have a5 := a5.ap j6 hO same_ (mem_r (mem_r (mem_r (mem_l (List.mem_singleton.2 rfl)))))
 have c9 := c9.ma j6 hO same_ (fun _ e => (mem_r (mem_r (mem_l (e)))))
 have d0 := d0.ap j6 hO same_ (mem_r (mem_l (List.mem_singleton.2 rfl)))
 have b4 := b4.ma j6 hO same_ (fun _ e => (mem_l (e)))
 have hC := hC.st j6 hO same_
 have hO := hO.ext j6
 have b7 : BoxV C2 o9 27 [(.int .i64 r25.1.1), (.slice j2 j3 j4)] := b7
 refine pl_val (.bool r25.2) (y_assign rfl) ?_
 refine c_nil ?_
 have hO := hO.fr2
 have hO := hO.drop
 have hO := hO.fr2
 have hO := hO.drop
 refine c_seq ?_
 refine c_sr ?_
 refine pl_val (.int .i64 r6) (y_move rfl) ?_
 obtain ⟨r30, I8, hs⟩ := bind_some hs
 refine pl_call Bd11 rfl (c_spec_DualDiscriminatorOp (M := M) r6  hO.fut I8) ?_
 rintro _ I9 ⟨m6, m7, m8, C3, rfl, l3, e7, J0⟩
 have h0 := h0.ext l3
 have a4 := a4.ext l3
 have a5 := a5.cn l3
 have b4 := b4.ext l3
 have b7 := b7.cn l3
 have hC := hC.ext l3
 have hO := Own.join0 hO l3 J0
 have hO := hO.perm (R := C3 ++ (([o9]) ++ (o8 ++ (([j0]) ++ (i9 ++ ([])))))) (by simp)
 refine pl_val (.tuple #[(.agg #[(.int .i64 r30.1.1), (.slice m6 m7 m8)]), (.bool r30.2)]) (y_move rfl) ?_
 refine pl_val (.agg #[(.int .i64 r30.1.1), (.slice m6 m7 m8)]) (y_extract rfl (by kernel_rfl)) ?_
 refine pl_val (.bool r30.2) (y_extract rfl (by kernel_rfl)) ?_
 obtain ⟨J1, C4, J2, C5, j7, C6⟩ := new_block I9 [(.int .i64 0), (.slice none 0 0)] 27
 refine pl_val (w' := J1) (.pointer (some ⟨C4, 0, none⟩)) (y_alloc (by rw [J2, C5]; kernel_rfl)) ?_
 have h0 := h0.ext j7
 have a4 := a4.ext j7
 have a5 := a5.cn j7
 have b4 := b4.ext j7
 have b7 := b7.cn j7
 have e7 := e7.ext j7
 have hC := hC.ext j7
 have hO := hO.new1 j7 C5 C6.lt
 obtain ⟨r2, J3, j8, l4⟩ := box_store (P := Try.prog) C6 [] [(.int .i64 0), (.slice none 0 0)] [] [(.int .i64 r30.1.1), (.slice m6 m7 m8)] rfl rfl (by intro u hu; simp only [List.mem_cons, List.not_mem_nil, or_false] at hu; rcases hu with rfl | rfl <;> rfl)
 refine pl_skip (w' := r2) (ys_store rfl rfl (J3 _ _ rfl Sz27)) ?_
 have h0 := h0.mt j8 hO same_
 have a4 := a4.ma j8 hO same_ (fun _ e => (mem_r (mem_r (mem_r (mem_r (mem_l (e)))))))
 have a5 := a5.ap j8 hO same_ (mem_r (mem_r (mem_r (mem_l (List.mem_singleton.2 rfl)))))
 have b4 := b4.ma j8 hO same_ (fun _ e => (mem_r (mem_r (mem_l (e)))))
 have b7 := b7.ap j8 hO same_ (mem_r (mem_l (List.mem_singleton.2 rfl)))
 have e7 := e7.ma j8 hO same_ (fun _ e => (mem_l (e)))
 have hC := hC.st j8 hO same_
 have hO := hO.ext j8
 have l4 : BoxV r2 C4 27 [(.int .i64 r30.1.1), (.slice m6 m7 m8)] := l4
 refine pl_val (.bool r30.2) (y_assign rfl) ?_
 refine c_nil ?_
 refine c_seq ?_
 obtain ⟨s34, J4, hs⟩ := bind_some hs
 refine c_mid (I := fun a C7 => ∃ (σ : Nat → Value), a = fr 259 (ovl σ [(0, (.slice pa0 pn0 pc0)), (2, (.bool false)), (3, (.int .i64 r6)), (4, (.pointer (some ⟨j0, 0, none⟩))), (5, (.bool r8.2)), (8, (.pointer (some ⟨o9, 0, none⟩))), (85, (.bool s34))]) ∧ Chg [] r2 C7) ?_ ?_
 ·replace hs := J4
  have hMid := Chg.refl [] r2
  refine c_region ?_
  refine pl_val (.bool r25.2) (y_move rfl) ?_
  refine pl_val (.bool r30.2) (y_move rfl) ?_
  refine pl_val (.bool (!(r25.2 == r30.2))) (y_bneq Try.underlying4 rfl rfl) ?_
  refine pl_val (.bool (!(r25.2 == r30.2))) (y_move rfl) ?_
  rcases bif_some hs with ⟨e8, hs⟩ | ⟨e8, hs⟩
  ·skip
   refine pl_not (tg := 75) (by kernel_rfl) (congrArg Value.bool e8) ?_
   refine pl_not (tg := 75) (by kernel_rfl) (congrArg Value.bool e8) ?_
   refine pl_not (tg := 75) (by kernel_rfl) (congrArg Value.bool e8) ?_
   refine pl_val (.bool true) (y_pick_t (congrArg Value.bool e8) rfl) ?_
   refine pl_val (.bool true) (y_move rfl) ?_
   refine pl_not (tg := 80) (by kernel_rfl) (by rfl) ?_
   refine pl_not (tg := 80) (by kernel_rfl) (by rfl) ?_
   refine pl_not (tg := 80) (by kernel_rfl) (by rfl) ?_
   refine pl_not (tg := 80) (by kernel_rfl) (by rfl) ?_
   refine pl_val (.bool true) (y_pick_t (by rfl) rfl) ?_
   refine c_nil ?_
   have hO := hO.drop
   have hO := hO.drop
   cases hs
   exact ⟨_, fr_ovl 259 ⟨rfl, rfl, rfl, rfl, rfl, rfl, rfl, trivial⟩, hMid⟩
  refine pl_yes (.bool r25.2) (tg := 75) (by kernel_rfl) (congrArg Value.bool e8) (y_move rfl) ?_
  refine pl_yes (.bool r8.2) (tg := 75) (by kernel_rfl) (congrArg Value.bool e8) (y_move rfl) ?_
  refine pl_yes (.bool (!(r25.2 == r8.2))) (tg := 75) (by kernel_rfl) (congrArg Value.bool e8) (y_bneq Try.underlying4 rfl rfl) ?_
  refine pl_val (.bool (!(r25.2 == r8.2))) (y_pick_f (congrArg Value.bool e8) rfl) ?_
  refine pl_val (.bool (!(r25.2 == r8.2))) (y_move rfl) ?_
  rcases bif_some hs with ⟨d6, hs⟩ | ⟨d6, hs⟩
  ·skip
   refine pl_not (tg := 80) (by kernel_rfl) (congrArg Value.bool d6) ?_
   refine pl_not (tg := 80) (by kernel_rfl) (congrArg Value.bool d6) ?_
   refine pl_not (tg := 80) (by kernel_rfl) (congrArg Value.bool d6) ?_
   refine pl_not (tg := 80) (by kernel_rfl) (congrArg Value.bool d6) ?_
   refine pl_val (.bool true) (y_pick_t (congrArg Value.bool d6) rfl) ?_
   refine c_nil ?_
   have hO := hO.drop
   have hO := hO.drop
   cases hs
   exact ⟨_, fr_ovl 259 ⟨rfl, rfl, rfl, rfl, rfl, rfl, rfl, trivial⟩, hMid⟩
  refine pl_yes (.agg #[(.int .i64 r25.1.1), (.slice j2 j3 j4)]) (tg := 80) (by kernel_rfl) (congrArg Value.bool d6) (y_load rfl ((box_load Ag27 Sz27 b7 [] [(.int .i64 r25.1.1), (.slice j2 j3 j4)] [] rfl rfl (fun h => nomatch h)) _ (Chg.refl _ _))) ?_
  refine pl_yes (.agg #[(.int .i64 r30.1.1), (.slice m6 m7 m8)]) (tg := 80) (by kernel_rfl) (congrArg Value.bool d6) (y_load rfl ((box_load Ag27 Sz27 l4 [] [(.int .i64 r30.1.1), (.slice m6 m7 m8)] [] rfl rfl (fun h => nomatch h)) _ (Chg.refl _ _))) ?_
  have hO := hO.fr1
  have hO := hO.fr3
  obtain ⟨r40, J5, hs⟩ := bind_some hs
  refine pl_cally (tg := 80) (by kernel_rfl) (congrArg Value.bool d6) Bd9 rfl (c_laws_vOp (M := (Less (Less M o8) C3)) (r25.1.1, r25.1.2) (r30.1.1, r30.1.2) ((((Frz.os Frz.int)).val b4 Less.sub Less.not).sub Less.sub) (((Frz.os Frz.int)).val (e7.sub Less.sub) Less.sub Less.not) (hO.less).less.fut J5) ?_
  rintro _ S2 ⟨rfl, e6⟩
  have h0 := h0.ext e6
  have a4 := a4.ext e6
  have a5 := a5.cn e6
  have b4 := b4.ext e6
  have b7 := b7.cn e6
  have e7 := e7.ext e6
  have l4 := l4.cn e6
  have hMid := hMid.ext e6
  have hC := hC.ext e6
  have hO := hO.ext e6
  refine pl_yes (.bool (!r40)) (tg := 80) (by kernel_rfl) (congrArg Value.bool d6) (y_not rfl) ?_
  refine pl_val (.bool (!r40)) (y_pick_f (congrArg Value.bool d6) rfl) ?_
  refine c_nil ?_
  have hO := hO.fr1
  have hO := hO.drop
  have hO := hO.fr1
  have hO := hO.drop
  cases hs
  exact ⟨_, fr_ovl 259 ⟨rfl, rfl, rfl, rfl, rfl, rfl, rfl, trivial⟩, hMid⟩
 rintro c2 C7 ⟨σ, rfl, e9⟩
 have h0 := h0.ext e9
 have a4 := a4.ext e9
 have a5 := a5.cn e9
 have b4 := b4.ext e9
 have b7 := b7.cn e9
 have e7 := e7.ext e9
 have l4 := l4.cn e9
 have hC := hC.ext e9
 have hO := hO.ext e9
 rcases bif_some hs with ⟨y5, hs⟩ | ⟨y5, hs⟩
 ·refine c_condT (congrArg Value.bool y5) ?_
  refine c_sr ?_
  refine pl_val (.bool false) (y_assign rfl) ?_
  refine c_nil ?_
  have hO := hO.drop
  have hO := hO.drop
  refine wp_ret ?_
  cases hs
  exact ⟨_, fr_ovl 259 ⟨rfl, trivial⟩, hC⟩
 refine c_condF (congrArg Value.bool y5) ?_
 refine wp_skip ?_
 refine c_seq ?_
 refine c_sr ?_
 refine pl_val (.bool r8.2) (y_move rfl) ?_
 refine c_nil ?_
 have hO := hO.drop
 have hO := hO.drop
 rcases bif_some hs with ⟨y6, hs⟩ | ⟨y6, hs⟩
 ·refine c_condT (congrArg Value.bool y6) ?_
  refine c_sr ?_
  refine pl_val (.int .i64 r6) (y_move rfl) ?_
  refine pl_val (.agg #[(.int .i64 r8.1.1), (.slice e3 e4 e5)]) (y_load rfl ((box_load Ag27 Sz27 a5 [] [(.int .i64 r8.1.1), (.slice e3 e4 e5)] [] rfl rfl (fun h => nomatch h)) _ (Chg.refl _ _))) ?_
  have hO := hO.fr3
  obtain ⟨r44, J6, hs⟩ := bind_some hs
  refine pl_call Bd12 rfl (c_impl_IsPixleyOp (M := (Less M i9)) r6 (r8.1.1, r8.1.2) (((Frz.os Frz.int)).val a4 Less.sub Less.not) hO.less.fut J6) ?_
  rintro _ S3 ⟨rfl, l5⟩
  have h0 := h0.ext l5
  have a4 := a4.ext l5
  have a5 := a5.cn l5
  have b4 := b4.ext l5
  have b7 := b7.cn l5
  have hC := hC.ext l5
  have hO := hO.ext l5
  refine pl_val (.tuple #[(.bool r44.1), (.bool r44.2)]) (y_move rfl) ?_
  refine pl_val (.bool r44.1) (y_extract rfl (by kernel_rfl)) ?_
  refine pl_val (.bool r44.2) (y_extract rfl (by kernel_rfl)) ?_
  refine pl_val (.bool r44.1) (y_assign rfl) ?_
  refine pl_val (.bool r44.2) (y_assign rfl) ?_
  refine c_nil ?_
  refine c_sr ?_
  refine pl_val (.int .i64 r6) (y_move rfl) ?_
  refine pl_val (.agg #[(.int .i64 r25.1.1), (.slice j2 j3 j4)]) (y_load rfl ((box_load Ag27 Sz27 b7 [] [(.int .i64 r25.1.1), (.slice j2 j3 j4)] [] rfl rfl (fun h => nomatch h)) _ (Chg.refl _ _))) ?_
  have hO := hO.fr2
  obtain ⟨r46, J7, hs⟩ := bind_some hs
  refine pl_call Bd13 rfl (c_impl_IsUnanimityOp (M := (Less M o8)) r6 (r25.1.1, r25.1.2) (((Frz.os Frz.int)).val b4 Less.sub Less.not) hO.less.fut J7) ?_
  rintro _ S4 ⟨rfl, l6⟩
  have h0 := h0.ext l6
  have a4 := a4.ext l6
  have a5 := a5.cn l6
  have b4 := b4.ext l6
  have b7 := b7.cn l6
  have hC := hC.ext l6
  have hO := hO.ext l6
  refine pl_val (.tuple #[(.bool r46.1), (.bool r46.2)]) (y_move rfl) ?_
  refine pl_val (.bool r46.1) (y_extract rfl (by kernel_rfl)) ?_
  refine pl_val (.bool r46.2) (y_extract rfl (by kernel_rfl)) ?_
  refine pl_val (.bool r46.1) (y_assign rfl) ?_
  refine pl_val (.bool r46.2) (y_assign rfl) ?_
  refine c_nil ?_
  have hO := hO.drop
  have hO := hO.fr1
  have hO := hO.drop
  refine c_sr ?_
  refine pl_val (.int .i64 r6) (y_move rfl) ?_
  refine pl_val (.agg #[(.int .i64 r8.1.1), (.slice e3 e4 e5)]) (y_load rfl ((box_load Ag27 Sz27 a5 [] [(.int .i64 r8.1.1), (.slice e3 e4 e5)] [] rfl rfl (fun h => nomatch h)) _ (Chg.refl _ _))) ?_
  obtain ⟨r48, J8, hs⟩ := bind_some hs
  refine pl_call Bd14 rfl (c_impl_IsDiscriminatorOp (M := (Less M i9)) r6 (r8.1.1, r8.1.2) (((Frz.os Frz.int)).val a4 Less.sub Less.not) hO.less.fut J8) ?_
  rintro _ C8 ⟨rfl, p0⟩
  have h0 := h0.ext p0
  have a4 := a4.ext p0
  have a5 := a5.cn p0
  have hC := hC.ext p0
  have hO := hO.ext p0
  refine pl_val (.tuple #[(.bool r48.1), (.bool r48.2)]) (y_move rfl) ?_
  refine pl_val (.bool r48.1) (y_extract rfl (by kernel_rfl)) ?_
  refine pl_val (.bool r48.2) (y_extract rfl (by kernel_rfl)) ?_
  refine pl_val (.bool r48.1) (y_assign rfl) ?_
  refine pl_val (.bool r48.2) (y_assign rfl) ?_
  refine c_nil ?_
  have hO := hO.drop
  have hO := hO.drop
  refine c_seq ?_
  refine c_mid (I := fun a C9 => ∃ (σ : Nat → Value), a = fr 259 (ovl σ [(0, (.slice pa0 pn0 pc0)), (2, (.bool false)), (126, (.bool ((((((!r44.2) || (!r46.2)) || (!r48.2)) || (!r44.1)) || (!r46.1)) || (!r48.1))))]) ∧ Chg [] C8 C9) ?_ ?_
  ·have hMid := Chg.refl [] C8
   refine c_region ?_
   refine pl_val (.bool r44.2) (y_move rfl) ?_
   refine pl_val (.bool (!r44.2)) (y_not rfl) ?_
   refine pl_val (.bool (!r44.2)) (y_move rfl) ?_
   rcases Bool.eq_false_or_eq_true ((!r44.2)) with f0 | f0
   ·skip
    refine pl_not (tg := 107) (by kernel_rfl) (congrArg Value.bool f0) ?_
    refine pl_not (tg := 107) (by kernel_rfl) (congrArg Value.bool f0) ?_
    refine pl_val (.bool ((!r44.2) || (!r46.2))) (y_pick_t (congrArg Value.bool f0) (congrArg Value.bool (by rw [f0]; rfl))) ?_
    refine pl_val (.bool ((!r44.2) || (!r46.2))) (y_move rfl) ?_
    rcases Bool.eq_false_or_eq_true (((!r44.2) || (!r46.2))) with f1 | f1
    ·skip
     refine pl_not (tg := 111) (by kernel_rfl) (congrArg Value.bool f1) ?_
     refine pl_not (tg := 111) (by kernel_rfl) (congrArg Value.bool f1) ?_
     refine pl_val (.bool (((!r44.2) || (!r46.2)) || (!r48.2))) (y_pick_t (congrArg Value.bool f1) (congrArg Value.bool (by rw [f1]; rfl))) ?_
     refine pl_val (.bool (((!r44.2) || (!r46.2)) || (!r48.2))) (y_move rfl) ?_
     rcases Bool.eq_false_or_eq_true ((((!r44.2) || (!r46.2)) || (!r48.2))) with f2 | f2
     ·skip
      refine pl_not (tg := 115) (by kernel_rfl) (congrArg Value.bool f2) ?_
      refine pl_not (tg := 115) (by kernel_rfl) (congrArg Value.bool f2) ?_
      refine pl_val (.bool ((((!r44.2) || (!r46.2)) || (!r48.2)) || (!r44.1))) (y_pick_t (congrArg Value.bool f2) (congrArg Value.bool (by rw [f2]; rfl))) ?_
      refine pl_val (.bool ((((!r44.2) || (!r46.2)) || (!r48.2)) || (!r44.1))) (y_move rfl) ?_
      rcases Bool.eq_false_or_eq_true (((((!r44.2) || (!r46.2)) || (!r48.2)) || (!r44.1))) with f3 | f3
      ·skip
       refine pl_not (tg := 119) (by kernel_rfl) (congrArg Value.bool f3) ?_
       refine pl_not (tg := 119) (by kernel_rfl) (congrArg Value.bool f3) ?_
       refine pl_val (.bool (((((!r44.2) || (!r46.2)) || (!r48.2)) || (!r44.1)) || (!r46.1))) (y_pick_t (congrArg Value.bool f3) (congrArg Value.bool (by rw [f3]; rfl))) ?_
       refine pl_val (.bool (((((!r44.2) || (!r46.2)) || (!r48.2)) || (!r44.1)) || (!r46.1))) (y_move rfl) ?_
       rcases Bool.eq_false_or_eq_true ((((((!r44.2) || (!r46.2)) || (!r48.2)) || (!r44.1)) || (!r46.1))) with f4 | f4
       ·skip
        refine pl_not (tg := 123) (by kernel_rfl) (congrArg Value.bool f4) ?_
        refine pl_not (tg := 123) (by kernel_rfl) (congrArg Value.bool f4) ?_
        refine pl_val (.bool ((((((!r44.2) || (!r46.2)) || (!r48.2)) || (!r44.1)) || (!r46.1)) || (!r48.1))) (y_pick_t (congrArg Value.bool f4) (congrArg Value.bool (by rw [f4]; rfl))) ?_
        refine c_nil ?_
        exact ⟨_, fr_ovl 259 ⟨rfl, rfl, rfl, trivial⟩, hMid⟩
       refine pl_yes (.bool r48.1) (tg := 123) (by kernel_rfl) (congrArg Value.bool f4) (y_move rfl) ?_
       refine pl_yes (.bool (!r48.1)) (tg := 123) (by kernel_rfl) (congrArg Value.bool f4) (y_not rfl) ?_
       refine pl_val (.bool ((((((!r44.2) || (!r46.2)) || (!r48.2)) || (!r44.1)) || (!r46.1)) || (!r48.1))) (y_pick_f (congrArg Value.bool f4) (congrArg Value.bool (by rw [f4]; rfl))) ?_
       refine c_nil ?_
       exact ⟨_, fr_ovl 259 ⟨rfl, rfl, rfl, trivial⟩, hMid⟩
      refine pl_yes (.bool r46.1) (tg := 119) (by kernel_rfl) (congrArg Value.bool f3) (y_move rfl) ?_
      refine pl_yes (.bool (!r46.1)) (tg := 119) (by kernel_rfl) (congrArg Value.bool f3) (y_not rfl) ?_
      refine pl_val (.bool (((((!r44.2) || (!r46.2)) || (!r48.2)) || (!r44.1)) || (!r46.1))) (y_pick_f (congrArg Value.bool f3) (congrArg Value.bool (by rw [f3]; rfl))) ?_
      refine pl_val (.bool (((((!r44.2) || (!r46.2)) || (!r48.2)) || (!r44.1)) || (!r46.1))) (y_move rfl) ?_
      rcases Bool.eq_false_or_eq_true ((((((!r44.2) || (!r46.2)) || (!r48.2)) || (!r44.1)) || (!r46.1))) with f5 | f5
      ·skip
       refine pl_not (tg := 123) (by kernel_rfl) (congrArg Value.bool f5) ?_
       refine pl_not (tg := 123) (by kernel_rfl) (congrArg Value.bool f5) ?_
       refine pl_val (.bool ((((((!r44.2) || (!r46.2)) || (!r48.2)) || (!r44.1)) || (!r46.1)) || (!r48.1))) (y_pick_t (congrArg Value.bool f5) (congrArg Value.bool (by rw [f5]; rfl))) ?_
       refine c_nil ?_
       exact ⟨_, fr_ovl 259 ⟨rfl, rfl, rfl, trivial⟩, hMid⟩
      refine pl_yes (.bool r48.1) (tg := 123) (by kernel_rfl) (congrArg Value.bool f5) (y_move rfl) ?_
      refine pl_yes (.bool (!r48.1)) (tg := 123) (by kernel_rfl) (congrArg Value.bool f5) (y_not rfl) ?_
      refine pl_val (.bool ((((((!r44.2) || (!r46.2)) || (!r48.2)) || (!r44.1)) || (!r46.1)) || (!r48.1))) (y_pick_f (congrArg Value.bool f5) (congrArg Value.bool (by rw [f5]; rfl))) ?_
      refine c_nil ?_
      exact ⟨_, fr_ovl 259 ⟨rfl, rfl, rfl, trivial⟩, hMid⟩
     refine pl_yes (.bool r44.1) (tg := 115) (by kernel_rfl) (congrArg Value.bool f2) (y_move rfl) ?_
     refine pl_yes (.bool (!r44.1)) (tg := 115) (by kernel_rfl) (congrArg Value.bool f2) (y_not rfl) ?_
     refine pl_val (.bool ((((!r44.2) || (!r46.2)) || (!r48.2)) || (!r44.1))) (y_pick_f (congrArg Value.bool f2) (congrArg Value.bool (by rw [f2]; rfl))) ?_
     refine pl_val (.bool ((((!r44.2) || (!r46.2)) || (!r48.2)) || (!r44.1))) (y_move rfl) ?_
     rcases Bool.eq_false_or_eq_true (((((!r44.2) || (!r46.2)) || (!r48.2)) || (!r44.1))) with f6 | f6
     ·skip
      refine pl_not (tg := 119) (by kernel_rfl) (congrArg Value.bool f6) ?_
      refine pl_not (tg := 119) (by kernel_rfl) (congrArg Value.bool f6) ?_
      refine pl_val (.bool (((((!r44.2) || (!r46.2)) || (!r48.2)) || (!r44.1)) || (!r46.1))) (y_pick_t (congrArg Value.bool f6) (congrArg Value.bool (by rw [f6]; rfl))) ?_
      refine pl_val (.bool (((((!r44.2) || (!r46.2)) || (!r48.2)) || (!r44.1)) || (!r46.1))) (y_move rfl) ?_
      rcases Bool.eq_false_or_eq_true ((((((!r44.2) || (!r46.2)) || (!r48.2)) || (!r44.1)) || (!r46.1))) with f7 | f7
      ·skip
       refine pl_not (tg := 123) (by kernel_rfl) (congrArg Value.bool f7) ?_
       refine pl_not (tg := 123) (by kernel_rfl) (congrArg Value.bool f7) ?_
       refine pl_val (.bool ((((((!r44.2) || (!r46.2)) || (!r48.2)) || (!r44.1)) || (!r46.1)) || (!r48.1))) (y_pick_t (congrArg Value.bool f7) (congrArg Value.bool (by rw [f7]; rfl))) ?_
       refine c_nil ?_
       exact ⟨_, fr_ovl 259 ⟨rfl, rfl, rfl, trivial⟩, hMid⟩
      refine pl_yes (.bool r48.1) (tg := 123) (by kernel_rfl) (congrArg Value.bool f7) (y_move rfl) ?_
      refine pl_yes (.bool (!r48.1)) (tg := 123) (by kernel_rfl) (congrArg Value.bool f7) (y_not rfl) ?_
      refine pl_val (.bool ((((((!r44.2) || (!r46.2)) || (!r48.2)) || (!r44.1)) || (!r46.1)) || (!r48.1))) (y_pick_f (congrArg Value.bool f7) (congrArg Value.bool (by rw [f7]; rfl))) ?_
      refine c_nil ?_
      exact ⟨_, fr_ovl 259 ⟨rfl, rfl, rfl, trivial⟩, hMid⟩
     refine pl_yes (.bool r46.1) (tg := 119) (by kernel_rfl) (congrArg Value.bool f6) (y_move rfl) ?_
     refine pl_yes (.bool (!r46.1)) (tg := 119) (by kernel_rfl) (congrArg Value.bool f6) (y_not rfl) ?_
     refine pl_val (.bool (((((!r44.2) || (!r46.2)) || (!r48.2)) || (!r44.1)) || (!r46.1))) (y_pick_f (congrArg Value.bool f6) (congrArg Value.bool (by rw [f6]; rfl))) ?_
     refine pl_val (.bool (((((!r44.2) || (!r46.2)) || (!r48.2)) || (!r44.1)) || (!r46.1))) (y_move rfl) ?_
     rcases Bool.eq_false_or_eq_true ((((((!r44.2) || (!r46.2)) || (!r48.2)) || (!r44.1)) || (!r46.1))) with f8 | f8
     ·skip
      refine pl_not (tg := 123) (by kernel_rfl) (congrArg Value.bool f8) ?_
      refine pl_not (tg := 123) (by kernel_rfl) (congrArg Value.bool f8) ?_
      refine pl_val (.bool ((((((!r44.2) || (!r46.2)) || (!r48.2)) || (!r44.1)) || (!r46.1)) || (!r48.1))) (y_pick_t (congrArg Value.bool f8) (congrArg Value.bool (by rw [f8]; rfl))) ?_
      refine c_nil ?_
      exact ⟨_, fr_ovl 259 ⟨rfl, rfl, rfl, trivial⟩, hMid⟩
     refine pl_yes (.bool r48.1) (tg := 123) (by kernel_rfl) (congrArg Value.bool f8) (y_move rfl) ?_
     refine pl_yes (.bool (!r48.1)) (tg := 123) (by kernel_rfl) (congrArg Value.bool f8) (y_not rfl) ?_
     refine pl_val (.bool ((((((!r44.2) || (!r46.2)) || (!r48.2)) || (!r44.1)) || (!r46.1)) || (!r48.1))) (y_pick_f (congrArg Value.bool f8) (congrArg Value.bool (by rw [f8]; rfl))) ?_
     refine c_nil ?_
     exact ⟨_, fr_ovl 259 ⟨rfl, rfl, rfl, trivial⟩, hMid⟩
    refine pl_yes (.bool r48.2) (tg := 111) (by kernel_rfl) (congrArg Value.bool f1) (y_move rfl) ?_
    refine pl_yes (.bool (!r48.2)) (tg := 111) (by kernel_rfl) (congrArg Value.bool f1) (y_not rfl) ?_
    refine pl_val (.bool (((!r44.2) || (!r46.2)) || (!r48.2))) (y_pick_f (congrArg Value.bool f1) (congrArg Value.bool (by rw [f1]; rfl))) ?_
    refine pl_val (.bool (((!r44.2) || (!r46.2)) || (!r48.2))) (y_move rfl) ?_
    rcases Bool.eq_false_or_eq_true ((((!r44.2) || (!r46.2)) || (!r48.2))) with f9 | f9
    ·skip
     refine pl_not (tg := 115) (by kernel_rfl) (congrArg Value.bool f9) ?_
     refine pl_not (tg := 115) (by kernel_rfl) (congrArg Value.bool f9) ?_
     refine pl_val (.bool ((((!r44.2) || (!r46.2)) || (!r48.2)) || (!r44.1))) (y_pick_t (congrArg Value.bool f9) (congrArg Value.bool (by rw [f9]; rfl))) ?_
     refine pl_val (.bool ((((!r44.2) || (!r46.2)) || (!r48.2)) || (!r44.1))) (y_move rfl) ?_
     rcases Bool.eq_false_or_eq_true (((((!r44.2) || (!r46.2)) || (!r48.2)) || (!r44.1))) with g0 | g0
     ·skip
      refine pl_not (tg := 119) (by kernel_rfl) (congrArg Value.bool g0) ?_
      refine pl_not (tg := 119) (by kernel_rfl) (congrArg Value.bool g0) ?_
      refine pl_val (.bool (((((!r44.2) || (!r46.2)) || (!r48.2)) || (!r44.1)) || (!r46.1))) (y_pick_t (congrArg Value.bool g0) (congrArg Value.bool (by rw [g0]; rfl))) ?_
      refine pl_val (.bool (((((!r44.2) || (!r46.2)) || (!r48.2)) || (!r44.1)) || (!r46.1))) (y_move rfl) ?_
      rcases Bool.eq_false_or_eq_true ((((((!r44.2) || (!r46.2)) || (!r48.2)) || (!r44.1)) || (!r46.1))) with g1 | g1
      ·skip
       refine pl_not (tg := 123) (by kernel_rfl) (congrArg Value.bool g1) ?_
       refine pl_not (tg := 123) (by kernel_rfl) (congrArg Value.bool g1) ?_
       refine pl_val (.bool ((((((!r44.2) || (!r46.2)) || (!r48.2)) || (!r44.1)) || (!r46.1)) || (!r48.1))) (y_pick_t (congrArg Value.bool g1) (congrArg Value.bool (by rw [g1]; rfl))) ?_
       refine c_nil ?_
       exact ⟨_, fr_ovl 259 ⟨rfl, rfl, rfl, trivial⟩, hMid⟩
      refine pl_yes (.bool r48.1) (tg := 123) (by kernel_rfl) (congrArg Value.bool g1) (y_move rfl) ?_
      refine pl_yes (.bool (!r48.1)) (tg := 123) (by kernel_rfl) (congrArg Value.bool g1) (y_not rfl) ?_
      refine pl_val (.bool ((((((!r44.2) || (!r46.2)) || (!r48.2)) || (!r44.1)) || (!r46.1)) || (!r48.1))) (y_pick_f (congrArg Value.bool g1) (congrArg Value.bool (by rw [g1]; rfl))) ?_
      refine c_nil ?_
      exact ⟨_, fr_ovl 259 ⟨rfl, rfl, rfl, trivial⟩, hMid⟩
     refine pl_yes (.bool r46.1) (tg := 119) (by kernel_rfl) (congrArg Value.bool g0) (y_move rfl) ?_
     refine pl_yes (.bool (!r46.1)) (tg := 119) (by kernel_rfl) (congrArg Value.bool g0) (y_not rfl) ?_
     refine pl_val (.bool (((((!r44.2) || (!r46.2)) || (!r48.2)) || (!r44.1)) || (!r46.1))) (y_pick_f (congrArg Value.bool g0) (congrArg Value.bool (by rw [g0]; rfl))) ?_
     refine pl_val (.bool (((((!r44.2) || (!r46.2)) || (!r48.2)) || (!r44.1)) || (!r46.1))) (y_move rfl) ?_
     rcases Bool.eq_false_or_eq_true ((((((!r44.2) || (!r46.2)) || (!r48.2)) || (!r44.1)) || (!r46.1))) with g2 | g2
     ·skip
      refine pl_not (tg := 123) (by kernel_rfl) (congrArg Value.bool g2) ?_
      refine pl_not (tg := 123) (by kernel_rfl) (congrArg Value.bool g2) ?_
      refine pl_val (.bool ((((((!r44.2) || (!r46.2)) || (!r48.2)) || (!r44.1)) || (!r46.1)) || (!r48.1))) (y_pick_t (congrArg Value.bool g2) (congrArg Value.bool (by rw [g2]; rfl))) ?_
      refine c_nil ?_
      exact ⟨_, fr_ovl 259 ⟨rfl, rfl, rfl, trivial⟩, hMid⟩
     refine pl_yes (.bool r48.1) (tg := 123) (by kernel_rfl) (congrArg Value.bool g2) (y_move rfl) ?_
     refine pl_yes (.bool (!r48.1)) (tg := 123) (by kernel_rfl) (congrArg Value.bool g2) (y_not rfl) ?_
     refine pl_val (.bool ((((((!r44.2) || (!r46.2)) || (!r48.2)) || (!r44.1)) || (!r46.1)) || (!r48.1))) (y_pick_f (congrArg Value.bool g2) (congrArg Value.bool (by rw [g2]; rfl))) ?_
     refine c_nil ?_
     exact ⟨_, fr_ovl 259 ⟨rfl, rfl, rfl, trivial⟩, hMid⟩
    refine pl_yes (.bool r44.1) (tg := 115) (by kernel_rfl) (congrArg Value.bool f9) (y_move rfl) ?_
    refine pl_yes (.bool (!r44.1)) (tg := 115) (by kernel_rfl) (congrArg Value.bool f9) (y_not rfl) ?_
    refine pl_val (.bool ((((!r44.2) || (!r46.2)) || (!r48.2)) || (!r44.1))) (y_pick_f (congrArg Value.bool f9) (congrArg Value.bool (by rw [f9]; rfl))) ?_
    refine pl_val (.bool ((((!r44.2) || (!r46.2)) || (!r48.2)) || (!r44.1))) (y_move rfl) ?_
    rcases Bool.eq_false_or_eq_true (((((!r44.2) || (!r46.2)) || (!r48.2)) || (!r44.1))) with g3 | g3
    ·skip
     refine pl_not (tg := 119) (by kernel_rfl) (congrArg Value.bool g3) ?_
     refine pl_not (tg := 119) (by kernel_rfl) (congrArg Value.bool g3) ?_
     refine pl_val (.bool (((((!r44.2) || (!r46.2)) || (!r48.2)) || (!r44.1)) || (!r46.1))) (y_pick_t (congrArg Value.bool g3) (congrArg Value.bool (by rw [g3]; rfl))) ?_
     refine pl_val (.bool (((((!r44.2) || (!r46.2)) || (!r48.2)) || (!r44.1)) || (!r46.1))) (y_move rfl) ?_
     rcases Bool.eq_false_or_eq_true ((((((!r44.2) || (!r46.2)) || (!r48.2)) || (!r44.1)) || (!r46.1))) with g4 | g4
     ·skip
      refine pl_not (tg := 123) (by kernel_rfl) (congrArg Value.bool g4) ?_
      refine pl_not (tg := 123) (by kernel_rfl) (congrArg Value.bool g4) ?_
      refine pl_val (.bool ((((((!r44.2) || (!r46.2)) || (!r48.2)) || (!r44.1)) || (!r46.1)) || (!r48.1))) (y_pick_t (congrArg Value.bool g4) (congrArg Value.bool (by rw [g4]; rfl))) ?_
      refine c_nil ?_
      exact ⟨_, fr_ovl 259 ⟨rfl, rfl, rfl, trivial⟩, hMid⟩
     refine pl_yes (.bool r48.1) (tg := 123) (by kernel_rfl) (congrArg Value.bool g4) (y_move rfl) ?_
     refine pl_yes (.bool (!r48.1)) (tg := 123) (by kernel_rfl) (congrArg Value.bool g4) (y_not rfl) ?_
     refine pl_val (.bool ((((((!r44.2) || (!r46.2)) || (!r48.2)) || (!r44.1)) || (!r46.1)) || (!r48.1))) (y_pick_f (congrArg Value.bool g4) (congrArg Value.bool (by rw [g4]; rfl))) ?_
     refine c_nil ?_
     exact ⟨_, fr_ovl 259 ⟨rfl, rfl, rfl, trivial⟩, hMid⟩
    refine pl_yes (.bool r46.1) (tg := 119) (by kernel_rfl) (congrArg Value.bool g3) (y_move rfl) ?_
    refine pl_yes (.bool (!r46.1)) (tg := 119) (by kernel_rfl) (congrArg Value.bool g3) (y_not rfl) ?_
    refine pl_val (.bool (((((!r44.2) || (!r46.2)) || (!r48.2)) || (!r44.1)) || (!r46.1))) (y_pick_f (congrArg Value.bool g3) (congrArg Value.bool (by rw [g3]; rfl))) ?_
    refine pl_val (.bool (((((!r44.2) || (!r46.2)) || (!r48.2)) || (!r44.1)) || (!r46.1))) (y_move rfl) ?_
    rcases Bool.eq_false_or_eq_true ((((((!r44.2) || (!r46.2)) || (!r48.2)) || (!r44.1)) || (!r46.1))) with g5 | g5
    ·skip
     refine pl_not (tg := 123) (by kernel_rfl) (congrArg Value.bool g5) ?_
     refine pl_not (tg := 123) (by kernel_rfl) (congrArg Value.bool g5) ?_
     refine pl_val (.bool ((((((!r44.2) || (!r46.2)) || (!r48.2)) || (!r44.1)) || (!r46.1)) || (!r48.1))) (y_pick_t (congrArg Value.bool g5) (congrArg Value.bool (by rw [g5]; rfl))) ?_
     refine c_nil ?_
     exact ⟨_, fr_ovl 259 ⟨rfl, rfl, rfl, trivial⟩, hMid⟩
    refine pl_yes (.bool r48.1) (tg := 123) (by kernel_rfl) (congrArg Value.bool g5) (y_move rfl) ?_
    refine pl_yes (.bool (!r48.1)) (tg := 123) (by kernel_rfl) (congrArg Value.bool g5) (y_not rfl) ?_
    refine pl_val (.bool ((((((!r44.2) || (!r46.2)) || (!r48.2)) || (!r44.1)) || (!r46.1)) || (!r48.1))) (y_pick_f (congrArg Value.bool g5) (congrArg Value.bool (by rw [g5]; rfl))) ?_
    refine c_nil ?_
    exact ⟨_, fr_ovl 259 ⟨rfl, rfl, rfl, trivial⟩, hMid⟩
   refine pl_yes (.bool r46.2) (tg := 107) (by kernel_rfl) (congrArg Value.bool f0) (y_move rfl) ?_
   refine pl_yes (.bool (!r46.2)) (tg := 107) (by kernel_rfl) (congrArg Value.bool f0) (y_not rfl) ?_
   refine pl_val (.bool ((!r44.2) || (!r46.2))) (y_pick_f (congrArg Value.bool f0) (congrArg Value.bool (by rw [f0]; rfl))) ?_
   refine pl_val (.bool ((!r44.2) || (!r46.2))) (y_move rfl) ?_
   rcases Bool.eq_false_or_eq_true (((!r44.2) || (!r46.2))) with g6 | g6
   ·skip
    refine pl_not (tg := 111) (by kernel_rfl) (congrArg Value.bool g6) ?_
    refine pl_not (tg := 111) (by kernel_rfl) (congrArg Value.bool g6) ?_
    refine pl_val (.bool (((!r44.2) || (!r46.2)) || (!r48.2))) (y_pick_t (congrArg Value.bool g6) (congrArg Value.bool (by rw [g6]; rfl))) ?_
    refine pl_val (.bool (((!r44.2) || (!r46.2)) || (!r48.2))) (y_move rfl) ?_
    rcases Bool.eq_false_or_eq_true ((((!r44.2) || (!r46.2)) || (!r48.2))) with g7 | g7
    ·skip
     refine pl_not (tg := 115) (by kernel_rfl) (congrArg Value.bool g7) ?_
     refine pl_not (tg := 115) (by kernel_rfl) (congrArg Value.bool g7) ?_
     refine pl_val (.bool ((((!r44.2) || (!r46.2)) || (!r48.2)) || (!r44.1))) (y_pick_t (congrArg Value.bool g7) (congrArg Value.bool (by rw [g7]; rfl))) ?_
     refine pl_val (.bool ((((!r44.2) || (!r46.2)) || (!r48.2)) || (!r44.1))) (y_move rfl) ?_
     rcases Bool.eq_false_or_eq_true (((((!r44.2) || (!r46.2)) || (!r48.2)) || (!r44.1))) with g8 | g8
     ·skip
      refine pl_not (tg := 119) (by kernel_rfl) (congrArg Value.bool g8) ?_
      refine pl_not (tg := 119) (by kernel_rfl) (congrArg Value.bool g8) ?_
      refine pl_val (.bool (((((!r44.2) || (!r46.2)) || (!r48.2)) || (!r44.1)) || (!r46.1))) (y_pick_t (congrArg Value.bool g8) (congrArg Value.bool (by rw [g8]; rfl))) ?_
      refine pl_val (.bool (((((!r44.2) || (!r46.2)) || (!r48.2)) || (!r44.1)) || (!r46.1))) (y_move rfl) ?_
      rcases Bool.eq_false_or_eq_true ((((((!r44.2) || (!r46.2)) || (!r48.2)) || (!r44.1)) || (!r46.1))) with g9 | g9
      ·skip
       refine pl_not (tg := 123) (by kernel_rfl) (congrArg Value.bool g9) ?_
       refine pl_not (tg := 123) (by kernel_rfl) (congrArg Value.bool g9) ?_
       refine pl_val (.bool ((((((!r44.2) || (!r46.2)) || (!r48.2)) || (!r44.1)) || (!r46.1)) || (!r48.1))) (y_pick_t (congrArg Value.bool g9) (congrArg Value.bool (by rw [g9]; rfl))) ?_
       refine c_nil ?_
       exact ⟨_, fr_ovl 259 ⟨rfl, rfl, rfl, trivial⟩, hMid⟩
      refine pl_yes (.bool r48.1) (tg := 123) (by kernel_rfl) (congrArg Value.bool g9) (y_move rfl) ?_
      refine pl_yes (.bool (!r48.1)) (tg := 123) (by kernel_rfl) (congrArg Value.bool g9) (y_not rfl) ?_
      refine pl_val (.bool ((((((!r44.2) || (!r46.2)) || (!r48.2)) || (!r44.1)) || (!r46.1)) || (!r48.1))) (y_pick_f (congrArg Value.bool g9) (congrArg Value.bool (by rw [g9]; rfl))) ?_
      refine c_nil ?_
      exact ⟨_, fr_ovl 259 ⟨rfl, rfl, rfl, trivial⟩, hMid⟩
     refine pl_yes (.bool r46.1) (tg := 119) (by kernel_rfl) (congrArg Value.bool g8) (y_move rfl) ?_
     refine pl_yes (.bool (!r46.1)) (tg := 119) (by kernel_rfl) (congrArg Value.bool g8) (y_not rfl) ?_
     refine pl_val (.bool (((((!r44.2) || (!r46.2)) || (!r48.2)) || (!r44.1)) || (!r46.1))) (y_pick_f (congrArg Value.bool g8) (congrArg Value.bool (by rw [g8]; rfl))) ?_
     refine pl_val (.bool (((((!r44.2) || (!r46.2)) || (!r48.2)) || (!r44.1)) || (!r46.1))) (y_move rfl) ?_
     rcases Bool.eq_false_or_eq_true ((((((!r44.2) || (!r46.2)) || (!r48.2)) || (!r44.1)) || (!r46.1))) with h1 | h1
     ·skip
      refine pl_not (tg := 123) (by kernel_rfl) (congrArg Value.bool h1) ?_
      refine pl_not (tg := 123) (by kernel_rfl) (congrArg Value.bool h1) ?_
      refine pl_val (.bool ((((((!r44.2) || (!r46.2)) || (!r48.2)) || (!r44.1)) || (!r46.1)) || (!r48.1))) (y_pick_t (congrArg Value.bool h1) (congrArg Value.bool (by rw [h1]; rfl))) ?_
      refine c_nil ?_
      exact ⟨_, fr_ovl 259 ⟨rfl, rfl, rfl, trivial⟩, hMid⟩
     refine pl_yes (.bool r48.1) (tg := 123) (by kernel_rfl) (congrArg Value.bool h1) (y_move rfl) ?_
     refine pl_yes (.bool (!r48.1)) (tg := 123) (by kernel_rfl) (congrArg Value.bool h1) (y_not rfl) ?_
     refine pl_val (.bool ((((((!r44.2) || (!r46.2)) || (!r48.2)) || (!r44.1)) || (!r46.1)) || (!r48.1))) (y_pick_f (congrArg Value.bool h1) (congrArg Value.bool (by rw [h1]; rfl))) ?_
     refine c_nil ?_
     exact ⟨_, fr_ovl 259 ⟨rfl, rfl, rfl, trivial⟩, hMid⟩
    refine pl_yes (.bool r44.1) (tg := 115) (by kernel_rfl) (congrArg Value.bool g7) (y_move rfl) ?_
    refine pl_yes (.bool (!r44.1)) (tg := 115) (by kernel_rfl) (congrArg Value.bool g7) (y_not rfl) ?_
    refine pl_val (.bool ((((!r44.2) || (!r46.2)) || (!r48.2)) || (!r44.1))) (y_pick_f (congrArg Value.bool g7) (congrArg Value.bool (by rw [g7]; rfl))) ?_
    refine pl_val (.bool ((((!r44.2) || (!r46.2)) || (!r48.2)) || (!r44.1))) (y_move rfl) ?_
    rcases Bool.eq_false_or_eq_true (((((!r44.2) || (!r46.2)) || (!r48.2)) || (!r44.1))) with h2 | h2
    ·skip
     refine pl_not (tg := 119) (by kernel_rfl) (congrArg Value.bool h2) ?_
     refine pl_not (tg := 119) (by kernel_rfl) (congrArg Value.bool h2) ?_
     refine pl_val (.bool (((((!r44.2) || (!r46.2)) || (!r48.2)) || (!r44.1)) || (!r46.1))) (y_pick_t (congrArg Value.bool h2) (congrArg Value.bool (by rw [h2]; rfl))) ?_
     refine pl_val (.bool (((((!r44.2) || (!r46.2)) || (!r48.2)) || (!r44.1)) || (!r46.1))) (y_move rfl) ?_
     rcases Bool.eq_false_or_eq_true ((((((!r44.2) || (!r46.2)) || (!r48.2)) || (!r44.1)) || (!r46.1))) with h3 | h3
     ·skip
      refine pl_not (tg := 123) (by kernel_rfl) (congrArg Value.bool h3) ?_
      refine pl_not (tg := 123) (by kernel_rfl) (congrArg Value.bool h3) ?_
      refine pl_val (.bool ((((((!r44.2) || (!r46.2)) || (!r48.2)) || (!r44.1)) || (!r46.1)) || (!r48.1))) (y_pick_t (congrArg Value.bool h3) (congrArg Value.bool (by rw [h3]; rfl))) ?_
      refine c_nil ?_
      exact ⟨_, fr_ovl 259 ⟨rfl, rfl, rfl, trivial⟩, hMid⟩
     refine pl_yes (.bool r48.1) (tg := 123) (by kernel_rfl) (congrArg Value.bool h3) (y_move rfl) ?_
     refine pl_yes (.bool (!r48.1)) (tg := 123) (by kernel_rfl) (congrArg Value.bool h3) (y_not rfl) ?_
     refine pl_val (.bool ((((((!r44.2) || (!r46.2)) || (!r48.2)) || (!r44.1)) || (!r46.1)) || (!r48.1))) (y_pick_f (congrArg Value.bool h3) (congrArg Value.bool (by rw [h3]; rfl))) ?_
     refine c_nil ?_
     exact ⟨_, fr_ovl 259 ⟨rfl, rfl, rfl, trivial⟩, hMid⟩
    refine pl_yes (.bool r46.1) (tg := 119) (by kernel_rfl) (congrArg Value.bool h2) (y_move rfl) ?_
    refine pl_yes (.bool (!r46.1)) (tg := 119) (by kernel_rfl) (congrArg Value.bool h2) (y_not rfl) ?_
    refine pl_val (.bool (((((!r44.2) || (!r46.2)) || (!r48.2)) || (!r44.1)) || (!r46.1))) (y_pick_f (congrArg Value.bool h2) (congrArg Value.bool (by rw [h2]; rfl))) ?_
    refine pl_val (.bool (((((!r44.2) || (!r46.2)) || (!r48.2)) || (!r44.1)) || (!r46.1))) (y_move rfl) ?_
    rcases Bool.eq_false_or_eq_true ((((((!r44.2) || (!r46.2)) || (!r48.2)) || (!r44.1)) || (!r46.1))) with h4 | h4
    ·skip
     refine pl_not (tg := 123) (by kernel_rfl) (congrArg Value.bool h4) ?_
     refine pl_not (tg := 123) (by kernel_rfl) (congrArg Value.bool h4) ?_
     refine pl_val (.bool ((((((!r44.2) || (!r46.2)) || (!r48.2)) || (!r44.1)) || (!r46.1)) || (!r48.1))) (y_pick_t (congrArg Value.bool h4) (congrArg Value.bool (by rw [h4]; rfl))) ?_
     refine c_nil ?_
     exact ⟨_, fr_ovl 259 ⟨rfl, rfl, rfl, trivial⟩, hMid⟩
    refine pl_yes (.bool r48.1) (tg := 123) (by kernel_rfl) (congrArg Value.bool h4) (y_move rfl) ?_
    refine pl_yes (.bool (!r48.1)) (tg := 123) (by kernel_rfl) (congrArg Value.bool h4) (y_not rfl) ?_
    refine pl_val (.bool ((((((!r44.2) || (!r46.2)) || (!r48.2)) || (!r44.1)) || (!r46.1)) || (!r48.1))) (y_pick_f (congrArg Value.bool h4) (congrArg Value.bool (by rw [h4]; rfl))) ?_
    refine c_nil ?_
    exact ⟨_, fr_ovl 259 ⟨rfl, rfl, rfl, trivial⟩, hMid⟩
   refine pl_yes (.bool r48.2) (tg := 111) (by kernel_rfl) (congrArg Value.bool g6) (y_move rfl) ?_
   refine pl_yes (.bool (!r48.2)) (tg := 111) (by kernel_rfl) (congrArg Value.bool g6) (y_not rfl) ?_
   refine pl_val (.bool (((!r44.2) || (!r46.2)) || (!r48.2))) (y_pick_f (congrArg Value.bool g6) (congrArg Value.bool (by rw [g6]; rfl))) ?_
   refine pl_val (.bool (((!r44.2) || (!r46.2)) || (!r48.2))) (y_move rfl) ?_
   rcases Bool.eq_false_or_eq_true ((((!r44.2) || (!r46.2)) || (!r48.2))) with h5 | h5
   ·skip
    refine pl_not (tg := 115) (by kernel_rfl) (congrArg Value.bool h5) ?_
    refine pl_not (tg := 115) (by kernel_rfl) (congrArg Value.bool h5) ?_
    refine pl_val (.bool ((((!r44.2) || (!r46.2)) || (!r48.2)) || (!r44.1))) (y_pick_t (congrArg Value.bool h5) (congrArg Value.bool (by rw [h5]; rfl))) ?_
    refine pl_val (.bool ((((!r44.2) || (!r46.2)) || (!r48.2)) || (!r44.1))) (y_move rfl) ?_
    rcases Bool.eq_false_or_eq_true (((((!r44.2) || (!r46.2)) || (!r48.2)) || (!r44.1))) with h6 | h6
    ·skip
     refine pl_not (tg := 119) (by kernel_rfl) (congrArg Value.bool h6) ?_
     refine pl_not (tg := 119) (by kernel_rfl) (congrArg Value.bool h6) ?_
     refine pl_val (.bool (((((!r44.2) || (!r46.2)) || (!r48.2)) || (!r44.1)) || (!r46.1))) (y_pick_t (congrArg Value.bool h6) (congrArg Value.bool (by rw [h6]; rfl))) ?_
     refine pl_val (.bool (((((!r44.2) || (!r46.2)) || (!r48.2)) || (!r44.1)) || (!r46.1))) (y_move rfl) ?_
     rcases Bool.eq_false_or_eq_true ((((((!r44.2) || (!r46.2)) || (!r48.2)) || (!r44.1)) || (!r46.1))) with h7 | h7
     ·skip
      refine pl_not (tg := 123) (by kernel_rfl) (congrArg Value.bool h7) ?_
      refine pl_not (tg := 123) (by kernel_rfl) (congrArg Value.bool h7) ?_
      refine pl_val (.bool ((((((!r44.2) || (!r46.2)) || (!r48.2)) || (!r44.1)) || (!r46.1)) || (!r48.1))) (y_pick_t (congrArg Value.bool h7) (congrArg Value.bool (by rw [h7]; rfl))) ?_
      refine c_nil ?_
      exact ⟨_, fr_ovl 259 ⟨rfl, rfl, rfl, trivial⟩, hMid⟩
     refine pl_yes (.bool r48.1) (tg := 123) (by kernel_rfl) (congrArg Value.bool h7) (y_move rfl) ?_
     refine pl_yes (.bool (!r48.1)) (tg := 123) (by kernel_rfl) (congrArg Value.bool h7) (y_not rfl) ?_
     refine pl_val (.bool ((((((!r44.2) || (!r46.2)) || (!r48.2)) || (!r44.1)) || (!r46.1)) || (!r48.1))) (y_pick_f (congrArg Value.bool h7) (congrArg Value.bool (by rw [h7]; rfl))) ?_
     refine c_nil ?_
     exact ⟨_, fr_ovl 259 ⟨rfl, rfl, rfl, trivial⟩, hMid⟩
    refine pl_yes (.bool r46.1) (tg := 119) (by kernel_rfl) (congrArg Value.bool h6) (y_move rfl) ?_
    refine pl_yes (.bool (!r46.1)) (tg := 119) (by kernel_rfl) (congrArg Value.bool h6) (y_not rfl) ?_
    refine pl_val (.bool (((((!r44.2) || (!r46.2)) || (!r48.2)) || (!r44.1)) || (!r46.1))) (y_pick_f (congrArg Value.bool h6) (congrArg Value.bool (by rw [h6]; rfl))) ?_
    refine pl_val (.bool (((((!r44.2) || (!r46.2)) || (!r48.2)) || (!r44.1)) || (!r46.1))) (y_move rfl) ?_
    rcases Bool.eq_false_or_eq_true ((((((!r44.2) || (!r46.2)) || (!r48.2)) || (!r44.1)) || (!r46.1))) with h8 | h8
    ·skip
     refine pl_not (tg := 123) (by kernel_rfl) (congrArg Value.bool h8) ?_
     refine pl_not (tg := 123) (by kernel_rfl) (congrArg Value.bool h8) ?_
     refine pl_val (.bool ((((((!r44.2) || (!r46.2)) || (!r48.2)) || (!r44.1)) || (!r46.1)) || (!r48.1))) (y_pick_t (congrArg Value.bool h8) (congrArg Value.bool (by rw [h8]; rfl))) ?_
     refine c_nil ?_
     exact ⟨_, fr_ovl 259 ⟨rfl, rfl, rfl, trivial⟩, hMid⟩
    refine pl_yes (.bool r48.1) (tg := 123) (by kernel_rfl) (congrArg Value.bool h8) (y_move rfl) ?_
    refine pl_yes (.bool (!r48.1)) (tg := 123) (by kernel_rfl) (congrArg Value.bool h8) (y_not rfl) ?_
    refine pl_val (.bool ((((((!r44.2) || (!r46.2)) || (!r48.2)) || (!r44.1)) || (!r46.1)) || (!r48.1))) (y_pick_f (congrArg Value.bool h8) (congrArg Value.bool (by rw [h8]; rfl))) ?_
    refine c_nil ?_
    exact ⟨_, fr_ovl 259 ⟨rfl, rfl, rfl, trivial⟩, hMid⟩
   refine pl_yes (.bool r44.1) (tg := 115) (by kernel_rfl) (congrArg Value.bool h5) (y_move rfl) ?_
   refine pl_yes (.bool (!r44.1)) (tg := 115) (by kernel_rfl) (congrArg Value.bool h5) (y_not rfl) ?_
   refine pl_val (.bool ((((!r44.2) || (!r46.2)) || (!r48.2)) || (!r44.1))) (y_pick_f (congrArg Value.bool h5) (congrArg Value.bool (by rw [h5]; rfl))) ?_
   refine pl_val (.bool ((((!r44.2) || (!r46.2)) || (!r48.2)) || (!r44.1))) (y_move rfl) ?_
   rcases Bool.eq_false_or_eq_true (((((!r44.2) || (!r46.2)) || (!r48.2)) || (!r44.1))) with h9 | h9
   ·skip
    refine pl_not (tg := 119) (by kernel_rfl) (congrArg Value.bool h9) ?_
    refine pl_not (tg := 119) (by kernel_rfl) (congrArg Value.bool h9) ?_
    refine pl_val (.bool (((((!r44.2) || (!r46.2)) || (!r48.2)) || (!r44.1)) || (!r46.1))) (y_pick_t (congrArg Value.bool h9) (congrArg Value.bool (by rw [h9]; rfl))) ?_
    refine pl_val (.bool (((((!r44.2) || (!r46.2)) || (!r48.2)) || (!r44.1)) || (!r46.1))) (y_move rfl) ?_
    rcases Bool.eq_false_or_eq_true ((((((!r44.2) || (!r46.2)) || (!r48.2)) || (!r44.1)) || (!r46.1))) with i0 | i0
    ·skip
     refine pl_not (tg := 123) (by kernel_rfl) (congrArg Value.bool i0) ?_
     refine pl_not (tg := 123) (by kernel_rfl) (congrArg Value.bool i0) ?_
     refine pl_val (.bool ((((((!r44.2) || (!r46.2)) || (!r48.2)) || (!r44.1)) || (!r46.1)) || (!r48.1))) (y_pick_t (congrArg Value.bool i0) (congrArg Value.bool (by rw [i0]; rfl))) ?_
     refine c_nil ?_
     exact ⟨_, fr_ovl 259 ⟨rfl, rfl, rfl, trivial⟩, hMid⟩
    refine pl_yes (.bool r48.1) (tg := 123) (by kernel_rfl) (congrArg Value.bool i0) (y_move rfl) ?_
    refine pl_yes (.bool (!r48.1)) (tg := 123) (by kernel_rfl) (congrArg Value.bool i0) (y_not rfl) ?_
    refine pl_val (.bool ((((((!r44.2) || (!r46.2)) || (!r48.2)) || (!r44.1)) || (!r46.1)) || (!r48.1))) (y_pick_f (congrArg Value.bool i0) (congrArg Value.bool (by rw [i0]; rfl))) ?_
    refine c_nil ?_
    exact ⟨_, fr_ovl 259 ⟨rfl, rfl, rfl, trivial⟩, hMid⟩
   refine pl_yes (.bool r46.1) (tg := 119) (by kernel_rfl) (congrArg Value.bool h9) (y_move rfl) ?_
   refine pl_yes (.bool (!r46.1)) (tg := 119) (by kernel_rfl) (congrArg Value.bool h9) (y_not rfl) ?_
   refine pl_val (.bool (((((!r44.2) || (!r46.2)) || (!r48.2)) || (!r44.1)) || (!r46.1))) (y_pick_f (congrArg Value.bool h9) (congrArg Value.bool (by rw [h9]; rfl))) ?_
   refine pl_val (.bool (((((!r44.2) || (!r46.2)) || (!r48.2)) || (!r44.1)) || (!r46.1))) (y_move rfl) ?_
   rcases Bool.eq_false_or_eq_true ((((((!r44.2) || (!r46.2)) || (!r48.2)) || (!r44.1)) || (!r46.1))) with i1 | i1
   ·skip
    refine pl_not (tg := 123) (by kernel_rfl) (congrArg Value.bool i1) ?_
    refine pl_not (tg := 123) (by kernel_rfl) (congrArg Value.bool i1) ?_
    refine pl_val (.bool ((((((!r44.2) || (!r46.2)) || (!r48.2)) || (!r44.1)) || (!r46.1)) || (!r48.1))) (y_pick_t (congrArg Value.bool i1) (congrArg Value.bool (by rw [i1]; rfl))) ?_
    refine c_nil ?_
    exact ⟨_, fr_ovl 259 ⟨rfl, rfl, rfl, trivial⟩, hMid⟩
   refine pl_yes (.bool r48.1) (tg := 123) (by kernel_rfl) (congrArg Value.bool i1) (y_move rfl) ?_
   refine pl_yes (.bool (!r48.1)) (tg := 123) (by kernel_rfl) (congrArg Value.bool i1) (y_not rfl) ?_
   refine pl_val (.bool ((((((!r44.2) || (!r46.2)) || (!r48.2)) || (!r44.1)) || (!r46.1)) || (!r48.1))) (y_pick_f (congrArg Value.bool i1) (congrArg Value.bool (by rw [i1]; rfl))) ?_
   refine c_nil ?_
   exact ⟨_, fr_ovl 259 ⟨rfl, rfl, rfl, trivial⟩, hMid⟩
  rintro c2 C9 ⟨σ, rfl, y7⟩
  have h0 := h0.ext y7
  have hC := hC.ext y7
  have hO := hO.ext y7
  rcases bif_some hs with ⟨y8, hs⟩ | ⟨y8, hs⟩
  ·refine c_condT (congrArg Value.bool y8) ?_
   refine c_sr ?_
   refine pl_val (.bool false) (y_assign rfl) ?_
   refine c_nil ?_
   refine wp_ret ?_
   cases hs
   exact ⟨_, fr_ovl 259 ⟨rfl, trivial⟩, hC⟩
  refine c_condF (congrArg Value.bool y8) ?_
  refine wp_skip ?_
  refine c_sr ?_
  refine pl_val (.slice pa0 pn0 pc0) (y_move rfl) ?_
  obtain ⟨r85, J9, hs⟩ := bind_some hs
  refine pl_call Bd15 rfl (c_spec_DrawIsPixleyOp (M := M) code h0 hO.fut J9) ?_
  rintro _ K0 ⟨a6, a7, a8, b8, rfl, y9, a0, K1⟩
  have h0 := h0.ext y9
  have hC := hC.ext y9
  have hO := Own.join0 hO y9 K1
  have hO := hO.perm (R := b8 ++ ([])) (by simp)
  refine pl_val (.tuple #[(.int .i64 r85.1), (.agg #[(.int .i64 r85.2.1), (.slice a6 a7 a8)])]) (y_move rfl) ?_
  refine pl_val (.int .i64 r85.1) (y_extract rfl (by kernel_rfl)) ?_
  refine pl_val (.agg #[(.int .i64 r85.2.1), (.slice a6 a7 a8)]) (y_extract rfl (by kernel_rfl)) ?_
  obtain ⟨K2, b5, K3, D0, r4, D1⟩ := new_block K0 [(.int .i64 0), (.slice none 0 0)] 27
  refine pl_val (w' := K2) (.pointer (some ⟨b5, 0, none⟩)) (y_alloc (by rw [K3, D0]; kernel_rfl)) ?_
  have h0 := h0.ext r4
  have a0 := a0.ext r4
  have hC := hC.ext r4
  have hO := hO.new1 r4 D0 D1.lt
  refine pl_val (.int .i64 r85.1) (y_assign rfl) ?_
  obtain ⟨D2, K4, r5, a2⟩ := box_store (P := Try.prog) D1 [] [(.int .i64 0), (.slice none 0 0)] [] [(.int .i64 r85.2.1), (.slice a6 a7 a8)] rfl rfl (by intro u hu; simp only [List.mem_cons, List.not_mem_nil, or_false] at hu; rcases hu with rfl | rfl <;> rfl)
  refine pl_skip (w' := D2) (ys_store rfl rfl (K4 _ _ rfl Sz27)) ?_
  have h0 := h0.mt r5 hO same_
  have a0 := a0.ma r5 hO same_ (fun _ e => (mem_l (e)))
  have hC := hC.st r5 hO same_
  have hO := hO.ext r5
  have a2 : BoxV D2 b5 27 [(.int .i64 r85.2.1), (.slice a6 a7 a8)] := a2
  refine c_nil ?_
  refine c_sr ?_
  refine pl_val (.int .i64 r85.1) (y_move rfl) ?_
  refine pl_val (.agg #[(.int .i64 r85.2.1), (.slice a6 a7 a8)]) (y_load rfl ((box_load Ag27 Sz27 a2 [] [(.int .i64 r85.2.1), (.slice a6 a7 a8)] [] rfl rfl (fun h => nomatch h)) _ (Chg.refl _ _))) ?_
  have hO := hO.fr1
  obtain ⟨r90, K5, hs⟩ := bind_some hs
  refine pl_call Bd12 rfl (c_impl_IsPixleyOp (M := (Less M b8)) r85.1 (r85.2.1, r85.2.2) (((Frz.os Frz.int)).val a0 Less.sub Less.not) hO.less.fut K5) ?_
  rintro _ S5 ⟨rfl, r7⟩
  have a0 := a0.ext r7
  have a2 := a2.cn r7
  have hC := hC.ext r7
  have hO := hO.ext r7
  refine pl_val (.tuple #[(.bool r90.1), (.bool r90.2)]) (y_move rfl) ?_
  refine pl_val (.bool r90.1) (y_extract rfl (by kernel_rfl)) ?_
  refine pl_val (.bool r90.2) (y_extract rfl (by kernel_rfl)) ?_
  refine pl_val (.bool r90.1) (y_assign rfl) ?_
  refine pl_val (.bool r90.2) (y_assign rfl) ?_
  refine c_nil ?_
  refine c_seq ?_
  refine c_sr ?_
  refine pl_val (.int .i64 r85.1) (y_move rfl) ?_
  refine pl_val (.agg #[(.int .i64 r85.2.1), (.slice a6 a7 a8)]) (y_load rfl ((box_load Ag27 Sz27 a2 [] [(.int .i64 r85.2.1), (.slice a6 a7 a8)] [] rfl rfl (fun h => nomatch h)) _ (Chg.refl _ _))) ?_
  obtain ⟨r92, K6, hs⟩ := bind_some hs
  refine pl_call Bd16 rfl (c_spec_IsPixleyOp (M := (Less M b8)) r85.1 (r85.2.1, r85.2.2) (((Frz.os Frz.int)).val a0 Less.sub Less.not) hO.less.fut K6) ?_
  rintro _ D3 ⟨rfl, r9⟩
  have a0 := a0.ext r9
  have a2 := a2.cn r9
  have hC := hC.ext r9
  have hO := hO.ext r9
  refine pl_val (.tuple #[(.bool r92.1), (.bool r92.2)]) (y_move rfl) ?_
  refine pl_val (.bool r92.1) (y_extract rfl (by kernel_rfl)) ?_
  refine pl_val (.bool r92.2) (y_extract rfl (by kernel_rfl)) ?_
  refine pl_val (.bool r92.1) (y_assign rfl) ?_
  refine pl_val (.bool r92.2) (y_assign rfl) ?_
  refine c_nil ?_
  refine c_seq ?_
  refine c_mid (I := fun a z0 => ∃ (σ : Nat → Value), a = fr 259 (ovl σ [(2, (.bool false)), (18, (.int .i64 r85.1)), (19, (.pointer (some ⟨b5, 0, none⟩))), (20, (.bool r90.1)), (151, (.bool ((!(r90.1 == r92.1)) || (!(r90.2 == r92.2)))))]) ∧ Chg [] D3 z0) ?_ ?_
  ·have hMid := Chg.refl [] D3
   refine c_region ?_
   refine pl_val (.bool r90.1) (y_move rfl) ?_
   refine pl_val (.bool r92.1) (y_move rfl) ?_
   refine pl_val (.bool (!(r90.1 == r92.1))) (y_bneq Try.underlying4 rfl rfl) ?_
   refine pl_val (.bool (!(r90.1 == r92.1))) (y_move rfl) ?_
   rcases Bool.eq_false_or_eq_true ((!(r90.1 == r92.1))) with d7 | d7
   ·skip
    refine pl_not (tg := 147) (by kernel_rfl) (congrArg Value.bool d7) ?_
    refine pl_not (tg := 147) (by kernel_rfl) (congrArg Value.bool d7) ?_
    refine pl_not (tg := 147) (by kernel_rfl) (congrArg Value.bool d7) ?_
    refine pl_val (.bool ((!(r90.1 == r92.1)) || (!(r90.2 == r92.2)))) (y_pick_t (congrArg Value.bool d7) (congrArg Value.bool (by rw [d7]; rfl))) ?_
    refine c_nil ?_
    exact ⟨_, fr_ovl 259 ⟨rfl, rfl, rfl, rfl, rfl, trivial⟩, hMid⟩
   refine pl_yes (.bool r90.2) (tg := 147) (by kernel_rfl) (congrArg Value.bool d7) (y_move rfl) ?_
   refine pl_yes (.bool r92.2) (tg := 147) (by kernel_rfl) (congrArg Value.bool d7) (y_move rfl) ?_
   refine pl_yes (.bool (!(r90.2 == r92.2))) (tg := 147) (by kernel_rfl) (congrArg Value.bool d7) (y_bneq Try.underlying4 rfl rfl) ?_
   refine pl_val (.bool ((!(r90.1 == r92.1)) || (!(r90.2 == r92.2)))) (y_pick_f (congrArg Value.bool d7) (congrArg Value.bool (by rw [d7]; rfl))) ?_
   refine c_nil ?_
   exact ⟨_, fr_ovl 259 ⟨rfl, rfl, rfl, rfl, rfl, trivial⟩, hMid⟩
  rintro c2 z0 ⟨σ, rfl, s0⟩
  have a0 := a0.ext s0
  have a2 := a2.cn s0
  have hC := hC.ext s0
  have hO := hO.ext s0
  rcases bif_some hs with ⟨z1, hs⟩ | ⟨z1, hs⟩
  ·refine c_condT (congrArg Value.bool z1) ?_
   refine c_sr ?_
   refine pl_val (.bool false) (y_assign rfl) ?_
   refine c_nil ?_
   refine wp_ret ?_
   cases hs
   exact ⟨_, fr_ovl 259 ⟨rfl, trivial⟩, hC⟩
  refine c_condF (congrArg Value.bool z1) ?_
  refine wp_skip ?_
  refine c_seq ?_
  refine c_sr ?_
  refine pl_val (.bool r90.1) (y_move rfl) ?_
  refine c_nil ?_
  rcases bif_some hs with ⟨z2, hs⟩ | ⟨z2, hs⟩
  ·refine c_condT (congrArg Value.bool z2) ?_
   refine c_sr ?_
   refine pl_val (.agg #[(.int .i64 3), (.slice none 0 0)]) (y_build rfl (by kernel_rfl)) ?_
   obtain ⟨K7, b9, K8, D4, s1, D5⟩ := new_block z0 [(.int .i64 0), (.slice none 0 0)] 27
   refine pl_val (w' := K7) (.pointer (some ⟨b9, 0, none⟩)) (y_alloc (by rw [K8, D4]; kernel_rfl)) ?_
   have a0 := a0.ext s1
   have a2 := a2.cn s1
   have hC := hC.ext s1
   have hO := hO.new1 s1 D4 D5.lt
   obtain ⟨D6, K9, s2, b2⟩ := box_store (P := Try.prog) D5 [] [(.int .i64 0), (.slice none 0 0)] [] [(.int .i64 3), (.slice none 0 0)] rfl rfl (by intro u hu; simp only [List.mem_cons, List.not_mem_nil, or_false] at hu; rcases hu with rfl | rfl <;> rfl)
   refine pl_skip (w' := D6) (ys_store rfl rfl (K9 _ _ rfl Sz27)) ?_
   have a0 := a0.ma s2 hO same_ (fun _ e => (mem_l (e)))
   have a2 := a2.ap s2 hO same_ (mem_r (mem_l (List.mem_singleton.2 rfl)))
   have hC := hC.st s2 hO same_
   have hO := hO.ext s2
   have b2 : BoxV D6 b9 27 [(.int .i64 3), (.slice none 0 0)] := b2
   refine c_nil ?_
   refine c_seq ?_
   refine c_sr ?_
   refine pl_val (.int .i64 0) (y_assign rfl) ?_
   refine c_nil ?_
   obtain ⟨o403, L0, hs⟩ := bind_some hs
   refine wp_block ?_
   refine wp_forC (id := 0) r85.1 (I := fun k401 s399 a c5 => ∃ (σ : Nat → Value) (m9 : Option Addr) (n0 : Nat) (n1 : Nat) (n2 : List Nat), a = fr 259 (ovl σ [(18, (.int .i64 r85.1)), (19, (.pointer (some ⟨b5, 0, none⟩))), (20, (.bool r90.1)), (24, (.pointer (some ⟨b9, 0, none⟩))), (25, (.int .i64 k401))]) ∧ Chg [] w c5 ∧ Own (Nw w []) M c5 (n2 ++ (([b9]) ++ (b8 ++ (([b5]) ++ [])))) ∧ (RT.os 3 (RT.int .i64)).val M c5 (.slice a6 a7 a8) r85.2.2 b8 ∧ BoxV c5 b5 27 [(.int .i64 r85.2.1), (.slice a6 a7 a8)] ∧ BoxV c5 b9 27 [(.int .i64 3), (.slice m9 n0 n1)] ∧ (RT.os 3 (RT.int .i64)).val M c5 (.slice m9 n0 n1) s399 n2) (J := fun s399 a c5 => ∃ (σ : Nat → Value) (p1 : Option Addr) (p2 : Nat) (p3 : Nat) (s3 : List Nat), a = fr 259 (ovl σ [(18, (.int .i64 r85.1)), (19, (.pointer (some ⟨b5, 0, none⟩))), (20, (.bool r90.1)), (24, (.pointer (some ⟨b9, 0, none⟩)))]) ∧ Chg [] w c5 ∧ Own (Nw w []) M c5 (s3 ++ (([b9]) ++ (b8 ++ (([b5]) ++ [])))) ∧ (RT.os 3 (RT.int .i64)).val M c5 (.slice a6 a7 a8) r85.2.2 b8 ∧ BoxV c5 b5 27 [(.int .i64 r85.2.1), (.slice a6 a7 a8)] ∧ BoxV c5 b9 27 [(.int .i64 3), (.slice p1 p2 p3)] ∧ (RT.os 3 (RT.int .i64)).val M c5 (.slice p1 p2 p3) s399 s3) (K := (k_laws_FnDiscriminators M w)) ?_ ?_ 0 ([]) o403 _ _ ?_ L0 ?_
   ·rintro k401 s399 a c5 ⟨σ, m9, n0, n1, n2, rfl, hC, hO, a0, a2, b2, z3⟩ hlt
    refine c_seq ?_
    refine c_sr ?_
    refine pl_val (.int .i64 k401) (y_move rfl) ?_
    refine pl_val (.int .i64 r85.1) (y_move rfl) ?_
    refine pl_val (.bool (decide (k401 < r85.1))) (y_lss rfl rfl) ?_
    refine c_nil ?_
    refine c_condF (congrArg Value.bool (decide_eq_false hlt)) ?_
    refine wp_exit ?_
    have hO := hO.fr3
    have hO := hO.fr3
    have hO := hO.fr3
    have hO := hO.fr3
    exact ⟨rfl, _, m9, n0, n1, n2, fr_ovl 259 ⟨rfl, rfl, rfl, rfl, trivial⟩, hC, hO, a0, a2, b2, z3⟩
   ·rintro k401 s399 o403 a c5 ⟨σ, m9, n0, n1, n2, rfl, hC, hO, a0, a2, b2, z3⟩ hlt hw hs
    refine c_seq ?_
    refine c_sr ?_
    refine pl_val (.int .i64 k401) (y_move rfl) ?_
    refine pl_val (.int .i64 r85.1) (y_move rfl) ?_
    refine pl_val (.bool (decide (k401 < r85.1))) (y_lss rfl rfl) ?_
    refine c_nil ?_
    refine c_condT (congrArg Value.bool (decide_eq_true hlt)) ?_
    refine wp_skip ?_
    refine c_seq ?_
    refine wp_block ?_
    refine c_sr ?_
    refine pl_val (.int .i64 0) (y_assign rfl) ?_
    refine c_nil ?_
    obtain ⟨o505, L1, hs⟩ := bind_some hs
    refine wp_block ?_
    refine wp_forC (id := 2) r85.1 (I := fun k503 s501 a c6 => ∃ (σ : Nat → Value) (n3 : Option Addr) (n4 : Nat) (n5 : Nat) (n6 : List Nat), a = fr 259 (ovl σ [(18, (.int .i64 r85.1)), (19, (.pointer (some ⟨b5, 0, none⟩))), (20, (.bool r90.1)), (24, (.pointer (some ⟨b9, 0, none⟩))), (25, (.int .i64 k401)), (26, (.int .i64 k503))]) ∧ Chg [] w c6 ∧ Own (Nw w []) M c6 (n6 ++ (([b9]) ++ (b8 ++ (([b5]) ++ [])))) ∧ (RT.os 3 (RT.int .i64)).val M c6 (.slice a6 a7 a8) r85.2.2 b8 ∧ BoxV c6 b5 27 [(.int .i64 r85.2.1), (.slice a6 a7 a8)] ∧ BoxV c6 b9 27 [(.int .i64 3), (.slice n3 n4 n5)] ∧ (RT.os 3 (RT.int .i64)).val M c6 (.slice n3 n4 n5) s501 n6) (J := fun s501 a c6 => ∃ (σ : Nat → Value) (s4 : Option Addr) (s5 : Nat) (s6 : Nat) (s7 : List Nat), a = fr 259 (ovl σ [(18, (.int .i64 r85.1)), (19, (.pointer (some ⟨b5, 0, none⟩))), (20, (.bool r90.1)), (24, (.pointer (some ⟨b9, 0, none⟩))), (25, (.int .i64 k401))]) ∧ Chg [] w c6 ∧ Own (Nw w []) M c6 (s7 ++ (([b9]) ++ (b8 ++ (([b5]) ++ [])))) ∧ (RT.os 3 (RT.int .i64)).val M c6 (.slice a6 a7 a8) r85.2.2 b8 ∧ BoxV c6 b5 27 [(.int .i64 r85.2.1), (.slice a6 a7 a8)] ∧ BoxV c6 b9 27 [(.int .i64 3), (.slice s4 s5 s6)] ∧ (RT.os 3 (RT.int .i64)).val M c6 (.slice s4 s5 s6) s501 s7) (K := (k_laws_FnDiscriminators M w)) ?_ ?_ 0 s399 o505 _ _ ?_ L1 ?_
    ·rintro k503 s501 a c6 ⟨σ, n3, n4, n5, n6, rfl, hC, hO, a0, a2, b2, z4⟩ hlt
     refine c_seq ?_
     refine c_sr ?_
     refine pl_val (.int .i64 k503) (y_move rfl) ?_
     refine pl_val (.int .i64 r85.1) (y_move rfl) ?_
     refine pl_val (.bool (decide (k503 < r85.1))) (y_lss rfl rfl) ?_
     refine c_nil ?_
     refine c_condF (congrArg Value.bool (decide_eq_false hlt)) ?_
     refine wp_exit ?_
     have hO := hO.fr3
     have hO := hO.fr3
     have hO := hO.fr3
     have hO := hO.fr3
     exact ⟨rfl, _, n3, n4, n5, n6, fr_ovl 259 ⟨rfl, rfl, rfl, rfl, rfl, trivial⟩, hC, hO, a0, a2, b2, z4⟩
    ·rintro k503 s501 o505 a c6 ⟨σ, n3, n4, n5, n6, rfl, hC, hO, a0, a2, b2, z4⟩ hlt hw hs
     refine c_seq ?_
     refine c_sr ?_
     refine pl_val (.int .i64 k503) (y_move rfl) ?_
     refine pl_val (.int .i64 r85.1) (y_move rfl) ?_
     refine pl_val (.bool (decide (k503 < r85.1))) (y_lss rfl rfl) ?_
     refine c_nil ?_
     refine c_condT (congrArg Value.bool (decide_eq_true hlt)) ?_
     refine wp_skip ?_
     refine c_seq ?_
     refine wp_block ?_
     refine c_sr ?_
     refine pl_val (.int .i64 0) (y_assign rfl) ?_
     refine c_nil ?_
     obtain ⟨o539, L2, hs⟩ := bind_some hs
     refine wp_block ?_
     refine wp_forC (id := 4) r85.1 (I := fun k537 s535 a c3 => ∃ (σ : Nat → Value) (j9 : Option Addr) (k0 : Nat) (k1 : Nat) (p4 : List Nat), a = fr 259 (ovl σ [(18, (.int .i64 r85.1)), (19, (.pointer (some ⟨b5, 0, none⟩))), (20, (.bool r90.1)), (24, (.pointer (some ⟨b9, 0, none⟩))), (25, (.int .i64 k401)), (26, (.int .i64 k503)), (27, (.int .i64 k537))]) ∧ Chg [] w c3 ∧ Own (Nw w []) M c3 (p4 ++ (([b9]) ++ (b8 ++ (([b5]) ++ [])))) ∧ (RT.os 3 (RT.int .i64)).val M c3 (.slice a6 a7 a8) r85.2.2 b8 ∧ BoxV c3 b5 27 [(.int .i64 r85.2.1), (.slice a6 a7 a8)] ∧ BoxV c3 b9 27 [(.int .i64 3), (.slice j9 k0 k1)] ∧ (RT.os 3 (RT.int .i64)).val M c3 (.slice j9 k0 k1) s535 p4) (J := fun s535 a c3 => ∃ (σ : Nat → Value) (s8 : Option Addr) (s9 : Nat) (t0 : Nat) (t1 : List Nat), a = fr 259 (ovl σ [(18, (.int .i64 r85.1)), (19, (.pointer (some ⟨b5, 0, none⟩))), (20, (.bool r90.1)), (24, (.pointer (some ⟨b9, 0, none⟩))), (25, (.int .i64 k401)), (26, (.int .i64 k503))]) ∧ Chg [] w c3 ∧ Own (Nw w []) M c3 (t1 ++ (([b9]) ++ (b8 ++ (([b5]) ++ [])))) ∧ (RT.os 3 (RT.int .i64)).val M c3 (.slice a6 a7 a8) r85.2.2 b8 ∧ BoxV c3 b5 27 [(.int .i64 r85.2.1), (.slice a6 a7 a8)] ∧ BoxV c3 b9 27 [(.int .i64 3), (.slice s8 s9 t0)] ∧ (RT.os 3 (RT.int .i64)).val M c3 (.slice s8 s9 t0) s535 t1) (K := (k_laws_FnDiscriminators M w)) ?_ ?_ 0 s501 o539 _ _ ?_ L2 ?_
     ·rintro k537 s535 a c3 ⟨σ, j9, k0, k1, p4, rfl, hC, hO, a0, a2, b2, k2⟩ hlt
      refine c_seq ?_
      refine c_sr ?_
      refine pl_val (.int .i64 k537) (y_move rfl) ?_
      refine pl_val (.int .i64 r85.1) (y_move rfl) ?_
      refine pl_val (.bool (decide (k537 < r85.1))) (y_lss rfl rfl) ?_
      refine c_nil ?_
      refine c_condF (congrArg Value.bool (decide_eq_false hlt)) ?_
      refine wp_exit ?_
      have hO := hO.fr3
      have hO := hO.fr3
      have hO := hO.fr3
      have hO := hO.fr3
      exact ⟨rfl, _, j9, k0, k1, p4, fr_ovl 259 ⟨rfl, rfl, rfl, rfl, rfl, rfl, trivial⟩, hC, hO, a0, a2, b2, k2⟩
     ·rintro k537 s535 o539 a c3 ⟨σ, j9, k0, k1, p4, rfl, hC, hO, a0, a2, b2, k2⟩ hlt hw hs
      refine c_seq ?_
      refine c_sr ?_
      refine pl_val (.int .i64 k537) (y_move rfl) ?_
      refine pl_val (.int .i64 r85.1) (y_move rfl) ?_
      refine pl_val (.bool (decide (k537 < r85.1))) (y_lss rfl rfl) ?_
      refine c_nil ?_
      refine c_condT (congrArg Value.bool (decide_eq_true hlt)) ?_
      refine wp_skip ?_
      refine c_seq ?_
      refine wp_block ?_
      refine c_sr ?_
      refine pl_val (.pointer (some ⟨b5, 1, none⟩)) (y_faddr rfl Fa27x1) ?_
      refine pl_val (.slice a6 a7 a8) (y_load rfl ((box_load Ag25 Sz25 a2 [(.int .i64 r85.2.1)] [(.slice a6 a7 a8)] [] rfl rfl (fun _ => rfl)) _ (Chg.refl _ _))) ?_
      refine pl_val (.int .i64 k401) (y_move rfl) ?_
      refine pl_val (.int .i64 r85.1) (y_move rfl) ?_
      refine pl_val (.int .i64 (w64 (k401 * r85.1))) (y_mul rfl rfl) ?_
      refine pl_val (.int .i64 k503) (y_move rfl) ?_
      refine pl_val (.int .i64 (w64 ((w64 (k401 * r85.1)) + k503))) (y_add rfl rfl) ?_
      refine pl_val (.int .i64 r85.1) (y_move rfl) ?_
      refine pl_val (.int .i64 (w64 ((w64 ((w64 (k401 * r85.1)) + k503)) * r85.1))) (y_mul rfl rfl) ?_
      refine pl_val (.int .i64 k537) (y_move rfl) ?_
      refine pl_val (.int .i64 (w64 ((w64 ((w64 ((w64 (k401 * r85.1)) + k503)) * r85.1)) + k537))) (y_add rfl rfl) ?_
      obtain ⟨x545, L3, hs⟩ := bind_some hs
      obtain ⟨L4, S6, S7, S8, L5, L6, S9⟩ := os_idx Sl25 Sz3 a0 L3
      refine pl_val (.pointer (some ⟨L4, 0 + Int.toNat (w64 ((w64 ((w64 ((w64 (k401 * r85.1)) + k503)) * r85.1)) + k537)) * 1, none⟩)) (L5 _ _ _ _ _ _ _ _ _ rfl rfl) ?_
      refine pl_val (.int .i64 x545) (y_load rfl ((at_load_int Ag3 Sz3 L6) _ (Chg.refl _ _))) ?_
      refine pl_val (.int .i64 x545) (y_assign rfl) ?_
      refine c_nil ?_
      refine x_start [16, 18] Mx rfl ?_
      have l7 := Chg.drew c3
      generalize World.drew c3 = D7 at l7 ⊢
      have a0 := a0.ext l7
      have a2 := a2.cn l7
      have b2 := b2.cn l7
      have k2 := k2.ext l7
      have hC := hC.ext l7
      have hO := hO.ext l7
      have hS := Chg.refl [] D7
      refine x_p 0 (.pointer (some ⟨b9, 1, none⟩)) rfl (by kernel_rfl)  (fun _ => y_faddr rfl Fa27x1) (fun _ => hS) ?_
      refine x_l 1 (.slice j9 k0 k1) rfl (by kernel_rfl)  (fun w' hw' => y_load rfl ((box_load Ag25 Sz25 b2 [(.int .i64 3)] [(.slice j9 k0 k1)] [] rfl rfl (fun _ => rfl)) w' hw')) hS ?_
      refine x_p 2 (.pointer (some ⟨b5, 1, none⟩)) rfl (by kernel_rfl)  (fun _ => y_faddr rfl Fa27x1) (fun _ => hS) ?_
      refine x_l 3 (.slice a6 a7 a8) rfl (by kernel_rfl)  (fun w' hw' => y_load rfl ((box_load Ag25 Sz25 a2 [(.int .i64 r85.2.1)] [(.slice a6 a7 a8)] [] rfl rfl (fun _ => rfl)) w' hw')) hS ?_
      refine x_p 4 (.int .i64 k401) rfl (by kernel_rfl)  (fun _ => y_move rfl) (fun _ => hS) ?_
      refine x_p 5 (.int .i64 r85.1) rfl (by kernel_rfl)  (fun _ => y_move rfl) (fun _ => hS) ?_
      refine x_p 6 (.int .i64 (w64 (k401 * r85.1))) rfl (by kernel_rfl)  (fun _ => y_mul rfl rfl) (fun _ => hS) ?_
      refine x_p 7 (.int .i64 x545) rfl (by kernel_rfl)  (fun _ => y_move rfl) (fun _ => hS) ?_
      refine x_p 8 (.int .i64 (w64 ((w64 (k401 * r85.1)) + x545))) rfl (by kernel_rfl)  (fun _ => y_add rfl rfl) (fun _ => hS) ?_
      refine x_p 9 (.int .i64 r85.1) rfl (by kernel_rfl)  (fun _ => y_move rfl) (fun _ => hS) ?_
      refine x_p 10 (.int .i64 (w64 ((w64 ((w64 (k401 * r85.1)) + x545)) * r85.1))) rfl (by kernel_rfl)  (fun _ => y_mul rfl rfl) (fun _ => hS) ?_
      refine x_p 11 (.int .i64 k537) rfl (by kernel_rfl)  (fun _ => y_move rfl) (fun _ => hS) ?_
      refine x_p 12 (.int .i64 (w64 ((w64 ((w64 ((w64 (k401 * r85.1)) + x545)) * r85.1)) + k537))) rfl (by kernel_rfl)  (fun _ => y_add rfl rfl) (fun _ => hS) ?_
      obtain ⟨x548, L7, hs⟩ := bind_some hs
      obtain ⟨L8, T0, T1, T2, L9, M0, T3⟩ := os_idx Sl25 Sz3 a0 L7
      refine x_p 13 (.pointer (some ⟨L8, 0 + Int.toNat (w64 ((w64 ((w64 ((w64 (k401 * r85.1)) + x545)) * r85.1)) + k537)) * 1, none⟩)) rfl (by kernel_rfl)  (fun _ => L9 _ _ _ _ _ _ _ _ _ rfl rfl) (fun _ => hS) ?_
      refine x_l 14 (.int .i64 x548) rfl (by kernel_rfl)  (fun w' hw' => y_load rfl ((at_load_int Ag3 Sz3 M0) w' hw')) hS ?_
      refine x_one (i := 15) (by kernel_rfl) ?_
      obtain ⟨D8, z5, M1, D9, k3, E0⟩ := new_block D7 [(.int .i64 x548)] 3
      refine xk_val (w' := D8) (b := false) (.slice (some ⟨z5, 0, none⟩) 1 1) rfl  (y_bslice rfl (by rw [M1, D9]; kernel_rfl)) rfl (fun _ => hS.ext k3) ?_
      have a0 := a0.ext k3
      have a2 := a2.cn k3
      have b2 := b2.cn k3
      have k2 := k2.ext k3
      have hC := hC.ext k3
      have hO := hO.new1 k3 D9 E0.lt
      have z6 := os_of_box (r := (RT.int .i64)) (M := M) (css := [[(.int .i64 x548)]]) (fps := [([] : List Nat)]) (xs := ([x548] : List Int)) E0 ⟨⟨rfl, rfl⟩, trivial⟩ (Nat.le_of_ble_eq_true rfl) (List.nodup_cons.2 ⟨(fun h => nomatch h), List.nodup_nil⟩)
      have z6 : (RT.os 3 (RT.int .i64)).val M D8 (.slice (some ⟨z5, 0, none⟩) 1 1) [x548] [z5] := z6
      have hS := hS.ext k3
      refine x_one (i := 16) (by kernel_rfl) ?_
      obtain ⟨y553, M2, hs⟩ := bind_some hs
      have hO := hO.fr1
      obtain ⟨t2, t3, t4, M3, M4, M5, p5, M6, p6⟩ := app_os Rw25 M2 k2 z6 hO.inM (fun g hg hq => hO.apart g hq (mem_l hg))
      have t5 := os_block k2
      refine xk_val (w' := M3) (b := true) (.slice t2 t3 t4) rfl  (y_append rfl rfl (M5 _)) rfl (fun h => nomatch h) ?_
      have hO := hO.fr1
      have hO := hO.fr1
      have a0 := a0.ma p5 hO t5 (fun _ e => (mem_r (mem_r (mem_l (e)))))
      have a2 := a2.ap p5 hO t5 (mem_r (mem_r (mem_r (mem_l (List.mem_singleton.2 rfl)))))
      have b2 := b2.ap p5 hO t5 (mem_r (mem_l (List.mem_singleton.2 rfl)))
      have hC := hC.st p5 hO t5
      have hO := hO.eat p5 M6 (os_nodup p6) p6.fpl
      refine x_p 17 (.pointer (some ⟨b9, 1, none⟩)) rfl (by kernel_rfl)  (fun _ => y_faddr rfl Fa27x1) (fun h => nomatch h) ?_
      refine x_one (i := 18) (by kernel_rfl) ?_
      obtain ⟨E1, M7, p7, z7⟩ := box_store (P := Try.prog) b2 [(.int .i64 3)] [(.slice j9 k0 k1)] [] [(.slice t2 t3 t4)] rfl rfl (by intro u hu; simp only [List.mem_cons, List.not_mem_nil, or_false] at hu; rcases hu with rfl <;> rfl)
      refine xk_skip (w' := E1) (b := true) rfl (ys_store rfl rfl (M7 _ _ rfl Sz25)) rfl (fun h => nomatch h) ?_
      have hO := hO.fr1
      have a0 := a0.ma p7 hO same_ (fun _ e => (mem_r (mem_l (e))))
      have a2 := a2.ap p7 hO same_ (mem_r (mem_r (mem_l (List.mem_singleton.2 rfl))))
      have p6 := p6.ma p7 hO same_ (fun _ e => (mem_l (e)))
      have hC := hC.st p7 hO same_
      have hO := hO.ext p7
      have z7 : BoxV E1 b9 27 [(.int .i64 3), (.slice t2 t3 t4)] := z7
      refine x_end (by kernel_rfl) ?_
      clear hS
      refine c_region ?_
      refine pl_val (.int .i64 k537) (y_move rfl) ?_
      refine pl_val (.int .i64 (w64 (k537 + 1))) (y_add rfl rfl) ?_
      refine pl_val (.int .i64 (w64 (k537 + 1))) (y_assign rfl) ?_
      refine c_nil ?_
      cases hs
      have hO := hO.fr3
      have hO := hO.fr3
      have hO := hO.fr2
      have hO := hO.fr3
      exact ⟨_, t2, t3, t4, M4, fr_ovl 259 ⟨rfl, rfl, rfl, rfl, rfl, rfl, congrArg (Value.int .i64) hw, trivial⟩, hC, hO, a0, a2, z7, p6⟩
     ·skip
      have hO := hO.fr3
      have hO := hO.fr3
      have hO := hO.fr3
      have hO := hO.fr3
      exact ⟨_, n3, n4, n5, n6, fr_ovl 259 ⟨rfl, rfl, rfl, rfl, rfl, rfl, rfl, trivial⟩, hC, hO, a0, a2, b2, z4⟩
     cases o539 with
     | nx _ => exact True.intro
     | rt r_ =>
      have hs := after_rt hs
      intro c2 m0 hK
      cases hs
      exact hK
     | br s535 =>
      have hs := after_br hs
      rintro c2 c3 ⟨σ, s8, s9, t0, t1, rfl, hC, hO, a0, a2, b2, M8⟩
      refine c_region ?_
      refine pl_val (.int .i64 k503) (y_move rfl) ?_
      refine pl_val (.int .i64 (w64 (k503 + 1))) (y_add rfl rfl) ?_
      refine pl_val (.int .i64 (w64 (k503 + 1))) (y_assign rfl) ?_
      refine c_nil ?_
      cases hs
      have hO := hO.fr3
      have hO := hO.fr3
      have hO := hO.fr3
      have hO := hO.fr3
      exact ⟨_, s8, s9, t0, t1, fr_ovl 259 ⟨rfl, rfl, rfl, rfl, rfl, congrArg (Value.int .i64) hw, trivial⟩, hC, hO, a0, a2, b2, M8⟩
    ·skip
     have hO := hO.fr3
     have hO := hO.fr3
     have hO := hO.fr3
     have hO := hO.fr3
     exact ⟨_, m9, n0, n1, n2, fr_ovl 259 ⟨rfl, rfl, rfl, rfl, rfl, rfl, trivial⟩, hC, hO, a0, a2, b2, z3⟩
    cases o505 with
    | nx _ => exact True.intro
    | rt r_ =>
     have hs := after_rt hs
     intro c2 m0 hK
     cases hs
     exact hK
    | br s501 =>
     have hs := after_br hs
     rintro c2 c6 ⟨σ, s4, s5, s6, s7, rfl, hC, hO, a0, a2, b2, M9⟩
     refine c_region ?_
     refine pl_val (.int .i64 k401) (y_move rfl) ?_
     refine pl_val (.int .i64 (w64 (k401 + 1))) (y_add rfl rfl) ?_
     refine pl_val (.int .i64 (w64 (k401 + 1))) (y_assign rfl) ?_
     refine c_nil ?_
     cases hs
     have hO := hO.fr3
     have hO := hO.fr3
     have hO := hO.fr3
     have hO := hO.fr3
     exact ⟨_, s4, s5, s6, s7, fr_ovl 259 ⟨rfl, rfl, rfl, rfl, congrArg (Value.int .i64) hw, trivial⟩, hC, hO, a0, a2, b2, M9⟩
   ·skip
    have hO := hO.fr2
    have hO := hO.fr2
    have hO := hO.fr2
    have hO := hO.nil
    exact ⟨_, none, 0, 0, [], fr_ovl 259 ⟨rfl, rfl, rfl, rfl, rfl, trivial⟩, hC, hO, a0, a2, b2, os_nil⟩
   cases o403 with
   | nx _ => exact True.intro
   | rt r_ =>
    have hs := after_rt hs
    intro c2 m0 hK
    cases hs
    exact hK
   | br s399 =>
    have hs := after_br hs
    rintro c2 c5 ⟨σ, p1, p2, p3, s3, rfl, hC, hO, a0, a2, b2, z8⟩
    refine c_sr ?_
    refine pl_val (.int .i64 r85.1) (y_move rfl) ?_
    refine pl_val (.agg #[(.int .i64 3), (.slice p1 p2 p3)]) (y_load rfl ((box_load Ag27 Sz27 b2 [] [(.int .i64 3), (.slice p1 p2 p3)] [] rfl rfl (fun h => nomatch h)) _ (Chg.refl _ _))) ?_
    obtain ⟨r557, N0, hs⟩ := bind_some hs
    refine pl_call Bd13 rfl (c_impl_IsUnanimityOp (M := (Less M s3)) r85.1 (3, s399) (((Frz.os Frz.int)).val z8 Less.sub Less.not) hO.less.fut N0) ?_
    rintro _ E2 ⟨rfl, n7⟩
    have a0 := a0.ext n7
    have a2 := a2.cn n7
    have b2 := b2.cn n7
    have z8 := z8.ext n7
    have hC := hC.ext n7
    have hO := hO.ext n7
    refine pl_val (.tuple #[(.bool r557.1), (.bool r557.2)]) (y_move rfl) ?_
    refine pl_val (.bool r557.1) (y_extract rfl (by kernel_rfl)) ?_
    refine pl_val (.bool r557.2) (y_extract rfl (by kernel_rfl)) ?_
    refine pl_val (.bool r557.1) (y_assign rfl) ?_
    refine pl_val (.bool r557.2) (y_assign rfl) ?_
    refine c_nil ?_
    have hO := hO.drop
    have hO := hO.drop
    refine c_seq ?_
    refine c_mid (I := fun a E3 => ∃ (σ : Nat → Value), a = fr 259 (ovl σ [(18, (.int .i64 r85.1)), (19, (.pointer (some ⟨b5, 0, none⟩))), (20, (.bool r90.1)), (211, (.bool ((!r557.2) || (!r557.1))))]) ∧ Chg [] E2 E3) ?_ ?_
    ·have hMid := Chg.refl [] E2
     refine c_region ?_
     refine pl_val (.bool r557.2) (y_move rfl) ?_
     refine pl_val (.bool (!r557.2)) (y_not rfl) ?_
     refine pl_val (.bool (!r557.2)) (y_move rfl) ?_
     rcases Bool.eq_false_or_eq_true ((!r557.2)) with i2 | i2
     ·skip
      refine pl_not (tg := 208) (by kernel_rfl) (congrArg Value.bool i2) ?_
      refine pl_not (tg := 208) (by kernel_rfl) (congrArg Value.bool i2) ?_
      refine pl_val (.bool ((!r557.2) || (!r557.1))) (y_pick_t (congrArg Value.bool i2) (congrArg Value.bool (by rw [i2]; rfl))) ?_
      refine c_nil ?_
      exact ⟨_, fr_ovl 259 ⟨rfl, rfl, rfl, rfl, trivial⟩, hMid⟩
     refine pl_yes (.bool r557.1) (tg := 208) (by kernel_rfl) (congrArg Value.bool i2) (y_move rfl) ?_
     refine pl_yes (.bool (!r557.1)) (tg := 208) (by kernel_rfl) (congrArg Value.bool i2) (y_not rfl) ?_
     refine pl_val (.bool ((!r557.2) || (!r557.1))) (y_pick_f (congrArg Value.bool i2) (congrArg Value.bool (by rw [i2]; rfl))) ?_
     refine c_nil ?_
     exact ⟨_, fr_ovl 259 ⟨rfl, rfl, rfl, rfl, trivial⟩, hMid⟩
    rintro c2 E3 ⟨σ, rfl, t6⟩
    have a0 := a0.ext t6
    have a2 := a2.cn t6
    have hC := hC.ext t6
    have hO := hO.ext t6
    rcases bif_some hs with ⟨z9, hs⟩ | ⟨z9, hs⟩
    ·refine c_condT (congrArg Value.bool z9) ?_
     refine c_sr ?_
     refine pl_val (.bool false) (y_assign rfl) ?_
     refine c_nil ?_
     refine wp_ret ?_
     cases hs
     exact ⟨_, fr_ovl 259 ⟨rfl, trivial⟩, hC⟩
    refine c_condF (congrArg Value.bool z9) ?_
    refine wp_skip ?_
    refine c_sr ?_
    refine pl_val (.int .i64 r85.1) (y_move rfl) ?_
    refine pl_val (.agg #[(.int .i64 r85.2.1), (.slice a6 a7 a8)]) (y_load rfl ((box_load Ag27 Sz27 a2 [] [(.int .i64 r85.2.1), (.slice a6 a7 a8)] [] rfl rfl (fun h => nomatch h)) _ (Chg.refl _ _))) ?_
    obtain ⟨r564, N1, hs⟩ := bind_some hs
    refine pl_call Bd13 rfl (c_impl_IsUnanimityOp (M := (Less M b8)) r85.1 (r85.2.1, r85.2.2) (((Frz.os Frz.int)).val a0 Less.sub Less.not) hO.less.fut N1) ?_
    rintro _ T4 ⟨rfl, t7⟩
    have a0 := a0.ext t7
    have a2 := a2.cn t7
    have hC := hC.ext t7
    have hO := hO.ext t7
    refine pl_val (.tuple #[(.bool r564.1), (.bool r564.2)]) (y_move rfl) ?_
    refine pl_val (.bool r564.1) (y_extract rfl (by kernel_rfl)) ?_
    refine pl_val (.bool r564.2) (y_extract rfl (by kernel_rfl)) ?_
    refine pl_val (.bool r564.1) (y_assign rfl) ?_
    refine pl_val (.bool r564.2) (y_assign rfl) ?_
    refine c_nil ?_
    refine c_seq ?_
    refine c_sr ?_
    refine pl_val (.int .i64 r85.1) (y_move rfl) ?_
    refine pl_val (.agg #[(.int .i64 r85.2.1), (.slice a6 a7 a8)]) (y_load rfl ((box_load Ag27 Sz27 a2 [] [(.int .i64 r85.2.1), (.slice a6 a7 a8)] [] rfl rfl (fun h => nomatch h)) _ (Chg.refl _ _))) ?_
    obtain ⟨r566, N2, hs⟩ := bind_some hs
    refine pl_call Bd17 rfl (c_spec_IsUnanimityOp (M := (Less M b8)) r85.1 (r85.2.1, r85.2.2) (((Frz.os Frz.int)).val a0 Less.sub Less.not) hO.less.fut N2) ?_
    rintro _ E4 ⟨rfl, t8⟩
    have a0 := a0.ext t8
    have a2 := a2.cn t8
    have hC := hC.ext t8
    have hO := hO.ext t8
    refine pl_val (.tuple #[(.bool r566.1), (.bool r566.2)]) (y_move rfl) ?_
    refine pl_val (.bool r566.1) (y_extract rfl (by kernel_rfl)) ?_
    refine pl_val (.bool r566.2) (y_extract rfl (by kernel_rfl)) ?_
    refine pl_val (.bool r566.1) (y_assign rfl) ?_
    refine pl_val (.bool r566.2) (y_assign rfl) ?_
    refine c_nil ?_
    refine c_seq ?_
    refine c_mid (I := fun a E5 => ∃ (σ : Nat → Value), a = fr 259 (ovl σ [(18, (.int .i64 r85.1)), (19, (.pointer (some ⟨b5, 0, none⟩))), (20, (.bool r90.1)), (231, (.bool ((!(r564.1 == r566.1)) || (!(r564.2 == r566.2)))))]) ∧ Chg [] E4 E5) ?_ ?_
    ·have hMid := Chg.refl [] E4
     refine c_region ?_
     refine pl_val (.bool r564.1) (y_move rfl) ?_
     refine pl_val (.bool r566.1) (y_move rfl) ?_
     refine pl_val (.bool (!(r564.1 == r566.1))) (y_bneq Try.underlying4 rfl rfl) ?_
     refine pl_val (.bool (!(r564.1 == r566.1))) (y_move rfl) ?_
     rcases Bool.eq_false_or_eq_true ((!(r564.1 == r566.1))) with d8 | d8
     ·skip
      refine pl_not (tg := 227) (by kernel_rfl) (congrArg Value.bool d8) ?_
      refine pl_not (tg := 227) (by kernel_rfl) (congrArg Value.bool d8) ?_
      refine pl_not (tg := 227) (by kernel_rfl) (congrArg Value.bool d8) ?_
      refine pl_val (.bool ((!(r564.1 == r566.1)) || (!(r564.2 == r566.2)))) (y_pick_t (congrArg Value.bool d8) (congrArg Value.bool (by rw [d8]; rfl))) ?_
      refine c_nil ?_
      exact ⟨_, fr_ovl 259 ⟨rfl, rfl, rfl, rfl, trivial⟩, hMid⟩
     refine pl_yes (.bool r564.2) (tg := 227) (by kernel_rfl) (congrArg Value.bool d8) (y_move rfl) ?_
     refine pl_yes (.bool r566.2) (tg := 227) (by kernel_rfl) (congrArg Value.bool d8) (y_move rfl) ?_
     refine pl_yes (.bool (!(r564.2 == r566.2))) (tg := 227) (by kernel_rfl) (congrArg Value.bool d8) (y_bneq Try.underlying4 rfl rfl) ?_
     refine pl_val (.bool ((!(r564.1 == r566.1)) || (!(r564.2 == r566.2)))) (y_pick_f (congrArg Value.bool d8) (congrArg Value.bool (by rw [d8]; rfl))) ?_
     refine c_nil ?_
     exact ⟨_, fr_ovl 259 ⟨rfl, rfl, rfl, rfl, trivial⟩, hMid⟩
    rintro c2 E5 ⟨σ, rfl, t9⟩
    have a0 := a0.ext t9
    have a2 := a2.cn t9
    have hC := hC.ext t9
    have hO := hO.ext t9
    rcases bif_some hs with ⟨A0, hs⟩ | ⟨A0, hs⟩
    ·refine c_condT (congrArg Value.bool A0) ?_
     refine c_sr ?_
     refine pl_val (.bool false) (y_assign rfl) ?_
     refine c_nil ?_
     refine wp_ret ?_
     cases hs
     exact ⟨_, fr_ovl 259 ⟨rfl, trivial⟩, hC⟩
    refine c_condF (congrArg Value.bool A0) ?_
    refine wp_skip ?_
    refine c_sr ?_
    refine pl_val (.int .i64 r85.1) (y_move rfl) ?_
    refine pl_val (.agg #[(.int .i64 r85.2.1), (.slice a6 a7 a8)]) (y_load rfl ((box_load Ag27 Sz27 a2 [] [(.int .i64 r85.2.1), (.slice a6 a7 a8)] [] rfl rfl (fun h => nomatch h)) _ (Chg.refl _ _))) ?_
    obtain ⟨r573, N3, hs⟩ := bind_some hs
    refine pl_call Bd14 rfl (c_impl_IsDiscriminatorOp (M := (Less M b8)) r85.1 (r85.2.1, r85.2.2) (((Frz.os Frz.int)).val a0 Less.sub Less.not) hO.less.fut N3) ?_
    rintro _ T5 ⟨rfl, u0⟩
    have a0 := a0.ext u0
    have a2 := a2.cn u0
    have hC := hC.ext u0
    have hO := hO.ext u0
    refine pl_val (.tuple #[(.bool r573.1), (.bool r573.2)]) (y_move rfl) ?_
    refine pl_val (.bool r573.1) (y_extract rfl (by kernel_rfl)) ?_
    refine pl_val (.bool r573.2) (y_extract rfl (by kernel_rfl)) ?_
    refine pl_val (.bool r573.1) (y_assign rfl) ?_
    refine pl_val (.bool r573.2) (y_assign rfl) ?_
    refine c_nil ?_
    refine c_sr ?_
    refine pl_val (.int .i64 r85.1) (y_move rfl) ?_
    refine pl_val (.agg #[(.int .i64 r85.2.1), (.slice a6 a7 a8)]) (y_load rfl ((box_load Ag27 Sz27 a2 [] [(.int .i64 r85.2.1), (.slice a6 a7 a8)] [] rfl rfl (fun h => nomatch h)) _ (Chg.refl _ _))) ?_
    obtain ⟨r575, N4, hs⟩ := bind_some hs
    refine pl_call Bd18 rfl (c_spec_IsDiscriminatorOp (M := (Less M b8)) r85.1 (r85.2.1, r85.2.2) (((Frz.os Frz.int)).val a0 Less.sub Less.not) hO.less.fut N4) ?_
    rintro _ T6 ⟨rfl, u1⟩
    have a0 := a0.ext u1
    have a2 := a2.cn u1
    have hC := hC.ext u1
    have hO := hO.ext u1
    refine pl_val (.tuple #[(.bool r575.1), (.bool r575.2)]) (y_move rfl) ?_
    refine pl_val (.bool r575.1) (y_extract rfl (by kernel_rfl)) ?_
    refine pl_val (.bool r575.2) (y_extract rfl (by kernel_rfl)) ?_
    refine pl_val (.bool r575.1) (y_assign rfl) ?_
    refine pl_val (.bool r575.2) (y_assign rfl) ?_
    refine c_nil ?_
    have hO := hO.drop
    have hO := hO.drop
    refine c_sr ?_
    refine pl_val (.bool r573.1) (y_move rfl) ?_
    refine pl_val (.bool r575.1) (y_move rfl) ?_
    refine pl_val (.bool (r573.1 == r575.1)) (y_beql Try.underlying4 rfl rfl) ?_
    refine pl_val (.bool (r573.1 == r575.1)) (y_move rfl) ?_
    rcases bif_some hs with ⟨i3, hs⟩ | ⟨i3, hs⟩
    ·skip
     refine pl_yes (.bool r573.2) (tg := 247) (by kernel_rfl) (congrArg Value.bool i3) (y_move rfl) ?_
     refine pl_yes (.bool r575.2) (tg := 247) (by kernel_rfl) (congrArg Value.bool i3) (y_move rfl) ?_
     refine pl_yes (.bool (r573.2 == r575.2)) (tg := 247) (by kernel_rfl) (congrArg Value.bool i3) (y_beql Try.underlying4 rfl rfl) ?_
     refine pl_val (.bool (r573.2 == r575.2)) (y_pick_t (congrArg Value.bool i3) rfl) ?_
     refine pl_val (.bool (r573.2 == r575.2)) (y_move rfl) ?_
     rcases bif_some hs with ⟨d1, hs⟩ | ⟨d1, hs⟩
     ·skip
      refine pl_yes (.bool r573.1) (tg := 252) (by kernel_rfl) (congrArg Value.bool d1) (y_move rfl) ?_
      refine pl_yes (.bool (!r573.1)) (tg := 252) (by kernel_rfl) (congrArg Value.bool d1) (y_not rfl) ?_
      refine pl_yes (.bool (!r573.1)) (tg := 252) (by kernel_rfl) (congrArg Value.bool d1) (y_move rfl) ?_
      rcases bif_some hs with ⟨p8, hs⟩ | ⟨p8, hs⟩
      ·skip
       refine pl_not (tg := 255) (by kernel_rfl) (congrArg Value.bool p8) ?_
       refine pl_yes (.bool true) (tg := 252) (by kernel_rfl) (congrArg Value.bool d1) (y_pick_t (congrArg Value.bool p8) rfl) ?_
       refine pl_val (.bool true) (y_pick_t (congrArg Value.bool d1) rfl) ?_
       refine pl_val (.bool true) (y_assign rfl) ?_
       refine c_nil ?_
       refine wp_ret ?_
       cases hs
       exact ⟨_, fr_ovl 259 ⟨rfl, trivial⟩, hC⟩
      refine pl_yes (.bool r90.1) (tg := 255) (by kernel_rfl) (congrArg Value.bool p8) (y_move rfl) ?_
      refine pl_yes (.bool r90.1) (tg := 252) (by kernel_rfl) (congrArg Value.bool d1) (y_pick_f (congrArg Value.bool p8) rfl) ?_
      refine pl_val (.bool r90.1) (y_pick_t (congrArg Value.bool d1) rfl) ?_
      refine pl_val (.bool r90.1) (y_assign rfl) ?_
      refine c_nil ?_
      refine wp_ret ?_
      cases hs
      exact ⟨_, fr_ovl 259 ⟨rfl, trivial⟩, hC⟩
     refine pl_not (tg := 252) (by kernel_rfl) (congrArg Value.bool d1) ?_
     refine pl_not (tg := 252) (by kernel_rfl) (congrArg Value.bool d1) ?_
     refine pl_not (tg := 252) (by kernel_rfl) (congrArg Value.bool d1) ?_
     refine pl_nou (tg := 255) (by kernel_rfl) rfl ?_
     refine pl_not (tg := 252) (by kernel_rfl) (congrArg Value.bool d1) ?_
     refine pl_val (.bool false) (y_pick_f (congrArg Value.bool d1) rfl) ?_
     refine pl_val (.bool false) (y_assign rfl) ?_
     refine c_nil ?_
     refine wp_ret ?_
     cases hs
     exact ⟨_, fr_ovl 259 ⟨rfl, trivial⟩, hC⟩
    refine pl_not (tg := 247) (by kernel_rfl) (congrArg Value.bool i3) ?_
    refine pl_not (tg := 247) (by kernel_rfl) (congrArg Value.bool i3) ?_
    refine pl_not (tg := 247) (by kernel_rfl) (congrArg Value.bool i3) ?_
    refine pl_val (.bool false) (y_pick_f (congrArg Value.bool i3) rfl) ?_
    refine pl_val (.bool false) (y_move rfl) ?_
    refine pl_not (tg := 252) (by kernel_rfl) (by rfl) ?_
    refine pl_not (tg := 252) (by kernel_rfl) (by rfl) ?_
    refine pl_not (tg := 252) (by kernel_rfl) (by rfl) ?_
    refine pl_nou (tg := 255) (by kernel_rfl) rfl ?_
    refine pl_not (tg := 252) (by kernel_rfl) (by rfl) ?_
    refine pl_val (.bool false) (y_pick_f (by rfl) rfl) ?_
    refine pl_val (.bool false) (y_assign rfl) ?_
    refine c_nil ?_
    refine wp_ret ?_
    cases hs
    exact ⟨_, fr_ovl 259 ⟨rfl, trivial⟩, hC⟩
  refine c_condF (congrArg Value.bool z2) ?_
  refine wp_skip ?_
  refine c_sr ?_
  refine pl_val (.int .i64 r85.1) (y_move rfl) ?_
  refine pl_val (.agg #[(.int .i64 r85.2.1), (.slice a6 a7 a8)]) (y_load rfl ((box_load Ag27 Sz27 a2 [] [(.int .i64 r85.2.1), (.slice a6 a7 a8)] [] rfl rfl (fun h => nomatch h)) _ (Chg.refl _ _))) ?_
  obtain ⟨r580, N5, hs⟩ := bind_some hs
  refine pl_call Bd13 rfl (c_impl_IsUnanimityOp (M := (Less M b8)) r85.1 (r85.2.1, r85.2.2) (((Frz.os Frz.int)).val a0 Less.sub Less.not) hO.less.fut N5) ?_
  rintro _ T7 ⟨rfl, u2⟩
  have a0 := a0.ext u2
  have a2 := a2.cn u2
  have hC := hC.ext u2
  have hO := hO.ext u2
  refine pl_val (.tuple #[(.bool r580.1), (.bool r580.2)]) (y_move rfl) ?_
  refine pl_val (.bool r580.1) (y_extract rfl (by kernel_rfl)) ?_
  refine pl_val (.bool r580.2) (y_extract rfl (by kernel_rfl)) ?_
  refine pl_val (.bool r580.1) (y_assign rfl) ?_
  refine pl_val (.bool r580.2) (y_assign rfl) ?_
  refine c_nil ?_
  refine c_seq ?_
  refine c_sr ?_
  refine pl_val (.int .i64 r85.1) (y_move rfl) ?_
  refine pl_val (.agg #[(.int .i64 r85.2.1), (.slice a6 a7 a8)]) (y_load rfl ((box_load Ag27 Sz27 a2 [] [(.int .i64 r85.2.1), (.slice a6 a7 a8)] [] rfl rfl (fun h => nomatch h)) _ (Chg.refl _ _))) ?_
  obtain ⟨r582, N6, hs⟩ := bind_some hs
  refine pl_call Bd17 rfl (c_spec_IsUnanimityOp (M := (Less M b8)) r85.1 (r85.2.1, r85.2.2) (((Frz.os Frz.int)).val a0 Less.sub Less.not) hO.less.fut N6) ?_
  rintro _ E6 ⟨rfl, u3⟩
  have a0 := a0.ext u3
  have a2 := a2.cn u3
  have hC := hC.ext u3
  have hO := hO.ext u3
  refine pl_val (.tuple #[(.bool r582.1), (.bool r582.2)]) (y_move rfl) ?_
  refine pl_val (.bool r582.1) (y_extract rfl (by kernel_rfl)) ?_
  refine pl_val (.bool r582.2) (y_extract rfl (by kernel_rfl)) ?_
  refine pl_val (.bool r582.1) (y_assign rfl) ?_
  refine pl_val (.bool r582.2) (y_assign rfl) ?_
  refine c_nil ?_
  refine c_seq ?_
  refine c_mid (I := fun a E7 => ∃ (σ : Nat → Value), a = fr 259 (ovl σ [(2, (.bool false)), (18, (.int .i64 r85.1)), (19, (.pointer (some ⟨b5, 0, none⟩))), (20, (.bool r90.1)), (231, (.bool ((!(r580.1 == r582.1)) || (!(r580.2 == r582.2)))))]) ∧ Chg [] E6 E7) ?_ ?_
  ·have hMid := Chg.refl [] E6
   refine c_region ?_
   refine pl_val (.bool r580.1) (y_move rfl) ?_
   refine pl_val (.bool r582.1) (y_move rfl) ?_
   refine pl_val (.bool (!(r580.1 == r582.1))) (y_bneq Try.underlying4 rfl rfl) ?_
   refine pl_val (.bool (!(r580.1 == r582.1))) (y_move rfl) ?_
   rcases Bool.eq_false_or_eq_true ((!(r580.1 == r582.1))) with d9 | d9
   ·skip
    refine pl_not (tg := 227) (by kernel_rfl) (congrArg Value.bool d9) ?_
    refine pl_not (tg := 227) (by kernel_rfl) (congrArg Value.bool d9) ?_
    refine pl_not (tg := 227) (by kernel_rfl) (congrArg Value.bool d9) ?_
    refine pl_val (.bool ((!(r580.1 == r582.1)) || (!(r580.2 == r582.2)))) (y_pick_t (congrArg Value.bool d9) (congrArg Value.bool (by rw [d9]; rfl))) ?_
    refine c_nil ?_
    exact ⟨_, fr_ovl 259 ⟨rfl, rfl, rfl, rfl, rfl, trivial⟩, hMid⟩
   refine pl_yes (.bool r580.2) (tg := 227) (by kernel_rfl) (congrArg Value.bool d9) (y_move rfl) ?_
   refine pl_yes (.bool r582.2) (tg := 227) (by kernel_rfl) (congrArg Value.bool d9) (y_move rfl) ?_
   refine pl_yes (.bool (!(r580.2 == r582.2))) (tg := 227) (by kernel_rfl) (congrArg Value.bool d9) (y_bneq Try.underlying4 rfl rfl) ?_
   refine pl_val (.bool ((!(r580.1 == r582.1)) || (!(r580.2 == r582.2)))) (y_pick_f (congrArg Value.bool d9) (congrArg Value.bool (by rw [d9]; rfl))) ?_
   refine c_nil ?_
   exact ⟨_, fr_ovl 259 ⟨rfl, rfl, rfl, rfl, rfl, trivial⟩, hMid⟩
  rintro c2 E7 ⟨σ, rfl, u4⟩
  have a0 := a0.ext u4
  have a2 := a2.cn u4
  have hC := hC.ext u4
  have hO := hO.ext u4
  rcases bif_some hs with ⟨A1, hs⟩ | ⟨A1, hs⟩
  ·refine c_condT (congrArg Value.bool A1) ?_
   refine c_sr ?_
   refine pl_val (.bool false) (y_assign rfl) ?_
   refine c_nil ?_
   refine wp_ret ?_
   cases hs
   exact ⟨_, fr_ovl 259 ⟨rfl, trivial⟩, hC⟩
  refine c_condF (congrArg Value.bool A1) ?_
  refine wp_skip ?_
  refine c_sr ?_
  refine pl_val (.int .i64 r85.1) (y_move rfl) ?_
  refine pl_val (.agg #[(.int .i64 r85.2.1), (.slice a6 a7 a8)]) (y_load rfl ((box_load Ag27 Sz27 a2 [] [(.int .i64 r85.2.1), (.slice a6 a7 a8)] [] rfl rfl (fun h => nomatch h)) _ (Chg.refl _ _))) ?_
  obtain ⟨r589, N7, hs⟩ := bind_some hs
  refine pl_call Bd14 rfl (c_impl_IsDiscriminatorOp (M := (Less M b8)) r85.1 (r85.2.1, r85.2.2) (((Frz.os Frz.int)).val a0 Less.sub Less.not) hO.less.fut N7) ?_
  rintro _ T8 ⟨rfl, u5⟩
  have a0 := a0.ext u5
  have a2 := a2.cn u5
  have hC := hC.ext u5
  have hO := hO.ext u5
  refine pl_val (.tuple #[(.bool r589.1), (.bool r589.2)]) (y_move rfl) ?_
  refine pl_val (.bool r589.1) (y_extract rfl (by kernel_rfl)) ?_
  refine pl_val (.bool r589.2) (y_extract rfl (by kernel_rfl)) ?_
  refine pl_val (.bool r589.1) (y_assign rfl) ?_
  refine pl_val (.bool r589.2) (y_assign rfl) ?_
  refine c_nil ?_
  refine c_sr ?_
  refine pl_val (.int .i64 r85.1) (y_move rfl) ?_
  refine pl_val (.agg #[(.int .i64 r85.2.1), (.slice a6 a7 a8)]) (y_load rfl ((box_load Ag27 Sz27 a2 [] [(.int .i64 r85.2.1), (.slice a6 a7 a8)] [] rfl rfl (fun h => nomatch h)) _ (Chg.refl _ _))) ?_
  obtain ⟨r591, N8, hs⟩ := bind_some hs
  refine pl_call Bd18 rfl (c_spec_IsDiscriminatorOp (M := (Less M b8)) r85.1 (r85.2.1, r85.2.2) (((Frz.os Frz.int)).val a0 Less.sub Less.not) hO.less.fut N8) ?_
  rintro _ T9 ⟨rfl, u6⟩
  have a0 := a0.ext u6
  have a2 := a2.cn u6
  have hC := hC.ext u6
  have hO := hO.ext u6
  refine pl_val (.tuple #[(.bool r591.1), (.bool r591.2)]) (y_move rfl) ?_
  refine pl_val (.bool r591.1) (y_extract rfl (by kernel_rfl)) ?_
  refine pl_val (.bool r591.2) (y_extract rfl (by kernel_rfl)) ?_
  refine pl_val (.bool r591.1) (y_assign rfl) ?_
  refine pl_val (.bool r591.2) (y_assign rfl) ?_
  refine c_nil ?_
  have hO := hO.drop
  have hO := hO.drop
  refine c_sr ?_
  refine pl_val (.bool r589.1) (y_move rfl) ?_
  refine pl_val (.bool r591.1) (y_move rfl) ?_
  refine pl_val (.bool (r589.1 == r591.1)) (y_beql Try.underlying4 rfl rfl) ?_
  refine pl_val (.bool (r589.1 == r591.1)) (y_move rfl) ?_
  rcases bif_some hs with ⟨i4, hs⟩ | ⟨i4, hs⟩
  ·skip
   refine pl_yes (.bool r589.2) (tg := 247) (by kernel_rfl) (congrArg Value.bool i4) (y_move rfl) ?_
   refine pl_yes (.bool r591.2) (tg := 247) (by kernel_rfl) (congrArg Value.bool i4) (y_move rfl) ?_
   refine pl_yes (.bool (r589.2 == r591.2)) (tg := 247) (by kernel_rfl) (congrArg Value.bool i4) (y_beql Try.underlying4 rfl rfl) ?_
   refine pl_val (.bool (r589.2 == r591.2)) (y_pick_t (congrArg Value.bool i4) rfl) ?_
   refine pl_val (.bool (r589.2 == r591.2)) (y_move rfl) ?_
   rcases bif_some hs with ⟨d2, hs⟩ | ⟨d2, hs⟩
   ·skip
    refine pl_yes (.bool r589.1) (tg := 252) (by kernel_rfl) (congrArg Value.bool d2) (y_move rfl) ?_
    refine pl_yes (.bool (!r589.1)) (tg := 252) (by kernel_rfl) (congrArg Value.bool d2) (y_not rfl) ?_
    refine pl_yes (.bool (!r589.1)) (tg := 252) (by kernel_rfl) (congrArg Value.bool d2) (y_move rfl) ?_
    rcases bif_some hs with ⟨p9, hs⟩ | ⟨p9, hs⟩
    ·skip
     refine pl_not (tg := 255) (by kernel_rfl) (congrArg Value.bool p9) ?_
     refine pl_yes (.bool true) (tg := 252) (by kernel_rfl) (congrArg Value.bool d2) (y_pick_t (congrArg Value.bool p9) rfl) ?_
     refine pl_val (.bool true) (y_pick_t (congrArg Value.bool d2) rfl) ?_
     refine pl_val (.bool true) (y_assign rfl) ?_
     refine c_nil ?_
     refine wp_ret ?_
     cases hs
     exact ⟨_, fr_ovl 259 ⟨rfl, trivial⟩, hC⟩
    refine pl_yes (.bool r90.1) (tg := 255) (by kernel_rfl) (congrArg Value.bool p9) (y_move rfl) ?_
    refine pl_yes (.bool r90.1) (tg := 252) (by kernel_rfl) (congrArg Value.bool d2) (y_pick_f (congrArg Value.bool p9) rfl) ?_
    refine pl_val (.bool r90.1) (y_pick_t (congrArg Value.bool d2) rfl) ?_
    refine pl_val (.bool r90.1) (y_assign rfl) ?_
    refine c_nil ?_
    refine wp_ret ?_
    cases hs
    exact ⟨_, fr_ovl 259 ⟨rfl, trivial⟩, hC⟩
   refine pl_not (tg := 252) (by kernel_rfl) (congrArg Value.bool d2) ?_
   refine pl_not (tg := 252) (by kernel_rfl) (congrArg Value.bool d2) ?_
   refine pl_not (tg := 252) (by kernel_rfl) (congrArg Value.bool d2) ?_
   refine pl_nou (tg := 255) (by kernel_rfl) rfl ?_
   refine pl_not (tg := 252) (by kernel_rfl) (congrArg Value.bool d2) ?_
   refine pl_val (.bool false) (y_pick_f (congrArg Value.bool d2) rfl) ?_
   refine pl_val (.bool false) (y_assign rfl) ?_
   refine c_nil ?_
   refine wp_ret ?_
   cases hs
   exact ⟨_, fr_ovl 259 ⟨rfl, trivial⟩, hC⟩
  refine pl_not (tg := 247) (by kernel_rfl) (congrArg Value.bool i4) ?_
  refine pl_not (tg := 247) (by kernel_rfl) (congrArg Value.bool i4) ?_
  refine pl_not (tg := 247) (by kernel_rfl) (congrArg Value.bool i4) ?_
  refine pl_val (.bool false) (y_pick_f (congrArg Value.bool i4) rfl) ?_
  refine pl_val (.bool false) (y_move rfl) ?_
  refine pl_not (tg := 252) (by kernel_rfl) (by rfl) ?_
  refine pl_not (tg := 252) (by kernel_rfl) (by rfl) ?_
  refine pl_not (tg := 252) (by kernel_rfl) (by rfl) ?_
  refine pl_nou (tg := 255) (by kernel_rfl) rfl ?_
  refine pl_not (tg := 252) (by kernel_rfl) (by rfl) ?_
  refine pl_val (.bool false) (y_pick_f (by rfl) rfl) ?_
  refine pl_val (.bool false) (y_assign rfl) ?_
  refine c_nil ?_
  refine wp_ret ?_
  cases hs
  exact ⟨_, fr_ovl 259 ⟨rfl, trivial⟩, hC⟩
 refine c_condF (congrArg Value.bool y6) ?_
 refine wp_skip ?_
 refine c_sr ?_
 refine pl_val (.slice pa0 pn0 pc0) (y_move rfl) ?_
 obtain ⟨r596, N9, hs⟩ := bind_some hs
 refine pl_call Bd15 rfl (c_spec_DrawIsPixleyOp (M := M) code h0 hO.fut N9) ?_
 rintro _ O0 ⟨a9, b0, b1, c0, rfl, l8, a1, O1⟩
 have h0 := h0.ext l8
 have a4 := a4.ext l8
 have a5 := a5.cn l8
 have b4 := b4.ext l8
 have b7 := b7.cn l8
 have hC := hC.ext l8
 have hO := Own.join0 hO l8 O1
 have hO := hO.perm (R := c0 ++ (([o9]) ++ (o8 ++ (([j0]) ++ (i9 ++ ([])))))) (by simp)
 refine pl_val (.tuple #[(.int .i64 r596.1), (.agg #[(.int .i64 r596.2.1), (.slice a9 b0 b1)])]) (y_move rfl) ?_
 refine pl_val (.int .i64 r596.1) (y_extract rfl (by kernel_rfl)) ?_
 refine pl_val (.agg #[(.int .i64 r596.2.1), (.slice a9 b0 b1)]) (y_extract rfl (by kernel_rfl)) ?_
 obtain ⟨O2, b6, O3, E8, k4, E9⟩ := new_block O0 [(.int .i64 0), (.slice none 0 0)] 27
 refine pl_val (w' := O2) (.pointer (some ⟨b6, 0, none⟩)) (y_alloc (by rw [O3, E8]; kernel_rfl)) ?_
 have h0 := h0.ext k4
 have a4 := a4.ext k4
 have a5 := a5.cn k4
 have b4 := b4.ext k4
 have b7 := b7.cn k4
 have a1 := a1.ext k4
 have hC := hC.ext k4
 have hO := hO.new1 k4 E8 E9.lt
 refine pl_val (.int .i64 r596.1) (y_assign rfl) ?_
 obtain ⟨F0, O4, k5, a3⟩ := box_store (P := Try.prog) E9 [] [(.int .i64 0), (.slice none 0 0)] [] [(.int .i64 r596.2.1), (.slice a9 b0 b1)] rfl rfl (by intro u hu; simp only [List.mem_cons, List.not_mem_nil, or_false] at hu; rcases hu with rfl | rfl <;> rfl)
 refine pl_skip (w' := F0) (ys_store rfl rfl (O4 _ _ rfl Sz27)) ?_
 have h0 := h0.mt k5 hO same_
 have a4 := a4.ma k5 hO same_ (fun _ e => (mem_r (mem_r (mem_r (mem_r (mem_l (e)))))))
 have a5 := a5.ap k5 hO same_ (mem_r (mem_r (mem_r (mem_l (List.mem_singleton.2 rfl)))))
 have b4 := b4.ma k5 hO same_ (fun _ e => (mem_r (mem_r (mem_l (e)))))
 have b7 := b7.ap k5 hO same_ (mem_r (mem_l (List.mem_singleton.2 rfl)))
 have a1 := a1.ma k5 hO same_ (fun _ e => (mem_l (e)))
 have hC := hC.st k5 hO same_
 have hO := hO.ext k5
 have a3 : BoxV F0 b6 27 [(.int .i64 r596.2.1), (.slice a9 b0 b1)] := a3
 refine c_nil ?_
 have hO := hO.fr2
 have hO := hO.drop
 have hO := hO.fr2
 have hO := hO.drop
 have hO := hO.fr2
 have hO := hO.drop
 have hO := hO.fr2
 have hO := hO.drop
 refine c_sr ?_
 refine pl_val (.int .i64 r596.1) (y_move rfl) ?_
 refine pl_val (.agg #[(.int .i64 r596.2.1), (.slice a9 b0 b1)]) (y_load rfl ((box_load Ag27 Sz27 a3 [] [(.int .i64 r596.2.1), (.slice a9 b0 b1)] [] rfl rfl (fun h => nomatch h)) _ (Chg.refl _ _))) ?_
 have hO := hO.fr1
 obtain ⟨r601, O5, hs⟩ := bind_some hs
 refine pl_call Bd12 rfl (c_impl_IsPixleyOp (M := (Less M c0)) r596.1 (r596.2.1, r596.2.2) (((Frz.os Frz.int)).val a1 Less.sub Less.not) hO.less.fut O5) ?_
 rintro _ U0 ⟨rfl, u7⟩
 have a1 := a1.ext u7
 have a3 := a3.cn u7
 have hC := hC.ext u7
 have hO := hO.ext u7
 refine pl_val (.tuple #[(.bool r601.1), (.bool r601.2)]) (y_move rfl) ?_
 refine pl_val (.bool r601.1) (y_extract rfl (by kernel_rfl)) ?_
 refine pl_val (.bool r601.2) (y_extract rfl (by kernel_rfl)) ?_
 refine pl_val (.bool r601.1) (y_assign rfl) ?_
 refine pl_val (.bool r601.2) (y_assign rfl) ?_
 refine c_nil ?_
 refine c_seq ?_
 refine c_sr ?_
 refine pl_val (.int .i64 r596.1) (y_move rfl) ?_
 refine pl_val (.agg #[(.int .i64 r596.2.1), (.slice a9 b0 b1)]) (y_load rfl ((box_load Ag27 Sz27 a3 [] [(.int .i64 r596.2.1), (.slice a9 b0 b1)] [] rfl rfl (fun h => nomatch h)) _ (Chg.refl _ _))) ?_
 obtain ⟨r603, O6, hs⟩ := bind_some hs
 refine pl_call Bd16 rfl (c_spec_IsPixleyOp (M := (Less M c0)) r596.1 (r596.2.1, r596.2.2) (((Frz.os Frz.int)).val a1 Less.sub Less.not) hO.less.fut O6) ?_
 rintro _ F1 ⟨rfl, u9⟩
 have a1 := a1.ext u9
 have a3 := a3.cn u9
 have hC := hC.ext u9
 have hO := hO.ext u9
 refine pl_val (.tuple #[(.bool r603.1), (.bool r603.2)]) (y_move rfl) ?_
 refine pl_val (.bool r603.1) (y_extract rfl (by kernel_rfl)) ?_
 refine pl_val (.bool r603.2) (y_extract rfl (by kernel_rfl)) ?_
 refine pl_val (.bool r603.1) (y_assign rfl) ?_
 refine pl_val (.bool r603.2) (y_assign rfl) ?_
 refine c_nil ?_
 refine c_seq ?_
 refine c_mid (I := fun a A2 => ∃ (σ : Nat → Value), a = fr 259 (ovl σ [(2, (.bool false)), (18, (.int .i64 r596.1)), (19, (.pointer (some ⟨b6, 0, none⟩))), (20, (.bool r601.1)), (151, (.bool ((!(r601.1 == r603.1)) || (!(r601.2 == r603.2)))))]) ∧ Chg [] F1 A2) ?_ ?_
 ·have hMid := Chg.refl [] F1
  refine c_region ?_
  refine pl_val (.bool r601.1) (y_move rfl) ?_
  refine pl_val (.bool r603.1) (y_move rfl) ?_
  refine pl_val (.bool (!(r601.1 == r603.1))) (y_bneq Try.underlying4 rfl rfl) ?_
  refine pl_val (.bool (!(r601.1 == r603.1))) (y_move rfl) ?_
  rcases Bool.eq_false_or_eq_true ((!(r601.1 == r603.1))) with e0 | e0
  ·skip
   refine pl_not (tg := 147) (by kernel_rfl) (congrArg Value.bool e0) ?_
   refine pl_not (tg := 147) (by kernel_rfl) (congrArg Value.bool e0) ?_
   refine pl_not (tg := 147) (by kernel_rfl) (congrArg Value.bool e0) ?_
   refine pl_val (.bool ((!(r601.1 == r603.1)) || (!(r601.2 == r603.2)))) (y_pick_t (congrArg Value.bool e0) (congrArg Value.bool (by rw [e0]; rfl))) ?_
   refine c_nil ?_
   exact ⟨_, fr_ovl 259 ⟨rfl, rfl, rfl, rfl, rfl, trivial⟩, hMid⟩
  refine pl_yes (.bool r601.2) (tg := 147) (by kernel_rfl) (congrArg Value.bool e0) (y_move rfl) ?_
  refine pl_yes (.bool r603.2) (tg := 147) (by kernel_rfl) (congrArg Value.bool e0) (y_move rfl) ?_
  refine pl_yes (.bool (!(r601.2 == r603.2))) (tg := 147) (by kernel_rfl) (congrArg Value.bool e0) (y_bneq Try.underlying4 rfl rfl) ?_
  refine pl_val (.bool ((!(r601.1 == r603.1)) || (!(r601.2 == r603.2)))) (y_pick_f (congrArg Value.bool e0) (congrArg Value.bool (by rw [e0]; rfl))) ?_
  refine c_nil ?_
  exact ⟨_, fr_ovl 259 ⟨rfl, rfl, rfl, rfl, rfl, trivial⟩, hMid⟩
 rintro c2 A2 ⟨σ, rfl, v0⟩
 have a1 := a1.ext v0
 have a3 := a3.cn v0
 have hC := hC.ext v0
 have hO := hO.ext v0
 rcases bif_some hs with ⟨A3, hs⟩ | ⟨A3, hs⟩
 ·refine c_condT (congrArg Value.bool A3) ?_
  refine c_sr ?_
  refine pl_val (.bool false) (y_assign rfl) ?_
  refine c_nil ?_
  refine wp_ret ?_
  cases hs
  exact ⟨_, fr_ovl 259 ⟨rfl, trivial⟩, hC⟩
 refine c_condF (congrArg Value.bool A3) ?_
 refine wp_skip ?_
 refine c_seq ?_
 refine c_sr ?_
 refine pl_val (.bool r601.1) (y_move rfl) ?_
 refine c_nil ?_
 rcases bif_some hs with ⟨A4, hs⟩ | ⟨A4, hs⟩
 ·refine c_condT (congrArg Value.bool A4) ?_
  refine c_sr ?_
  refine pl_val (.agg #[(.int .i64 3), (.slice none 0 0)]) (y_build rfl (by kernel_rfl)) ?_
  obtain ⟨O7, c1, O8, F2, v1, F3⟩ := new_block A2 [(.int .i64 0), (.slice none 0 0)] 27
  refine pl_val (w' := O7) (.pointer (some ⟨c1, 0, none⟩)) (y_alloc (by rw [O8, F2]; kernel_rfl)) ?_
  have a1 := a1.ext v1
  have a3 := a3.cn v1
  have hC := hC.ext v1
  have hO := hO.new1 v1 F2 F3.lt
  obtain ⟨F4, O9, v2, b3⟩ := box_store (P := Try.prog) F3 [] [(.int .i64 0), (.slice none 0 0)] [] [(.int .i64 3), (.slice none 0 0)] rfl rfl (by intro u hu; simp only [List.mem_cons, List.not_mem_nil, or_false] at hu; rcases hu with rfl | rfl <;> rfl)
  refine pl_skip (w' := F4) (ys_store rfl rfl (O9 _ _ rfl Sz27)) ?_
  have a1 := a1.ma v2 hO same_ (fun _ e => (mem_l (e)))
  have a3 := a3.ap v2 hO same_ (mem_r (mem_l (List.mem_singleton.2 rfl)))
  have hC := hC.st v2 hO same_
  have hO := hO.ext v2
  have b3 : BoxV F4 c1 27 [(.int .i64 3), (.slice none 0 0)] := b3
  refine c_nil ?_
  refine c_seq ?_
  refine c_sr ?_
  refine pl_val (.int .i64 0) (y_assign rfl) ?_
  refine c_nil ?_
  obtain ⟨o914, P0, hs⟩ := bind_some hs
  refine wp_block ?_
  refine wp_forC (id := 0) r596.1 (I := fun k912 s910 a c7 => ∃ (σ : Nat → Value) (n8 : Option Addr) (n9 : Nat) (o0 : Nat) (o1 : List Nat), a = fr 259 (ovl σ [(18, (.int .i64 r596.1)), (19, (.pointer (some ⟨b6, 0, none⟩))), (20, (.bool r601.1)), (24, (.pointer (some ⟨c1, 0, none⟩))), (25, (.int .i64 k912))]) ∧ Chg [] w c7 ∧ Own (Nw w []) M c7 (o1 ++ (([c1]) ++ (c0 ++ (([b6]) ++ [])))) ∧ (RT.os 3 (RT.int .i64)).val M c7 (.slice a9 b0 b1) r596.2.2 c0 ∧ BoxV c7 b6 27 [(.int .i64 r596.2.1), (.slice a9 b0 b1)] ∧ BoxV c7 c1 27 [(.int .i64 3), (.slice n8 n9 o0)] ∧ (RT.os 3 (RT.int .i64)).val M c7 (.slice n8 n9 o0) s910 o1) (J := fun s910 a c7 => ∃ (σ : Nat → Value) (q0 : Option Addr) (q1 : Nat) (q2 : Nat) (v3 : List Nat), a = fr 259 (ovl σ [(18, (.int .i64 r596.1)), (19, (.pointer (some ⟨b6, 0, none⟩))), (20, (.bool r601.1)), (24, (.pointer (some ⟨c1, 0, none⟩)))]) ∧ Chg [] w c7 ∧ Own (Nw w []) M c7 (v3 ++ (([c1]) ++ (c0 ++ (([b6]) ++ [])))) ∧ (RT.os 3 (RT.int .i64)).val M c7 (.slice a9 b0 b1) r596.2.2 c0 ∧ BoxV c7 b6 27 [(.int .i64 r596.2.1), (.slice a9 b0 b1)] ∧ BoxV c7 c1 27 [(.int .i64 3), (.slice q0 q1 q2)] ∧ (RT.os 3 (RT.int .i64)).val M c7 (.slice q0 q1 q2) s910 v3) (K := (k_laws_FnDiscriminators M w)) ?_ ?_ 0 ([]) o914 _ _ ?_ P0 ?_
  ·rintro k912 s910 a c7 ⟨σ, n8, n9, o0, o1, rfl, hC, hO, a1, a3, b3, A5⟩ hlt
   refine c_seq ?_
   refine c_sr ?_
   refine pl_val (.int .i64 k912) (y_move rfl) ?_
   refine pl_val (.int .i64 r596.1) (y_move rfl) ?_
   refine pl_val (.bool (decide (k912 < r596.1))) (y_lss rfl rfl) ?_
   refine c_nil ?_
   refine c_condF (congrArg Value.bool (decide_eq_false hlt)) ?_
   refine wp_exit ?_
   have hO := hO.fr3
   have hO := hO.fr3
   have hO := hO.fr3
   have hO := hO.fr3
   exact ⟨rfl, _, n8, n9, o0, o1, fr_ovl 259 ⟨rfl, rfl, rfl, rfl, trivial⟩, hC, hO, a1, a3, b3, A5⟩
  ·rintro k912 s910 o914 a c7 ⟨σ, n8, n9, o0, o1, rfl, hC, hO, a1, a3, b3, A5⟩ hlt hw hs
   refine c_seq ?_
   refine c_sr ?_
   refine pl_val (.int .i64 k912) (y_move rfl) ?_
   refine pl_val (.int .i64 r596.1) (y_move rfl) ?_
   refine pl_val (.bool (decide (k912 < r596.1))) (y_lss rfl rfl) ?_
   refine c_nil ?_
   refine c_condT (congrArg Value.bool (decide_eq_true hlt)) ?_
   refine wp_skip ?_
   refine c_seq ?_
   refine wp_block ?_
   refine c_sr ?_
   refine pl_val (.int .i64 0) (y_assign rfl) ?_
   refine c_nil ?_
   obtain ⟨o1016, P1, hs⟩ := bind_some hs
   refine wp_block ?_
   refine wp_forC (id := 2) r596.1 (I := fun k1014 s1012 a c8 => ∃ (σ : Nat → Value) (o2 : Option Addr) (o3 : Nat) (o4 : Nat) (o5 : List Nat), a = fr 259 (ovl σ [(18, (.int .i64 r596.1)), (19, (.pointer (some ⟨b6, 0, none⟩))), (20, (.bool r601.1)), (24, (.pointer (some ⟨c1, 0, none⟩))), (25, (.int .i64 k912)), (26, (.int .i64 k1014))]) ∧ Chg [] w c8 ∧ Own (Nw w []) M c8 (o5 ++ (([c1]) ++ (c0 ++ (([b6]) ++ [])))) ∧ (RT.os 3 (RT.int .i64)).val M c8 (.slice a9 b0 b1) r596.2.2 c0 ∧ BoxV c8 b6 27 [(.int .i64 r596.2.1), (.slice a9 b0 b1)] ∧ BoxV c8 c1 27 [(.int .i64 3), (.slice o2 o3 o4)] ∧ (RT.os 3 (RT.int .i64)).val M c8 (.slice o2 o3 o4) s1012 o5) (J := fun s1012 a c8 => ∃ (σ : Nat → Value) (v4 : Option Addr) (v5 : Nat) (v6 : Nat) (v7 : List Nat), a = fr 259 (ovl σ [(18, (.int .i64 r596.1)), (19, (.pointer (some ⟨b6, 0, none⟩))), (20, (.bool r601.1)), (24, (.pointer (some ⟨c1, 0, none⟩))), (25, (.int .i64 k912))]) ∧ Chg [] w c8 ∧ Own (Nw w []) M c8 (v7 ++ (([c1]) ++ (c0 ++ (([b6]) ++ [])))) ∧ (RT.os 3 (RT.int .i64)).val M c8 (.slice a9 b0 b1) r596.2.2 c0 ∧ BoxV c8 b6 27 [(.int .i64 r596.2.1), (.slice a9 b0 b1)] ∧ BoxV c8 c1 27 [(.int .i64 3), (.slice v4 v5 v6)] ∧ (RT.os 3 (RT.int .i64)).val M c8 (.slice v4 v5 v6) s1012 v7) (K := (k_laws_FnDiscriminators M w)) ?_ ?_ 0 s910 o1016 _ _ ?_ P1 ?_
   ·rintro k1014 s1012 a c8 ⟨σ, o2, o3, o4, o5, rfl, hC, hO, a1, a3, b3, A6⟩ hlt
    refine c_seq ?_
    refine c_sr ?_
    refine pl_val (.int .i64 k1014) (y_move rfl) ?_
    refine pl_val (.int .i64 r596.1) (y_move rfl) ?_
    refine pl_val (.bool (decide (k1014 < r596.1))) (y_lss rfl rfl) ?_
    refine c_nil ?_
    refine c_condF (congrArg Value.bool (decide_eq_false hlt)) ?_
    refine wp_exit ?_
    have hO := hO.fr3
    have hO := hO.fr3
    have hO := hO.fr3
    have hO := hO.fr3
    exact ⟨rfl, _, o2, o3, o4, o5, fr_ovl 259 ⟨rfl, rfl, rfl, rfl, rfl, trivial⟩, hC, hO, a1, a3, b3, A6⟩
   ·rintro k1014 s1012 o1016 a c8 ⟨σ, o2, o3, o4, o5, rfl, hC, hO, a1, a3, b3, A6⟩ hlt hw hs
    refine c_seq ?_
    refine c_sr ?_
    refine pl_val (.int .i64 k1014) (y_move rfl) ?_
    refine pl_val (.int .i64 r596.1) (y_move rfl) ?_
    refine pl_val (.bool (decide (k1014 < r596.1))) (y_lss rfl rfl) ?_
    refine c_nil ?_
    refine c_condT (congrArg Value.bool (decide_eq_true hlt)) ?_
    refine wp_skip ?_
    refine c_seq ?_
    refine wp_block ?_
    refine c_sr ?_
    refine pl_val (.int .i64 0) (y_assign rfl) ?_
    refine c_nil ?_
    obtain ⟨o1050, P2, hs⟩ := bind_some hs
    refine wp_block ?_
    refine wp_forC (id := 4) r596.1 (I := fun k1048 s1046 a c4 => ∃ (σ : Nat → Value) (k6 : Option Addr) (k7 : Nat) (k8 : Nat) (q3 : List Nat), a = fr 259 (ovl σ [(18, (.int .i64 r596.1)), (19, (.pointer (some ⟨b6, 0, none⟩))), (20, (.bool r601.1)), (24, (.pointer (some ⟨c1, 0, none⟩))), (25, (.int .i64 k912)), (26, (.int .i64 k1014)), (27, (.int .i64 k1048))]) ∧ Chg [] w c4 ∧ Own (Nw w []) M c4 (q3 ++ (([c1]) ++ (c0 ++ (([b6]) ++ [])))) ∧ (RT.os 3 (RT.int .i64)).val M c4 (.slice a9 b0 b1) r596.2.2 c0 ∧ BoxV c4 b6 27 [(.int .i64 r596.2.1), (.slice a9 b0 b1)] ∧ BoxV c4 c1 27 [(.int .i64 3), (.slice k6 k7 k8)] ∧ (RT.os 3 (RT.int .i64)).val M c4 (.slice k6 k7 k8) s1046 q3) (J := fun s1046 a c4 => ∃ (σ : Nat → Value) (v8 : Option Addr) (v9 : Nat) (w1 : Nat) (w2 : List Nat), a = fr 259 (ovl σ [(18, (.int .i64 r596.1)), (19, (.pointer (some ⟨b6, 0, none⟩))), (20, (.bool r601.1)), (24, (.pointer (some ⟨c1, 0, none⟩))), (25, (.int .i64 k912)), (26, (.int .i64 k1014))]) ∧ Chg [] w c4 ∧ Own (Nw w []) M c4 (w2 ++ (([c1]) ++ (c0 ++ (([b6]) ++ [])))) ∧ (RT.os 3 (RT.int .i64)).val M c4 (.slice a9 b0 b1) r596.2.2 c0 ∧ BoxV c4 b6 27 [(.int .i64 r596.2.1), (.slice a9 b0 b1)] ∧ BoxV c4 c1 27 [(.int .i64 3), (.slice v8 v9 w1)] ∧ (RT.os 3 (RT.int .i64)).val M c4 (.slice v8 v9 w1) s1046 w2) (K := (k_laws_FnDiscriminators M w)) ?_ ?_ 0 s1012 o1050 _ _ ?_ P2 ?_
    ·rintro k1048 s1046 a c4 ⟨σ, k6, k7, k8, q3, rfl, hC, hO, a1, a3, b3, k9⟩ hlt
     refine c_seq ?_
     refine c_sr ?_
     refine pl_val (.int .i64 k1048) (y_move rfl) ?_
     refine pl_val (.int .i64 r596.1) (y_move rfl) ?_
     refine pl_val (.bool (decide (k1048 < r596.1))) (y_lss rfl rfl) ?_
     refine c_nil ?_
     refine c_condF (congrArg Value.bool (decide_eq_false hlt)) ?_
     refine wp_exit ?_
     have hO := hO.fr3
     have hO := hO.fr3
     have hO := hO.fr3
     have hO := hO.fr3
     exact ⟨rfl, _, k6, k7, k8, q3, fr_ovl 259 ⟨rfl, rfl, rfl, rfl, rfl, rfl, trivial⟩, hC, hO, a1, a3, b3, k9⟩
    ·rintro k1048 s1046 o1050 a c4 ⟨σ, k6, k7, k8, q3, rfl, hC, hO, a1, a3, b3, k9⟩ hlt hw hs
     refine c_seq ?_
     refine c_sr ?_
     refine pl_val (.int .i64 k1048) (y_move rfl) ?_
     refine pl_val (.int .i64 r596.1) (y_move rfl) ?_
     refine pl_val (.bool (decide (k1048 < r596.1))) (y_lss rfl rfl) ?_
     refine c_nil ?_
     refine c_condT (congrArg Value.bool (decide_eq_true hlt)) ?_
     refine wp_skip ?_
     refine c_seq ?_
     refine wp_block ?_
     refine c_sr ?_
     refine pl_val (.pointer (some ⟨b6, 1, none⟩)) (y_faddr rfl Fa27x1) ?_
     refine pl_val (.slice a9 b0 b1) (y_load rfl ((box_load Ag25 Sz25 a3 [(.int .i64 r596.2.1)] [(.slice a9 b0 b1)] [] rfl rfl (fun _ => rfl)) _ (Chg.refl _ _))) ?_
     refine pl_val (.int .i64 k912) (y_move rfl) ?_
     refine pl_val (.int .i64 r596.1) (y_move rfl) ?_
     refine pl_val (.int .i64 (w64 (k912 * r596.1))) (y_mul rfl rfl) ?_
     refine pl_val (.int .i64 k1014) (y_move rfl) ?_
     refine pl_val (.int .i64 (w64 ((w64 (k912 * r596.1)) + k1014))) (y_add rfl rfl) ?_
     refine pl_val (.int .i64 r596.1) (y_move rfl) ?_
     refine pl_val (.int .i64 (w64 ((w64 ((w64 (k912 * r596.1)) + k1014)) * r596.1))) (y_mul rfl rfl) ?_
     refine pl_val (.int .i64 k1048) (y_move rfl) ?_
     refine pl_val (.int .i64 (w64 ((w64 ((w64 ((w64 (k912 * r596.1)) + k1014)) * r596.1)) + k1048))) (y_add rfl rfl) ?_
     obtain ⟨x1056, P3, hs⟩ := bind_some hs
     obtain ⟨P4, U1, U2, U3, P5, P6, U4⟩ := os_idx Sl25 Sz3 a1 P3
     refine pl_val (.pointer (some ⟨P4, 0 + Int.toNat (w64 ((w64 ((w64 ((w64 (k912 * r596.1)) + k1014)) * r596.1)) + k1048)) * 1, none⟩)) (P5 _ _ _ _ _ _ _ _ _ rfl rfl) ?_
     refine pl_val (.int .i64 x1056) (y_load rfl ((at_load_int Ag3 Sz3 P6) _ (Chg.refl _ _))) ?_
     refine pl_val (.int .i64 x1056) (y_assign rfl) ?_
     refine c_nil ?_
     refine x_start [16, 18] Mx rfl ?_
     have l9 := Chg.drew c4
     generalize World.drew c4 = F5 at l9 ⊢
     have a1 := a1.ext l9
     have a3 := a3.cn l9
     have b3 := b3.cn l9
     have k9 := k9.ext l9
     have hC := hC.ext l9
     have hO := hO.ext l9
     have hS := Chg.refl [] F5
     refine x_p 0 (.pointer (some ⟨c1, 1, none⟩)) rfl (by kernel_rfl)  (fun _ => y_faddr rfl Fa27x1) (fun _ => hS) ?_
     refine x_l 1 (.slice k6 k7 k8) rfl (by kernel_rfl)  (fun w' hw' => y_load rfl ((box_load Ag25 Sz25 b3 [(.int .i64 3)] [(.slice k6 k7 k8)] [] rfl rfl (fun _ => rfl)) w' hw')) hS ?_
     refine x_p 2 (.pointer (some ⟨b6, 1, none⟩)) rfl (by kernel_rfl)  (fun _ => y_faddr rfl Fa27x1) (fun _ => hS) ?_
     refine x_l 3 (.slice a9 b0 b1) rfl (by kernel_rfl)  (fun w' hw' => y_load rfl ((box_load Ag25 Sz25 a3 [(.int .i64 r596.2.1)] [(.slice a9 b0 b1)] [] rfl rfl (fun _ => rfl)) w' hw')) hS ?_
     refine x_p 4 (.int .i64 k912) rfl (by kernel_rfl)  (fun _ => y_move rfl) (fun _ => hS) ?_
     refine x_p 5 (.int .i64 r596.1) rfl (by kernel_rfl)  (fun _ => y_move rfl) (fun _ => hS) ?_
     refine x_p 6 (.int .i64 (w64 (k912 * r596.1))) rfl (by kernel_rfl)  (fun _ => y_mul rfl rfl) (fun _ => hS) ?_
     refine x_p 7 (.int .i64 x1056) rfl (by kernel_rfl)  (fun _ => y_move rfl) (fun _ => hS) ?_
     refine x_p 8 (.int .i64 (w64 ((w64 (k912 * r596.1)) + x1056))) rfl (by kernel_rfl)  (fun _ => y_add rfl rfl) (fun _ => hS) ?_
     refine x_p 9 (.int .i64 r596.1) rfl (by kernel_rfl)  (fun _ => y_move rfl) (fun _ => hS) ?_
     refine x_p 10 (.int .i64 (w64 ((w64 ((w64 (k912 * r596.1)) + x1056)) * r596.1))) rfl (by kernel_rfl)  (fun _ => y_mul rfl rfl) (fun _ => hS) ?_
     refine x_p 11 (.int .i64 k1048) rfl (by kernel_rfl)  (fun _ => y_move rfl) (fun _ => hS) ?_
     refine x_p 12 (.int .i64 (w64 ((w64 ((w64 ((w64 (k912 * r596.1)) + x1056)) * r596.1)) + k1048))) rfl (by kernel_rfl)  (fun _ => y_add rfl rfl) (fun _ => hS) ?_
     obtain ⟨x1059, P7, hs⟩ := bind_some hs
     obtain ⟨P8, U5, U6, U7, P9, Q0, U8⟩ := os_idx Sl25 Sz3 a1 P7
     refine x_p 13 (.pointer (some ⟨P8, 0 + Int.toNat (w64 ((w64 ((w64 ((w64 (k912 * r596.1)) + x1056)) * r596.1)) + k1048)) * 1, none⟩)) rfl (by kernel_rfl)  (fun _ => P9 _ _ _ _ _ _ _ _ _ rfl rfl) (fun _ => hS) ?_
     refine x_l 14 (.int .i64 x1059) rfl (by kernel_rfl)  (fun w' hw' => y_load rfl ((at_load_int Ag3 Sz3 Q0) w' hw')) hS ?_
     refine x_one (i := 15) (by kernel_rfl) ?_
     obtain ⟨F6, A7, Q1, F7, l0, F8⟩ := new_block F5 [(.int .i64 x1059)] 3
     refine xk_val (w' := F6) (b := false) (.slice (some ⟨A7, 0, none⟩) 1 1) rfl  (y_bslice rfl (by rw [Q1, F7]; kernel_rfl)) rfl (fun _ => hS.ext l0) ?_
     have a1 := a1.ext l0
     have a3 := a3.cn l0
     have b3 := b3.cn l0
     have k9 := k9.ext l0
     have hC := hC.ext l0
     have hO := hO.new1 l0 F7 F8.lt
     have A8 := os_of_box (r := (RT.int .i64)) (M := M) (css := [[(.int .i64 x1059)]]) (fps := [([] : List Nat)]) (xs := ([x1059] : List Int)) F8 ⟨⟨rfl, rfl⟩, trivial⟩ (Nat.le_of_ble_eq_true rfl) (List.nodup_cons.2 ⟨(fun h => nomatch h), List.nodup_nil⟩)
     have A8 : (RT.os 3 (RT.int .i64)).val M F6 (.slice (some ⟨A7, 0, none⟩) 1 1) [x1059] [A7] := A8
     have hS := hS.ext l0
     refine x_one (i := 16) (by kernel_rfl) ?_
     obtain ⟨y1064, Q2, hs⟩ := bind_some hs
     have hO := hO.fr1
     obtain ⟨w3, w4, w5, Q3, Q4, Q5, q4, Q6, q5⟩ := app_os Rw25 Q2 k9 A8 hO.inM (fun g hg hq => hO.apart g hq (mem_l hg))
     have w6 := os_block k9
     refine xk_val (w' := Q3) (b := true) (.slice w3 w4 w5) rfl  (y_append rfl rfl (Q5 _)) rfl (fun h => nomatch h) ?_
     have hO := hO.fr1
     have hO := hO.fr1
     have a1 := a1.ma q4 hO w6 (fun _ e => (mem_r (mem_r (mem_l (e)))))
     have a3 := a3.ap q4 hO w6 (mem_r (mem_r (mem_r (mem_l (List.mem_singleton.2 rfl)))))
     have b3 := b3.ap q4 hO w6 (mem_r (mem_l (List.mem_singleton.2 rfl)))
     have hC := hC.st q4 hO w6
     have hO := hO.eat q4 Q6 (os_nodup q5) q5.fpl
     refine x_p 17 (.pointer (some ⟨c1, 1, none⟩)) rfl (by kernel_rfl)  (fun _ => y_faddr rfl Fa27x1) (fun h => nomatch h) ?_
     refine x_one (i := 18) (by kernel_rfl) ?_
     obtain ⟨F9, Q7, q6, A9⟩ := box_store (P := Try.prog) b3 [(.int .i64 3)] [(.slice k6 k7 k8)] [] [(.slice w3 w4 w5)] rfl rfl (by intro u hu; simp only [List.mem_cons, List.not_mem_nil, or_false] at hu; rcases hu with rfl <;> rfl)
     refine xk_skip (w' := F9) (b := true) rfl (ys_store rfl rfl (Q7 _ _ rfl Sz25)) rfl (fun h => nomatch h) ?_
     have hO := hO.fr1
     have a1 := a1.ma q6 hO same_ (fun _ e => (mem_r (mem_l (e))))
     have a3 := a3.ap q6 hO same_ (mem_r (mem_r (mem_l (List.mem_singleton.2 rfl))))
     have q5 := q5.ma q6 hO same_ (fun _ e => (mem_l (e)))
     have hC := hC.st q6 hO same_
     have hO := hO.ext q6
     have A9 : BoxV F9 c1 27 [(.int .i64 3), (.slice w3 w4 w5)] := A9
     refine x_end (by kernel_rfl) ?_
     clear hS
     refine c_region ?_
     refine pl_val (.int .i64 k1048) (y_move rfl) ?_
     refine pl_val (.int .i64 (w64 (k1048 + 1))) (y_add rfl rfl) ?_
     refine pl_val (.int .i64 (w64 (k1048 + 1))) (y_assign rfl) ?_
     refine c_nil ?_
     cases hs
     have hO := hO.fr3
     have hO := hO.fr3
     have hO := hO.fr2
     have hO := hO.fr3
     exact ⟨_, w3, w4, w5, Q4, fr_ovl 259 ⟨rfl, rfl, rfl, rfl, rfl, rfl, congrArg (Value.int .i64) hw, trivial⟩, hC, hO, a1, a3, A9, q5⟩
    ·skip
     have hO := hO.fr3
     have hO := hO.fr3
     have hO := hO.fr3
     have hO := hO.fr3
     exact ⟨_, o2, o3, o4, o5, fr_ovl 259 ⟨rfl, rfl, rfl, rfl, rfl, rfl, rfl, trivial⟩, hC, hO, a1, a3, b3, A6⟩
    cases o1050 with
    | nx _ => exact True.intro
    | rt r_ =>
     have hs := after_rt hs
     intro c2 m0 hK
     cases hs
     exact hK
    | br s1046 =>
     have hs := after_br hs
     rintro c2 c4 ⟨σ, v8, v9, w1, w2, rfl, hC, hO, a1, a3, b3, Q8⟩
     refine c_region ?_
     refine pl_val (.int .i64 k1014) (y_move rfl) ?_
     refine pl_val (.int .i64 (w64 (k1014 + 1))) (y_add rfl rfl) ?_
     refine pl_val (.int .i64 (w64 (k1014 + 1))) (y_assign rfl) ?_
     refine c_nil ?_
     cases hs
     have hO := hO.fr3
     have hO := hO.fr3
     have hO := hO.fr3
     have hO := hO.fr3
     exact ⟨_, v8, v9, w1, w2, fr_ovl 259 ⟨rfl, rfl, rfl, rfl, rfl, congrArg (Value.int .i64) hw, trivial⟩, hC, hO, a1, a3, b3, Q8⟩
   ·skip
    have hO := hO.fr3
    have hO := hO.fr3
    have hO := hO.fr3
    have hO := hO.fr3
    exact ⟨_, n8, n9, o0, o1, fr_ovl 259 ⟨rfl, rfl, rfl, rfl, rfl, rfl, trivial⟩, hC, hO, a1, a3, b3, A5⟩
   cases o1016 with
   | nx _ => exact True.intro
   | rt r_ =>
    have hs := after_rt hs
    intro c2 m0 hK
    cases hs
    exact hK
   | br s1012 =>
    have hs := after_br hs
    rintro c2 c8 ⟨σ, v4, v5, v6, v7, rfl, hC, hO, a1, a3, b3, Q9⟩
    refine c_region ?_
    refine pl_val (.int .i64 k912) (y_move rfl) ?_
    refine pl_val (.int .i64 (w64 (k912 + 1))) (y_add rfl rfl) ?_
    refine pl_val (.int .i64 (w64 (k912 + 1))) (y_assign rfl) ?_
    refine c_nil ?_
    cases hs
    have hO := hO.fr3
    have hO := hO.fr3
    have hO := hO.fr3
    have hO := hO.fr3
    exact ⟨_, v4, v5, v6, v7, fr_ovl 259 ⟨rfl, rfl, rfl, rfl, congrArg (Value.int .i64) hw, trivial⟩, hC, hO, a1, a3, b3, Q9⟩
  ·skip
   have hO := hO.fr2
   have hO := hO.fr2
   have hO := hO.fr2
   have hO := hO.nil
   exact ⟨_, none, 0, 0, [], fr_ovl 259 ⟨rfl, rfl, rfl, rfl, rfl, trivial⟩, hC, hO, a1, a3, b3, os_nil⟩
  cases o914 with
  | nx _ => exact True.intro
  | rt r_ =>
   have hs := after_rt hs
   intro c2 m0 hK
   cases hs
   exact hK
  | br s910 =>
   have hs := after_br hs
   rintro c2 c7 ⟨σ, q0, q1, q2, v3, rfl, hC, hO, a1, a3, b3, B0⟩
   refine c_sr ?_
   refine pl_val (.int .i64 r596.1) (y_move rfl) ?_
   refine pl_val (.agg #[(.int .i64 3), (.slice q0 q1 q2)]) (y_load rfl ((box_load Ag27 Sz27 b3 [] [(.int .i64 3), (.slice q0 q1 q2)] [] rfl rfl (fun h => nomatch h)) _ (Chg.refl _ _))) ?_
   obtain ⟨r1068, R0, hs⟩ := bind_some hs
   refine pl_call Bd13 rfl (c_impl_IsUnanimityOp (M := (Less M v3)) r596.1 (3, s910) (((Frz.os Frz.int)).val B0 Less.sub Less.not) hO.less.fut R0) ?_
   rintro _ G0 ⟨rfl, o6⟩
   have a1 := a1.ext o6
   have a3 := a3.cn o6
   have b3 := b3.cn o6
   have B0 := B0.ext o6
   have hC := hC.ext o6
   have hO := hO.ext o6
   refine pl_val (.tuple #[(.bool r1068.1), (.bool r1068.2)]) (y_move rfl) ?_
   refine pl_val (.bool r1068.1) (y_extract rfl (by kernel_rfl)) ?_
   refine pl_val (.bool r1068.2) (y_extract rfl (by kernel_rfl)) ?_
   refine pl_val (.bool r1068.1) (y_assign rfl) ?_
   refine pl_val (.bool r1068.2) (y_assign rfl) ?_
   refine c_nil ?_
   have hO := hO.drop
   have hO := hO.drop
   refine c_seq ?_
   refine c_mid (I := fun a G1 => ∃ (σ : Nat → Value), a = fr 259 (ovl σ [(18, (.int .i64 r596.1)), (19, (.pointer (some ⟨b6, 0, none⟩))), (20, (.bool r601.1)), (211, (.bool ((!r1068.2) || (!r1068.1))))]) ∧ Chg [] G0 G1) ?_ ?_
   ·have hMid := Chg.refl [] G0
    refine c_region ?_
    refine pl_val (.bool r1068.2) (y_move rfl) ?_
    refine pl_val (.bool (!r1068.2)) (y_not rfl) ?_
    refine pl_val (.bool (!r1068.2)) (y_move rfl) ?_
    rcases Bool.eq_false_or_eq_true ((!r1068.2)) with i5 | i5
    ·skip
     refine pl_not (tg := 208) (by kernel_rfl) (congrArg Value.bool i5) ?_
     refine pl_not (tg := 208) (by kernel_rfl) (congrArg Value.bool i5) ?_
     refine pl_val (.bool ((!r1068.2) || (!r1068.1))) (y_pick_t (congrArg Value.bool i5) (congrArg Value.bool (by rw [i5]; rfl))) ?_
     refine c_nil ?_
     exact ⟨_, fr_ovl 259 ⟨rfl, rfl, rfl, rfl, trivial⟩, hMid⟩
    refine pl_yes (.bool r1068.1) (tg := 208) (by kernel_rfl) (congrArg Value.bool i5) (y_move rfl) ?_
    refine pl_yes (.bool (!r1068.1)) (tg := 208) (by kernel_rfl) (congrArg Value.bool i5) (y_not rfl) ?_
    refine pl_val (.bool ((!r1068.2) || (!r1068.1))) (y_pick_f (congrArg Value.bool i5) (congrArg Value.bool (by rw [i5]; rfl))) ?_
    refine c_nil ?_
    exact ⟨_, fr_ovl 259 ⟨rfl, rfl, rfl, rfl, trivial⟩, hMid⟩
   rintro c2 G1 ⟨σ, rfl, w7⟩
   have a1 := a1.ext w7
   have a3 := a3.cn w7
   have hC := hC.ext w7
   have hO := hO.ext w7
   rcases bif_some hs with ⟨B1, hs⟩ | ⟨B1, hs⟩
   ·refine c_condT (congrArg Value.bool B1) ?_
    refine c_sr ?_
    refine pl_val (.bool false) (y_assign rfl) ?_
    refine c_nil ?_
    refine wp_ret ?_
    cases hs
    exact ⟨_, fr_ovl 259 ⟨rfl, trivial⟩, hC⟩
   refine c_condF (congrArg Value.bool B1) ?_
   refine wp_skip ?_
   refine c_sr ?_
   refine pl_val (.int .i64 r596.1) (y_move rfl) ?_
   refine pl_val (.agg #[(.int .i64 r596.2.1), (.slice a9 b0 b1)]) (y_load rfl ((box_load Ag27 Sz27 a3 [] [(.int .i64 r596.2.1), (.slice a9 b0 b1)] [] rfl rfl (fun h => nomatch h)) _ (Chg.refl _ _))) ?_
   obtain ⟨r1075, R1, hs⟩ := bind_some hs
   refine pl_call Bd13 rfl (c_impl_IsUnanimityOp (M := (Less M c0)) r596.1 (r596.2.1, r596.2.2) (((Frz.os Frz.int)).val a1 Less.sub Less.not) hO.less.fut R1) ?_
   rintro _ U9 ⟨rfl, w8⟩
   have a1 := a1.ext w8
   have a3 := a3.cn w8
   have hC := hC.ext w8
   have hO := hO.ext w8
   refine pl_val (.tuple #[(.bool r1075.1), (.bool r1075.2)]) (y_move rfl) ?_
   refine pl_val (.bool r1075.1) (y_extract rfl (by kernel_rfl)) ?_
   refine pl_val (.bool r1075.2) (y_extract rfl (by kernel_rfl)) ?_
   refine pl_val (.bool r1075.1) (y_assign rfl) ?_
   refine pl_val (.bool r1075.2) (y_assign rfl) ?_
   refine c_nil ?_
   refine c_seq ?_
   refine c_sr ?_
   refine pl_val (.int .i64 r596.1) (y_move rfl) ?_
   refine pl_val (.agg #[(.int .i64 r596.2.1), (.slice a9 b0 b1)]) (y_load rfl ((box_load Ag27 Sz27 a3 [] [(.int .i64 r596.2.1), (.slice a9 b0 b1)] [] rfl rfl (fun h => nomatch h)) _ (Chg.refl _ _))) ?_
   obtain ⟨r1077, R2, hs⟩ := bind_some hs
   refine pl_call Bd17 rfl (c_spec_IsUnanimityOp (M := (Less M c0)) r596.1 (r596.2.1, r596.2.2) (((Frz.os Frz.int)).val a1 Less.sub Less.not) hO.less.fut R2) ?_
   rintro _ G2 ⟨rfl, w9⟩
   have a1 := a1.ext w9
   have a3 := a3.cn w9
   have hC := hC.ext w9
   have hO := hO.ext w9
   refine pl_val (.tuple #[(.bool r1077.1), (.bool r1077.2)]) (y_move rfl) ?_
   refine pl_val (.bool r1077.1) (y_extract rfl (by kernel_rfl)) ?_
   refine pl_val (.bool r1077.2) (y_extract rfl (by kernel_rfl)) ?_
   refine pl_val (.bool r1077.1) (y_assign rfl) ?_
   refine pl_val (.bool r1077.2) (y_assign rfl) ?_
   refine c_nil ?_
   refine c_seq ?_
   refine c_mid (I := fun a G3 => ∃ (σ : Nat → Value), a = fr 259 (ovl σ [(18, (.int .i64 r596.1)), (19, (.pointer (some ⟨b6, 0, none⟩))), (20, (.bool r601.1)), (231, (.bool ((!(r1075.1 == r1077.1)) || (!(r1075.2 == r1077.2)))))]) ∧ Chg [] G2 G3) ?_ ?_
   ·have hMid := Chg.refl [] G2
    refine c_region ?_
    refine pl_val (.bool r1075.1) (y_move rfl) ?_
    refine pl_val (.bool r1077.1) (y_move rfl) ?_
    refine pl_val (.bool (!(r1075.1 == r1077.1))) (y_bneq Try.underlying4 rfl rfl) ?_
    refine pl_val (.bool (!(r1075.1 == r1077.1))) (y_move rfl) ?_
    rcases Bool.eq_false_or_eq_true ((!(r1075.1 == r1077.1))) with e1 | e1
    ·skip
     refine pl_not (tg := 227) (by kernel_rfl) (congrArg Value.bool e1) ?_
     refine pl_not (tg := 227) (by kernel_rfl) (congrArg Value.bool e1) ?_
     refine pl_not (tg := 227) (by kernel_rfl) (congrArg Value.bool e1) ?_
     refine pl_val (.bool ((!(r1075.1 == r1077.1)) || (!(r1075.2 == r1077.2)))) (y_pick_t (congrArg Value.bool e1) (congrArg Value.bool (by rw [e1]; rfl))) ?_
     refine c_nil ?_
     exact ⟨_, fr_ovl 259 ⟨rfl, rfl, rfl, rfl, trivial⟩, hMid⟩
    refine pl_yes (.bool r1075.2) (tg := 227) (by kernel_rfl) (congrArg Value.bool e1) (y_move rfl) ?_
    refine pl_yes (.bool r1077.2) (tg := 227) (by kernel_rfl) (congrArg Value.bool e1) (y_move rfl) ?_
    refine pl_yes (.bool (!(r1075.2 == r1077.2))) (tg := 227) (by kernel_rfl) (congrArg Value.bool e1) (y_bneq Try.underlying4 rfl rfl) ?_
    refine pl_val (.bool ((!(r1075.1 == r1077.1)) || (!(r1075.2 == r1077.2)))) (y_pick_f (congrArg Value.bool e1) (congrArg Value.bool (by rw [e1]; rfl))) ?_
    refine c_nil ?_
    exact ⟨_, fr_ovl 259 ⟨rfl, rfl, rfl, rfl, trivial⟩, hMid⟩
   rintro c2 G3 ⟨σ, rfl, x0⟩
   have a1 := a1.ext x0
   have a3 := a3.cn x0
   have hC := hC.ext x0
   have hO := hO.ext x0
   rcases bif_some hs with ⟨B2, hs⟩ | ⟨B2, hs⟩
   ·refine c_condT (congrArg Value.bool B2) ?_
    refine c_sr ?_
    refine pl_val (.bool false) (y_assign rfl) ?_
    refine c_nil ?_
    refine wp_ret ?_
    cases hs
    exact ⟨_, fr_ovl 259 ⟨rfl, trivial⟩, hC⟩
   refine c_condF (congrArg Value.bool B2) ?_
   refine wp_skip ?_
   refine c_sr ?_
   refine pl_val (.int .i64 r596.1) (y_move rfl) ?_
   refine pl_val (.agg #[(.int .i64 r596.2.1), (.slice a9 b0 b1)]) (y_load rfl ((box_load Ag27 Sz27 a3 [] [(.int .i64 r596.2.1), (.slice a9 b0 b1)] [] rfl rfl (fun h => nomatch h)) _ (Chg.refl _ _))) ?_
   obtain ⟨r1084, R3, hs⟩ := bind_some hs
   refine pl_call Bd14 rfl (c_impl_IsDiscriminatorOp (M := (Less M c0)) r596.1 (r596.2.1, r596.2.2) (((Frz.os Frz.int)).val a1 Less.sub Less.not) hO.less.fut R3) ?_
   rintro _ V0 ⟨rfl, x1⟩
   have a1 := a1.ext x1
   have a3 := a3.cn x1
   have hC := hC.ext x1
   have hO := hO.ext x1
   refine pl_val (.tuple #[(.bool r1084.1), (.bool r1084.2)]) (y_move rfl) ?_
   refine pl_val (.bool r1084.1) (y_extract rfl (by kernel_rfl)) ?_
   refine pl_val (.bool r1084.2) (y_extract rfl (by kernel_rfl)) ?_
   refine pl_val (.bool r1084.1) (y_assign rfl) ?_
   refine pl_val (.bool r1084.2) (y_assign rfl) ?_
   refine c_nil ?_
   refine c_sr ?_
   refine pl_val (.int .i64 r596.1) (y_move rfl) ?_
   refine pl_val (.agg #[(.int .i64 r596.2.1), (.slice a9 b0 b1)]) (y_load rfl ((box_load Ag27 Sz27 a3 [] [(.int .i64 r596.2.1), (.slice a9 b0 b1)] [] rfl rfl (fun h => nomatch h)) _ (Chg.refl _ _))) ?_
   obtain ⟨r1086, R4, hs⟩ := bind_some hs
   refine pl_call Bd18 rfl (c_spec_IsDiscriminatorOp (M := (Less M c0)) r596.1 (r596.2.1, r596.2.2) (((Frz.os Frz.int)).val a1 Less.sub Less.not) hO.less.fut R4) ?_
   rintro _ V1 ⟨rfl, x2⟩
   have a1 := a1.ext x2
   have a3 := a3.cn x2
   have hC := hC.ext x2
   have hO := hO.ext x2
   refine pl_val (.tuple #[(.bool r1086.1), (.bool r1086.2)]) (y_move rfl) ?_
   refine pl_val (.bool r1086.1) (y_extract rfl (by kernel_rfl)) ?_
   refine pl_val (.bool r1086.2) (y_extract rfl (by kernel_rfl)) ?_
   refine pl_val (.bool r1086.1) (y_assign rfl) ?_
   refine pl_val (.bool r1086.2) (y_assign rfl) ?_
   refine c_nil ?_
   have hO := hO.drop
   have hO := hO.drop
   refine c_sr ?_
   refine pl_val (.bool r1084.1) (y_move rfl) ?_
   refine pl_val (.bool r1086.1) (y_move rfl) ?_
   refine pl_val (.bool (r1084.1 == r1086.1)) (y_beql Try.underlying4 rfl rfl) ?_
   refine pl_val (.bool (r1084.1 == r1086.1)) (y_move rfl) ?_
   rcases bif_some hs with ⟨i6, hs⟩ | ⟨i6, hs⟩
   ·skip
    refine pl_yes (.bool r1084.2) (tg := 247) (by kernel_rfl) (congrArg Value.bool i6) (y_move rfl) ?_
    refine pl_yes (.bool r1086.2) (tg := 247) (by kernel_rfl) (congrArg Value.bool i6) (y_move rfl) ?_
    refine pl_yes (.bool (r1084.2 == r1086.2)) (tg := 247) (by kernel_rfl) (congrArg Value.bool i6) (y_beql Try.underlying4 rfl rfl) ?_
    refine pl_val (.bool (r1084.2 == r1086.2)) (y_pick_t (congrArg Value.bool i6) rfl) ?_
    refine pl_val (.bool (r1084.2 == r1086.2)) (y_move rfl) ?_
    rcases bif_some hs with ⟨d3, hs⟩ | ⟨d3, hs⟩
    ·skip
     refine pl_yes (.bool r1084.1) (tg := 252) (by kernel_rfl) (congrArg Value.bool d3) (y_move rfl) ?_
     refine pl_yes (.bool (!r1084.1)) (tg := 252) (by kernel_rfl) (congrArg Value.bool d3) (y_not rfl) ?_
     refine pl_yes (.bool (!r1084.1)) (tg := 252) (by kernel_rfl) (congrArg Value.bool d3) (y_move rfl) ?_
     rcases bif_some hs with ⟨q7, hs⟩ | ⟨q7, hs⟩
     ·skip
      refine pl_not (tg := 255) (by kernel_rfl) (congrArg Value.bool q7) ?_
      refine pl_yes (.bool true) (tg := 252) (by kernel_rfl) (congrArg Value.bool d3) (y_pick_t (congrArg Value.bool q7) rfl) ?_
      refine pl_val (.bool true) (y_pick_t (congrArg Value.bool d3) rfl) ?_
      refine pl_val (.bool true) (y_assign rfl) ?_
      refine c_nil ?_
      refine wp_ret ?_
      cases hs
      exact ⟨_, fr_ovl 259 ⟨rfl, trivial⟩, hC⟩
     refine pl_yes (.bool r601.1) (tg := 255) (by kernel_rfl) (congrArg Value.bool q7) (y_move rfl) ?_
     refine pl_yes (.bool r601.1) (tg := 252) (by kernel_rfl) (congrArg Value.bool d3) (y_pick_f (congrArg Value.bool q7) rfl) ?_
     refine pl_val (.bool r601.1) (y_pick_t (congrArg Value.bool d3) rfl) ?_
     refine pl_val (.bool r601.1) (y_assign rfl) ?_
     refine c_nil ?_
     refine wp_ret ?_
     cases hs
     exact ⟨_, fr_ovl 259 ⟨rfl, trivial⟩, hC⟩
    refine pl_not (tg := 252) (by kernel_rfl) (congrArg Value.bool d3) ?_
    refine pl_not (tg := 252) (by kernel_rfl) (congrArg Value.bool d3) ?_
    refine pl_not (tg := 252) (by kernel_rfl) (congrArg Value.bool d3) ?_
    refine pl_nou (tg := 255) (by kernel_rfl) rfl ?_
    refine pl_not (tg := 252) (by kernel_rfl) (congrArg Value.bool d3) ?_
    refine pl_val (.bool false) (y_pick_f (congrArg Value.bool d3) rfl) ?_
    refine pl_val (.bool false) (y_assign rfl) ?_
    refine c_nil ?_
    refine wp_ret ?_
    cases hs
    exact ⟨_, fr_ovl 259 ⟨rfl, trivial⟩, hC⟩
   refine pl_not (tg := 247) (by kernel_rfl) (congrArg Value.bool i6) ?_
   refine pl_not (tg := 247) (by kernel_rfl) (congrArg Value.bool i6) ?_
   refine pl_not (tg := 247) (by kernel_rfl) (congrArg Value.bool i6) ?_
   refine pl_val (.bool false) (y_pick_f (congrArg Value.bool i6) rfl) ?_
   refine pl_val (.bool false) (y_move rfl) ?_
   refine pl_not (tg := 252) (by kernel_rfl) (by rfl) ?_
   refine pl_not (tg := 252) (by kernel_rfl) (by rfl) ?_
   refine pl_not (tg := 252) (by kernel_rfl) (by rfl) ?_
   refine pl_nou (tg := 255) (by kernel_rfl) rfl ?_
   refine pl_not (tg := 252) (by kernel_rfl) (by rfl) ?_
   refine pl_val (.bool false) (y_pick_f (by rfl) rfl) ?_
   refine pl_val (.bool false) (y_assign rfl) ?_
   refine c_nil ?_
   refine wp_ret ?_
   cases hs
   exact ⟨_, fr_ovl 259 ⟨rfl, trivial⟩, hC⟩
 refine c_condF (congrArg Value.bool A4) ?_
 refine wp_skip ?_
 refine c_sr ?_
 refine pl_val (.int .i64 r596.1) (y_move rfl) ?_
 refine pl_val (.agg #[(.int .i64 r596.2.1), (.slice a9 b0 b1)]) (y_load rfl ((box_load Ag27 Sz27 a3 [] [(.int .i64 r596.2.1), (.slice a9 b0 b1)] [] rfl rfl (fun h => nomatch h)) _ (Chg.refl _ _))) ?_
 obtain ⟨r1091, R5, hs⟩ := bind_some hs
 refine pl_call Bd13 rfl (c_impl_IsUnanimityOp (M := (Less M c0)) r596.1 (r596.2.1, r596.2.2) (((Frz.os Frz.int)).val a1 Less.sub Less.not) hO.less.fut R5) ?_
 rintro _ V2 ⟨rfl, x3⟩
 have a1 := a1.ext x3
 have a3 := a3.cn x3
 have hC := hC.ext x3
 have hO := hO.ext x3
 refine pl_val (.tuple #[(.bool r1091.1), (.bool r1091.2)]) (y_move rfl) ?_
 refine pl_val (.bool r1091.1) (y_extract rfl (by kernel_rfl)) ?_
 refine pl_val (.bool r1091.2) (y_extract rfl (by kernel_rfl)) ?_
 refine pl_val (.bool r1091.1) (y_assign rfl) ?_
 refine pl_val (.bool r1091.2) (y_assign rfl) ?_
 refine c_nil ?_
 refine c_seq ?_
 refine c_sr ?_
 refine pl_val (.int .i64 r596.1) (y_move rfl) ?_
 refine pl_val (.agg #[(.int .i64 r596.2.1), (.slice a9 b0 b1)]) (y_load rfl ((box_load Ag27 Sz27 a3 [] [(.int .i64 r596.2.1), (.slice a9 b0 b1)] [] rfl rfl (fun h => nomatch h)) _ (Chg.refl _ _))) ?_
 obtain ⟨r1093, R6, hs⟩ := bind_some hs
 refine pl_call Bd17 rfl (c_spec_IsUnanimityOp (M := (Less M c0)) r596.1 (r596.2.1, r596.2.2) (((Frz.os Frz.int)).val a1 Less.sub Less.not) hO.less.fut R6) ?_
 rintro _ G4 ⟨rfl, x4⟩
 have a1 := a1.ext x4
 have a3 := a3.cn x4
 have hC := hC.ext x4
 have hO := hO.ext x4
 refine pl_val (.tuple #[(.bool r1093.1), (.bool r1093.2)]) (y_move rfl) ?_
 refine pl_val (.bool r1093.1) (y_extract rfl (by kernel_rfl)) ?_
 refine pl_val (.bool r1093.2) (y_extract rfl (by kernel_rfl)) ?_
 refine pl_val (.bool r1093.1) (y_assign rfl) ?_
 refine pl_val (.bool r1093.2) (y_assign rfl) ?_
 refine c_nil ?_
 refine c_seq ?_
 refine c_mid (I := fun a G5 => ∃ (σ : Nat → Value), a = fr 259 (ovl σ [(2, (.bool false)), (18, (.int .i64 r596.1)), (19, (.pointer (some ⟨b6, 0, none⟩))), (20, (.bool r601.1)), (231, (.bool ((!(r1091.1 == r1093.1)) || (!(r1091.2 == r1093.2)))))]) ∧ Chg [] G4 G5) ?_ ?_
 ·have hMid := Chg.refl [] G4
  refine c_region ?_
  refine pl_val (.bool r1091.1) (y_move rfl) ?_
  refine pl_val (.bool r1093.1) (y_move rfl) ?_
  refine pl_val (.bool (!(r1091.1 == r1093.1))) (y_bneq Try.underlying4 rfl rfl) ?_
  refine pl_val (.bool (!(r1091.1 == r1093.1))) (y_move rfl) ?_
  rcases Bool.eq_false_or_eq_true ((!(r1091.1 == r1093.1))) with e2 | e2
  ·skip
   refine pl_not (tg := 227) (by kernel_rfl) (congrArg Value.bool e2) ?_
   refine pl_not (tg := 227) (by kernel_rfl) (congrArg Value.bool e2) ?_
   refine pl_not (tg := 227) (by kernel_rfl) (congrArg Value.bool e2) ?_
   refine pl_val (.bool ((!(r1091.1 == r1093.1)) || (!(r1091.2 == r1093.2)))) (y_pick_t (congrArg Value.bool e2) (congrArg Value.bool (by rw [e2]; rfl))) ?_
   refine c_nil ?_
   exact ⟨_, fr_ovl 259 ⟨rfl, rfl, rfl, rfl, rfl, trivial⟩, hMid⟩
  refine pl_yes (.bool r1091.2) (tg := 227) (by kernel_rfl) (congrArg Value.bool e2) (y_move rfl) ?_
  refine pl_yes (.bool r1093.2) (tg := 227) (by kernel_rfl) (congrArg Value.bool e2) (y_move rfl) ?_
  refine pl_yes (.bool (!(r1091.2 == r1093.2))) (tg := 227) (by kernel_rfl) (congrArg Value.bool e2) (y_bneq Try.underlying4 rfl rfl) ?_
  refine pl_val (.bool ((!(r1091.1 == r1093.1)) || (!(r1091.2 == r1093.2)))) (y_pick_f (congrArg Value.bool e2) (congrArg Value.bool (by rw [e2]; rfl))) ?_
  refine c_nil ?_
  exact ⟨_, fr_ovl 259 ⟨rfl, rfl, rfl, rfl, rfl, trivial⟩, hMid⟩
 rintro c2 G5 ⟨σ, rfl, x5⟩
 have a1 := a1.ext x5
 have a3 := a3.cn x5
 have hC := hC.ext x5
 have hO := hO.ext x5
 rcases bif_some hs with ⟨B3, hs⟩ | ⟨B3, hs⟩
 ·refine c_condT (congrArg Value.bool B3) ?_
  refine c_sr ?_
  refine pl_val (.bool false) (y_assign rfl) ?_
  refine c_nil ?_
  refine wp_ret ?_
  cases hs
  exact ⟨_, fr_ovl 259 ⟨rfl, trivial⟩, hC⟩
 refine c_condF (congrArg Value.bool B3) ?_
 refine wp_skip ?_
 refine c_sr ?_
 refine pl_val (.int .i64 r596.1) (y_move rfl) ?_
 refine pl_val (.agg #[(.int .i64 r596.2.1), (.slice a9 b0 b1)]) (y_load rfl ((box_load Ag27 Sz27 a3 [] [(.int .i64 r596.2.1), (.slice a9 b0 b1)] [] rfl rfl (fun h => nomatch h)) _ (Chg.refl _ _))) ?_
 obtain ⟨r1100, R7, hs⟩ := bind_some hs
 refine pl_call Bd14 rfl (c_impl_IsDiscriminatorOp (M := (Less M c0)) r596.1 (r596.2.1, r596.2.2) (((Frz.os Frz.int)).val a1 Less.sub Less.not) hO.less.fut R7) ?_
 rintro _ V3 ⟨rfl, x6⟩
 have a1 := a1.ext x6
 have a3 := a3.cn x6
 have hC := hC.ext x6
 have hO := hO.ext x6
 refine pl_val (.tuple #[(.bool r1100.1), (.bool r1100.2)]) (y_move rfl) ?_
 refine pl_val (.bool r1100.1) (y_extract rfl (by kernel_rfl)) ?_
 refine pl_val (.bool r1100.2) (y_extract rfl (by kernel_rfl)) ?_
 refine pl_val (.bool r1100.1) (y_assign rfl) ?_
 refine pl_val (.bool r1100.2) (y_assign rfl) ?_
 refine c_nil ?_
 refine c_sr ?_
 refine pl_val (.int .i64 r596.1) (y_move rfl) ?_
 refine pl_val (.agg #[(.int .i64 r596.2.1), (.slice a9 b0 b1)]) (y_load rfl ((box_load Ag27 Sz27 a3 [] [(.int .i64 r596.2.1), (.slice a9 b0 b1)] [] rfl rfl (fun h => nomatch h)) _ (Chg.refl _ _))) ?_
 obtain ⟨r1102, R8, hs⟩ := bind_some hs
 refine pl_call Bd18 rfl (c_spec_IsDiscriminatorOp (M := (Less M c0)) r596.1 (r596.2.1, r596.2.2) (((Frz.os Frz.int)).val a1 Less.sub Less.not) hO.less.fut R8) ?_
 rintro _ V4 ⟨rfl, x7⟩
 have a1 := a1.ext x7
 have a3 := a3.cn x7
 have hC := hC.ext x7
 have hO := hO.ext x7
 refine pl_val (.tuple #[(.bool r1102.1), (.bool r1102.2)]) (y_move rfl) ?_
 refine pl_val (.bool r1102.1) (y_extract rfl (by kernel_rfl)) ?_
 refine pl_val (.bool r1102.2) (y_extract rfl (by kernel_rfl)) ?_
 refine pl_val (.bool r1102.1) (y_assign rfl) ?_
 refine pl_val (.bool r1102.2) (y_assign rfl) ?_
 refine c_nil ?_
 have hO := hO.drop
 have hO := hO.drop
 refine c_sr ?_
 refine pl_val (.bool r1100.1) (y_move rfl) ?_
 refine pl_val (.bool r1102.1) (y_move rfl) ?_
 refine pl_val (.bool (r1100.1 == r1102.1)) (y_beql Try.underlying4 rfl rfl) ?_
 refine pl_val (.bool (r1100.1 == r1102.1)) (y_move rfl) ?_
 rcases bif_some hs with ⟨i7, hs⟩ | ⟨i7, hs⟩
 ·skip
  refine pl_yes (.bool r1100.2) (tg := 247) (by kernel_rfl) (congrArg Value.bool i7) (y_move rfl) ?_
  refine pl_yes (.bool r1102.2) (tg := 247) (by kernel_rfl) (congrArg Value.bool i7) (y_move rfl) ?_
  refine pl_yes (.bool (r1100.2 == r1102.2)) (tg := 247) (by kernel_rfl) (congrArg Value.bool i7) (y_beql Try.underlying4 rfl rfl) ?_
  refine pl_val (.bool (r1100.2 == r1102.2)) (y_pick_t (congrArg Value.bool i7) rfl) ?_
  refine pl_val (.bool (r1100.2 == r1102.2)) (y_move rfl) ?_
  rcases bif_some hs with ⟨d4, hs⟩ | ⟨d4, hs⟩
  ·skip
   refine pl_yes (.bool r1100.1) (tg := 252) (by kernel_rfl) (congrArg Value.bool d4) (y_move rfl) ?_
   refine pl_yes (.bool (!r1100.1)) (tg := 252) (by kernel_rfl) (congrArg Value.bool d4) (y_not rfl) ?_
   refine pl_yes (.bool (!r1100.1)) (tg := 252) (by kernel_rfl) (congrArg Value.bool d4) (y_move rfl) ?_
   rcases bif_some hs with ⟨q8, hs⟩ | ⟨q8, hs⟩
   ·skip
    refine pl_not (tg := 255) (by kernel_rfl) (congrArg Value.bool q8) ?_
    refine pl_yes (.bool true) (tg := 252) (by kernel_rfl) (congrArg Value.bool d4) (y_pick_t (congrArg Value.bool q8) rfl) ?_
    refine pl_val (.bool true) (y_pick_t (congrArg Value.bool d4) rfl) ?_
    refine pl_val (.bool true) (y_assign rfl) ?_
    refine c_nil ?_
    refine wp_ret ?_
    cases hs
    exact ⟨_, fr_ovl 259 ⟨rfl, trivial⟩, hC⟩
   refine pl_yes (.bool r601.1) (tg := 255) (by kernel_rfl) (congrArg Value.bool q8) (y_move rfl) ?_
   refine pl_yes (.bool r601.1) (tg := 252) (by kernel_rfl) (congrArg Value.bool d4) (y_pick_f (congrArg Value.bool q8) rfl) ?_
   refine pl_val (.bool r601.1) (y_pick_t (congrArg Value.bool d4) rfl) ?_
   refine pl_val (.bool r601.1) (y_assign rfl) ?_
   refine c_nil ?_
   refine wp_ret ?_
   cases hs
   exact ⟨_, fr_ovl 259 ⟨rfl, trivial⟩, hC⟩
  refine pl_not (tg := 252) (by kernel_rfl) (congrArg Value.bool d4) ?_
  refine pl_not (tg := 252) (by kernel_rfl) (congrArg Value.bool d4) ?_
  refine pl_not (tg := 252) (by kernel_rfl) (congrArg Value.bool d4) ?_
  refine pl_nou (tg := 255) (by kernel_rfl) rfl ?_
  refine pl_not (tg := 252) (by kernel_rfl) (congrArg Value.bool d4) ?_
  refine pl_val (.bool false) (y_pick_f (congrArg Value.bool d4) rfl) ?_
  refine pl_val (.bool false) (y_assign rfl) ?_
  refine c_nil ?_
  refine wp_ret ?_
  cases hs
  exact ⟨_, fr_ovl 259 ⟨rfl, trivial⟩, hC⟩
 refine pl_not (tg := 247) (by kernel_rfl) (congrArg Value.bool i7) ?_
 refine pl_not (tg := 247) (by kernel_rfl) (congrArg Value.bool i7) ?_
 refine pl_not (tg := 247) (by kernel_rfl) (congrArg Value.bool i7) ?_
 refine pl_val (.bool false) (y_pick_f (congrArg Value.bool i7) rfl) ?_
 refine pl_val (.bool false) (y_move rfl) ?_
 refine pl_not (tg := 252) (by kernel_rfl) (by rfl) ?_
 refine pl_not (tg := 252) (by kernel_rfl) (by rfl) ?_
 refine pl_not (tg := 252) (by kernel_rfl) (by rfl) ?_
 refine pl_nou (tg := 255) (by kernel_rfl) rfl ?_
 refine pl_not (tg := 252) (by kernel_rfl) (by rfl) ?_
 refine pl_val (.bool false) (y_pick_f (by rfl) rfl) ?_
 refine pl_val (.bool false) (y_assign rfl) ?_
 refine c_nil ?_
 refine wp_ret ?_
 cases hs
 exact ⟨_, fr_ovl 259 ⟨rfl, trivial⟩, hC⟩

end Go.Proofs
