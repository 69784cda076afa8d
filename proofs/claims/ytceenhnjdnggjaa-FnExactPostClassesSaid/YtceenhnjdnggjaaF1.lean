/- What functions of the program compute, as plain functions, and that a call gives just that. Conditions: those named in each theorem. -/
import Derived.Test.YtceenhnjdnggjaaF0
set_option linter.unusedVariables false
namespace Go.Proofs
open Go.G Go.RowKit
set_option maxRecDepth 100000

def k_impl_isOp (M : Nat → Prop) (w0 : World) (r : Bool) (a : Act) (w : World) : Prop :=
  ∃ (σ : Nat → Value) , a = fr 29 (ovl σ [(4, (.bool r))]) ∧ Chg [] w0 w
def s_impl_isOp (f : Int × (List Int)) (n : Int) : Option (Bool) :=
  (bif (decide (0 ≤ f.1)) then (bif (decide (f.1 ≤ 3)) then (s_impl_power n f.1).bind fun r7 =>
  (bif ((f.2.length : Int) == r7) then (s_impl_inSize f.2 n).bind fun r10 =>
  some r10 else some false) else some false) else some false)
set_option maxHeartbeats 4000000 in
theorem c_impl_isOp {M : Nat → Prop} {w : World} {pa0 : Option Addr} {pn0 pc0 : Nat} (f : Int × (List Int)) (n : Int) (h0 : (RT.rs (RT.int .i64)).val M w (.slice pa0 pn0 pc0) f.2 ([])) (hM : ∀ g, w.heap.size ≤ g → M g) {r : Bool} (hs : s_impl_isOp f n = some r) :
    Gives Try.prog 122 [(.agg #[(.int .i64 f.1), (.slice pa0 pn0 pc0)]), (.int .i64 n)] w (fun v w' => v = (.bool r) ∧ Chg [] w w') := by
  refine calls_fr Try.func122 rfl Try.ntmps122 (Nat.le_of_ble_eq_true rfl) ?_
  have hO := Own.start (N := Nw w []) hM Nw.fut
  have hC := Chg.refl [] w
  unfold s_impl_isOp at hs
  refine wp_mono (Q := KPost (k_impl_isOp M w r)) ?_ (fun e a w1 h => ?_)
  rotate_left
  · cases e
    case ret =>
      obtain ⟨σ, rfl, hrest⟩ := h
      exact ret1x Try.results122 (res_tmp rfl) ⟨rfl, hrest⟩
    all_goals exact (h : False).elim
  refine c_seq ?_
  refine c_region ?_
  obtain ⟨w2, g2, ew2, eg2, hC2, hb2⟩ := new_block w [(.int .i64 f.1), (.slice pa0 pn0 pc0)] 82
  refine pl_val (w' := w2) (.pointer (some ⟨g2, 0, none⟩)) (y_box rfl (by rw [ew2, eg2]; kernel_rfl)) ?_
  have h0 := h0.ext hC2
  have hC := hC.ext hC2
  have hO := hO.new (X' := [g2]) hC2 (fun q hq => by rw [List.mem_singleton.1 hq, eg2]; exact Nat.le_refl _) (List.nodup_cons.2 ⟨(fun h => nomatch h), List.nodup_nil⟩) (fun q hq => by rw [List.mem_singleton.1 hq]; exact hb2.lt)
  refine pl_val (.bool false) (y_assign rfl) ?_
  refine c_nil ?_
  refine c_seq ?_
  refine x_start [] Mx rfl ?_
  have hCw3 := Chg.drew w2
  generalize World.drew w2 = w3 at hCw3 ⊢
  have h0 := h0.ext hCw3
  have hb2 := hb2.chg hCw3 (fun h => nomatch h)
  have hC := hC.ext hCw3
  have hO := hO.ext hCw3
  have hS := Chg.refl [] w3
  refine x_p 0 (.pointer (some ⟨g2, 0, none⟩)) rfl (by kernel_rfl)  (fun _ => y_faddr rfl Fa82x0) (fun _ => hS) ?_
  refine x_l 1 (.int .i64 f.1) rfl (by kernel_rfl)  (fun w' hw' => y_load rfl ((box_load Ag3 Sz3 hb2 [] [(.int .i64 f.1)] [(.slice pa0 pn0 pc0)] rfl rfl (fun _ => rfl)) w' hw')) hS ?_
  refine x_p 2 (.bool (decide (0 ≤ f.1))) rfl (by kernel_rfl)  (fun _ => y_geq rfl rfl) (fun _ => hS) ?_
  refine x_p 3 (.bool (decide (0 ≤ f.1))) rfl (by kernel_rfl)  (fun _ => y_move rfl) (fun _ => hS) ?_
  rcases bif_some hs with ⟨hc4, hs⟩ | ⟨hc4, hs⟩
  · skip
    refine x_py 4 (.pointer (some ⟨g2, 0, none⟩)) rfl (by kernel_rfl) (tg := 8) (by kernel_rfl) (congrArg Value.bool hc4) (fun _ => y_faddr rfl Fa82x0) (fun _ => hS) ?_
    refine x_ly 5 (.int .i64 f.1) rfl (by kernel_rfl) (tg := 8) (by kernel_rfl) (congrArg Value.bool hc4) (fun w' hw' => y_load rfl ((box_load Ag3 Sz3 hb2 [] [(.int .i64 f.1)] [(.slice pa0 pn0 pc0)] rfl rfl (fun _ => rfl)) w' hw')) hS ?_
    refine x_py 6 (.bool (decide (f.1 ≤ 3))) rfl (by kernel_rfl) (tg := 8) (by kernel_rfl) (congrArg Value.bool hc4) (fun _ => y_leq rfl rfl) (fun _ => hS) ?_
    refine x_p 7 (.bool (decide (f.1 ≤ 3))) rfl (by kernel_rfl)  (fun _ => y_pick_t (congrArg Value.bool hc4) rfl) (fun _ => hS) ?_
    refine x_p 8 (.bool (decide (f.1 ≤ 3))) rfl (by kernel_rfl)  (fun _ => y_move rfl) (fun _ => hS) ?_
    rcases bif_some hs with ⟨hc5, hs⟩ | ⟨hc5, hs⟩
    · skip
      refine x_py 9 (.pointer (some ⟨g2, 1, none⟩)) rfl (by kernel_rfl) (tg := 13) (by kernel_rfl) (congrArg Value.bool hc5) (fun _ => y_faddr rfl Fa82x1) (fun _ => hS) ?_
      refine x_ly 10 (.slice pa0 pn0 pc0) rfl (by kernel_rfl) (tg := 13) (by kernel_rfl) (congrArg Value.bool hc5) (fun w' hw' => y_load rfl ((box_load Ag22 Sz22 hb2 [(.int .i64 f.1)] [(.slice pa0 pn0 pc0)] [] rfl rfl (fun _ => rfl)) w' hw')) hS ?_
      refine x_py 11 (.int .i64 (f.2.length : Int)) rfl (by kernel_rfl) (tg := 13) (by kernel_rfl) (congrArg Value.bool hc5) (fun _ => y_len' Sl22 (rs_len h0) rfl) (fun _ => hS) ?_
      refine x_py 12 (.int .i64 n) rfl (by kernel_rfl) (tg := 13) (by kernel_rfl) (congrArg Value.bool hc5) (fun _ => y_move rfl) (fun _ => hS) ?_
      refine x_py 13 (.pointer (some ⟨g2, 0, none⟩)) rfl (by kernel_rfl) (tg := 13) (by kernel_rfl) (congrArg Value.bool hc5) (fun _ => y_faddr rfl Fa82x0) (fun _ => hS) ?_
      refine x_ly 14 (.int .i64 f.1) rfl (by kernel_rfl) (tg := 13) (by kernel_rfl) (congrArg Value.bool hc5) (fun w' hw' => y_load rfl ((box_load Ag3 Sz3 hb2 [] [(.int .i64 f.1)] [(.slice pa0 pn0 pc0)] rfl rfl (fun _ => rfl)) w' hw')) hS ?_
      refine x_one (i := 15) (by kernel_rfl) ?_
      obtain ⟨r7, hr7, hs⟩ := bind_some hs
      refine xk_cally (b := false) rfl (tg := 13) (by kernel_rfl) (congrArg Value.bool hc5) Bd165 rfl (c_impl_power (M := M) n f.1  hO.fut hr7) rfl (by rintro _ _ _ ⟨rfl, hC6⟩; exact hS.ext hC6) ?_
      rintro _ w6 ⟨rfl, hC6⟩
      have h0 := h0.ext hC6
      have hb2 := hb2.chg hC6 (fun h => nomatch h)
      have hC := hC.ext hC6
      have hO := hO.ext hC6
      have hS := hS.ext hC6
      refine x_py 16 (.bool ((f.2.length : Int) == r7)) rfl (by kernel_rfl) (tg := 13) (by kernel_rfl) (congrArg Value.bool hc5) (fun _ => y_eql rfl rfl) (fun _ => hS) ?_
      refine x_p 17 (.bool ((f.2.length : Int) == r7)) rfl (by kernel_rfl)  (fun _ => y_pick_t (congrArg Value.bool hc5) rfl) (fun _ => hS) ?_
      refine x_p 18 (.bool ((f.2.length : Int) == r7)) rfl (by kernel_rfl)  (fun _ => y_move rfl) (fun _ => hS) ?_
      rcases bif_some hs with ⟨hc8, hs⟩ | ⟨hc8, hs⟩
      · skip
        refine x_py 19 (.pointer (some ⟨g2, 1, none⟩)) rfl (by kernel_rfl) (tg := 23) (by kernel_rfl) (congrArg Value.bool hc8) (fun _ => y_faddr rfl Fa82x1) (fun _ => hS) ?_
        refine x_py 21 (.int .i64 n) rfl (by kernel_rfl) (tg := 23) (by kernel_rfl) (congrArg Value.bool hc8) (fun _ => y_move rfl) (fun _ => hS) ?_
        refine x_one (i := 20) (by kernel_rfl) ?_
        refine xk_valy (b := false) (.slice pa0 pn0 pc0) rfl (tg := 23) (by kernel_rfl) (congrArg Value.bool hc8) (y_load rfl ((box_load Ag22 Sz22 hb2 [(.int .i64 f.1)] [(.slice pa0 pn0 pc0)] [] rfl rfl (fun _ => rfl)) _ (Chg.refl _ _))) rfl (fun _ => hS) ?_
        refine x_one (i := 22) (by kernel_rfl) ?_
        obtain ⟨r10, hr10, hs⟩ := bind_some hs
        refine xk_cally (b := false) rfl (tg := 23) (by kernel_rfl) (congrArg Value.bool hc8) Bd113 rfl (c_impl_inSize (M := M) f.2 n h0 hO.fut hr10) rfl (by rintro _ _ _ ⟨rfl, hC9⟩; exact hS.ext hC9) ?_
        rintro _ w9 ⟨rfl, hC9⟩
        have h0 := h0.ext hC9
        have hb2 := hb2.chg hC9 (fun h => nomatch h)
        have hC := hC.ext hC9
        have hO := hO.ext hC9
        have hS := hS.ext hC9
        refine x_p 23 (.bool r10) rfl (by kernel_rfl)  (fun _ => y_pick_t (congrArg Value.bool hc8) rfl) (fun _ => hS) ?_
        refine x_p 24 (.bool r10) rfl (by kernel_rfl)  (fun _ => y_assign rfl) (fun _ => hS) ?_
        refine x_end (by kernel_rfl) ?_
        clear hS
        refine wp_ret ?_
        cases hs
        exact ⟨_, fr_ovl 29 ⟨rfl, trivial⟩, hC⟩
      · skip
        refine x_pn 19 rfl (by kernel_rfl) (tg := 23) (by kernel_rfl) (congrArg Value.bool hc8) (fun _ => hS) ?_
        refine x_pn 20 rfl (by kernel_rfl) (tg := 23) (by kernel_rfl) (congrArg Value.bool hc8) (fun _ => hS) ?_
        refine x_pn 21 rfl (by kernel_rfl) (tg := 23) (by kernel_rfl) (congrArg Value.bool hc8) (fun _ => hS) ?_
        refine x_pn 22 rfl (by kernel_rfl) (tg := 23) (by kernel_rfl) (congrArg Value.bool hc8) (fun _ => hS) ?_
        refine x_p 23 (.bool false) rfl (by kernel_rfl)  (fun _ => y_pick_f (congrArg Value.bool hc8) rfl) (fun _ => hS) ?_
        refine x_p 24 (.bool false) rfl (by kernel_rfl)  (fun _ => y_assign rfl) (fun _ => hS) ?_
        refine x_end (by kernel_rfl) ?_
        clear hS
        refine wp_ret ?_
        cases hs
        exact ⟨_, fr_ovl 29 ⟨rfl, trivial⟩, hC⟩
    · skip
      refine x_pn 9 rfl (by kernel_rfl) (tg := 13) (by kernel_rfl) (congrArg Value.bool hc5) (fun _ => hS) ?_
      refine x_pn 10 rfl (by kernel_rfl) (tg := 13) (by kernel_rfl) (congrArg Value.bool hc5) (fun _ => hS) ?_
      refine x_pn 11 rfl (by kernel_rfl) (tg := 13) (by kernel_rfl) (congrArg Value.bool hc5) (fun _ => hS) ?_
      refine x_pn 12 rfl (by kernel_rfl) (tg := 13) (by kernel_rfl) (congrArg Value.bool hc5) (fun _ => hS) ?_
      refine x_pn 13 rfl (by kernel_rfl) (tg := 13) (by kernel_rfl) (congrArg Value.bool hc5) (fun _ => hS) ?_
      refine x_pn 14 rfl (by kernel_rfl) (tg := 13) (by kernel_rfl) (congrArg Value.bool hc5) (fun _ => hS) ?_
      refine x_pn 15 rfl (by kernel_rfl) (tg := 13) (by kernel_rfl) (congrArg Value.bool hc5) (fun _ => hS) ?_
      refine x_pn 16 rfl (by kernel_rfl) (tg := 13) (by kernel_rfl) (congrArg Value.bool hc5) (fun _ => hS) ?_
      refine x_p 17 (.bool false) rfl (by kernel_rfl)  (fun _ => y_pick_f (congrArg Value.bool hc5) rfl) (fun _ => hS) ?_
      refine x_p 18 (.bool false) rfl (by kernel_rfl)  (fun _ => y_move rfl) (fun _ => hS) ?_
      refine x_pn 19 rfl (by kernel_rfl) (tg := 23) (by kernel_rfl) (by rfl) (fun _ => hS) ?_
      refine x_pn 20 rfl (by kernel_rfl) (tg := 23) (by kernel_rfl) (by rfl) (fun _ => hS) ?_
      refine x_pn 21 rfl (by kernel_rfl) (tg := 23) (by kernel_rfl) (by rfl) (fun _ => hS) ?_
      refine x_pn 22 rfl (by kernel_rfl) (tg := 23) (by kernel_rfl) (by rfl) (fun _ => hS) ?_
      refine x_p 23 (.bool false) rfl (by kernel_rfl)  (fun _ => y_pick_f (by rfl) rfl) (fun _ => hS) ?_
      refine x_p 24 (.bool false) rfl (by kernel_rfl)  (fun _ => y_assign rfl) (fun _ => hS) ?_
      refine x_end (by kernel_rfl) ?_
      clear hS
      refine wp_ret ?_
      cases hs
      exact ⟨_, fr_ovl 29 ⟨rfl, trivial⟩, hC⟩
  · skip
    refine x_pn 4 rfl (by kernel_rfl) (tg := 8) (by kernel_rfl) (congrArg Value.bool hc4) (fun _ => hS) ?_
    refine x_pn 5 rfl (by kernel_rfl) (tg := 8) (by kernel_rfl) (congrArg Value.bool hc4) (fun _ => hS) ?_
    refine x_pn 6 rfl (by kernel_rfl) (tg := 8) (by kernel_rfl) (congrArg Value.bool hc4) (fun _ => hS) ?_
    refine x_p 7 (.bool false) rfl (by kernel_rfl)  (fun _ => y_pick_f (congrArg Value.bool hc4) rfl) (fun _ => hS) ?_
    refine x_p 8 (.bool false) rfl (by kernel_rfl)  (fun _ => y_move rfl) (fun _ => hS) ?_
    refine x_pn 9 rfl (by kernel_rfl) (tg := 13) (by kernel_rfl) (by rfl) (fun _ => hS) ?_
    refine x_pn 10 rfl (by kernel_rfl) (tg := 13) (by kernel_rfl) (by rfl) (fun _ => hS) ?_
    refine x_pn 11 rfl (by kernel_rfl) (tg := 13) (by kernel_rfl) (by rfl) (fun _ => hS) ?_
    refine x_pn 12 rfl (by kernel_rfl) (tg := 13) (by kernel_rfl) (by rfl) (fun _ => hS) ?_
    refine x_pn 13 rfl (by kernel_rfl) (tg := 13) (by kernel_rfl) (by rfl) (fun _ => hS) ?_
    refine x_pn 14 rfl (by kernel_rfl) (tg := 13) (by kernel_rfl) (by rfl) (fun _ => hS) ?_
    refine x_pn 15 rfl (by kernel_rfl) (tg := 13) (by kernel_rfl) (by rfl) (fun _ => hS) ?_
    refine x_pn 16 rfl (by kernel_rfl) (tg := 13) (by kernel_rfl) (by rfl) (fun _ => hS) ?_
    refine x_p 17 (.bool false) rfl (by kernel_rfl)  (fun _ => y_pick_f (by rfl) rfl) (fun _ => hS) ?_
    refine x_p 18 (.bool false) rfl (by kernel_rfl)  (fun _ => y_move rfl) (fun _ => hS) ?_
    refine x_pn 19 rfl (by kernel_rfl) (tg := 23) (by kernel_rfl) (by rfl) (fun _ => hS) ?_
    refine x_pn 20 rfl (by kernel_rfl) (tg := 23) (by kernel_rfl) (by rfl) (fun _ => hS) ?_
    refine x_pn 21 rfl (by kernel_rfl) (tg := 23) (by kernel_rfl) (by rfl) (fun _ => hS) ?_
    refine x_pn 22 rfl (by kernel_rfl) (tg := 23) (by kernel_rfl) (by rfl) (fun _ => hS) ?_
    refine x_p 23 (.bool false) rfl (by kernel_rfl)  (fun _ => y_pick_f (by rfl) rfl) (fun _ => hS) ?_
    refine x_p 24 (.bool false) rfl (by kernel_rfl)  (fun _ => y_assign rfl) (fun _ => hS) ?_
    refine x_end (by kernel_rfl) ?_
    clear hS
    refine wp_ret ?_
    cases hs
    exact ⟨_, fr_ovl 29 ⟨rfl, trivial⟩, hC⟩

theorem Bd122 : Bodied Try.prog 122 := bodied Try.func122 (by kernel_rfl) rfl

def k_impl_IsAlgebra (M : Nat → Prop) (w0 : World) (r : Bool) (a : Act) (w : World) : Prop :=
  ∃ (σ : Nat → Value) , a = fr 32 (ovl σ [(2, (.bool r))]) ∧ Chg [] w0 w
def s_impl_IsAlgebra (a_ : Int × (List (Int × (List Int)))) : Option (Bool) :=
  (bif (((decide (a_.1 < 1)) || (decide (8 < a_.1))) || (decide (4 < (a_.2.length : Int)))) then some false else (forR (S := Unit) (R := Bool) (fun _ x21 s18 =>
  (s_impl_isOp (x21.1, x21.2) a_.1).bind fun r30 =>
  (bif (!r30) then some (.rt false) else some (.nx ()))) 0 a_.2 ()).bind fun o22 => after o22 (fun r_ => some r_) (fun s18 =>
  some true))
set_option maxHeartbeats 4000000 in
theorem c_impl_IsAlgebra {M : Nat → Prop} {w : World} {pa0 : Option Addr} {pn0 pc0 : Nat} (a_ : Int × (List (Int × (List Int)))) (h0 : (RT.rs (RT.pr (RT.int .i64) (RT.rs (RT.int .i64)))).val M w (.slice pa0 pn0 pc0) a_.2 ([])) (hM : ∀ g, w.heap.size ≤ g → M g) {r : Bool} (hs : s_impl_IsAlgebra a_ = some r) :
    Gives Try.prog 98 [(.agg #[(.int .i64 a_.1), (.slice pa0 pn0 pc0)])] w (fun v w' => v = (.bool r) ∧ Chg [] w w') := by
  refine calls_fr Try.func98 rfl Try.ntmps98 (Nat.le_of_ble_eq_true rfl) ?_
  have hO := Own.start (N := Nw w []) hM Nw.fut
  have hC := Chg.refl [] w
  unfold s_impl_IsAlgebra at hs
  refine wp_mono (Q := KPost (k_impl_IsAlgebra M w r)) ?_ (fun e a w1 h => ?_)
  rotate_left
  · cases e
    case ret =>
      obtain ⟨σ, rfl, hrest⟩ := h
      exact ret1x Try.results98 (res_tmp rfl) ⟨rfl, hrest⟩
    all_goals exact (h : False).elim
  refine c_seq ?_
  refine c_region ?_
  obtain ⟨w2, g2, ew2, eg2, hC2, hb2⟩ := new_block w [(.int .i64 a_.1), (.slice pa0 pn0 pc0)] 62
  refine pl_val (w' := w2) (.pointer (some ⟨g2, 0, none⟩)) (y_box rfl (by rw [ew2, eg2]; kernel_rfl)) ?_
  have h0 := h0.ext hC2
  have hC := hC.ext hC2
  have hO := hO.new (X' := [g2]) hC2 (fun q hq => by rw [List.mem_singleton.1 hq, eg2]; exact Nat.le_refl _) (List.nodup_cons.2 ⟨(fun h => nomatch h), List.nodup_nil⟩) (fun q hq => by rw [List.mem_singleton.1 hq]; exact hb2.lt)
  refine pl_val (.bool false) (y_assign rfl) ?_
  refine c_nil ?_
  refine c_seq ?_
  refine c_seq ?_
  refine c_mid (I := fun a w4 => ∃ (σ : Nat → Value), a = fr 32 (ovl σ [(1, (.pointer (some ⟨g2, 0, none⟩))), (2, (.bool false)), (18, (.bool (((decide (a_.1 < 1)) || (decide (8 < a_.1))) || (decide (4 < (a_.2.length : Int))))))]) ∧ Chg [] w2 w4) ?_ ?_
  · have hMid := Chg.refl [] w2
    refine c_region ?_
    refine pl_val (.pointer (some ⟨g2, 0, none⟩)) (y_faddr rfl Fa62x0) ?_
    refine pl_val (.int .i64 a_.1) (y_load rfl ((box_load Ag3 Sz3 hb2 [] [(.int .i64 a_.1)] [(.slice pa0 pn0 pc0)] rfl rfl (fun _ => rfl)) _ (Chg.refl _ _))) ?_
    refine pl_val (.bool (decide (a_.1 < 1))) (y_lss rfl rfl) ?_
    refine pl_val (.bool (decide (a_.1 < 1))) (y_move rfl) ?_
    rcases Bool.eq_false_or_eq_true ((decide (a_.1 < 1))) with hc6 | hc6
    · skip
      refine pl_not (tg := 8) (by kernel_rfl) (congrArg Value.bool hc6) ?_
      refine pl_not (tg := 8) (by kernel_rfl) (congrArg Value.bool hc6) ?_
      refine pl_not (tg := 8) (by kernel_rfl) (congrArg Value.bool hc6) ?_
      refine pl_val (.bool ((decide (a_.1 < 1)) || (decide (8 < a_.1)))) (y_pick_t (congrArg Value.bool hc6) (congrArg Value.bool (by rw [hc6]; rfl))) ?_
      refine pl_val (.bool ((decide (a_.1 < 1)) || (decide (8 < a_.1)))) (y_move rfl) ?_
      rcases Bool.eq_false_or_eq_true (((decide (a_.1 < 1)) || (decide (8 < a_.1)))) with hc7 | hc7
      · skip
        refine pl_not (tg := 13) (by kernel_rfl) (congrArg Value.bool hc7) ?_
        refine pl_not (tg := 13) (by kernel_rfl) (congrArg Value.bool hc7) ?_
        refine pl_not (tg := 13) (by kernel_rfl) (congrArg Value.bool hc7) ?_
        refine pl_not (tg := 13) (by kernel_rfl) (congrArg Value.bool hc7) ?_
        refine pl_val (.bool (((decide (a_.1 < 1)) || (decide (8 < a_.1))) || (decide (4 < (a_.2.length : Int))))) (y_pick_t (congrArg Value.bool hc7) (congrArg Value.bool (by rw [hc7]; rfl))) ?_
        refine c_nil ?_
        exact ⟨_, fr_ovl 32 ⟨rfl, rfl, rfl, trivial⟩, hMid⟩
      · skip
        refine pl_yes (.pointer (some ⟨g2, 1, none⟩)) (tg := 13) (by kernel_rfl) (congrArg Value.bool hc7) (y_faddr rfl Fa62x1) ?_
        refine pl_yes (.slice pa0 pn0 pc0) (tg := 13) (by kernel_rfl) (congrArg Value.bool hc7) (y_load rfl ((box_load Ag60 Sz60 hb2 [(.int .i64 a_.1)] [(.slice pa0 pn0 pc0)] [] rfl rfl (fun _ => rfl)) _ (Chg.refl _ _))) ?_
        refine pl_yes (.int .i64 (a_.2.length : Int)) (tg := 13) (by kernel_rfl) (congrArg Value.bool hc7) (y_len' Sl60 (rs_len h0) rfl) ?_
        refine pl_yes (.bool (decide (4 < (a_.2.length : Int)))) (tg := 13) (by kernel_rfl) (congrArg Value.bool hc7) (y_gtr rfl rfl) ?_
        refine pl_val (.bool (((decide (a_.1 < 1)) || (decide (8 < a_.1))) || (decide (4 < (a_.2.length : Int))))) (y_pick_f (congrArg Value.bool hc7) (congrArg Value.bool (by rw [hc7]; rfl))) ?_
        refine c_nil ?_
        exact ⟨_, fr_ovl 32 ⟨rfl, rfl, rfl, trivial⟩, hMid⟩
    · skip
      refine pl_yes (.pointer (some ⟨g2, 0, none⟩)) (tg := 8) (by kernel_rfl) (congrArg Value.bool hc6) (y_faddr rfl Fa62x0) ?_
      refine pl_yes (.int .i64 a_.1) (tg := 8) (by kernel_rfl) (congrArg Value.bool hc6) (y_load rfl ((box_load Ag3 Sz3 hb2 [] [(.int .i64 a_.1)] [(.slice pa0 pn0 pc0)] rfl rfl (fun _ => rfl)) _ (Chg.refl _ _))) ?_
      refine pl_yes (.bool (decide (8 < a_.1))) (tg := 8) (by kernel_rfl) (congrArg Value.bool hc6) (y_gtr rfl rfl) ?_
      refine pl_val (.bool ((decide (a_.1 < 1)) || (decide (8 < a_.1)))) (y_pick_f (congrArg Value.bool hc6) (congrArg Value.bool (by rw [hc6]; rfl))) ?_
      refine pl_val (.bool ((decide (a_.1 < 1)) || (decide (8 < a_.1)))) (y_move rfl) ?_
      rcases Bool.eq_false_or_eq_true (((decide (a_.1 < 1)) || (decide (8 < a_.1)))) with hc8 | hc8
      · skip
        refine pl_not (tg := 13) (by kernel_rfl) (congrArg Value.bool hc8) ?_
        refine pl_not (tg := 13) (by kernel_rfl) (congrArg Value.bool hc8) ?_
        refine pl_not (tg := 13) (by kernel_rfl) (congrArg Value.bool hc8) ?_
        refine pl_not (tg := 13) (by kernel_rfl) (congrArg Value.bool hc8) ?_
        refine pl_val (.bool (((decide (a_.1 < 1)) || (decide (8 < a_.1))) || (decide (4 < (a_.2.length : Int))))) (y_pick_t (congrArg Value.bool hc8) (congrArg Value.bool (by rw [hc8]; rfl))) ?_
        refine c_nil ?_
        exact ⟨_, fr_ovl 32 ⟨rfl, rfl, rfl, trivial⟩, hMid⟩
      · skip
        refine pl_yes (.pointer (some ⟨g2, 1, none⟩)) (tg := 13) (by kernel_rfl) (congrArg Value.bool hc8) (y_faddr rfl Fa62x1) ?_
        refine pl_yes (.slice pa0 pn0 pc0) (tg := 13) (by kernel_rfl) (congrArg Value.bool hc8) (y_load rfl ((box_load Ag60 Sz60 hb2 [(.int .i64 a_.1)] [(.slice pa0 pn0 pc0)] [] rfl rfl (fun _ => rfl)) _ (Chg.refl _ _))) ?_
        refine pl_yes (.int .i64 (a_.2.length : Int)) (tg := 13) (by kernel_rfl) (congrArg Value.bool hc8) (y_len' Sl60 (rs_len h0) rfl) ?_
        refine pl_yes (.bool (decide (4 < (a_.2.length : Int)))) (tg := 13) (by kernel_rfl) (congrArg Value.bool hc8) (y_gtr rfl rfl) ?_
        refine pl_val (.bool (((decide (a_.1 < 1)) || (decide (8 < a_.1))) || (decide (4 < (a_.2.length : Int))))) (y_pick_f (congrArg Value.bool hc8) (congrArg Value.bool (by rw [hc8]; rfl))) ?_
        refine c_nil ?_
        exact ⟨_, fr_ovl 32 ⟨rfl, rfl, rfl, trivial⟩, hMid⟩
  · rintro a1 w4 ⟨σ, rfl, hCs3⟩
    have h0 := h0.ext hCs3
    have hb2 := hb2.chg hCs3 (fun h => nomatch h)
    have hC := hC.ext hCs3
    have hO := hO.ext hCs3
    rcases bif_some hs with ⟨hc9, hs⟩ | ⟨hc9, hs⟩
    · skip
      refine c_condT (congrArg Value.bool hc9) ?_
      refine c_seq ?_
      refine c_region ?_
      refine pl_val (.bool false) (y_assign rfl) ?_
      refine c_nil ?_
      refine wp_ret ?_
      cases hs
      exact ⟨_, fr_ovl 32 ⟨rfl, trivial⟩, hC⟩
    · skip
      refine c_condF (congrArg Value.bool hc9) ?_
      refine wp_skip ?_
      refine c_seq ?_
      refine c_seq ?_
      refine c_region ?_
      refine pl_val (.pointer (some ⟨g2, 1, none⟩)) (y_faddr rfl Fa62x1) ?_
      refine pl_val (.slice pa0 pn0 pc0) (y_load rfl ((box_load Ag60 Sz60 hb2 [(.int .i64 a_.1)] [(.slice pa0 pn0 pc0)] [] rfl rfl (fun _ => rfl)) _ (Chg.refl _ _))) ?_
      refine pl_val (.int .i64 (a_.2.length : Int)) (y_len' Sl60 (rs_len h0) rfl) ?_
      refine pl_val (.int .i64 0) (y_move rfl) ?_
      refine c_nil ?_
      obtain ⟨o22, hl23, hs⟩ := bind_some hs
      refine wp_block ?_
      refine wp_forR (id := 0) (I := fun i_ xs_ s18 a w19 => ∃ k20 : Nat, i_ = (k20 : Int) ∧ List.drop k20 a_.2 = xs_ ∧ (∃ (σ : Nat → Value), a = fr 32 (ovl σ [(1, (.pointer (some ⟨g2, 0, none⟩))), (20, (.slice pa0 pn0 pc0)), (21, (.int .i64 (a_.2.length : Int))), (22, (.int .i64 (k20 : Int)))]) ∧ Chg [] w w19 ∧ Own (Nw w []) M w19 (([g2]) ++ []) ∧ (RT.rs (RT.pr (RT.int .i64) (RT.rs (RT.int .i64)))).val M w19 (.slice pa0 pn0 pc0) a_.2 ([]) ∧ BoxV w19 g2 62 [(.int .i64 a_.1), (.slice pa0 pn0 pc0)])) (J := fun s18 a w19 => ∃ (σ : Nat → Value), a = fr 32 (ovl σ []) ∧ Chg [] w w19 ∧ Own (Nw w []) M w19 (([g2]) ++ []) ∧ (RT.rs (RT.pr (RT.int .i64) (RT.rs (RT.int .i64)))).val M w19 (.slice pa0 pn0 pc0) a_.2 ([]) ∧ BoxV w19 g2 62 [(.int .i64 a_.1), (.slice pa0 pn0 pc0)]) (K := (k_impl_IsAlgebra M w)) ?_ ?_ a_.2 0 () o22 _ _ ?_ hl23 ?_
      · rintro _ s18 a w19 ⟨k20, rfl, hd, σ, rfl, hC, hO, h0, hb2⟩
        have hlt := drop_nil_ge hd
        refine c_seq ?_
        refine c_region ?_
        refine pl_val (.bool (decide ((k20 : Int) < (a_.2.length : Int)))) (y_lss rfl rfl) ?_
        refine c_nil ?_
        refine c_seq ?_
        refine c_condF (congrArg Value.bool (decide_eq_false hlt)) ?_
        refine wp_exit ?_
        exact ⟨rfl, _, fr_ovl 32 trivial, hC, hO, h0, hb2⟩
      · rintro _ x21 xs_ s18 o22 a w19 ⟨k20, rfl, hd, σ, rfl, hC, hO, h0, hb2⟩ hs
        have hlt := drop_cons_lt hd
        have hxk20 := drop_cons_idx hd
        refine c_seq ?_
        refine c_region ?_
        refine pl_val (.bool (decide ((k20 : Int) < (a_.2.length : Int)))) (y_lss rfl rfl) ?_
        refine c_nil ?_
        refine c_seq ?_
        refine c_condT (congrArg Value.bool (decide_eq_true hlt)) ?_
        refine wp_skip ?_
        refine c_seq ?_
        refine wp_block ?_
        refine c_seq ?_
        refine c_region ?_
        obtain ⟨b24, o24, hp24, ha24⟩ := rs_idx Sl60 Sz82 h0 hxk20
        refine pl_val (.pointer (some ⟨b24, o24, none⟩)) (hp24 _ _ _ _ _ _ _ _ _ rfl rfl) ?_
        obtain ⟨v25, hl25, hv25⟩ := at_load Ag82 Sz82 (by intro h; cases h) ha24
        obtain ⟨cs25, rfl, hr25⟩ := hv25
        obtain ⟨cc25x1, cd25x1, rfl, hh25x1, ht25x1⟩ := pr_open hr25
        obtain rfl := int_rel hh25x1
        obtain ⟨a25x2, n25x2, c25x2, rfl, hv25x2⟩ := rs_rel ht25x1
        refine pl_val (.agg #[(.int .i64 x21.1), (.slice a25x2 n25x2 c25x2)]) (y_load rfl (hl25 _ (Chg.refl _ _))) ?_
        obtain ⟨w27, g27, ew27, eg27, hC27, hb27⟩ := new_block w19 [(.int .i64 0), (.slice none 0 0)] 82
        refine pl_val (w' := w27) (.pointer (some ⟨g27, 0, none⟩)) (y_alloc (by rw [ew27, eg27]; kernel_rfl)) ?_
        have h0 := h0.ext hC27
        have hb2 := hb2.chg hC27 (fun h => nomatch h)
        have hv25x2 := hv25x2.ext hC27
        have hC := hC.ext hC27
        have hO := hO.new (X' := [g27]) hC27 (fun q hq => by rw [List.mem_singleton.1 hq, eg27]; exact Nat.le_refl _) (List.nodup_cons.2 ⟨(fun h => nomatch h), List.nodup_nil⟩) (fun q hq => by rw [List.mem_singleton.1 hq]; exact hb27.lt)
        obtain ⟨w28, hst28, hC28, hb28⟩ := box_store (P := Try.prog) hb27 [] [(.int .i64 0), (.slice none 0 0)] [] [(.int .i64 x21.1), (.slice a25x2 n25x2 c25x2)] rfl rfl (by intro u hu; simp only [List.mem_cons, List.not_mem_nil, or_false] at hu; rcases hu with rfl | rfl <;> rfl)
        refine pl_skip (w' := w28) (ys_store rfl rfl (hst28 _ _ rfl Sz82)) ?_
        have h0 := h0.mut hC28 (fun g hg => hO.inM g ((fun _ h => h) g hg)) (fun _ _ h => nomatch h)
        have hb2 := hb2.chg hC28 (fun hg => hO.apart _ ((fun _ h => h) _ hg) (mem_l (List.mem_singleton.2 rfl)))
        have hv25x2 := hv25x2.mut hC28 (fun g hg => hO.inM g ((fun _ h => h) g hg)) (fun _ _ h => nomatch h)
        have hC := hC.step hC28 (fun g hg => hO.inN g ((fun _ h => h) g hg))
        have hO := hO.ext hC28
        have hb28 : BoxV w28 g27 82 [(.int .i64 x21.1), (.slice a25x2 n25x2 c25x2)] := hb28
        refine c_nil ?_
        refine c_seq ?_
        refine c_region ?_
        refine pl_val (.agg #[(.int .i64 x21.1), (.slice a25x2 n25x2 c25x2)]) (y_load rfl ((box_load Ag82 Sz82 hb28 [] [(.int .i64 x21.1), (.slice a25x2 n25x2 c25x2)] [] rfl rfl (fun h => nomatch h)) _ (Chg.refl _ _))) ?_
        refine pl_val (.pointer (some ⟨g2, 0, none⟩)) (y_faddr rfl Fa62x0) ?_
        refine pl_val (.int .i64 a_.1) (y_load rfl ((box_load Ag3 Sz3 hb2 [] [(.int .i64 a_.1)] [(.slice pa0 pn0 pc0)] rfl rfl (fun _ => rfl)) _ (Chg.refl _ _))) ?_
        obtain ⟨r30, hr30, hs⟩ := bind_some hs
        refine pl_call Bd122 rfl (c_impl_isOp (M := M) (x21.1, x21.2) a_.1 hv25x2 hO.fut hr30) ?_
        rintro _ w29 ⟨rfl, hC29⟩
        have h0 := h0.ext hC29
        have hb2 := hb2.chg hC29 (fun h => nomatch h)
        have hv25x2 := hv25x2.ext hC29
        have hb28 := hb28.chg hC29 (fun h => nomatch h)
        have hC := hC.ext hC29
        have hO := hO.ext hC29
        refine pl_val (.bool (!r30)) (y_not rfl) ?_
        refine c_nil ?_
        rcases bif_some hs with ⟨hc31, hs⟩ | ⟨hc31, hs⟩
        · skip
          refine c_condT (congrArg Value.bool hc31) ?_
          refine c_seq ?_
          refine c_region ?_
          refine pl_val (.bool false) (y_assign rfl) ?_
          refine c_nil ?_
          refine wp_ret ?_
          cases hs
          exact ⟨_, fr_ovl 32 ⟨rfl, trivial⟩, hC⟩
        · skip
          refine c_condF (congrArg Value.bool hc31) ?_
          refine wp_skip ?_
          refine c_region ?_
          refine pl_val (.int .i64 (w64 ((k20 : Int) + 1))) (y_add rfl rfl) ?_
          refine pl_val (.int .i64 (w64 ((k20 : Int) + 1))) (y_move rfl) ?_
          refine c_nil ?_
          cases hs
          have hO := hO.drop
          exact ⟨_, rfl, drop_cons_next hd, _, fr_ovl 32 ⟨rfl, rfl, rfl, congrArg (Value.int .i64) (w64_succ hlt (Int.natCast_nonneg _) (rs_max h0)), trivial⟩, hC, hO, h0, hb2⟩
      · skip
        exact ⟨0, rfl, rfl, _, fr_ovl 32 ⟨rfl, rfl, rfl, rfl, trivial⟩, hC, hO, h0, hb2⟩
      · cases o22 with
        | nx _ => exact True.intro
        | rt r_ =>
          have hs := after_rt hs
          intro a1 w1 hK
          cases hs
          exact hK
        | br s18 =>
          have hs := after_br hs
          rintro a1 w19 ⟨σ, rfl, hC, hO, h0, hb2⟩
          refine c_seq ?_
          refine c_region ?_
          refine pl_val (.bool true) (y_assign rfl) ?_
          refine c_nil ?_
          refine wp_ret ?_
          cases hs
          exact ⟨_, fr_ovl 32 ⟨rfl, trivial⟩, hC⟩

def k_impl_isMonotone (M : Nat → Prop) (w0 : World) (r : Bool) (a : Act) (w : World) : Prop :=
  ∃ (σ : Nat → Value) , a = fr 35 (ovl σ [(2, (.bool r))]) ∧ Chg [] w0 w
def s_impl_isMonotone (f : Int × (List Int)) : Option (Bool) :=
  (forC (S := Unit) (R := Bool) (fun k21 s19 =>
  (idx f.2 k21).bind fun x25 =>
  (forC (S := Unit) (R := Bool) (fun k33 s31 =>
  (idx f.2 k33).bind fun x37 =>
  (bif ((iand .i64 k21 k33) == k21) then (bif (decide (x37 < x25)) then some (.rt false) else some (.nx ())) else some (.nx ()))) 0 (f.2.length : Int) ()).bind fun o35 => after o35 (fun r_ => some (.rt r_)) (fun s31 =>
  some (.nx ()))) 0 (f.2.length : Int) ()).bind fun o23 => after o23 (fun r_ => some r_) (fun s19 =>
  some true)
set_option maxHeartbeats 4000000 in
theorem c_impl_isMonotone {M : Nat → Prop} {w : World} {pa0 : Option Addr} {pn0 pc0 : Nat} (f : Int × (List Int)) (h0 : (RT.rs (RT.int .i64)).val M w (.slice pa0 pn0 pc0) f.2 ([])) (hM : ∀ g, w.heap.size ≤ g → M g) {r : Bool} (hs : s_impl_isMonotone f = some r) :
    Gives Try.prog 99 [(.agg #[(.int .i64 f.1), (.slice pa0 pn0 pc0)])] w (fun v w' => v = (.bool r) ∧ Chg [] w w') := by
  refine calls_fr Try.func99 rfl Try.ntmps99 (Nat.le_of_ble_eq_true rfl) ?_
  have hO := Own.start (N := Nw w []) hM Nw.fut
  have hC := Chg.refl [] w
  unfold s_impl_isMonotone at hs
  refine wp_mono (Q := KPost (k_impl_isMonotone M w r)) ?_ (fun e a w1 h => ?_)
  rotate_left
  · cases e
    case ret =>
      obtain ⟨σ, rfl, hrest⟩ := h
      exact ret1x Try.results99 (res_tmp rfl) ⟨rfl, hrest⟩
    all_goals exact (h : False).elim
  refine c_seq ?_
  refine c_region ?_
  obtain ⟨w2, g2, ew2, eg2, hC2, hb2⟩ := new_block w [(.int .i64 f.1), (.slice pa0 pn0 pc0)] 82
  refine pl_val (w' := w2) (.pointer (some ⟨g2, 0, none⟩)) (y_box rfl (by rw [ew2, eg2]; kernel_rfl)) ?_
  have h0 := h0.ext hC2
  have hC := hC.ext hC2
  have hO := hO.new (X' := [g2]) hC2 (fun q hq => by rw [List.mem_singleton.1 hq, eg2]; exact Nat.le_refl _) (List.nodup_cons.2 ⟨(fun h => nomatch h), List.nodup_nil⟩) (fun q hq => by rw [List.mem_singleton.1 hq]; exact hb2.lt)
  refine pl_val (.bool false) (y_assign rfl) ?_
  refine c_nil ?_
  refine c_seq ?_
  refine c_seq ?_
  refine c_region ?_
  refine pl_val (.pointer (some ⟨g2, 1, none⟩)) (y_faddr rfl Fa82x1) ?_
  refine pl_val (.slice pa0 pn0 pc0) (y_load rfl ((box_load Ag22 Sz22 hb2 [(.int .i64 f.1)] [(.slice pa0 pn0 pc0)] [] rfl rfl (fun _ => rfl)) _ (Chg.refl _ _))) ?_
  refine pl_val (.int .i64 (f.2.length : Int)) (y_len' Sl22 (rs_len h0) rfl) ?_
  refine pl_val (.int .i64 0) (y_move rfl) ?_
  refine c_nil ?_
  obtain ⟨o23, hl24, hs⟩ := bind_some hs
  refine wp_block ?_
  refine wp_forC (id := 0) (f.2.length : Int) (I := fun k21 s19 a w20 => ∃ (σ : Nat → Value), a = fr 35 (ovl σ [(1, (.pointer (some ⟨g2, 0, none⟩))), (8, (.slice pa0 pn0 pc0)), (9, (.int .i64 (f.2.length : Int))), (10, (.int .i64 k21))]) ∧ Chg [] w w20 ∧ Own (Nw w []) M w20 (([g2]) ++ []) ∧ (RT.rs (RT.int .i64)).val M w20 (.slice pa0 pn0 pc0) f.2 ([]) ∧ BoxV w20 g2 82 [(.int .i64 f.1), (.slice pa0 pn0 pc0)]) (J := fun s19 a w20 => ∃ (σ : Nat → Value), a = fr 35 (ovl σ []) ∧ Chg [] w w20 ∧ Own (Nw w []) M w20 (([g2]) ++ []) ∧ (RT.rs (RT.int .i64)).val M w20 (.slice pa0 pn0 pc0) f.2 ([]) ∧ BoxV w20 g2 82 [(.int .i64 f.1), (.slice pa0 pn0 pc0)]) (K := (k_impl_isMonotone M w)) ?_ ?_ 0 () o23 _ _ ?_ hl24 ?_
  · rintro k21 s19 a w20 ⟨σ, rfl, hC, hO, h0, hb2⟩ hlt
    refine c_seq ?_
    refine c_region ?_
    refine pl_val (.bool (decide (k21 < (f.2.length : Int)))) (y_lss rfl rfl) ?_
    refine c_nil ?_
    refine c_seq ?_
    refine c_condF (congrArg Value.bool (decide_eq_false hlt)) ?_
    refine wp_exit ?_
    exact ⟨rfl, _, fr_ovl 35 trivial, hC, hO, h0, hb2⟩
  · rintro k21 s19 o23 a w20 ⟨σ, rfl, hC, hO, h0, hb2⟩ hlt hw hs
    refine c_seq ?_
    refine c_region ?_
    refine pl_val (.bool (decide (k21 < (f.2.length : Int)))) (y_lss rfl rfl) ?_
    refine c_nil ?_
    refine c_seq ?_
    refine c_condT (congrArg Value.bool (decide_eq_true hlt)) ?_
    refine wp_skip ?_
    refine c_seq ?_
    refine wp_block ?_
    refine c_seq ?_
    refine c_region ?_
    refine pl_val (.int .i64 k21) (y_move rfl) ?_
    obtain ⟨x25, hx25, hs⟩ := bind_some hs
    obtain ⟨b26, o26, hp26, ha26⟩ := rs_idx Sl22 Sz3 h0 hx25
    refine pl_val (.pointer (some ⟨b26, o26, none⟩)) (hp26 _ _ _ _ _ _ _ _ _ rfl rfl) ?_
    refine pl_val (.int .i64 x25) (y_load rfl ((at_load_int Ag3 Sz3 ha26) _ (Chg.refl _ _))) ?_
    refine pl_val (.int .i64 k21) (y_assign rfl) ?_
    refine pl_val (.int .i64 x25) (y_assign rfl) ?_
    refine c_nil ?_
    refine c_seq ?_
    refine c_region ?_
    refine pl_val (.pointer (some ⟨g2, 1, none⟩)) (y_faddr rfl Fa82x1) ?_
    refine pl_val (.slice pa0 pn0 pc0) (y_load rfl ((box_load Ag22 Sz22 hb2 [(.int .i64 f.1)] [(.slice pa0 pn0 pc0)] [] rfl rfl (fun _ => rfl)) _ (Chg.refl _ _))) ?_
    refine pl_val (.int .i64 (f.2.length : Int)) (y_len' Sl22 (rs_len h0) rfl) ?_
    refine pl_val (.int .i64 0) (y_move rfl) ?_
    refine c_nil ?_
    obtain ⟨o35, hl36, hs⟩ := bind_some hs
    refine wp_block ?_
    refine wp_forC (id := 2) (f.2.length : Int) (I := fun k33 s31 a w32 => ∃ (σ : Nat → Value), a = fr 35 (ovl σ [(1, (.pointer (some ⟨g2, 0, none⟩))), (3, (.int .i64 k21)), (4, (.int .i64 x25)), (8, (.slice pa0 pn0 pc0)), (9, (.int .i64 (f.2.length : Int))), (10, (.int .i64 k21)), (16, (.slice pa0 pn0 pc0)), (17, (.int .i64 (f.2.length : Int))), (18, (.int .i64 k33))]) ∧ Chg [] w w32 ∧ Own (Nw w []) M w32 (([g2]) ++ []) ∧ (RT.rs (RT.int .i64)).val M w32 (.slice pa0 pn0 pc0) f.2 ([]) ∧ BoxV w32 g2 82 [(.int .i64 f.1), (.slice pa0 pn0 pc0)]) (J := fun s31 a w32 => ∃ (σ : Nat → Value), a = fr 35 (ovl σ [(1, (.pointer (some ⟨g2, 0, none⟩))), (8, (.slice pa0 pn0 pc0)), (9, (.int .i64 (f.2.length : Int))), (10, (.int .i64 k21))]) ∧ Chg [] w w32 ∧ Own (Nw w []) M w32 (([g2]) ++ []) ∧ (RT.rs (RT.int .i64)).val M w32 (.slice pa0 pn0 pc0) f.2 ([]) ∧ BoxV w32 g2 82 [(.int .i64 f.1), (.slice pa0 pn0 pc0)]) (K := (k_impl_isMonotone M w)) ?_ ?_ 0 () o35 _ _ ?_ hl36 ?_
    · rintro k33 s31 a w32 ⟨σ, rfl, hC, hO, h0, hb2⟩ hlt
      refine c_seq ?_
      refine c_region ?_
      refine pl_val (.bool (decide (k33 < (f.2.length : Int)))) (y_lss rfl rfl) ?_
      refine c_nil ?_
      refine c_seq ?_
      refine c_condF (congrArg Value.bool (decide_eq_false hlt)) ?_
      refine wp_exit ?_
      exact ⟨rfl, _, fr_ovl 35 ⟨rfl, rfl, rfl, rfl, trivial⟩, hC, hO, h0, hb2⟩
    · rintro k33 s31 o35 a w32 ⟨σ, rfl, hC, hO, h0, hb2⟩ hlt hw hs
      refine c_seq ?_
      refine c_region ?_
      refine pl_val (.bool (decide (k33 < (f.2.length : Int)))) (y_lss rfl rfl) ?_
      refine c_nil ?_
      refine c_seq ?_
      refine c_condT (congrArg Value.bool (decide_eq_true hlt)) ?_
      refine wp_skip ?_
      refine c_seq ?_
      refine wp_block ?_
      refine c_seq ?_
      refine c_region ?_
      refine pl_val (.int .i64 k33) (y_move rfl) ?_
      obtain ⟨x37, hx37, hs⟩ := bind_some hs
      obtain ⟨b38, o38, hp38, ha38⟩ := rs_idx Sl22 Sz3 h0 hx37
      refine pl_val (.pointer (some ⟨b38, o38, none⟩)) (hp38 _ _ _ _ _ _ _ _ _ rfl rfl) ?_
      refine pl_val (.int .i64 x37) (y_load rfl ((at_load_int Ag3 Sz3 ha38) _ (Chg.refl _ _))) ?_
      refine pl_val (.int .i64 k33) (y_assign rfl) ?_
      refine pl_val (.int .i64 x37) (y_assign rfl) ?_
      refine c_nil ?_
      refine c_seq ?_
      refine c_region ?_
      refine pl_val (.int .i64 k21) (y_move rfl) ?_
      refine pl_val (.int .i64 k33) (y_move rfl) ?_
      refine pl_val (.int .i64 (iand .i64 k21 k33)) (y_and rfl rfl) ?_
      refine pl_val (.int .i64 k21) (y_move rfl) ?_
      refine pl_val (.bool ((iand .i64 k21 k33) == k21)) (y_eql rfl rfl) ?_
      refine pl_val (.bool ((iand .i64 k21 k33) == k21)) (y_move rfl) ?_
      rcases bif_some hs with ⟨hc39, hs⟩ | ⟨hc39, hs⟩
      · skip
        refine pl_yes (.int .i64 x25) (tg := 28) (by kernel_rfl) (congrArg Value.bool hc39) (y_move rfl) ?_
        refine pl_yes (.int .i64 x37) (tg := 28) (by kernel_rfl) (congrArg Value.bool hc39) (y_move rfl) ?_
        refine pl_yes (.bool (decide (x37 < x25))) (tg := 28) (by kernel_rfl) (congrArg Value.bool hc39) (y_gtr rfl rfl) ?_
        refine pl_val (.bool (decide (x37 < x25))) (y_pick_t (congrArg Value.bool hc39) rfl) ?_
        refine c_nil ?_
        rcases bif_some hs with ⟨hc40, hs⟩ | ⟨hc40, hs⟩
        · skip
          refine c_condT (congrArg Value.bool hc40) ?_
          refine c_seq ?_
          refine c_region ?_
          refine pl_val (.bool false) (y_assign rfl) ?_
          refine c_nil ?_
          refine wp_ret ?_
          cases hs
          exact ⟨_, fr_ovl 35 ⟨rfl, trivial⟩, hC⟩
        · skip
          refine c_condF (congrArg Value.bool hc40) ?_
          refine wp_skip ?_
          refine c_region ?_
          refine pl_val (.int .i64 (w64 (k33 + 1))) (y_add rfl rfl) ?_
          refine pl_val (.int .i64 (w64 (k33 + 1))) (y_move rfl) ?_
          refine c_nil ?_
          cases hs
          exact ⟨_, fr_ovl 35 ⟨rfl, rfl, rfl, rfl, rfl, rfl, rfl, rfl, congrArg (Value.int .i64) hw, trivial⟩, hC, hO, h0, hb2⟩
      · skip
        refine pl_not (tg := 28) (by kernel_rfl) (congrArg Value.bool hc39) ?_
        refine pl_not (tg := 28) (by kernel_rfl) (congrArg Value.bool hc39) ?_
        refine pl_not (tg := 28) (by kernel_rfl) (congrArg Value.bool hc39) ?_
        refine pl_val (.bool false) (y_pick_f (congrArg Value.bool hc39) rfl) ?_
        refine c_nil ?_
        refine c_condF (by rfl) ?_
        refine wp_skip ?_
        refine c_region ?_
        refine pl_val (.int .i64 (w64 (k33 + 1))) (y_add rfl rfl) ?_
        refine pl_val (.int .i64 (w64 (k33 + 1))) (y_move rfl) ?_
        refine c_nil ?_
        cases hs
        exact ⟨_, fr_ovl 35 ⟨rfl, rfl, rfl, rfl, rfl, rfl, rfl, rfl, congrArg (Value.int .i64) hw, trivial⟩, hC, hO, h0, hb2⟩
    · skip
      exact ⟨_, fr_ovl 35 ⟨rfl, rfl, rfl, rfl, rfl, rfl, rfl, rfl, rfl, trivial⟩, hC, hO, h0, hb2⟩
    · cases o35 with
      | nx _ => exact True.intro
      | rt r_ =>
        have hs := after_rt hs
        intro a1 w1 hK
        cases hs
        exact hK
      | br s31 =>
        have hs := after_br hs
        rintro a1 w32 ⟨σ, rfl, hC, hO, h0, hb2⟩
        refine c_region ?_
        refine pl_val (.int .i64 (w64 (k21 + 1))) (y_add rfl rfl) ?_
        refine pl_val (.int .i64 (w64 (k21 + 1))) (y_move rfl) ?_
        refine c_nil ?_
        cases hs
        exact ⟨_, fr_ovl 35 ⟨rfl, rfl, rfl, congrArg (Value.int .i64) hw, trivial⟩, hC, hO, h0, hb2⟩
  · skip
    exact ⟨_, fr_ovl 35 ⟨rfl, rfl, rfl, rfl, trivial⟩, hC, hO, h0, hb2⟩
  · cases o23 with
    | nx _ => exact True.intro
    | rt r_ =>
      have hs := after_rt hs
      intro a1 w1 hK
      cases hs
      exact hK
    | br s19 =>
      have hs := after_br hs
      rintro a1 w20 ⟨σ, rfl, hC, hO, h0, hb2⟩
      refine c_seq ?_
      refine c_region ?_
      refine pl_val (.bool true) (y_assign rfl) ?_
      refine c_nil ?_
      refine wp_ret ?_
      cases hs
      exact ⟨_, fr_ovl 35 ⟨rfl, trivial⟩, hC⟩

def k_impl_isSelfDual (M : Nat → Prop) (w0 : World) (r : Bool) (a : Act) (w : World) : Prop :=
  ∃ (σ : Nat → Value) , a = fr 26 (ovl σ [(2, (.bool r))]) ∧ Chg [] w0 w
def s_impl_isSelfDual (f : Int × (List Int)) : Option (Bool) :=
  (forC (S := Unit) (R := Bool) (fun k10 s8 =>
  (idx f.2 k10).bind fun x14 =>
  (idx f.2 (w64 ((w64 ((f.2.length : Int) - 1)) - k10))).bind fun x16 =>
  (bif (x16 == x14) then some (.rt false) else some (.nx ()))) 0 (f.2.length : Int) ()).bind fun o12 => after o12 (fun r_ => some r_) (fun s8 =>
  some true)
set_option maxHeartbeats 4000000 in
theorem c_impl_isSelfDual {M : Nat → Prop} {w : World} {pa0 : Option Addr} {pn0 pc0 : Nat} (f : Int × (List Int)) (h0 : (RT.rs (RT.int .i64)).val M w (.slice pa0 pn0 pc0) f.2 ([])) (hM : ∀ g, w.heap.size ≤ g → M g) {r : Bool} (hs : s_impl_isSelfDual f = some r) :
    Gives Try.prog 100 [(.agg #[(.int .i64 f.1), (.slice pa0 pn0 pc0)])] w (fun v w' => v = (.bool r) ∧ Chg [] w w') := by
  refine calls_fr Try.func100 rfl Try.ntmps100 (Nat.le_of_ble_eq_true rfl) ?_
  have hO := Own.start (N := Nw w []) hM Nw.fut
  have hC := Chg.refl [] w
  unfold s_impl_isSelfDual at hs
  refine wp_mono (Q := KPost (k_impl_isSelfDual M w r)) ?_ (fun e a w1 h => ?_)
  rotate_left
  · cases e
    case ret =>
      obtain ⟨σ, rfl, hrest⟩ := h
      exact ret1x Try.results100 (res_tmp rfl) ⟨rfl, hrest⟩
    all_goals exact (h : False).elim
  refine c_seq ?_
  refine c_region ?_
  obtain ⟨w2, g2, ew2, eg2, hC2, hb2⟩ := new_block w [(.int .i64 f.1), (.slice pa0 pn0 pc0)] 82
  refine pl_val (w' := w2) (.pointer (some ⟨g2, 0, none⟩)) (y_box rfl (by rw [ew2, eg2]; kernel_rfl)) ?_
  have h0 := h0.ext hC2
  have hC := hC.ext hC2
  have hO := hO.new (X' := [g2]) hC2 (fun q hq => by rw [List.mem_singleton.1 hq, eg2]; exact Nat.le_refl _) (List.nodup_cons.2 ⟨(fun h => nomatch h), List.nodup_nil⟩) (fun q hq => by rw [List.mem_singleton.1 hq]; exact hb2.lt)
  refine pl_val (.bool false) (y_assign rfl) ?_
  refine c_nil ?_
  refine c_seq ?_
  refine c_seq ?_
  refine c_region ?_
  refine pl_val (.pointer (some ⟨g2, 1, none⟩)) (y_faddr rfl Fa82x1) ?_
  refine pl_val (.slice pa0 pn0 pc0) (y_load rfl ((box_load Ag22 Sz22 hb2 [(.int .i64 f.1)] [(.slice pa0 pn0 pc0)] [] rfl rfl (fun _ => rfl)) _ (Chg.refl _ _))) ?_
  refine pl_val (.int .i64 (f.2.length : Int)) (y_len' Sl22 (rs_len h0) rfl) ?_
  refine pl_val (.int .i64 0) (y_move rfl) ?_
  refine c_nil ?_
  obtain ⟨o12, hl13, hs⟩ := bind_some hs
  refine wp_block ?_
  refine wp_forC (id := 0) (f.2.length : Int) (I := fun k10 s8 a w9 => ∃ (σ : Nat → Value), a = fr 26 (ovl σ [(1, (.pointer (some ⟨g2, 0, none⟩))), (6, (.slice pa0 pn0 pc0)), (7, (.int .i64 (f.2.length : Int))), (8, (.int .i64 k10))]) ∧ Chg [] w w9 ∧ Own (Nw w []) M w9 (([g2]) ++ []) ∧ (RT.rs (RT.int .i64)).val M w9 (.slice pa0 pn0 pc0) f.2 ([]) ∧ BoxV w9 g2 82 [(.int .i64 f.1), (.slice pa0 pn0 pc0)]) (J := fun s8 a w9 => ∃ (σ : Nat → Value), a = fr 26 (ovl σ []) ∧ Chg [] w w9 ∧ Own (Nw w []) M w9 (([g2]) ++ []) ∧ (RT.rs (RT.int .i64)).val M w9 (.slice pa0 pn0 pc0) f.2 ([]) ∧ BoxV w9 g2 82 [(.int .i64 f.1), (.slice pa0 pn0 pc0)]) (K := (k_impl_isSelfDual M w)) ?_ ?_ 0 () o12 _ _ ?_ hl13 ?_
  · rintro k10 s8 a w9 ⟨σ, rfl, hC, hO, h0, hb2⟩ hlt
    refine c_seq ?_
    refine c_region ?_
    refine pl_val (.bool (decide (k10 < (f.2.length : Int)))) (y_lss rfl rfl) ?_
    refine c_nil ?_
    refine c_seq ?_
    refine c_condF (congrArg Value.bool (decide_eq_false hlt)) ?_
    refine wp_exit ?_
    exact ⟨rfl, _, fr_ovl 26 trivial, hC, hO, h0, hb2⟩
  · rintro k10 s8 o12 a w9 ⟨σ, rfl, hC, hO, h0, hb2⟩ hlt hw hs
    refine c_seq ?_
    refine c_region ?_
    refine pl_val (.bool (decide (k10 < (f.2.length : Int)))) (y_lss rfl rfl) ?_
    refine c_nil ?_
    refine c_seq ?_
    refine c_condT (congrArg Value.bool (decide_eq_true hlt)) ?_
    refine wp_skip ?_
    refine c_seq ?_
    refine wp_block ?_
    refine c_seq ?_
    refine c_region ?_
    refine pl_val (.int .i64 k10) (y_move rfl) ?_
    obtain ⟨x14, hx14, hs⟩ := bind_some hs
    obtain ⟨b15, o15, hp15, ha15⟩ := rs_idx Sl22 Sz3 h0 hx14
    refine pl_val (.pointer (some ⟨b15, o15, none⟩)) (hp15 _ _ _ _ _ _ _ _ _ rfl rfl) ?_
    refine pl_val (.int .i64 x14) (y_load rfl ((at_load_int Ag3 Sz3 ha15) _ (Chg.refl _ _))) ?_
    refine pl_val (.int .i64 k10) (y_assign rfl) ?_
    refine pl_val (.int .i64 x14) (y_assign rfl) ?_
    refine c_nil ?_
    refine c_seq ?_
    refine c_region ?_
    refine pl_val (.pointer (some ⟨g2, 1, none⟩)) (y_faddr rfl Fa82x1) ?_
    refine pl_val (.slice pa0 pn0 pc0) (y_load rfl ((box_load Ag22 Sz22 hb2 [(.int .i64 f.1)] [(.slice pa0 pn0 pc0)] [] rfl rfl (fun _ => rfl)) _ (Chg.refl _ _))) ?_
    refine pl_val (.pointer (some ⟨g2, 1, none⟩)) (y_faddr rfl Fa82x1) ?_
    refine pl_val (.slice pa0 pn0 pc0) (y_load rfl ((box_load Ag22 Sz22 hb2 [(.int .i64 f.1)] [(.slice pa0 pn0 pc0)] [] rfl rfl (fun _ => rfl)) _ (Chg.refl _ _))) ?_
    refine pl_val (.int .i64 (f.2.length : Int)) (y_len' Sl22 (rs_len h0) rfl) ?_
    refine pl_val (.int .i64 (w64 ((f.2.length : Int) - 1))) (y_sub rfl rfl) ?_
    refine pl_val (.int .i64 k10) (y_move rfl) ?_
    refine pl_val (.int .i64 (w64 ((w64 ((f.2.length : Int) - 1)) - k10))) (y_sub rfl rfl) ?_
    obtain ⟨x16, hx16, hs⟩ := bind_some hs
    obtain ⟨b17, o17, hp17, ha17⟩ := rs_idx Sl22 Sz3 h0 hx16
    refine pl_val (.pointer (some ⟨b17, o17, none⟩)) (hp17 _ _ _ _ _ _ _ _ _ rfl rfl) ?_
    refine pl_val (.int .i64 x16) (y_load rfl ((at_load_int Ag3 Sz3 ha17) _ (Chg.refl _ _))) ?_
    refine pl_val (.int .i64 x14) (y_move rfl) ?_
    refine pl_val (.bool (x16 == x14)) (y_eql rfl rfl) ?_
    refine c_nil ?_
    rcases bif_some hs with ⟨hc18, hs⟩ | ⟨hc18, hs⟩
    · skip
      refine c_condT (congrArg Value.bool hc18) ?_
      refine c_seq ?_
      refine c_region ?_
      refine pl_val (.bool false) (y_assign rfl) ?_
      refine c_nil ?_
      refine wp_ret ?_
      cases hs
      exact ⟨_, fr_ovl 26 ⟨rfl, trivial⟩, hC⟩
    · skip
      refine c_condF (congrArg Value.bool hc18) ?_
      refine wp_skip ?_
      refine c_region ?_
      refine pl_val (.int .i64 (w64 (k10 + 1))) (y_add rfl rfl) ?_
      refine pl_val (.int .i64 (w64 (k10 + 1))) (y_move rfl) ?_
      refine c_nil ?_
      cases hs
      exact ⟨_, fr_ovl 26 ⟨rfl, rfl, rfl, congrArg (Value.int .i64) hw, trivial⟩, hC, hO, h0, hb2⟩
  · skip
    exact ⟨_, fr_ovl 26 ⟨rfl, rfl, rfl, rfl, trivial⟩, hC, hO, h0, hb2⟩
  · cases o12 with
    | nx _ => exact True.intro
    | rt r_ =>
      have hs := after_rt hs
      intro a1 w1 hK
      cases hs
      exact hK
    | br s8 =>
      have hs := after_br hs
      rintro a1 w9 ⟨σ, rfl, hC, hO, h0, hb2⟩
      refine c_seq ?_
      refine c_region ?_
      refine pl_val (.bool true) (y_assign rfl) ?_
      refine c_nil ?_
      refine wp_ret ?_
      cases hs
      exact ⟨_, fr_ovl 26 ⟨rfl, trivial⟩, hC⟩

def k_impl_isSum (M : Nat → Prop) (w0 : World) (r : Bool) (a : Act) (w : World) : Prop :=
  ∃ (σ : Nat → Value) , a = fr 46 (ovl σ [(2, (.bool r))]) ∧ Chg [] w0 w
def s_impl_isSum (f : Int × (List Int)) : Option (Bool) :=
  (forC (S := Unit) (R := Bool) (fun k30 s28 =>
  (idx f.2 k30).bind fun x34 =>
  (idx f.2 0).bind fun x36 =>
  (iter (S := Int × Int) (R := Bool) (fun s45 =>
  (bif (decide (s45.2 < (f.2.length : Int))) then (bif ((iand .i64 k30 s45.2) != 0) then (idx f.2 s45.2).bind fun x54 =>
  (idx f.2 0).bind fun x56 =>
  some (.nx ((ixor .i64 s45.1 (ixor .i64 x54 x56)), w64 (s45.2 * 2))) else some (.nx (s45.1, w64 (s45.2 * 2)))) else some (.br (s45.1, s45.2)))) FU (x36, 1)).bind fun o49 => after o49 (fun r_ => some (.rt r_)) (fun s45 =>
  (bif (x34 != s45.1) then some (.rt false) else some (.nx ())))) 0 (f.2.length : Int) ()).bind fun o32 => after o32 (fun r_ => some r_) (fun s28 =>
  some true)
set_option maxHeartbeats 4000000 in
theorem c_impl_isSum {M : Nat → Prop} {w : World} {pa0 : Option Addr} {pn0 pc0 : Nat} (f : Int × (List Int)) (h0 : (RT.rs (RT.int .i64)).val M w (.slice pa0 pn0 pc0) f.2 ([])) (hM : ∀ g, w.heap.size ≤ g → M g) {r : Bool} (hs : s_impl_isSum f = some r) :
    Gives Try.prog 101 [(.agg #[(.int .i64 f.1), (.slice pa0 pn0 pc0)])] w (fun v w' => v = (.bool r) ∧ Chg [] w w') := by
  refine calls_fr Try.func101 rfl Try.ntmps101 (Nat.le_of_ble_eq_true rfl) ?_
  have hO := Own.start (N := Nw w []) hM Nw.fut
  have hC := Chg.refl [] w
  unfold s_impl_isSum at hs
  refine wp_mono (Q := KPost (k_impl_isSum M w r)) ?_ (fun e a w1 h => ?_)
  rotate_left
  · cases e
    case ret =>
      obtain ⟨σ, rfl, hrest⟩ := h
      exact ret1x Try.results101 (res_tmp rfl) ⟨rfl, hrest⟩
    all_goals exact (h : False).elim
  refine c_seq ?_
  refine c_region ?_
  obtain ⟨w2, g2, ew2, eg2, hC2, hb2⟩ := new_block w [(.int .i64 f.1), (.slice pa0 pn0 pc0)] 82
  refine pl_val (w' := w2) (.pointer (some ⟨g2, 0, none⟩)) (y_box rfl (by rw [ew2, eg2]; kernel_rfl)) ?_
  have h0 := h0.ext hC2
  have hC := hC.ext hC2
  have hO := hO.new (X' := [g2]) hC2 (fun q hq => by rw [List.mem_singleton.1 hq, eg2]; exact Nat.le_refl _) (List.nodup_cons.2 ⟨(fun h => nomatch h), List.nodup_nil⟩) (fun q hq => by rw [List.mem_singleton.1 hq]; exact hb2.lt)
  refine pl_val (.bool false) (y_assign rfl) ?_
  refine c_nil ?_
  refine c_seq ?_
  refine c_seq ?_
  refine c_region ?_
  refine pl_val (.pointer (some ⟨g2, 1, none⟩)) (y_faddr rfl Fa82x1) ?_
  refine pl_val (.slice pa0 pn0 pc0) (y_load rfl ((box_load Ag22 Sz22 hb2 [(.int .i64 f.1)] [(.slice pa0 pn0 pc0)] [] rfl rfl (fun _ => rfl)) _ (Chg.refl _ _))) ?_
  refine pl_val (.int .i64 (f.2.length : Int)) (y_len' Sl22 (rs_len h0) rfl) ?_
  refine pl_val (.int .i64 0) (y_move rfl) ?_
  refine c_nil ?_
  obtain ⟨o32, hl33, hs⟩ := bind_some hs
  refine wp_block ?_
  refine wp_forC (id := 0) (f.2.length : Int) (I := fun k30 s28 a w29 => ∃ (σ : Nat → Value), a = fr 46 (ovl σ [(1, (.pointer (some ⟨g2, 0, none⟩))), (8, (.slice pa0 pn0 pc0)), (9, (.int .i64 (f.2.length : Int))), (10, (.int .i64 k30))]) ∧ Chg [] w w29 ∧ Own (Nw w []) M w29 (([g2]) ++ []) ∧ (RT.rs (RT.int .i64)).val M w29 (.slice pa0 pn0 pc0) f.2 ([]) ∧ BoxV w29 g2 82 [(.int .i64 f.1), (.slice pa0 pn0 pc0)]) (J := fun s28 a w29 => ∃ (σ : Nat → Value), a = fr 46 (ovl σ []) ∧ Chg [] w w29 ∧ Own (Nw w []) M w29 (([g2]) ++ []) ∧ (RT.rs (RT.int .i64)).val M w29 (.slice pa0 pn0 pc0) f.2 ([]) ∧ BoxV w29 g2 82 [(.int .i64 f.1), (.slice pa0 pn0 pc0)]) (K := (k_impl_isSum M w)) ?_ ?_ 0 () o32 _ _ ?_ hl33 ?_
  · rintro k30 s28 a w29 ⟨σ, rfl, hC, hO, h0, hb2⟩ hlt
    refine c_seq ?_
    refine c_region ?_
    refine pl_val (.bool (decide (k30 < (f.2.length : Int)))) (y_lss rfl rfl) ?_
    refine c_nil ?_
    refine c_seq ?_
    refine c_condF (congrArg Value.bool (decide_eq_false hlt)) ?_
    refine wp_exit ?_
    exact ⟨rfl, _, fr_ovl 46 trivial, hC, hO, h0, hb2⟩
  · rintro k30 s28 o32 a w29 ⟨σ, rfl, hC, hO, h0, hb2⟩ hlt hw hs
    refine c_seq ?_
    refine c_region ?_
    refine pl_val (.bool (decide (k30 < (f.2.length : Int)))) (y_lss rfl rfl) ?_
    refine c_nil ?_
    refine c_seq ?_
    refine c_condT (congrArg Value.bool (decide_eq_true hlt)) ?_
    refine wp_skip ?_
    refine c_seq ?_
    refine wp_block ?_
    refine c_seq ?_
    refine c_region ?_
    refine pl_val (.int .i64 k30) (y_move rfl) ?_
    obtain ⟨x34, hx34, hs⟩ := bind_some hs
    obtain ⟨b35, o35, hp35, ha35⟩ := rs_idx Sl22 Sz3 h0 hx34
    refine pl_val (.pointer (some ⟨b35, o35, none⟩)) (hp35 _ _ _ _ _ _ _ _ _ rfl rfl) ?_
    refine pl_val (.int .i64 x34) (y_load rfl ((at_load_int Ag3 Sz3 ha35) _ (Chg.refl _ _))) ?_
    refine pl_val (.int .i64 k30) (y_assign rfl) ?_
    refine pl_val (.int .i64 x34) (y_assign rfl) ?_
    refine c_nil ?_
    refine c_seq ?_
    refine c_region ?_
    refine pl_val (.pointer (some ⟨g2, 1, none⟩)) (y_faddr rfl Fa82x1) ?_
    refine pl_val (.slice pa0 pn0 pc0) (y_load rfl ((box_load Ag22 Sz22 hb2 [(.int .i64 f.1)] [(.slice pa0 pn0 pc0)] [] rfl rfl (fun _ => rfl)) _ (Chg.refl _ _))) ?_
    obtain ⟨x36, hx36, hs⟩ := bind_some hs
    obtain ⟨b37, o37, hp37, ha37⟩ := rs_idx Sl22 Sz3 h0 hx36
    refine pl_val (.pointer (some ⟨b37, o37, none⟩)) (hp37 _ _ _ _ _ _ _ _ _ rfl rfl) ?_
    refine pl_val (.int .i64 x36) (y_load rfl ((at_load_int Ag3 Sz3 ha37) _ (Chg.refl _ _))) ?_
    refine pl_val (.int .i64 x36) (y_assign rfl) ?_
    refine c_nil ?_
    refine c_seq ?_
    refine c_seq ?_
    refine c_region ?_
    refine pl_val (.int .i64 1) (y_assign rfl) ?_
    refine c_nil ?_
    obtain ⟨o49, hl50, hs⟩ := bind_some hs
    refine wp_block ?_
    refine wp_iter (id := 2) (I := fun s45 a w46 => ∃ (σ : Nat → Value), a = fr 46 (ovl σ [(1, (.pointer (some ⟨g2, 0, none⟩))), (3, (.int .i64 k30)), (4, (.int .i64 x34)), (5, (.int .i64 s45.1)), (6, (.int .i64 s45.2)), (8, (.slice pa0 pn0 pc0)), (9, (.int .i64 (f.2.length : Int))), (10, (.int .i64 k30))]) ∧ Chg [] w w46 ∧ Own (Nw w []) M w46 (([g2]) ++ []) ∧ (RT.rs (RT.int .i64)).val M w46 (.slice pa0 pn0 pc0) f.2 ([]) ∧ BoxV w46 g2 82 [(.int .i64 f.1), (.slice pa0 pn0 pc0)]) (J := fun s45 a w46 => ∃ (σ : Nat → Value), a = fr 46 (ovl σ [(1, (.pointer (some ⟨g2, 0, none⟩))), (4, (.int .i64 x34)), (5, (.int .i64 s45.1)), (8, (.slice pa0 pn0 pc0)), (9, (.int .i64 (f.2.length : Int))), (10, (.int .i64 k30))]) ∧ Chg [] w w46 ∧ Own (Nw w []) M w46 (([g2]) ++ []) ∧ (RT.rs (RT.int .i64)).val M w46 (.slice pa0 pn0 pc0) f.2 ([]) ∧ BoxV w46 g2 82 [(.int .i64 f.1), (.slice pa0 pn0 pc0)]) (K := (k_impl_isSum M w)) ?_ FU (x36, 1) o49 _ _ ?_ hl50 ?_
    · rintro s45 o49 a w46 ⟨σ, rfl, hC, hO, h0, hb2⟩ hs
      refine c_seq ?_
      refine c_seq ?_
      refine c_region ?_
      refine pl_val (.int .i64 s45.2) (y_move rfl) ?_
      refine pl_val (.pointer (some ⟨g2, 1, none⟩)) (y_faddr rfl Fa82x1) ?_
      refine pl_val (.slice pa0 pn0 pc0) (y_load rfl ((box_load Ag22 Sz22 hb2 [(.int .i64 f.1)] [(.slice pa0 pn0 pc0)] [] rfl rfl (fun _ => rfl)) _ (Chg.refl _ _))) ?_
      refine pl_val (.int .i64 (f.2.length : Int)) (y_len' Sl22 (rs_len h0) rfl) ?_
      refine pl_val (.bool (decide (s45.2 < (f.2.length : Int)))) (y_lss rfl rfl) ?_
      refine c_nil ?_
      rcases bif_some hs with ⟨hc51, hs⟩ | ⟨hc51, hs⟩
      · skip
        refine c_condT (congrArg Value.bool hc51) ?_
        refine wp_skip ?_
        refine c_seq ?_
        refine wp_block ?_
        refine c_seq ?_
        refine c_region ?_
        refine pl_val (.int .i64 k30) (y_move rfl) ?_
        refine pl_val (.int .i64 s45.2) (y_move rfl) ?_
        refine pl_val (.int .i64 (iand .i64 k30 s45.2)) (y_and rfl rfl) ?_
        refine pl_val (.bool ((iand .i64 k30 s45.2) != 0)) (y_neq rfl rfl) ?_
        refine c_nil ?_
        rcases bif_some hs with ⟨hc52, hs⟩ | ⟨hc52, hs⟩
        · skip
          refine c_condT (congrArg Value.bool hc52) ?_
          refine x_start [] Mx rfl ?_
          have hCw53 := Chg.drew w46
          generalize World.drew w46 = w53 at hCw53 ⊢
          have h0 := h0.ext hCw53
          have hb2 := hb2.chg hCw53 (fun h => nomatch h)
          have hC := hC.ext hCw53
          have hO := hO.ext hCw53
          have hS := Chg.refl [] w53
          refine x_p 0 (.int .i64 s45.1) rfl (by kernel_rfl)  (fun _ => y_move rfl) (fun _ => hS) ?_
          refine x_p 1 (.pointer (some ⟨g2, 1, none⟩)) rfl (by kernel_rfl)  (fun _ => y_faddr rfl Fa82x1) (fun _ => hS) ?_
          refine x_l 2 (.slice pa0 pn0 pc0) rfl (by kernel_rfl)  (fun w' hw' => y_load rfl ((box_load Ag22 Sz22 hb2 [(.int .i64 f.1)] [(.slice pa0 pn0 pc0)] [] rfl rfl (fun _ => rfl)) w' hw')) hS ?_
          refine x_p 3 (.int .i64 s45.2) rfl (by kernel_rfl)  (fun _ => y_move rfl) (fun _ => hS) ?_
          obtain ⟨x54, hx54, hs⟩ := bind_some hs
          obtain ⟨b55, o55, hp55, ha55⟩ := rs_idx Sl22 Sz3 h0 hx54
          refine x_p 4 (.pointer (some ⟨b55, o55, none⟩)) rfl (by kernel_rfl)  (fun _ => hp55 _ _ _ _ _ _ _ _ _ rfl rfl) (fun _ => hS) ?_
          refine x_l 5 (.int .i64 x54) rfl (by kernel_rfl)  (fun w' hw' => y_load rfl ((at_load_int Ag3 Sz3 ha55) w' hw')) hS ?_
          refine x_p 6 (.pointer (some ⟨g2, 1, none⟩)) rfl (by kernel_rfl)  (fun _ => y_faddr rfl Fa82x1) (fun _ => hS) ?_
          refine x_l 7 (.slice pa0 pn0 pc0) rfl (by kernel_rfl)  (fun w' hw' => y_load rfl ((box_load Ag22 Sz22 hb2 [(.int .i64 f.1)] [(.slice pa0 pn0 pc0)] [] rfl rfl (fun _ => rfl)) w' hw')) hS ?_
          obtain ⟨x56, hx56, hs⟩ := bind_some hs
          obtain ⟨b57, o57, hp57, ha57⟩ := rs_idx Sl22 Sz3 h0 hx56
          refine x_p 8 (.pointer (some ⟨b57, o57, none⟩)) rfl (by kernel_rfl)  (fun _ => hp57 _ _ _ _ _ _ _ _ _ rfl rfl) (fun _ => hS) ?_
          refine x_l 9 (.int .i64 x56) rfl (by kernel_rfl)  (fun w' hw' => y_load rfl ((at_load_int Ag3 Sz3 ha57) w' hw')) hS ?_
          refine x_p 10 (.int .i64 (ixor .i64 x54 x56)) rfl (by kernel_rfl)  (fun _ => y_xor rfl rfl) (fun _ => hS) ?_
          refine x_p 11 (.int .i64 (ixor .i64 s45.1 (ixor .i64 x54 x56))) rfl (by kernel_rfl)  (fun _ => y_xor rfl rfl) (fun _ => hS) ?_
          refine x_p 12 (.int .i64 (ixor .i64 s45.1 (ixor .i64 x54 x56))) rfl (by kernel_rfl)  (fun _ => y_assign rfl) (fun _ => hS) ?_
          refine x_end (by kernel_rfl) ?_
          clear hS
          refine c_region ?_
          refine pl_val (.int .i64 s45.2) (y_move rfl) ?_
          refine pl_val (.int .i64 (w64 (s45.2 * 2))) (y_mul rfl rfl) ?_
          refine pl_val (.int .i64 (w64 (s45.2 * 2))) (y_assign rfl) ?_
          refine c_nil ?_
          cases hs
          exact ⟨_, fr_ovl 46 ⟨rfl, rfl, rfl, rfl, rfl, rfl, rfl, rfl, trivial⟩, hC, hO, h0, hb2⟩
        · skip
          refine c_condF (congrArg Value.bool hc52) ?_
          refine wp_skip ?_
          refine c_region ?_
          refine pl_val (.int .i64 s45.2) (y_move rfl) ?_
          refine pl_val (.int .i64 (w64 (s45.2 * 2))) (y_mul rfl rfl) ?_
          refine pl_val (.int .i64 (w64 (s45.2 * 2))) (y_assign rfl) ?_
          refine c_nil ?_
          cases hs
          exact ⟨_, fr_ovl 46 ⟨rfl, rfl, rfl, rfl, rfl, rfl, rfl, rfl, trivial⟩, hC, hO, h0, hb2⟩
      · skip
        refine c_condF (congrArg Value.bool hc51) ?_
        refine wp_exit ?_
        cases hs
        exact ⟨rfl, _, fr_ovl 46 ⟨rfl, rfl, rfl, rfl, rfl, rfl, trivial⟩, hC, hO, h0, hb2⟩
    · skip
      exact ⟨_, fr_ovl 46 ⟨rfl, rfl, rfl, rfl, rfl, rfl, rfl, rfl, trivial⟩, hC, hO, h0, hb2⟩
    · cases o49 with
      | nx _ => exact True.intro
      | rt r_ =>
        have hs := after_rt hs
        intro a1 w1 hK
        cases hs
        exact hK
      | br s45 =>
        have hs := after_br hs
        rintro a1 w46 ⟨σ, rfl, hC, hO, h0, hb2⟩
        refine c_seq ?_
        refine c_region ?_
        refine pl_val (.int .i64 x34) (y_move rfl) ?_
        refine pl_val (.int .i64 s45.1) (y_move rfl) ?_
        refine pl_val (.bool (x34 != s45.1)) (y_neq rfl rfl) ?_
        refine c_nil ?_
        rcases bif_some hs with ⟨hc58, hs⟩ | ⟨hc58, hs⟩
        · skip
          refine c_condT (congrArg Value.bool hc58) ?_
          refine c_seq ?_
          refine c_region ?_
          refine pl_val (.bool false) (y_assign rfl) ?_
          refine c_nil ?_
          refine wp_ret ?_
          cases hs
          exact ⟨_, fr_ovl 46 ⟨rfl, trivial⟩, hC⟩
        · skip
          refine c_condF (congrArg Value.bool hc58) ?_
          refine wp_skip ?_
          refine c_region ?_
          refine pl_val (.int .i64 (w64 (k30 + 1))) (y_add rfl rfl) ?_
          refine pl_val (.int .i64 (w64 (k30 + 1))) (y_move rfl) ?_
          refine c_nil ?_
          cases hs
          exact ⟨_, fr_ovl 46 ⟨rfl, rfl, rfl, congrArg (Value.int .i64) hw, trivial⟩, hC, hO, h0, hb2⟩
  · skip
    exact ⟨_, fr_ovl 46 ⟨rfl, rfl, rfl, rfl, trivial⟩, hC, hO, h0, hb2⟩
  · cases o32 with
    | nx _ => exact True.intro
    | rt r_ =>
      have hs := after_rt hs
      intro a1 w1 hK
      cases hs
      exact hK
    | br s28 =>
      have hs := after_br hs
      rintro a1 w29 ⟨σ, rfl, hC, hO, h0, hb2⟩
      refine c_seq ?_
      refine c_region ?_
      refine pl_val (.bool true) (y_assign rfl) ?_
      refine c_nil ?_
      refine wp_ret ?_
      cases hs
      exact ⟨_, fr_ovl 46 ⟨rfl, trivial⟩, hC⟩

theorem Bd98 : Bodied Try.prog 98 := bodied Try.func98 (by kernel_rfl) rfl

theorem Bd99 : Bodied Try.prog 99 := bodied Try.func99 (by kernel_rfl) rfl

theorem Bd100 : Bodied Try.prog 100 := bodied Try.func100 (by kernel_rfl) rfl

theorem Bd101 : Bodied Try.prog 101 := bodied Try.func101 (by kernel_rfl) rfl

def k_impl_PostClasses (M : Nat → Prop) (w0 : World) (r : (List Bool) × Bool) (a : Act) (w : World) : Prop :=
  ∃ (σ : Nat → Value) (ra0 : Option Addr) (rn0 rc0 : Nat) (rf0 : List Nat), a = fr 81 (ovl σ [(2, (.slice ra0 rn0 rc0)), (3, (.bool r.2))]) ∧ Chg [] w0 w ∧ (RT.os 4 RT.bool).val M w (.slice ra0 rn0 rc0) r.1 rf0 ∧ Own (Nw w0 []) (fun _ => True) w (rf0 ++ ([]))
def s_impl_PostClasses (a_ : Int × (List (Int × (List Int)))) : Option ((List Bool) × Bool) :=
  ((s_impl_IsAlgebra (a_.1, a_.2)).bind fun r7 =>
  (bif (!r7) then some true else some (a_.1 != 2))).bind fun s3 =>
  (bif s3 then some ([], false) else (forR (S := (List Bool)) (R := (List Bool) × Bool) (fun _ x354 s351 =>
  ((idx s351 0).bind fun x390 =>
  (bif x390 then (idx x354.2 0).bind fun x393 =>
  (idx s351 0).bind fun x395 =>
  some (List.set s351 (Int.toNat 0) (x393 == 0)) else (idx s351 0).bind fun x398 =>
  some (List.set s351 (Int.toNat 0) false))).bind fun s386 =>
  ((idx s386 1).bind fun x428 =>
  (bif x428 then (idx x354.2 (w64 ((x354.2.length : Int) - 1))).bind fun x431 =>
  (idx s386 1).bind fun x433 =>
  some (List.set s386 (Int.toNat 1) (x431 == 1)) else (idx s386 1).bind fun x436 =>
  some (List.set s386 (Int.toNat 1) false))).bind fun s424 =>
  ((idx s424 2).bind fun x466 =>
  (bif x466 then (s_impl_isMonotone (x354.1, x354.2)).bind fun r470 =>
  (idx s424 2).bind fun x471 =>
  some (List.set s424 (Int.toNat 2) r470) else (idx s424 2).bind fun x474 =>
  some (List.set s424 (Int.toNat 2) false))).bind fun s462 =>
  ((idx s462 3).bind fun x504 =>
  (bif x504 then (s_impl_isSelfDual (x354.1, x354.2)).bind fun r508 =>
  (idx s462 3).bind fun x509 =>
  some (List.set s462 (Int.toNat 3) r508) else (idx s462 3).bind fun x512 =>
  some (List.set s462 (Int.toNat 3) false))).bind fun s500 =>
  (idx s500 4).bind fun x516 =>
  (bif x516 then (s_impl_isSum (x354.1, x354.2)).bind fun r520 =>
  (idx s500 4).bind fun x521 =>
  some (.nx (List.set s500 (Int.toNat 4) r520)) else (idx s500 4).bind fun x524 =>
  some (.nx (List.set s500 (Int.toNat 4) false)))) 0 a_.2 ([true, true, true, true, true])).bind fun o355 => after o355 (fun r_ => some r_) (fun s351 =>
  some (s351, true)))
set_option maxHeartbeats 4000000 in
theorem c_impl_PostClasses {M : Nat → Prop} {w : World} {pa0 : Option Addr} {pn0 pc0 : Nat} (a_ : Int × (List (Int × (List Int)))) (h0 : (RT.rs (RT.pr (RT.int .i64) (RT.rs (RT.int .i64)))).val M w (.slice pa0 pn0 pc0) a_.2 ([])) (hM : ∀ g, w.heap.size ≤ g → M g) {r : (List Bool) × Bool} (hs : s_impl_PostClasses a_ = some r) :
    Gives Try.prog 38 [(.agg #[(.int .i64 a_.1), (.slice pa0 pn0 pc0)])] w (fun v w' => ∃ (ra0 : Option Addr) (rn0 rc0 : Nat) (rf0 : List Nat), v = (.tuple #[(.slice ra0 rn0 rc0), (.bool r.2)]) ∧ Chg [] w w' ∧ (RT.os 4 RT.bool).val M w' (.slice ra0 rn0 rc0) r.1 rf0 ∧ Own (Nw w []) (fun _ => True) w' (rf0 ++ ([]))) := by
  refine calls_fr Try.func38 rfl Try.ntmps38 (Nat.le_of_ble_eq_true rfl) ?_
  have hO := Own.start (N := Nw w []) hM Nw.fut
  have hC := Chg.refl [] w
  unfold s_impl_PostClasses at hs
  refine wp_mono (Q := KPost (k_impl_PostClasses M w r)) ?_ (fun e a w1 h => ?_)
  rotate_left
  · cases e
    case ret =>
      obtain ⟨σ, ra0, rn0, rc0, rf0, rfl, hrest⟩ := h
      exact ret2x Try.results38 (res_tmp rfl) (res_tmp rfl) ⟨ra0, rn0, rc0, rf0, rfl, hrest⟩
    all_goals exact (h : False).elim
  refine c_seq ?_
  refine c_region ?_
  obtain ⟨w2, g2, ew2, eg2, hC2, hb2⟩ := new_block w [(.int .i64 a_.1), (.slice pa0 pn0 pc0)] 62
  refine pl_val (w' := w2) (.pointer (some ⟨g2, 0, none⟩)) (y_box rfl (by rw [ew2, eg2]; kernel_rfl)) ?_
  have h0 := h0.ext hC2
  have hC := hC.ext hC2
  have hO := hO.new (X' := [g2]) hC2 (fun q hq => by rw [List.mem_singleton.1 hq, eg2]; exact Nat.le_refl _) (List.nodup_cons.2 ⟨(fun h => nomatch h), List.nodup_nil⟩) (fun q hq => by rw [List.mem_singleton.1 hq]; exact hb2.lt)
  refine pl_val (.slice none 0 0) (y_assign rfl) ?_
  refine pl_val (.bool false) (y_assign rfl) ?_
  refine c_nil ?_
  refine c_seq ?_
  refine c_seq ?_
  obtain ⟨s3, hm5, hs⟩ := bind_some hs
  refine c_mid (I := fun a w4 => ∃ (σ : Nat → Value), a = fr 81 (ovl σ [(1, (.pointer (some ⟨g2, 0, none⟩))), (2, (.slice none 0 0)), (3, (.bool false)), (14, (.bool s3))]) ∧ Chg [] w2 w4) ?_ ?_
  · replace hs := hm5
    have hMid := Chg.refl [] w2
    refine c_region ?_
    refine pl_val (.agg #[(.int .i64 a_.1), (.slice pa0 pn0 pc0)]) (y_load rfl ((box_load Ag62 Sz62 hb2 [] [(.int .i64 a_.1), (.slice pa0 pn0 pc0)] [] rfl rfl (fun h => nomatch h)) _ (Chg.refl _ _))) ?_
    obtain ⟨r7, hr7, hs⟩ := bind_some hs
    refine pl_call Bd98 rfl (c_impl_IsAlgebra (M := M) (a_.1, a_.2) h0 hO.fut hr7) ?_
    rintro _ w6 ⟨rfl, hC6⟩
    have h0 := h0.ext hC6
    have hb2 := hb2.chg hC6 (fun h => nomatch h)
    have hMid := hMid.ext hC6
    have hC := hC.ext hC6
    have hO := hO.ext hC6
    refine pl_val (.bool (!r7)) (y_not rfl) ?_
    refine pl_val (.bool (!r7)) (y_move rfl) ?_
    rcases bif_some hs with ⟨hc8, hs⟩ | ⟨hc8, hs⟩
    · skip
      refine pl_not (tg := 10) (by kernel_rfl) (congrArg Value.bool hc8) ?_
      refine pl_not (tg := 10) (by kernel_rfl) (congrArg Value.bool hc8) ?_
      refine pl_not (tg := 10) (by kernel_rfl) (congrArg Value.bool hc8) ?_
      refine pl_val (.bool true) (y_pick_t (congrArg Value.bool hc8) rfl) ?_
      refine c_nil ?_
      cases hs
      exact ⟨_, fr_ovl 81 ⟨rfl, rfl, rfl, rfl, trivial⟩, hMid⟩
    · skip
      refine pl_yes (.pointer (some ⟨g2, 0, none⟩)) (tg := 10) (by kernel_rfl) (congrArg Value.bool hc8) (y_faddr rfl Fa62x0) ?_
      refine pl_yes (.int .i64 a_.1) (tg := 10) (by kernel_rfl) (congrArg Value.bool hc8) (y_load rfl ((box_load Ag3 Sz3 hb2 [] [(.int .i64 a_.1)] [(.slice pa0 pn0 pc0)] rfl rfl (fun _ => rfl)) _ (Chg.refl _ _))) ?_
      refine pl_yes (.bool (a_.1 != 2)) (tg := 10) (by kernel_rfl) (congrArg Value.bool hc8) (y_neq rfl rfl) ?_
      refine pl_val (.bool (a_.1 != 2)) (y_pick_f (congrArg Value.bool hc8) rfl) ?_
      refine c_nil ?_
      cases hs
      exact ⟨_, fr_ovl 81 ⟨rfl, rfl, rfl, rfl, trivial⟩, hMid⟩
  · rintro a1 w4 ⟨σ, rfl, hCs3⟩
    have h0 := h0.ext hCs3
    have hb2 := hb2.chg hCs3 (fun h => nomatch h)
    have hC := hC.ext hCs3
    have hO := hO.ext hCs3
    rcases bif_some hs with ⟨hc9, hs⟩ | ⟨hc9, hs⟩
    · skip
      refine c_condT (congrArg Value.bool hc9) ?_
      refine c_seq ?_
      refine c_region ?_
      obtain ⟨w10, g10, ew10, eg10, hC10, hb10⟩ := new_block w4 [] 4
      refine pl_val (w' := w10) (.slice (some ⟨g10, 0, none⟩) 0 0) (y_bslice rfl (by rw [ew10, eg10]; kernel_rfl)) ?_
      have h0 := h0.ext hC10
      have hb2 := hb2.chg hC10 (fun h => nomatch h)
      have hC := hC.ext hC10
      have hO := hO.new (X' := [g10]) hC10 (fun q hq => by rw [List.mem_singleton.1 hq, eg10]; exact Nat.le_refl _) (List.nodup_cons.2 ⟨(fun h => nomatch h), List.nodup_nil⟩) (fun q hq => by rw [List.mem_singleton.1 hq]; exact hb10.lt)
      have hv10 := os_of_box (r := RT.bool) (M := M) (css := []) (fps := []) (xs := ([] : List Bool)) hb10 trivial (Nat.zero_le _) (List.nodup_cons.2 ⟨(fun h => nomatch h), List.nodup_nil⟩)
      have hv10 : (RT.os 4 RT.bool).val M w10 (.slice (some ⟨g10, 0, none⟩) 0 0) [] [g10] := hv10
      refine pl_val (.slice (some ⟨g10, 0, none⟩) 0 0) (y_assign rfl) ?_
      refine pl_val (.bool false) (y_assign rfl) ?_
      refine c_nil ?_
      refine wp_ret ?_
      cases hs
      have hO := hO.fr1
      have hO := hO.drop
      exact ⟨_, (some ⟨g10, 0, none⟩), 0, 0, ([g10]), fr_ovl 81 ⟨rfl, rfl, trivial⟩, hC, hv10, hO.top⟩
    · skip
      refine c_condF (congrArg Value.bool hc9) ?_
      refine wp_skip ?_
      refine c_seq ?_
      refine c_region ?_
      obtain ⟨w12, g12, ew12, eg12, hC12, hb12⟩ := new_block w4 [(.bool true), (.bool true), (.bool true), (.bool true), (.bool true)] 4
      refine pl_val (w' := w12) (.slice (some ⟨g12, 0, none⟩) 5 5) (y_bslice rfl (by rw [ew12, eg12]; kernel_rfl)) ?_
      have h0 := h0.ext hC12
      have hb2 := hb2.chg hC12 (fun h => nomatch h)
      have hC := hC.ext hC12
      have hO := hO.new (X' := [g12]) hC12 (fun q hq => by rw [List.mem_singleton.1 hq, eg12]; exact Nat.le_refl _) (List.nodup_cons.2 ⟨(fun h => nomatch h), List.nodup_nil⟩) (fun q hq => by rw [List.mem_singleton.1 hq]; exact hb12.lt)
      have hv12 := os_of_box (r := RT.bool) (M := M) (css := [[(.bool true)], [(.bool true)], [(.bool true)], [(.bool true)], [(.bool true)]]) (fps := [([] : List Nat), ([] : List Nat), ([] : List Nat), ([] : List Nat), ([] : List Nat)]) (xs := ([true, true, true, true, true] : List Bool)) hb12 ⟨⟨rfl, rfl⟩, ⟨⟨rfl, rfl⟩, ⟨⟨rfl, rfl⟩, ⟨⟨rfl, rfl⟩, ⟨⟨rfl, rfl⟩, trivial⟩⟩⟩⟩⟩ (Nat.le_of_ble_eq_true rfl) (List.nodup_cons.2 ⟨(fun h => nomatch h), List.nodup_nil⟩)
      have hv12 : (RT.os 4 RT.bool).val M w12 (.slice (some ⟨g12, 0, none⟩) 5 5) [true, true, true, true, true] [g12] := hv12
      refine pl_val (.slice (some ⟨g12, 0, none⟩) 5 5) (y_assign rfl) ?_
      refine c_nil ?_
      refine c_seq ?_
      refine c_seq ?_
      refine c_region ?_
      refine pl_val (.pointer (some ⟨g2, 1, none⟩)) (y_faddr rfl Fa62x1) ?_
      refine pl_val (.slice pa0 pn0 pc0) (y_load rfl ((box_load Ag60 Sz60 hb2 [(.int .i64 a_.1)] [(.slice pa0 pn0 pc0)] [] rfl rfl (fun _ => rfl)) _ (Chg.refl _ _))) ?_
      refine pl_val (.int .i64 (a_.2.length : Int)) (y_len' Sl60 (rs_len h0) rfl) ?_
      refine pl_val (.int .i64 0) (y_move rfl) ?_
      refine c_nil ?_
      have hO := hO.fr1
      have hO := hO.drop
      obtain ⟨o355, hl356, hs⟩ := bind_some hs
      refine wp_block ?_
      refine wp_forR (id := 0) (I := fun i_ xs_ s351 a w352 => ∃ k353 : Nat, i_ = (k353 : Int) ∧ List.drop k353 a_.2 = xs_ ∧ (∃ (σ : Nat → Value) (f357 : List Nat), a = fr 81 (ovl σ [(4, (.slice (some ⟨g12, 0, none⟩) 5 5)), (18, (.slice pa0 pn0 pc0)), (19, (.int .i64 (a_.2.length : Int))), (20, (.int .i64 (k353 : Int)))]) ∧ Chg [] w w352 ∧ Own (Nw w []) M w352 (f357 ++ []) ∧ (RT.rs (RT.pr (RT.int .i64) (RT.rs (RT.int .i64)))).val M w352 (.slice pa0 pn0 pc0) a_.2 ([]) ∧ (RT.os 4 RT.bool).val M w352 (.slice (some ⟨g12, 0, none⟩) 5 5) s351 f357)) (J := fun s351 a w352 => ∃ (σ : Nat → Value) (f358 : List Nat), a = fr 81 (ovl σ [(4, (.slice (some ⟨g12, 0, none⟩) 5 5))]) ∧ Chg [] w w352 ∧ Own (Nw w []) M w352 (f358 ++ []) ∧ (RT.rs (RT.pr (RT.int .i64) (RT.rs (RT.int .i64)))).val M w352 (.slice pa0 pn0 pc0) a_.2 ([]) ∧ (RT.os 4 RT.bool).val M w352 (.slice (some ⟨g12, 0, none⟩) 5 5) s351 f358) (K := (k_impl_PostClasses M w)) ?_ ?_ a_.2 0 ([true, true, true, true, true]) o355 _ _ ?_ hl356 ?_
      · rintro _ s351 a w352 ⟨k353, rfl, hd, σ, f357, rfl, hC, hO, h0, hv357⟩
        have hlt := drop_nil_ge hd
        refine c_seq ?_
        refine c_region ?_
        refine pl_val (.bool (decide ((k353 : Int) < (a_.2.length : Int)))) (y_lss rfl rfl) ?_
        refine c_nil ?_
        refine c_seq ?_
        refine c_condF (congrArg Value.bool (decide_eq_false hlt)) ?_
        refine wp_exit ?_
        exact ⟨rfl, _, f357, fr_ovl 81 ⟨rfl, trivial⟩, hC, hO, h0, hv357⟩
      · rintro _ x354 xs_ s351 o355 a w352 ⟨k353, rfl, hd, σ, f357, rfl, hC, hO, h0, hv357⟩ hs
        have hlt := drop_cons_lt hd
        have hxk353 := drop_cons_idx hd
        refine c_seq ?_
        refine c_region ?_
        refine pl_val (.bool (decide ((k353 : Int) < (a_.2.length : Int)))) (y_lss rfl rfl) ?_
        refine c_nil ?_
        refine c_seq ?_
        refine c_condT (congrArg Value.bool (decide_eq_true hlt)) ?_
        refine wp_skip ?_
        refine c_seq ?_
        refine wp_block ?_
        refine c_seq ?_
        refine c_region ?_
        obtain ⟨b359, o359, hp359, ha359⟩ := rs_idx Sl60 Sz82 h0 hxk353
        refine pl_val (.pointer (some ⟨b359, o359, none⟩)) (hp359 _ _ _ _ _ _ _ _ _ rfl rfl) ?_
        obtain ⟨v360, hl360, hv360⟩ := at_load Ag82 Sz82 (by intro h; cases h) ha359
        obtain ⟨cs360, rfl, hr360⟩ := hv360
        obtain ⟨cc360x1, cd360x1, rfl, hh360x1, ht360x1⟩ := pr_open hr360
        obtain rfl := int_rel hh360x1
        obtain ⟨a360x2, n360x2, c360x2, rfl, hv360x2⟩ := rs_rel ht360x1
        refine pl_val (.agg #[(.int .i64 x354.1), (.slice a360x2 n360x2 c360x2)]) (y_load rfl (hl360 _ (Chg.refl _ _))) ?_
        obtain ⟨w362, g362, ew362, eg362, hC362, hb362⟩ := new_block w352 [(.int .i64 0), (.slice none 0 0)] 82
        refine pl_val (w' := w362) (.pointer (some ⟨g362, 0, none⟩)) (y_alloc (by rw [ew362, eg362]; kernel_rfl)) ?_
        have h0 := h0.ext hC362
        have hv357 := hv357.ext hC362
        have hv360x2 := hv360x2.ext hC362
        have hC := hC.ext hC362
        have hO := hO.new (X' := [g362]) hC362 (fun q hq => by rw [List.mem_singleton.1 hq, eg362]; exact Nat.le_refl _) (List.nodup_cons.2 ⟨(fun h => nomatch h), List.nodup_nil⟩) (fun q hq => by rw [List.mem_singleton.1 hq]; exact hb362.lt)
        obtain ⟨w363, hst363, hC363, hb363⟩ := box_store (P := Try.prog) hb362 [] [(.int .i64 0), (.slice none 0 0)] [] [(.int .i64 x354.1), (.slice a360x2 n360x2 c360x2)] rfl rfl (by intro u hu; simp only [List.mem_cons, List.not_mem_nil, or_false] at hu; rcases hu with rfl | rfl <;> rfl)
        refine pl_skip (w' := w363) (ys_store rfl rfl (hst363 _ _ rfl Sz82)) ?_
        have h0 := h0.mut hC363 (fun g hg => hO.inM g ((fun _ h => h) g hg)) (fun _ _ h => nomatch h)
        have hv357 := hv357.mut hC363 (fun g hg => hO.inM g ((fun _ h => h) g hg)) (fun g hg e => hO.apart g ((fun _ h => h) g hg) (mem_l (e)))
        have hv360x2 := hv360x2.mut hC363 (fun g hg => hO.inM g ((fun _ h => h) g hg)) (fun _ _ h => nomatch h)
        have hC := hC.step hC363 (fun g hg => hO.inN g ((fun _ h => h) g hg))
        have hO := hO.ext hC363
        have hb363 : BoxV w363 g362 82 [(.int .i64 x354.1), (.slice a360x2 n360x2 c360x2)] := hb363
        refine c_nil ?_
        refine c_seq ?_
        obtain ⟨s386, hm388, hs⟩ := bind_some hs
        refine c_mid (I := fun a w387 => ∃ (σ : Nat → Value) (f389 : List Nat), a = fr 81 (ovl σ [(4, (.slice (some ⟨g12, 0, none⟩) 5 5)), (6, (.pointer (some ⟨g362, 0, none⟩))), (18, (.slice pa0 pn0 pc0)), (19, (.int .i64 (a_.2.length : Int))), (20, (.int .i64 (k353 : Int)))]) ∧ Chg [] w w387 ∧ Own (Nw w []) M w387 (([g362]) ++ (f389 ++ [])) ∧ (RT.rs (RT.pr (RT.int .i64) (RT.rs (RT.int .i64)))).val M w387 (.slice pa0 pn0 pc0) a_.2 ([]) ∧ (RT.os 4 RT.bool).val M w387 (.slice (some ⟨g12, 0, none⟩) 5 5) s386 f389 ∧ (RT.rs (RT.int .i64)).val M w387 (.slice a360x2 n360x2 c360x2) x354.2 ([]) ∧ BoxV w387 g362 82 [(.int .i64 x354.1), (.slice a360x2 n360x2 c360x2)]) ?_ ?_
        · replace hs := hm388
          refine c_region ?_
          refine pl_val (.slice (some ⟨g12, 0, none⟩) 5 5) (y_move rfl) ?_
          refine pl_val (.slice (some ⟨g12, 0, none⟩) 5 5) (y_move rfl) ?_
          obtain ⟨x390, hx390, hs⟩ := bind_some hs
          obtain ⟨g391, f391, hg391, hk391, hp391, ha391, hf391⟩ := os_idx Sl57 Sz4 hv357 hx390
          refine pl_val (.pointer (some ⟨g391, 0 + Int.toNat 0 * 1, none⟩)) (hp391 _ _ _ _ _ _ _ _ _ rfl rfl) ?_
          refine pl_val (.bool x390) (y_load rfl ((at_load_bool Ag4 Sz4 ha391) _ (Chg.refl _ _))) ?_
          refine pl_val (.bool x390) (y_move rfl) ?_
          rcases bif_some hs with ⟨hc392, hs⟩ | ⟨hc392, hs⟩
          · skip
            refine pl_yes (.pointer (some ⟨g362, 1, none⟩)) (tg := 28) (by kernel_rfl) (congrArg Value.bool hc392) (y_faddr rfl Fa82x1) ?_
            refine pl_yes (.slice a360x2 n360x2 c360x2) (tg := 28) (by kernel_rfl) (congrArg Value.bool hc392) (y_load rfl ((box_load Ag22 Sz22 hb363 [(.int .i64 x354.1)] [(.slice a360x2 n360x2 c360x2)] [] rfl rfl (fun _ => rfl)) _ (Chg.refl _ _))) ?_
            obtain ⟨x393, hx393, hs⟩ := bind_some hs
            obtain ⟨b394, o394, hp394, ha394⟩ := rs_idx Sl22 Sz3 hv360x2 hx393
            refine pl_yes (.pointer (some ⟨b394, o394, none⟩)) (tg := 28) (by kernel_rfl) (congrArg Value.bool hc392) (hp394 _ _ _ _ _ _ _ _ _ rfl rfl) ?_
            refine pl_yes (.int .i64 x393) (tg := 28) (by kernel_rfl) (congrArg Value.bool hc392) (y_load rfl ((at_load_int Ag3 Sz3 ha394) _ (Chg.refl _ _))) ?_
            refine pl_yes (.bool (x393 == 0)) (tg := 28) (by kernel_rfl) (congrArg Value.bool hc392) (y_eql rfl rfl) ?_
            refine pl_val (.bool (x393 == 0)) (y_pick_t (congrArg Value.bool hc392) rfl) ?_
            obtain ⟨x395, hx395, hs⟩ := bind_some hs
            obtain ⟨g396, f396, hg396, hk396, hp396, ha396, hf396⟩ := os_idx Sl57 Sz4 hv357 hx395
            refine pl_val (.pointer (some ⟨g396, 0 + Int.toNat 0 * 1, none⟩)) (hp396 _ _ _ _ _ _ _ _ _ rfl rfl) ?_
            have hO := hO.fr1
            obtain ⟨w397, f397, hst397, hC397, hf397, hv397⟩ := os_store (P := Try.prog) (c' := [(.bool (x393 == 0))]) hg396 hv357 hk396 (fun g hg => hO.inM g (os_block hv357 g (by simpa using hg))) ⟨rfl, rfl⟩ List.nodup_nil (fun _ h => nomatch h) (fun _ h => .inl h)
            have hG397 : ∀ q ∈ [g396], q ∈ f357 := fun q hq => os_block hv357 q (by rw [hg396]; exact hq)
            refine pl_skip (w' := w397) (ys_store rfl rfl (hst397 _ _ rfl Sz4)) ?_
            have h0 := h0.mut hC397 (fun g hg => hO.inM g (hG397 g hg)) (fun _ _ h => nomatch h)
            have hv360x2 := hv360x2.mut hC397 (fun g hg => hO.inM g (hG397 g hg)) (fun _ _ h => nomatch h)
            have hb363 := hb363.chg hC397 (fun hg => hO.apart _ (hG397 _ hg) (mem_l (List.mem_singleton.2 rfl)))
            have hC := hC.step hC397 (fun g hg => hO.inN g (hG397 g hg))
            have hO := hO.grow hC397 (fun q hq => .inl ((hf397 q hq).resolve_right (fun h => nomatch h))) (os_nodup hv397) hv397.fpl
            refine c_nil ?_
            cases hs
            have hO := hO.fr1
            exact ⟨_, f397, fr_ovl 81 ⟨rfl, rfl, rfl, rfl, rfl, trivial⟩, hC, hO, h0, hv397, hv360x2, hb363⟩
          · skip
            refine pl_not (tg := 28) (by kernel_rfl) (congrArg Value.bool hc392) ?_
            refine pl_not (tg := 28) (by kernel_rfl) (congrArg Value.bool hc392) ?_
            refine pl_not (tg := 28) (by kernel_rfl) (congrArg Value.bool hc392) ?_
            refine pl_not (tg := 28) (by kernel_rfl) (congrArg Value.bool hc392) ?_
            refine pl_not (tg := 28) (by kernel_rfl) (congrArg Value.bool hc392) ?_
            refine pl_val (.bool false) (y_pick_f (congrArg Value.bool hc392) rfl) ?_
            obtain ⟨x398, hx398, hs⟩ := bind_some hs
            obtain ⟨g399, f399, hg399, hk399, hp399, ha399, hf399⟩ := os_idx Sl57 Sz4 hv357 hx398
            refine pl_val (.pointer (some ⟨g399, 0 + Int.toNat 0 * 1, none⟩)) (hp399 _ _ _ _ _ _ _ _ _ rfl rfl) ?_
            have hO := hO.fr1
            obtain ⟨w400, f400, hst400, hC400, hf400, hv400⟩ := os_store (P := Try.prog) (c' := [(.bool false)]) hg399 hv357 hk399 (fun g hg => hO.inM g (os_block hv357 g (by simpa using hg))) ⟨rfl, rfl⟩ List.nodup_nil (fun _ h => nomatch h) (fun _ h => .inl h)
            have hG400 : ∀ q ∈ [g399], q ∈ f357 := fun q hq => os_block hv357 q (by rw [hg399]; exact hq)
            refine pl_skip (w' := w400) (ys_store rfl rfl (hst400 _ _ rfl Sz4)) ?_
            have h0 := h0.mut hC400 (fun g hg => hO.inM g (hG400 g hg)) (fun _ _ h => nomatch h)
            have hv360x2 := hv360x2.mut hC400 (fun g hg => hO.inM g (hG400 g hg)) (fun _ _ h => nomatch h)
            have hb363 := hb363.chg hC400 (fun hg => hO.apart _ (hG400 _ hg) (mem_l (List.mem_singleton.2 rfl)))
            have hC := hC.step hC400 (fun g hg => hO.inN g (hG400 g hg))
            have hO := hO.grow hC400 (fun q hq => .inl ((hf400 q hq).resolve_right (fun h => nomatch h))) (os_nodup hv400) hv400.fpl
            refine c_nil ?_
            cases hs
            have hO := hO.fr1
            exact ⟨_, f400, fr_ovl 81 ⟨rfl, rfl, rfl, rfl, rfl, trivial⟩, hC, hO, h0, hv400, hv360x2, hb363⟩
        · rintro a1 w387 ⟨σ, f389, rfl, hC, hO, h0, hv389, hv360x2, hb363⟩
          refine c_seq ?_
          obtain ⟨s424, hm426, hs⟩ := bind_some hs
          refine c_mid (I := fun a w425 => ∃ (σ : Nat → Value) (f427 : List Nat), a = fr 81 (ovl σ [(4, (.slice (some ⟨g12, 0, none⟩) 5 5)), (6, (.pointer (some ⟨g362, 0, none⟩))), (18, (.slice pa0 pn0 pc0)), (19, (.int .i64 (a_.2.length : Int))), (20, (.int .i64 (k353 : Int)))]) ∧ Chg [] w w425 ∧ Own (Nw w []) M w425 (([g362]) ++ (f427 ++ [])) ∧ (RT.rs (RT.pr (RT.int .i64) (RT.rs (RT.int .i64)))).val M w425 (.slice pa0 pn0 pc0) a_.2 ([]) ∧ (RT.os 4 RT.bool).val M w425 (.slice (some ⟨g12, 0, none⟩) 5 5) s424 f427 ∧ (RT.rs (RT.int .i64)).val M w425 (.slice a360x2 n360x2 c360x2) x354.2 ([]) ∧ BoxV w425 g362 82 [(.int .i64 x354.1), (.slice a360x2 n360x2 c360x2)]) ?_ ?_
          · replace hs := hm426
            refine c_region ?_
            refine pl_val (.slice (some ⟨g12, 0, none⟩) 5 5) (y_move rfl) ?_
            refine pl_val (.slice (some ⟨g12, 0, none⟩) 5 5) (y_move rfl) ?_
            obtain ⟨x428, hx428, hs⟩ := bind_some hs
            obtain ⟨g429, f429, hg429, hk429, hp429, ha429, hf429⟩ := os_idx Sl57 Sz4 hv389 hx428
            refine pl_val (.pointer (some ⟨g429, 0 + Int.toNat 1 * 1, none⟩)) (hp429 _ _ _ _ _ _ _ _ _ rfl rfl) ?_
            refine pl_val (.bool x428) (y_load rfl ((at_load_bool Ag4 Sz4 ha429) _ (Chg.refl _ _))) ?_
            refine pl_val (.bool x428) (y_move rfl) ?_
            rcases bif_some hs with ⟨hc430, hs⟩ | ⟨hc430, hs⟩
            · skip
              refine pl_yes (.pointer (some ⟨g362, 1, none⟩)) (tg := 40) (by kernel_rfl) (congrArg Value.bool hc430) (y_faddr rfl Fa82x1) ?_
              refine pl_yes (.slice a360x2 n360x2 c360x2) (tg := 40) (by kernel_rfl) (congrArg Value.bool hc430) (y_load rfl ((box_load Ag22 Sz22 hb363 [(.int .i64 x354.1)] [(.slice a360x2 n360x2 c360x2)] [] rfl rfl (fun _ => rfl)) _ (Chg.refl _ _))) ?_
              refine pl_yes (.pointer (some ⟨g362, 1, none⟩)) (tg := 40) (by kernel_rfl) (congrArg Value.bool hc430) (y_faddr rfl Fa82x1) ?_
              refine pl_yes (.slice a360x2 n360x2 c360x2) (tg := 40) (by kernel_rfl) (congrArg Value.bool hc430) (y_load rfl ((box_load Ag22 Sz22 hb363 [(.int .i64 x354.1)] [(.slice a360x2 n360x2 c360x2)] [] rfl rfl (fun _ => rfl)) _ (Chg.refl _ _))) ?_
              refine pl_yes (.int .i64 (x354.2.length : Int)) (tg := 40) (by kernel_rfl) (congrArg Value.bool hc430) (y_len' Sl22 (rs_len hv360x2) rfl) ?_
              refine pl_yes (.int .i64 (w64 ((x354.2.length : Int) - 1))) (tg := 40) (by kernel_rfl) (congrArg Value.bool hc430) (y_sub rfl rfl) ?_
              obtain ⟨x431, hx431, hs⟩ := bind_some hs
              obtain ⟨b432, o432, hp432, ha432⟩ := rs_idx Sl22 Sz3 hv360x2 hx431
              refine pl_yes (.pointer (some ⟨b432, o432, none⟩)) (tg := 40) (by kernel_rfl) (congrArg Value.bool hc430) (hp432 _ _ _ _ _ _ _ _ _ rfl rfl) ?_
              refine pl_yes (.int .i64 x431) (tg := 40) (by kernel_rfl) (congrArg Value.bool hc430) (y_load rfl ((at_load_int Ag3 Sz3 ha432) _ (Chg.refl _ _))) ?_
              refine pl_yes (.bool (x431 == 1)) (tg := 40) (by kernel_rfl) (congrArg Value.bool hc430) (y_eql rfl rfl) ?_
              refine pl_val (.bool (x431 == 1)) (y_pick_t (congrArg Value.bool hc430) rfl) ?_
              obtain ⟨x433, hx433, hs⟩ := bind_some hs
              obtain ⟨g434, f434, hg434, hk434, hp434, ha434, hf434⟩ := os_idx Sl57 Sz4 hv389 hx433
              refine pl_val (.pointer (some ⟨g434, 0 + Int.toNat 1 * 1, none⟩)) (hp434 _ _ _ _ _ _ _ _ _ rfl rfl) ?_
              have hO := hO.fr1
              obtain ⟨w435, f435, hst435, hC435, hf435, hv435⟩ := os_store (P := Try.prog) (c' := [(.bool (x431 == 1))]) hg434 hv389 hk434 (fun g hg => hO.inM g (os_block hv389 g (by simpa using hg))) ⟨rfl, rfl⟩ List.nodup_nil (fun _ h => nomatch h) (fun _ h => .inl h)
              have hG435 : ∀ q ∈ [g434], q ∈ f389 := fun q hq => os_block hv389 q (by rw [hg434]; exact hq)
              refine pl_skip (w' := w435) (ys_store rfl rfl (hst435 _ _ rfl Sz4)) ?_
              have h0 := h0.mut hC435 (fun g hg => hO.inM g (hG435 g hg)) (fun _ _ h => nomatch h)
              have hv360x2 := hv360x2.mut hC435 (fun g hg => hO.inM g (hG435 g hg)) (fun _ _ h => nomatch h)
              have hb363 := hb363.chg hC435 (fun hg => hO.apart _ (hG435 _ hg) (mem_l (List.mem_singleton.2 rfl)))
              have hC := hC.step hC435 (fun g hg => hO.inN g (hG435 g hg))
              have hO := hO.grow hC435 (fun q hq => .inl ((hf435 q hq).resolve_right (fun h => nomatch h))) (os_nodup hv435) hv435.fpl
              refine c_nil ?_
              cases hs
              have hO := hO.fr1
              exact ⟨_, f435, fr_ovl 81 ⟨rfl, rfl, rfl, rfl, rfl, trivial⟩, hC, hO, h0, hv435, hv360x2, hb363⟩
            · skip
              refine pl_not (tg := 40) (by kernel_rfl) (congrArg Value.bool hc430) ?_
              refine pl_not (tg := 40) (by kernel_rfl) (congrArg Value.bool hc430) ?_
              refine pl_not (tg := 40) (by kernel_rfl) (congrArg Value.bool hc430) ?_
              refine pl_not (tg := 40) (by kernel_rfl) (congrArg Value.bool hc430) ?_
              refine pl_not (tg := 40) (by kernel_rfl) (congrArg Value.bool hc430) ?_
              refine pl_not (tg := 40) (by kernel_rfl) (congrArg Value.bool hc430) ?_
              refine pl_not (tg := 40) (by kernel_rfl) (congrArg Value.bool hc430) ?_
              refine pl_not (tg := 40) (by kernel_rfl) (congrArg Value.bool hc430) ?_
              refine pl_not (tg := 40) (by kernel_rfl) (congrArg Value.bool hc430) ?_
              refine pl_val (.bool false) (y_pick_f (congrArg Value.bool hc430) rfl) ?_
              obtain ⟨x436, hx436, hs⟩ := bind_some hs
              obtain ⟨g437, f437, hg437, hk437, hp437, ha437, hf437⟩ := os_idx Sl57 Sz4 hv389 hx436
              refine pl_val (.pointer (some ⟨g437, 0 + Int.toNat 1 * 1, none⟩)) (hp437 _ _ _ _ _ _ _ _ _ rfl rfl) ?_
              have hO := hO.fr1
              obtain ⟨w438, f438, hst438, hC438, hf438, hv438⟩ := os_store (P := Try.prog) (c' := [(.bool false)]) hg437 hv389 hk437 (fun g hg => hO.inM g (os_block hv389 g (by simpa using hg))) ⟨rfl, rfl⟩ List.nodup_nil (fun _ h => nomatch h) (fun _ h => .inl h)
              have hG438 : ∀ q ∈ [g437], q ∈ f389 := fun q hq => os_block hv389 q (by rw [hg437]; exact hq)
              refine pl_skip (w' := w438) (ys_store rfl rfl (hst438 _ _ rfl Sz4)) ?_
              have h0 := h0.mut hC438 (fun g hg => hO.inM g (hG438 g hg)) (fun _ _ h => nomatch h)
              have hv360x2 := hv360x2.mut hC438 (fun g hg => hO.inM g (hG438 g hg)) (fun _ _ h => nomatch h)
              have hb363 := hb363.chg hC438 (fun hg => hO.apart _ (hG438 _ hg) (mem_l (List.mem_singleton.2 rfl)))
              have hC := hC.step hC438 (fun g hg => hO.inN g (hG438 g hg))
              have hO := hO.grow hC438 (fun q hq => .inl ((hf438 q hq).resolve_right (fun h => nomatch h))) (os_nodup hv438) hv438.fpl
              refine c_nil ?_
              cases hs
              have hO := hO.fr1
              exact ⟨_, f438, fr_ovl 81 ⟨rfl, rfl, rfl, rfl, rfl, trivial⟩, hC, hO, h0, hv438, hv360x2, hb363⟩
          · rintro a1 w425 ⟨σ, f427, rfl, hC, hO, h0, hv427, hv360x2, hb363⟩
            refine c_seq ?_
            obtain ⟨s462, hm464, hs⟩ := bind_some hs
            refine c_mid (I := fun a w463 => ∃ (σ : Nat → Value) (f465 : List Nat), a = fr 81 (ovl σ [(4, (.slice (some ⟨g12, 0, none⟩) 5 5)), (6, (.pointer (some ⟨g362, 0, none⟩))), (18, (.slice pa0 pn0 pc0)), (19, (.int .i64 (a_.2.length : Int))), (20, (.int .i64 (k353 : Int)))]) ∧ Chg [] w w463 ∧ Own (Nw w []) M w463 (([g362]) ++ (f465 ++ [])) ∧ (RT.rs (RT.pr (RT.int .i64) (RT.rs (RT.int .i64)))).val M w463 (.slice pa0 pn0 pc0) a_.2 ([]) ∧ (RT.os 4 RT.bool).val M w463 (.slice (some ⟨g12, 0, none⟩) 5 5) s462 f465 ∧ (RT.rs (RT.int .i64)).val M w463 (.slice a360x2 n360x2 c360x2) x354.2 ([]) ∧ BoxV w463 g362 82 [(.int .i64 x354.1), (.slice a360x2 n360x2 c360x2)]) ?_ ?_
            · replace hs := hm464
              refine c_region ?_
              refine pl_val (.slice (some ⟨g12, 0, none⟩) 5 5) (y_move rfl) ?_
              refine pl_val (.slice (some ⟨g12, 0, none⟩) 5 5) (y_move rfl) ?_
              obtain ⟨x466, hx466, hs⟩ := bind_some hs
              obtain ⟨g467, f467, hg467, hk467, hp467, ha467, hf467⟩ := os_idx Sl57 Sz4 hv427 hx466
              refine pl_val (.pointer (some ⟨g467, 0 + Int.toNat 2 * 1, none⟩)) (hp467 _ _ _ _ _ _ _ _ _ rfl rfl) ?_
              refine pl_val (.bool x466) (y_load rfl ((at_load_bool Ag4 Sz4 ha467) _ (Chg.refl _ _))) ?_
              refine pl_val (.bool x466) (y_move rfl) ?_
              rcases bif_some hs with ⟨hc468, hs⟩ | ⟨hc468, hs⟩
              · skip
                refine pl_yes (.agg #[(.int .i64 x354.1), (.slice a360x2 n360x2 c360x2)]) (tg := 56) (by kernel_rfl) (congrArg Value.bool hc468) (y_load rfl ((box_load Ag82 Sz82 hb363 [] [(.int .i64 x354.1), (.slice a360x2 n360x2 c360x2)] [] rfl rfl (fun h => nomatch h)) _ (Chg.refl _ _))) ?_
                obtain ⟨r470, hr470, hs⟩ := bind_some hs
                refine pl_cally (tg := 56) (by kernel_rfl) (congrArg Value.bool hc468) Bd99 rfl (c_impl_isMonotone (M := M) (x354.1, x354.2) hv360x2 hO.fut hr470) ?_
                rintro _ w469 ⟨rfl, hC469⟩
                have h0 := h0.ext hC469
                have hv427 := hv427.ext hC469
                have hv360x2 := hv360x2.ext hC469
                have hb363 := hb363.chg hC469 (fun h => nomatch h)
                have hC := hC.ext hC469
                have hO := hO.ext hC469
                refine pl_val (.bool r470) (y_pick_t (congrArg Value.bool hc468) rfl) ?_
                obtain ⟨x471, hx471, hs⟩ := bind_some hs
                obtain ⟨g472, f472, hg472, hk472, hp472, ha472, hf472⟩ := os_idx Sl57 Sz4 hv427 hx471
                refine pl_val (.pointer (some ⟨g472, 0 + Int.toNat 2 * 1, none⟩)) (hp472 _ _ _ _ _ _ _ _ _ rfl rfl) ?_
                have hO := hO.fr1
                obtain ⟨w473, f473, hst473, hC473, hf473, hv473⟩ := os_store (P := Try.prog) (c' := [(.bool r470)]) hg472 hv427 hk472 (fun g hg => hO.inM g (os_block hv427 g (by simpa using hg))) ⟨rfl, rfl⟩ List.nodup_nil (fun _ h => nomatch h) (fun _ h => .inl h)
                have hG473 : ∀ q ∈ [g472], q ∈ f427 := fun q hq => os_block hv427 q (by rw [hg472]; exact hq)
                refine pl_skip (w' := w473) (ys_store rfl rfl (hst473 _ _ rfl Sz4)) ?_
                have h0 := h0.mut hC473 (fun g hg => hO.inM g (hG473 g hg)) (fun _ _ h => nomatch h)
                have hv360x2 := hv360x2.mut hC473 (fun g hg => hO.inM g (hG473 g hg)) (fun _ _ h => nomatch h)
                have hb363 := hb363.chg hC473 (fun hg => hO.apart _ (hG473 _ hg) (mem_l (List.mem_singleton.2 rfl)))
                have hC := hC.step hC473 (fun g hg => hO.inN g (hG473 g hg))
                have hO := hO.grow hC473 (fun q hq => .inl ((hf473 q hq).resolve_right (fun h => nomatch h))) (os_nodup hv473) hv473.fpl
                refine c_nil ?_
                cases hs
                have hO := hO.fr1
                exact ⟨_, f473, fr_ovl 81 ⟨rfl, rfl, rfl, rfl, rfl, trivial⟩, hC, hO, h0, hv473, hv360x2, hb363⟩
              · skip
                refine pl_not (tg := 56) (by kernel_rfl) (congrArg Value.bool hc468) ?_
                refine pl_not (tg := 56) (by kernel_rfl) (congrArg Value.bool hc468) ?_
                refine pl_val (.bool false) (y_pick_f (congrArg Value.bool hc468) rfl) ?_
                obtain ⟨x474, hx474, hs⟩ := bind_some hs
                obtain ⟨g475, f475, hg475, hk475, hp475, ha475, hf475⟩ := os_idx Sl57 Sz4 hv427 hx474
                refine pl_val (.pointer (some ⟨g475, 0 + Int.toNat 2 * 1, none⟩)) (hp475 _ _ _ _ _ _ _ _ _ rfl rfl) ?_
                have hO := hO.fr1
                obtain ⟨w476, f476, hst476, hC476, hf476, hv476⟩ := os_store (P := Try.prog) (c' := [(.bool false)]) hg475 hv427 hk475 (fun g hg => hO.inM g (os_block hv427 g (by simpa using hg))) ⟨rfl, rfl⟩ List.nodup_nil (fun _ h => nomatch h) (fun _ h => .inl h)
                have hG476 : ∀ q ∈ [g475], q ∈ f427 := fun q hq => os_block hv427 q (by rw [hg475]; exact hq)
                refine pl_skip (w' := w476) (ys_store rfl rfl (hst476 _ _ rfl Sz4)) ?_
                have h0 := h0.mut hC476 (fun g hg => hO.inM g (hG476 g hg)) (fun _ _ h => nomatch h)
                have hv360x2 := hv360x2.mut hC476 (fun g hg => hO.inM g (hG476 g hg)) (fun _ _ h => nomatch h)
                have hb363 := hb363.chg hC476 (fun hg => hO.apart _ (hG476 _ hg) (mem_l (List.mem_singleton.2 rfl)))
                have hC := hC.step hC476 (fun g hg => hO.inN g (hG476 g hg))
                have hO := hO.grow hC476 (fun q hq => .inl ((hf476 q hq).resolve_right (fun h => nomatch h))) (os_nodup hv476) hv476.fpl
                refine c_nil ?_
                cases hs
                have hO := hO.fr1
                exact ⟨_, f476, fr_ovl 81 ⟨rfl, rfl, rfl, rfl, rfl, trivial⟩, hC, hO, h0, hv476, hv360x2, hb363⟩
            · rintro a1 w463 ⟨σ, f465, rfl, hC, hO, h0, hv465, hv360x2, hb363⟩
              refine c_seq ?_
              obtain ⟨s500, hm502, hs⟩ := bind_some hs
              refine c_mid (I := fun a w501 => ∃ (σ : Nat → Value) (f503 : List Nat), a = fr 81 (ovl σ [(4, (.slice (some ⟨g12, 0, none⟩) 5 5)), (6, (.pointer (some ⟨g362, 0, none⟩))), (18, (.slice pa0 pn0 pc0)), (19, (.int .i64 (a_.2.length : Int))), (20, (.int .i64 (k353 : Int)))]) ∧ Chg [] w w501 ∧ Own (Nw w []) M w501 (([g362]) ++ (f503 ++ [])) ∧ (RT.rs (RT.pr (RT.int .i64) (RT.rs (RT.int .i64)))).val M w501 (.slice pa0 pn0 pc0) a_.2 ([]) ∧ (RT.os 4 RT.bool).val M w501 (.slice (some ⟨g12, 0, none⟩) 5 5) s500 f503 ∧ (RT.rs (RT.int .i64)).val M w501 (.slice a360x2 n360x2 c360x2) x354.2 ([]) ∧ BoxV w501 g362 82 [(.int .i64 x354.1), (.slice a360x2 n360x2 c360x2)]) ?_ ?_
              · replace hs := hm502
                refine c_region ?_
                refine pl_val (.slice (some ⟨g12, 0, none⟩) 5 5) (y_move rfl) ?_
                refine pl_val (.slice (some ⟨g12, 0, none⟩) 5 5) (y_move rfl) ?_
                obtain ⟨x504, hx504, hs⟩ := bind_some hs
                obtain ⟨g505, f505, hg505, hk505, hp505, ha505, hf505⟩ := os_idx Sl57 Sz4 hv465 hx504
                refine pl_val (.pointer (some ⟨g505, 0 + Int.toNat 3 * 1, none⟩)) (hp505 _ _ _ _ _ _ _ _ _ rfl rfl) ?_
                refine pl_val (.bool x504) (y_load rfl ((at_load_bool Ag4 Sz4 ha505) _ (Chg.refl _ _))) ?_
                refine pl_val (.bool x504) (y_move rfl) ?_
                rcases bif_some hs with ⟨hc506, hs⟩ | ⟨hc506, hs⟩
                · skip
                  refine pl_yes (.agg #[(.int .i64 x354.1), (.slice a360x2 n360x2 c360x2)]) (tg := 65) (by kernel_rfl) (congrArg Value.bool hc506) (y_load rfl ((box_load Ag82 Sz82 hb363 [] [(.int .i64 x354.1), (.slice a360x2 n360x2 c360x2)] [] rfl rfl (fun h => nomatch h)) _ (Chg.refl _ _))) ?_
                  obtain ⟨r508, hr508, hs⟩ := bind_some hs
                  refine pl_cally (tg := 65) (by kernel_rfl) (congrArg Value.bool hc506) Bd100 rfl (c_impl_isSelfDual (M := M) (x354.1, x354.2) hv360x2 hO.fut hr508) ?_
                  rintro _ w507 ⟨rfl, hC507⟩
                  have h0 := h0.ext hC507
                  have hv465 := hv465.ext hC507
                  have hv360x2 := hv360x2.ext hC507
                  have hb363 := hb363.chg hC507 (fun h => nomatch h)
                  have hC := hC.ext hC507
                  have hO := hO.ext hC507
                  refine pl_val (.bool r508) (y_pick_t (congrArg Value.bool hc506) rfl) ?_
                  obtain ⟨x509, hx509, hs⟩ := bind_some hs
                  obtain ⟨g510, f510, hg510, hk510, hp510, ha510, hf510⟩ := os_idx Sl57 Sz4 hv465 hx509
                  refine pl_val (.pointer (some ⟨g510, 0 + Int.toNat 3 * 1, none⟩)) (hp510 _ _ _ _ _ _ _ _ _ rfl rfl) ?_
                  have hO := hO.fr1
                  obtain ⟨w511, f511, hst511, hC511, hf511, hv511⟩ := os_store (P := Try.prog) (c' := [(.bool r508)]) hg510 hv465 hk510 (fun g hg => hO.inM g (os_block hv465 g (by simpa using hg))) ⟨rfl, rfl⟩ List.nodup_nil (fun _ h => nomatch h) (fun _ h => .inl h)
                  have hG511 : ∀ q ∈ [g510], q ∈ f465 := fun q hq => os_block hv465 q (by rw [hg510]; exact hq)
                  refine pl_skip (w' := w511) (ys_store rfl rfl (hst511 _ _ rfl Sz4)) ?_
                  have h0 := h0.mut hC511 (fun g hg => hO.inM g (hG511 g hg)) (fun _ _ h => nomatch h)
                  have hv360x2 := hv360x2.mut hC511 (fun g hg => hO.inM g (hG511 g hg)) (fun _ _ h => nomatch h)
                  have hb363 := hb363.chg hC511 (fun hg => hO.apart _ (hG511 _ hg) (mem_l (List.mem_singleton.2 rfl)))
                  have hC := hC.step hC511 (fun g hg => hO.inN g (hG511 g hg))
                  have hO := hO.grow hC511 (fun q hq => .inl ((hf511 q hq).resolve_right (fun h => nomatch h))) (os_nodup hv511) hv511.fpl
                  refine c_nil ?_
                  cases hs
                  have hO := hO.fr1
                  exact ⟨_, f511, fr_ovl 81 ⟨rfl, rfl, rfl, rfl, rfl, trivial⟩, hC, hO, h0, hv511, hv360x2, hb363⟩
                · skip
                  refine pl_not (tg := 65) (by kernel_rfl) (congrArg Value.bool hc506) ?_
                  refine pl_not (tg := 65) (by kernel_rfl) (congrArg Value.bool hc506) ?_
                  refine pl_val (.bool false) (y_pick_f (congrArg Value.bool hc506) rfl) ?_
                  obtain ⟨x512, hx512, hs⟩ := bind_some hs
                  obtain ⟨g513, f513, hg513, hk513, hp513, ha513, hf513⟩ := os_idx Sl57 Sz4 hv465 hx512
                  refine pl_val (.pointer (some ⟨g513, 0 + Int.toNat 3 * 1, none⟩)) (hp513 _ _ _ _ _ _ _ _ _ rfl rfl) ?_
                  have hO := hO.fr1
                  obtain ⟨w514, f514, hst514, hC514, hf514, hv514⟩ := os_store (P := Try.prog) (c' := [(.bool false)]) hg513 hv465 hk513 (fun g hg => hO.inM g (os_block hv465 g (by simpa using hg))) ⟨rfl, rfl⟩ List.nodup_nil (fun _ h => nomatch h) (fun _ h => .inl h)
                  have hG514 : ∀ q ∈ [g513], q ∈ f465 := fun q hq => os_block hv465 q (by rw [hg513]; exact hq)
                  refine pl_skip (w' := w514) (ys_store rfl rfl (hst514 _ _ rfl Sz4)) ?_
                  have h0 := h0.mut hC514 (fun g hg => hO.inM g (hG514 g hg)) (fun _ _ h => nomatch h)
                  have hv360x2 := hv360x2.mut hC514 (fun g hg => hO.inM g (hG514 g hg)) (fun _ _ h => nomatch h)
                  have hb363 := hb363.chg hC514 (fun hg => hO.apart _ (hG514 _ hg) (mem_l (List.mem_singleton.2 rfl)))
                  have hC := hC.step hC514 (fun g hg => hO.inN g (hG514 g hg))
                  have hO := hO.grow hC514 (fun q hq => .inl ((hf514 q hq).resolve_right (fun h => nomatch h))) (os_nodup hv514) hv514.fpl
                  refine c_nil ?_
                  cases hs
                  have hO := hO.fr1
                  exact ⟨_, f514, fr_ovl 81 ⟨rfl, rfl, rfl, rfl, rfl, trivial⟩, hC, hO, h0, hv514, hv360x2, hb363⟩
              · rintro a1 w501 ⟨σ, f503, rfl, hC, hO, h0, hv503, hv360x2, hb363⟩
                refine c_region ?_
                refine pl_val (.slice (some ⟨g12, 0, none⟩) 5 5) (y_move rfl) ?_
                refine pl_val (.slice (some ⟨g12, 0, none⟩) 5 5) (y_move rfl) ?_
                obtain ⟨x516, hx516, hs⟩ := bind_some hs
                obtain ⟨g517, f517, hg517, hk517, hp517, ha517, hf517⟩ := os_idx Sl57 Sz4 hv503 hx516
                refine pl_val (.pointer (some ⟨g517, 0 + Int.toNat 4 * 1, none⟩)) (hp517 _ _ _ _ _ _ _ _ _ rfl rfl) ?_
                refine pl_val (.bool x516) (y_load rfl ((at_load_bool Ag4 Sz4 ha517) _ (Chg.refl _ _))) ?_
                refine pl_val (.bool x516) (y_move rfl) ?_
                rcases bif_some hs with ⟨hc518, hs⟩ | ⟨hc518, hs⟩
                · skip
                  refine pl_yes (.agg #[(.int .i64 x354.1), (.slice a360x2 n360x2 c360x2)]) (tg := 74) (by kernel_rfl) (congrArg Value.bool hc518) (y_load rfl ((box_load Ag82 Sz82 hb363 [] [(.int .i64 x354.1), (.slice a360x2 n360x2 c360x2)] [] rfl rfl (fun h => nomatch h)) _ (Chg.refl _ _))) ?_
                  obtain ⟨r520, hr520, hs⟩ := bind_some hs
                  refine pl_cally (tg := 74) (by kernel_rfl) (congrArg Value.bool hc518) Bd101 rfl (c_impl_isSum (M := M) (x354.1, x354.2) hv360x2 hO.fut hr520) ?_
                  rintro _ w519 ⟨rfl, hC519⟩
                  have h0 := h0.ext hC519
                  have hv503 := hv503.ext hC519
                  have hv360x2 := hv360x2.ext hC519
                  have hb363 := hb363.chg hC519 (fun h => nomatch h)
                  have hC := hC.ext hC519
                  have hO := hO.ext hC519
                  refine pl_val (.bool r520) (y_pick_t (congrArg Value.bool hc518) rfl) ?_
                  obtain ⟨x521, hx521, hs⟩ := bind_some hs
                  obtain ⟨g522, f522, hg522, hk522, hp522, ha522, hf522⟩ := os_idx Sl57 Sz4 hv503 hx521
                  refine pl_val (.pointer (some ⟨g522, 0 + Int.toNat 4 * 1, none⟩)) (hp522 _ _ _ _ _ _ _ _ _ rfl rfl) ?_
                  have hO := hO.fr1
                  obtain ⟨w523, f523, hst523, hC523, hf523, hv523⟩ := os_store (P := Try.prog) (c' := [(.bool r520)]) hg522 hv503 hk522 (fun g hg => hO.inM g (os_block hv503 g (by simpa using hg))) ⟨rfl, rfl⟩ List.nodup_nil (fun _ h => nomatch h) (fun _ h => .inl h)
                  have hG523 : ∀ q ∈ [g522], q ∈ f503 := fun q hq => os_block hv503 q (by rw [hg522]; exact hq)
                  refine pl_skip (w' := w523) (ys_store rfl rfl (hst523 _ _ rfl Sz4)) ?_
                  have h0 := h0.mut hC523 (fun g hg => hO.inM g (hG523 g hg)) (fun _ _ h => nomatch h)
                  have hv360x2 := hv360x2.mut hC523 (fun g hg => hO.inM g (hG523 g hg)) (fun _ _ h => nomatch h)
                  have hb363 := hb363.chg hC523 (fun hg => hO.apart _ (hG523 _ hg) (mem_l (List.mem_singleton.2 rfl)))
                  have hC := hC.step hC523 (fun g hg => hO.inN g (hG523 g hg))
                  have hO := hO.grow hC523 (fun q hq => .inl ((hf523 q hq).resolve_right (fun h => nomatch h))) (os_nodup hv523) hv523.fpl
                  refine c_nil ?_
                  refine c_region ?_
                  refine pl_val (.int .i64 (w64 ((k353 : Int) + 1))) (y_add rfl rfl) ?_
                  refine pl_val (.int .i64 (w64 ((k353 : Int) + 1))) (y_move rfl) ?_
                  refine c_nil ?_
                  cases hs
                  have hO := hO.fr1
                  have hO := hO.drop
                  exact ⟨_, rfl, drop_cons_next hd, _, f523, fr_ovl 81 ⟨rfl, rfl, rfl, congrArg (Value.int .i64) (w64_succ hlt (Int.natCast_nonneg _) (rs_max h0)), trivial⟩, hC, hO, h0, hv523⟩
                · skip
                  refine pl_not (tg := 74) (by kernel_rfl) (congrArg Value.bool hc518) ?_
                  refine pl_not (tg := 74) (by kernel_rfl) (congrArg Value.bool hc518) ?_
                  refine pl_val (.bool false) (y_pick_f (congrArg Value.bool hc518) rfl) ?_
                  obtain ⟨x524, hx524, hs⟩ := bind_some hs
                  obtain ⟨g525, f525, hg525, hk525, hp525, ha525, hf525⟩ := os_idx Sl57 Sz4 hv503 hx524
                  refine pl_val (.pointer (some ⟨g525, 0 + Int.toNat 4 * 1, none⟩)) (hp525 _ _ _ _ _ _ _ _ _ rfl rfl) ?_
                  have hO := hO.fr1
                  obtain ⟨w526, f526, hst526, hC526, hf526, hv526⟩ := os_store (P := Try.prog) (c' := [(.bool false)]) hg525 hv503 hk525 (fun g hg => hO.inM g (os_block hv503 g (by simpa using hg))) ⟨rfl, rfl⟩ List.nodup_nil (fun _ h => nomatch h) (fun _ h => .inl h)
                  have hG526 : ∀ q ∈ [g525], q ∈ f503 := fun q hq => os_block hv503 q (by rw [hg525]; exact hq)
                  refine pl_skip (w' := w526) (ys_store rfl rfl (hst526 _ _ rfl Sz4)) ?_
                  have h0 := h0.mut hC526 (fun g hg => hO.inM g (hG526 g hg)) (fun _ _ h => nomatch h)
                  have hv360x2 := hv360x2.mut hC526 (fun g hg => hO.inM g (hG526 g hg)) (fun _ _ h => nomatch h)
                  have hb363 := hb363.chg hC526 (fun hg => hO.apart _ (hG526 _ hg) (mem_l (List.mem_singleton.2 rfl)))
                  have hC := hC.step hC526 (fun g hg => hO.inN g (hG526 g hg))
                  have hO := hO.grow hC526 (fun q hq => .inl ((hf526 q hq).resolve_right (fun h => nomatch h))) (os_nodup hv526) hv526.fpl
                  refine c_nil ?_
                  refine c_region ?_
                  refine pl_val (.int .i64 (w64 ((k353 : Int) + 1))) (y_add rfl rfl) ?_
                  refine pl_val (.int .i64 (w64 ((k353 : Int) + 1))) (y_move rfl) ?_
                  refine c_nil ?_
                  cases hs
                  have hO := hO.fr1
                  have hO := hO.drop
                  exact ⟨_, rfl, drop_cons_next hd, _, f526, fr_ovl 81 ⟨rfl, rfl, rfl, congrArg (Value.int .i64) (w64_succ hlt (Int.natCast_nonneg _) (rs_max h0)), trivial⟩, hC, hO, h0, hv526⟩
      · skip
        exact ⟨0, rfl, rfl, _, [g12], fr_ovl 81 ⟨rfl, rfl, rfl, rfl, trivial⟩, hC, hO, h0, hv12⟩
      · cases o355 with
        | nx _ => exact True.intro
        | rt r_ =>
          have hs := after_rt hs
          intro a1 w1 hK
          cases hs
          exact hK
        | br s351 =>
          have hs := after_br hs
          rintro a1 w352 ⟨σ, f358, rfl, hC, hO, h0, hv358⟩
          refine c_seq ?_
          refine c_region ?_
          refine pl_val (.slice (some ⟨g12, 0, none⟩) 5 5) (y_move rfl) ?_
          refine pl_val (.slice (some ⟨g12, 0, none⟩) 5 5) (y_assign rfl) ?_
          refine pl_val (.bool true) (y_assign rfl) ?_
          refine c_nil ?_
          refine wp_ret ?_
          cases hs
          exact ⟨_, (some ⟨g12, 0, none⟩), 5, 5, f358, fr_ovl 81 ⟨rfl, rfl, trivial⟩, hC, hv358, hO.top⟩

def k_laws_eqBoolS (M : Nat → Prop) (w0 : World) (r : Bool) (a : Act) (w : World) : Prop :=
  ∃ (σ : Nat → Value) , a = fr 26 (ovl σ [(4, (.bool r))]) ∧ Chg [] w0 w
def s_laws_eqBoolS (a_ : List Bool) (b : List Bool) : Option (Bool) :=
  (bif ((a_.length : Int) != (b.length : Int)) then some false else (forC (S := Unit) (R := Bool) (fun k12 s10 =>
  (idx a_ k12).bind fun x17 =>
  (idx b k12).bind fun x19 =>
  (bif (!(x17 == x19)) then some (.rt false) else some (.nx ()))) 0 (a_.length : Int) ()).bind fun o14 => after o14 (fun r_ => some r_) (fun s10 =>
  some true))
set_option maxHeartbeats 4000000 in
theorem c_laws_eqBoolS {M : Nat → Prop} {w : World} {pa0 : Option Addr} {pn0 pc0 : Nat} {pa1 : Option Addr} {pn1 pc1 : Nat} (a_ : List Bool) (b : List Bool) (h0 : (RT.rs RT.bool).val M w (.slice pa0 pn0 pc0) a_ ([])) (h1 : (RT.rs RT.bool).val M w (.slice pa1 pn1 pc1) b ([])) (hM : ∀ g, w.heap.size ≤ g → M g) {r : Bool} (hs : s_laws_eqBoolS a_ b = some r) :
    Gives Try.prog 39 [(.slice pa0 pn0 pc0), (.slice pa1 pn1 pc1)] w (fun v w' => v = (.bool r) ∧ Chg [] w w') := by
  refine calls_fr Try.func39 rfl Try.ntmps39 (Nat.le_of_ble_eq_true rfl) ?_
  have hO := Own.start (N := Nw w []) hM Nw.fut
  have hC := Chg.refl [] w
  unfold s_laws_eqBoolS at hs
  refine wp_mono (Q := KPost (k_laws_eqBoolS M w r)) ?_ (fun e a w1 h => ?_)
  rotate_left
  · cases e
    case ret =>
      obtain ⟨σ, rfl, hrest⟩ := h
      exact ret1x Try.results39 (res_tmp rfl) ⟨rfl, hrest⟩
    all_goals exact (h : False).elim
  refine c_seq ?_
  refine c_region ?_
  refine pl_val (.bool false) (y_assign rfl) ?_
  refine c_nil ?_
  refine c_seq ?_
  refine c_seq ?_
  refine c_region ?_
  refine pl_val (.slice pa0 pn0 pc0) (y_move rfl) ?_
  refine pl_val (.int .i64 (a_.length : Int)) (y_len' Sl57 (rs_len h0) rfl) ?_
  refine pl_val (.slice pa1 pn1 pc1) (y_move rfl) ?_
  refine pl_val (.int .i64 (b.length : Int)) (y_len' Sl57 (rs_len h1) rfl) ?_
  refine pl_val (.bool ((a_.length : Int) != (b.length : Int))) (y_neq rfl rfl) ?_
  refine c_nil ?_
  rcases bif_some hs with ⟨hc3, hs⟩ | ⟨hc3, hs⟩
  · skip
    refine c_condT (congrArg Value.bool hc3) ?_
    refine c_seq ?_
    refine c_region ?_
    refine pl_val (.bool false) (y_assign rfl) ?_
    refine c_nil ?_
    refine wp_ret ?_
    cases hs
    exact ⟨_, fr_ovl 26 ⟨rfl, trivial⟩, hC⟩
  · skip
    refine c_condF (congrArg Value.bool hc3) ?_
    refine wp_skip ?_
    refine c_seq ?_
    refine c_seq ?_
    refine c_region ?_
    refine pl_val (.int .i64 0) (y_assign rfl) ?_
    refine c_nil ?_
    obtain ⟨o14, hl15, hs⟩ := bind_some hs
    refine wp_block ?_
    refine wp_forC (id := 0) (a_.length : Int) (I := fun k12 s10 a w11 => ∃ (σ : Nat → Value), a = fr 26 (ovl σ [(0, (.slice pa0 pn0 pc0)), (1, (.slice pa1 pn1 pc1)), (5, (.int .i64 k12))]) ∧ Chg [] w w11 ∧ Own (Nw w []) M w11 ([]) ∧ (RT.rs RT.bool).val M w11 (.slice pa0 pn0 pc0) a_ ([]) ∧ (RT.rs RT.bool).val M w11 (.slice pa1 pn1 pc1) b ([])) (J := fun s10 a w11 => ∃ (σ : Nat → Value), a = fr 26 (ovl σ []) ∧ Chg [] w w11 ∧ Own (Nw w []) M w11 ([]) ∧ (RT.rs RT.bool).val M w11 (.slice pa0 pn0 pc0) a_ ([]) ∧ (RT.rs RT.bool).val M w11 (.slice pa1 pn1 pc1) b ([])) (K := (k_laws_eqBoolS M w)) ?_ ?_ 0 () o14 _ _ ?_ hl15 ?_
    · rintro k12 s10 a w11 ⟨σ, rfl, hC, hO, h0, h1⟩ hlt
      refine c_seq ?_
      refine c_seq ?_
      refine c_region ?_
      refine pl_val (.int .i64 k12) (y_move rfl) ?_
      refine pl_val (.slice pa0 pn0 pc0) (y_move rfl) ?_
      refine pl_val (.int .i64 (a_.length : Int)) (y_len' Sl57 (rs_len h0) rfl) ?_
      refine pl_val (.bool (decide (k12 < (a_.length : Int)))) (y_lss rfl rfl) ?_
      refine c_nil ?_
      refine c_condF (congrArg Value.bool (decide_eq_false hlt)) ?_
      refine wp_exit ?_
      exact ⟨rfl, _, fr_ovl 26 trivial, hC, hO, h0, h1⟩
    · rintro k12 s10 o14 a w11 ⟨σ, rfl, hC, hO, h0, h1⟩ hlt hw hs
      refine c_seq ?_
      refine c_seq ?_
      refine c_region ?_
      refine pl_val (.int .i64 k12) (y_move rfl) ?_
      refine pl_val (.slice pa0 pn0 pc0) (y_move rfl) ?_
      refine pl_val (.int .i64 (a_.length : Int)) (y_len' Sl57 (rs_len h0) rfl) ?_
      refine pl_val (.bool (decide (k12 < (a_.length : Int)))) (y_lss rfl rfl) ?_
      refine c_nil ?_
      refine c_condT (congrArg Value.bool (decide_eq_true hlt)) ?_
      refine wp_skip ?_
      refine c_seq ?_
      refine wp_block ?_
      refine c_seq ?_
      refine x_start [] Mx rfl ?_
      have hCw16 := Chg.drew w11
      generalize World.drew w11 = w16 at hCw16 ⊢
      have h0 := h0.ext hCw16
      have h1 := h1.ext hCw16
      have hC := hC.ext hCw16
      have hO := hO.ext hCw16
      have hS := Chg.refl [] w16
      refine x_p 0 (.slice pa0 pn0 pc0) rfl (by kernel_rfl)  (fun _ => y_move rfl) (fun _ => hS) ?_
      refine x_p 1 (.int .i64 k12) rfl (by kernel_rfl)  (fun _ => y_move rfl) (fun _ => hS) ?_
      obtain ⟨x17, hx17, hs⟩ := bind_some hs
      obtain ⟨b18, o18, hp18, ha18⟩ := rs_idx Sl57 Sz4 h0 hx17
      refine x_p 2 (.pointer (some ⟨b18, o18, none⟩)) rfl (by kernel_rfl)  (fun _ => hp18 _ _ _ _ _ _ _ _ _ rfl rfl) (fun _ => hS) ?_
      refine x_l 3 (.bool x17) rfl (by kernel_rfl)  (fun w' hw' => y_load rfl ((at_load_bool Ag4 Sz4 ha18) w' hw')) hS ?_
      refine x_p 4 (.slice pa1 pn1 pc1) rfl (by kernel_rfl)  (fun _ => y_move rfl) (fun _ => hS) ?_
      refine x_p 5 (.int .i64 k12) rfl (by kernel_rfl)  (fun _ => y_move rfl) (fun _ => hS) ?_
      obtain ⟨x19, hx19, hs⟩ := bind_some hs
      obtain ⟨b20, o20, hp20, ha20⟩ := rs_idx Sl57 Sz4 h1 hx19
      refine x_p 6 (.pointer (some ⟨b20, o20, none⟩)) rfl (by kernel_rfl)  (fun _ => hp20 _ _ _ _ _ _ _ _ _ rfl rfl) (fun _ => hS) ?_
      refine x_l 7 (.bool x19) rfl (by kernel_rfl)  (fun w' hw' => y_load rfl ((at_load_bool Ag4 Sz4 ha20) w' hw')) hS ?_
      refine x_p 8 (.bool (!(x17 == x19))) rfl (by kernel_rfl)  (fun _ => y_bneq Try.underlying4 rfl rfl) (fun _ => hS) ?_
      refine x_end (by kernel_rfl) ?_
      clear hS
      rcases bif_some hs with ⟨hc21, hs⟩ | ⟨hc21, hs⟩
      · skip
        refine c_condT (congrArg Value.bool hc21) ?_
        refine c_seq ?_
        refine c_region ?_
        refine pl_val (.bool false) (y_assign rfl) ?_
        refine c_nil ?_
        refine wp_ret ?_
        cases hs
        exact ⟨_, fr_ovl 26 ⟨rfl, trivial⟩, hC⟩
      · skip
        refine c_condF (congrArg Value.bool hc21) ?_
        refine wp_skip ?_
        refine c_region ?_
        refine pl_val (.int .i64 k12) (y_move rfl) ?_
        refine pl_val (.int .i64 (w64 (k12 + 1))) (y_add rfl rfl) ?_
        refine pl_val (.int .i64 (w64 (k12 + 1))) (y_assign rfl) ?_
        refine c_nil ?_
        cases hs
        exact ⟨_, fr_ovl 26 ⟨rfl, rfl, congrArg (Value.int .i64) hw, trivial⟩, hC, hO, h0, h1⟩
    · skip
      exact ⟨_, fr_ovl 26 ⟨rfl, rfl, rfl, trivial⟩, hC, hO, h0, h1⟩
    · cases o14 with
      | nx _ => exact True.intro
      | rt r_ =>
        have hs := after_rt hs
        intro a1 w1 hK
        cases hs
        exact hK
      | br s10 =>
        have hs := after_br hs
        rintro a1 w11 ⟨σ, rfl, hC, hO, h0, h1⟩
        refine c_seq ?_
        refine c_region ?_
        refine pl_val (.bool true) (y_assign rfl) ?_
        refine c_nil ?_
        refine wp_ret ?_
        cases hs
        exact ⟨_, fr_ovl 26 ⟨rfl, trivial⟩, hC⟩

def k_laws_eqIntS (M : Nat → Prop) (w0 : World) (r : Bool) (a : Act) (w : World) : Prop :=
  ∃ (σ : Nat → Value) , a = fr 26 (ovl σ [(4, (.bool r))]) ∧ Chg [] w0 w
def s_laws_eqIntS (a_ : List Int) (b : List Int) : Option (Bool) :=
  (bif ((a_.length : Int) != (b.length : Int)) then some false else (forC (S := Unit) (R := Bool) (fun k12 s10 =>
  (idx a_ k12).bind fun x17 =>
  (idx b k12).bind fun x19 =>
  (bif (x17 != x19) then some (.rt false) else some (.nx ()))) 0 (a_.length : Int) ()).bind fun o14 => after o14 (fun r_ => some r_) (fun s10 =>
  some true))
set_option maxHeartbeats 4000000 in
theorem c_laws_eqIntS {M : Nat → Prop} {w : World} {pa0 : Option Addr} {pn0 pc0 : Nat} {pa1 : Option Addr} {pn1 pc1 : Nat} (a_ : List Int) (b : List Int) (h0 : (RT.rs (RT.int .i64)).val M w (.slice pa0 pn0 pc0) a_ ([])) (h1 : (RT.rs (RT.int .i64)).val M w (.slice pa1 pn1 pc1) b ([])) (hM : ∀ g, w.heap.size ≤ g → M g) {r : Bool} (hs : s_laws_eqIntS a_ b = some r) :
    Gives Try.prog 18 [(.slice pa0 pn0 pc0), (.slice pa1 pn1 pc1)] w (fun v w' => v = (.bool r) ∧ Chg [] w w') := by
  refine calls_fr Try.func18 rfl Try.ntmps18 (Nat.le_of_ble_eq_true rfl) ?_
  have hO := Own.start (N := Nw w []) hM Nw.fut
  have hC := Chg.refl [] w
  unfold s_laws_eqIntS at hs
  refine wp_mono (Q := KPost (k_laws_eqIntS M w r)) ?_ (fun e a w1 h => ?_)
  rotate_left
  · cases e
    case ret =>
      obtain ⟨σ, rfl, hrest⟩ := h
      exact ret1x Try.results18 (res_tmp rfl) ⟨rfl, hrest⟩
    all_goals exact (h : False).elim
  refine c_seq ?_
  refine c_region ?_
  refine pl_val (.bool false) (y_assign rfl) ?_
  refine c_nil ?_
  refine c_seq ?_
  refine c_seq ?_
  refine c_region ?_
  refine pl_val (.slice pa0 pn0 pc0) (y_move rfl) ?_
  refine pl_val (.int .i64 (a_.length : Int)) (y_len' Sl22 (rs_len h0) rfl) ?_
  refine pl_val (.slice pa1 pn1 pc1) (y_move rfl) ?_
  refine pl_val (.int .i64 (b.length : Int)) (y_len' Sl22 (rs_len h1) rfl) ?_
  refine pl_val (.bool ((a_.length : Int) != (b.length : Int))) (y_neq rfl rfl) ?_
  refine c_nil ?_
  rcases bif_some hs with ⟨hc3, hs⟩ | ⟨hc3, hs⟩
  · skip
    refine c_condT (congrArg Value.bool hc3) ?_
    refine c_seq ?_
    refine c_region ?_
    refine pl_val (.bool false) (y_assign rfl) ?_
    refine c_nil ?_
    refine wp_ret ?_
    cases hs
    exact ⟨_, fr_ovl 26 ⟨rfl, trivial⟩, hC⟩
  · skip
    refine c_condF (congrArg Value.bool hc3) ?_
    refine wp_skip ?_
    refine c_seq ?_
    refine c_seq ?_
    refine c_region ?_
    refine pl_val (.int .i64 0) (y_assign rfl) ?_
    refine c_nil ?_
    obtain ⟨o14, hl15, hs⟩ := bind_some hs
    refine wp_block ?_
    refine wp_forC (id := 0) (a_.length : Int) (I := fun k12 s10 a w11 => ∃ (σ : Nat → Value), a = fr 26 (ovl σ [(0, (.slice pa0 pn0 pc0)), (1, (.slice pa1 pn1 pc1)), (5, (.int .i64 k12))]) ∧ Chg [] w w11 ∧ Own (Nw w []) M w11 ([]) ∧ (RT.rs (RT.int .i64)).val M w11 (.slice pa0 pn0 pc0) a_ ([]) ∧ (RT.rs (RT.int .i64)).val M w11 (.slice pa1 pn1 pc1) b ([])) (J := fun s10 a w11 => ∃ (σ : Nat → Value), a = fr 26 (ovl σ []) ∧ Chg [] w w11 ∧ Own (Nw w []) M w11 ([]) ∧ (RT.rs (RT.int .i64)).val M w11 (.slice pa0 pn0 pc0) a_ ([]) ∧ (RT.rs (RT.int .i64)).val M w11 (.slice pa1 pn1 pc1) b ([])) (K := (k_laws_eqIntS M w)) ?_ ?_ 0 () o14 _ _ ?_ hl15 ?_
    · rintro k12 s10 a w11 ⟨σ, rfl, hC, hO, h0, h1⟩ hlt
      refine c_seq ?_
      refine c_seq ?_
      refine c_region ?_
      refine pl_val (.int .i64 k12) (y_move rfl) ?_
      refine pl_val (.slice pa0 pn0 pc0) (y_move rfl) ?_
      refine pl_val (.int .i64 (a_.length : Int)) (y_len' Sl22 (rs_len h0) rfl) ?_
      refine pl_val (.bool (decide (k12 < (a_.length : Int)))) (y_lss rfl rfl) ?_
      refine c_nil ?_
      refine c_condF (congrArg Value.bool (decide_eq_false hlt)) ?_
      refine wp_exit ?_
      exact ⟨rfl, _, fr_ovl 26 trivial, hC, hO, h0, h1⟩
    · rintro k12 s10 o14 a w11 ⟨σ, rfl, hC, hO, h0, h1⟩ hlt hw hs
      refine c_seq ?_
      refine c_seq ?_
      refine c_region ?_
      refine pl_val (.int .i64 k12) (y_move rfl) ?_
      refine pl_val (.slice pa0 pn0 pc0) (y_move rfl) ?_
      refine pl_val (.int .i64 (a_.length : Int)) (y_len' Sl22 (rs_len h0) rfl) ?_
      refine pl_val (.bool (decide (k12 < (a_.length : Int)))) (y_lss rfl rfl) ?_
      refine c_nil ?_
      refine c_condT (congrArg Value.bool (decide_eq_true hlt)) ?_
      refine wp_skip ?_
      refine c_seq ?_
      refine wp_block ?_
      refine c_seq ?_
      refine x_start [] Mx rfl ?_
      have hCw16 := Chg.drew w11
      generalize World.drew w11 = w16 at hCw16 ⊢
      have h0 := h0.ext hCw16
      have h1 := h1.ext hCw16
      have hC := hC.ext hCw16
      have hO := hO.ext hCw16
      have hS := Chg.refl [] w16
      refine x_p 0 (.slice pa0 pn0 pc0) rfl (by kernel_rfl)  (fun _ => y_move rfl) (fun _ => hS) ?_
      refine x_p 1 (.int .i64 k12) rfl (by kernel_rfl)  (fun _ => y_move rfl) (fun _ => hS) ?_
      obtain ⟨x17, hx17, hs⟩ := bind_some hs
      obtain ⟨b18, o18, hp18, ha18⟩ := rs_idx Sl22 Sz3 h0 hx17
      refine x_p 2 (.pointer (some ⟨b18, o18, none⟩)) rfl (by kernel_rfl)  (fun _ => hp18 _ _ _ _ _ _ _ _ _ rfl rfl) (fun _ => hS) ?_
      refine x_l 3 (.int .i64 x17) rfl (by kernel_rfl)  (fun w' hw' => y_load rfl ((at_load_int Ag3 Sz3 ha18) w' hw')) hS ?_
      refine x_p 4 (.slice pa1 pn1 pc1) rfl (by kernel_rfl)  (fun _ => y_move rfl) (fun _ => hS) ?_
      refine x_p 5 (.int .i64 k12) rfl (by kernel_rfl)  (fun _ => y_move rfl) (fun _ => hS) ?_
      obtain ⟨x19, hx19, hs⟩ := bind_some hs
      obtain ⟨b20, o20, hp20, ha20⟩ := rs_idx Sl22 Sz3 h1 hx19
      refine x_p 6 (.pointer (some ⟨b20, o20, none⟩)) rfl (by kernel_rfl)  (fun _ => hp20 _ _ _ _ _ _ _ _ _ rfl rfl) (fun _ => hS) ?_
      refine x_l 7 (.int .i64 x19) rfl (by kernel_rfl)  (fun w' hw' => y_load rfl ((at_load_int Ag3 Sz3 ha20) w' hw')) hS ?_
      refine x_p 8 (.bool (x17 != x19)) rfl (by kernel_rfl)  (fun _ => y_neq rfl rfl) (fun _ => hS) ?_
      refine x_end (by kernel_rfl) ?_
      clear hS
      rcases bif_some hs with ⟨hc21, hs⟩ | ⟨hc21, hs⟩
      · skip
        refine c_condT (congrArg Value.bool hc21) ?_
        refine c_seq ?_
        refine c_region ?_
        refine pl_val (.bool false) (y_assign rfl) ?_
        refine c_nil ?_
        refine wp_ret ?_
        cases hs
        exact ⟨_, fr_ovl 26 ⟨rfl, trivial⟩, hC⟩
      · skip
        refine c_condF (congrArg Value.bool hc21) ?_
        refine wp_skip ?_
        refine c_region ?_
        refine pl_val (.int .i64 k12) (y_move rfl) ?_
        refine pl_val (.int .i64 (w64 (k12 + 1))) (y_add rfl rfl) ?_
        refine pl_val (.int .i64 (w64 (k12 + 1))) (y_assign rfl) ?_
        refine c_nil ?_
        cases hs
        exact ⟨_, fr_ovl 26 ⟨rfl, rfl, congrArg (Value.int .i64) hw, trivial⟩, hC, hO, h0, h1⟩
    · skip
      exact ⟨_, fr_ovl 26 ⟨rfl, rfl, rfl, trivial⟩, hC, hO, h0, h1⟩
    · cases o14 with
      | nx _ => exact True.intro
      | rt r_ =>
        have hs := after_rt hs
        intro a1 w1 hK
        cases hs
        exact hK
      | br s10 =>
        have hs := after_br hs
        rintro a1 w11 ⟨σ, rfl, hC, hO, h0, h1⟩
        refine c_seq ?_
        refine c_region ?_
        refine pl_val (.bool true) (y_assign rfl) ?_
        refine c_nil ?_
        refine wp_ret ?_
        cases hs
        exact ⟨_, fr_ovl 26 ⟨rfl, trivial⟩, hC⟩

theorem Bd18 : Bodied Try.prog 18 := bodied Try.func18 (by kernel_rfl) rfl

def k_laws_eqOp (M : Nat → Prop) (w0 : World) (r : Bool) (a : Act) (w : World) : Prop :=
  ∃ (σ : Nat → Value) , a = fr 16 (ovl σ [(4, (.bool r))]) ∧ Chg [] w0 w
def s_laws_eqOp (a_ : Int × (List Int)) (b : Int × (List Int)) : Option (Bool) :=
  (bif (a_.1 != b.1) then some false else (s_laws_eqIntS a_.2 b.2).bind fun r7 =>
  (bif (!r7) then some false else some true))
set_option maxHeartbeats 4000000 in
theorem c_laws_eqOp {M : Nat → Prop} {w : World} {pa0 : Option Addr} {pn0 pc0 : Nat} {pa1 : Option Addr} {pn1 pc1 : Nat} (a_ : Int × (List Int)) (b : Int × (List Int)) (h0 : (RT.rs (RT.int .i64)).val M w (.slice pa0 pn0 pc0) a_.2 ([])) (h1 : (RT.rs (RT.int .i64)).val M w (.slice pa1 pn1 pc1) b.2 ([])) (hM : ∀ g, w.heap.size ≤ g → M g) {r : Bool} (hs : s_laws_eqOp a_ b = some r) :
    Gives Try.prog 155 [(.agg #[(.int .i64 a_.1), (.slice pa0 pn0 pc0)]), (.agg #[(.int .i64 b.1), (.slice pa1 pn1 pc1)])] w (fun v w' => v = (.bool r) ∧ Chg [] w w') := by
  refine calls_fr Try.func155 rfl Try.ntmps155 (Nat.le_of_ble_eq_true rfl) ?_
  have hO := Own.start (N := Nw w []) hM Nw.fut
  have hC := Chg.refl [] w
  unfold s_laws_eqOp at hs
  refine wp_mono (Q := KPost (k_laws_eqOp M w r)) ?_ (fun e a w1 h => ?_)
  rotate_left
  · cases e
    case ret =>
      obtain ⟨σ, rfl, hrest⟩ := h
      exact ret1x Try.results155 (res_tmp rfl) ⟨rfl, hrest⟩
    all_goals exact (h : False).elim
  refine c_seq ?_
  refine c_region ?_
  obtain ⟨w3, g3, ew3, eg3, hC3, hb3⟩ := new_block w [(.int .i64 a_.1), (.slice pa0 pn0 pc0)] 82
  refine pl_val (w' := w3) (.pointer (some ⟨g3, 0, none⟩)) (y_box rfl (by rw [ew3, eg3]; kernel_rfl)) ?_
  have h0 := h0.ext hC3
  have h1 := h1.ext hC3
  have hC := hC.ext hC3
  have hO := hO.new (X' := [g3]) hC3 (fun q hq => by rw [List.mem_singleton.1 hq, eg3]; exact Nat.le_refl _) (List.nodup_cons.2 ⟨(fun h => nomatch h), List.nodup_nil⟩) (fun q hq => by rw [List.mem_singleton.1 hq]; exact hb3.lt)
  obtain ⟨w4, g4, ew4, eg4, hC4, hb4⟩ := new_block w3 [(.int .i64 b.1), (.slice pa1 pn1 pc1)] 82
  refine pl_val (w' := w4) (.pointer (some ⟨g4, 0, none⟩)) (y_box rfl (by rw [ew4, eg4]; kernel_rfl)) ?_
  have h0 := h0.ext hC4
  have h1 := h1.ext hC4
  have hb3 := hb3.chg hC4 (fun h => nomatch h)
  have hC := hC.ext hC4
  have hO := hO.new (X' := [g4]) hC4 (fun q hq => by rw [List.mem_singleton.1 hq, eg4]; exact Nat.le_refl _) (List.nodup_cons.2 ⟨(fun h => nomatch h), List.nodup_nil⟩) (fun q hq => by rw [List.mem_singleton.1 hq]; exact hb4.lt)
  refine pl_val (.bool false) (y_assign rfl) ?_
  refine c_nil ?_
  refine c_seq ?_
  refine c_seq ?_
  refine c_region ?_
  refine pl_val (.pointer (some ⟨g3, 0, none⟩)) (y_faddr rfl Fa82x0) ?_
  refine pl_val (.int .i64 a_.1) (y_load rfl ((box_load Ag3 Sz3 hb3 [] [(.int .i64 a_.1)] [(.slice pa0 pn0 pc0)] rfl rfl (fun _ => rfl)) _ (Chg.refl _ _))) ?_
  refine pl_val (.pointer (some ⟨g4, 0, none⟩)) (y_faddr rfl Fa82x0) ?_
  refine pl_val (.int .i64 b.1) (y_load rfl ((box_load Ag3 Sz3 hb4 [] [(.int .i64 b.1)] [(.slice pa1 pn1 pc1)] rfl rfl (fun _ => rfl)) _ (Chg.refl _ _))) ?_
  refine pl_val (.bool (a_.1 != b.1)) (y_neq rfl rfl) ?_
  refine c_nil ?_
  rcases bif_some hs with ⟨hc5, hs⟩ | ⟨hc5, hs⟩
  · skip
    refine c_condT (congrArg Value.bool hc5) ?_
    refine c_seq ?_
    refine c_region ?_
    refine pl_val (.bool false) (y_assign rfl) ?_
    refine c_nil ?_
    refine wp_ret ?_
    cases hs
    exact ⟨_, fr_ovl 16 ⟨rfl, trivial⟩, hC⟩
  · skip
    refine c_condF (congrArg Value.bool hc5) ?_
    refine wp_skip ?_
    refine c_seq ?_
    refine c_seq ?_
    refine c_region ?_
    refine pl_val (.pointer (some ⟨g3, 1, none⟩)) (y_faddr rfl Fa82x1) ?_
    refine pl_val (.slice pa0 pn0 pc0) (y_load rfl ((box_load Ag22 Sz22 hb3 [(.int .i64 a_.1)] [(.slice pa0 pn0 pc0)] [] rfl rfl (fun _ => rfl)) _ (Chg.refl _ _))) ?_
    refine pl_val (.pointer (some ⟨g4, 1, none⟩)) (y_faddr rfl Fa82x1) ?_
    refine pl_val (.slice pa1 pn1 pc1) (y_load rfl ((box_load Ag22 Sz22 hb4 [(.int .i64 b.1)] [(.slice pa1 pn1 pc1)] [] rfl rfl (fun _ => rfl)) _ (Chg.refl _ _))) ?_
    obtain ⟨r7, hr7, hs⟩ := bind_some hs
    refine pl_call Bd18 rfl (c_laws_eqIntS (M := M) a_.2 b.2 h0 h1 hO.fut hr7) ?_
    rintro _ w6 ⟨rfl, hC6⟩
    have h0 := h0.ext hC6
    have h1 := h1.ext hC6
    have hb3 := hb3.chg hC6 (fun h => nomatch h)
    have hb4 := hb4.chg hC6 (fun h => nomatch h)
    have hC := hC.ext hC6
    have hO := hO.ext hC6
    refine pl_val (.bool (!r7)) (y_not rfl) ?_
    refine c_nil ?_
    rcases bif_some hs with ⟨hc8, hs⟩ | ⟨hc8, hs⟩
    · skip
      refine c_condT (congrArg Value.bool hc8) ?_
      refine c_seq ?_
      refine c_region ?_
      refine pl_val (.bool false) (y_assign rfl) ?_
      refine c_nil ?_
      refine wp_ret ?_
      cases hs
      exact ⟨_, fr_ovl 16 ⟨rfl, trivial⟩, hC⟩
    · skip
      refine c_condF (congrArg Value.bool hc8) ?_
      refine wp_skip ?_
      refine c_seq ?_
      refine c_region ?_
      refine pl_val (.bool true) (y_assign rfl) ?_
      refine c_nil ?_
      refine wp_ret ?_
      cases hs
      exact ⟨_, fr_ovl 16 ⟨rfl, trivial⟩, hC⟩

theorem Bd155 : Bodied Try.prog 155 := bodied Try.func155 (by kernel_rfl) rfl

def k_laws_eqOpS (M : Nat → Prop) (w0 : World) (r : Bool) (a : Act) (w : World) : Prop :=
  ∃ (σ : Nat → Value) , a = fr 27 (ovl σ [(4, (.bool r))]) ∧ Chg [] w0 w
def s_laws_eqOpS (a_ : List (Int × (List Int))) (b : List (Int × (List Int))) : Option (Bool) :=
  (bif ((a_.length : Int) != (b.length : Int)) then some false else (forC (S := Unit) (R := Bool) (fun k18 s16 =>
  (idx a_ k18).bind fun x23 =>
  (idx b k18).bind fun x27 =>
  (s_laws_eqOp (x23.1, x23.2) (x27.1, x27.2)).bind fun r32 =>
  (bif (!r32) then some (.rt false) else some (.nx ()))) 0 (a_.length : Int) ()).bind fun o20 => after o20 (fun r_ => some r_) (fun s16 =>
  some true))
set_option maxHeartbeats 4000000 in
theorem c_laws_eqOpS {M : Nat → Prop} {w : World} {pa0 : Option Addr} {pn0 pc0 : Nat} {pa1 : Option Addr} {pn1 pc1 : Nat} (a_ : List (Int × (List Int))) (b : List (Int × (List Int))) (h0 : (RT.rs (RT.pr (RT.int .i64) (RT.rs (RT.int .i64)))).val M w (.slice pa0 pn0 pc0) a_ ([])) (h1 : (RT.rs (RT.pr (RT.int .i64) (RT.rs (RT.int .i64)))).val M w (.slice pa1 pn1 pc1) b ([])) (hM : ∀ g, w.heap.size ≤ g → M g) {r : Bool} (hs : s_laws_eqOpS a_ b = some r) :
    Gives Try.prog 102 [(.slice pa0 pn0 pc0), (.slice pa1 pn1 pc1)] w (fun v w' => v = (.bool r) ∧ Chg [] w w') := by
  refine calls_fr Try.func102 rfl Try.ntmps102 (Nat.le_of_ble_eq_true rfl) ?_
  have hO := Own.start (N := Nw w []) hM Nw.fut
  have hC := Chg.refl [] w
  unfold s_laws_eqOpS at hs
  refine wp_mono (Q := KPost (k_laws_eqOpS M w r)) ?_ (fun e a w1 h => ?_)
  rotate_left
  · cases e
    case ret =>
      obtain ⟨σ, rfl, hrest⟩ := h
      exact ret1x Try.results102 (res_tmp rfl) ⟨rfl, hrest⟩
    all_goals exact (h : False).elim
  refine c_seq ?_
  refine c_region ?_
  refine pl_val (.bool false) (y_assign rfl) ?_
  refine c_nil ?_
  refine c_seq ?_
  refine c_seq ?_
  refine c_region ?_
  refine pl_val (.slice pa0 pn0 pc0) (y_move rfl) ?_
  refine pl_val (.int .i64 (a_.length : Int)) (y_len' Sl60 (rs_len h0) rfl) ?_
  refine pl_val (.slice pa1 pn1 pc1) (y_move rfl) ?_
  refine pl_val (.int .i64 (b.length : Int)) (y_len' Sl60 (rs_len h1) rfl) ?_
  refine pl_val (.bool ((a_.length : Int) != (b.length : Int))) (y_neq rfl rfl) ?_
  refine c_nil ?_
  rcases bif_some hs with ⟨hc3, hs⟩ | ⟨hc3, hs⟩
  · skip
    refine c_condT (congrArg Value.bool hc3) ?_
    refine c_seq ?_
    refine c_region ?_
    refine pl_val (.bool false) (y_assign rfl) ?_
    refine c_nil ?_
    refine wp_ret ?_
    cases hs
    exact ⟨_, fr_ovl 27 ⟨rfl, trivial⟩, hC⟩
  · skip
    refine c_condF (congrArg Value.bool hc3) ?_
    refine wp_skip ?_
    refine c_seq ?_
    refine c_seq ?_
    refine c_region ?_
    refine pl_val (.int .i64 0) (y_assign rfl) ?_
    refine c_nil ?_
    obtain ⟨o20, hl21, hs⟩ := bind_some hs
    refine wp_block ?_
    refine wp_forC (id := 0) (a_.length : Int) (I := fun k18 s16 a w17 => ∃ (σ : Nat → Value), a = fr 27 (ovl σ [(0, (.slice pa0 pn0 pc0)), (1, (.slice pa1 pn1 pc1)), (5, (.int .i64 k18))]) ∧ Chg [] w w17 ∧ Own (Nw w []) M w17 ([]) ∧ (RT.rs (RT.pr (RT.int .i64) (RT.rs (RT.int .i64)))).val M w17 (.slice pa0 pn0 pc0) a_ ([]) ∧ (RT.rs (RT.pr (RT.int .i64) (RT.rs (RT.int .i64)))).val M w17 (.slice pa1 pn1 pc1) b ([])) (J := fun s16 a w17 => ∃ (σ : Nat → Value), a = fr 27 (ovl σ []) ∧ Chg [] w w17 ∧ Own (Nw w []) M w17 ([]) ∧ (RT.rs (RT.pr (RT.int .i64) (RT.rs (RT.int .i64)))).val M w17 (.slice pa0 pn0 pc0) a_ ([]) ∧ (RT.rs (RT.pr (RT.int .i64) (RT.rs (RT.int .i64)))).val M w17 (.slice pa1 pn1 pc1) b ([])) (K := (k_laws_eqOpS M w)) ?_ ?_ 0 () o20 _ _ ?_ hl21 ?_
    · rintro k18 s16 a w17 ⟨σ, rfl, hC, hO, h0, h1⟩ hlt
      refine c_seq ?_
      refine c_seq ?_
      refine c_region ?_
      refine pl_val (.int .i64 k18) (y_move rfl) ?_
      refine pl_val (.slice pa0 pn0 pc0) (y_move rfl) ?_
      refine pl_val (.int .i64 (a_.length : Int)) (y_len' Sl60 (rs_len h0) rfl) ?_
      refine pl_val (.bool (decide (k18 < (a_.length : Int)))) (y_lss rfl rfl) ?_
      refine c_nil ?_
      refine c_condF (congrArg Value.bool (decide_eq_false hlt)) ?_
      refine wp_exit ?_
      exact ⟨rfl, _, fr_ovl 27 trivial, hC, hO, h0, h1⟩
    · rintro k18 s16 o20 a w17 ⟨σ, rfl, hC, hO, h0, h1⟩ hlt hw hs
      refine c_seq ?_
      refine c_seq ?_
      refine c_region ?_
      refine pl_val (.int .i64 k18) (y_move rfl) ?_
      refine pl_val (.slice pa0 pn0 pc0) (y_move rfl) ?_
      refine pl_val (.int .i64 (a_.length : Int)) (y_len' Sl60 (rs_len h0) rfl) ?_
      refine pl_val (.bool (decide (k18 < (a_.length : Int)))) (y_lss rfl rfl) ?_
      refine c_nil ?_
      refine c_condT (congrArg Value.bool (decide_eq_true hlt)) ?_
      refine wp_skip ?_
      refine c_seq ?_
      refine wp_block ?_
      refine c_seq ?_
      refine x_start [] Mx rfl ?_
      have hCw22 := Chg.drew w17
      generalize World.drew w17 = w22 at hCw22 ⊢
      have h0 := h0.ext hCw22
      have h1 := h1.ext hCw22
      have hC := hC.ext hCw22
      have hO := hO.ext hCw22
      have hS := Chg.refl [] w22
      refine x_p 0 (.slice pa0 pn0 pc0) rfl (by kernel_rfl)  (fun _ => y_move rfl) (fun _ => hS) ?_
      refine x_p 1 (.int .i64 k18) rfl (by kernel_rfl)  (fun _ => y_move rfl) (fun _ => hS) ?_
      obtain ⟨x23, hx23, hs⟩ := bind_some hs
      obtain ⟨b24, o24, hp24, ha24⟩ := rs_idx Sl60 Sz82 h0 hx23
      refine x_p 2 (.pointer (some ⟨b24, o24, none⟩)) rfl (by kernel_rfl)  (fun _ => hp24 _ _ _ _ _ _ _ _ _ rfl rfl) (fun _ => hS) ?_
      obtain ⟨v25, hl25, hv25⟩ := at_load Ag82 Sz82 (by intro h; cases h) ha24
      obtain ⟨cs25, rfl, hr25⟩ := hv25
      obtain ⟨cc25x1, cd25x1, rfl, hh25x1, ht25x1⟩ := pr_open hr25
      obtain rfl := int_rel hh25x1
      obtain ⟨a25x2, n25x2, c25x2, rfl, hv25x2⟩ := rs_rel ht25x1
      refine x_l 3 (.agg #[(.int .i64 x23.1), (.slice a25x2 n25x2 c25x2)]) rfl (by kernel_rfl)  (fun w' hw' => y_load rfl (hl25 w' hw')) hS ?_
      refine x_p 4 (.slice pa1 pn1 pc1) rfl (by kernel_rfl)  (fun _ => y_move rfl) (fun _ => hS) ?_
      refine x_p 5 (.int .i64 k18) rfl (by kernel_rfl)  (fun _ => y_move rfl) (fun _ => hS) ?_
      obtain ⟨x27, hx27, hs⟩ := bind_some hs
      obtain ⟨b28, o28, hp28, ha28⟩ := rs_idx Sl60 Sz82 h1 hx27
      refine x_p 6 (.pointer (some ⟨b28, o28, none⟩)) rfl (by kernel_rfl)  (fun _ => hp28 _ _ _ _ _ _ _ _ _ rfl rfl) (fun _ => hS) ?_
      obtain ⟨v29, hl29, hv29⟩ := at_load Ag82 Sz82 (by intro h; cases h) ha28
      obtain ⟨cs29, rfl, hr29⟩ := hv29
      obtain ⟨cc29x1, cd29x1, rfl, hh29x1, ht29x1⟩ := pr_open hr29
      obtain rfl := int_rel hh29x1
      obtain ⟨a29x2, n29x2, c29x2, rfl, hv29x2⟩ := rs_rel ht29x1
      refine x_l 7 (.agg #[(.int .i64 x27.1), (.slice a29x2 n29x2 c29x2)]) rfl (by kernel_rfl)  (fun w' hw' => y_load rfl (hl29 w' hw')) hS ?_
      refine x_one (i := 8) (by kernel_rfl) ?_
      obtain ⟨r32, hr32, hs⟩ := bind_some hs
      refine xk_call (b := false) rfl  Bd155 rfl (c_laws_eqOp (M := M) (x23.1, x23.2) (x27.1, x27.2) hv25x2 hv29x2 hO.fut hr32) rfl (by rintro _ _ _ ⟨rfl, hC31⟩; exact hS.ext hC31) ?_
      rintro _ w31 ⟨rfl, hC31⟩
      have h0 := h0.ext hC31
      have h1 := h1.ext hC31
      have hv25x2 := hv25x2.ext hC31
      have hv29x2 := hv29x2.ext hC31
      have hC := hC.ext hC31
      have hO := hO.ext hC31
      have hS := hS.ext hC31
      refine x_p 9 (.bool (!r32)) rfl (by kernel_rfl)  (fun _ => y_not rfl) (fun _ => hS) ?_
      refine x_end (by kernel_rfl) ?_
      clear hS
      rcases bif_some hs with ⟨hc33, hs⟩ | ⟨hc33, hs⟩
      · skip
        refine c_condT (congrArg Value.bool hc33) ?_
        refine c_seq ?_
        refine c_region ?_
        refine pl_val (.bool false) (y_assign rfl) ?_
        refine c_nil ?_
        refine wp_ret ?_
        cases hs
        exact ⟨_, fr_ovl 27 ⟨rfl, trivial⟩, hC⟩
      · skip
        refine c_condF (congrArg Value.bool hc33) ?_
        refine wp_skip ?_
        refine c_region ?_
        refine pl_val (.int .i64 k18) (y_move rfl) ?_
        refine pl_val (.int .i64 (w64 (k18 + 1))) (y_add rfl rfl) ?_
        refine pl_val (.int .i64 (w64 (k18 + 1))) (y_assign rfl) ?_
        refine c_nil ?_
        cases hs
        exact ⟨_, fr_ovl 27 ⟨rfl, rfl, congrArg (Value.int .i64) hw, trivial⟩, hC, hO, h0, h1⟩
    · skip
      exact ⟨_, fr_ovl 27 ⟨rfl, rfl, rfl, trivial⟩, hC, hO, h0, h1⟩
    · cases o20 with
      | nx _ => exact True.intro
      | rt r_ =>
        have hs := after_rt hs
        intro a1 w1 hK
        cases hs
        exact hK
      | br s16 =>
        have hs := after_br hs
        rintro a1 w17 ⟨σ, rfl, hC, hO, h0, h1⟩
        refine c_seq ?_
        refine c_region ?_
        refine pl_val (.bool true) (y_assign rfl) ?_
        refine c_nil ?_
        refine wp_ret ?_
        cases hs
        exact ⟨_, fr_ovl 27 ⟨rfl, trivial⟩, hC⟩

theorem Bd102 : Bodied Try.prog 102 := bodied Try.func102 (by kernel_rfl) rfl

def k_laws_eqAlgebra (M : Nat → Prop) (w0 : World) (r : Bool) (a : Act) (w : World) : Prop :=
  ∃ (σ : Nat → Value) , a = fr 16 (ovl σ [(4, (.bool r))]) ∧ Chg [] w0 w
def s_laws_eqAlgebra (a_ : Int × (List (Int × (List Int)))) (b : Int × (List (Int × (List Int)))) : Option (Bool) :=
  (bif (a_.1 != b.1) then some false else (s_laws_eqOpS a_.2 b.2).bind fun r7 =>
  (bif (!r7) then some false else some true))
set_option maxHeartbeats 4000000 in
theorem c_laws_eqAlgebra {M : Nat → Prop} {w : World} {pa0 : Option Addr} {pn0 pc0 : Nat} {pa1 : Option Addr} {pn1 pc1 : Nat} (a_ : Int × (List (Int × (List Int)))) (b : Int × (List (Int × (List Int)))) (h0 : (RT.rs (RT.pr (RT.int .i64) (RT.rs (RT.int .i64)))).val M w (.slice pa0 pn0 pc0) a_.2 ([])) (h1 : (RT.rs (RT.pr (RT.int .i64) (RT.rs (RT.int .i64)))).val M w (.slice pa1 pn1 pc1) b.2 ([])) (hM : ∀ g, w.heap.size ≤ g → M g) {r : Bool} (hs : s_laws_eqAlgebra a_ b = some r) :
    Gives Try.prog 40 [(.agg #[(.int .i64 a_.1), (.slice pa0 pn0 pc0)]), (.agg #[(.int .i64 b.1), (.slice pa1 pn1 pc1)])] w (fun v w' => v = (.bool r) ∧ Chg [] w w') := by
  refine calls_fr Try.func40 rfl Try.ntmps40 (Nat.le_of_ble_eq_true rfl) ?_
  have hO := Own.start (N := Nw w []) hM Nw.fut
  have hC := Chg.refl [] w
  unfold s_laws_eqAlgebra at hs
  refine wp_mono (Q := KPost (k_laws_eqAlgebra M w r)) ?_ (fun e a w1 h => ?_)
  rotate_left
  · cases e
    case ret =>
      obtain ⟨σ, rfl, hrest⟩ := h
      exact ret1x Try.results40 (res_tmp rfl) ⟨rfl, hrest⟩
    all_goals exact (h : False).elim
  refine c_seq ?_
  refine c_region ?_
  obtain ⟨w3, g3, ew3, eg3, hC3, hb3⟩ := new_block w [(.int .i64 a_.1), (.slice pa0 pn0 pc0)] 62
  refine pl_val (w' := w3) (.pointer (some ⟨g3, 0, none⟩)) (y_box rfl (by rw [ew3, eg3]; kernel_rfl)) ?_
  have h0 := h0.ext hC3
  have h1 := h1.ext hC3
  have hC := hC.ext hC3
  have hO := hO.new (X' := [g3]) hC3 (fun q hq => by rw [List.mem_singleton.1 hq, eg3]; exact Nat.le_refl _) (List.nodup_cons.2 ⟨(fun h => nomatch h), List.nodup_nil⟩) (fun q hq => by rw [List.mem_singleton.1 hq]; exact hb3.lt)
  obtain ⟨w4, g4, ew4, eg4, hC4, hb4⟩ := new_block w3 [(.int .i64 b.1), (.slice pa1 pn1 pc1)] 62
  refine pl_val (w' := w4) (.pointer (some ⟨g4, 0, none⟩)) (y_box rfl (by rw [ew4, eg4]; kernel_rfl)) ?_
  have h0 := h0.ext hC4
  have h1 := h1.ext hC4
  have hb3 := hb3.chg hC4 (fun h => nomatch h)
  have hC := hC.ext hC4
  have hO := hO.new (X' := [g4]) hC4 (fun q hq => by rw [List.mem_singleton.1 hq, eg4]; exact Nat.le_refl _) (List.nodup_cons.2 ⟨(fun h => nomatch h), List.nodup_nil⟩) (fun q hq => by rw [List.mem_singleton.1 hq]; exact hb4.lt)
  refine pl_val (.bool false) (y_assign rfl) ?_
  refine c_nil ?_
  refine c_seq ?_
  refine c_seq ?_
  refine c_region ?_
  refine pl_val (.pointer (some ⟨g3, 0, none⟩)) (y_faddr rfl Fa62x0) ?_
  refine pl_val (.int .i64 a_.1) (y_load rfl ((box_load Ag3 Sz3 hb3 [] [(.int .i64 a_.1)] [(.slice pa0 pn0 pc0)] rfl rfl (fun _ => rfl)) _ (Chg.refl _ _))) ?_
  refine pl_val (.pointer (some ⟨g4, 0, none⟩)) (y_faddr rfl Fa62x0) ?_
  refine pl_val (.int .i64 b.1) (y_load rfl ((box_load Ag3 Sz3 hb4 [] [(.int .i64 b.1)] [(.slice pa1 pn1 pc1)] rfl rfl (fun _ => rfl)) _ (Chg.refl _ _))) ?_
  refine pl_val (.bool (a_.1 != b.1)) (y_neq rfl rfl) ?_
  refine c_nil ?_
  rcases bif_some hs with ⟨hc5, hs⟩ | ⟨hc5, hs⟩
  · skip
    refine c_condT (congrArg Value.bool hc5) ?_
    refine c_seq ?_
    refine c_region ?_
    refine pl_val (.bool false) (y_assign rfl) ?_
    refine c_nil ?_
    refine wp_ret ?_
    cases hs
    exact ⟨_, fr_ovl 16 ⟨rfl, trivial⟩, hC⟩
  · skip
    refine c_condF (congrArg Value.bool hc5) ?_
    refine wp_skip ?_
    refine c_seq ?_
    refine c_seq ?_
    refine c_region ?_
    refine pl_val (.pointer (some ⟨g3, 1, none⟩)) (y_faddr rfl Fa62x1) ?_
    refine pl_val (.slice pa0 pn0 pc0) (y_load rfl ((box_load Ag60 Sz60 hb3 [(.int .i64 a_.1)] [(.slice pa0 pn0 pc0)] [] rfl rfl (fun _ => rfl)) _ (Chg.refl _ _))) ?_
    refine pl_val (.pointer (some ⟨g4, 1, none⟩)) (y_faddr rfl Fa62x1) ?_
    refine pl_val (.slice pa1 pn1 pc1) (y_load rfl ((box_load Ag60 Sz60 hb4 [(.int .i64 b.1)] [(.slice pa1 pn1 pc1)] [] rfl rfl (fun _ => rfl)) _ (Chg.refl _ _))) ?_
    obtain ⟨r7, hr7, hs⟩ := bind_some hs
    refine pl_call Bd102 rfl (c_laws_eqOpS (M := M) a_.2 b.2 h0 h1 hO.fut hr7) ?_
    rintro _ w6 ⟨rfl, hC6⟩
    have h0 := h0.ext hC6
    have h1 := h1.ext hC6
    have hb3 := hb3.chg hC6 (fun h => nomatch h)
    have hb4 := hb4.chg hC6 (fun h => nomatch h)
    have hC := hC.ext hC6
    have hO := hO.ext hC6
    refine pl_val (.bool (!r7)) (y_not rfl) ?_
    refine c_nil ?_
    rcases bif_some hs with ⟨hc8, hs⟩ | ⟨hc8, hs⟩
    · skip
      refine c_condT (congrArg Value.bool hc8) ?_
      refine c_seq ?_
      refine c_region ?_
      refine pl_val (.bool false) (y_assign rfl) ?_
      refine c_nil ?_
      refine wp_ret ?_
      cases hs
      exact ⟨_, fr_ovl 16 ⟨rfl, trivial⟩, hC⟩
    · skip
      refine c_condF (congrArg Value.bool hc8) ?_
      refine wp_skip ?_
      refine c_seq ?_
      refine c_region ?_
      refine pl_val (.bool true) (y_assign rfl) ?_
      refine c_nil ?_
      refine wp_ret ?_
      cases hs
      exact ⟨_, fr_ovl 16 ⟨rfl, trivial⟩, hC⟩

def k_laws_markIntS (M : Nat → Prop) (w0 : World) (qa0 : Option Addr) (qn0 qc0 : Nat) (qf0 : List Nat) (r : Int × (List Int)) (a : Act) (w : World) : Prop :=
  ∃ (σ : Nat → Value) (rfi0 : List Nat), a = fr 19 (ovl σ [(4, (.int .i64 r.1))]) ∧ Chg (qf0 ++ ([])) w0 w ∧ (RT.os 3 (RT.int .i64)).val M w (.slice qa0 qn0 qc0) r.2 rfi0 ∧ Own (Nw w0 (qf0 ++ ([]))) (fun _ => True) w (rfi0 ++ ([]))
def s_laws_markIntS (a_ : List Int) (k : Int) : Option (Int × (List Int)) :=
  (iter (S := Int × Int × (List Int)) (R := Int × (List Int)) (fun s25 =>
  (bif (decide (s25.2.1 < (s25.2.2.length : Int))) then (idx s25.2.2 s25.2.1).bind fun x34 =>
  some (.nx (w64 (s25.1 + 1), w64 (s25.2.1 + 1), List.set s25.2.2 (Int.toNat s25.2.1) s25.1)) else some (.br (s25.1, s25.2.1, s25.2.2)))) FU (k, 0, a_)).bind fun o29 => after o29 (fun r_ => some r_) (fun s25 =>
  some (s25.1, s25.2.2))
set_option maxHeartbeats 4000000 in
theorem c_laws_markIntS {M : Nat → Prop} {w : World} {pa0 : Option Addr} {pn0 pc0 : Nat} {pf0 : List Nat} (a_ : List Int) (k : Int) (h0 : (RT.os 3 (RT.int .i64)).val M w (.slice pa0 pn0 pc0) a_ pf0) (hI : Own (Nw w (pf0 ++ ([]))) M w (pf0 ++ ([]))) (hM : ∀ g, w.heap.size ≤ g → M g) {r : Int × (List Int)} (hs : s_laws_markIntS a_ k = some r) :
    Gives Try.prog 19 [(.slice pa0 pn0 pc0), (.int .i64 k)] w (fun v w' => ∃ (rfi0 : List Nat), v = (.int .i64 r.1) ∧ Chg (pf0 ++ ([])) w w' ∧ (RT.os 3 (RT.int .i64)).val M w' (.slice pa0 pn0 pc0) r.2 rfi0 ∧ Own (Nw w (pf0 ++ ([]))) (fun _ => True) w' (rfi0 ++ ([]))) := by
  refine calls_fr Try.func19 rfl Try.ntmps19 (Nat.le_of_ble_eq_true rfl) ?_
  have hO := hI
  have hC := Chg.refl (pf0 ++ ([])) w
  unfold s_laws_markIntS at hs
  refine wp_mono (Q := KPost (k_laws_markIntS M w pa0 pn0 pc0 pf0 r)) ?_ (fun e a w1 h => ?_)
  rotate_left
  · cases e
    case ret =>
      obtain ⟨σ, rfi0, rfl, hrest⟩ := h
      exact ret1x Try.results19 (res_tmp rfl) ⟨rfi0, rfl, hrest⟩
    all_goals exact (h : False).elim
  refine c_seq ?_
  refine c_region ?_
  refine pl_val (.int .i64 0) (y_assign rfl) ?_
  refine c_nil ?_
  refine c_seq ?_
  refine c_seq ?_
  refine c_region ?_
  refine pl_val (.int .i64 0) (y_assign rfl) ?_
  refine c_nil ?_
  obtain ⟨o29, hl30, hs⟩ := bind_some hs
  refine wp_block ?_
  refine wp_iter (id := 0) (I := fun s25 a w26 => ∃ (σ : Nat → Value) (f31 : List Nat), a = fr 19 (ovl σ [(0, (.slice pa0 pn0 pc0)), (1, (.int .i64 s25.1)), (5, (.int .i64 s25.2.1))]) ∧ Chg (pf0 ++ ([])) w w26 ∧ Own (Nw w (pf0 ++ ([]))) M w26 (f31 ++ []) ∧ (RT.os 3 (RT.int .i64)).val M w26 (.slice pa0 pn0 pc0) s25.2.2 f31) (J := fun s25 a w26 => ∃ (σ : Nat → Value) (f32 : List Nat), a = fr 19 (ovl σ [(1, (.int .i64 s25.1))]) ∧ Chg (pf0 ++ ([])) w w26 ∧ Own (Nw w (pf0 ++ ([]))) M w26 (f32 ++ []) ∧ (RT.os 3 (RT.int .i64)).val M w26 (.slice pa0 pn0 pc0) s25.2.2 f32) (K := (k_laws_markIntS M w pa0 pn0 pc0 pf0)) ?_ FU (k, 0, a_) o29 _ _ ?_ hl30 ?_
  · rintro s25 o29 a w26 ⟨σ, f31, rfl, hC, hO, hv31⟩ hs
    refine c_seq ?_
    refine c_seq ?_
    refine c_region ?_
    refine pl_val (.int .i64 s25.2.1) (y_move rfl) ?_
    refine pl_val (.slice pa0 pn0 pc0) (y_move rfl) ?_
    refine pl_val (.int .i64 (s25.2.2.length : Int)) (y_len' Sl22 (os_len hv31) rfl) ?_
    refine pl_val (.bool (decide (s25.2.1 < (s25.2.2.length : Int)))) (y_lss rfl rfl) ?_
    refine c_nil ?_
    rcases bif_some hs with ⟨hc33, hs⟩ | ⟨hc33, hs⟩
    · skip
      refine c_condT (congrArg Value.bool hc33) ?_
      refine wp_skip ?_
      refine c_seq ?_
      refine wp_block ?_
      refine c_seq ?_
      refine c_region ?_
      refine pl_val (.slice pa0 pn0 pc0) (y_move rfl) ?_
      refine pl_val (.int .i64 s25.2.1) (y_move rfl) ?_
      refine pl_val (.int .i64 s25.1) (y_move rfl) ?_
      obtain ⟨x34, hx34, hs⟩ := bind_some hs
      obtain ⟨g35, f35, hg35, hk35, hp35, ha35, hf35⟩ := os_idx Sl22 Sz3 hv31 hx34
      refine pl_val (.pointer (some ⟨g35, 0 + Int.toNat s25.2.1 * 1, none⟩)) (hp35 _ _ _ _ _ _ _ _ _ rfl rfl) ?_
      obtain ⟨w36, f36, hst36, hC36, hf36, hv36⟩ := os_store (P := Try.prog) (c' := [(.int .i64 s25.1)]) hg35 hv31 hk35 (fun g hg => hO.inM g (os_block hv31 g (by simpa using hg))) ⟨rfl, rfl⟩ List.nodup_nil (fun _ h => nomatch h) (fun _ h => .inl h)
      have hG36 : ∀ q ∈ [g35], q ∈ f31 := fun q hq => os_block hv31 q (by rw [hg35]; exact hq)
      refine pl_skip (w' := w36) (ys_store rfl rfl (hst36 _ _ rfl Sz3)) ?_
      have hC := hC.step hC36 (fun g hg => hO.inN g (hG36 g hg))
      have hO := hO.grow hC36 (fun q hq => .inl ((hf36 q hq).resolve_right (fun h => nomatch h))) (os_nodup hv36) hv36.fpl
      refine c_nil ?_
      refine c_region ?_
      refine pl_val (.int .i64 s25.1) (y_move rfl) ?_
      refine pl_val (.int .i64 (w64 (s25.1 + 1))) (y_add rfl rfl) ?_
      refine pl_val (.int .i64 (w64 (s25.1 + 1))) (y_assign rfl) ?_
      refine c_nil ?_
      refine c_region ?_
      refine pl_val (.int .i64 s25.2.1) (y_move rfl) ?_
      refine pl_val (.int .i64 (w64 (s25.2.1 + 1))) (y_add rfl rfl) ?_
      refine pl_val (.int .i64 (w64 (s25.2.1 + 1))) (y_assign rfl) ?_
      refine c_nil ?_
      cases hs
      exact ⟨_, f36, fr_ovl 19 ⟨rfl, rfl, rfl, trivial⟩, hC, hO, hv36⟩
    · skip
      refine c_condF (congrArg Value.bool hc33) ?_
      refine wp_exit ?_
      cases hs
      exact ⟨rfl, _, f31, fr_ovl 19 ⟨rfl, trivial⟩, hC, hO, hv31⟩
  · skip
    exact ⟨_, pf0, fr_ovl 19 ⟨rfl, rfl, rfl, trivial⟩, hC, hO, h0⟩
  · cases o29 with
    | nx _ => exact True.intro
    | rt r_ =>
      have hs := after_rt hs
      intro a1 w1 hK
      cases hs
      exact hK
    | br s25 =>
      have hs := after_br hs
      rintro a1 w26 ⟨σ, f32, rfl, hC, hO, hv32⟩
      refine c_seq ?_
      refine c_region ?_
      refine pl_val (.int .i64 s25.1) (y_move rfl) ?_
      refine pl_val (.int .i64 s25.1) (y_assign rfl) ?_
      refine c_nil ?_
      refine wp_ret ?_
      cases hs
      exact ⟨_, f32, fr_ovl 19 ⟨rfl, trivial⟩, hC, hv32, hO.top⟩

theorem Bd19 : Bodied Try.prog 19 := bodied Try.func19 (by kernel_rfl) rfl

def k_laws_markOpS (M : Nat → Prop) (w0 : World) (qa0 : Option Addr) (qn0 qc0 : Nat) (qf0 : List Nat) (r : Int × (List (Int × (List Int)))) (a : Act) (w : World) : Prop :=
  ∃ (σ : Nat → Value) (rfi0 : List Nat), a = fr 27 (ovl σ [(4, (.int .i64 r.1))]) ∧ Chg (qf0 ++ ([])) w0 w ∧ (RT.os 82 (RT.pr (RT.int .i64) (RT.os 3 (RT.int .i64)))).val M w (.slice qa0 qn0 qc0) r.2 rfi0 ∧ Own (Nw w0 (qf0 ++ ([]))) (fun _ => True) w (rfi0 ++ ([]))
def s_laws_markOpS (a_ : List (Int × (List Int))) (k : Int) : Option (Int × (List (Int × (List Int)))) :=
  (iter (S := Int × Int × (List (Int × (List Int)))) (R := Int × (List (Int × (List Int)))) (fun s57 =>
  (bif (decide (s57.2.1 < (s57.2.2.length : Int))) then (idx s57.2.2 s57.2.1).bind fun x66 =>
  (idx (List.set s57.2.2 (Int.toNat s57.2.1) (s57.1, x66.2)) s57.2.1).bind fun x70 =>
  (s_laws_markIntS x70.2 (w64 (s57.1 + 1))).bind fun r76 =>
  some (.nx (r76.1, w64 (s57.2.1 + 1), List.set (List.set s57.2.2 (Int.toNat s57.2.1) (s57.1, x66.2)) (Int.toNat s57.2.1) (x70.1, r76.2))) else some (.br (s57.1, s57.2.1, s57.2.2)))) FU (k, 0, a_)).bind fun o61 => after o61 (fun r_ => some r_) (fun s57 =>
  some (s57.1, s57.2.2))
set_option maxHeartbeats 4000000 in
theorem c_laws_markOpS {M : Nat → Prop} {w : World} {pa0 : Option Addr} {pn0 pc0 : Nat} {pf0 : List Nat} (a_ : List (Int × (List Int))) (k : Int) (h0 : (RT.os 82 (RT.pr (RT.int .i64) (RT.os 3 (RT.int .i64)))).val M w (.slice pa0 pn0 pc0) a_ pf0) (hI : Own (Nw w (pf0 ++ ([]))) M w (pf0 ++ ([]))) (hM : ∀ g, w.heap.size ≤ g → M g) {r : Int × (List (Int × (List Int)))} (hs : s_laws_markOpS a_ k = some r) :
    Gives Try.prog 103 [(.slice pa0 pn0 pc0), (.int .i64 k)] w (fun v w' => ∃ (rfi0 : List Nat), v = (.int .i64 r.1) ∧ Chg (pf0 ++ ([])) w w' ∧ (RT.os 82 (RT.pr (RT.int .i64) (RT.os 3 (RT.int .i64)))).val M w' (.slice pa0 pn0 pc0) r.2 rfi0 ∧ Own (Nw w (pf0 ++ ([]))) (fun _ => True) w' (rfi0 ++ ([]))) := by
  refine calls_fr Try.func103 rfl Try.ntmps103 (Nat.le_of_ble_eq_true rfl) ?_
  have hO := hI
  have hC := Chg.refl (pf0 ++ ([])) w
  unfold s_laws_markOpS at hs
  refine wp_mono (Q := KPost (k_laws_markOpS M w pa0 pn0 pc0 pf0 r)) ?_ (fun e a w1 h => ?_)
  rotate_left
  · cases e
    case ret =>
      obtain ⟨σ, rfi0, rfl, hrest⟩ := h
      exact ret1x Try.results103 (res_tmp rfl) ⟨rfi0, rfl, hrest⟩
    all_goals exact (h : False).elim
  refine c_seq ?_
  refine c_region ?_
  refine pl_val (.int .i64 0) (y_assign rfl) ?_
  refine c_nil ?_
  refine c_seq ?_
  refine c_seq ?_
  refine c_region ?_
  refine pl_val (.int .i64 0) (y_assign rfl) ?_
  refine c_nil ?_
  obtain ⟨o61, hl62, hs⟩ := bind_some hs
  refine wp_block ?_
  refine wp_iter (id := 0) (I := fun s57 a w58 => ∃ (σ : Nat → Value) (f63 : List Nat), a = fr 27 (ovl σ [(0, (.slice pa0 pn0 pc0)), (1, (.int .i64 s57.1)), (5, (.int .i64 s57.2.1))]) ∧ Chg (pf0 ++ ([])) w w58 ∧ Own (Nw w (pf0 ++ ([]))) M w58 (f63 ++ []) ∧ (RT.os 82 (RT.pr (RT.int .i64) (RT.os 3 (RT.int .i64)))).val M w58 (.slice pa0 pn0 pc0) s57.2.2 f63) (J := fun s57 a w58 => ∃ (σ : Nat → Value) (f64 : List Nat), a = fr 27 (ovl σ [(1, (.int .i64 s57.1))]) ∧ Chg (pf0 ++ ([])) w w58 ∧ Own (Nw w (pf0 ++ ([]))) M w58 (f64 ++ []) ∧ (RT.os 82 (RT.pr (RT.int .i64) (RT.os 3 (RT.int .i64)))).val M w58 (.slice pa0 pn0 pc0) s57.2.2 f64) (K := (k_laws_markOpS M w pa0 pn0 pc0 pf0)) ?_ FU (k, 0, a_) o61 _ _ ?_ hl62 ?_
  · rintro s57 o61 a w58 ⟨σ, f63, rfl, hC, hO, hv63⟩ hs
    refine c_seq ?_
    refine c_seq ?_
    refine c_region ?_
    refine pl_val (.int .i64 s57.2.1) (y_move rfl) ?_
    refine pl_val (.slice pa0 pn0 pc0) (y_move rfl) ?_
    refine pl_val (.int .i64 (s57.2.2.length : Int)) (y_len' Sl60 (os_len hv63) rfl) ?_
    refine pl_val (.bool (decide (s57.2.1 < (s57.2.2.length : Int)))) (y_lss rfl rfl) ?_
    refine c_nil ?_
    rcases bif_some hs with ⟨hc65, hs⟩ | ⟨hc65, hs⟩
    · skip
      refine c_condT (congrArg Value.bool hc65) ?_
      refine wp_skip ?_
      refine c_seq ?_
      refine wp_block ?_
      refine c_seq ?_
      refine c_region ?_
      refine pl_val (.slice pa0 pn0 pc0) (y_move rfl) ?_
      refine pl_val (.int .i64 s57.2.1) (y_move rfl) ?_
      refine pl_val (.int .i64 s57.1) (y_move rfl) ?_
      obtain ⟨x66, hx66, hs⟩ := bind_some hs
      obtain ⟨g67, f67, hg67, hk67, hp67, ha67, hf67⟩ := os_idx Sl60 Sz82 hv63 hx66
      have hb67 := own_row (Frz.pr Frz.int (Frz.os Frz.int)) ha67 hf67
      refine pl_val (.pointer (some ⟨g67, 0 + Int.toNat s57.2.1 * 2, none⟩)) (hp67 _ _ _ _ _ _ _ _ _ rfl rfl) ?_
      obtain ⟨hq68, _⟩ := pr_at hb67
      refine pl_val (.pointer (some ⟨g67, (0 + Int.toNat s57.2.1 * 2) + 0, none⟩)) (y_faddr rfl Fa82x0) ?_
      obtain ⟨L169, c69, L269, fq69, hL69, hc69, hbx69, hr69, hsf69, hnf69, hgi69, hgn69, hput69⟩ := os_focus hg67 hv63 hx66 hO.inM
      obtain ⟨c69x1, d69x1, f69x1, k69x1, rfl, rfl, hl69x1, ht69x1⟩ := hr69
      obtain ⟨rfl, rfl⟩ := hl69x1
      have hn69x1 := RT.len _ ht69x1
      obtain ⟨w69, hst69, hC69, hb69⟩ := box_store (P := Try.prog) hbx69 (L169) [(Value.int .i64 x66.1)] (d69x1 ++ (L269)) [(Value.int .i64 s57.1)] (by simp) rfl (by intro u hu; rw [List.mem_singleton.1 hu]; rfl)
      have hA69 : (L169).length = ((0 + Int.toNat s57.2.1 * 2) + 0) := by
        simp only [List.length_append, hL69]
        try rfl
      rw [hA69] at hst69
      have hGM69 : ∀ q ∈ [g67], M q ∨ (w58).heap.size ≤ q := fun q hq => .inl (by rw [List.mem_singleton.1 hq]; exact hO.inM _ hgi69)
      obtain ⟨fz69, hv69, hf69⟩ := hput69 w69 [g67] ([(Value.int .i64 s57.1)] ++ d69x1) (s57.1, x66.2) (([] : List Nat) ++ k69x1) hC69 (fun q hq => .inl (List.mem_singleton.1 hq)) (by simpa using hb69) ⟨_, _, _, _, rfl, rfl, ⟨rfl, rfl⟩, (RT.mono _ ht69x1 hC69 hGM69 (fun q hq hq' => hgn69 (by rw [List.mem_singleton.1 hq] at hq'; simp [hq'])) (fun _ h => .inl h))⟩ hnf69 (fun q hq => .inl hq)
      refine pl_skip (w' := w69) (ys_store rfl rfl (hst69 _ _ rfl Sz3)) ?_
      have hG69 : ∀ q ∈ [g67], q ∈ f63 := fun q hq => by rw [List.mem_singleton.1 hq]; exact hgi69
      have hC := hC.step hC69 (fun g hg => hO.inN g (hG69 g hg))
      have hO := hO.grow hC69 hf69 (os_nodup hv69) hv69.fpl
      refine c_nil ?_
      refine c_seq ?_
      refine c_region ?_
      refine pl_val (.int .i64 s57.1) (y_move rfl) ?_
      refine pl_val (.int .i64 (w64 (s57.1 + 1))) (y_add rfl rfl) ?_
      refine pl_val (.int .i64 (w64 (s57.1 + 1))) (y_assign rfl) ?_
      refine c_nil ?_
      refine c_region ?_
      refine pl_val (.slice pa0 pn0 pc0) (y_move rfl) ?_
      refine pl_val (.int .i64 s57.2.1) (y_move rfl) ?_
      obtain ⟨x70, hx70, hs⟩ := bind_some hs
      obtain ⟨g71, f71, hg71, hk71, hp71, ha71, hf71⟩ := os_idx Sl60 Sz82 hv69 hx70
      have hb71 := own_row (Frz.pr Frz.int (Frz.os Frz.int)) ha71 hf71
      refine pl_val (.pointer (some ⟨g71, 0 + Int.toNat s57.2.1 * 2, none⟩)) (hp71 _ _ _ _ _ _ _ _ _ rfl rfl) ?_
      obtain ⟨_, hq72x0⟩ := pr_at hb71
      refine pl_val (.pointer (some ⟨g71, (0 + Int.toNat s57.2.1 * 2) + 1, none⟩)) (y_faddr rfl Fa82x1) ?_
      obtain ⟨cs73, hrow73, hr73⟩ := at_open hb71
      obtain ⟨cc73x1, cd73x1, rfl, hh73x1, ht73x1⟩ := pr_open hr73
      obtain rfl := int_rel hh73x1
      obtain ⟨a73x2, n73x2, c73x2, rfl, hv73x2⟩ := rs_rel ht73x1
      refine pl_val (.slice a73x2 n73x2 c73x2) (y_load rfl ((part_load (l1 := [(.int .i64 x70.1)]) (c := [(.slice a73x2 n73x2 c73x2)]) (l2 := []) Ag22 Sz22 hrow73 rfl rfl (fun _ => rfl)) _ (Chg.refl _ _))) ?_
      refine pl_val (.int .i64 (w64 (s57.1 + 1))) (y_move rfl) ?_
      obtain ⟨fg75, hrr75, hsf75, hnf75, hput75⟩ := os_put hg71 hv69 hx70 hrow73 rfl hO.inM
      obtain ⟨fa75x1, fb75x1, rfl, hp75x1, hq75x1⟩ := pr_split (c := [(.int .i64 x70.1)]) (d := [(.slice a73x2 n73x2 c73x2)]) hrr75 rfl
      obtain rfl := int_fp hp75x1
      have hg75x0 : (RT.os 3 (RT.int .i64)).val M w69 (.slice a73x2 n73x2 c73x2) x70.2 fb75x1 := ⟨[_], rfl, hq75x1⟩
      have hfs75 : ∀ q ∈ (fb75x1 ++ ([])), q ∈ fz69 := fun q hq => hsf75 q (by simpa using hq)
      have hfn75 : List.Nodup (fb75x1 ++ ([])) := by simpa using hnf75
      have hL75 := hO
      have hI75 := Own.part (X := (fb75x1 ++ ([]))) (hL75) hfs75 hfn75
      obtain ⟨r76, hr76, hs⟩ := bind_some hs
      refine pl_call Bd19 rfl (c_laws_markIntS (M := M) x70.2 (w64 (s57.1 + 1)) hg75x0 hI75 hI75.fut hr76) ?_
      rintro _ w75 ⟨fi75x0, rfl, hC75, hvi75x0, hOc75⟩
      obtain ⟨fq75, hvq75, hsq75⟩ := hput75 w75 (fb75x1 ++ ([])) (x70.1, r76.2) (([] : List Nat) ++ fi75x0) hC75 (fun q hq => by simpa using hq) ⟨_, _, _, _, rfl, rfl, ⟨rfl, rfl⟩, (os_unval hvi75x0)⟩ (by simpa using hOc75.1) (fun q hq => (hOc75.2.1 q (by simpa using hq)).2.2.imp (fun h => by simpa using h) id)
      have hC := hC.step hC75 (fun g hg => hO.inN g (hfs75 g hg))
      have hO := hO.grow hC75 hsq75 (os_nodup hvq75) hvq75.fpl
      refine pl_val (.int .i64 r76.1) (y_assign rfl) ?_
      refine c_nil ?_
      refine c_region ?_
      refine pl_val (.int .i64 s57.2.1) (y_move rfl) ?_
      refine pl_val (.int .i64 (w64 (s57.2.1 + 1))) (y_add rfl rfl) ?_
      refine pl_val (.int .i64 (w64 (s57.2.1 + 1))) (y_assign rfl) ?_
      refine c_nil ?_
      cases hs
      exact ⟨_, fq75, fr_ovl 27 ⟨rfl, rfl, rfl, trivial⟩, hC, hO, hvq75⟩
    · skip
      refine c_condF (congrArg Value.bool hc65) ?_
      refine wp_exit ?_
      cases hs
      exact ⟨rfl, _, f63, fr_ovl 27 ⟨rfl, trivial⟩, hC, hO, hv63⟩
  · skip
    exact ⟨_, pf0, fr_ovl 27 ⟨rfl, rfl, rfl, trivial⟩, hC, hO, h0⟩
  · cases o61 with
    | nx _ => exact True.intro
    | rt r_ =>
      have hs := after_rt hs
      intro a1 w1 hK
      cases hs
      exact hK
    | br s57 =>
      have hs := after_br hs
      rintro a1 w58 ⟨σ, f64, rfl, hC, hO, hv64⟩
      refine c_seq ?_
      refine c_region ?_
      refine pl_val (.int .i64 s57.1) (y_move rfl) ?_
      refine pl_val (.int .i64 s57.1) (y_assign rfl) ?_
      refine c_nil ?_
      refine wp_ret ?_
      cases hs
      exact ⟨_, f64, fr_ovl 27 ⟨rfl, trivial⟩, hC, hv64, hO.top⟩

theorem Bd103 : Bodied Try.prog 103 := bodied Try.func103 (by kernel_rfl) rfl

def k_laws_markAlgebra (M : Nat → Prop) (w0 : World) (qa0 : Option Addr) (qn0 qc0 : Nat) (qf0 : List Nat) (r : Int × (List (Int × (List Int)))) (a : Act) (w : World) : Prop :=
  ∃ (σ : Nat → Value) (rfi0 : List Nat), a = fr 10 (ovl σ [(4, (.int .i64 r.1))]) ∧ Chg (qf0 ++ ([])) w0 w ∧ (RT.os 82 (RT.pr (RT.int .i64) (RT.os 3 (RT.int .i64)))).val M w (.slice qa0 qn0 qc0) r.2 rfi0 ∧ Own (Nw w0 (qf0 ++ ([]))) (fun _ => True) w (rfi0 ++ ([]))
def s_laws_markAlgebra (a_ : Int × (List (Int × (List Int)))) (k : Int) : Option (Int × (List (Int × (List Int)))) :=
  (s_laws_markOpS a_.2 k).bind fun r4 =>
  some (r4.1, r4.2)
set_option maxHeartbeats 4000000 in
theorem c_laws_markAlgebra {M : Nat → Prop} {w : World} {pa0 : Option Addr} {pn0 pc0 : Nat} {pf0 : List Nat} (a_ : Int × (List (Int × (List Int)))) (k : Int) (h0 : (RT.os 82 (RT.pr (RT.int .i64) (RT.os 3 (RT.int .i64)))).val M w (.slice pa0 pn0 pc0) a_.2 pf0) (hI : Own (Nw w (pf0 ++ ([]))) M w (pf0 ++ ([]))) (hM : ∀ g, w.heap.size ≤ g → M g) {r : Int × (List (Int × (List Int)))} (hs : s_laws_markAlgebra a_ k = some r) :
    Gives Try.prog 41 [(.agg #[(.int .i64 a_.1), (.slice pa0 pn0 pc0)]), (.int .i64 k)] w (fun v w' => ∃ (rfi0 : List Nat), v = (.int .i64 r.1) ∧ Chg (pf0 ++ ([])) w w' ∧ (RT.os 82 (RT.pr (RT.int .i64) (RT.os 3 (RT.int .i64)))).val M w' (.slice pa0 pn0 pc0) r.2 rfi0 ∧ Own (Nw w (pf0 ++ ([]))) (fun _ => True) w' (rfi0 ++ ([]))) := by
  refine calls_fr Try.func41 rfl Try.ntmps41 (Nat.le_of_ble_eq_true rfl) ?_
  have hO := hI
  have hC := Chg.refl (pf0 ++ ([])) w
  unfold s_laws_markAlgebra at hs
  refine wp_mono (Q := KPost (k_laws_markAlgebra M w pa0 pn0 pc0 pf0 r)) ?_ (fun e a w1 h => ?_)
  rotate_left
  · cases e
    case ret =>
      obtain ⟨σ, rfi0, rfl, hrest⟩ := h
      exact ret1x Try.results41 (res_tmp rfl) ⟨rfi0, rfl, hrest⟩
    all_goals exact (h : False).elim
  refine c_seq ?_
  refine c_region ?_
  obtain ⟨w2, g2, ew2, eg2, hC2, hb2⟩ := new_block w [(.int .i64 a_.1), (.slice pa0 pn0 pc0)] 62
  refine pl_val (w' := w2) (.pointer (some ⟨g2, 0, none⟩)) (y_box rfl (by rw [ew2, eg2]; kernel_rfl)) ?_
  have h0 := h0.ext hC2
  have hC := hC.ext hC2
  have hO := hO.new (X' := [g2]) hC2 (fun q hq => by rw [List.mem_singleton.1 hq, eg2]; exact Nat.le_refl _) (List.nodup_cons.2 ⟨(fun h => nomatch h), List.nodup_nil⟩) (fun q hq => by rw [List.mem_singleton.1 hq]; exact hb2.lt)
  refine pl_val (.int .i64 0) (y_assign rfl) ?_
  refine c_nil ?_
  refine c_seq ?_
  refine c_region ?_
  refine pl_val (.pointer (some ⟨g2, 1, none⟩)) (y_faddr rfl Fa62x1) ?_
  refine pl_val (.slice pa0 pn0 pc0) (y_load rfl ((box_load Ag60 Sz60 hb2 [(.int .i64 a_.1)] [(.slice pa0 pn0 pc0)] [] rfl rfl (fun _ => rfl)) _ (Chg.refl _ _))) ?_
  refine pl_val (.int .i64 k) (y_move rfl) ?_
  have hO := hO.fr1
  have hL3 := hO
  have hI3 := Own.lend (F := (pf0 ++ ([]))) (R := ([g2]) ++ ([])) (Own.perm (hL3) (by simp))
  obtain ⟨r4, hr4, hs⟩ := bind_some hs
  refine pl_call Bd103 rfl (c_laws_markOpS (M := M) a_.2 k h0 hI3 hI3.fut hr4) ?_
  rintro _ w3 ⟨fi3x0, rfl, hC3, hvi3x0, hOc3⟩
  have hO := hO.perm (R := (pf0 ++ ([])) ++ (([g2]) ++ ([]))) (by simp)
  have hb2 := hb2.chg hC3 (fun hg => hO.apart _ ((fun _ h => h) _ hg) (mem_l (List.mem_singleton.2 rfl)))
  have hC := hC.step hC3 (fun g hg => hO.inN g ((fun _ h => h) g hg))
  have hO := Own.join hO hC3 hOc3
  have hO := hO.perm (R := fi3x0 ++ (([g2]) ++ ([]))) (by simp)
  refine pl_val (.int .i64 r4.1) (y_assign rfl) ?_
  refine c_nil ?_
  refine c_seq ?_
  refine c_region ?_
  refine pl_val (.int .i64 r4.1) (y_move rfl) ?_
  refine pl_val (.int .i64 r4.1) (y_assign rfl) ?_
  refine c_nil ?_
  refine wp_ret ?_
  cases hs
  have hO := hO.fr1
  have hO := hO.drop
  exact ⟨_, fi3x0, fr_ovl 10 ⟨rfl, trivial⟩, hC, hvi3x0, hO.top⟩

def k_laws_markBoolS (M : Nat → Prop) (w0 : World) (qa0 : Option Addr) (qn0 qc0 : Nat) (qf0 : List Nat) (r : Int × (List Bool)) (a : Act) (w : World) : Prop :=
  ∃ (σ : Nat → Value) (rfi0 : List Nat), a = fr 21 (ovl σ [(4, (.int .i64 r.1))]) ∧ Chg (qf0 ++ ([])) w0 w ∧ (RT.os 4 RT.bool).val M w (.slice qa0 qn0 qc0) r.2 rfi0 ∧ Own (Nw w0 (qf0 ++ ([]))) (fun _ => True) w (rfi0 ++ ([]))
def s_laws_markBoolS (a_ : List Bool) (k : Int) : Option (Int × (List Bool)) :=
  (iter (S := Int × Int × (List Bool)) (R := Int × (List Bool)) (fun s25 =>
  (bif (decide (s25.2.1 < (s25.2.2.length : Int))) then (idx s25.2.2 s25.2.1).bind fun x34 =>
  some (.nx (w64 (s25.1 + 1), w64 (s25.2.1 + 1), List.set s25.2.2 (Int.toNat s25.2.1) ((Int.tmod s25.1 3) == 0))) else some (.br (s25.1, s25.2.1, s25.2.2)))) FU (k, 0, a_)).bind fun o29 => after o29 (fun r_ => some r_) (fun s25 =>
  some (s25.1, s25.2.2))
set_option maxHeartbeats 4000000 in
theorem c_laws_markBoolS {M : Nat → Prop} {w : World} {pa0 : Option Addr} {pn0 pc0 : Nat} {pf0 : List Nat} (a_ : List Bool) (k : Int) (h0 : (RT.os 4 RT.bool).val M w (.slice pa0 pn0 pc0) a_ pf0) (hI : Own (Nw w (pf0 ++ ([]))) M w (pf0 ++ ([]))) (hM : ∀ g, w.heap.size ≤ g → M g) {r : Int × (List Bool)} (hs : s_laws_markBoolS a_ k = some r) :
    Gives Try.prog 42 [(.slice pa0 pn0 pc0), (.int .i64 k)] w (fun v w' => ∃ (rfi0 : List Nat), v = (.int .i64 r.1) ∧ Chg (pf0 ++ ([])) w w' ∧ (RT.os 4 RT.bool).val M w' (.slice pa0 pn0 pc0) r.2 rfi0 ∧ Own (Nw w (pf0 ++ ([]))) (fun _ => True) w' (rfi0 ++ ([]))) := by
  refine calls_fr Try.func42 rfl Try.ntmps42 (Nat.le_of_ble_eq_true rfl) ?_
  have hO := hI
  have hC := Chg.refl (pf0 ++ ([])) w
  unfold s_laws_markBoolS at hs
  refine wp_mono (Q := KPost (k_laws_markBoolS M w pa0 pn0 pc0 pf0 r)) ?_ (fun e a w1 h => ?_)
  rotate_left
  · cases e
    case ret =>
      obtain ⟨σ, rfi0, rfl, hrest⟩ := h
      exact ret1x Try.results42 (res_tmp rfl) ⟨rfi0, rfl, hrest⟩
    all_goals exact (h : False).elim
  refine c_seq ?_
  refine c_region ?_
  refine pl_val (.int .i64 0) (y_assign rfl) ?_
  refine c_nil ?_
  refine c_seq ?_
  refine c_seq ?_
  refine c_region ?_
  refine pl_val (.int .i64 0) (y_assign rfl) ?_
  refine c_nil ?_
  obtain ⟨o29, hl30, hs⟩ := bind_some hs
  refine wp_block ?_
  refine wp_iter (id := 0) (I := fun s25 a w26 => ∃ (σ : Nat → Value) (f31 : List Nat), a = fr 21 (ovl σ [(0, (.slice pa0 pn0 pc0)), (1, (.int .i64 s25.1)), (5, (.int .i64 s25.2.1))]) ∧ Chg (pf0 ++ ([])) w w26 ∧ Own (Nw w (pf0 ++ ([]))) M w26 (f31 ++ []) ∧ (RT.os 4 RT.bool).val M w26 (.slice pa0 pn0 pc0) s25.2.2 f31) (J := fun s25 a w26 => ∃ (σ : Nat → Value) (f32 : List Nat), a = fr 21 (ovl σ [(1, (.int .i64 s25.1))]) ∧ Chg (pf0 ++ ([])) w w26 ∧ Own (Nw w (pf0 ++ ([]))) M w26 (f32 ++ []) ∧ (RT.os 4 RT.bool).val M w26 (.slice pa0 pn0 pc0) s25.2.2 f32) (K := (k_laws_markBoolS M w pa0 pn0 pc0 pf0)) ?_ FU (k, 0, a_) o29 _ _ ?_ hl30 ?_
  · rintro s25 o29 a w26 ⟨σ, f31, rfl, hC, hO, hv31⟩ hs
    refine c_seq ?_
    refine c_seq ?_
    refine c_region ?_
    refine pl_val (.int .i64 s25.2.1) (y_move rfl) ?_
    refine pl_val (.slice pa0 pn0 pc0) (y_move rfl) ?_
    refine pl_val (.int .i64 (s25.2.2.length : Int)) (y_len' Sl57 (os_len hv31) rfl) ?_
    refine pl_val (.bool (decide (s25.2.1 < (s25.2.2.length : Int)))) (y_lss rfl rfl) ?_
    refine c_nil ?_
    rcases bif_some hs with ⟨hc33, hs⟩ | ⟨hc33, hs⟩
    · skip
      refine c_condT (congrArg Value.bool hc33) ?_
      refine wp_skip ?_
      refine c_seq ?_
      refine wp_block ?_
      refine c_seq ?_
      refine c_region ?_
      refine pl_val (.slice pa0 pn0 pc0) (y_move rfl) ?_
      refine pl_val (.int .i64 s25.2.1) (y_move rfl) ?_
      refine pl_val (.int .i64 s25.1) (y_move rfl) ?_
      refine pl_val (.int .i64 (Int.tmod s25.1 3)) (y_rem rfl rfl (by decide)) ?_
      refine pl_val (.bool ((Int.tmod s25.1 3) == 0)) (y_eql rfl rfl) ?_
      obtain ⟨x34, hx34, hs⟩ := bind_some hs
      obtain ⟨g35, f35, hg35, hk35, hp35, ha35, hf35⟩ := os_idx Sl57 Sz4 hv31 hx34
      refine pl_val (.pointer (some ⟨g35, 0 + Int.toNat s25.2.1 * 1, none⟩)) (hp35 _ _ _ _ _ _ _ _ _ rfl rfl) ?_
      obtain ⟨w36, f36, hst36, hC36, hf36, hv36⟩ := os_store (P := Try.prog) (c' := [(.bool ((Int.tmod s25.1 3) == 0))]) hg35 hv31 hk35 (fun g hg => hO.inM g (os_block hv31 g (by simpa using hg))) ⟨rfl, rfl⟩ List.nodup_nil (fun _ h => nomatch h) (fun _ h => .inl h)
      have hG36 : ∀ q ∈ [g35], q ∈ f31 := fun q hq => os_block hv31 q (by rw [hg35]; exact hq)
      refine pl_skip (w' := w36) (ys_store rfl rfl (hst36 _ _ rfl Sz4)) ?_
      have hC := hC.step hC36 (fun g hg => hO.inN g (hG36 g hg))
      have hO := hO.grow hC36 (fun q hq => .inl ((hf36 q hq).resolve_right (fun h => nomatch h))) (os_nodup hv36) hv36.fpl
      refine c_nil ?_
      refine c_region ?_
      refine pl_val (.int .i64 s25.1) (y_move rfl) ?_
      refine pl_val (.int .i64 (w64 (s25.1 + 1))) (y_add rfl rfl) ?_
      refine pl_val (.int .i64 (w64 (s25.1 + 1))) (y_assign rfl) ?_
      refine c_nil ?_
      refine c_region ?_
      refine pl_val (.int .i64 s25.2.1) (y_move rfl) ?_
      refine pl_val (.int .i64 (w64 (s25.2.1 + 1))) (y_add rfl rfl) ?_
      refine pl_val (.int .i64 (w64 (s25.2.1 + 1))) (y_assign rfl) ?_
      refine c_nil ?_
      cases hs
      exact ⟨_, f36, fr_ovl 21 ⟨rfl, rfl, rfl, trivial⟩, hC, hO, hv36⟩
    · skip
      refine c_condF (congrArg Value.bool hc33) ?_
      refine wp_exit ?_
      cases hs
      exact ⟨rfl, _, f31, fr_ovl 21 ⟨rfl, trivial⟩, hC, hO, hv31⟩
  · skip
    exact ⟨_, pf0, fr_ovl 21 ⟨rfl, rfl, rfl, trivial⟩, hC, hO, h0⟩
  · cases o29 with
    | nx _ => exact True.intro
    | rt r_ =>
      have hs := after_rt hs
      intro a1 w1 hK
      cases hs
      exact hK
    | br s25 =>
      have hs := after_br hs
      rintro a1 w26 ⟨σ, f32, rfl, hC, hO, hv32⟩
      refine c_seq ?_
      refine c_region ?_
      refine pl_val (.int .i64 s25.1) (y_move rfl) ?_
      refine pl_val (.int .i64 s25.1) (y_assign rfl) ?_
      refine c_nil ?_
      refine wp_ret ?_
      cases hs
      exact ⟨_, f32, fr_ovl 21 ⟨rfl, trivial⟩, hC, hv32, hO.top⟩

def k_laws_heldBoolS (M : Nat → Prop) (w0 : World) (r : Int) (a : Act) (w : World) : Prop :=
  ∃ (σ : Nat → Value) , a = fr 23 (ovl σ [(4, (.int .i64 r))]) ∧ Chg [] w0 w
def s_laws_heldBoolS (a_ : List Bool) (k : Int) : Option (Int) :=
  (forC (S := Int) (R := Int) (fun k7 s5 =>
  (idx a_ k7).bind fun x11 =>
  (bif (!(x11 == ((Int.tmod s5 3) == 0))) then some (.rt (-1)) else some (.nx (w64 (s5 + 1))))) 0 (a_.length : Int) k).bind fun o9 => after o9 (fun r_ => some r_) (fun s5 =>
  some s5)
set_option maxHeartbeats 4000000 in
theorem c_laws_heldBoolS {M : Nat → Prop} {w : World} {pa0 : Option Addr} {pn0 pc0 : Nat} (a_ : List Bool) (k : Int) (h0 : (RT.rs RT.bool).val M w (.slice pa0 pn0 pc0) a_ ([])) (hM : ∀ g, w.heap.size ≤ g → M g) {r : Int} (hs : s_laws_heldBoolS a_ k = some r) :
    Gives Try.prog 43 [(.slice pa0 pn0 pc0), (.int .i64 k)] w (fun v w' => v = (.int .i64 r) ∧ Chg [] w w') := by
  refine calls_fr Try.func43 rfl Try.ntmps43 (Nat.le_of_ble_eq_true rfl) ?_
  have hO := Own.start (N := Nw w []) hM Nw.fut
  have hC := Chg.refl [] w
  unfold s_laws_heldBoolS at hs
  refine wp_mono (Q := KPost (k_laws_heldBoolS M w r)) ?_ (fun e a w1 h => ?_)
  rotate_left
  · cases e
    case ret =>
      obtain ⟨σ, rfl, hrest⟩ := h
      exact ret1x Try.results43 (res_tmp rfl) ⟨rfl, hrest⟩
    all_goals exact (h : False).elim
  refine c_seq ?_
  refine c_region ?_
  refine pl_val (.int .i64 0) (y_assign rfl) ?_
  refine c_nil ?_
  refine c_seq ?_
  refine c_seq ?_
  refine c_region ?_
  refine pl_val (.int .i64 0) (y_assign rfl) ?_
  refine c_nil ?_
  obtain ⟨o9, hl10, hs⟩ := bind_some hs
  refine wp_block ?_
  refine wp_forC (id := 0) (a_.length : Int) (I := fun k7 s5 a w6 => ∃ (σ : Nat → Value), a = fr 23 (ovl σ [(0, (.slice pa0 pn0 pc0)), (1, (.int .i64 s5)), (5, (.int .i64 k7))]) ∧ Chg [] w w6 ∧ Own (Nw w []) M w6 ([]) ∧ (RT.rs RT.bool).val M w6 (.slice pa0 pn0 pc0) a_ ([])) (J := fun s5 a w6 => ∃ (σ : Nat → Value), a = fr 23 (ovl σ [(1, (.int .i64 s5))]) ∧ Chg [] w w6 ∧ Own (Nw w []) M w6 ([]) ∧ (RT.rs RT.bool).val M w6 (.slice pa0 pn0 pc0) a_ ([])) (K := (k_laws_heldBoolS M w)) ?_ ?_ 0 k o9 _ _ ?_ hl10 ?_
  · rintro k7 s5 a w6 ⟨σ, rfl, hC, hO, h0⟩ hlt
    refine c_seq ?_
    refine c_seq ?_
    refine c_region ?_
    refine pl_val (.int .i64 k7) (y_move rfl) ?_
    refine pl_val (.slice pa0 pn0 pc0) (y_move rfl) ?_
    refine pl_val (.int .i64 (a_.length : Int)) (y_len' Sl57 (rs_len h0) rfl) ?_
    refine pl_val (.bool (decide (k7 < (a_.length : Int)))) (y_lss rfl rfl) ?_
    refine c_nil ?_
    refine c_condF (congrArg Value.bool (decide_eq_false hlt)) ?_
    refine wp_exit ?_
    exact ⟨rfl, _, fr_ovl 23 ⟨rfl, trivial⟩, hC, hO, h0⟩
  · rintro k7 s5 o9 a w6 ⟨σ, rfl, hC, hO, h0⟩ hlt hw hs
    refine c_seq ?_
    refine c_seq ?_
    refine c_region ?_
    refine pl_val (.int .i64 k7) (y_move rfl) ?_
    refine pl_val (.slice pa0 pn0 pc0) (y_move rfl) ?_
    refine pl_val (.int .i64 (a_.length : Int)) (y_len' Sl57 (rs_len h0) rfl) ?_
    refine pl_val (.bool (decide (k7 < (a_.length : Int)))) (y_lss rfl rfl) ?_
    refine c_nil ?_
    refine c_condT (congrArg Value.bool (decide_eq_true hlt)) ?_
    refine wp_skip ?_
    refine c_seq ?_
    refine wp_block ?_
    refine c_seq ?_
    refine c_seq ?_
    refine c_region ?_
    refine pl_val (.slice pa0 pn0 pc0) (y_move rfl) ?_
    refine pl_val (.int .i64 k7) (y_move rfl) ?_
    obtain ⟨x11, hx11, hs⟩ := bind_some hs
    obtain ⟨b12, o12, hp12, ha12⟩ := rs_idx Sl57 Sz4 h0 hx11
    refine pl_val (.pointer (some ⟨b12, o12, none⟩)) (hp12 _ _ _ _ _ _ _ _ _ rfl rfl) ?_
    refine pl_val (.bool x11) (y_load rfl ((at_load_bool Ag4 Sz4 ha12) _ (Chg.refl _ _))) ?_
    refine pl_val (.int .i64 s5) (y_move rfl) ?_
    refine pl_val (.int .i64 (Int.tmod s5 3)) (y_rem rfl rfl (by decide)) ?_
    refine pl_val (.bool ((Int.tmod s5 3) == 0)) (y_eql rfl rfl) ?_
    refine pl_val (.bool (!(x11 == ((Int.tmod s5 3) == 0)))) (y_bneq Try.underlying4 rfl rfl) ?_
    refine c_nil ?_
    rcases bif_some hs with ⟨hc13, hs⟩ | ⟨hc13, hs⟩
    · skip
      refine c_condT (congrArg Value.bool hc13) ?_
      refine c_seq ?_
      refine c_region ?_
      refine pl_val (.int .i64 (-1)) (y_assign rfl) ?_
      refine c_nil ?_
      refine wp_ret ?_
      cases hs
      exact ⟨_, fr_ovl 23 ⟨rfl, trivial⟩, hC⟩
    · skip
      refine c_condF (congrArg Value.bool hc13) ?_
      refine wp_skip ?_
      refine c_region ?_
      refine pl_val (.int .i64 s5) (y_move rfl) ?_
      refine pl_val (.int .i64 (w64 (s5 + 1))) (y_add rfl rfl) ?_
      refine pl_val (.int .i64 (w64 (s5 + 1))) (y_assign rfl) ?_
      refine c_nil ?_
      refine c_region ?_
      refine pl_val (.int .i64 k7) (y_move rfl) ?_
      refine pl_val (.int .i64 (w64 (k7 + 1))) (y_add rfl rfl) ?_
      refine pl_val (.int .i64 (w64 (k7 + 1))) (y_assign rfl) ?_
      refine c_nil ?_
      cases hs
      exact ⟨_, fr_ovl 23 ⟨rfl, rfl, congrArg (Value.int .i64) hw, trivial⟩, hC, hO, h0⟩
  · skip
    exact ⟨_, fr_ovl 23 ⟨rfl, rfl, rfl, trivial⟩, hC, hO, h0⟩
  · cases o9 with
    | nx _ => exact True.intro
    | rt r_ =>
      have hs := after_rt hs
      intro a1 w1 hK
      cases hs
      exact hK
    | br s5 =>
      have hs := after_br hs
      rintro a1 w6 ⟨σ, rfl, hC, hO, h0⟩
      refine c_seq ?_
      refine c_region ?_
      refine pl_val (.int .i64 s5) (y_move rfl) ?_
      refine pl_val (.int .i64 s5) (y_assign rfl) ?_
      refine c_nil ?_
      refine wp_ret ?_
      cases hs
      exact ⟨_, fr_ovl 23 ⟨rfl, trivial⟩, hC⟩

theorem Ag55 : AggT Try.prog 55 true := fun _ => by kernel_rfl

theorem Sz55 : SzT Try.prog 55 2 := ⟨_, rfl, rfl⟩

theorem Bd35 : Bodied Try.prog 35 := bodied Try.func35 (by kernel_rfl) rfl

theorem Bd37 : Bodied Try.prog 37 := bodied Try.func37 (by kernel_rfl) rfl

theorem Bd36 : Bodied Try.prog 36 := bodied Try.func36 (by kernel_rfl) rfl

theorem Bd38 : Bodied Try.prog 38 := bodied Try.func38 (by kernel_rfl) rfl

theorem Bd39 : Bodied Try.prog 39 := bodied Try.func39 (by kernel_rfl) rfl

theorem Bd40 : Bodied Try.prog 40 := bodied Try.func40 (by kernel_rfl) rfl

theorem Bd41 : Bodied Try.prog 41 := bodied Try.func41 (by kernel_rfl) rfl

theorem Bd42 : Bodied Try.prog 42 := bodied Try.func42 (by kernel_rfl) rfl

theorem Bd43 : Bodied Try.prog 43 := bodied Try.func43 (by kernel_rfl) rfl

end Go.Proofs
