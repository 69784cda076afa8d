/- What functions of the program compute, as plain functions, and that a call gives just that. Conditions: those named in each theorem. -/
import Derived.Test.YtlfpejnpjpmejaaF2
set_option linter.unusedVariables false
namespace Go.Proofs
open Go.G Go.RowKit
set_option maxRecDepth 100000

def k_impl_inSize (M : Nat → Prop) (w0 : World) (r : Bool) (a : Act) (w : World) : Prop :=
  ∃ (σ : Nat → Value) , a = fr 21 (ovl σ [(4, (.bool r))]) ∧ Chg [] w0 w
def s_impl_inSize (list : List Int) (n : Int) : Option (Bool) :=
  (forR (S := Unit) (R := Bool) (fun _ x8 s5 =>
  (bif (decide (x8 < 0)) then some (.rt false) else (bif (decide (n ≤ x8)) then some (.rt false) else some (.nx ())))) 0 list ()).bind fun o9 => after o9 (fun r_ => some r_) (fun s5 =>
  some true)
set_option maxHeartbeats 4000000 in
theorem c_impl_inSize {M : Nat → Prop} {w : World} {pa0 : Option Addr} {pn0 pc0 : Nat} (list : List Int) (n : Int) (h0 : (RT.rs (RT.int .i64)).val M w (.slice pa0 pn0 pc0) list ([])) (hM : ∀ g, w.heap.size ≤ g → M g) {r : Bool} (hs : s_impl_inSize list n = some r) :
    Gives Try.prog 62 [(.slice pa0 pn0 pc0), (.int .i64 n)] w (fun v w' => v = (.bool r) ∧ Chg [] w w') := by
 refine calls_fr Try.func62 rfl Try.ntmps62 (Nat.le_of_ble_eq_true rfl) ?_
 have hO := Own.start (N := Nw w []) hM Nw.fut
 have hC := Chg.refl [] w
 unfold s_impl_inSize at hs
 refine wp_mono (Q := KPost (k_impl_inSize M w r)) ?_ (fun e a w1 h => ?_)
 rotate_left
 ·cases e
  case ret =>
   obtain ⟨σ, rfl, hrest⟩ := h
   exact ret1x Try.results62 (res_tmp rfl) ⟨rfl, hrest⟩
  all_goals exact (h : False).elim
 refine c_seq (c_region ?_)
 refine pl_val (.bool false) (y_assign rfl) ?_
 refine c_nil ?_
 refine c_seq ?_
 refine c_seq (c_region ?_)
 refine pl_val (.slice pa0 pn0 pc0) (y_move rfl) ?_
 refine pl_val (.int .i64 (list.length : Int)) (y_len' Sl25 (rs_len h0) rfl) ?_
 refine pl_val (.int .i64 0) (y_move rfl) ?_
 refine c_nil ?_
 obtain ⟨o9, hl10, hs⟩ := bind_some hs
 refine wp_block ?_
 refine wp_forR (id := 0) (I := fun i_ xs_ s5 a w6 => ∃ k7 : Nat, i_ = (k7 : Int) ∧ List.drop k7 list = xs_ ∧ (∃ (σ : Nat → Value), a = fr 21 (ovl σ [(1, (.int .i64 n)), (7, (.slice pa0 pn0 pc0)), (8, (.int .i64 (list.length : Int))), (9, (.int .i64 (k7 : Int)))]) ∧ Chg [] w w6 ∧ Own (Nw w []) M w6 ([]) ∧ (RT.rs (RT.int .i64)).val M w6 (.slice pa0 pn0 pc0) list ([]))) (J := fun s5 a w6 => ∃ (σ : Nat → Value), a = fr 21 (ovl σ []) ∧ Chg [] w w6 ∧ Own (Nw w []) M w6 ([]) ∧ (RT.rs (RT.int .i64)).val M w6 (.slice pa0 pn0 pc0) list ([])) (K := (k_impl_inSize M w)) ?_ ?_ list 0 () o9 _ _ ?_ hl10 ?_
 ·rintro _ s5 a w6 ⟨k7, rfl, hd, σ, rfl, hC, hO, h0⟩
  have hlt := drop_nil_ge hd
  refine c_seq (c_region ?_)
  refine pl_val (.bool (decide ((k7 : Int) < (list.length : Int)))) (y_lss rfl rfl) ?_
  refine c_nil ?_
  refine c_seq ?_
  refine c_condF (congrArg Value.bool (decide_eq_false hlt)) ?_
  refine wp_exit ?_
  exact ⟨rfl, _, fr_ovl 21 trivial, hC, hO, h0⟩
 ·rintro _ x8 xs_ s5 o9 a w6 ⟨k7, rfl, hd, σ, rfl, hC, hO, h0⟩ hs
  have hlt := drop_cons_lt hd
  have hxk7 := drop_cons_idx hd
  refine c_seq (c_region ?_)
  refine pl_val (.bool (decide ((k7 : Int) < (list.length : Int)))) (y_lss rfl rfl) ?_
  refine c_nil ?_
  refine c_seq ?_
  refine c_condT (congrArg Value.bool (decide_eq_true hlt)) ?_
  refine wp_skip ?_
  refine c_seq ?_
  refine wp_block ?_
  refine c_seq (c_region ?_)
  obtain ⟨b11, o11, hp11, ha11⟩ := rs_idx Sl25 Sz3 h0 hxk7
  refine pl_val (.pointer (some ⟨b11, o11, none⟩)) (hp11 _ _ _ _ _ _ _ _ _ rfl rfl) ?_
  refine pl_val (.int .i64 x8) (y_load rfl ((at_load_int Ag3 Sz3 ha11) _ (Chg.refl _ _))) ?_
  refine pl_val (.int .i64 x8) (y_assign rfl) ?_
  refine c_nil ?_
  refine c_seq (c_region ?_)
  refine pl_val (.int .i64 x8) (y_move rfl) ?_
  refine pl_val (.bool (decide (x8 < 0))) (y_lss rfl rfl) ?_
  refine pl_val (.bool (decide (x8 < 0))) (y_move rfl) ?_
  rcases bif_some hs with ⟨hc12, hs⟩ | ⟨hc12, hs⟩
  ·skip
   refine pl_not (tg := 15) (by kernel_rfl) (congrArg Value.bool hc12) ?_
   refine pl_not (tg := 15) (by kernel_rfl) (congrArg Value.bool hc12) ?_
   refine pl_not (tg := 15) (by kernel_rfl) (congrArg Value.bool hc12) ?_
   refine pl_val (.bool true) (y_pick_t (congrArg Value.bool hc12) rfl) ?_
   refine c_nil ?_
   refine c_condT (by rfl) ?_
   refine c_seq (c_region ?_)
   refine pl_val (.bool false) (y_assign rfl) ?_
   refine c_nil ?_
   refine wp_ret ?_
   cases hs
   exact ⟨_, fr_ovl 21 ⟨rfl, trivial⟩, hC⟩
  ·skip
   refine pl_yes (.int .i64 x8) (tg := 15) (by kernel_rfl) (congrArg Value.bool hc12) (y_move rfl) ?_
   refine pl_yes (.int .i64 n) (tg := 15) (by kernel_rfl) (congrArg Value.bool hc12) (y_move rfl) ?_
   refine pl_yes (.bool (decide (n ≤ x8))) (tg := 15) (by kernel_rfl) (congrArg Value.bool hc12) (y_geq rfl rfl) ?_
   refine pl_val (.bool (decide (n ≤ x8))) (y_pick_f (congrArg Value.bool hc12) rfl) ?_
   refine c_nil ?_
   rcases bif_some hs with ⟨hc13, hs⟩ | ⟨hc13, hs⟩
   ·skip
    refine c_condT (congrArg Value.bool hc13) ?_
    refine c_seq (c_region ?_)
    refine pl_val (.bool false) (y_assign rfl) ?_
    refine c_nil ?_
    refine wp_ret ?_
    cases hs
    exact ⟨_, fr_ovl 21 ⟨rfl, trivial⟩, hC⟩
   ·skip
    refine c_condF (congrArg Value.bool hc13) ?_
    refine wp_skip ?_
    refine c_region ?_
    refine pl_val (.int .i64 (w64 ((k7 : Int) + 1))) (y_add rfl rfl) ?_
    refine pl_val (.int .i64 (w64 ((k7 : Int) + 1))) (y_move rfl) ?_
    refine c_nil ?_
    cases hs
    exact ⟨_, rfl, drop_cons_next hd, _, fr_ovl 21 ⟨rfl, rfl, rfl, congrArg (Value.int .i64) (w64_succ hlt (Int.natCast_nonneg _) (rs_max h0)), trivial⟩, hC, hO, h0⟩
 ·skip
  exact ⟨0, rfl, rfl, _, fr_ovl 21 ⟨rfl, rfl, rfl, rfl, trivial⟩, hC, hO, h0⟩
 ·cases o9 with
  | nx _ => exact True.intro
  | rt r_ =>
   have hs := after_rt hs
   intro a1 w1 hK
   cases hs
   exact hK
  | br s5 =>
   have hs := after_br hs
   rintro a1 w6 ⟨σ, rfl, hC, hO, h0⟩
   refine c_seq (c_region ?_)
   refine pl_val (.bool true) (y_assign rfl) ?_
   refine c_nil ?_
   refine wp_ret ?_
   cases hs
   exact ⟨_, fr_ovl 21 ⟨rfl, trivial⟩, hC⟩

theorem Bd61 : Bodied Try.prog 61 := bodied Try.func61 (by kernel_rfl) rfl

theorem Bd62 : Bodied Try.prog 62 := bodied Try.func62 (by kernel_rfl) rfl

def k_impl_isOp (M : Nat → Prop) (w0 : World) (r : Bool) (a : Act) (w : World) : Prop :=
  ∃ (σ : Nat → Value) , a = fr 29 (ovl σ [(4, (.bool r))]) ∧ Chg [] w0 w
def s_impl_isOp (f : Int × (List Int)) (n : Int) : Option (Bool) :=
  (bif (decide (0 ≤ f.1)) then (bif (decide (f.1 ≤ 3)) then (s_impl_power n f.1).bind fun r7 =>
  (bif ((f.2.length : Int) == r7) then (s_impl_inSize f.2 n).bind fun r10 =>
  some r10 else some false) else some false) else some false)
set_option maxHeartbeats 4000000 in
theorem c_impl_isOp {M : Nat → Prop} {w : World} {pa0 : Option Addr} {pn0 pc0 : Nat} (f : Int × (List Int)) (n : Int) (h0 : (RT.rs (RT.int .i64)).val M w (.slice pa0 pn0 pc0) f.2 ([])) (hM : ∀ g, w.heap.size ≤ g → M g) {r : Bool} (hs : s_impl_isOp f n = some r) :
    Gives Try.prog 40 [(.agg #[(.int .i64 f.1), (.slice pa0 pn0 pc0)]), (.int .i64 n)] w (fun v w' => v = (.bool r) ∧ Chg [] w w') := by
 refine calls_fr Try.func40 rfl Try.ntmps40 (Nat.le_of_ble_eq_true rfl) ?_
 have hO := Own.start (N := Nw w []) hM Nw.fut
 have hC := Chg.refl [] w
 unfold s_impl_isOp at hs
 refine wp_mono (Q := KPost (k_impl_isOp M w r)) ?_ (fun e a w1 h => ?_)
 rotate_left
 ·cases e
  case ret =>
   obtain ⟨σ, rfl, hrest⟩ := h
   exact ret1x Try.results40 (res_tmp rfl) ⟨rfl, hrest⟩
  all_goals exact (h : False).elim
 refine c_seq (c_region ?_)
 obtain ⟨w2, g2, ew2, eg2, hC2, hb2⟩ := new_block w [(.int .i64 f.1), (.slice pa0 pn0 pc0)] 36
 refine pl_val (w' := w2) (.pointer (some ⟨g2, 0, none⟩)) (y_box rfl (by rw [ew2, eg2]; kernel_rfl)) ?_
 have h0 := h0.ext hC2
 have hC := hC.ext hC2
 have hO := hO.new1 hC2 eg2 hb2.lt
 refine pl_val (.bool false) (y_assign rfl) ?_
 refine c_nil ?_
 refine c_seq ?_
 refine x_start [] Mx rfl ?_
 have hCw3 := Chg.drew w2
 generalize World.drew w2 = w3 at hCw3 ⊢
 have h0 := h0.ext hCw3
 have hb2 := hb2.chg hCw3 (fun h => nomatch h)
 have hC := hC.ext hCw3
 have hO := hO.ext hCw3
 have hS := Chg.refl [] w3
 refine x_p 0 (.pointer (some ⟨g2, 0, none⟩)) rfl (by kernel_rfl)  (fun _ => y_faddr rfl Fa36x0) (fun _ => hS) ?_
 refine x_l 1 (.int .i64 f.1) rfl (by kernel_rfl)  (fun w' hw' => y_load rfl ((box_load Ag3 Sz3 hb2 [] [(.int .i64 f.1)] [(.slice pa0 pn0 pc0)] rfl rfl (fun _ => rfl)) w' hw')) hS ?_
 refine x_p 2 (.bool (decide (0 ≤ f.1))) rfl (by kernel_rfl)  (fun _ => y_geq rfl rfl) (fun _ => hS) ?_
 refine x_p 3 (.bool (decide (0 ≤ f.1))) rfl (by kernel_rfl)  (fun _ => y_move rfl) (fun _ => hS) ?_
 rcases bif_some hs with ⟨hc4, hs⟩ | ⟨hc4, hs⟩
 ·skip
  refine x_py 4 (.pointer (some ⟨g2, 0, none⟩)) rfl (by kernel_rfl) (tg := 8) (by kernel_rfl) (congrArg Value.bool hc4) (fun _ => y_faddr rfl Fa36x0) (fun _ => hS) ?_
  refine x_ly 5 (.int .i64 f.1) rfl (by kernel_rfl) (tg := 8) (by kernel_rfl) (congrArg Value.bool hc4) (fun w' hw' => y_load rfl ((box_load Ag3 Sz3 hb2 [] [(.int .i64 f.1)] [(.slice pa0 pn0 pc0)] rfl rfl (fun _ => rfl)) w' hw')) hS ?_
  refine x_py 6 (.bool (decide (f.1 ≤ 3))) rfl (by kernel_rfl) (tg := 8) (by kernel_rfl) (congrArg Value.bool hc4) (fun _ => y_leq rfl rfl) (fun _ => hS) ?_
  refine x_p 7 (.bool (decide (f.1 ≤ 3))) rfl (by kernel_rfl)  (fun _ => y_pick_t (congrArg Value.bool hc4) rfl) (fun _ => hS) ?_
  refine x_p 8 (.bool (decide (f.1 ≤ 3))) rfl (by kernel_rfl)  (fun _ => y_move rfl) (fun _ => hS) ?_
  rcases bif_some hs with ⟨hc5, hs⟩ | ⟨hc5, hs⟩
  ·skip
   refine x_py 9 (.pointer (some ⟨g2, 1, none⟩)) rfl (by kernel_rfl) (tg := 13) (by kernel_rfl) (congrArg Value.bool hc5) (fun _ => y_faddr rfl Fa36x1) (fun _ => hS) ?_
   refine x_ly 10 (.slice pa0 pn0 pc0) rfl (by kernel_rfl) (tg := 13) (by kernel_rfl) (congrArg Value.bool hc5) (fun w' hw' => y_load rfl ((box_load Ag25 Sz25 hb2 [(.int .i64 f.1)] [(.slice pa0 pn0 pc0)] [] rfl rfl (fun _ => rfl)) w' hw')) hS ?_
   refine x_py 11 (.int .i64 (f.2.length : Int)) rfl (by kernel_rfl) (tg := 13) (by kernel_rfl) (congrArg Value.bool hc5) (fun _ => y_len' Sl25 (rs_len h0) rfl) (fun _ => hS) ?_
   refine x_py 12 (.int .i64 n) rfl (by kernel_rfl) (tg := 13) (by kernel_rfl) (congrArg Value.bool hc5) (fun _ => y_move rfl) (fun _ => hS) ?_
   refine x_py 13 (.pointer (some ⟨g2, 0, none⟩)) rfl (by kernel_rfl) (tg := 13) (by kernel_rfl) (congrArg Value.bool hc5) (fun _ => y_faddr rfl Fa36x0) (fun _ => hS) ?_
   refine x_ly 14 (.int .i64 f.1) rfl (by kernel_rfl) (tg := 13) (by kernel_rfl) (congrArg Value.bool hc5) (fun w' hw' => y_load rfl ((box_load Ag3 Sz3 hb2 [] [(.int .i64 f.1)] [(.slice pa0 pn0 pc0)] rfl rfl (fun _ => rfl)) w' hw')) hS ?_
   refine x_one (i := 15) (by kernel_rfl) ?_
   obtain ⟨r7, hr7, hs⟩ := bind_some hs
   refine xk_cally (b := false) rfl (tg := 13) (by kernel_rfl) (congrArg Value.bool hc5) Bd61 rfl (c_impl_power (M := M) n f.1  hO.fut hr7) rfl (by rintro _ _ _ ⟨rfl, hC6⟩; exact hS.ext hC6) ?_
   rintro _ w6 ⟨rfl, hC6⟩
   have h0 := h0.ext hC6
   have hb2 := hb2.chg hC6 (fun h => nomatch h)
   have hC := hC.ext hC6
   have hO := hO.ext hC6
   have hS := hS.ext hC6
   refine x_py 16 (.bool ((f.2.length : Int) == r7)) rfl (by kernel_rfl) (tg := 13) (by kernel_rfl) (congrArg Value.bool hc5) (fun _ => y_eql rfl rfl) (fun _ => hS) ?_
   refine x_p 17 (.bool ((f.2.length : Int) == r7)) rfl (by kernel_rfl)  (fun _ => y_pick_t (congrArg Value.bool hc5) rfl) (fun _ => hS) ?_
   refine x_p 18 (.bool ((f.2.length : Int) == r7)) rfl (by kernel_rfl)  (fun _ => y_move rfl) (fun _ => hS) ?_
   rcases bif_some hs with ⟨hc8, hs⟩ | ⟨hc8, hs⟩
   ·skip
    refine x_py 19 (.pointer (some ⟨g2, 1, none⟩)) rfl (by kernel_rfl) (tg := 23) (by kernel_rfl) (congrArg Value.bool hc8) (fun _ => y_faddr rfl Fa36x1) (fun _ => hS) ?_
    refine x_py 21 (.int .i64 n) rfl (by kernel_rfl) (tg := 23) (by kernel_rfl) (congrArg Value.bool hc8) (fun _ => y_move rfl) (fun _ => hS) ?_
    refine x_one (i := 20) (by kernel_rfl) ?_
    refine xk_valy (b := false) (.slice pa0 pn0 pc0) rfl (tg := 23) (by kernel_rfl) (congrArg Value.bool hc8) (y_load rfl ((box_load Ag25 Sz25 hb2 [(.int .i64 f.1)] [(.slice pa0 pn0 pc0)] [] rfl rfl (fun _ => rfl)) _ (Chg.refl _ _))) rfl (fun _ => hS) ?_
    refine x_one (i := 22) (by kernel_rfl) ?_
    obtain ⟨r10, hr10, hs⟩ := bind_some hs
    refine xk_cally (b := false) rfl (tg := 23) (by kernel_rfl) (congrArg Value.bool hc8) Bd62 rfl (c_impl_inSize (M := M) f.2 n h0 hO.fut hr10) rfl (by rintro _ _ _ ⟨rfl, hC9⟩; exact hS.ext hC9) ?_
    rintro _ w9 ⟨rfl, hC9⟩
    have h0 := h0.ext hC9
    have hb2 := hb2.chg hC9 (fun h => nomatch h)
    have hC := hC.ext hC9
    have hO := hO.ext hC9
    have hS := hS.ext hC9
    refine x_p 23 (.bool r10) rfl (by kernel_rfl)  (fun _ => y_pick_t (congrArg Value.bool hc8) rfl) (fun _ => hS) ?_
    refine x_p 24 (.bool r10) rfl (by kernel_rfl)  (fun _ => y_assign rfl) (fun _ => hS) ?_
    refine x_end (by kernel_rfl) ?_
    clear hS
    refine wp_ret ?_
    cases hs
    exact ⟨_, fr_ovl 29 ⟨rfl, trivial⟩, hC⟩
   ·skip
    refine x_pn 19 rfl (by kernel_rfl) (tg := 23) (by kernel_rfl) (congrArg Value.bool hc8) (fun _ => hS) ?_
    refine x_pn 20 rfl (by kernel_rfl) (tg := 23) (by kernel_rfl) (congrArg Value.bool hc8) (fun _ => hS) ?_
    refine x_pn 21 rfl (by kernel_rfl) (tg := 23) (by kernel_rfl) (congrArg Value.bool hc8) (fun _ => hS) ?_
    refine x_pn 22 rfl (by kernel_rfl) (tg := 23) (by kernel_rfl) (congrArg Value.bool hc8) (fun _ => hS) ?_
    refine x_p 23 (.bool false) rfl (by kernel_rfl)  (fun _ => y_pick_f (congrArg Value.bool hc8) rfl) (fun _ => hS) ?_
    refine x_p 24 (.bool false) rfl (by kernel_rfl)  (fun _ => y_assign rfl) (fun _ => hS) ?_
    refine x_end (by kernel_rfl) ?_
    clear hS
    refine wp_ret ?_
    cases hs
    exact ⟨_, fr_ovl 29 ⟨rfl, trivial⟩, hC⟩
  ·skip
   refine x_pn 9 rfl (by kernel_rfl) (tg := 13) (by kernel_rfl) (congrArg Value.bool hc5) (fun _ => hS) ?_
   refine x_pn 10 rfl (by kernel_rfl) (tg := 13) (by kernel_rfl) (congrArg Value.bool hc5) (fun _ => hS) ?_
   refine x_pn 11 rfl (by kernel_rfl) (tg := 13) (by kernel_rfl) (congrArg Value.bool hc5) (fun _ => hS) ?_
   refine x_pn 12 rfl (by kernel_rfl) (tg := 13) (by kernel_rfl) (congrArg Value.bool hc5) (fun _ => hS) ?_
   refine x_pn 13 rfl (by kernel_rfl) (tg := 13) (by kernel_rfl) (congrArg Value.bool hc5) (fun _ => hS) ?_
   refine x_pn 14 rfl (by kernel_rfl) (tg := 13) (by kernel_rfl) (congrArg Value.bool hc5) (fun _ => hS) ?_
   refine x_pn 15 rfl (by kernel_rfl) (tg := 13) (by kernel_rfl) (congrArg Value.bool hc5) (fun _ => hS) ?_
   refine x_pn 16 rfl (by kernel_rfl) (tg := 13) (by kernel_rfl) (congrArg Value.bool hc5) (fun _ => hS) ?_
   refine x_p 17 (.bool false) rfl (by kernel_rfl)  (fun _ => y_pick_f (congrArg Value.bool hc5) rfl) (fun _ => hS) ?_
   refine x_p 18 (.bool false) rfl (by kernel_rfl)  (fun _ => y_move rfl) (fun _ => hS) ?_
   refine x_pn 19 rfl (by kernel_rfl) (tg := 23) (by kernel_rfl) (by rfl) (fun _ => hS) ?_
   refine x_pn 20 rfl (by kernel_rfl) (tg := 23) (by kernel_rfl) (by rfl) (fun _ => hS) ?_
   refine x_pn 21 rfl (by kernel_rfl) (tg := 23) (by kernel_rfl) (by rfl) (fun _ => hS) ?_
   refine x_pn 22 rfl (by kernel_rfl) (tg := 23) (by kernel_rfl) (by rfl) (fun _ => hS) ?_
   refine x_p 23 (.bool false) rfl (by kernel_rfl)  (fun _ => y_pick_f (by rfl) rfl) (fun _ => hS) ?_
   refine x_p 24 (.bool false) rfl (by kernel_rfl)  (fun _ => y_assign rfl) (fun _ => hS) ?_
   refine x_end (by kernel_rfl) ?_
   clear hS
   refine wp_ret ?_
   cases hs
   exact ⟨_, fr_ovl 29 ⟨rfl, trivial⟩, hC⟩
 ·skip
  refine x_pn 4 rfl (by kernel_rfl) (tg := 8) (by kernel_rfl) (congrArg Value.bool hc4) (fun _ => hS) ?_
  refine x_pn 5 rfl (by kernel_rfl) (tg := 8) (by kernel_rfl) (congrArg Value.bool hc4) (fun _ => hS) ?_
  refine x_pn 6 rfl (by kernel_rfl) (tg := 8) (by kernel_rfl) (congrArg Value.bool hc4) (fun _ => hS) ?_
  refine x_p 7 (.bool false) rfl (by kernel_rfl)  (fun _ => y_pick_f (congrArg Value.bool hc4) rfl) (fun _ => hS) ?_
  refine x_p 8 (.bool false) rfl (by kernel_rfl)  (fun _ => y_move rfl) (fun _ => hS) ?_
  refine x_pn 9 rfl (by kernel_rfl) (tg := 13) (by kernel_rfl) (by rfl) (fun _ => hS) ?_
  refine x_pn 10 rfl (by kernel_rfl) (tg := 13) (by kernel_rfl) (by rfl) (fun _ => hS) ?_
  refine x_pn 11 rfl (by kernel_rfl) (tg := 13) (by kernel_rfl) (by rfl) (fun _ => hS) ?_
  refine x_pn 12 rfl (by kernel_rfl) (tg := 13) (by kernel_rfl) (by rfl) (fun _ => hS) ?_
  refine x_pn 13 rfl (by kernel_rfl) (tg := 13) (by kernel_rfl) (by rfl) (fun _ => hS) ?_
  refine x_pn 14 rfl (by kernel_rfl) (tg := 13) (by kernel_rfl) (by rfl) (fun _ => hS) ?_
  refine x_pn 15 rfl (by kernel_rfl) (tg := 13) (by kernel_rfl) (by rfl) (fun _ => hS) ?_
  refine x_pn 16 rfl (by kernel_rfl) (tg := 13) (by kernel_rfl) (by rfl) (fun _ => hS) ?_
  refine x_p 17 (.bool false) rfl (by kernel_rfl)  (fun _ => y_pick_f (by rfl) rfl) (fun _ => hS) ?_
  refine x_p 18 (.bool false) rfl (by kernel_rfl)  (fun _ => y_move rfl) (fun _ => hS) ?_
  refine x_pn 19 rfl (by kernel_rfl) (tg := 23) (by kernel_rfl) (by rfl) (fun _ => hS) ?_
  refine x_pn 20 rfl (by kernel_rfl) (tg := 23) (by kernel_rfl) (by rfl) (fun _ => hS) ?_
  refine x_pn 21 rfl (by kernel_rfl) (tg := 23) (by kernel_rfl) (by rfl) (fun _ => hS) ?_
  refine x_pn 22 rfl (by kernel_rfl) (tg := 23) (by kernel_rfl) (by rfl) (fun _ => hS) ?_
  refine x_p 23 (.bool false) rfl (by kernel_rfl)  (fun _ => y_pick_f (by rfl) rfl) (fun _ => hS) ?_
  refine x_p 24 (.bool false) rfl (by kernel_rfl)  (fun _ => y_assign rfl) (fun _ => hS) ?_
  refine x_end (by kernel_rfl) ?_
  clear hS
  refine wp_ret ?_
  cases hs
  exact ⟨_, fr_ovl 29 ⟨rfl, trivial⟩, hC⟩

theorem Bd40 : Bodied Try.prog 40 := bodied Try.func40 (by kernel_rfl) rfl

def k_impl_IsAlgebra (M : Nat → Prop) (w0 : World) (r : Bool) (a : Act) (w : World) : Prop :=
  ∃ (σ : Nat → Value) , a = fr 32 (ovl σ [(2, (.bool r))]) ∧ Chg [] w0 w
def s_impl_IsAlgebra (a_ : Int × (List (Int × (List Int)))) : Option (Bool) :=
  (bif (((decide (a_.1 < 1)) || (decide (8 < a_.1))) || (decide (4 < (a_.2.length : Int)))) then some false else (forR (S := Unit) (R := Bool) (fun _ x21 s18 =>
  (s_impl_isOp (x21.1, x21.2) a_.1).bind fun r30 =>
  (bif (!r30) then some (.rt false) else some (.nx ()))) 0 a_.2 ()).bind fun o22 => after o22 (fun r_ => some r_) (fun s18 =>
  some true))
set_option maxHeartbeats 4000000 in
theorem c_impl_IsAlgebra {M : Nat → Prop} {w : World} {pa0 : Option Addr} {pn0 pc0 : Nat} (a_ : Int × (List (Int × (List Int)))) (h0 : (RT.rs (RT.pr (RT.int .i64) (RT.rs (RT.int .i64)))).val M w (.slice pa0 pn0 pc0) a_.2 ([])) (hM : ∀ g, w.heap.size ≤ g → M g) {r : Bool} (hs : s_impl_IsAlgebra a_ = some r) :
    Gives Try.prog 59 [(.agg #[(.int .i64 a_.1), (.slice pa0 pn0 pc0)])] w (fun v w' => v = (.bool r) ∧ Chg [] w w') := by
 refine calls_fr Try.func59 rfl Try.ntmps59 (Nat.le_of_ble_eq_true rfl) ?_
 have hO := Own.start (N := Nw w []) hM Nw.fut
 have hC := Chg.refl [] w
 unfold s_impl_IsAlgebra at hs
 refine wp_mono (Q := KPost (k_impl_IsAlgebra M w r)) ?_ (fun e a w1 h => ?_)
 rotate_left
 ·cases e
  case ret =>
   obtain ⟨σ, rfl, hrest⟩ := h
   exact ret1x Try.results59 (res_tmp rfl) ⟨rfl, hrest⟩
  all_goals exact (h : False).elim
 refine c_seq (c_region ?_)
 obtain ⟨w2, g2, ew2, eg2, hC2, hb2⟩ := new_block w [(.int .i64 a_.1), (.slice pa0 pn0 pc0)] 34
 refine pl_val (w' := w2) (.pointer (some ⟨g2, 0, none⟩)) (y_box rfl (by rw [ew2, eg2]; kernel_rfl)) ?_
 have h0 := h0.ext hC2
 have hC := hC.ext hC2
 have hO := hO.new1 hC2 eg2 hb2.lt
 refine pl_val (.bool false) (y_assign rfl) ?_
 refine c_nil ?_
 refine c_seq ?_
 refine c_seq ?_
 refine c_mid (I := fun a w4 => ∃ (σ : Nat → Value), a = fr 32 (ovl σ [(1, (.pointer (some ⟨g2, 0, none⟩))), (2, (.bool false)), (18, (.bool (((decide (a_.1 < 1)) || (decide (8 < a_.1))) || (decide (4 < (a_.2.length : Int))))))]) ∧ Chg [] w2 w4) ?_ ?_
 ·have hMid := Chg.refl [] w2
  refine c_region ?_
  refine pl_val (.pointer (some ⟨g2, 0, none⟩)) (y_faddr rfl Fa34x0) ?_
  refine pl_val (.int .i64 a_.1) (y_load rfl ((box_load Ag3 Sz3 hb2 [] [(.int .i64 a_.1)] [(.slice pa0 pn0 pc0)] rfl rfl (fun _ => rfl)) _ (Chg.refl _ _))) ?_
  refine pl_val (.bool (decide (a_.1 < 1))) (y_lss rfl rfl) ?_
  refine pl_val (.bool (decide (a_.1 < 1))) (y_move rfl) ?_
  rcases Bool.eq_false_or_eq_true ((decide (a_.1 < 1))) with hc6 | hc6
  ·skip
   refine pl_not (tg := 8) (by kernel_rfl) (congrArg Value.bool hc6) ?_
   refine pl_not (tg := 8) (by kernel_rfl) (congrArg Value.bool hc6) ?_
   refine pl_not (tg := 8) (by kernel_rfl) (congrArg Value.bool hc6) ?_
   refine pl_val (.bool ((decide (a_.1 < 1)) || (decide (8 < a_.1)))) (y_pick_t (congrArg Value.bool hc6) (congrArg Value.bool (by rw [hc6]; rfl))) ?_
   refine pl_val (.bool ((decide (a_.1 < 1)) || (decide (8 < a_.1)))) (y_move rfl) ?_
   rcases Bool.eq_false_or_eq_true (((decide (a_.1 < 1)) || (decide (8 < a_.1)))) with hc7 | hc7
   ·skip
    refine pl_not (tg := 13) (by kernel_rfl) (congrArg Value.bool hc7) ?_
    refine pl_not (tg := 13) (by kernel_rfl) (congrArg Value.bool hc7) ?_
    refine pl_not (tg := 13) (by kernel_rfl) (congrArg Value.bool hc7) ?_
    refine pl_not (tg := 13) (by kernel_rfl) (congrArg Value.bool hc7) ?_
    refine pl_val (.bool (((decide (a_.1 < 1)) || (decide (8 < a_.1))) || (decide (4 < (a_.2.length : Int))))) (y_pick_t (congrArg Value.bool hc7) (congrArg Value.bool (by rw [hc7]; rfl))) ?_
    refine c_nil ?_
    exact ⟨_, fr_ovl 32 ⟨rfl, rfl, rfl, trivial⟩, hMid⟩
   ·skip
    refine pl_yes (.pointer (some ⟨g2, 1, none⟩)) (tg := 13) (by kernel_rfl) (congrArg Value.bool hc7) (y_faddr rfl Fa34x1) ?_
    refine pl_yes (.slice pa0 pn0 pc0) (tg := 13) (by kernel_rfl) (congrArg Value.bool hc7) (y_load rfl ((box_load Ag32 Sz32 hb2 [(.int .i64 a_.1)] [(.slice pa0 pn0 pc0)] [] rfl rfl (fun _ => rfl)) _ (Chg.refl _ _))) ?_
    refine pl_yes (.int .i64 (a_.2.length : Int)) (tg := 13) (by kernel_rfl) (congrArg Value.bool hc7) (y_len' Sl32 (rs_len h0) rfl) ?_
    refine pl_yes (.bool (decide (4 < (a_.2.length : Int)))) (tg := 13) (by kernel_rfl) (congrArg Value.bool hc7) (y_gtr rfl rfl) ?_
    refine pl_val (.bool (((decide (a_.1 < 1)) || (decide (8 < a_.1))) || (decide (4 < (a_.2.length : Int))))) (y_pick_f (congrArg Value.bool hc7) (congrArg Value.bool (by rw [hc7]; rfl))) ?_
    refine c_nil ?_
    exact ⟨_, fr_ovl 32 ⟨rfl, rfl, rfl, trivial⟩, hMid⟩
  ·skip
   refine pl_yes (.pointer (some ⟨g2, 0, none⟩)) (tg := 8) (by kernel_rfl) (congrArg Value.bool hc6) (y_faddr rfl Fa34x0) ?_
   refine pl_yes (.int .i64 a_.1) (tg := 8) (by kernel_rfl) (congrArg Value.bool hc6) (y_load rfl ((box_load Ag3 Sz3 hb2 [] [(.int .i64 a_.1)] [(.slice pa0 pn0 pc0)] rfl rfl (fun _ => rfl)) _ (Chg.refl _ _))) ?_
   refine pl_yes (.bool (decide (8 < a_.1))) (tg := 8) (by kernel_rfl) (congrArg Value.bool hc6) (y_gtr rfl rfl) ?_
   refine pl_val (.bool ((decide (a_.1 < 1)) || (decide (8 < a_.1)))) (y_pick_f (congrArg Value.bool hc6) (congrArg Value.bool (by rw [hc6]; rfl))) ?_
   refine pl_val (.bool ((decide (a_.1 < 1)) || (decide (8 < a_.1)))) (y_move rfl) ?_
   rcases Bool.eq_false_or_eq_true (((decide (a_.1 < 1)) || (decide (8 < a_.1)))) with hc8 | hc8
   ·skip
    refine pl_not (tg := 13) (by kernel_rfl) (congrArg Value.bool hc8) ?_
    refine pl_not (tg := 13) (by kernel_rfl) (congrArg Value.bool hc8) ?_
    refine pl_not (tg := 13) (by kernel_rfl) (congrArg Value.bool hc8) ?_
    refine pl_not (tg := 13) (by kernel_rfl) (congrArg Value.bool hc8) ?_
    refine pl_val (.bool (((decide (a_.1 < 1)) || (decide (8 < a_.1))) || (decide (4 < (a_.2.length : Int))))) (y_pick_t (congrArg Value.bool hc8) (congrArg Value.bool (by rw [hc8]; rfl))) ?_
    refine c_nil ?_
    exact ⟨_, fr_ovl 32 ⟨rfl, rfl, rfl, trivial⟩, hMid⟩
   ·skip
    refine pl_yes (.pointer (some ⟨g2, 1, none⟩)) (tg := 13) (by kernel_rfl) (congrArg Value.bool hc8) (y_faddr rfl Fa34x1) ?_
    refine pl_yes (.slice pa0 pn0 pc0) (tg := 13) (by kernel_rfl) (congrArg Value.bool hc8) (y_load rfl ((box_load Ag32 Sz32 hb2 [(.int .i64 a_.1)] [(.slice pa0 pn0 pc0)] [] rfl rfl (fun _ => rfl)) _ (Chg.refl _ _))) ?_
    refine pl_yes (.int .i64 (a_.2.length : Int)) (tg := 13) (by kernel_rfl) (congrArg Value.bool hc8) (y_len' Sl32 (rs_len h0) rfl) ?_
    refine pl_yes (.bool (decide (4 < (a_.2.length : Int)))) (tg := 13) (by kernel_rfl) (congrArg Value.bool hc8) (y_gtr rfl rfl) ?_
    refine pl_val (.bool (((decide (a_.1 < 1)) || (decide (8 < a_.1))) || (decide (4 < (a_.2.length : Int))))) (y_pick_f (congrArg Value.bool hc8) (congrArg Value.bool (by rw [hc8]; rfl))) ?_
    refine c_nil ?_
    exact ⟨_, fr_ovl 32 ⟨rfl, rfl, rfl, trivial⟩, hMid⟩
 ·rintro a1 w4 ⟨σ, rfl, hCs3⟩
  have h0 := h0.ext hCs3
  have hb2 := hb2.chg hCs3 (fun h => nomatch h)
  have hC := hC.ext hCs3
  have hO := hO.ext hCs3
  rcases bif_some hs with ⟨hc9, hs⟩ | ⟨hc9, hs⟩
  ·skip
   refine c_condT (congrArg Value.bool hc9) ?_
   refine c_seq (c_region ?_)
   refine pl_val (.bool false) (y_assign rfl) ?_
   refine c_nil ?_
   refine wp_ret ?_
   cases hs
   exact ⟨_, fr_ovl 32 ⟨rfl, trivial⟩, hC⟩
  ·skip
   refine c_condF (congrArg Value.bool hc9) ?_
   refine wp_skip ?_
   refine c_seq ?_
   refine c_seq (c_region ?_)
   refine pl_val (.pointer (some ⟨g2, 1, none⟩)) (y_faddr rfl Fa34x1) ?_
   refine pl_val (.slice pa0 pn0 pc0) (y_load rfl ((box_load Ag32 Sz32 hb2 [(.int .i64 a_.1)] [(.slice pa0 pn0 pc0)] [] rfl rfl (fun _ => rfl)) _ (Chg.refl _ _))) ?_
   refine pl_val (.int .i64 (a_.2.length : Int)) (y_len' Sl32 (rs_len h0) rfl) ?_
   refine pl_val (.int .i64 0) (y_move rfl) ?_
   refine c_nil ?_
   obtain ⟨o22, hl23, hs⟩ := bind_some hs
   refine wp_block ?_
   refine wp_forR (id := 0) (I := fun i_ xs_ s18 a w19 => ∃ k20 : Nat, i_ = (k20 : Int) ∧ List.drop k20 a_.2 = xs_ ∧ (∃ (σ : Nat → Value), a = fr 32 (ovl σ [(1, (.pointer (some ⟨g2, 0, none⟩))), (20, (.slice pa0 pn0 pc0)), (21, (.int .i64 (a_.2.length : Int))), (22, (.int .i64 (k20 : Int)))]) ∧ Chg [] w w19 ∧ Own (Nw w []) M w19 (([g2]) ++ []) ∧ (RT.rs (RT.pr (RT.int .i64) (RT.rs (RT.int .i64)))).val M w19 (.slice pa0 pn0 pc0) a_.2 ([]) ∧ BoxV w19 g2 34 [(.int .i64 a_.1), (.slice pa0 pn0 pc0)])) (J := fun s18 a w19 => ∃ (σ : Nat → Value), a = fr 32 (ovl σ []) ∧ Chg [] w w19 ∧ Own (Nw w []) M w19 (([g2]) ++ []) ∧ (RT.rs (RT.pr (RT.int .i64) (RT.rs (RT.int .i64)))).val M w19 (.slice pa0 pn0 pc0) a_.2 ([]) ∧ BoxV w19 g2 34 [(.int .i64 a_.1), (.slice pa0 pn0 pc0)]) (K := (k_impl_IsAlgebra M w)) ?_ ?_ a_.2 0 () o22 _ _ ?_ hl23 ?_
   ·rintro _ s18 a w19 ⟨k20, rfl, hd, σ, rfl, hC, hO, h0, hb2⟩
    have hlt := drop_nil_ge hd
    refine c_seq (c_region ?_)
    refine pl_val (.bool (decide ((k20 : Int) < (a_.2.length : Int)))) (y_lss rfl rfl) ?_
    refine c_nil ?_
    refine c_seq ?_
    refine c_condF (congrArg Value.bool (decide_eq_false hlt)) ?_
    refine wp_exit ?_
    exact ⟨rfl, _, fr_ovl 32 trivial, hC, hO, h0, hb2⟩
   ·rintro _ x21 xs_ s18 o22 a w19 ⟨k20, rfl, hd, σ, rfl, hC, hO, h0, hb2⟩ hs
    have hlt := drop_cons_lt hd
    have hxk20 := drop_cons_idx hd
    refine c_seq (c_region ?_)
    refine pl_val (.bool (decide ((k20 : Int) < (a_.2.length : Int)))) (y_lss rfl rfl) ?_
    refine c_nil ?_
    refine c_seq ?_
    refine c_condT (congrArg Value.bool (decide_eq_true hlt)) ?_
    refine wp_skip ?_
    refine c_seq ?_
    refine wp_block ?_
    refine c_seq (c_region ?_)
    obtain ⟨b24, o24, hp24, ha24⟩ := rs_idx Sl32 Sz36 h0 hxk20
    refine pl_val (.pointer (some ⟨b24, o24, none⟩)) (hp24 _ _ _ _ _ _ _ _ _ rfl rfl) ?_
    obtain ⟨v25, hl25, hv25⟩ := at_load Ag36 Sz36 (by intro h; cases h) ha24
    obtain ⟨cs25, rfl, hr25⟩ := hv25
    obtain ⟨cc25x1, cd25x1, rfl, hh25x1, ht25x1⟩ := pr_open hr25
    obtain rfl := int_rel hh25x1
    obtain ⟨a25x2, n25x2, c25x2, rfl, hv25x2⟩ := rs_rel ht25x1
    refine pl_val (.agg #[(.int .i64 x21.1), (.slice a25x2 n25x2 c25x2)]) (y_load rfl (hl25 _ (Chg.refl _ _))) ?_
    obtain ⟨w27, g27, ew27, eg27, hC27, hb27⟩ := new_block w19 [(.int .i64 0), (.slice none 0 0)] 36
    refine pl_val (w' := w27) (.pointer (some ⟨g27, 0, none⟩)) (y_alloc (by rw [ew27, eg27]; kernel_rfl)) ?_
    have h0 := h0.ext hC27
    have hb2 := hb2.chg hC27 (fun h => nomatch h)
    have hv25x2 := hv25x2.ext hC27
    have hC := hC.ext hC27
    have hO := hO.new1 hC27 eg27 hb27.lt
    obtain ⟨w28, hst28, hC28, hb28⟩ := box_store (P := Try.prog) hb27 [] [(.int .i64 0), (.slice none 0 0)] [] [(.int .i64 x21.1), (.slice a25x2 n25x2 c25x2)] rfl rfl (by intro u hu; simp only [List.mem_cons, List.not_mem_nil, or_false] at hu; rcases hu with rfl | rfl <;> rfl)
    refine pl_skip (w' := w28) (ys_store rfl rfl (hst28 _ _ rfl Sz36)) ?_
    have h0 := h0.mut hC28 (fun g hg => hO.inM g ((fun _ h => h) g hg)) (fun _ _ h => nomatch h)
    have hb2 := hb2.chg hC28 (fun hg => hO.apart _ ((fun _ h => h) _ hg) (mem_l (List.mem_singleton.2 rfl)))
    have hv25x2 := hv25x2.mut hC28 (fun g hg => hO.inM g ((fun _ h => h) g hg)) (fun _ _ h => nomatch h)
    have hC := hC.step hC28 (fun g hg => hO.inN g ((fun _ h => h) g hg))
    have hO := hO.ext hC28
    have hb28 : BoxV w28 g27 36 [(.int .i64 x21.1), (.slice a25x2 n25x2 c25x2)] := hb28
    refine c_nil ?_
    refine c_seq (c_region ?_)
    refine pl_val (.agg #[(.int .i64 x21.1), (.slice a25x2 n25x2 c25x2)]) (y_load rfl ((box_load Ag36 Sz36 hb28 [] [(.int .i64 x21.1), (.slice a25x2 n25x2 c25x2)] [] rfl rfl (fun h => nomatch h)) _ (Chg.refl _ _))) ?_
    refine pl_val (.pointer (some ⟨g2, 0, none⟩)) (y_faddr rfl Fa34x0) ?_
    refine pl_val (.int .i64 a_.1) (y_load rfl ((box_load Ag3 Sz3 hb2 [] [(.int .i64 a_.1)] [(.slice pa0 pn0 pc0)] rfl rfl (fun _ => rfl)) _ (Chg.refl _ _))) ?_
    obtain ⟨r30, hr30, hs⟩ := bind_some hs
    refine pl_call Bd40 rfl (c_impl_isOp (M := M) (x21.1, x21.2) a_.1 hv25x2 hO.fut hr30) ?_
    rintro _ w29 ⟨rfl, hC29⟩
    have h0 := h0.ext hC29
    have hb2 := hb2.chg hC29 (fun h => nomatch h)
    have hv25x2 := hv25x2.ext hC29
    have hb28 := hb28.chg hC29 (fun h => nomatch h)
    have hC := hC.ext hC29
    have hO := hO.ext hC29
    refine pl_val (.bool (!r30)) (y_not rfl) ?_
    refine c_nil ?_
    rcases bif_some hs with ⟨hc31, hs⟩ | ⟨hc31, hs⟩
    ·skip
     refine c_condT (congrArg Value.bool hc31) ?_
     refine c_seq (c_region ?_)
     refine pl_val (.bool false) (y_assign rfl) ?_
     refine c_nil ?_
     refine wp_ret ?_
     cases hs
     exact ⟨_, fr_ovl 32 ⟨rfl, trivial⟩, hC⟩
    ·skip
     refine c_condF (congrArg Value.bool hc31) ?_
     refine wp_skip ?_
     refine c_region ?_
     refine pl_val (.int .i64 (w64 ((k20 : Int) + 1))) (y_add rfl rfl) ?_
     refine pl_val (.int .i64 (w64 ((k20 : Int) + 1))) (y_move rfl) ?_
     refine c_nil ?_
     cases hs
     have hO := hO.drop
     exact ⟨_, rfl, drop_cons_next hd, _, fr_ovl 32 ⟨rfl, rfl, rfl, congrArg (Value.int .i64) (w64_succ hlt (Int.natCast_nonneg _) (rs_max h0)), trivial⟩, hC, hO, h0, hb2⟩
   ·skip
    exact ⟨0, rfl, rfl, _, fr_ovl 32 ⟨rfl, rfl, rfl, rfl, trivial⟩, hC, hO, h0, hb2⟩
   ·cases o22 with
    | nx _ => exact True.intro
    | rt r_ =>
     have hs := after_rt hs
     intro a1 w1 hK
     cases hs
     exact hK
    | br s18 =>
     have hs := after_br hs
     rintro a1 w19 ⟨σ, rfl, hC, hO, h0, hb2⟩
     refine c_seq (c_region ?_)
     refine pl_val (.bool true) (y_assign rfl) ?_
     refine c_nil ?_
     refine wp_ret ?_
     cases hs
     exact ⟨_, fr_ovl 32 ⟨rfl, trivial⟩, hC⟩

theorem Sl86 : SlT Try.prog 86 4 := Try.underlying86

theorem Sz4 : SzT Try.prog 4 1 := ⟨_, rfl, rfl⟩

theorem Ag4 : AggT Try.prog 4 false := fun _ => by kernel_rfl

def k_impl_marked (M : Nat → Prop) (w0 : World) (r : (List Int)) (a : Act) (w : World) : Prop :=
  ∃ (σ : Nat → Value) (ra0 : Option Addr) (rn0 rc0 : Nat) (rf0 : List Nat), a = fr 21 (ovl σ [(2, (.slice ra0 rn0 rc0))]) ∧ Chg [] w0 w ∧ (RT.os 3 (RT.int .i64)).val M w (.slice ra0 rn0 rc0) r rf0 ∧ Own (Nw w0 []) (fun _ => True) w (rf0 ++ ([]))
def s_impl_marked (have_ : List Bool) : Option ((List Int)) :=
  (forC (S := (List Int)) (R := (List Int)) (fun k16 s14 =>
  (idx have_ k16).bind fun x24 =>
  (bif x24 then (app s14 ([k16])).bind fun y30 =>
  some (.nx y30) else some (.nx s14))) 0 (have_.length : Int) ([])).bind fun o18 => after o18 (fun r_ => some r_) (fun s14 =>
  some s14)
set_option maxHeartbeats 4000000 in
theorem c_impl_marked {M : Nat → Prop} {w : World} {pa0 : Option Addr} {pn0 pc0 : Nat} (have_ : List Bool) (h0 : (RT.rs RT.bool).val M w (.slice pa0 pn0 pc0) have_ ([])) (hM : ∀ g, w.heap.size ≤ g → M g) {r : (List Int)} (hs : s_impl_marked have_ = some r) :
    Gives Try.prog 65 [(.slice pa0 pn0 pc0)] w (fun v w' => ∃ (ra0 : Option Addr) (rn0 rc0 : Nat) (rf0 : List Nat), v = (.slice ra0 rn0 rc0) ∧ Chg [] w w' ∧ (RT.os 3 (RT.int .i64)).val M w' (.slice ra0 rn0 rc0) r rf0 ∧ Own (Nw w []) (fun _ => True) w' (rf0 ++ ([]))) := by
 refine calls_fr Try.func65 rfl Try.ntmps65 (Nat.le_of_ble_eq_true rfl) ?_
 have hO := Own.start (N := Nw w []) hM Nw.fut
 have hC := Chg.refl [] w
 unfold s_impl_marked at hs
 refine wp_mono (Q := KPost (k_impl_marked M w r)) ?_ (fun e a w1 h => ?_)
 rotate_left
 ·cases e
  case ret =>
   obtain ⟨σ, ra0, rn0, rc0, rf0, rfl, hrest⟩ := h
   exact ret1x Try.results65 (res_tmp rfl) ⟨ra0, rn0, rc0, rf0, rfl, hrest⟩
  all_goals exact (h : False).elim
 refine c_seq (c_region ?_)
 refine pl_val (.slice none 0 0) (y_assign rfl) ?_
 refine c_nil ?_
 refine c_seq (c_region ?_)
 obtain ⟨w2, g2, ew2, eg2, hC2, hb2⟩ := new_block w [] 3
 refine pl_val (w' := w2) (.slice (some ⟨g2, 0, none⟩) 0 0) (y_bslice rfl (by rw [ew2, eg2]; kernel_rfl)) ?_
 have h0 := h0.ext hC2
 have hC := hC.ext hC2
 have hO := hO.new1 hC2 eg2 hb2.lt
 have hv2 := os_of_box (r := (RT.int .i64)) (M := M) (css := []) (fps := []) (xs := ([] : List Int)) hb2 trivial (Nat.zero_le _) (List.nodup_cons.2 ⟨(fun h => nomatch h), List.nodup_nil⟩)
 have hv2 : (RT.os 3 (RT.int .i64)).val M w2 (.slice (some ⟨g2, 0, none⟩) 0 0) [] [g2] := hv2
 refine pl_val (.slice (some ⟨g2, 0, none⟩) 0 0) (y_assign rfl) ?_
 refine c_nil ?_
 refine c_seq ?_
 refine c_seq (c_region ?_)
 refine pl_val (.slice pa0 pn0 pc0) (y_move rfl) ?_
 refine pl_val (.int .i64 (have_.length : Int)) (y_len' Sl86 (rs_len h0) rfl) ?_
 refine pl_val (.int .i64 0) (y_move rfl) ?_
 refine c_nil ?_
 obtain ⟨o18, hl19, hs⟩ := bind_some hs
 refine wp_block ?_
 refine wp_forC (id := 0) (have_.length : Int) (I := fun k16 s14 a w15 => ∃ (σ : Nat → Value) (a20 : Option Addr) (n20 : Nat) (c20 : Nat) (f20 : List Nat), a = fr 21 (ovl σ [(3, (.slice a20 n20 c20)), (7, (.slice pa0 pn0 pc0)), (8, (.int .i64 (have_.length : Int))), (9, (.int .i64 k16))]) ∧ Chg [] w w15 ∧ Own (Nw w []) M w15 (f20 ++ []) ∧ (RT.rs RT.bool).val M w15 (.slice pa0 pn0 pc0) have_ ([]) ∧ (RT.os 3 (RT.int .i64)).val M w15 (.slice a20 n20 c20) s14 f20) (J := fun s14 a w15 => ∃ (σ : Nat → Value) (a22 : Option Addr) (n22 : Nat) (c22 : Nat) (f22 : List Nat), a = fr 21 (ovl σ [(3, (.slice a22 n22 c22))]) ∧ Chg [] w w15 ∧ Own (Nw w []) M w15 (f22 ++ []) ∧ (RT.rs RT.bool).val M w15 (.slice pa0 pn0 pc0) have_ ([]) ∧ (RT.os 3 (RT.int .i64)).val M w15 (.slice a22 n22 c22) s14 f22) (K := (k_impl_marked M w)) ?_ ?_ 0 ([]) o18 _ _ ?_ hl19 ?_
 ·rintro k16 s14 a w15 ⟨σ, a20, n20, c20, f20, rfl, hC, hO, h0, hv20⟩ hlt
  refine c_seq (c_region ?_)
  refine pl_val (.bool (decide (k16 < (have_.length : Int)))) (y_lss rfl rfl) ?_
  refine c_nil ?_
  refine c_seq ?_
  refine c_condF (congrArg Value.bool (decide_eq_false hlt)) ?_
  refine wp_exit ?_
  exact ⟨rfl, _, a20, n20, c20, f20, fr_ovl 21 ⟨rfl, trivial⟩, hC, hO, h0, hv20⟩
 ·rintro k16 s14 o18 a w15 ⟨σ, a20, n20, c20, f20, rfl, hC, hO, h0, hv20⟩ hlt hw hs
  refine c_seq (c_region ?_)
  refine pl_val (.bool (decide (k16 < (have_.length : Int)))) (y_lss rfl rfl) ?_
  refine c_nil ?_
  refine c_seq ?_
  refine c_condT (congrArg Value.bool (decide_eq_true hlt)) ?_
  refine wp_skip ?_
  refine c_seq ?_
  refine wp_block ?_
  refine c_seq (c_region ?_)
  refine pl_val (.int .i64 k16) (y_move rfl) ?_
  obtain ⟨x24, hx24, hs⟩ := bind_some hs
  obtain ⟨b25, o25, hp25, ha25⟩ := rs_idx Sl86 Sz4 h0 hx24
  refine pl_val (.pointer (some ⟨b25, o25, none⟩)) (hp25 _ _ _ _ _ _ _ _ _ rfl rfl) ?_
  refine pl_val (.bool x24) (y_load rfl ((at_load_bool Ag4 Sz4 ha25) _ (Chg.refl _ _))) ?_
  refine pl_val (.int .i64 k16) (y_assign rfl) ?_
  refine pl_val (.bool x24) (y_assign rfl) ?_
  refine c_nil ?_
  refine c_seq (c_region ?_)
  refine pl_val (.bool x24) (y_move rfl) ?_
  refine c_nil ?_
  rcases bif_some hs with ⟨hc26, hs⟩ | ⟨hc26, hs⟩
  ·skip
   refine c_condT (congrArg Value.bool hc26) ?_
   refine c_region ?_
   refine pl_val (.slice a20 n20 c20) (y_move rfl) ?_
   refine pl_val (.int .i64 k16) (y_move rfl) ?_
   obtain ⟨w27, g27, ew27, eg27, hC27, hb27⟩ := new_block w15 [(.int .i64 k16)] 3
   refine pl_val (w' := w27) (.slice (some ⟨g27, 0, none⟩) 1 1) (y_bslice rfl (by rw [ew27, eg27]; kernel_rfl)) ?_
   have h0 := h0.ext hC27
   have hv20 := hv20.ext hC27
   have hC := hC.ext hC27
   have hO := hO.new1 hC27 eg27 hb27.lt
   have hv27 := os_of_box (r := (RT.int .i64)) (M := M) (css := [[(.int .i64 k16)]]) (fps := [([] : List Nat)]) (xs := ([k16] : List Int)) hb27 ⟨⟨rfl, rfl⟩, trivial⟩ (Nat.le_of_ble_eq_true rfl) (List.nodup_cons.2 ⟨(fun h => nomatch h), List.nodup_nil⟩)
   have hv27 : (RT.os 3 (RT.int .i64)).val M w27 (.slice (some ⟨g27, 0, none⟩) 1 1) [k16] [g27] := hv27
   obtain ⟨y30, hy30, hs⟩ := bind_some hs
   have hO := hO.fr1
   obtain ⟨a29, n29, c29, w29, f29, hr29, hC29, hf29, hv29⟩ := app_os Rw25 hy30 hv20 hv27 hO.inM (fun g hg hq => hO.apart g hq (mem_l hg))
   have hG29 := os_block hv20
   refine pl_val (w' := w29) (.slice a29 n29 c29) (y_append rfl rfl (hr29 _)) ?_
   have hO := hO.fr1
   have hO := hO.fr1
   have h0 := h0.mut hC29 (fun g hg => hO.inM g (hG29 g hg)) (fun _ _ h => nomatch h)
   have hC := hC.step hC29 (fun g hg => hO.inN g (hG29 g hg))
   have hO := hO.eat hC29 hf29 (os_nodup hv29) hv29.fpl
   refine pl_val (.slice a29 n29 c29) (y_assign rfl) ?_
   refine c_nil ?_
   refine c_region ?_
   refine pl_val (.int .i64 (w64 (k16 + 1))) (y_add rfl rfl) ?_
   refine pl_val (.int .i64 (w64 (k16 + 1))) (y_move rfl) ?_
   refine c_nil ?_
   cases hs
   exact ⟨_, a29, n29, c29, f29, fr_ovl 21 ⟨rfl, rfl, rfl, congrArg (Value.int .i64) hw, trivial⟩, hC, hO, h0, hv29⟩
  ·skip
   refine c_condF (congrArg Value.bool hc26) ?_
   refine wp_skip ?_
   refine c_region ?_
   refine pl_val (.int .i64 (w64 (k16 + 1))) (y_add rfl rfl) ?_
   refine pl_val (.int .i64 (w64 (k16 + 1))) (y_move rfl) ?_
   refine c_nil ?_
   cases hs
   exact ⟨_, a20, n20, c20, f20, fr_ovl 21 ⟨rfl, rfl, rfl, congrArg (Value.int .i64) hw, trivial⟩, hC, hO, h0, hv20⟩
 ·skip
  exact ⟨_, (some ⟨g2, 0, none⟩), 0, 0, ([g2]), fr_ovl 21 ⟨rfl, rfl, rfl, rfl, trivial⟩, hC, hO, h0, hv2⟩
 ·cases o18 with
  | nx _ => exact True.intro
  | rt r_ =>
   have hs := after_rt hs
   intro a1 w1 hK
   cases hs
   exact hK
  | br s14 =>
   have hs := after_br hs
   rintro a1 w15 ⟨σ, a22, n22, c22, f22, rfl, hC, hO, h0, hv22⟩
   refine c_seq (c_region ?_)
   refine pl_val (.slice a22 n22 c22) (y_move rfl) ?_
   refine pl_val (.slice a22 n22 c22) (y_assign rfl) ?_
   refine c_nil ?_
   refine wp_ret ?_
   cases hs
   exact ⟨_, a22, n22, c22, f22, fr_ovl 21 ⟨rfl, trivial⟩, hC, hv22, hO.top⟩

def k_impl_argsAt (M : Nat → Prop) (w0 : World) (r : (List Int)) (a : Act) (w : World) : Prop :=
  ∃ (σ : Nat → Value) (ra0 : Option Addr) (rn0 rc0 : Nat) (rf0 : List Nat), a = fr 27 (ovl σ [(6, (.slice ra0 rn0 rc0))]) ∧ Chg [] w0 w ∧ (RT.os 3 (RT.int .i64)).val M w (.slice ra0 rn0 rc0) r rf0 ∧ Own (Nw w0 []) (fun _ => True) w (rf0 ++ ([]))
def s_impl_argsAt (i : Int) (k : Int) (n : Int) : Option ((List Int)) :=
  (mks k (0 : Int)).bind fun y2 =>
  (iter (S := Int × Int × (List Int)) (R := (List Int)) (fun s17 =>
  (bif (decide (0 ≤ s17.2.1)) then (nz n).bind fun u26 =>
  (idx s17.2.2 s17.2.1).bind fun x27 =>
  (nz n).bind fun u30 =>
  some (.nx (w64 (Int.tdiv s17.1 n), w64 (s17.2.1 - 1), List.set s17.2.2 (Int.toNat s17.2.1) (Int.tmod s17.1 n))) else some (.br (s17.1, s17.2.1, s17.2.2)))) FU (i, w64 (k - 1), y2)).bind fun o21 => after o21 (fun r_ => some r_) (fun s17 =>
  some s17.2.2)
set_option maxHeartbeats 4000000 in
theorem c_impl_argsAt {M : Nat → Prop} {w : World}  (i : Int) (k : Int) (n : Int)  (hM : ∀ g, w.heap.size ≤ g → M g) {r : (List Int)} (hs : s_impl_argsAt i k n = some r) :
    Gives Try.prog 93 [(.int .i64 i), (.int .i64 k), (.int .i64 n)] w (fun v w' => ∃ (ra0 : Option Addr) (rn0 rc0 : Nat) (rf0 : List Nat), v = (.slice ra0 rn0 rc0) ∧ Chg [] w w' ∧ (RT.os 3 (RT.int .i64)).val M w' (.slice ra0 rn0 rc0) r rf0 ∧ Own (Nw w []) (fun _ => True) w' (rf0 ++ ([]))) := by
 refine calls_fr Try.func93 rfl Try.ntmps93 (Nat.le_of_ble_eq_true rfl) ?_
 have hO := Own.start (N := Nw w []) hM Nw.fut
 have hC := Chg.refl [] w
 unfold s_impl_argsAt at hs
 refine wp_mono (Q := KPost (k_impl_argsAt M w r)) ?_ (fun e a w1 h => ?_)
 rotate_left
 ·cases e
  case ret =>
   obtain ⟨σ, ra0, rn0, rc0, rf0, rfl, hrest⟩ := h
   exact ret1x Try.results93 (res_tmp rfl) ⟨ra0, rn0, rc0, rf0, rfl, hrest⟩
  all_goals exact (h : False).elim
 refine c_seq (c_region ?_)
 refine pl_val (.slice none 0 0) (y_assign rfl) ?_
 refine c_nil ?_
 refine c_seq (c_region ?_)
 refine pl_val (.int .i64 k) (y_move rfl) ?_
 obtain ⟨y2, hy2, hs⟩ := bind_some hs
 obtain ⟨a1, n1, c1, w1, f1, hm1, hC1, hfr1, hv1⟩ := mk_os (M := M) (w := w) (r := (RT.int .i64)) Rw25 hy2 (fun _ _ => ⟨rfl, rfl⟩)
 refine pl_val (w' := w1) (.slice a1 n1 c1) (y_make rfl rfl hm1) ?_
 have hC := hC.ext hC1
 have hO := hO.new hC1 hfr1 (os_nodup hv1) hv1.fpl
 refine pl_val (.slice a1 n1 c1) (y_assign rfl) ?_
 refine c_nil ?_
 refine c_seq ?_
 refine c_seq (c_region ?_)
 refine pl_val (.int .i64 k) (y_move rfl) ?_
 refine pl_val (.int .i64 (w64 (k - 1))) (y_sub rfl rfl) ?_
 refine pl_val (.int .i64 (w64 (k - 1))) (y_assign rfl) ?_
 refine c_nil ?_
 obtain ⟨o21, hl22, hs⟩ := bind_some hs
 refine wp_block ?_
 refine wp_iter (id := 0) (I := fun s17 a w18 => ∃ (σ : Nat → Value) (f23 : List Nat), a = fr 27 (ovl σ [(0, (.int .i64 s17.1)), (2, (.int .i64 n)), (7, (.slice a1 n1 c1)), (8, (.int .i64 s17.2.1))]) ∧ Chg [] w w18 ∧ Own (Nw w []) M w18 (f23 ++ []) ∧ (RT.os 3 (RT.int .i64)).val M w18 (.slice a1 n1 c1) s17.2.2 f23) (J := fun s17 a w18 => ∃ (σ : Nat → Value) (f24 : List Nat), a = fr 27 (ovl σ [(7, (.slice a1 n1 c1))]) ∧ Chg [] w w18 ∧ Own (Nw w []) M w18 (f24 ++ []) ∧ (RT.os 3 (RT.int .i64)).val M w18 (.slice a1 n1 c1) s17.2.2 f24) (K := (k_impl_argsAt M w)) ?_ FU (i, w64 (k - 1), y2) o21 _ _ ?_ hl22 ?_
 ·rintro s17 o21 a w18 ⟨σ, f23, rfl, hC, hO, hv23⟩ hs
  refine c_seq ?_
  refine c_seq (c_region ?_)
  refine pl_val (.int .i64 s17.2.1) (y_move rfl) ?_
  refine pl_val (.bool (decide (0 ≤ s17.2.1))) (y_geq rfl rfl) ?_
  refine c_nil ?_
  rcases bif_some hs with ⟨hc25, hs⟩ | ⟨hc25, hs⟩
  ·skip
   refine c_condT (congrArg Value.bool hc25) ?_
   refine wp_skip ?_
   refine c_seq ?_
   refine wp_block ?_
   refine c_seq (c_region ?_)
   refine pl_val (.slice a1 n1 c1) (y_move rfl) ?_
   refine pl_val (.int .i64 s17.2.1) (y_move rfl) ?_
   refine pl_val (.int .i64 s17.1) (y_move rfl) ?_
   refine pl_val (.int .i64 n) (y_move rfl) ?_
   obtain ⟨u26, hu26, hs⟩ := bind_some hs
   refine pl_val (.int .i64 (Int.tmod s17.1 n)) (y_rem rfl rfl (nz_ne hu26)) ?_
   obtain ⟨x27, hx27, hs⟩ := bind_some hs
   obtain ⟨g28, f28, hg28, hk28, hp28, ha28, hf28⟩ := os_idx Sl25 Sz3 hv23 hx27
   refine pl_val (.pointer (some ⟨g28, 0 + Int.toNat s17.2.1 * 1, none⟩)) (hp28 _ _ _ _ _ _ _ _ _ rfl rfl) ?_
   obtain ⟨w29, f29, hst29, hC29, hf29, hv29⟩ := os_store (P := Try.prog) (c' := [(.int .i64 (Int.tmod s17.1 n))]) hg28 hv23 hk28 (fun g hg => hO.inM g (os_block hv23 g (by simpa using hg))) ⟨rfl, rfl⟩ List.nodup_nil (fun _ h => nomatch h) (fun _ h => .inl h)
   have hG29 : ∀ q ∈ [g28], q ∈ f23 := fun q hq => os_block hv23 q (by rw [hg28]; exact hq)
   refine pl_skip (w' := w29) (ys_store rfl rfl (hst29 _ _ rfl Sz3)) ?_
   have hC := hC.step hC29 (fun g hg => hO.inN g (hG29 g hg))
   have hO := hO.grow hC29 (fun q hq => .inl ((hf29 q hq).resolve_right (fun h => nomatch h))) (os_nodup hv29) hv29.fpl
   refine c_nil ?_
   refine c_region ?_
   refine pl_val (.int .i64 s17.1) (y_move rfl) ?_
   refine pl_val (.int .i64 n) (y_move rfl) ?_
   obtain ⟨u30, hu30, hs⟩ := bind_some hs
   refine pl_val (.int .i64 (w64 (Int.tdiv s17.1 n))) (y_quo rfl rfl (nz_ne hu30)) ?_
   refine pl_val (.int .i64 (w64 (Int.tdiv s17.1 n))) (y_assign rfl) ?_
   refine c_nil ?_
   refine c_region ?_
   refine pl_val (.int .i64 s17.2.1) (y_move rfl) ?_
   refine pl_val (.int .i64 (w64 (s17.2.1 - 1))) (y_sub rfl rfl) ?_
   refine pl_val (.int .i64 (w64 (s17.2.1 - 1))) (y_assign rfl) ?_
   refine c_nil ?_
   cases hs
   exact ⟨_, f29, fr_ovl 27 ⟨rfl, rfl, rfl, rfl, trivial⟩, hC, hO, hv29⟩
  ·skip
   refine c_condF (congrArg Value.bool hc25) ?_
   refine wp_exit ?_
   cases hs
   exact ⟨rfl, _, f23, fr_ovl 27 ⟨rfl, trivial⟩, hC, hO, hv23⟩
 ·skip
  exact ⟨_, f1, fr_ovl 27 ⟨rfl, rfl, rfl, rfl, trivial⟩, hC, hO, hv1⟩
 ·cases o21 with
  | nx _ => exact True.intro
  | rt r_ =>
   have hs := after_rt hs
   intro a1 w1 hK
   cases hs
   exact hK
  | br s17 =>
   have hs := after_br hs
   rintro a1 w18 ⟨σ, f24, rfl, hC, hO, hv24⟩
   refine c_seq (c_region ?_)
   refine pl_val (.slice a1 n1 c1) (y_move rfl) ?_
   refine pl_val (.slice a1 n1 c1) (y_assign rfl) ?_
   refine c_nil ?_
   refine wp_ret ?_
   cases hs
   exact ⟨_, a1, n1, c1, f24, fr_ovl 27 ⟨rfl, trivial⟩, hC, hv24, hO.top⟩

theorem Bd65 : Bodied Try.prog 65 := bodied Try.func65 (by kernel_rfl) rfl

theorem Bd93 : Bodied Try.prog 93 := bodied Try.func93 (by kernel_rfl) rfl

def k_impl_closePairs__take2 (M : Nat → Prop) (w0 : World) (qa0 : Option Addr) (qn0 qc0 : Nat) (qf0 : List Nat) (r : (List Bool)) (a : Act) (w : World) : Prop :=
  ∃ (σ : Nat → Value) (ra0 : Option Addr) (rn0 rc0 : Nat) (rf0 : List Nat), a = fr 90 (ovl σ [(6, (.slice ra0 rn0 rc0))]) ∧ Chg (qf0 ++ ([])) w0 w ∧ (RT.os 4 RT.bool).val M w (.slice ra0 rn0 rc0) r rf0 ∧ Own (Nw w0 (qf0 ++ ([]))) (fun _ => True) w (rf0 ++ ([]))
def s_impl_closePairs__take2 (n : Int) (ops : List (Int × (List Int))) (have_ : List Bool) : Option ((List Bool)) :=
  (iter (S := Bool × (List Bool)) (R := (List Bool)) (fun s907 =>
  (bif s907.1 then (s_impl_marked s907.2).bind fun r917 =>
  (forR (S := Bool × (List Bool)) (R := (List Bool)) (fun _ x1215 s1212 =>
  (iter (S := Bool × Int × (List Bool)) (R := (List Bool)) (fun s1314 =>
  (s_impl_power (r917.length : Int) x1215.1).bind fun r1323 =>
  (bif (decide (s1314.2.1 < r1323)) then (s_impl_argsAt s1314.2.1 x1215.1 (r917.length : Int)).bind fun r1326 =>
  (forR (S := Int × Int) (R := (List Bool)) (fun _ x1339 s1336 =>
  (idx r917 x1339).bind fun x1344 =>
  (nz n).bind fun u1346 =>
  (idx r917 x1339).bind fun x1347 =>
  (nz n).bind fun u1349 =>
  some (.nx (w64 ((w64 (s1336.1 * n)) + (w64 (Int.tdiv x1344 n))), w64 ((w64 (s1336.2 * n)) + (Int.tmod x1347 n))))) 0 r1326 (0, 0)).bind fun o1340 => after o1340 (fun r_ => some (.rt r_)) (fun s1336 =>
  (idx x1215.2 s1336.1).bind fun x1356 =>
  (idx x1215.2 s1336.2).bind fun x1358 =>
  (idx s1314.2.2 (w64 ((w64 (x1356 * n)) + x1358))).bind fun x1360 =>
  (bif (!x1360) then (idx s1314.2.2 (w64 ((w64 (x1356 * n)) + x1358))).bind fun x1363 =>
  some (.nx (true, w64 (s1314.2.1 + 1), List.set s1314.2.2 (Int.toNat (w64 ((w64 (x1356 * n)) + x1358))) true)) else some (.nx (s1314.1, w64 (s1314.2.1 + 1), s1314.2.2)))) else some (.br (s1314.1, s1314.2.1, s1314.2.2)))) FU (s1212.1, 0, s1212.2)).bind fun o1318 => after o1318 (fun r_ => some (.rt r_)) (fun s1314 =>
  some (.nx (s1314.1, s1314.2.2)))) 0 ops (false, s907.2)).bind fun o1216 => after o1216 (fun r_ => some (.rt r_)) (fun s1212 =>
  some (.nx (s1212.1, s1212.2))) else some (.br (s907.1, s907.2)))) FU (true, have_)).bind fun o911 => after o911 (fun r_ => some r_) (fun s907 =>
  some s907.2)
set_option maxHeartbeats 4000000 in
theorem c_impl_closePairs__take2 {M : Nat → Prop} {w : World} {pa0 : Option Addr} {pn0 pc0 : Nat} {pa1 : Option Addr} {pn1 pc1 : Nat} {pf1 : List Nat} (n : Int) (ops : List (Int × (List Int))) (have_ : List Bool) (h0 : (RT.rs (RT.pr (RT.int .i64) (RT.rs (RT.int .i64)))).val M w (.slice pa0 pn0 pc0) ops ([])) (h1 : (RT.os 4 RT.bool).val M w (.slice pa1 pn1 pc1) have_ pf1) (hI : Own (Nw w (pf1 ++ ([]))) M w (pf1 ++ ([]))) (hM : ∀ g, w.heap.size ≤ g → M g) {r : (List Bool)} (hs : s_impl_closePairs__take2 n ops have_ = some r) :
    Gives Try.prog 74 [(.int .i64 n), (.slice pa0 pn0 pc0), (.slice pa1 pn1 pc1)] w (fun v w' => ∃ (ra0 : Option Addr) (rn0 rc0 : Nat) (rf0 : List Nat), v = (.slice ra0 rn0 rc0) ∧ Chg (pf1 ++ ([])) w w' ∧ (RT.os 4 RT.bool).val M w' (.slice ra0 rn0 rc0) r rf0 ∧ Own (Nw w (pf1 ++ ([]))) (fun _ => True) w' (rf0 ++ ([]))) := by
 refine calls_fr Try.func74 rfl Try.ntmps74 (Nat.le_of_ble_eq_true rfl) ?_
 have hO := hI
 have hC := Chg.refl (pf1 ++ ([])) w
 unfold s_impl_closePairs__take2 at hs
 refine wp_mono (Q := KPost (k_impl_closePairs__take2 M w pa1 pn1 pc1 pf1 r)) ?_ (fun e a w1 h => ?_)
 rotate_left
 ·cases e
  case ret =>
   obtain ⟨σ, ra0, rn0, rc0, rf0, rfl, hrest⟩ := h
   exact ret1x Try.results74 (res_tmp rfl) ⟨ra0, rn0, rc0, rf0, rfl, hrest⟩
  all_goals exact (h : False).elim
 refine c_seq (c_region ?_)
 refine pl_val (.slice none 0 0) (y_assign rfl) ?_
 refine c_nil ?_
 refine c_seq ?_
 refine c_seq (c_region ?_)
 refine pl_val (.bool true) (y_assign rfl) ?_
 refine c_nil ?_
 obtain ⟨o911, hl912, hs⟩ := bind_some hs
 refine wp_block ?_
 refine wp_iter (id := 0) (I := fun s907 a w908 => ∃ (σ : Nat → Value) (f913 : List Nat), a = fr 90 (ovl σ [(0, (.int .i64 n)), (1, (.slice pa0 pn0 pc0)), (2, (.slice pa1 pn1 pc1)), (7, (.bool s907.1))]) ∧ Chg (pf1 ++ ([])) w w908 ∧ Own (Nw w (pf1 ++ ([]))) M w908 (f913 ++ []) ∧ (RT.rs (RT.pr (RT.int .i64) (RT.rs (RT.int .i64)))).val M w908 (.slice pa0 pn0 pc0) ops ([]) ∧ (RT.os 4 RT.bool).val M w908 (.slice pa1 pn1 pc1) s907.2 f913) (J := fun s907 a w908 => ∃ (σ : Nat → Value) (f914 : List Nat), a = fr 90 (ovl σ [(2, (.slice pa1 pn1 pc1))]) ∧ Chg (pf1 ++ ([])) w w908 ∧ Own (Nw w (pf1 ++ ([]))) M w908 (f914 ++ []) ∧ (RT.rs (RT.pr (RT.int .i64) (RT.rs (RT.int .i64)))).val M w908 (.slice pa0 pn0 pc0) ops ([]) ∧ (RT.os 4 RT.bool).val M w908 (.slice pa1 pn1 pc1) s907.2 f914) (K := (k_impl_closePairs__take2 M w pa1 pn1 pc1 pf1)) ?_ FU (true, have_) o911 _ _ ?_ hl912 ?_
 ·rintro s907 o911 a w908 ⟨σ, f913, rfl, hC, hO, h0, hv913⟩ hs
  refine c_seq ?_
  refine c_seq (c_region ?_)
  refine pl_val (.bool s907.1) (y_move rfl) ?_
  refine c_nil ?_
  rcases bif_some hs with ⟨hc915, hs⟩ | ⟨hc915, hs⟩
  ·skip
   refine c_condT (congrArg Value.bool hc915) ?_
   refine wp_skip ?_
   refine wp_block ?_
   refine c_seq (c_region ?_)
   refine pl_val (.bool false) (y_assign rfl) ?_
   refine c_nil ?_
   refine c_seq (c_region ?_)
   refine pl_val (.slice pa1 pn1 pc1) (y_move rfl) ?_
   obtain ⟨r917, hr917, hs⟩ := bind_some hs
   refine pl_call Bd65 rfl (c_impl_marked (M := (Less M f913)) s907.2 (((Frz.os Frz.bool)).val hv913 Less.sub Less.not) hO.less.fut hr917) ?_
   rintro _ w916 ⟨a916x0, n916x0, c916x0, f916x0, rfl, hC916, hv916x0, hOc916⟩
   have h0 := h0.ext hC916
   have hv913 := hv913.ext hC916
   have hC := hC.ext hC916
   have hO := Own.join0 hO hC916 hOc916
   have hO := hO.perm (R := f916x0 ++ (f913 ++ ([]))) (by simp)
   have hv916x0 := hv916x0.free (M' := M) (Free.os Free.int)
   refine pl_val (.slice a916x0 n916x0 c916x0) (y_assign rfl) ?_
   refine c_nil ?_
   refine c_seq (c_region ?_)
   refine pl_val (.slice pa0 pn0 pc0) (y_move rfl) ?_
   refine pl_val (.int .i64 (ops.length : Int)) (y_len' Sl32 (rs_len h0) rfl) ?_
   refine pl_val (.int .i64 0) (y_move rfl) ?_
   refine c_nil ?_
   obtain ⟨o1216, hl1217, hs⟩ := bind_some hs
   refine wp_block ?_
   refine wp_forR (id := 2) (I := fun i_ xs_ s1212 a w1213 => ∃ k1214 : Nat, i_ = (k1214 : Int) ∧ List.drop k1214 ops = xs_ ∧ (∃ (σ : Nat → Value) (f1218 : List Nat), a = fr 90 (ovl σ [(0, (.int .i64 n)), (1, (.slice pa0 pn0 pc0)), (2, (.slice pa1 pn1 pc1)), (7, (.bool s1212.1)), (8, (.slice a916x0 n916x0 c916x0)), (20, (.slice pa0 pn0 pc0)), (21, (.int .i64 (ops.length : Int))), (22, (.int .i64 (k1214 : Int)))]) ∧ Chg (pf1 ++ ([])) w w1213 ∧ Own (Nw w (pf1 ++ ([]))) M w1213 (f916x0 ++ (f1218 ++ [])) ∧ (RT.rs (RT.pr (RT.int .i64) (RT.rs (RT.int .i64)))).val M w1213 (.slice pa0 pn0 pc0) ops ([]) ∧ (RT.os 4 RT.bool).val M w1213 (.slice pa1 pn1 pc1) s1212.2 f1218 ∧ (RT.os 3 (RT.int .i64)).val M w1213 (.slice a916x0 n916x0 c916x0) r917 f916x0)) (J := fun s1212 a w1213 => ∃ (σ : Nat → Value) (f1219 : List Nat), a = fr 90 (ovl σ [(0, (.int .i64 n)), (1, (.slice pa0 pn0 pc0)), (2, (.slice pa1 pn1 pc1)), (7, (.bool s1212.1))]) ∧ Chg (pf1 ++ ([])) w w1213 ∧ Own (Nw w (pf1 ++ ([]))) M w1213 (f916x0 ++ (f1219 ++ [])) ∧ (RT.rs (RT.pr (RT.int .i64) (RT.rs (RT.int .i64)))).val M w1213 (.slice pa0 pn0 pc0) ops ([]) ∧ (RT.os 4 RT.bool).val M w1213 (.slice pa1 pn1 pc1) s1212.2 f1219 ∧ (RT.os 3 (RT.int .i64)).val M w1213 (.slice a916x0 n916x0 c916x0) r917 f916x0) (K := (k_impl_closePairs__take2 M w pa1 pn1 pc1 pf1)) ?_ ?_ ops 0 (false, s907.2) o1216 _ _ ?_ hl1217 ?_
   ·rintro _ s1212 a w1213 ⟨k1214, rfl, hd, σ, f1218, rfl, hC, hO, h0, hv1218, hv916x0⟩
    have hlt := drop_nil_ge hd
    refine c_seq (c_region ?_)
    refine pl_val (.bool (decide ((k1214 : Int) < (ops.length : Int)))) (y_lss rfl rfl) ?_
    refine c_nil ?_
    refine c_seq ?_
    refine c_condF (congrArg Value.bool (decide_eq_false hlt)) ?_
    refine wp_exit ?_
    have hO := hO.fr1
    have hO := hO.fr1
    exact ⟨rfl, _, f1218, fr_ovl 90 ⟨rfl, rfl, rfl, rfl, trivial⟩, hC, hO, h0, hv1218, hv916x0⟩
   ·rintro _ x1215 xs_ s1212 o1216 a w1213 ⟨k1214, rfl, hd, σ, f1218, rfl, hC, hO, h0, hv1218, hv916x0⟩ hs
    have hlt := drop_cons_lt hd
    have hxk1214 := drop_cons_idx hd
    refine c_seq (c_region ?_)
    refine pl_val (.bool (decide ((k1214 : Int) < (ops.length : Int)))) (y_lss rfl rfl) ?_
    refine c_nil ?_
    refine c_seq ?_
    refine c_condT (congrArg Value.bool (decide_eq_true hlt)) ?_
    refine wp_skip ?_
    refine c_seq ?_
    refine wp_block ?_
    refine c_seq (c_region ?_)
    obtain ⟨b1220, o1220, hp1220, ha1220⟩ := rs_idx Sl32 Sz36 h0 hxk1214
    refine pl_val (.pointer (some ⟨b1220, o1220, none⟩)) (hp1220 _ _ _ _ _ _ _ _ _ rfl rfl) ?_
    obtain ⟨v1221, hl1221, hv1221⟩ := at_load Ag36 Sz36 (by intro h; cases h) ha1220
    obtain ⟨cs1221, rfl, hr1221⟩ := hv1221
    obtain ⟨cc1221x1, cd1221x1, rfl, hh1221x1, ht1221x1⟩ := pr_open hr1221
    obtain rfl := int_rel hh1221x1
    obtain ⟨a1221x2, n1221x2, c1221x2, rfl, hv1221x2⟩ := rs_rel ht1221x1
    refine pl_val (.agg #[(.int .i64 x1215.1), (.slice a1221x2 n1221x2 c1221x2)]) (y_load rfl (hl1221 _ (Chg.refl _ _))) ?_
    obtain ⟨w1223, g1223, ew1223, eg1223, hC1223, hb1223⟩ := new_block w1213 [(.int .i64 0), (.slice none 0 0)] 36
    refine pl_val (w' := w1223) (.pointer (some ⟨g1223, 0, none⟩)) (y_alloc (by rw [ew1223, eg1223]; kernel_rfl)) ?_
    have h0 := h0.ext hC1223
    have hv1218 := hv1218.ext hC1223
    have hv916x0 := hv916x0.ext hC1223
    have hv1221x2 := hv1221x2.ext hC1223
    have hC := hC.ext hC1223
    have hO := hO.new1 hC1223 eg1223 hb1223.lt
    obtain ⟨w1224, hst1224, hC1224, hb1224⟩ := box_store (P := Try.prog) hb1223 [] [(.int .i64 0), (.slice none 0 0)] [] [(.int .i64 x1215.1), (.slice a1221x2 n1221x2 c1221x2)] rfl rfl (by intro u hu; simp only [List.mem_cons, List.not_mem_nil, or_false] at hu; rcases hu with rfl | rfl <;> rfl)
    refine pl_skip (w' := w1224) (ys_store rfl rfl (hst1224 _ _ rfl Sz36)) ?_
    have h0 := h0.mut hC1224 (fun g hg => hO.inM g ((fun _ h => h) g hg)) (fun _ _ h => nomatch h)
    have hv1218 := hv1218.mut hC1224 (fun g hg => hO.inM g ((fun _ h => h) g hg)) (fun g hg e => hO.apart g ((fun _ h => h) g hg) (mem_r (mem_l (e))))
    have hv916x0 := hv916x0.mut hC1224 (fun g hg => hO.inM g ((fun _ h => h) g hg)) (fun g hg e => hO.apart g ((fun _ h => h) g hg) (mem_l (e)))
    have hv1221x2 := hv1221x2.mut hC1224 (fun g hg => hO.inM g ((fun _ h => h) g hg)) (fun _ _ h => nomatch h)
    have hC := hC.step hC1224 (fun g hg => hO.inN g ((fun _ h => h) g hg))
    have hO := hO.ext hC1224
    have hb1224 : BoxV w1224 g1223 36 [(.int .i64 x1215.1), (.slice a1221x2 n1221x2 c1221x2)] := hb1224
    refine c_nil ?_
    refine c_seq (c_region ?_)
    refine pl_val (.int .i64 0) (y_assign rfl) ?_
    refine c_nil ?_
    obtain ⟨o1318, hl1319, hs⟩ := bind_some hs
    refine wp_block ?_
    refine wp_iter (id := 4) (I := fun s1314 a w1315 => ∃ (σ : Nat → Value) (f1320 : List Nat), a = fr 90 (ovl σ [(0, (.int .i64 n)), (1, (.slice pa0 pn0 pc0)), (2, (.slice pa1 pn1 pc1)), (7, (.bool s1314.1)), (8, (.slice a916x0 n916x0 c916x0)), (10, (.pointer (some ⟨g1223, 0, none⟩))), (11, (.int .i64 s1314.2.1)), (20, (.slice pa0 pn0 pc0)), (21, (.int .i64 (ops.length : Int))), (22, (.int .i64 (k1214 : Int)))]) ∧ Chg (pf1 ++ ([])) w w1315 ∧ Own (Nw w (pf1 ++ ([]))) M w1315 (([g1223]) ++ (f916x0 ++ (f1320 ++ []))) ∧ (RT.rs (RT.pr (RT.int .i64) (RT.rs (RT.int .i64)))).val M w1315 (.slice pa0 pn0 pc0) ops ([]) ∧ (RT.os 4 RT.bool).val M w1315 (.slice pa1 pn1 pc1) s1314.2.2 f1320 ∧ (RT.os 3 (RT.int .i64)).val M w1315 (.slice a916x0 n916x0 c916x0) r917 f916x0 ∧ (RT.rs (RT.int .i64)).val M w1315 (.slice a1221x2 n1221x2 c1221x2) x1215.2 ([]) ∧ BoxV w1315 g1223 36 [(.int .i64 x1215.1), (.slice a1221x2 n1221x2 c1221x2)]) (J := fun s1314 a w1315 => ∃ (σ : Nat → Value) (f1321 : List Nat), a = fr 90 (ovl σ [(0, (.int .i64 n)), (1, (.slice pa0 pn0 pc0)), (2, (.slice pa1 pn1 pc1)), (7, (.bool s1314.1)), (8, (.slice a916x0 n916x0 c916x0)), (20, (.slice pa0 pn0 pc0)), (21, (.int .i64 (ops.length : Int))), (22, (.int .i64 (k1214 : Int)))]) ∧ Chg (pf1 ++ ([])) w w1315 ∧ Own (Nw w (pf1 ++ ([]))) M w1315 (([g1223]) ++ (f916x0 ++ (f1321 ++ []))) ∧ (RT.rs (RT.pr (RT.int .i64) (RT.rs (RT.int .i64)))).val M w1315 (.slice pa0 pn0 pc0) ops ([]) ∧ (RT.os 4 RT.bool).val M w1315 (.slice pa1 pn1 pc1) s1314.2.2 f1321 ∧ (RT.os 3 (RT.int .i64)).val M w1315 (.slice a916x0 n916x0 c916x0) r917 f916x0 ∧ (RT.rs (RT.int .i64)).val M w1315 (.slice a1221x2 n1221x2 c1221x2) x1215.2 ([]) ∧ BoxV w1315 g1223 36 [(.int .i64 x1215.1), (.slice a1221x2 n1221x2 c1221x2)]) (K := (k_impl_closePairs__take2 M w pa1 pn1 pc1 pf1)) ?_ FU (s1212.1, 0, s1212.2) o1318 _ _ ?_ hl1319 ?_
    ·rintro s1314 o1318 a w1315 ⟨σ, f1320, rfl, hC, hO, h0, hv1320, hv916x0, hv1221x2, hb1224⟩ hs
     refine c_seq ?_
     refine c_seq (c_region ?_)
     refine pl_val (.int .i64 s1314.2.1) (y_move rfl) ?_
     refine pl_val (.slice a916x0 n916x0 c916x0) (y_move rfl) ?_
     refine pl_val (.int .i64 (r917.length : Int)) (y_len' Sl25 (os_len hv916x0) rfl) ?_
     refine pl_val (.pointer (some ⟨g1223, 0, none⟩)) (y_faddr rfl Fa36x0) ?_
     refine pl_val (.int .i64 x1215.1) (y_load rfl ((box_load Ag3 Sz3 hb1224 [] [(.int .i64 x1215.1)] [(.slice a1221x2 n1221x2 c1221x2)] rfl rfl (fun _ => rfl)) _ (Chg.refl _ _))) ?_
     obtain ⟨r1323, hr1323, hs⟩ := bind_some hs
     refine pl_call Bd61 rfl (c_impl_power (M := M) (r917.length : Int) x1215.1  hO.fut hr1323) ?_
     rintro _ w1322 ⟨rfl, hC1322⟩
     have h0 := h0.ext hC1322
     have hv1320 := hv1320.ext hC1322
     have hv916x0 := hv916x0.ext hC1322
     have hv1221x2 := hv1221x2.ext hC1322
     have hb1224 := hb1224.chg hC1322 (fun h => nomatch h)
     have hC := hC.ext hC1322
     have hO := hO.ext hC1322
     refine pl_val (.bool (decide (s1314.2.1 < r1323))) (y_lss rfl rfl) ?_
     refine c_nil ?_
     rcases bif_some hs with ⟨hc1324, hs⟩ | ⟨hc1324, hs⟩
     ·skip
      refine c_condT (congrArg Value.bool hc1324) ?_
      refine wp_skip ?_
      refine c_seq ?_
      refine wp_block ?_
      refine c_seq (c_region ?_)
      refine pl_val (.int .i64 0) (y_assign rfl) ?_
      refine pl_val (.int .i64 0) (y_assign rfl) ?_
      refine c_nil ?_
      refine c_seq ?_
      refine c_seq (c_region ?_)
      refine pl_val (.int .i64 s1314.2.1) (y_move rfl) ?_
      refine pl_val (.pointer (some ⟨g1223, 0, none⟩)) (y_faddr rfl Fa36x0) ?_
      refine pl_val (.int .i64 x1215.1) (y_load rfl ((box_load Ag3 Sz3 hb1224 [] [(.int .i64 x1215.1)] [(.slice a1221x2 n1221x2 c1221x2)] rfl rfl (fun _ => rfl)) _ (Chg.refl _ _))) ?_
      refine pl_val (.slice a916x0 n916x0 c916x0) (y_move rfl) ?_
      refine pl_val (.int .i64 (r917.length : Int)) (y_len' Sl25 (os_len hv916x0) rfl) ?_
      obtain ⟨r1326, hr1326, hs⟩ := bind_some hs
      refine pl_call Bd93 rfl (c_impl_argsAt (M := M) s1314.2.1 x1215.1 (r917.length : Int)  hO.fut hr1326) ?_
      rintro _ w1325 ⟨a1325x0, n1325x0, c1325x0, f1325x0, rfl, hC1325, hv1325x0, hOc1325⟩
      have h0 := h0.ext hC1325
      have hv1320 := hv1320.ext hC1325
      have hv916x0 := hv916x0.ext hC1325
      have hv1221x2 := hv1221x2.ext hC1325
      have hb1224 := hb1224.chg hC1325 (fun h => nomatch h)
      have hC := hC.ext hC1325
      have hO := Own.join0 hO hC1325 hOc1325
      have hO := hO.perm (R := f1325x0 ++ (([g1223]) ++ (f916x0 ++ (f1320 ++ ([]))))) (by simp)
      refine pl_val (.int .i64 (r1326.length : Int)) (y_len' Sl25 (os_len hv1325x0) rfl) ?_
      refine pl_val (.int .i64 0) (y_move rfl) ?_
      refine c_nil ?_
      obtain ⟨o1340, hl1341, hs⟩ := bind_some hs
      refine wp_block ?_
      refine wp_forR (id := 6) (I := fun i_ xs_ s1336 a w1337 => ∃ k1338 : Nat, i_ = (k1338 : Int) ∧ List.drop k1338 r1326 = xs_ ∧ (∃ (σ : Nat → Value), a = fr 90 (ovl σ [(0, (.int .i64 n)), (1, (.slice pa0 pn0 pc0)), (2, (.slice pa1 pn1 pc1)), (7, (.bool s1314.1)), (8, (.slice a916x0 n916x0 c916x0)), (10, (.pointer (some ⟨g1223, 0, none⟩))), (11, (.int .i64 s1314.2.1)), (12, (.int .i64 s1336.1)), (13, (.int .i64 s1336.2)), (20, (.slice pa0 pn0 pc0)), (21, (.int .i64 (ops.length : Int))), (22, (.int .i64 (k1214 : Int))), (40, (.slice a1325x0 n1325x0 c1325x0)), (41, (.int .i64 (r1326.length : Int))), (42, (.int .i64 (k1338 : Int)))]) ∧ Chg (pf1 ++ ([])) w w1337 ∧ Own (Nw w (pf1 ++ ([]))) M w1337 (f1325x0 ++ (([g1223]) ++ (f916x0 ++ (f1320 ++ [])))) ∧ (RT.rs (RT.pr (RT.int .i64) (RT.rs (RT.int .i64)))).val M w1337 (.slice pa0 pn0 pc0) ops ([]) ∧ (RT.os 4 RT.bool).val M w1337 (.slice pa1 pn1 pc1) s1314.2.2 f1320 ∧ (RT.os 3 (RT.int .i64)).val M w1337 (.slice a916x0 n916x0 c916x0) r917 f916x0 ∧ (RT.rs (RT.int .i64)).val M w1337 (.slice a1221x2 n1221x2 c1221x2) x1215.2 ([]) ∧ BoxV w1337 g1223 36 [(.int .i64 x1215.1), (.slice a1221x2 n1221x2 c1221x2)] ∧ (RT.os 3 (RT.int .i64)).val M w1337 (.slice a1325x0 n1325x0 c1325x0) r1326 f1325x0)) (J := fun s1336 a w1337 => ∃ (σ : Nat → Value), a = fr 90 (ovl σ [(0, (.int .i64 n)), (1, (.slice pa0 pn0 pc0)), (2, (.slice pa1 pn1 pc1)), (7, (.bool s1314.1)), (8, (.slice a916x0 n916x0 c916x0)), (10, (.pointer (some ⟨g1223, 0, none⟩))), (11, (.int .i64 s1314.2.1)), (12, (.int .i64 s1336.1)), (13, (.int .i64 s1336.2)), (20, (.slice pa0 pn0 pc0)), (21, (.int .i64 (ops.length : Int))), (22, (.int .i64 (k1214 : Int)))]) ∧ Chg (pf1 ++ ([])) w w1337 ∧ Own (Nw w (pf1 ++ ([]))) M w1337 (f1325x0 ++ (([g1223]) ++ (f916x0 ++ (f1320 ++ [])))) ∧ (RT.rs (RT.pr (RT.int .i64) (RT.rs (RT.int .i64)))).val M w1337 (.slice pa0 pn0 pc0) ops ([]) ∧ (RT.os 4 RT.bool).val M w1337 (.slice pa1 pn1 pc1) s1314.2.2 f1320 ∧ (RT.os 3 (RT.int .i64)).val M w1337 (.slice a916x0 n916x0 c916x0) r917 f916x0 ∧ (RT.rs (RT.int .i64)).val M w1337 (.slice a1221x2 n1221x2 c1221x2) x1215.2 ([]) ∧ BoxV w1337 g1223 36 [(.int .i64 x1215.1), (.slice a1221x2 n1221x2 c1221x2)] ∧ (RT.os 3 (RT.int .i64)).val M w1337 (.slice a1325x0 n1325x0 c1325x0) r1326 f1325x0) (K := (k_impl_closePairs__take2 M w pa1 pn1 pc1 pf1)) ?_ ?_ r1326 0 (0, 0) o1340 _ _ ?_ hl1341 ?_
      ·rintro _ s1336 a w1337 ⟨k1338, rfl, hd, σ, rfl, hC, hO, h0, hv1320, hv916x0, hv1221x2, hb1224, hv1325x0⟩
       have hlt := drop_nil_ge hd
       refine c_seq (c_region ?_)
       refine pl_val (.bool (decide ((k1338 : Int) < (r1326.length : Int)))) (y_lss rfl rfl) ?_
       refine c_nil ?_
       refine c_seq ?_
       refine c_condF (congrArg Value.bool (decide_eq_false hlt)) ?_
       refine wp_exit ?_
       have hO := hO.fr3
       have hO := hO.fr3
       have hO := hO.fr3
       have hO := hO.fr3
       exact ⟨rfl, _, fr_ovl 90 ⟨rfl, rfl, rfl, rfl, rfl, rfl, rfl, rfl, rfl, rfl, rfl, rfl, trivial⟩, hC, hO, h0, hv1320, hv916x0, hv1221x2, hb1224, hv1325x0⟩
      ·rintro _ x1339 xs_ s1336 o1340 a w1337 ⟨k1338, rfl, hd, σ, rfl, hC, hO, h0, hv1320, hv916x0, hv1221x2, hb1224, hv1325x0⟩ hs
       have hlt := drop_cons_lt hd
       have hxk1338 := drop_cons_idx hd
       refine c_seq (c_region ?_)
       refine pl_val (.bool (decide ((k1338 : Int) < (r1326.length : Int)))) (y_lss rfl rfl) ?_
       refine c_nil ?_
       refine c_seq ?_
       refine c_condT (congrArg Value.bool (decide_eq_true hlt)) ?_
       refine wp_skip ?_
       refine c_seq ?_
       refine wp_block ?_
       refine c_seq (c_region ?_)
       obtain ⟨g1342, f1342, hg1342, hk1342, hp1342, ha1342, hf1342⟩ := os_idx Sl25 Sz3 hv1325x0 hxk1338
       refine pl_val (.pointer (some ⟨g1342, 0 + Int.toNat (k1338 : Int) * 1, none⟩)) (hp1342 _ _ _ _ _ _ _ _ _ rfl rfl) ?_
       refine pl_val (.int .i64 x1339) (y_load rfl ((at_load_int Ag3 Sz3 ha1342) _ (Chg.refl _ _))) ?_
       refine pl_val (.int .i64 x1339) (y_assign rfl) ?_
       refine c_nil ?_
       refine x_start [] Mx rfl ?_
       have hCw1343 := Chg.drew w1337
       generalize World.drew w1337 = w1343 at hCw1343 ⊢
       have h0 := h0.ext hCw1343
       have hv1320 := hv1320.ext hCw1343
       have hv916x0 := hv916x0.ext hCw1343
       have hv1221x2 := hv1221x2.ext hCw1343
       have hb1224 := hb1224.chg hCw1343 (fun h => nomatch h)
       have hv1325x0 := hv1325x0.ext hCw1343
       have hC := hC.ext hCw1343
       have hO := hO.ext hCw1343
       have hS := Chg.refl [] w1343
       refine x_p 0 (.int .i64 s1336.1) rfl (by kernel_rfl)  (fun _ => y_move rfl) (fun _ => hS) ?_
       refine x_p 1 (.int .i64 n) rfl (by kernel_rfl)  (fun _ => y_move rfl) (fun _ => hS) ?_
       refine x_p 2 (.int .i64 (w64 (s1336.1 * n))) rfl (by kernel_rfl)  (fun _ => y_mul rfl rfl) (fun _ => hS) ?_
       refine x_p 3 (.slice a916x0 n916x0 c916x0) rfl (by kernel_rfl)  (fun _ => y_move rfl) (fun _ => hS) ?_
       refine x_p 4 (.int .i64 x1339) rfl (by kernel_rfl)  (fun _ => y_move rfl) (fun _ => hS) ?_
       obtain ⟨x1344, hx1344, hs⟩ := bind_some hs
       obtain ⟨g1345, f1345, hg1345, hk1345, hp1345, ha1345, hf1345⟩ := os_idx Sl25 Sz3 hv916x0 hx1344
       refine x_p 5 (.pointer (some ⟨g1345, 0 + Int.toNat x1339 * 1, none⟩)) rfl (by kernel_rfl)  (fun _ => hp1345 _ _ _ _ _ _ _ _ _ rfl rfl) (fun _ => hS) ?_
       refine x_l 6 (.int .i64 x1344) rfl (by kernel_rfl)  (fun w' hw' => y_load rfl ((at_load_int Ag3 Sz3 ha1345) w' hw')) hS ?_
       refine x_p 7 (.int .i64 n) rfl (by kernel_rfl)  (fun _ => y_move rfl) (fun _ => hS) ?_
       obtain ⟨u1346, hu1346, hs⟩ := bind_some hs
       refine x_p 8 (.int .i64 (w64 (Int.tdiv x1344 n))) rfl (by kernel_rfl)  (fun _ => y_quo rfl rfl (nz_ne hu1346)) (fun _ => hS) ?_
       refine x_p 9 (.int .i64 (w64 ((w64 (s1336.1 * n)) + (w64 (Int.tdiv x1344 n))))) rfl (by kernel_rfl)  (fun _ => y_add rfl rfl) (fun _ => hS) ?_
       refine x_p 10 (.int .i64 s1336.2) rfl (by kernel_rfl)  (fun _ => y_move rfl) (fun _ => hS) ?_
       refine x_p 11 (.int .i64 n) rfl (by kernel_rfl)  (fun _ => y_move rfl) (fun _ => hS) ?_
       refine x_p 12 (.int .i64 (w64 (s1336.2 * n))) rfl (by kernel_rfl)  (fun _ => y_mul rfl rfl) (fun _ => hS) ?_
       refine x_p 13 (.slice a916x0 n916x0 c916x0) rfl (by kernel_rfl)  (fun _ => y_move rfl) (fun _ => hS) ?_
       refine x_p 14 (.int .i64 x1339) rfl (by kernel_rfl)  (fun _ => y_move rfl) (fun _ => hS) ?_
       obtain ⟨x1347, hx1347, hs⟩ := bind_some hs
       obtain ⟨g1348, f1348, hg1348, hk1348, hp1348, ha1348, hf1348⟩ := os_idx Sl25 Sz3 hv916x0 hx1347
       refine x_p 15 (.pointer (some ⟨g1348, 0 + Int.toNat x1339 * 1, none⟩)) rfl (by kernel_rfl)  (fun _ => hp1348 _ _ _ _ _ _ _ _ _ rfl rfl) (fun _ => hS) ?_
       refine x_l 16 (.int .i64 x1347) rfl (by kernel_rfl)  (fun w' hw' => y_load rfl ((at_load_int Ag3 Sz3 ha1348) w' hw')) hS ?_
       refine x_p 17 (.int .i64 n) rfl (by kernel_rfl)  (fun _ => y_move rfl) (fun _ => hS) ?_
       obtain ⟨u1349, hu1349, hs⟩ := bind_some hs
       refine x_p 18 (.int .i64 (Int.tmod x1347 n)) rfl (by kernel_rfl)  (fun _ => y_rem rfl rfl (nz_ne hu1349)) (fun _ => hS) ?_
       refine x_p 19 (.int .i64 (w64 ((w64 (s1336.2 * n)) + (Int.tmod x1347 n)))) rfl (by kernel_rfl)  (fun _ => y_add rfl rfl) (fun _ => hS) ?_
       refine x_p 20 (.int .i64 (w64 ((w64 (s1336.1 * n)) + (w64 (Int.tdiv x1344 n))))) rfl (by kernel_rfl)  (fun _ => y_assign rfl) (fun _ => hS) ?_
       refine x_p 21 (.int .i64 (w64 ((w64 (s1336.2 * n)) + (Int.tmod x1347 n)))) rfl (by kernel_rfl)  (fun _ => y_assign rfl) (fun _ => hS) ?_
       refine x_end (by kernel_rfl) ?_
       clear hS
       refine c_region ?_
       refine pl_val (.int .i64 (w64 ((k1338 : Int) + 1))) (y_add rfl rfl) ?_
       refine pl_val (.int .i64 (w64 ((k1338 : Int) + 1))) (y_move rfl) ?_
       refine c_nil ?_
       cases hs
       have hO := hO.fr3
       have hO := hO.fr3
       have hO := hO.fr3
       have hO := hO.fr3
       exact ⟨_, rfl, drop_cons_next hd, _, fr_ovl 90 ⟨rfl, rfl, rfl, rfl, rfl, rfl, rfl, rfl, rfl, rfl, rfl, rfl, rfl, rfl, congrArg (Value.int .i64) (w64_succ hlt (Int.natCast_nonneg _) (os_max hv1325x0)), trivial⟩, hC, hO, h0, hv1320, hv916x0, hv1221x2, hb1224, hv1325x0⟩
      ·skip
       have hO := hO.fr3
       have hO := hO.fr3
       have hO := hO.fr3
       have hO := hO.fr3
       exact ⟨0, rfl, rfl, _, fr_ovl 90 ⟨rfl, rfl, rfl, rfl, rfl, rfl, rfl, rfl, rfl, rfl, rfl, rfl, rfl, rfl, rfl, trivial⟩, hC, hO, h0, hv1320, hv916x0, hv1221x2, hb1224, hv1325x0⟩
      ·cases o1340 with
       | nx _ => exact True.intro
       | rt r_ =>
        have hs := after_rt hs
        intro a1 w1 hK
        cases hs
        exact hK
       | br s1336 =>
        have hs := after_br hs
        rintro a1 w1337 ⟨σ, rfl, hC, hO, h0, hv1320, hv916x0, hv1221x2, hb1224, hv1325x0⟩
        refine c_seq ?_
        refine x_start [] Mx rfl ?_
        have hCw1355 := Chg.drew w1337
        generalize World.drew w1337 = w1355 at hCw1355 ⊢
        have h0 := h0.ext hCw1355
        have hv1320 := hv1320.ext hCw1355
        have hv916x0 := hv916x0.ext hCw1355
        have hv1221x2 := hv1221x2.ext hCw1355
        have hb1224 := hb1224.chg hCw1355 (fun h => nomatch h)
        have hv1325x0 := hv1325x0.ext hCw1355
        have hC := hC.ext hCw1355
        have hO := hO.ext hCw1355
        have hS := Chg.refl [] w1355
        refine x_p 0 (.pointer (some ⟨g1223, 1, none⟩)) rfl (by kernel_rfl)  (fun _ => y_faddr rfl Fa36x1) (fun _ => hS) ?_
        refine x_l 1 (.slice a1221x2 n1221x2 c1221x2) rfl (by kernel_rfl)  (fun w' hw' => y_load rfl ((box_load Ag25 Sz25 hb1224 [(.int .i64 x1215.1)] [(.slice a1221x2 n1221x2 c1221x2)] [] rfl rfl (fun _ => rfl)) w' hw')) hS ?_
        refine x_p 2 (.int .i64 s1336.1) rfl (by kernel_rfl)  (fun _ => y_move rfl) (fun _ => hS) ?_
        obtain ⟨x1356, hx1356, hs⟩ := bind_some hs
        obtain ⟨b1357, o1357, hp1357, ha1357⟩ := rs_idx Sl25 Sz3 hv1221x2 hx1356
        refine x_p 3 (.pointer (some ⟨b1357, o1357, none⟩)) rfl (by kernel_rfl)  (fun _ => hp1357 _ _ _ _ _ _ _ _ _ rfl rfl) (fun _ => hS) ?_
        refine x_l 4 (.int .i64 x1356) rfl (by kernel_rfl)  (fun w' hw' => y_load rfl ((at_load_int Ag3 Sz3 ha1357) w' hw')) hS ?_
        refine x_p 5 (.int .i64 n) rfl (by kernel_rfl)  (fun _ => y_move rfl) (fun _ => hS) ?_
        refine x_p 6 (.int .i64 (w64 (x1356 * n))) rfl (by kernel_rfl)  (fun _ => y_mul rfl rfl) (fun _ => hS) ?_
        refine x_p 7 (.pointer (some ⟨g1223, 1, none⟩)) rfl (by kernel_rfl)  (fun _ => y_faddr rfl Fa36x1) (fun _ => hS) ?_
        refine x_l 8 (.slice a1221x2 n1221x2 c1221x2) rfl (by kernel_rfl)  (fun w' hw' => y_load rfl ((box_load Ag25 Sz25 hb1224 [(.int .i64 x1215.1)] [(.slice a1221x2 n1221x2 c1221x2)] [] rfl rfl (fun _ => rfl)) w' hw')) hS ?_
        refine x_p 9 (.int .i64 s1336.2) rfl (by kernel_rfl)  (fun _ => y_move rfl) (fun _ => hS) ?_
        obtain ⟨x1358, hx1358, hs⟩ := bind_some hs
        obtain ⟨b1359, o1359, hp1359, ha1359⟩ := rs_idx Sl25 Sz3 hv1221x2 hx1358
        refine x_p 10 (.pointer (some ⟨b1359, o1359, none⟩)) rfl (by kernel_rfl)  (fun _ => hp1359 _ _ _ _ _ _ _ _ _ rfl rfl) (fun _ => hS) ?_
        refine x_l 11 (.int .i64 x1358) rfl (by kernel_rfl)  (fun w' hw' => y_load rfl ((at_load_int Ag3 Sz3 ha1359) w' hw')) hS ?_
        refine x_p 12 (.int .i64 (w64 ((w64 (x1356 * n)) + x1358))) rfl (by kernel_rfl)  (fun _ => y_add rfl rfl) (fun _ => hS) ?_
        refine x_p 13 (.int .i64 (w64 ((w64 (x1356 * n)) + x1358))) rfl (by kernel_rfl)  (fun _ => y_assign rfl) (fun _ => hS) ?_
        refine x_end (by kernel_rfl) ?_
        clear hS
        refine c_seq (c_region ?_)
        refine pl_val (.slice pa1 pn1 pc1) (y_move rfl) ?_
        refine pl_val (.int .i64 (w64 ((w64 (x1356 * n)) + x1358))) (y_move rfl) ?_
        obtain ⟨x1360, hx1360, hs⟩ := bind_some hs
        obtain ⟨g1361, f1361, hg1361, hk1361, hp1361, ha1361, hf1361⟩ := os_idx Sl86 Sz4 hv1320 hx1360
        refine pl_val (.pointer (some ⟨g1361, 0 + Int.toNat (w64 ((w64 (x1356 * n)) + x1358)) * 1, none⟩)) (hp1361 _ _ _ _ _ _ _ _ _ rfl rfl) ?_
        refine pl_val (.bool x1360) (y_load rfl ((at_load_bool Ag4 Sz4 ha1361) _ (Chg.refl _ _))) ?_
        refine pl_val (.bool (!x1360)) (y_not rfl) ?_
        refine c_nil ?_
        rcases bif_some hs with ⟨hc1362, hs⟩ | ⟨hc1362, hs⟩
        ·skip
         refine c_condT (congrArg Value.bool hc1362) ?_
         refine c_seq (c_region ?_)
         refine pl_val (.slice pa1 pn1 pc1) (y_move rfl) ?_
         refine pl_val (.int .i64 (w64 ((w64 (x1356 * n)) + x1358))) (y_move rfl) ?_
         obtain ⟨x1363, hx1363, hs⟩ := bind_some hs
         obtain ⟨g1364, f1364, hg1364, hk1364, hp1364, ha1364, hf1364⟩ := os_idx Sl86 Sz4 hv1320 hx1363
         refine pl_val (.pointer (some ⟨g1364, 0 + Int.toNat (w64 ((w64 (x1356 * n)) + x1358)) * 1, none⟩)) (hp1364 _ _ _ _ _ _ _ _ _ rfl rfl) ?_
         have hO := hO.fr3
         obtain ⟨w1365, f1365, hst1365, hC1365, hf1365, hv1365⟩ := os_store (P := Try.prog) (c' := [(.bool true)]) hg1364 hv1320 hk1364 (fun g hg => hO.inM g (os_block hv1320 g (by simpa using hg))) ⟨rfl, rfl⟩ List.nodup_nil (fun _ h => nomatch h) (fun _ h => .inl h)
         have hG1365 : ∀ q ∈ [g1364], q ∈ f1320 := fun q hq => os_block hv1320 q (by rw [hg1364]; exact hq)
         refine pl_skip (w' := w1365) (ys_store rfl rfl (hst1365 _ _ rfl Sz4)) ?_
         have h0 := h0.mut hC1365 (fun g hg => hO.inM g (hG1365 g hg)) (fun _ _ h => nomatch h)
         have hv916x0 := hv916x0.mut hC1365 (fun g hg => hO.inM g (hG1365 g hg)) (fun g hg e => hO.apart g (hG1365 g hg) (mem_r (mem_r (mem_l (e)))))
         have hv1221x2 := hv1221x2.mut hC1365 (fun g hg => hO.inM g (hG1365 g hg)) (fun _ _ h => nomatch h)
         have hb1224 := hb1224.chg hC1365 (fun hg => hO.apart _ (hG1365 _ hg) (mem_r (mem_l (List.mem_singleton.2 rfl))))
         have hv1325x0 := hv1325x0.mut hC1365 (fun g hg => hO.inM g (hG1365 g hg)) (fun g hg e => hO.apart g (hG1365 g hg) (mem_l (e)))
         have hC := hC.step hC1365 (fun g hg => hO.inN g (hG1365 g hg))
         have hO := hO.grow hC1365 (fun q hq => .inl ((hf1365 q hq).resolve_right (fun h => nomatch h))) (os_nodup hv1365) hv1365.fpl
         refine c_nil ?_
         refine c_region ?_
         refine pl_val (.bool true) (y_assign rfl) ?_
         refine c_nil ?_
         refine c_region ?_
         refine pl_val (.int .i64 s1314.2.1) (y_move rfl) ?_
         refine pl_val (.int .i64 (w64 (s1314.2.1 + 1))) (y_add rfl rfl) ?_
         refine pl_val (.int .i64 (w64 (s1314.2.1 + 1))) (y_assign rfl) ?_
         refine c_nil ?_
         cases hs
         have hO := hO.fr1
         have hO := hO.drop
         have hO := hO.fr2
         have hO := hO.fr2
         exact ⟨_, f1365, fr_ovl 90 ⟨rfl, rfl, rfl, rfl, rfl, rfl, rfl, rfl, rfl, rfl, trivial⟩, hC, hO, h0, hv1365, hv916x0, hv1221x2, hb1224⟩
        ·skip
         refine c_condF (congrArg Value.bool hc1362) ?_
         refine wp_skip ?_
         refine c_region ?_
         refine pl_val (.int .i64 s1314.2.1) (y_move rfl) ?_
         refine pl_val (.int .i64 (w64 (s1314.2.1 + 1))) (y_add rfl rfl) ?_
         refine pl_val (.int .i64 (w64 (s1314.2.1 + 1))) (y_assign rfl) ?_
         refine c_nil ?_
         cases hs
         have hO := hO.drop
         have hO := hO.fr2
         have hO := hO.fr2
         have hO := hO.fr2
         exact ⟨_, f1320, fr_ovl 90 ⟨rfl, rfl, rfl, rfl, rfl, rfl, rfl, rfl, rfl, rfl, trivial⟩, hC, hO, h0, hv1320, hv916x0, hv1221x2, hb1224⟩
     ·skip
      refine c_condF (congrArg Value.bool hc1324) ?_
      refine wp_exit ?_
      cases hs
      have hO := hO.fr2
      have hO := hO.fr2
      have hO := hO.fr2
      exact ⟨rfl, _, f1320, fr_ovl 90 ⟨rfl, rfl, rfl, rfl, rfl, rfl, rfl, rfl, trivial⟩, hC, hO, h0, hv1320, hv916x0, hv1221x2, hb1224⟩
    ·skip
     have hO := hO.fr2
     have hO := hO.fr2
     have hO := hO.fr2
     exact ⟨_, f1218, fr_ovl 90 ⟨rfl, rfl, rfl, rfl, rfl, rfl, rfl, rfl, rfl, rfl, trivial⟩, hC, hO, h0, hv1218, hv916x0, hv1221x2, hb1224⟩
    ·cases o1318 with
     | nx _ => exact True.intro
     | rt r_ =>
      have hs := after_rt hs
      intro a1 w1 hK
      cases hs
      exact hK
     | br s1314 =>
      have hs := after_br hs
      rintro a1 w1315 ⟨σ, f1321, rfl, hC, hO, h0, hv1321, hv916x0, hv1221x2, hb1224⟩
      refine c_region ?_
      refine pl_val (.int .i64 (w64 ((k1214 : Int) + 1))) (y_add rfl rfl) ?_
      refine pl_val (.int .i64 (w64 ((k1214 : Int) + 1))) (y_move rfl) ?_
      refine c_nil ?_
      cases hs
      have hO := hO.drop
      have hO := hO.fr1
      have hO := hO.fr1
      exact ⟨_, rfl, drop_cons_next hd, _, f1321, fr_ovl 90 ⟨rfl, rfl, rfl, rfl, rfl, rfl, rfl, congrArg (Value.int .i64) (w64_succ hlt (Int.natCast_nonneg _) (rs_max h0)), trivial⟩, hC, hO, h0, hv1321, hv916x0⟩
   ·skip
    have hO := hO.fr1
    have hO := hO.fr1
    exact ⟨0, rfl, rfl, _, f913, fr_ovl 90 ⟨rfl, rfl, rfl, rfl, rfl, rfl, rfl, rfl, trivial⟩, hC, hO, h0, hv913, hv916x0⟩
   ·cases o1216 with
    | nx _ => exact True.intro
    | rt r_ =>
     have hs := after_rt hs
     intro a1 w1 hK
     cases hs
     exact hK
    | br s1212 =>
     have hs := after_br hs
     rintro a1 w1213 ⟨σ, f1219, rfl, hC, hO, h0, hv1219, hv916x0⟩
     cases hs
     have hO := hO.drop
     exact ⟨_, f1219, fr_ovl 90 ⟨rfl, rfl, rfl, rfl, trivial⟩, hC, hO, h0, hv1219⟩
  ·skip
   refine c_condF (congrArg Value.bool hc915) ?_
   refine wp_exit ?_
   cases hs
   exact ⟨rfl, _, f913, fr_ovl 90 ⟨rfl, trivial⟩, hC, hO, h0, hv913⟩
 ·skip
  exact ⟨_, pf1, fr_ovl 90 ⟨rfl, rfl, rfl, rfl, trivial⟩, hC, hO, h0, h1⟩
 ·cases o911 with
  | nx _ => exact True.intro
  | rt r_ =>
   have hs := after_rt hs
   intro a1 w1 hK
   cases hs
   exact hK
  | br s907 =>
   have hs := after_br hs
   rintro a1 w908 ⟨σ, f914, rfl, hC, hO, h0, hv914⟩
   refine c_seq (c_region ?_)
   refine pl_val (.slice pa1 pn1 pc1) (y_move rfl) ?_
   refine pl_val (.slice pa1 pn1 pc1) (y_assign rfl) ?_
   refine c_nil ?_
   refine wp_ret ?_
   cases hs
   exact ⟨_, pa1, pn1, pc1, f914, fr_ovl 90 ⟨rfl, trivial⟩, hC, hv914, hO.top⟩

theorem Rw102 : RowT Try.prog 102 5 1 [(.int .u8 0)] := ⟨Try.underlying102, ⟨_, _, rfl, rfl, rfl, rfl, by decide⟩, rfl, by decide⟩

def k_impl_keyOf (M : Nat → Prop) (w0 : World) (r : ByteArray) (a : Act) (w : World) : Prop :=
  ∃ (σ : Nat → Value) , a = fr 27 (ovl σ [(2, (.string r))]) ∧ Chg [] w0 w
def s_impl_keyOf (list : List Int) : Option (ByteArray) :=
  (mkc 0 (w64 (2 * (list.length : Int)))).bind fun u3 =>
  (forR (S := (List Int)) (R := ByteArray) (fun _ x16 s13 =>
  (app s13 ([IntKind.u8.wrap (ishr .i64 x16 8), IntKind.u8.wrap x16])).bind fun y27 =>
  some (.nx y27)) 0 list (List.replicate (Int.toNat 0) (0 : Int))).bind fun o17 => after o17 (fun r_ => some r_) (fun s13 =>
  some (bstr s13))
set_option maxHeartbeats 4000000 in
theorem c_impl_keyOf {M : Nat → Prop} {w : World} {pa0 : Option Addr} {pn0 pc0 : Nat} (list : List Int) (h0 : (RT.rs (RT.int .i64)).val M w (.slice pa0 pn0 pc0) list ([])) (hM : ∀ g, w.heap.size ≤ g → M g) {r : ByteArray} (hs : s_impl_keyOf list = some r) :
    Gives Try.prog 68 [(.slice pa0 pn0 pc0)] w (fun v w' => v = (.string r) ∧ Chg [] w w') := by
 refine calls_fr Try.func68 rfl Try.ntmps68 (Nat.le_of_ble_eq_true rfl) ?_
 have hO := Own.start (N := Nw w []) hM Nw.fut
 have hC := Chg.refl [] w
 unfold s_impl_keyOf at hs
 refine wp_mono (Q := KPost (k_impl_keyOf M w r)) ?_ (fun e a w1 h => ?_)
 rotate_left
 ·cases e
  case ret =>
   obtain ⟨σ, rfl, hrest⟩ := h
   exact ret1x Try.results68 (res_tmp rfl) ⟨rfl, hrest⟩
  all_goals exact (h : False).elim
 refine c_seq (c_region ?_)
 refine pl_val (.string ByteArray.empty) (y_assign rfl) ?_
 refine c_nil ?_
 refine c_seq (c_region ?_)
 refine pl_val (.slice pa0 pn0 pc0) (y_move rfl) ?_
 refine pl_val (.int .i64 (list.length : Int)) (y_len' Sl25 (rs_len h0) rfl) ?_
 refine pl_val (.int .i64 (w64 (2 * (list.length : Int)))) (y_mul rfl rfl) ?_
 obtain ⟨u3, hu3, hs⟩ := bind_some hs
 obtain ⟨a2, n2, c2, w2, f2, hm2, hC2, hfr2, hv2⟩ := mk_cap (M := M) (w := w) (r := (RT.int .u8)) (x := (0 : Int)) Rw102 hu3 (fun _ _ => ⟨rfl, rfl⟩)
 refine pl_val (w' := w2) (.slice a2 n2 c2) (y_make rfl rfl hm2) ?_
 have h0 := h0.ext hC2
 have hC := hC.ext hC2
 have hO := hO.new hC2 hfr2 (os_nodup hv2) hv2.fpl
 refine pl_val (.slice a2 n2 c2) (y_assign rfl) ?_
 refine c_nil ?_
 refine c_seq ?_
 refine c_seq (c_region ?_)
 refine pl_val (.slice pa0 pn0 pc0) (y_move rfl) ?_
 refine pl_val (.int .i64 (list.length : Int)) (y_len' Sl25 (rs_len h0) rfl) ?_
 refine pl_val (.int .i64 0) (y_move rfl) ?_
 refine c_nil ?_
 obtain ⟨o17, hl18, hs⟩ := bind_some hs
 refine wp_block ?_
 refine wp_forR (id := 0) (I := fun i_ xs_ s13 a w14 => ∃ k15 : Nat, i_ = (k15 : Int) ∧ List.drop k15 list = xs_ ∧ (∃ (σ : Nat → Value) (a19 : Option Addr) (n19 : Nat) (c19 : Nat) (f19 : List Nat), a = fr 27 (ovl σ [(3, (.slice a19 n19 c19)), (10, (.slice pa0 pn0 pc0)), (11, (.int .i64 (list.length : Int))), (12, (.int .i64 (k15 : Int)))]) ∧ Chg [] w w14 ∧ Own (Nw w []) M w14 (f19 ++ []) ∧ (RT.rs (RT.int .i64)).val M w14 (.slice pa0 pn0 pc0) list ([]) ∧ (RT.os 5 (RT.int .u8)).val M w14 (.slice a19 n19 c19) s13 f19)) (J := fun s13 a w14 => ∃ (σ : Nat → Value) (a21 : Option Addr) (n21 : Nat) (c21 : Nat) (f21 : List Nat), a = fr 27 (ovl σ [(3, (.slice a21 n21 c21))]) ∧ Chg [] w w14 ∧ Own (Nw w []) M w14 (f21 ++ []) ∧ (RT.rs (RT.int .i64)).val M w14 (.slice pa0 pn0 pc0) list ([]) ∧ (RT.os 5 (RT.int .u8)).val M w14 (.slice a21 n21 c21) s13 f21) (K := (k_impl_keyOf M w)) ?_ ?_ list 0 (List.replicate (Int.toNat 0) (0 : Int)) o17 _ _ ?_ hl18 ?_
 ·rintro _ s13 a w14 ⟨k15, rfl, hd, σ, a19, n19, c19, f19, rfl, hC, hO, h0, hv19⟩
  have hlt := drop_nil_ge hd
  refine c_seq (c_region ?_)
  refine pl_val (.bool (decide ((k15 : Int) < (list.length : Int)))) (y_lss rfl rfl) ?_
  refine c_nil ?_
  refine c_seq ?_
  refine c_condF (congrArg Value.bool (decide_eq_false hlt)) ?_
  refine wp_exit ?_
  exact ⟨rfl, _, a19, n19, c19, f19, fr_ovl 27 ⟨rfl, trivial⟩, hC, hO, h0, hv19⟩
 ·rintro _ x16 xs_ s13 o17 a w14 ⟨k15, rfl, hd, σ, a19, n19, c19, f19, rfl, hC, hO, h0, hv19⟩ hs
  have hlt := drop_cons_lt hd
  have hxk15 := drop_cons_idx hd
  refine c_seq (c_region ?_)
  refine pl_val (.bool (decide ((k15 : Int) < (list.length : Int)))) (y_lss rfl rfl) ?_
  refine c_nil ?_
  refine c_seq ?_
  refine c_condT (congrArg Value.bool (decide_eq_true hlt)) ?_
  refine wp_skip ?_
  refine c_seq ?_
  refine wp_block ?_
  refine c_seq (c_region ?_)
  obtain ⟨b23, o23, hp23, ha23⟩ := rs_idx Sl25 Sz3 h0 hxk15
  refine pl_val (.pointer (some ⟨b23, o23, none⟩)) (hp23 _ _ _ _ _ _ _ _ _ rfl rfl) ?_
  refine pl_val (.int .i64 x16) (y_load rfl ((at_load_int Ag3 Sz3 ha23) _ (Chg.refl _ _))) ?_
  refine pl_val (.int .i64 x16) (y_assign rfl) ?_
  refine c_nil ?_
  refine c_region ?_
  refine pl_val (.slice a19 n19 c19) (y_move rfl) ?_
  refine pl_val (.int .i64 x16) (y_move rfl) ?_
  refine pl_val (.int .i64 (ishr .i64 x16 8)) (y_shr rfl rfl (by decide)) ?_
  refine pl_val (.int .u8 (IntKind.u8.wrap (ishr .i64 x16 8))) (y_conv_int Try.underlying3 Try.underlying5 rfl) ?_
  refine pl_val (.int .i64 x16) (y_move rfl) ?_
  refine pl_val (.int .u8 (IntKind.u8.wrap x16)) (y_conv_int Try.underlying3 Try.underlying5 rfl) ?_
  obtain ⟨w24, g24, ew24, eg24, hC24, hb24⟩ := new_block w14 [(.int .u8 (IntKind.u8.wrap (ishr .i64 x16 8))), (.int .u8 (IntKind.u8.wrap x16))] 5
  refine pl_val (w' := w24) (.slice (some ⟨g24, 0, none⟩) 2 2) (y_bslice rfl (by rw [ew24, eg24]; kernel_rfl)) ?_
  have h0 := h0.ext hC24
  have hv19 := hv19.ext hC24
  have hC := hC.ext hC24
  have hO := hO.new1 hC24 eg24 hb24.lt
  have hv24 := os_of_box (r := (RT.int .u8)) (M := M) (css := [[(.int .u8 (IntKind.u8.wrap (ishr .i64 x16 8)))], [(.int .u8 (IntKind.u8.wrap x16))]]) (fps := [([] : List Nat), ([] : List Nat)]) (xs := ([IntKind.u8.wrap (ishr .i64 x16 8), IntKind.u8.wrap x16] : List Int)) hb24 ⟨⟨rfl, rfl⟩, ⟨⟨rfl, rfl⟩, trivial⟩⟩ (Nat.le_of_ble_eq_true rfl) (List.nodup_cons.2 ⟨(fun h => nomatch h), List.nodup_nil⟩)
  have hv24 : (RT.os 5 (RT.int .u8)).val M w24 (.slice (some ⟨g24, 0, none⟩) 2 2) [IntKind.u8.wrap (ishr .i64 x16 8), IntKind.u8.wrap x16] [g24] := hv24
  obtain ⟨y27, hy27, hs⟩ := bind_some hs
  have hO := hO.fr1
  obtain ⟨a26, n26, c26, w26, f26, hr26, hC26, hf26, hv26⟩ := app_os Rw102 hy27 hv19 hv24 hO.inM (fun g hg hq => hO.apart g hq (mem_l hg))
  have hG26 := os_block hv19
  refine pl_val (w' := w26) (.slice a26 n26 c26) (y_append rfl rfl (hr26 _)) ?_
  have hO := hO.fr1
  have hO := hO.fr1
  have h0 := h0.mut hC26 (fun g hg => hO.inM g (hG26 g hg)) (fun _ _ h => nomatch h)
  have hC := hC.step hC26 (fun g hg => hO.inN g (hG26 g hg))
  have hO := hO.eat hC26 hf26 (os_nodup hv26) hv26.fpl
  refine pl_val (.slice a26 n26 c26) (y_assign rfl) ?_
  refine c_nil ?_
  refine c_region ?_
  refine pl_val (.int .i64 (w64 ((k15 : Int) + 1))) (y_add rfl rfl) ?_
  refine pl_val (.int .i64 (w64 ((k15 : Int) + 1))) (y_move rfl) ?_
  refine c_nil ?_
  cases hs
  exact ⟨_, rfl, drop_cons_next hd, _, a26, n26, c26, f26, fr_ovl 27 ⟨rfl, rfl, rfl, congrArg (Value.int .i64) (w64_succ hlt (Int.natCast_nonneg _) (rs_max h0)), trivial⟩, hC, hO, h0, hv26⟩
 ·skip
  exact ⟨0, rfl, rfl, _, a2, n2, c2, f2, fr_ovl 27 ⟨rfl, rfl, rfl, rfl, trivial⟩, hC, hO, h0, hv2⟩
 ·cases o17 with
  | nx _ => exact True.intro
  | rt r_ =>
   have hs := after_rt hs
   intro a1 w1 hK
   cases hs
   exact hK
  | br s13 =>
   have hs := after_br hs
   rintro a1 w14 ⟨σ, a21, n21, c21, f21, rfl, hC, hO, h0, hv21⟩
   refine c_seq (c_region ?_)
   refine pl_val (.slice a21 n21 c21) (y_move rfl) ?_
   refine pl_val (.string (bstr s13)) (y_str Try.underlying102 Try.underlying9 Try.underlying5 hv21 rfl) ?_
   refine pl_val (.string (bstr s13)) (y_assign rfl) ?_
   refine c_nil ?_
   refine wp_ret ?_
   cases hs
   exact ⟨_, fr_ovl 27 ⟨rfl, trivial⟩, hC⟩

def k_impl_hasNot (M : Nat → Prop) (w0 : World) (r : Bool) (a : Act) (w : World) : Prop :=
  ∃ (σ : Nat → Value) , a = fr 17 (ovl σ [(4, (.bool r))]) ∧ Chg [] w0 w
def s_impl_hasNot (list : List Int) (x_ : Int) : Option (Bool) :=
  (forR (S := Unit) (R := Bool) (fun _ x7 s4 =>
  (bif (x_ == x7) then some (.rt false) else some (.nx ()))) 0 list ()).bind fun o8 => after o8 (fun r_ => some r_) (fun s4 =>
  some true)
set_option maxHeartbeats 4000000 in
theorem c_impl_hasNot {M : Nat → Prop} {w : World} {pa0 : Option Addr} {pn0 pc0 : Nat} (list : List Int) (x_ : Int) (h0 : (RT.rs (RT.int .i64)).val M w (.slice pa0 pn0 pc0) list ([])) (hM : ∀ g, w.heap.size ≤ g → M g) {r : Bool} (hs : s_impl_hasNot list x_ = some r) :
    Gives Try.prog 75 [(.slice pa0 pn0 pc0), (.int .i64 x_)] w (fun v w' => v = (.bool r) ∧ Chg [] w w') := by
 refine calls_fr Try.func75 rfl Try.ntmps75 (Nat.le_of_ble_eq_true rfl) ?_
 have hO := Own.start (N := Nw w []) hM Nw.fut
 have hC := Chg.refl [] w
 unfold s_impl_hasNot at hs
 refine wp_mono (Q := KPost (k_impl_hasNot M w r)) ?_ (fun e a w1 h => ?_)
 rotate_left
 ·cases e
  case ret =>
   obtain ⟨σ, rfl, hrest⟩ := h
   exact ret1x Try.results75 (res_tmp rfl) ⟨rfl, hrest⟩
  all_goals exact (h : False).elim
 refine c_seq (c_region ?_)
 refine pl_val (.bool false) (y_assign rfl) ?_
 refine c_nil ?_
 refine c_seq ?_
 refine c_seq (c_region ?_)
 refine pl_val (.slice pa0 pn0 pc0) (y_move rfl) ?_
 refine pl_val (.int .i64 (list.length : Int)) (y_len' Sl25 (rs_len h0) rfl) ?_
 refine pl_val (.int .i64 0) (y_move rfl) ?_
 refine c_nil ?_
 obtain ⟨o8, hl9, hs⟩ := bind_some hs
 refine wp_block ?_
 refine wp_forR (id := 0) (I := fun i_ xs_ s4 a w5 => ∃ k6 : Nat, i_ = (k6 : Int) ∧ List.drop k6 list = xs_ ∧ (∃ (σ : Nat → Value), a = fr 17 (ovl σ [(1, (.int .i64 x_)), (7, (.slice pa0 pn0 pc0)), (8, (.int .i64 (list.length : Int))), (9, (.int .i64 (k6 : Int)))]) ∧ Chg [] w w5 ∧ Own (Nw w []) M w5 ([]) ∧ (RT.rs (RT.int .i64)).val M w5 (.slice pa0 pn0 pc0) list ([]))) (J := fun s4 a w5 => ∃ (σ : Nat → Value), a = fr 17 (ovl σ []) ∧ Chg [] w w5 ∧ Own (Nw w []) M w5 ([]) ∧ (RT.rs (RT.int .i64)).val M w5 (.slice pa0 pn0 pc0) list ([])) (K := (k_impl_hasNot M w)) ?_ ?_ list 0 () o8 _ _ ?_ hl9 ?_
 ·rintro _ s4 a w5 ⟨k6, rfl, hd, σ, rfl, hC, hO, h0⟩
  have hlt := drop_nil_ge hd
  refine c_seq (c_region ?_)
  refine pl_val (.bool (decide ((k6 : Int) < (list.length : Int)))) (y_lss rfl rfl) ?_
  refine c_nil ?_
  refine c_seq ?_
  refine c_condF (congrArg Value.bool (decide_eq_false hlt)) ?_
  refine wp_exit ?_
  exact ⟨rfl, _, fr_ovl 17 trivial, hC, hO, h0⟩
 ·rintro _ x7 xs_ s4 o8 a w5 ⟨k6, rfl, hd, σ, rfl, hC, hO, h0⟩ hs
  have hlt := drop_cons_lt hd
  have hxk6 := drop_cons_idx hd
  refine c_seq (c_region ?_)
  refine pl_val (.bool (decide ((k6 : Int) < (list.length : Int)))) (y_lss rfl rfl) ?_
  refine c_nil ?_
  refine c_seq ?_
  refine c_condT (congrArg Value.bool (decide_eq_true hlt)) ?_
  refine wp_skip ?_
  refine c_seq ?_
  refine wp_block ?_
  refine c_seq (c_region ?_)
  obtain ⟨b10, o10, hp10, ha10⟩ := rs_idx Sl25 Sz3 h0 hxk6
  refine pl_val (.pointer (some ⟨b10, o10, none⟩)) (hp10 _ _ _ _ _ _ _ _ _ rfl rfl) ?_
  refine pl_val (.int .i64 x7) (y_load rfl ((at_load_int Ag3 Sz3 ha10) _ (Chg.refl _ _))) ?_
  refine pl_val (.int .i64 x7) (y_assign rfl) ?_
  refine c_nil ?_
  refine c_seq (c_region ?_)
  refine pl_val (.int .i64 x_) (y_move rfl) ?_
  refine pl_val (.int .i64 x7) (y_move rfl) ?_
  refine pl_val (.bool (x_ == x7)) (y_eql rfl rfl) ?_
  refine c_nil ?_
  rcases bif_some hs with ⟨hc11, hs⟩ | ⟨hc11, hs⟩
  ·skip
   refine c_condT (congrArg Value.bool hc11) ?_
   refine c_seq (c_region ?_)
   refine pl_val (.bool false) (y_assign rfl) ?_
   refine c_nil ?_
   refine wp_ret ?_
   cases hs
   exact ⟨_, fr_ovl 17 ⟨rfl, trivial⟩, hC⟩
  ·skip
   refine c_condF (congrArg Value.bool hc11) ?_
   refine wp_skip ?_
   refine c_region ?_
   refine pl_val (.int .i64 (w64 ((k6 : Int) + 1))) (y_add rfl rfl) ?_
   refine pl_val (.int .i64 (w64 ((k6 : Int) + 1))) (y_move rfl) ?_
   refine c_nil ?_
   cases hs
   exact ⟨_, rfl, drop_cons_next hd, _, fr_ovl 17 ⟨rfl, rfl, rfl, congrArg (Value.int .i64) (w64_succ hlt (Int.natCast_nonneg _) (rs_max h0)), trivial⟩, hC, hO, h0⟩
 ·skip
  exact ⟨0, rfl, rfl, _, fr_ovl 17 ⟨rfl, rfl, rfl, rfl, trivial⟩, hC, hO, h0⟩
 ·cases o8 with
  | nx _ => exact True.intro
  | rt r_ =>
   have hs := after_rt hs
   intro a1 w1 hK
   cases hs
   exact hK
  | br s4 =>
   have hs := after_br hs
   rintro a1 w5 ⟨σ, rfl, hC, hO, h0⟩
   refine c_seq (c_region ?_)
   refine pl_val (.bool true) (y_assign rfl) ?_
   refine c_nil ?_
   refine wp_ret ?_
   cases hs
   exact ⟨_, fr_ovl 17 ⟨rfl, trivial⟩, hC⟩

theorem Rw86 : RowT Try.prog 86 4 1 [(.bool false)] := ⟨Try.underlying86, ⟨_, _, rfl, rfl, rfl, rfl, by decide⟩, rfl, by decide⟩

def k_impl_marks (M : Nat → Prop) (w0 : World) (r : (List Bool)) (a : Act) (w : World) : Prop :=
  ∃ (σ : Nat → Value) (ra0 : Option Addr) (rn0 rc0 : Nat) (rf0 : List Nat), a = fr 21 (ovl σ [(4, (.slice ra0 rn0 rc0))]) ∧ Chg [] w0 w ∧ (RT.os 4 RT.bool).val M w (.slice ra0 rn0 rc0) r rf0 ∧ Own (Nw w0 []) (fun _ => True) w (rf0 ++ ([]))
def s_impl_marks (list : List Int) (n : Int) : Option ((List Bool)) :=
  (mks n (false : Bool)).bind fun y3 =>
  (forR (S := (List Bool)) (R := (List Bool)) (fun _ x17 s14 =>
  (idx s14 x17).bind fun x23 =>
  some (.nx (List.set s14 (Int.toNat x17) true))) 0 list y3).bind fun o18 => after o18 (fun r_ => some r_) (fun s14 =>
  some s14)
set_option maxHeartbeats 4000000 in
theorem c_impl_marks {M : Nat → Prop} {w : World} {pa0 : Option Addr} {pn0 pc0 : Nat} (list : List Int) (n : Int) (h0 : (RT.rs (RT.int .i64)).val M w (.slice pa0 pn0 pc0) list ([])) (hM : ∀ g, w.heap.size ≤ g → M g) {r : (List Bool)} (hs : s_impl_marks list n = some r) :
    Gives Try.prog 76 [(.slice pa0 pn0 pc0), (.int .i64 n)] w (fun v w' => ∃ (ra0 : Option Addr) (rn0 rc0 : Nat) (rf0 : List Nat), v = (.slice ra0 rn0 rc0) ∧ Chg [] w w' ∧ (RT.os 4 RT.bool).val M w' (.slice ra0 rn0 rc0) r rf0 ∧ Own (Nw w []) (fun _ => True) w' (rf0 ++ ([]))) := by
 refine calls_fr Try.func76 rfl Try.ntmps76 (Nat.le_of_ble_eq_true rfl) ?_
 have hO := Own.start (N := Nw w []) hM Nw.fut
 have hC := Chg.refl [] w
 unfold s_impl_marks at hs
 refine wp_mono (Q := KPost (k_impl_marks M w r)) ?_ (fun e a w1 h => ?_)
 rotate_left
 ·cases e
  case ret =>
   obtain ⟨σ, ra0, rn0, rc0, rf0, rfl, hrest⟩ := h
   exact ret1x Try.results76 (res_tmp rfl) ⟨ra0, rn0, rc0, rf0, rfl, hrest⟩
  all_goals exact (h : False).elim
 refine c_seq (c_region ?_)
 refine pl_val (.slice none 0 0) (y_assign rfl) ?_
 refine c_nil ?_
 refine c_seq (c_region ?_)
 refine pl_val (.int .i64 n) (y_move rfl) ?_
 obtain ⟨y3, hy3, hs⟩ := bind_some hs
 obtain ⟨a2, n2, c2, w2, f2, hm2, hC2, hfr2, hv2⟩ := mk_os (M := M) (w := w) (r := RT.bool) Rw86 hy3 (fun _ _ => ⟨rfl, rfl⟩)
 refine pl_val (w' := w2) (.slice a2 n2 c2) (y_make rfl rfl hm2) ?_
 have h0 := h0.ext hC2
 have hC := hC.ext hC2
 have hO := hO.new hC2 hfr2 (os_nodup hv2) hv2.fpl
 refine pl_val (.slice a2 n2 c2) (y_assign rfl) ?_
 refine c_nil ?_
 refine c_seq ?_
 refine c_seq (c_region ?_)
 refine pl_val (.slice pa0 pn0 pc0) (y_move rfl) ?_
 refine pl_val (.int .i64 (list.length : Int)) (y_len' Sl25 (rs_len h0) rfl) ?_
 refine pl_val (.int .i64 0) (y_move rfl) ?_
 refine c_nil ?_
 obtain ⟨o18, hl19, hs⟩ := bind_some hs
 refine wp_block ?_
 refine wp_forR (id := 0) (I := fun i_ xs_ s14 a w15 => ∃ k16 : Nat, i_ = (k16 : Int) ∧ List.drop k16 list = xs_ ∧ (∃ (σ : Nat → Value) (f20 : List Nat), a = fr 21 (ovl σ [(5, (.slice a2 n2 c2)), (10, (.slice pa0 pn0 pc0)), (11, (.int .i64 (list.length : Int))), (12, (.int .i64 (k16 : Int)))]) ∧ Chg [] w w15 ∧ Own (Nw w []) M w15 (f20 ++ []) ∧ (RT.rs (RT.int .i64)).val M w15 (.slice pa0 pn0 pc0) list ([]) ∧ (RT.os 4 RT.bool).val M w15 (.slice a2 n2 c2) s14 f20)) (J := fun s14 a w15 => ∃ (σ : Nat → Value) (f21 : List Nat), a = fr 21 (ovl σ [(5, (.slice a2 n2 c2))]) ∧ Chg [] w w15 ∧ Own (Nw w []) M w15 (f21 ++ []) ∧ (RT.rs (RT.int .i64)).val M w15 (.slice pa0 pn0 pc0) list ([]) ∧ (RT.os 4 RT.bool).val M w15 (.slice a2 n2 c2) s14 f21) (K := (k_impl_marks M w)) ?_ ?_ list 0 y3 o18 _ _ ?_ hl19 ?_
 ·rintro _ s14 a w15 ⟨k16, rfl, hd, σ, f20, rfl, hC, hO, h0, hv20⟩
  have hlt := drop_nil_ge hd
  refine c_seq (c_region ?_)
  refine pl_val (.bool (decide ((k16 : Int) < (list.length : Int)))) (y_lss rfl rfl) ?_
  refine c_nil ?_
  refine c_seq ?_
  refine c_condF (congrArg Value.bool (decide_eq_false hlt)) ?_
  refine wp_exit ?_
  exact ⟨rfl, _, f20, fr_ovl 21 ⟨rfl, trivial⟩, hC, hO, h0, hv20⟩
 ·rintro _ x17 xs_ s14 o18 a w15 ⟨k16, rfl, hd, σ, f20, rfl, hC, hO, h0, hv20⟩ hs
  have hlt := drop_cons_lt hd
  have hxk16 := drop_cons_idx hd
  refine c_seq (c_region ?_)
  refine pl_val (.bool (decide ((k16 : Int) < (list.length : Int)))) (y_lss rfl rfl) ?_
  refine c_nil ?_
  refine c_seq ?_
  refine c_condT (congrArg Value.bool (decide_eq_true hlt)) ?_
  refine wp_skip ?_
  refine c_seq ?_
  refine wp_block ?_
  refine c_seq (c_region ?_)
  obtain ⟨b22, o22, hp22, ha22⟩ := rs_idx Sl25 Sz3 h0 hxk16
  refine pl_val (.pointer (some ⟨b22, o22, none⟩)) (hp22 _ _ _ _ _ _ _ _ _ rfl rfl) ?_
  refine pl_val (.int .i64 x17) (y_load rfl ((at_load_int Ag3 Sz3 ha22) _ (Chg.refl _ _))) ?_
  refine pl_val (.int .i64 x17) (y_assign rfl) ?_
  refine c_nil ?_
  refine c_region ?_
  refine pl_val (.slice a2 n2 c2) (y_move rfl) ?_
  refine pl_val (.int .i64 x17) (y_move rfl) ?_
  obtain ⟨x23, hx23, hs⟩ := bind_some hs
  obtain ⟨g24, f24, hg24, hk24, hp24, ha24, hf24⟩ := os_idx Sl86 Sz4 hv20 hx23
  refine pl_val (.pointer (some ⟨g24, 0 + Int.toNat x17 * 1, none⟩)) (hp24 _ _ _ _ _ _ _ _ _ rfl rfl) ?_
  obtain ⟨w25, f25, hst25, hC25, hf25, hv25⟩ := os_store (P := Try.prog) (c' := [(.bool true)]) hg24 hv20 hk24 (fun g hg => hO.inM g (os_block hv20 g (by simpa using hg))) ⟨rfl, rfl⟩ List.nodup_nil (fun _ h => nomatch h) (fun _ h => .inl h)
  have hG25 : ∀ q ∈ [g24], q ∈ f20 := fun q hq => os_block hv20 q (by rw [hg24]; exact hq)
  refine pl_skip (w' := w25) (ys_store rfl rfl (hst25 _ _ rfl Sz4)) ?_
  have h0 := h0.mut hC25 (fun g hg => hO.inM g (hG25 g hg)) (fun _ _ h => nomatch h)
  have hC := hC.step hC25 (fun g hg => hO.inN g (hG25 g hg))
  have hO := hO.grow hC25 (fun q hq => .inl ((hf25 q hq).resolve_right (fun h => nomatch h))) (os_nodup hv25) hv25.fpl
  refine c_nil ?_
  refine c_region ?_
  refine pl_val (.int .i64 (w64 ((k16 : Int) + 1))) (y_add rfl rfl) ?_
  refine pl_val (.int .i64 (w64 ((k16 : Int) + 1))) (y_move rfl) ?_
  refine c_nil ?_
  cases hs
  exact ⟨_, rfl, drop_cons_next hd, _, f25, fr_ovl 21 ⟨rfl, rfl, rfl, congrArg (Value.int .i64) (w64_succ hlt (Int.natCast_nonneg _) (rs_max h0)), trivial⟩, hC, hO, h0, hv25⟩
 ·skip
  exact ⟨0, rfl, rfl, _, f2, fr_ovl 21 ⟨rfl, rfl, rfl, rfl, trivial⟩, hC, hO, h0, hv2⟩
 ·cases o18 with
  | nx _ => exact True.intro
  | rt r_ =>
   have hs := after_rt hs
   intro a1 w1 hK
   cases hs
   exact hK
  | br s14 =>
   have hs := after_br hs
   rintro a1 w15 ⟨σ, f21, rfl, hC, hO, h0, hv21⟩
   refine c_seq (c_region ?_)
   refine pl_val (.slice a2 n2 c2) (y_move rfl) ?_
   refine pl_val (.slice a2 n2 c2) (y_assign rfl) ?_
   refine c_nil ?_
   refine wp_ret ?_
   cases hs
   exact ⟨_, a2, n2, c2, f21, fr_ovl 21 ⟨rfl, trivial⟩, hC, hv21, hO.top⟩

theorem Fa122x0 : ∀ (a : Addr) (w : World), (Instr.fieldAt 122 (.pointer (some a)) 0).run Try.prog w = .ok (.pointer (some (a.add 0))) w := fun _ _ => by kernel_rfl

theorem Ag111 : AggT Try.prog 111 false := fun _ => by kernel_rfl

theorem Sz111 : SzT Try.prog 111 1 := ⟨_, rfl, rfl⟩

theorem Fa122x1 : ∀ (a : Addr) (w : World), (Instr.fieldAt 122 (.pointer (some a)) 1).run Try.prog w = .ok (.pointer (some (a.add 1))) w := fun _ _ => by kernel_rfl

theorem Ag118 : AggT Try.prog 118 false := fun _ => by kernel_rfl

theorem Sz118 : SzT Try.prog 118 1 := ⟨_, rfl, rfl⟩

def k_sort_insertionSort_func (M : Nat → Prop) (w0 : World) {α_ : Type} (I_ : World → List α_ → Prop) (G_ : List Nat) (r : (List α_)) (a : Act) (w : World) : Prop :=
  ∃ (σ : Nat → Value) , a = fr 35 (ovl σ []) ∧ Chg (G_ ++ ([])) w0 w ∧ I_ w r
def s_sort_insertionSort_func {α_ : Type} (ls_ : α_ → α_ → Option Bool) (d_ : List α_) (a_ : Int) (b : Int) : Option ((List α_)) :=
  (forC (S := (List α_)) (R := (List α_)) (fun k78 s76 =>
  (iter (S := Int × (List α_)) (R := (List α_)) (fun s103 =>
  ((bif (decide (a_ < s103.1)) then (lsx ls_ s103.2 s103.1 (w64 (s103.1 - 1))).bind fun r116 =>
  some r116 else some false)).bind fun s111 =>
  (bif s111 then (swx s103.2 s103.1 (w64 (s103.1 - 1))).bind fun y119 =>
  some (.nx (w64 (s103.1 - 1), y119)) else some (.br (s103.1, s103.2)))) FU (k78, s76)).bind fun o107 => after o107 (fun r_ => some (.rt r_)) (fun s103 =>
  some (.nx s103.2))) (w64 (a_ + 1)) b d_).bind fun o80 => after o80 (fun r_ => some r_) (fun s76 =>
  some s76)
set_option maxHeartbeats 4000000 in
theorem c_sort_insertionSort_func {M : Nat → Prop} {w : World} {α_ : Type} {n0_ : Nat} {I_ : World → List α_ → Prop} {G_ : List Nat} {g_ sf_ : Nat} {lb_ sb_ : Array Value} (ls_ : α_ → α_ → Option Bool) (d_ : List α_) (a_ : Int) (b : Int) (hN_ : n0_ ≤ w.heap.size) (hE_ : Env Try.prog n0_ I_ G_ ls_ g_ lb_ sf_ sb_) (hI_ : I_ w d_) (hI : Own (Nw w (G_ ++ ([]))) M w (G_ ++ ([]))) (hM : ∀ g, w.heap.size ≤ g → M g) {r : (List α_)} (hs : s_sort_insertionSort_func ls_ d_ a_ b = some r) :
    Gives Try.prog 113 [(.agg #[(.func (.func g_) #[] lb_), (.func (.func sf_) #[] sb_)]), (.int .i64 a_), (.int .i64 b)] w (fun v w' => v = (.tuple #[]) ∧ Chg (G_ ++ ([])) w w' ∧ I_ w' r) := by
 refine calls_fr Try.func113 rfl Try.ntmps113 (Nat.le_of_ble_eq_true rfl) ?_
 have hO := hI
 have hC := Chg.refl (G_ ++ ([])) w
 unfold s_sort_insertionSort_func at hs
 refine wp_mono (Q := KPostN (k_sort_insertionSort_func M w I_ G_ r)) ?_ (fun e a w1 h => ?_)
 rotate_left
 ·cases e
  case ret =>
   obtain ⟨σ, rfl, hrest⟩ := h
   exact ret0x Try.results113  ⟨rfl, hrest⟩
  case normal =>
   obtain ⟨σ, rfl, hrest⟩ := h
   exact ret0n Try.results113  ⟨rfl, hrest⟩
  all_goals exact (h : False).elim
 refine c_seq (c_region ?_)
 obtain ⟨w1, g1, ew1, eg1, hC1, hb1⟩ := new_block w [(.func (.func g_) #[] lb_), (.func (.func sf_) #[] sb_)] 122
 refine pl_val (w' := w1) (.pointer (some ⟨g1, 0, none⟩)) (y_box rfl (by rw [ew1, eg1]; kernel_rfl)) ?_
 have hI_ := hE_.ext hI_ hC1 (fun _ h => nomatch h)
 have hC := hC.ext hC1
 have hO := hO.new1 hC1 eg1 hb1.lt
 refine c_nil ?_
 refine c_seq (c_region ?_)
 refine pl_val (.int .i64 a_) (y_move rfl) ?_
 refine pl_val (.int .i64 (w64 (a_ + 1))) (y_add rfl rfl) ?_
 refine pl_val (.int .i64 (w64 (a_ + 1))) (y_assign rfl) ?_
 refine c_nil ?_
 obtain ⟨o80, hl81, hs⟩ := bind_some hs
 refine wp_block ?_
 refine wp_forC (id := 0) b (I := fun k78 s76 a w77 => ∃ (σ : Nat → Value), a = fr 35 (ovl σ [(1, (.int .i64 a_)), (2, (.int .i64 b)), (3, (.pointer (some ⟨g1, 0, none⟩))), (6, (.int .i64 k78))]) ∧ Chg (G_ ++ ([])) w w77 ∧ Own (Nw w (G_ ++ ([]))) M w77 (([g1]) ++ (G_ ++ [])) ∧ I_ w77 s76 ∧ BoxV w77 g1 122 [(.func (.func g_) #[] lb_), (.func (.func sf_) #[] sb_)]) (J := fun s76 a w77 => ∃ (σ : Nat → Value), a = fr 35 (ovl σ []) ∧ Chg (G_ ++ ([])) w w77 ∧ Own (Nw w (G_ ++ ([]))) M w77 (([g1]) ++ (G_ ++ [])) ∧ I_ w77 s76 ∧ BoxV w77 g1 122 [(.func (.func g_) #[] lb_), (.func (.func sf_) #[] sb_)]) (K := (k_sort_insertionSort_func M w I_ G_)) ?_ ?_ (w64 (a_ + 1)) d_ o80 _ _ ?_ hl81 ?_
 ·rintro k78 s76 a w77 ⟨σ, rfl, hC, hO, hv82, hb1⟩ hlt
  refine c_seq ?_
  refine c_seq (c_region ?_)
  refine pl_val (.int .i64 k78) (y_move rfl) ?_
  refine pl_val (.int .i64 b) (y_move rfl) ?_
  refine pl_val (.bool (decide (k78 < b))) (y_lss rfl rfl) ?_
  refine c_nil ?_
  refine c_condF (congrArg Value.bool (decide_eq_false hlt)) ?_
  refine wp_exit ?_
  have hO := hO.fr1
  have hO := hO.fr1
  exact ⟨rfl, _, fr_ovl 35 trivial, hC, hO, hv82, hb1⟩
 ·rintro k78 s76 o80 a w77 ⟨σ, rfl, hC, hO, hv82, hb1⟩ hlt hw hs
  refine c_seq ?_
  refine c_seq (c_region ?_)
  refine pl_val (.int .i64 k78) (y_move rfl) ?_
  refine pl_val (.int .i64 b) (y_move rfl) ?_
  refine pl_val (.bool (decide (k78 < b))) (y_lss rfl rfl) ?_
  refine c_nil ?_
  refine c_condT (congrArg Value.bool (decide_eq_true hlt)) ?_
  refine wp_skip ?_
  refine c_seq ?_
  refine wp_block ?_
  refine c_seq (c_region ?_)
  refine pl_val (.int .i64 k78) (y_move rfl) ?_
  refine pl_val (.int .i64 k78) (y_assign rfl) ?_
  refine c_nil ?_
  obtain ⟨o107, hl108, hs⟩ := bind_some hs
  refine wp_block ?_
  refine wp_iter (id := 2) (I := fun s103 a w104 => ∃ (σ : Nat → Value), a = fr 35 (ovl σ [(1, (.int .i64 a_)), (2, (.int .i64 b)), (3, (.pointer (some ⟨g1, 0, none⟩))), (6, (.int .i64 k78)), (7, (.int .i64 s103.1))]) ∧ Chg (G_ ++ ([])) w w104 ∧ Own (Nw w (G_ ++ ([]))) M w104 (([g1]) ++ (G_ ++ [])) ∧ I_ w104 s103.2 ∧ BoxV w104 g1 122 [(.func (.func g_) #[] lb_), (.func (.func sf_) #[] sb_)]) (J := fun s103 a w104 => ∃ (σ : Nat → Value), a = fr 35 (ovl σ [(1, (.int .i64 a_)), (2, (.int .i64 b)), (3, (.pointer (some ⟨g1, 0, none⟩))), (6, (.int .i64 k78))]) ∧ Chg (G_ ++ ([])) w w104 ∧ Own (Nw w (G_ ++ ([]))) M w104 (([g1]) ++ (G_ ++ [])) ∧ I_ w104 s103.2 ∧ BoxV w104 g1 122 [(.func (.func g_) #[] lb_), (.func (.func sf_) #[] sb_)]) (K := (k_sort_insertionSort_func M w I_ G_)) ?_ FU (k78, s76) o107 _ _ ?_ hl108 ?_
  ·rintro s103 o107 a w104 ⟨σ, rfl, hC, hO, hv109, hb1⟩ hs
   refine c_seq ?_
   refine c_seq ?_
   obtain ⟨s111, hm113, hs⟩ := bind_some hs
   refine c_mid (I := fun a w112 => ∃ (σ : Nat → Value), a = fr 35 (ovl σ [(1, (.int .i64 a_)), (2, (.int .i64 b)), (3, (.pointer (some ⟨g1, 0, none⟩))), (6, (.int .i64 k78)), (7, (.int .i64 s103.1)), (26, (.bool s111))]) ∧ Chg [] w104 w112) ?_ ?_
   ·replace hs := hm113
    have hMid := Chg.refl [] w104
    refine c_region ?_
    refine pl_val (.int .i64 s103.1) (y_move rfl) ?_
    refine pl_val (.int .i64 a_) (y_move rfl) ?_
    refine pl_val (.bool (decide (a_ < s103.1))) (y_gtr rfl rfl) ?_
    refine pl_val (.bool (decide (a_ < s103.1))) (y_move rfl) ?_
    rcases bif_some hs with ⟨hc114, hs⟩ | ⟨hc114, hs⟩
    ·skip
     refine pl_yes (.pointer (some ⟨g1, 0, none⟩)) (tg := 19) (by kernel_rfl) (congrArg Value.bool hc114) (y_faddr rfl Fa122x0) ?_
     refine pl_yes (.func (.func g_) #[] lb_) (tg := 19) (by kernel_rfl) (congrArg Value.bool hc114) (y_load rfl ((box_load Ag111 Sz111 hb1 [] [(.func (.func g_) #[] lb_)] [(.func (.func sf_) #[] sb_)] rfl rfl (fun _ => rfl)) _ (Chg.refl _ _))) ?_
     refine pl_yes (.int .i64 s103.1) (tg := 19) (by kernel_rfl) (congrArg Value.bool hc114) (y_move rfl) ?_
     refine pl_yes (.int .i64 s103.1) (tg := 19) (by kernel_rfl) (congrArg Value.bool hc114) (y_move rfl) ?_
     refine pl_yes (.int .i64 (w64 (s103.1 - 1))) (tg := 19) (by kernel_rfl) (congrArg Value.bool hc114) (y_sub rfl rfl) ?_
     obtain ⟨r116, hr116, hs⟩ := bind_some hs
     refine pl_callby (tg := 19) (by kernel_rfl) (congrArg Value.bool hc114) rfl hE_.bod rfl (hE_.less hv109 hr116) ?_
     rintro _ w115 ⟨rfl, hC115⟩
     have hv109 := hE_.ext hv109 hC115 (fun _ h => nomatch h)
     have hb1 := hb1.chg hC115 (fun h => nomatch h)
     have hMid := hMid.ext hC115
     have hC := hC.ext hC115
     have hO := hO.ext hC115
     refine pl_val (.bool r116) (y_pick_t (congrArg Value.bool hc114) rfl) ?_
     refine c_nil ?_
     cases hs
     exact ⟨_, fr_ovl 35 ⟨rfl, rfl, rfl, rfl, rfl, rfl, trivial⟩, hMid⟩
    ·skip
     refine pl_not (tg := 19) (by kernel_rfl) (congrArg Value.bool hc114) ?_
     refine pl_not (tg := 19) (by kernel_rfl) (congrArg Value.bool hc114) ?_
     refine pl_not (tg := 19) (by kernel_rfl) (congrArg Value.bool hc114) ?_
     refine pl_not (tg := 19) (by kernel_rfl) (congrArg Value.bool hc114) ?_
     refine pl_not (tg := 19) (by kernel_rfl) (congrArg Value.bool hc114) ?_
     refine pl_not (tg := 19) (by kernel_rfl) (congrArg Value.bool hc114) ?_
     refine pl_val (.bool false) (y_pick_f (congrArg Value.bool hc114) rfl) ?_
     refine c_nil ?_
     cases hs
     exact ⟨_, fr_ovl 35 ⟨rfl, rfl, rfl, rfl, rfl, rfl, trivial⟩, hMid⟩
   ·rintro a1 w112 ⟨σ, rfl, hCs111⟩
    have hv109 := hE_.ext hv109 hCs111 (fun _ h => nomatch h)
    have hb1 := hb1.chg hCs111 (fun h => nomatch h)
    have hC := hC.ext hCs111
    have hO := hO.ext hCs111
    rcases bif_some hs with ⟨hc117, hs⟩ | ⟨hc117, hs⟩
    ·skip
     refine c_condT (congrArg Value.bool hc117) ?_
     refine wp_skip ?_
     refine c_seq ?_
     refine wp_block ?_
     refine c_region ?_
     refine pl_val (.pointer (some ⟨g1, 1, none⟩)) (y_faddr rfl Fa122x1) ?_
     refine pl_val (.func (.func sf_) #[] sb_) (y_load rfl ((box_load Ag118 Sz118 hb1 [(.func (.func g_) #[] lb_)] [(.func (.func sf_) #[] sb_)] [] rfl rfl (fun _ => rfl)) _ (Chg.refl _ _))) ?_
     refine pl_val (.int .i64 s103.1) (y_move rfl) ?_
     refine pl_val (.int .i64 s103.1) (y_move rfl) ?_
     refine pl_val (.int .i64 (w64 (s103.1 - 1))) (y_sub rfl rfl) ?_
     obtain ⟨y119, hy119, hs⟩ := bind_some hs
     obtain ⟨w118, hx118, hC118, hv118⟩ := hE_.swap hv109 hy119
     refine pl_val (w' := w118) (.tuple #[]) (y_callx rfl rfl hx118) ?_
     have hO := hO.fr1
     have hb1 := hb1.chg hC118 (fun hg => hO.apart _ ((fun _ h => h) _ hg) (mem_l (List.mem_singleton.2 rfl)))
     have hC := hC.step hC118 (fun g hg => hO.inN g ((fun _ h => h) g hg))
     have hO := hO.ext hC118
     refine c_nil ?_
     refine c_region ?_
     refine pl_val (.int .i64 s103.1) (y_move rfl) ?_
     refine pl_val (.int .i64 (w64 (s103.1 - 1))) (y_sub rfl rfl) ?_
     refine pl_val (.int .i64 (w64 (s103.1 - 1))) (y_assign rfl) ?_
     refine c_nil ?_
     cases hs
     have hO := hO.fr1
     exact ⟨_, fr_ovl 35 ⟨rfl, rfl, rfl, rfl, rfl, trivial⟩, hC, hO, hv118, hb1⟩
    ·skip
     refine c_condF (congrArg Value.bool hc117) ?_
     refine wp_exit ?_
     cases hs
     have hO := hO.fr1
     have hO := hO.fr1
     exact ⟨rfl, _, fr_ovl 35 ⟨rfl, rfl, rfl, rfl, trivial⟩, hC, hO, hv109, hb1⟩
  ·skip
   have hO := hO.fr1
   have hO := hO.fr1
   exact ⟨_, fr_ovl 35 ⟨rfl, rfl, rfl, rfl, rfl, trivial⟩, hC, hO, hv82, hb1⟩
  ·cases o107 with
   | nx _ => exact True.intro
   | rt r_ =>
    have hs := after_rt hs
    intro a1 w1 hK
    cases hs
    exact hK
   | br s103 =>
    have hs := after_br hs
    rintro a1 w104 ⟨σ, rfl, hC, hO, hv110, hb1⟩
    refine c_region ?_
    refine pl_val (.int .i64 k78) (y_move rfl) ?_
    refine pl_val (.int .i64 (w64 (k78 + 1))) (y_add rfl rfl) ?_
    refine pl_val (.int .i64 (w64 (k78 + 1))) (y_assign rfl) ?_
    refine c_nil ?_
    cases hs
    have hO := hO.fr1
    have hO := hO.fr1
    exact ⟨_, fr_ovl 35 ⟨rfl, rfl, rfl, congrArg (Value.int .i64) hw, trivial⟩, hC, hO, hv110, hb1⟩
 ·skip
  have hO := hO.fr1
  have hO := hO.fr1
  exact ⟨_, fr_ovl 35 ⟨rfl, rfl, rfl, rfl, trivial⟩, hC, hO, hI_, hb1⟩
 ·cases o80 with
  | nx _ => exact True.intro
  | rt r_ =>
   have hs := after_rt hs
   intro a1 w1 hK
   cases hs
   exact hK
  | br s76 =>
   have hs := after_br hs
   rintro a1 w77 ⟨σ, rfl, hC, hO, hv83, hb1⟩
   cases hs
   exact ⟨_, fr_ovl 35 trivial, hC, hv83⟩

def k_sort_swapRange_func (M : Nat → Prop) (w0 : World) {α_ : Type} (I_ : World → List α_ → Prop) (G_ : List Nat) (r : (List α_)) (a : Act) (w : World) : Prop :=
  ∃ (σ : Nat → Value) , a = fr 23 (ovl σ []) ∧ Chg (G_ ++ ([])) w0 w ∧ I_ w r
def s_sort_swapRange_func {α_ : Type} (ls_ : α_ → α_ → Option Bool) (d_ : List α_) (a_ : Int) (b : Int) (n : Int) : Option ((List α_)) :=
  (forC (S := (List α_)) (R := (List α_)) (fun k9 s7 =>
  (swx s7 (w64 (a_ + k9)) (w64 (b + k9))).bind fun y16 =>
  some (.nx y16)) 0 n d_).bind fun o11 => after o11 (fun r_ => some r_) (fun s7 =>
  some s7)
set_option maxHeartbeats 4000000 in
theorem c_sort_swapRange_func {M : Nat → Prop} {w : World} {α_ : Type} {n0_ : Nat} {I_ : World → List α_ → Prop} {G_ : List Nat} {g_ sf_ : Nat} {lb_ sb_ : Array Value} (ls_ : α_ → α_ → Option Bool) (d_ : List α_) (a_ : Int) (b : Int) (n : Int) (hN_ : n0_ ≤ w.heap.size) (hE_ : Env Try.prog n0_ I_ G_ ls_ g_ lb_ sf_ sb_) (hI_ : I_ w d_) (hI : Own (Nw w (G_ ++ ([]))) M w (G_ ++ ([]))) (hM : ∀ g, w.heap.size ≤ g → M g) {r : (List α_)} (hs : s_sort_swapRange_func ls_ d_ a_ b n = some r) :
    Gives Try.prog 116 [(.agg #[(.func (.func g_) #[] lb_), (.func (.func sf_) #[] sb_)]), (.int .i64 a_), (.int .i64 b), (.int .i64 n)] w (fun v w' => v = (.tuple #[]) ∧ Chg (G_ ++ ([])) w w' ∧ I_ w' r) := by
 refine calls_fr Try.func116 rfl Try.ntmps116 (Nat.le_of_ble_eq_true rfl) ?_
 have hO := hI
 have hC := Chg.refl (G_ ++ ([])) w
 unfold s_sort_swapRange_func at hs
 refine wp_mono (Q := KPostN (k_sort_swapRange_func M w I_ G_ r)) ?_ (fun e a w1 h => ?_)
 rotate_left
 ·cases e
  case ret =>
   obtain ⟨σ, rfl, hrest⟩ := h
   exact ret0x Try.results116  ⟨rfl, hrest⟩
  case normal =>
   obtain ⟨σ, rfl, hrest⟩ := h
   exact ret0n Try.results116  ⟨rfl, hrest⟩
  all_goals exact (h : False).elim
 refine c_seq (c_region ?_)
 obtain ⟨w1, g1, ew1, eg1, hC1, hb1⟩ := new_block w [(.func (.func g_) #[] lb_), (.func (.func sf_) #[] sb_)] 122
 refine pl_val (w' := w1) (.pointer (some ⟨g1, 0, none⟩)) (y_box rfl (by rw [ew1, eg1]; kernel_rfl)) ?_
 have hI_ := hE_.ext hI_ hC1 (fun _ h => nomatch h)
 have hC := hC.ext hC1
 have hO := hO.new1 hC1 eg1 hb1.lt
 refine c_nil ?_
 refine c_seq (c_region ?_)
 refine pl_val (.int .i64 0) (y_assign rfl) ?_
 refine c_nil ?_
 obtain ⟨o11, hl12, hs⟩ := bind_some hs
 refine wp_block ?_
 refine wp_forC (id := 0) n (I := fun k9 s7 a w8 => ∃ (σ : Nat → Value), a = fr 23 (ovl σ [(1, (.int .i64 a_)), (2, (.int .i64 b)), (3, (.int .i64 n)), (4, (.pointer (some ⟨g1, 0, none⟩))), (8, (.int .i64 k9))]) ∧ Chg (G_ ++ ([])) w w8 ∧ Own (Nw w (G_ ++ ([]))) M w8 (([g1]) ++ (G_ ++ [])) ∧ I_ w8 s7 ∧ BoxV w8 g1 122 [(.func (.func g_) #[] lb_), (.func (.func sf_) #[] sb_)]) (J := fun s7 a w8 => ∃ (σ : Nat → Value), a = fr 23 (ovl σ []) ∧ Chg (G_ ++ ([])) w w8 ∧ Own (Nw w (G_ ++ ([]))) M w8 (([g1]) ++ (G_ ++ [])) ∧ I_ w8 s7 ∧ BoxV w8 g1 122 [(.func (.func g_) #[] lb_), (.func (.func sf_) #[] sb_)]) (K := (k_sort_swapRange_func M w I_ G_)) ?_ ?_ 0 d_ o11 _ _ ?_ hl12 ?_
 ·rintro k9 s7 a w8 ⟨σ, rfl, hC, hO, hv13, hb1⟩ hlt
  refine c_seq ?_
  refine c_seq (c_region ?_)
  refine pl_val (.int .i64 k9) (y_move rfl) ?_
  refine pl_val (.int .i64 n) (y_move rfl) ?_
  refine pl_val (.bool (decide (k9 < n))) (y_lss rfl rfl) ?_
  refine c_nil ?_
  refine c_condF (congrArg Value.bool (decide_eq_false hlt)) ?_
  refine wp_exit ?_
  have hO := hO.fr1
  have hO := hO.fr1
  exact ⟨rfl, _, fr_ovl 23 trivial, hC, hO, hv13, hb1⟩
 ·rintro k9 s7 o11 a w8 ⟨σ, rfl, hC, hO, hv13, hb1⟩ hlt hw hs
  refine c_seq ?_
  refine c_seq (c_region ?_)
  refine pl_val (.int .i64 k9) (y_move rfl) ?_
  refine pl_val (.int .i64 n) (y_move rfl) ?_
  refine pl_val (.bool (decide (k9 < n))) (y_lss rfl rfl) ?_
  refine c_nil ?_
  refine c_condT (congrArg Value.bool (decide_eq_true hlt)) ?_
  refine wp_skip ?_
  refine c_seq ?_
  refine wp_block ?_
  refine c_region ?_
  refine pl_val (.pointer (some ⟨g1, 1, none⟩)) (y_faddr rfl Fa122x1) ?_
  refine pl_val (.func (.func sf_) #[] sb_) (y_load rfl ((box_load Ag118 Sz118 hb1 [(.func (.func g_) #[] lb_)] [(.func (.func sf_) #[] sb_)] [] rfl rfl (fun _ => rfl)) _ (Chg.refl _ _))) ?_
  refine pl_val (.int .i64 a_) (y_move rfl) ?_
  refine pl_val (.int .i64 k9) (y_move rfl) ?_
  refine pl_val (.int .i64 (w64 (a_ + k9))) (y_add rfl rfl) ?_
  refine pl_val (.int .i64 b) (y_move rfl) ?_
  refine pl_val (.int .i64 k9) (y_move rfl) ?_
  refine pl_val (.int .i64 (w64 (b + k9))) (y_add rfl rfl) ?_
  obtain ⟨y16, hy16, hs⟩ := bind_some hs
  obtain ⟨w15, hx15, hC15, hv15⟩ := hE_.swap hv13 hy16
  refine pl_val (w' := w15) (.tuple #[]) (y_callx rfl rfl hx15) ?_
  have hO := hO.fr1
  have hb1 := hb1.chg hC15 (fun hg => hO.apart _ ((fun _ h => h) _ hg) (mem_l (List.mem_singleton.2 rfl)))
  have hC := hC.step hC15 (fun g hg => hO.inN g ((fun _ h => h) g hg))
  have hO := hO.ext hC15
  refine c_nil ?_
  refine c_region ?_
  refine pl_val (.int .i64 k9) (y_move rfl) ?_
  refine pl_val (.int .i64 (w64 (k9 + 1))) (y_add rfl rfl) ?_
  refine pl_val (.int .i64 (w64 (k9 + 1))) (y_assign rfl) ?_
  refine c_nil ?_
  cases hs
  have hO := hO.fr1
  exact ⟨_, fr_ovl 23 ⟨rfl, rfl, rfl, rfl, congrArg (Value.int .i64) hw, trivial⟩, hC, hO, hv15, hb1⟩
 ·skip
  have hO := hO.fr1
  have hO := hO.fr1
  exact ⟨_, fr_ovl 23 ⟨rfl, rfl, rfl, rfl, rfl, trivial⟩, hC, hO, hI_, hb1⟩
 ·cases o11 with
  | nx _ => exact True.intro
  | rt r_ =>
   have hs := after_rt hs
   intro a1 w1 hK
   cases hs
   exact hK
  | br s7 =>
   have hs := after_br hs
   rintro a1 w8 ⟨σ, rfl, hC, hO, hv14, hb1⟩
   cases hs
   exact ⟨_, fr_ovl 23 trivial, hC, hv14⟩

theorem Ag122 : AggT Try.prog 122 true := fun _ => by kernel_rfl

theorem Sz122 : SzT Try.prog 122 2 := ⟨_, rfl, rfl⟩

theorem Bd116 : Bodied Try.prog 116 := bodied Try.func116 (by kernel_rfl) rfl

def k_sort_rotate_func (M : Nat → Prop) (w0 : World) {α_ : Type} (I_ : World → List α_ → Prop) (G_ : List Nat) (r : (List α_)) (a : Act) (w : World) : Prop :=
  ∃ (σ : Nat → Value) , a = fr 53 (ovl σ []) ∧ Chg (G_ ++ ([])) w0 w ∧ I_ w r
def s_sort_rotate_func {α_ : Type} (ls_ : α_ → α_ → Option Bool) (d_ : List α_) (a_ : Int) (m : Int) (b : Int) : Option ((List α_)) :=
  (iter (S := Int × Int × (List α_)) (R := (List α_)) (fun s15 =>
  (bif (s15.1 != s15.2.1) then (bif (decide (s15.2.1 < s15.1)) then (s_sort_swapRange_func ls_ s15.2.2 (w64 (m - s15.1)) m s15.2.1).bind fun r26 =>
  some (.nx (w64 (s15.1 - s15.2.1), s15.2.1, r26)) else (s_sort_swapRange_func ls_ s15.2.2 (w64 (m - s15.1)) (w64 ((w64 (m + s15.2.1)) - s15.1)) s15.1).bind fun r28 =>
  some (.nx (s15.1, w64 (s15.2.1 - s15.1), r28))) else some (.br (s15.1, s15.2.1, s15.2.2)))) FU (w64 (m - a_), w64 (b - m), d_)).bind fun o19 => after o19 (fun r_ => some r_) (fun s15 =>
  (s_sort_swapRange_func ls_ s15.2.2 (w64 (m - s15.1)) m s15.1).bind fun r30 =>
  some r30)
set_option maxHeartbeats 4000000 in
theorem c_sort_rotate_func {M : Nat → Prop} {w : World} {α_ : Type} {n0_ : Nat} {I_ : World → List α_ → Prop} {G_ : List Nat} {g_ sf_ : Nat} {lb_ sb_ : Array Value} (ls_ : α_ → α_ → Option Bool) (d_ : List α_) (a_ : Int) (m : Int) (b : Int) (hN_ : n0_ ≤ w.heap.size) (hE_ : Env Try.prog n0_ I_ G_ ls_ g_ lb_ sf_ sb_) (hI_ : I_ w d_) (hI : Own (Nw w (G_ ++ ([]))) M w (G_ ++ ([]))) (hM : ∀ g, w.heap.size ≤ g → M g) {r : (List α_)} (hs : s_sort_rotate_func ls_ d_ a_ m b = some r) :
    Gives Try.prog 115 [(.agg #[(.func (.func g_) #[] lb_), (.func (.func sf_) #[] sb_)]), (.int .i64 a_), (.int .i64 m), (.int .i64 b)] w (fun v w' => v = (.tuple #[]) ∧ Chg (G_ ++ ([])) w w' ∧ I_ w' r) := by
 refine calls_fr Try.func115 rfl Try.ntmps115 (Nat.le_of_ble_eq_true rfl) ?_
 have hO := hI
 have hC := Chg.refl (G_ ++ ([])) w
 unfold s_sort_rotate_func at hs
 refine wp_mono (Q := KPostN (k_sort_rotate_func M w I_ G_ r)) ?_ (fun e a w1 h => ?_)
 rotate_left
 ·cases e
  case ret =>
   obtain ⟨σ, rfl, hrest⟩ := h
   exact ret0x Try.results115  ⟨rfl, hrest⟩
  case normal =>
   obtain ⟨σ, rfl, hrest⟩ := h
   exact ret0n Try.results115  ⟨rfl, hrest⟩
  all_goals exact (h : False).elim
 refine c_seq (c_region ?_)
 obtain ⟨w1, g1, ew1, eg1, hC1, hb1⟩ := new_block w [(.func (.func g_) #[] lb_), (.func (.func sf_) #[] sb_)] 122
 refine pl_val (w' := w1) (.pointer (some ⟨g1, 0, none⟩)) (y_box rfl (by rw [ew1, eg1]; kernel_rfl)) ?_
 have hI_ := hE_.ext hI_ hC1 (fun _ h => nomatch h)
 have hC := hC.ext hC1
 have hO := hO.new1 hC1 eg1 hb1.lt
 refine c_nil ?_
 refine c_seq (c_region ?_)
 refine pl_val (.int .i64 m) (y_move rfl) ?_
 refine pl_val (.int .i64 a_) (y_move rfl) ?_
 refine pl_val (.int .i64 (w64 (m - a_))) (y_sub rfl rfl) ?_
 refine pl_val (.int .i64 (w64 (m - a_))) (y_assign rfl) ?_
 refine c_nil ?_
 refine c_seq (c_region ?_)
 refine pl_val (.int .i64 b) (y_move rfl) ?_
 refine pl_val (.int .i64 m) (y_move rfl) ?_
 refine pl_val (.int .i64 (w64 (b - m))) (y_sub rfl rfl) ?_
 refine pl_val (.int .i64 (w64 (b - m))) (y_assign rfl) ?_
 refine c_nil ?_
 refine c_seq ?_
 obtain ⟨o19, hl20, hs⟩ := bind_some hs
 refine wp_block ?_
 refine wp_iter (id := 0) (I := fun s15 a w16 => ∃ (σ : Nat → Value), a = fr 53 (ovl σ [(2, (.int .i64 m)), (4, (.pointer (some ⟨g1, 0, none⟩))), (8, (.int .i64 s15.1)), (9, (.int .i64 s15.2.1))]) ∧ Chg (G_ ++ ([])) w w16 ∧ Own (Nw w (G_ ++ ([]))) M w16 (([g1]) ++ (G_ ++ [])) ∧ I_ w16 s15.2.2 ∧ BoxV w16 g1 122 [(.func (.func g_) #[] lb_), (.func (.func sf_) #[] sb_)]) (J := fun s15 a w16 => ∃ (σ : Nat → Value), a = fr 53 (ovl σ [(2, (.int .i64 m)), (4, (.pointer (some ⟨g1, 0, none⟩))), (8, (.int .i64 s15.1))]) ∧ Chg (G_ ++ ([])) w w16 ∧ Own (Nw w (G_ ++ ([]))) M w16 (([g1]) ++ (G_ ++ [])) ∧ I_ w16 s15.2.2 ∧ BoxV w16 g1 122 [(.func (.func g_) #[] lb_), (.func (.func sf_) #[] sb_)]) (K := (k_sort_rotate_func M w I_ G_)) ?_ FU (w64 (m - a_), w64 (b - m), d_) o19 _ _ ?_ hl20 ?_
 ·rintro s15 o19 a w16 ⟨σ, rfl, hC, hO, hv21, hb1⟩ hs
  refine c_seq ?_
  refine c_seq (c_region ?_)
  refine pl_val (.int .i64 s15.1) (y_move rfl) ?_
  refine pl_val (.int .i64 s15.2.1) (y_move rfl) ?_
  refine pl_val (.bool (s15.1 != s15.2.1)) (y_neq rfl rfl) ?_
  refine c_nil ?_
  rcases bif_some hs with ⟨hc23, hs⟩ | ⟨hc23, hs⟩
  ·skip
   refine c_condT (congrArg Value.bool hc23) ?_
   refine wp_skip ?_
   refine wp_block ?_
   refine c_seq (c_region ?_)
   refine pl_val (.int .i64 s15.1) (y_move rfl) ?_
   refine pl_val (.int .i64 s15.2.1) (y_move rfl) ?_
   refine pl_val (.bool (decide (s15.2.1 < s15.1))) (y_gtr rfl rfl) ?_
   refine c_nil ?_
   rcases bif_some hs with ⟨hc24, hs⟩ | ⟨hc24, hs⟩
   ·skip
    refine c_condT (congrArg Value.bool hc24) ?_
    refine c_seq (c_region ?_)
    refine pl_val (.agg #[(.func (.func g_) #[] lb_), (.func (.func sf_) #[] sb_)]) (y_load rfl ((box_load Ag122 Sz122 hb1 [] [(.func (.func g_) #[] lb_), (.func (.func sf_) #[] sb_)] [] rfl rfl (fun h => nomatch h)) _ (Chg.refl _ _))) ?_
    refine pl_val (.int .i64 m) (y_move rfl) ?_
    refine pl_val (.int .i64 s15.1) (y_move rfl) ?_
    refine pl_val (.int .i64 (w64 (m - s15.1))) (y_sub rfl rfl) ?_
    refine pl_val (.int .i64 m) (y_move rfl) ?_
    refine pl_val (.int .i64 s15.2.1) (y_move rfl) ?_
    have hO := hO.fr1
    have hI25 := Own.lend (F := (G_ ++ ([]))) (R := ([g1]) ++ ([])) (Own.perm hO (by simp))
    obtain ⟨r26, hr26, hs⟩ := bind_some hs
    refine pl_call Bd116 rfl (c_sort_swapRange_func (M := M) ls_ s15.2.2 (w64 (m - s15.1)) m s15.2.1 (Nat.le_trans hN_ hC.size) hE_ hv21 hI25 hO.fut hr26) ?_
    rintro _ w25 ⟨rfl, hC25, hv25⟩
    have hb1 := hb1.chg hC25 (fun hg => hO.apart _ (nil_mem _ hg) (mem_l (List.mem_singleton.2 rfl)))
    have hC := hC.step hC25 (fun g hg => hO.inN g (nil_mem g hg))
    have hO := hO.ext hC25
    refine c_nil ?_
    refine c_region ?_
    refine pl_val (.int .i64 s15.1) (y_move rfl) ?_
    refine pl_val (.int .i64 s15.2.1) (y_move rfl) ?_
    refine pl_val (.int .i64 (w64 (s15.1 - s15.2.1))) (y_sub rfl rfl) ?_
    refine pl_val (.int .i64 (w64 (s15.1 - s15.2.1))) (y_assign rfl) ?_
    refine c_nil ?_
    cases hs
    have hO := hO.fr1
    exact ⟨_, fr_ovl 53 ⟨rfl, rfl, rfl, rfl, trivial⟩, hC, hO, hv25, hb1⟩
   ·skip
    refine c_condF (congrArg Value.bool hc24) ?_
    refine c_seq (c_region ?_)
    refine pl_val (.agg #[(.func (.func g_) #[] lb_), (.func (.func sf_) #[] sb_)]) (y_load rfl ((box_load Ag122 Sz122 hb1 [] [(.func (.func g_) #[] lb_), (.func (.func sf_) #[] sb_)] [] rfl rfl (fun h => nomatch h)) _ (Chg.refl _ _))) ?_
    refine pl_val (.int .i64 m) (y_move rfl) ?_
    refine pl_val (.int .i64 s15.1) (y_move rfl) ?_
    refine pl_val (.int .i64 (w64 (m - s15.1))) (y_sub rfl rfl) ?_
    refine pl_val (.int .i64 m) (y_move rfl) ?_
    refine pl_val (.int .i64 s15.2.1) (y_move rfl) ?_
    refine pl_val (.int .i64 (w64 (m + s15.2.1))) (y_add rfl rfl) ?_
    refine pl_val (.int .i64 s15.1) (y_move rfl) ?_
    refine pl_val (.int .i64 (w64 ((w64 (m + s15.2.1)) - s15.1))) (y_sub rfl rfl) ?_
    refine pl_val (.int .i64 s15.1) (y_move rfl) ?_
    have hO := hO.fr1
    have hI27 := Own.lend (F := (G_ ++ ([]))) (R := ([g1]) ++ ([])) (Own.perm hO (by simp))
    obtain ⟨r28, hr28, hs⟩ := bind_some hs
    refine pl_call Bd116 rfl (c_sort_swapRange_func (M := M) ls_ s15.2.2 (w64 (m - s15.1)) (w64 ((w64 (m + s15.2.1)) - s15.1)) s15.1 (Nat.le_trans hN_ hC.size) hE_ hv21 hI27 hO.fut hr28) ?_
    rintro _ w27 ⟨rfl, hC27, hv27⟩
    have hb1 := hb1.chg hC27 (fun hg => hO.apart _ (nil_mem _ hg) (mem_l (List.mem_singleton.2 rfl)))
    have hC := hC.step hC27 (fun g hg => hO.inN g (nil_mem g hg))
    have hO := hO.ext hC27
    refine c_nil ?_
    refine c_region ?_
    refine pl_val (.int .i64 s15.2.1) (y_move rfl) ?_
    refine pl_val (.int .i64 s15.1) (y_move rfl) ?_
    refine pl_val (.int .i64 (w64 (s15.2.1 - s15.1))) (y_sub rfl rfl) ?_
    refine pl_val (.int .i64 (w64 (s15.2.1 - s15.1))) (y_assign rfl) ?_
    refine c_nil ?_
    cases hs
    have hO := hO.fr1
    exact ⟨_, fr_ovl 53 ⟨rfl, rfl, rfl, rfl, trivial⟩, hC, hO, hv27, hb1⟩
  ·skip
   refine c_condF (congrArg Value.bool hc23) ?_
   refine wp_exit ?_
   cases hs
   have hO := hO.fr1
   have hO := hO.fr1
   exact ⟨rfl, _, fr_ovl 53 ⟨rfl, rfl, rfl, trivial⟩, hC, hO, hv21, hb1⟩
 ·skip
  have hO := hO.fr1
  have hO := hO.fr1
  exact ⟨_, fr_ovl 53 ⟨rfl, rfl, rfl, rfl, trivial⟩, hC, hO, hI_, hb1⟩
 ·cases o19 with
  | nx _ => exact True.intro
  | rt r_ =>
   have hs := after_rt hs
   intro a1 w1 hK
   cases hs
   exact hK
  | br s15 =>
   have hs := after_br hs
   rintro a1 w16 ⟨σ, rfl, hC, hO, hv22, hb1⟩
   refine c_region ?_
   refine pl_val (.agg #[(.func (.func g_) #[] lb_), (.func (.func sf_) #[] sb_)]) (y_load rfl ((box_load Ag122 Sz122 hb1 [] [(.func (.func g_) #[] lb_), (.func (.func sf_) #[] sb_)] [] rfl rfl (fun h => nomatch h)) _ (Chg.refl _ _))) ?_
   refine pl_val (.int .i64 m) (y_move rfl) ?_
   refine pl_val (.int .i64 s15.1) (y_move rfl) ?_
   refine pl_val (.int .i64 (w64 (m - s15.1))) (y_sub rfl rfl) ?_
   refine pl_val (.int .i64 m) (y_move rfl) ?_
   refine pl_val (.int .i64 s15.1) (y_move rfl) ?_
   have hO := hO.fr1
   have hI29 := Own.lend (F := (G_ ++ ([]))) (R := ([g1]) ++ ([])) (Own.perm hO (by simp))
   obtain ⟨r30, hr30, hs⟩ := bind_some hs
   refine pl_call Bd116 rfl (c_sort_swapRange_func (M := M) ls_ s15.2.2 (w64 (m - s15.1)) m s15.1 (Nat.le_trans hN_ hC.size) hE_ hv22 hI29 hO.fut hr30) ?_
   rintro _ w29 ⟨rfl, hC29, hv29⟩
   have hb1 := hb1.chg hC29 (fun hg => hO.apart _ (nil_mem _ hg) (mem_l (List.mem_singleton.2 rfl)))
   have hC := hC.step hC29 (fun g hg => hO.inN g (nil_mem g hg))
   have hO := hO.ext hC29
   refine c_nil ?_
   cases hs
   exact ⟨_, fr_ovl 53 trivial, hC, hv29⟩

theorem Bd115 : Bodied Try.prog 115 := bodied Try.func115 (by kernel_rfl) rfl

theorem Bd114 : Bodied Try.prog 114 := bodied Try.func114 (by kernel_rfl) rfl

def k_sort_symMerge_func (M : Nat → Prop) (w0 : World) {α_ : Type} (I_ : World → List α_ → Prop) (G_ : List Nat) (r : (List α_)) (a : Act) (w : World) : Prop :=
  ∃ (σ : Nat → Value) , a = fr 177 (ovl σ []) ∧ Chg (G_ ++ ([])) w0 w ∧ I_ w r
def s_sort_symMerge_func {α_ : Type} : Nat → (α_ → α_ → Option Bool) → (List α_) → (Int) → (Int) → (Int) → Option ((List α_))
  | 0, _, _, _, _, _ => none
  | fu_ + 1, ls_, d_, a_, m, b =>
  (bif ((w64 (m - a_)) == 1) then (iter (S := Int × Int) (R := (List α_)) (fun s7 =>
  (bif (decide (s7.1 < s7.2)) then (lsx ls_ d_ (w64 (ishr .u64 (IntKind.u64.wrap (w64 (s7.1 + s7.2))) 1)) a_).bind fun r15 =>
  (bif r15 then some (.nx (w64 ((w64 (ishr .u64 (IntKind.u64.wrap (w64 (s7.1 + s7.2))) 1)) + 1), s7.2)) else some (.nx (s7.1, w64 (ishr .u64 (IntKind.u64.wrap (w64 (s7.1 + s7.2))) 1)))) else some (.br (s7.1, s7.2)))) FU (m, b)).bind fun o11 => after o11 (fun r_ => some r_) (fun s7 =>
  (forC (S := (List α_)) (R := (List α_)) (fun k24 s22 =>
  (swx s22 k24 (w64 (k24 + 1))).bind fun y31 =>
  some (.nx y31)) a_ (w64 (s7.1 - 1)) d_).bind fun o26 => after o26 (fun r_ => some r_) (fun s22 =>
  some s22)) else (bif ((w64 (b - m)) == 1) then (iter (S := Int × Int) (R := (List α_)) (fun s37 =>
  (bif (decide (s37.1 < s37.2)) then (lsx ls_ d_ m (w64 (ishr .u64 (IntKind.u64.wrap (w64 (s37.1 + s37.2))) 1))).bind fun r45 =>
  (bif (!r45) then some (.nx (w64 ((w64 (ishr .u64 (IntKind.u64.wrap (w64 (s37.1 + s37.2))) 1)) + 1), s37.2)) else some (.nx (s37.1, w64 (ishr .u64 (IntKind.u64.wrap (w64 (s37.1 + s37.2))) 1)))) else some (.br (s37.1, s37.2)))) FU (a_, m)).bind fun o41 => after o41 (fun r_ => some r_) (fun s37 =>
  (iter (S := Int × (List α_)) (R := (List α_)) (fun s54 =>
  (bif (decide (s37.1 < s54.1)) then (swx s54.2 s54.1 (w64 (s54.1 - 1))).bind fun y64 =>
  some (.nx (w64 (s54.1 - 1), y64)) else some (.br (s54.1, s54.2)))) FU (m, d_)).bind fun o58 => after o58 (fun r_ => some r_) (fun s54 =>
  some s54.2)) else (bif (decide ((w64 (ishr .u64 (IntKind.u64.wrap (w64 (a_ + b))) 1)) < m)) then some (w64 ((w64 ((w64 (ishr .u64 (IntKind.u64.wrap (w64 (a_ + b))) 1)) + m)) - b), w64 (ishr .u64 (IntKind.u64.wrap (w64 (a_ + b))) 1)) else some (a_, m)).bind fun s65 =>
  (iter (S := Int × Int) (R := (List α_)) (fun s73 =>
  (bif (decide (s73.1 < s73.2)) then (lsx ls_ d_ (w64 ((w64 ((w64 ((w64 (ishr .u64 (IntKind.u64.wrap (w64 (a_ + b))) 1)) + m)) - 1)) - (w64 (ishr .u64 (IntKind.u64.wrap (w64 (s73.1 + s73.2))) 1)))) (w64 (ishr .u64 (IntKind.u64.wrap (w64 (s73.1 + s73.2))) 1))).bind fun r81 =>
  (bif (!r81) then some (.nx (w64 ((w64 (ishr .u64 (IntKind.u64.wrap (w64 (s73.1 + s73.2))) 1)) + 1), s73.2)) else some (.nx (s73.1, w64 (ishr .u64 (IntKind.u64.wrap (w64 (s73.1 + s73.2))) 1)))) else some (.br (s73.1, s73.2)))) FU (s65.1, s65.2)).bind fun o77 => after o77 (fun r_ => some r_) (fun s73 =>
  (bif ((decide (s73.1 < m)) && (decide (m < (w64 ((w64 ((w64 (ishr .u64 (IntKind.u64.wrap (w64 (a_ + b))) 1)) + m)) - s73.1))))) then (s_sort_rotate_func ls_ d_ s73.1 m (w64 ((w64 ((w64 (ishr .u64 (IntKind.u64.wrap (w64 (a_ + b))) 1)) + m)) - s73.1))).bind fun r97 =>
  some r97 else some d_).bind fun s91 =>
  (bif ((decide (a_ < s73.1)) && (decide (s73.1 < (w64 (ishr .u64 (IntKind.u64.wrap (w64 (a_ + b))) 1))))) then (s_sort_symMerge_func fu_ ls_ s91 a_ s73.1 (w64 (ishr .u64 (IntKind.u64.wrap (w64 (a_ + b))) 1))).bind fun r112 =>
  some r112 else some s91).bind fun s106 =>
  (bif ((decide ((w64 (ishr .u64 (IntKind.u64.wrap (w64 (a_ + b))) 1)) < (w64 ((w64 ((w64 (ishr .u64 (IntKind.u64.wrap (w64 (a_ + b))) 1)) + m)) - s73.1)))) && (decide ((w64 ((w64 ((w64 (ishr .u64 (IntKind.u64.wrap (w64 (a_ + b))) 1)) + m)) - s73.1)) < b))) then (s_sort_symMerge_func fu_ ls_ s106 (w64 (ishr .u64 (IntKind.u64.wrap (w64 (a_ + b))) 1)) (w64 ((w64 ((w64 (ishr .u64 (IntKind.u64.wrap (w64 (a_ + b))) 1)) + m)) - s73.1)) b).bind fun r119 =>
  some r119 else some s106))))
set_option maxHeartbeats 4000000 in
theorem c_sort_symMerge_func : ∀ (fu_ : Nat) {M : Nat → Prop} {w : World} {α_ : Type} {n0_ : Nat} {I_ : World → List α_ → Prop} {G_ : List Nat} {g_ sf_ : Nat} {lb_ sb_ : Array Value} (ls_ : α_ → α_ → Option Bool) (d_ : List α_) (a_ : Int) (m : Int) (b : Int) (hN_ : n0_ ≤ w.heap.size) (hE_ : Env Try.prog n0_ I_ G_ ls_ g_ lb_ sf_ sb_) (hI_ : I_ w d_) (hI : Own (Nw w (G_ ++ ([]))) M w (G_ ++ ([]))) (hM : ∀ g, w.heap.size ≤ g → M g) {r : (List α_)} (hs : s_sort_symMerge_func fu_ ls_ d_ a_ m b = some r), Gives Try.prog 114 [(.agg #[(.func (.func g_) #[] lb_), (.func (.func sf_) #[] sb_)]), (.int .i64 a_), (.int .i64 m), (.int .i64 b)] w (fun v w' => v = (.tuple #[]) ∧ Chg (G_ ++ ([])) w w' ∧ I_ w' r) := by
 intro fu_
 induction fu_ with
 | zero => intro M w α_ n0_ I_ G_ g_ sf_ lb_ sb_ ls_ d_ a_ m b hN_ hE_ hI_ hI hM r hs; exact (nomatch hs)
 | succ fu_ c_ih =>
 intro M w α_ n0_ I_ G_ g_ sf_ lb_ sb_ ls_ d_ a_ m b hN_ hE_ hI_ hI hM r hs
 refine calls_fr Try.func114 rfl Try.ntmps114 (Nat.le_of_ble_eq_true rfl) ?_
 have hO := hI
 have hC := Chg.refl (G_ ++ ([])) w
 rw [s_sort_symMerge_func] at hs
 refine wp_mono (Q := KPostN (k_sort_symMerge_func M w I_ G_ r)) ?_ (fun e a w1 h => ?_)
 rotate_left
 ·cases e
  case ret =>
   obtain ⟨σ, rfl, hrest⟩ := h
   exact ret0x Try.results114  ⟨rfl, hrest⟩
  case normal =>
   obtain ⟨σ, rfl, hrest⟩ := h
   exact ret0n Try.results114  ⟨rfl, hrest⟩
  all_goals exact (h : False).elim
 refine c_seq (c_region ?_)
 obtain ⟨w1, g1, ew1, eg1, hC1, hb1⟩ := new_block w [(.func (.func g_) #[] lb_), (.func (.func sf_) #[] sb_)] 122
 refine pl_val (w' := w1) (.pointer (some ⟨g1, 0, none⟩)) (y_box rfl (by rw [ew1, eg1]; kernel_rfl)) ?_
 have hI_ := hE_.ext hI_ hC1 (fun _ h => nomatch h)
 have hC := hC.ext hC1
 have hO := hO.new1 hC1 eg1 hb1.lt
 refine c_nil ?_
 refine c_seq ?_
 refine c_seq (c_region ?_)
 refine pl_val (.int .i64 m) (y_move rfl) ?_
 refine pl_val (.int .i64 a_) (y_move rfl) ?_
 refine pl_val (.int .i64 (w64 (m - a_))) (y_sub rfl rfl) ?_
 refine pl_val (.bool ((w64 (m - a_)) == 1)) (y_eql rfl rfl) ?_
 refine c_nil ?_
 rcases bif_some hs with ⟨hc2, hs⟩ | ⟨hc2, hs⟩
 ·skip
  refine c_condT (congrArg Value.bool hc2) ?_
  refine c_seq (c_region ?_)
  refine pl_val (.int .i64 m) (y_move rfl) ?_
  refine pl_val (.int .i64 m) (y_assign rfl) ?_
  refine c_nil ?_
  refine c_seq (c_region ?_)
  refine pl_val (.int .i64 b) (y_move rfl) ?_
  refine pl_val (.int .i64 b) (y_assign rfl) ?_
  refine c_nil ?_
  refine c_seq ?_
  obtain ⟨o11, hl12, hs⟩ := bind_some hs
  refine wp_block ?_
  refine wp_iter (id := 0) (I := fun s7 a w8 => ∃ (σ : Nat → Value), a = fr 177 (ovl σ [(1, (.int .i64 a_)), (2, (.int .i64 m)), (3, (.int .i64 b)), (4, (.pointer (some ⟨g1, 0, none⟩))), (8, (.int .i64 s7.1)), (9, (.int .i64 s7.2))]) ∧ Chg (G_ ++ ([])) w w8 ∧ Own (Nw w (G_ ++ ([]))) M w8 (([g1]) ++ (G_ ++ [])) ∧ I_ w8 d_ ∧ BoxV w8 g1 122 [(.func (.func g_) #[] lb_), (.func (.func sf_) #[] sb_)]) (J := fun s7 a w8 => ∃ (σ : Nat → Value), a = fr 177 (ovl σ [(1, (.int .i64 a_)), (2, (.int .i64 m)), (3, (.int .i64 b)), (4, (.pointer (some ⟨g1, 0, none⟩))), (8, (.int .i64 s7.1))]) ∧ Chg (G_ ++ ([])) w w8 ∧ Own (Nw w (G_ ++ ([]))) M w8 (([g1]) ++ (G_ ++ [])) ∧ I_ w8 d_ ∧ BoxV w8 g1 122 [(.func (.func g_) #[] lb_), (.func (.func sf_) #[] sb_)]) (K := (k_sort_symMerge_func M w I_ G_)) ?_ FU (m, b) o11 _ _ ?_ hl12 ?_
  ·rintro s7 o11 a w8 ⟨σ, rfl, hC, hO, hI_, hb1⟩ hs
   refine c_seq ?_
   refine c_seq (c_region ?_)
   refine pl_val (.int .i64 s7.1) (y_move rfl) ?_
   refine pl_val (.int .i64 s7.2) (y_move rfl) ?_
   refine pl_val (.bool (decide (s7.1 < s7.2))) (y_lss rfl rfl) ?_
   refine c_nil ?_
   rcases bif_some hs with ⟨hc13, hs⟩ | ⟨hc13, hs⟩
   ·skip
    refine c_condT (congrArg Value.bool hc13) ?_
    refine wp_skip ?_
    refine wp_block ?_
    refine c_seq (c_region ?_)
    refine pl_val (.int .i64 s7.1) (y_move rfl) ?_
    refine pl_val (.int .i64 s7.2) (y_move rfl) ?_
    refine pl_val (.int .i64 (w64 (s7.1 + s7.2))) (y_add rfl rfl) ?_
    refine pl_val (.int .u64 (IntKind.u64.wrap (w64 (s7.1 + s7.2)))) (y_conv_int Try.underlying3 Try.underlying103 rfl) ?_
    refine pl_val (.int .u64 (ishr .u64 (IntKind.u64.wrap (w64 (s7.1 + s7.2))) 1)) (y_shr rfl rfl (by decide)) ?_
    refine pl_val (.int .i64 (w64 (ishr .u64 (IntKind.u64.wrap (w64 (s7.1 + s7.2))) 1))) (y_conv_int Try.underlying103 Try.underlying3 rfl) ?_
    refine pl_val (.int .i64 (w64 (ishr .u64 (IntKind.u64.wrap (w64 (s7.1 + s7.2))) 1))) (y_assign rfl) ?_
    refine c_nil ?_
    refine c_seq (c_region ?_)
    refine pl_val (.pointer (some ⟨g1, 0, none⟩)) (y_faddr rfl Fa122x0) ?_
    refine pl_val (.func (.func g_) #[] lb_) (y_load rfl ((box_load Ag111 Sz111 hb1 [] [(.func (.func g_) #[] lb_)] [(.func (.func sf_) #[] sb_)] rfl rfl (fun _ => rfl)) _ (Chg.refl _ _))) ?_
    refine pl_val (.int .i64 (w64 (ishr .u64 (IntKind.u64.wrap (w64 (s7.1 + s7.2))) 1))) (y_move rfl) ?_
    refine pl_val (.int .i64 a_) (y_move rfl) ?_
    obtain ⟨r15, hr15, hs⟩ := bind_some hs
    refine pl_callb rfl hE_.bod rfl (hE_.less hI_ hr15) ?_
    rintro _ w14 ⟨rfl, hC14⟩
    have hI_ := hE_.ext hI_ hC14 (fun _ h => nomatch h)
    have hb1 := hb1.chg hC14 (fun h => nomatch h)
    have hC := hC.ext hC14
    have hO := hO.ext hC14
    refine c_nil ?_
    rcases bif_some hs with ⟨hc16, hs⟩ | ⟨hc16, hs⟩
    ·skip
     refine c_condT (congrArg Value.bool hc16) ?_
     refine c_region ?_
     refine pl_val (.int .i64 (w64 (ishr .u64 (IntKind.u64.wrap (w64 (s7.1 + s7.2))) 1))) (y_move rfl) ?_
     refine pl_val (.int .i64 (w64 ((w64 (ishr .u64 (IntKind.u64.wrap (w64 (s7.1 + s7.2))) 1)) + 1))) (y_add rfl rfl) ?_
     refine pl_val (.int .i64 (w64 ((w64 (ishr .u64 (IntKind.u64.wrap (w64 (s7.1 + s7.2))) 1)) + 1))) (y_assign rfl) ?_
     refine c_nil ?_
     cases hs
     have hO := hO.fr1
     have hO := hO.fr1
     exact ⟨_, fr_ovl 177 ⟨rfl, rfl, rfl, rfl, rfl, rfl, trivial⟩, hC, hO, hI_, hb1⟩
    ·skip
     refine c_condF (congrArg Value.bool hc16) ?_
     refine c_region ?_
     refine pl_val (.int .i64 (w64 (ishr .u64 (IntKind.u64.wrap (w64 (s7.1 + s7.2))) 1))) (y_move rfl) ?_
     refine pl_val (.int .i64 (w64 (ishr .u64 (IntKind.u64.wrap (w64 (s7.1 + s7.2))) 1))) (y_assign rfl) ?_
     refine c_nil ?_
     cases hs
     have hO := hO.fr1
     have hO := hO.fr1
     exact ⟨_, fr_ovl 177 ⟨rfl, rfl, rfl, rfl, rfl, rfl, trivial⟩, hC, hO, hI_, hb1⟩
   ·skip
    refine c_condF (congrArg Value.bool hc13) ?_
    refine wp_exit ?_
    cases hs
    have hO := hO.fr1
    have hO := hO.fr1
    exact ⟨rfl, _, fr_ovl 177 ⟨rfl, rfl, rfl, rfl, rfl, trivial⟩, hC, hO, hI_, hb1⟩
  ·skip
   have hO := hO.fr1
   have hO := hO.fr1
   exact ⟨_, fr_ovl 177 ⟨rfl, rfl, rfl, rfl, rfl, rfl, trivial⟩, hC, hO, hI_, hb1⟩
  ·cases o11 with
   | nx _ => exact True.intro
   | rt r_ =>
    have hs := after_rt hs
    intro a1 w1 hK
    cases hs
    exact hK
   | br s7 =>
    have hs := after_br hs
    rintro a1 w8 ⟨σ, rfl, hC, hO, hI_, hb1⟩
    refine c_seq ?_
    refine c_seq (c_region ?_)
    refine pl_val (.int .i64 a_) (y_move rfl) ?_
    refine pl_val (.int .i64 a_) (y_assign rfl) ?_
    refine c_nil ?_
    obtain ⟨o26, hl27, hs⟩ := bind_some hs
    refine wp_block ?_
    refine wp_forC (id := 2) (w64 (s7.1 - 1)) (I := fun k24 s22 a w23 => ∃ (σ : Nat → Value), a = fr 177 (ovl σ [(1, (.int .i64 a_)), (2, (.int .i64 m)), (3, (.int .i64 b)), (4, (.pointer (some ⟨g1, 0, none⟩))), (8, (.int .i64 s7.1)), (11, (.int .i64 k24))]) ∧ Chg (G_ ++ ([])) w w23 ∧ Own (Nw w (G_ ++ ([]))) M w23 (([g1]) ++ (G_ ++ [])) ∧ I_ w23 s22 ∧ BoxV w23 g1 122 [(.func (.func g_) #[] lb_), (.func (.func sf_) #[] sb_)]) (J := fun s22 a w23 => ∃ (σ : Nat → Value), a = fr 177 (ovl σ [(1, (.int .i64 a_)), (2, (.int .i64 m)), (3, (.int .i64 b)), (4, (.pointer (some ⟨g1, 0, none⟩)))]) ∧ Chg (G_ ++ ([])) w w23 ∧ Own (Nw w (G_ ++ ([]))) M w23 (([g1]) ++ (G_ ++ [])) ∧ I_ w23 s22 ∧ BoxV w23 g1 122 [(.func (.func g_) #[] lb_), (.func (.func sf_) #[] sb_)]) (K := (k_sort_symMerge_func M w I_ G_)) ?_ ?_ a_ d_ o26 _ _ ?_ hl27 ?_
    ·rintro k24 s22 a w23 ⟨σ, rfl, hC, hO, hv28, hb1⟩ hlt
     refine c_seq ?_
     refine c_seq (c_region ?_)
     refine pl_val (.int .i64 k24) (y_move rfl) ?_
     refine pl_val (.int .i64 s7.1) (y_move rfl) ?_
     refine pl_val (.int .i64 (w64 (s7.1 - 1))) (y_sub rfl rfl) ?_
     refine pl_val (.bool (decide (k24 < (w64 (s7.1 - 1))))) (y_lss rfl rfl) ?_
     refine c_nil ?_
     refine c_condF (congrArg Value.bool (decide_eq_false hlt)) ?_
     refine wp_exit ?_
     have hO := hO.fr1
     have hO := hO.fr1
     exact ⟨rfl, _, fr_ovl 177 ⟨rfl, rfl, rfl, rfl, trivial⟩, hC, hO, hv28, hb1⟩
    ·rintro k24 s22 o26 a w23 ⟨σ, rfl, hC, hO, hv28, hb1⟩ hlt hw hs
     refine c_seq ?_
     refine c_seq (c_region ?_)
     refine pl_val (.int .i64 k24) (y_move rfl) ?_
     refine pl_val (.int .i64 s7.1) (y_move rfl) ?_
     refine pl_val (.int .i64 (w64 (s7.1 - 1))) (y_sub rfl rfl) ?_
     refine pl_val (.bool (decide (k24 < (w64 (s7.1 - 1))))) (y_lss rfl rfl) ?_
     refine c_nil ?_
     refine c_condT (congrArg Value.bool (decide_eq_true hlt)) ?_
     refine wp_skip ?_
     refine c_seq ?_
     refine wp_block ?_
     refine c_region ?_
     refine pl_val (.pointer (some ⟨g1, 1, none⟩)) (y_faddr rfl Fa122x1) ?_
     refine pl_val (.func (.func sf_) #[] sb_) (y_load rfl ((box_load Ag118 Sz118 hb1 [(.func (.func g_) #[] lb_)] [(.func (.func sf_) #[] sb_)] [] rfl rfl (fun _ => rfl)) _ (Chg.refl _ _))) ?_
     refine pl_val (.int .i64 k24) (y_move rfl) ?_
     refine pl_val (.int .i64 k24) (y_move rfl) ?_
     refine pl_val (.int .i64 (w64 (k24 + 1))) (y_add rfl rfl) ?_
     obtain ⟨y31, hy31, hs⟩ := bind_some hs
     obtain ⟨w30, hx30, hC30, hv30⟩ := hE_.swap hv28 hy31
     refine pl_val (w' := w30) (.tuple #[]) (y_callx rfl rfl hx30) ?_
     have hO := hO.fr1
     have hb1 := hb1.chg hC30 (fun hg => hO.apart _ ((fun _ h => h) _ hg) (mem_l (List.mem_singleton.2 rfl)))
     have hC := hC.step hC30 (fun g hg => hO.inN g ((fun _ h => h) g hg))
     have hO := hO.ext hC30
     refine c_nil ?_
     refine c_region ?_
     refine pl_val (.int .i64 k24) (y_move rfl) ?_
     refine pl_val (.int .i64 (w64 (k24 + 1))) (y_add rfl rfl) ?_
     refine pl_val (.int .i64 (w64 (k24 + 1))) (y_assign rfl) ?_
     refine c_nil ?_
     cases hs
     have hO := hO.fr1
     exact ⟨_, fr_ovl 177 ⟨rfl, rfl, rfl, rfl, rfl, congrArg (Value.int .i64) hw, trivial⟩, hC, hO, hv30, hb1⟩
    ·skip
     have hO := hO.fr1
     have hO := hO.fr1
     exact ⟨_, fr_ovl 177 ⟨rfl, rfl, rfl, rfl, rfl, rfl, trivial⟩, hC, hO, hI_, hb1⟩
    ·cases o26 with
     | nx _ => exact True.intro
     | rt r_ =>
      have hs := after_rt hs
      intro a1 w1 hK
      cases hs
      exact hK
     | br s22 =>
      have hs := after_br hs
      rintro a1 w23 ⟨σ, rfl, hC, hO, hv29, hb1⟩
      refine wp_ret ?_
      cases hs
      exact ⟨_, fr_ovl 177 trivial, hC, hv29⟩
 ·skip
  refine c_condF (congrArg Value.bool hc2) ?_
  refine wp_skip ?_
  refine c_seq ?_
  refine c_seq (c_region ?_)
  refine pl_val (.int .i64 b) (y_move rfl) ?_
  refine pl_val (.int .i64 m) (y_move rfl) ?_
  refine pl_val (.int .i64 (w64 (b - m))) (y_sub rfl rfl) ?_
  refine pl_val (.bool ((w64 (b - m)) == 1)) (y_eql rfl rfl) ?_
  refine c_nil ?_
  rcases bif_some hs with ⟨hc32, hs⟩ | ⟨hc32, hs⟩
  ·skip
   refine c_condT (congrArg Value.bool hc32) ?_
   refine c_seq (c_region ?_)
   refine pl_val (.int .i64 a_) (y_move rfl) ?_
   refine pl_val (.int .i64 a_) (y_assign rfl) ?_
   refine c_nil ?_
   refine c_seq (c_region ?_)
   refine pl_val (.int .i64 m) (y_move rfl) ?_
   refine pl_val (.int .i64 m) (y_assign rfl) ?_
   refine c_nil ?_
   refine c_seq ?_
   obtain ⟨o41, hl42, hs⟩ := bind_some hs
   refine wp_block ?_
   refine wp_iter (id := 4) (I := fun s37 a w38 => ∃ (σ : Nat → Value), a = fr 177 (ovl σ [(1, (.int .i64 a_)), (2, (.int .i64 m)), (3, (.int .i64 b)), (4, (.pointer (some ⟨g1, 0, none⟩))), (12, (.int .i64 s37.1)), (13, (.int .i64 s37.2))]) ∧ Chg (G_ ++ ([])) w w38 ∧ Own (Nw w (G_ ++ ([]))) M w38 (([g1]) ++ (G_ ++ [])) ∧ I_ w38 d_ ∧ BoxV w38 g1 122 [(.func (.func g_) #[] lb_), (.func (.func sf_) #[] sb_)]) (J := fun s37 a w38 => ∃ (σ : Nat → Value), a = fr 177 (ovl σ [(1, (.int .i64 a_)), (2, (.int .i64 m)), (3, (.int .i64 b)), (4, (.pointer (some ⟨g1, 0, none⟩))), (12, (.int .i64 s37.1))]) ∧ Chg (G_ ++ ([])) w w38 ∧ Own (Nw w (G_ ++ ([]))) M w38 (([g1]) ++ (G_ ++ [])) ∧ I_ w38 d_ ∧ BoxV w38 g1 122 [(.func (.func g_) #[] lb_), (.func (.func sf_) #[] sb_)]) (K := (k_sort_symMerge_func M w I_ G_)) ?_ FU (a_, m) o41 _ _ ?_ hl42 ?_
   ·rintro s37 o41 a w38 ⟨σ, rfl, hC, hO, hI_, hb1⟩ hs
    refine c_seq ?_
    refine c_seq (c_region ?_)
    refine pl_val (.int .i64 s37.1) (y_move rfl) ?_
    refine pl_val (.int .i64 s37.2) (y_move rfl) ?_
    refine pl_val (.bool (decide (s37.1 < s37.2))) (y_lss rfl rfl) ?_
    refine c_nil ?_
    rcases bif_some hs with ⟨hc43, hs⟩ | ⟨hc43, hs⟩
    ·skip
     refine c_condT (congrArg Value.bool hc43) ?_
     refine wp_skip ?_
     refine wp_block ?_
     refine c_seq (c_region ?_)
     refine pl_val (.int .i64 s37.1) (y_move rfl) ?_
     refine pl_val (.int .i64 s37.2) (y_move rfl) ?_
     refine pl_val (.int .i64 (w64 (s37.1 + s37.2))) (y_add rfl rfl) ?_
     refine pl_val (.int .u64 (IntKind.u64.wrap (w64 (s37.1 + s37.2)))) (y_conv_int Try.underlying3 Try.underlying103 rfl) ?_
     refine pl_val (.int .u64 (ishr .u64 (IntKind.u64.wrap (w64 (s37.1 + s37.2))) 1)) (y_shr rfl rfl (by decide)) ?_
     refine pl_val (.int .i64 (w64 (ishr .u64 (IntKind.u64.wrap (w64 (s37.1 + s37.2))) 1))) (y_conv_int Try.underlying103 Try.underlying3 rfl) ?_
     refine pl_val (.int .i64 (w64 (ishr .u64 (IntKind.u64.wrap (w64 (s37.1 + s37.2))) 1))) (y_assign rfl) ?_
     refine c_nil ?_
     refine c_seq (c_region ?_)
     refine pl_val (.pointer (some ⟨g1, 0, none⟩)) (y_faddr rfl Fa122x0) ?_
     refine pl_val (.func (.func g_) #[] lb_) (y_load rfl ((box_load Ag111 Sz111 hb1 [] [(.func (.func g_) #[] lb_)] [(.func (.func sf_) #[] sb_)] rfl rfl (fun _ => rfl)) _ (Chg.refl _ _))) ?_
     refine pl_val (.int .i64 m) (y_move rfl) ?_
     refine pl_val (.int .i64 (w64 (ishr .u64 (IntKind.u64.wrap (w64 (s37.1 + s37.2))) 1))) (y_move rfl) ?_
     obtain ⟨r45, hr45, hs⟩ := bind_some hs
     refine pl_callb rfl hE_.bod rfl (hE_.less hI_ hr45) ?_
     rintro _ w44 ⟨rfl, hC44⟩
     have hI_ := hE_.ext hI_ hC44 (fun _ h => nomatch h)
     have hb1 := hb1.chg hC44 (fun h => nomatch h)
     have hC := hC.ext hC44
     have hO := hO.ext hC44
     refine pl_val (.bool (!r45)) (y_not rfl) ?_
     refine c_nil ?_
     rcases bif_some hs with ⟨hc46, hs⟩ | ⟨hc46, hs⟩
     ·skip
      refine c_condT (congrArg Value.bool hc46) ?_
      refine c_region ?_
      refine pl_val (.int .i64 (w64 (ishr .u64 (IntKind.u64.wrap (w64 (s37.1 + s37.2))) 1))) (y_move rfl) ?_
      refine pl_val (.int .i64 (w64 ((w64 (ishr .u64 (IntKind.u64.wrap (w64 (s37.1 + s37.2))) 1)) + 1))) (y_add rfl rfl) ?_
      refine pl_val (.int .i64 (w64 ((w64 (ishr .u64 (IntKind.u64.wrap (w64 (s37.1 + s37.2))) 1)) + 1))) (y_assign rfl) ?_
      refine c_nil ?_
      cases hs
      have hO := hO.fr1
      have hO := hO.fr1
      exact ⟨_, fr_ovl 177 ⟨rfl, rfl, rfl, rfl, rfl, rfl, trivial⟩, hC, hO, hI_, hb1⟩
     ·skip
      refine c_condF (congrArg Value.bool hc46) ?_
      refine c_region ?_
      refine pl_val (.int .i64 (w64 (ishr .u64 (IntKind.u64.wrap (w64 (s37.1 + s37.2))) 1))) (y_move rfl) ?_
      refine pl_val (.int .i64 (w64 (ishr .u64 (IntKind.u64.wrap (w64 (s37.1 + s37.2))) 1))) (y_assign rfl) ?_
      refine c_nil ?_
      cases hs
      have hO := hO.fr1
      have hO := hO.fr1
      exact ⟨_, fr_ovl 177 ⟨rfl, rfl, rfl, rfl, rfl, rfl, trivial⟩, hC, hO, hI_, hb1⟩
    ·skip
     refine c_condF (congrArg Value.bool hc43) ?_
     refine wp_exit ?_
     cases hs
     have hO := hO.fr1
     have hO := hO.fr1
     exact ⟨rfl, _, fr_ovl 177 ⟨rfl, rfl, rfl, rfl, rfl, trivial⟩, hC, hO, hI_, hb1⟩
   ·skip
    have hO := hO.fr1
    have hO := hO.fr1
    exact ⟨_, fr_ovl 177 ⟨rfl, rfl, rfl, rfl, rfl, rfl, trivial⟩, hC, hO, hI_, hb1⟩
   ·cases o41 with
    | nx _ => exact True.intro
    | rt r_ =>
     have hs := after_rt hs
     intro a1 w1 hK
     cases hs
     exact hK
    | br s37 =>
     have hs := after_br hs
     rintro a1 w38 ⟨σ, rfl, hC, hO, hI_, hb1⟩
     refine c_seq ?_
     refine c_seq (c_region ?_)
     refine pl_val (.int .i64 m) (y_move rfl) ?_
     refine pl_val (.int .i64 m) (y_assign rfl) ?_
     refine c_nil ?_
     obtain ⟨o58, hl59, hs⟩ := bind_some hs
     refine wp_block ?_
     refine wp_iter (id := 6) (I := fun s54 a w55 => ∃ (σ : Nat → Value), a = fr 177 (ovl σ [(1, (.int .i64 a_)), (2, (.int .i64 m)), (3, (.int .i64 b)), (4, (.pointer (some ⟨g1, 0, none⟩))), (12, (.int .i64 s37.1)), (15, (.int .i64 s54.1))]) ∧ Chg (G_ ++ ([])) w w55 ∧ Own (Nw w (G_ ++ ([]))) M w55 (([g1]) ++ (G_ ++ [])) ∧ I_ w55 s54.2 ∧ BoxV w55 g1 122 [(.func (.func g_) #[] lb_), (.func (.func sf_) #[] sb_)]) (J := fun s54 a w55 => ∃ (σ : Nat → Value), a = fr 177 (ovl σ [(1, (.int .i64 a_)), (2, (.int .i64 m)), (3, (.int .i64 b)), (4, (.pointer (some ⟨g1, 0, none⟩)))]) ∧ Chg (G_ ++ ([])) w w55 ∧ Own (Nw w (G_ ++ ([]))) M w55 (([g1]) ++ (G_ ++ [])) ∧ I_ w55 s54.2 ∧ BoxV w55 g1 122 [(.func (.func g_) #[] lb_), (.func (.func sf_) #[] sb_)]) (K := (k_sort_symMerge_func M w I_ G_)) ?_ FU (m, d_) o58 _ _ ?_ hl59 ?_
     ·rintro s54 o58 a w55 ⟨σ, rfl, hC, hO, hv60, hb1⟩ hs
      refine c_seq ?_
      refine c_seq (c_region ?_)
      refine pl_val (.int .i64 s54.1) (y_move rfl) ?_
      refine pl_val (.int .i64 s37.1) (y_move rfl) ?_
      refine pl_val (.bool (decide (s37.1 < s54.1))) (y_gtr rfl rfl) ?_
      refine c_nil ?_
      rcases bif_some hs with ⟨hc62, hs⟩ | ⟨hc62, hs⟩
      ·skip
       refine c_condT (congrArg Value.bool hc62) ?_
       refine wp_skip ?_
       refine c_seq ?_
       refine wp_block ?_
       refine c_region ?_
       refine pl_val (.pointer (some ⟨g1, 1, none⟩)) (y_faddr rfl Fa122x1) ?_
       refine pl_val (.func (.func sf_) #[] sb_) (y_load rfl ((box_load Ag118 Sz118 hb1 [(.func (.func g_) #[] lb_)] [(.func (.func sf_) #[] sb_)] [] rfl rfl (fun _ => rfl)) _ (Chg.refl _ _))) ?_
       refine pl_val (.int .i64 s54.1) (y_move rfl) ?_
       refine pl_val (.int .i64 s54.1) (y_move rfl) ?_
       refine pl_val (.int .i64 (w64 (s54.1 - 1))) (y_sub rfl rfl) ?_
       obtain ⟨y64, hy64, hs⟩ := bind_some hs
       obtain ⟨w63, hx63, hC63, hv63⟩ := hE_.swap hv60 hy64
       refine pl_val (w' := w63) (.tuple #[]) (y_callx rfl rfl hx63) ?_
       have hO := hO.fr1
       have hb1 := hb1.chg hC63 (fun hg => hO.apart _ ((fun _ h => h) _ hg) (mem_l (List.mem_singleton.2 rfl)))
       have hC := hC.step hC63 (fun g hg => hO.inN g ((fun _ h => h) g hg))
       have hO := hO.ext hC63
       refine c_nil ?_
       refine c_region ?_
       refine pl_val (.int .i64 s54.1) (y_move rfl) ?_
       refine pl_val (.int .i64 (w64 (s54.1 - 1))) (y_sub rfl rfl) ?_
       refine pl_val (.int .i64 (w64 (s54.1 - 1))) (y_assign rfl) ?_
       refine c_nil ?_
       cases hs
       have hO := hO.fr1
       exact ⟨_, fr_ovl 177 ⟨rfl, rfl, rfl, rfl, rfl, rfl, trivial⟩, hC, hO, hv63, hb1⟩
      ·skip
       refine c_condF (congrArg Value.bool hc62) ?_
       refine wp_exit ?_
       cases hs
       have hO := hO.fr1
       have hO := hO.fr1
       exact ⟨rfl, _, fr_ovl 177 ⟨rfl, rfl, rfl, rfl, trivial⟩, hC, hO, hv60, hb1⟩
     ·skip
      have hO := hO.fr1
      have hO := hO.fr1
      exact ⟨_, fr_ovl 177 ⟨rfl, rfl, rfl, rfl, rfl, rfl, trivial⟩, hC, hO, hI_, hb1⟩
     ·cases o58 with
      | nx _ => exact True.intro
      | rt r_ =>
       have hs := after_rt hs
       intro a1 w1 hK
       cases hs
       exact hK
      | br s54 =>
       have hs := after_br hs
       rintro a1 w55 ⟨σ, rfl, hC, hO, hv61, hb1⟩
       refine wp_ret ?_
       cases hs
       exact ⟨_, fr_ovl 177 trivial, hC, hv61⟩
  ·skip
   refine c_condF (congrArg Value.bool hc32) ?_
   refine wp_skip ?_
   refine c_seq (c_region ?_)
   refine pl_val (.int .i64 a_) (y_move rfl) ?_
   refine pl_val (.int .i64 b) (y_move rfl) ?_
   refine pl_val (.int .i64 (w64 (a_ + b))) (y_add rfl rfl) ?_
   refine pl_val (.int .u64 (IntKind.u64.wrap (w64 (a_ + b)))) (y_conv_int Try.underlying3 Try.underlying103 rfl) ?_
   refine pl_val (.int .u64 (ishr .u64 (IntKind.u64.wrap (w64 (a_ + b))) 1)) (y_shr rfl rfl (by decide)) ?_
   refine pl_val (.int .i64 (w64 (ishr .u64 (IntKind.u64.wrap (w64 (a_ + b))) 1))) (y_conv_int Try.underlying103 Try.underlying3 rfl) ?_
   refine pl_val (.int .i64 (w64 (ishr .u64 (IntKind.u64.wrap (w64 (a_ + b))) 1))) (y_assign rfl) ?_
   refine c_nil ?_
   refine c_seq (c_region ?_)
   refine pl_val (.int .i64 (w64 (ishr .u64 (IntKind.u64.wrap (w64 (a_ + b))) 1))) (y_move rfl) ?_
   refine pl_val (.int .i64 m) (y_move rfl) ?_
   refine pl_val (.int .i64 (w64 ((w64 (ishr .u64 (IntKind.u64.wrap (w64 (a_ + b))) 1)) + m))) (y_add rfl rfl) ?_
   refine pl_val (.int .i64 (w64 ((w64 (ishr .u64 (IntKind.u64.wrap (w64 (a_ + b))) 1)) + m))) (y_assign rfl) ?_
   refine c_nil ?_
   refine c_seq (c_region ?_)
   refine pl_val (.int .i64 0) (y_assign rfl) ?_
   refine pl_val (.int .i64 0) (y_assign rfl) ?_
   refine c_nil ?_
   refine c_seq ?_
   refine c_seq (c_region ?_)
   refine pl_val (.int .i64 m) (y_move rfl) ?_
   refine pl_val (.int .i64 (w64 (ishr .u64 (IntKind.u64.wrap (w64 (a_ + b))) 1))) (y_move rfl) ?_
   refine pl_val (.bool (decide ((w64 (ishr .u64 (IntKind.u64.wrap (w64 (a_ + b))) 1)) < m))) (y_gtr rfl rfl) ?_
   refine c_nil ?_
   obtain ⟨s65, hm67, hs⟩ := bind_some hs
   refine c_mid (I := fun a w66 => ∃ (σ : Nat → Value), a = fr 177 (ovl σ [(1, (.int .i64 a_)), (2, (.int .i64 m)), (3, (.int .i64 b)), (4, (.pointer (some ⟨g1, 0, none⟩))), (16, (.int .i64 (w64 (ishr .u64 (IntKind.u64.wrap (w64 (a_ + b))) 1)))), (17, (.int .i64 (w64 ((w64 (ishr .u64 (IntKind.u64.wrap (w64 (a_ + b))) 1)) + m)))), (18, (.int .i64 s65.1)), (19, (.int .i64 s65.2))]) ∧ Chg (G_ ++ ([])) w w66 ∧ Own (Nw w (G_ ++ ([]))) M w66 (([g1]) ++ (G_ ++ [])) ∧ I_ w66 d_ ∧ BoxV w66 g1 122 [(.func (.func g_) #[] lb_), (.func (.func sf_) #[] sb_)]) ?_ ?_
   ·replace hs := hm67
    rcases bif_some hs with ⟨hc68, hs⟩ | ⟨hc68, hs⟩
    ·skip
     refine c_condT (congrArg Value.bool hc68) ?_
     refine c_seq (c_region ?_)
     refine pl_val (.int .i64 (w64 ((w64 (ishr .u64 (IntKind.u64.wrap (w64 (a_ + b))) 1)) + m))) (y_move rfl) ?_
     refine pl_val (.int .i64 b) (y_move rfl) ?_
     refine pl_val (.int .i64 (w64 ((w64 ((w64 (ishr .u64 (IntKind.u64.wrap (w64 (a_ + b))) 1)) + m)) - b))) (y_sub rfl rfl) ?_
     refine pl_val (.int .i64 (w64 ((w64 ((w64 (ishr .u64 (IntKind.u64.wrap (w64 (a_ + b))) 1)) + m)) - b))) (y_assign rfl) ?_
     refine c_nil ?_
     refine c_region ?_
     refine pl_val (.int .i64 (w64 (ishr .u64 (IntKind.u64.wrap (w64 (a_ + b))) 1))) (y_move rfl) ?_
     refine pl_val (.int .i64 (w64 (ishr .u64 (IntKind.u64.wrap (w64 (a_ + b))) 1))) (y_assign rfl) ?_
     refine c_nil ?_
     cases hs
     have hO := hO.fr1
     have hO := hO.fr1
     exact ⟨_, fr_ovl 177 ⟨rfl, rfl, rfl, rfl, rfl, rfl, rfl, rfl, trivial⟩, hC, hO, hI_, hb1⟩
    ·skip
     refine c_condF (congrArg Value.bool hc68) ?_
     refine c_seq (c_region ?_)
     refine pl_val (.int .i64 a_) (y_move rfl) ?_
     refine pl_val (.int .i64 a_) (y_assign rfl) ?_
     refine c_nil ?_
     refine c_region ?_
     refine pl_val (.int .i64 m) (y_move rfl) ?_
     refine pl_val (.int .i64 m) (y_assign rfl) ?_
     refine c_nil ?_
     cases hs
     have hO := hO.fr1
     have hO := hO.fr1
     exact ⟨_, fr_ovl 177 ⟨rfl, rfl, rfl, rfl, rfl, rfl, rfl, rfl, trivial⟩, hC, hO, hI_, hb1⟩
   ·rintro a1 w66 ⟨σ, rfl, hC, hO, hI_, hb1⟩
    refine c_seq (c_region ?_)
    refine pl_val (.int .i64 (w64 ((w64 (ishr .u64 (IntKind.u64.wrap (w64 (a_ + b))) 1)) + m))) (y_move rfl) ?_
    refine pl_val (.int .i64 (w64 ((w64 ((w64 (ishr .u64 (IntKind.u64.wrap (w64 (a_ + b))) 1)) + m)) - 1))) (y_sub rfl rfl) ?_
    refine pl_val (.int .i64 (w64 ((w64 ((w64 (ishr .u64 (IntKind.u64.wrap (w64 (a_ + b))) 1)) + m)) - 1))) (y_assign rfl) ?_
    refine c_nil ?_
    refine c_seq ?_
    obtain ⟨o77, hl78, hs⟩ := bind_some hs
    refine wp_block ?_
    refine wp_iter (id := 8) (I := fun s73 a w74 => ∃ (σ : Nat → Value), a = fr 177 (ovl σ [(1, (.int .i64 a_)), (2, (.int .i64 m)), (3, (.int .i64 b)), (4, (.pointer (some ⟨g1, 0, none⟩))), (16, (.int .i64 (w64 (ishr .u64 (IntKind.u64.wrap (w64 (a_ + b))) 1)))), (17, (.int .i64 (w64 ((w64 (ishr .u64 (IntKind.u64.wrap (w64 (a_ + b))) 1)) + m)))), (18, (.int .i64 s73.1)), (19, (.int .i64 s73.2)), (20, (.int .i64 (w64 ((w64 ((w64 (ishr .u64 (IntKind.u64.wrap (w64 (a_ + b))) 1)) + m)) - 1))))]) ∧ Chg (G_ ++ ([])) w w74 ∧ Own (Nw w (G_ ++ ([]))) M w74 (([g1]) ++ (G_ ++ [])) ∧ I_ w74 d_ ∧ BoxV w74 g1 122 [(.func (.func g_) #[] lb_), (.func (.func sf_) #[] sb_)]) (J := fun s73 a w74 => ∃ (σ : Nat → Value), a = fr 177 (ovl σ [(1, (.int .i64 a_)), (2, (.int .i64 m)), (3, (.int .i64 b)), (4, (.pointer (some ⟨g1, 0, none⟩))), (16, (.int .i64 (w64 (ishr .u64 (IntKind.u64.wrap (w64 (a_ + b))) 1)))), (17, (.int .i64 (w64 ((w64 (ishr .u64 (IntKind.u64.wrap (w64 (a_ + b))) 1)) + m)))), (18, (.int .i64 s73.1))]) ∧ Chg (G_ ++ ([])) w w74 ∧ Own (Nw w (G_ ++ ([]))) M w74 (([g1]) ++ (G_ ++ [])) ∧ I_ w74 d_ ∧ BoxV w74 g1 122 [(.func (.func g_) #[] lb_), (.func (.func sf_) #[] sb_)]) (K := (k_sort_symMerge_func M w I_ G_)) ?_ FU (s65.1, s65.2) o77 _ _ ?_ hl78 ?_
    ·rintro s73 o77 a w74 ⟨σ, rfl, hC, hO, hI_, hb1⟩ hs
     refine c_seq ?_
     refine c_seq (c_region ?_)
     refine pl_val (.int .i64 s73.1) (y_move rfl) ?_
     refine pl_val (.int .i64 s73.2) (y_move rfl) ?_
     refine pl_val (.bool (decide (s73.1 < s73.2))) (y_lss rfl rfl) ?_
     refine c_nil ?_
     rcases bif_some hs with ⟨hc79, hs⟩ | ⟨hc79, hs⟩
     ·skip
      refine c_condT (congrArg Value.bool hc79) ?_
      refine wp_skip ?_
      refine wp_block ?_
      refine c_seq (c_region ?_)
      refine pl_val (.int .i64 s73.1) (y_move rfl) ?_
      refine pl_val (.int .i64 s73.2) (y_move rfl) ?_
      refine pl_val (.int .i64 (w64 (s73.1 + s73.2))) (y_add rfl rfl) ?_
      refine pl_val (.int .u64 (IntKind.u64.wrap (w64 (s73.1 + s73.2)))) (y_conv_int Try.underlying3 Try.underlying103 rfl) ?_
      refine pl_val (.int .u64 (ishr .u64 (IntKind.u64.wrap (w64 (s73.1 + s73.2))) 1)) (y_shr rfl rfl (by decide)) ?_
      refine pl_val (.int .i64 (w64 (ishr .u64 (IntKind.u64.wrap (w64 (s73.1 + s73.2))) 1))) (y_conv_int Try.underlying103 Try.underlying3 rfl) ?_
      refine pl_val (.int .i64 (w64 (ishr .u64 (IntKind.u64.wrap (w64 (s73.1 + s73.2))) 1))) (y_assign rfl) ?_
      refine c_nil ?_
      refine c_seq (c_region ?_)
      refine pl_val (.pointer (some ⟨g1, 0, none⟩)) (y_faddr rfl Fa122x0) ?_
      refine pl_val (.func (.func g_) #[] lb_) (y_load rfl ((box_load Ag111 Sz111 hb1 [] [(.func (.func g_) #[] lb_)] [(.func (.func sf_) #[] sb_)] rfl rfl (fun _ => rfl)) _ (Chg.refl _ _))) ?_
      refine pl_val (.int .i64 (w64 ((w64 ((w64 (ishr .u64 (IntKind.u64.wrap (w64 (a_ + b))) 1)) + m)) - 1))) (y_move rfl) ?_
      refine pl_val (.int .i64 (w64 (ishr .u64 (IntKind.u64.wrap (w64 (s73.1 + s73.2))) 1))) (y_move rfl) ?_
      refine pl_val (.int .i64 (w64 ((w64 ((w64 ((w64 (ishr .u64 (IntKind.u64.wrap (w64 (a_ + b))) 1)) + m)) - 1)) - (w64 (ishr .u64 (IntKind.u64.wrap (w64 (s73.1 + s73.2))) 1))))) (y_sub rfl rfl) ?_
      refine pl_val (.int .i64 (w64 (ishr .u64 (IntKind.u64.wrap (w64 (s73.1 + s73.2))) 1))) (y_move rfl) ?_
      obtain ⟨r81, hr81, hs⟩ := bind_some hs
      refine pl_callb rfl hE_.bod rfl (hE_.less hI_ hr81) ?_
      rintro _ w80 ⟨rfl, hC80⟩
      have hI_ := hE_.ext hI_ hC80 (fun _ h => nomatch h)
      have hb1 := hb1.chg hC80 (fun h => nomatch h)
      have hC := hC.ext hC80
      have hO := hO.ext hC80
      refine pl_val (.bool (!r81)) (y_not rfl) ?_
      refine c_nil ?_
      rcases bif_some hs with ⟨hc82, hs⟩ | ⟨hc82, hs⟩
      ·skip
       refine c_condT (congrArg Value.bool hc82) ?_
       refine c_region ?_
       refine pl_val (.int .i64 (w64 (ishr .u64 (IntKind.u64.wrap (w64 (s73.1 + s73.2))) 1))) (y_move rfl) ?_
       refine pl_val (.int .i64 (w64 ((w64 (ishr .u64 (IntKind.u64.wrap (w64 (s73.1 + s73.2))) 1)) + 1))) (y_add rfl rfl) ?_
       refine pl_val (.int .i64 (w64 ((w64 (ishr .u64 (IntKind.u64.wrap (w64 (s73.1 + s73.2))) 1)) + 1))) (y_assign rfl) ?_
       refine c_nil ?_
       cases hs
       have hO := hO.fr1
       have hO := hO.fr1
       exact ⟨_, fr_ovl 177 ⟨rfl, rfl, rfl, rfl, rfl, rfl, rfl, rfl, rfl, trivial⟩, hC, hO, hI_, hb1⟩
      ·skip
       refine c_condF (congrArg Value.bool hc82) ?_
       refine c_region ?_
       refine pl_val (.int .i64 (w64 (ishr .u64 (IntKind.u64.wrap (w64 (s73.1 + s73.2))) 1))) (y_move rfl) ?_
       refine pl_val (.int .i64 (w64 (ishr .u64 (IntKind.u64.wrap (w64 (s73.1 + s73.2))) 1))) (y_assign rfl) ?_
       refine c_nil ?_
       cases hs
       have hO := hO.fr1
       have hO := hO.fr1
       exact ⟨_, fr_ovl 177 ⟨rfl, rfl, rfl, rfl, rfl, rfl, rfl, rfl, rfl, trivial⟩, hC, hO, hI_, hb1⟩
     ·skip
      refine c_condF (congrArg Value.bool hc79) ?_
      refine wp_exit ?_
      cases hs
      have hO := hO.fr1
      have hO := hO.fr1
      exact ⟨rfl, _, fr_ovl 177 ⟨rfl, rfl, rfl, rfl, rfl, rfl, rfl, trivial⟩, hC, hO, hI_, hb1⟩
    ·skip
     have hO := hO.fr1
     have hO := hO.fr1
     exact ⟨_, fr_ovl 177 ⟨rfl, rfl, rfl, rfl, rfl, rfl, rfl, rfl, rfl, trivial⟩, hC, hO, hI_, hb1⟩
    ·cases o77 with
     | nx _ => exact True.intro
     | rt r_ =>
      have hs := after_rt hs
      intro a1 w1 hK
      cases hs
      exact hK
     | br s73 =>
      have hs := after_br hs
      rintro a1 w74 ⟨σ, rfl, hC, hO, hI_, hb1⟩
      refine c_seq (c_region ?_)
      refine pl_val (.int .i64 (w64 ((w64 (ishr .u64 (IntKind.u64.wrap (w64 (a_ + b))) 1)) + m))) (y_move rfl) ?_
      refine pl_val (.int .i64 s73.1) (y_move rfl) ?_
      refine pl_val (.int .i64 (w64 ((w64 ((w64 (ishr .u64 (IntKind.u64.wrap (w64 (a_ + b))) 1)) + m)) - s73.1))) (y_sub rfl rfl) ?_
      refine pl_val (.int .i64 (w64 ((w64 ((w64 (ishr .u64 (IntKind.u64.wrap (w64 (a_ + b))) 1)) + m)) - s73.1))) (y_assign rfl) ?_
      refine c_nil ?_
      refine c_seq ?_
      refine c_seq ?_
      refine c_mid (I := fun a w84 => ∃ (σ : Nat → Value), a = fr 177 (ovl σ [(1, (.int .i64 a_)), (2, (.int .i64 m)), (3, (.int .i64 b)), (4, (.pointer (some ⟨g1, 0, none⟩))), (16, (.int .i64 (w64 (ishr .u64 (IntKind.u64.wrap (w64 (a_ + b))) 1)))), (18, (.int .i64 s73.1)), (22, (.int .i64 (w64 ((w64 ((w64 (ishr .u64 (IntKind.u64.wrap (w64 (a_ + b))) 1)) + m)) - s73.1)))), (145, (.bool ((decide (s73.1 < m)) && (decide (m < (w64 ((w64 ((w64 (ishr .u64 (IntKind.u64.wrap (w64 (a_ + b))) 1)) + m)) - s73.1)))))))]) ∧ Chg [] w74 w84) ?_ ?_
      ·have hMid := Chg.refl [] w74
       refine c_region ?_
       refine pl_val (.int .i64 s73.1) (y_move rfl) ?_
       refine pl_val (.int .i64 m) (y_move rfl) ?_
       refine pl_val (.bool (decide (s73.1 < m))) (y_lss rfl rfl) ?_
       refine pl_val (.bool (decide (s73.1 < m))) (y_move rfl) ?_
       rcases Bool.eq_false_or_eq_true ((decide (s73.1 < m))) with hc86 | hc86
       ·skip
        refine pl_yes (.int .i64 m) (tg := 141) (by kernel_rfl) (congrArg Value.bool hc86) (y_move rfl) ?_
        refine pl_yes (.int .i64 (w64 ((w64 ((w64 (ishr .u64 (IntKind.u64.wrap (w64 (a_ + b))) 1)) + m)) - s73.1))) (tg := 141) (by kernel_rfl) (congrArg Value.bool hc86) (y_move rfl) ?_
        refine pl_yes (.bool (decide (m < (w64 ((w64 ((w64 (ishr .u64 (IntKind.u64.wrap (w64 (a_ + b))) 1)) + m)) - s73.1))))) (tg := 141) (by kernel_rfl) (congrArg Value.bool hc86) (y_lss rfl rfl) ?_
        refine pl_val (.bool ((decide (s73.1 < m)) && (decide (m < (w64 ((w64 ((w64 (ishr .u64 (IntKind.u64.wrap (w64 (a_ + b))) 1)) + m)) - s73.1)))))) (y_pick_t (congrArg Value.bool hc86) (congrArg Value.bool (by rw [hc86]; rfl))) ?_
        refine c_nil ?_
        exact ⟨_, fr_ovl 177 ⟨rfl, rfl, rfl, rfl, rfl, rfl, rfl, rfl, trivial⟩, hMid⟩
       ·skip
        refine pl_not (tg := 141) (by kernel_rfl) (congrArg Value.bool hc86) ?_
        refine pl_not (tg := 141) (by kernel_rfl) (congrArg Value.bool hc86) ?_
        refine pl_not (tg := 141) (by kernel_rfl) (congrArg Value.bool hc86) ?_
        refine pl_val (.bool ((decide (s73.1 < m)) && (decide (m < (w64 ((w64 ((w64 (ishr .u64 (IntKind.u64.wrap (w64 (a_ + b))) 1)) + m)) - s73.1)))))) (y_pick_f (congrArg Value.bool hc86) (congrArg Value.bool (by rw [hc86]; rfl))) ?_
        refine c_nil ?_
        exact ⟨_, fr_ovl 177 ⟨rfl, rfl, rfl, rfl, rfl, rfl, rfl, rfl, trivial⟩, hMid⟩
      ·rintro a1 w84 ⟨σ, rfl, hCs83⟩
       have hI_ := hE_.ext hI_ hCs83 (fun _ h => nomatch h)
       have hb1 := hb1.chg hCs83 (fun h => nomatch h)
       have hC := hC.ext hCs83
       have hO := hO.ext hCs83
       obtain ⟨s91, hm93, hs⟩ := bind_some hs
       refine c_mid (I := fun a w92 => ∃ (σ : Nat → Value), a = fr 177 (ovl σ [(1, (.int .i64 a_)), (3, (.int .i64 b)), (4, (.pointer (some ⟨g1, 0, none⟩))), (16, (.int .i64 (w64 (ishr .u64 (IntKind.u64.wrap (w64 (a_ + b))) 1)))), (18, (.int .i64 s73.1)), (22, (.int .i64 (w64 ((w64 ((w64 (ishr .u64 (IntKind.u64.wrap (w64 (a_ + b))) 1)) + m)) - s73.1))))]) ∧ Chg (G_ ++ ([])) w w92 ∧ Own (Nw w (G_ ++ ([]))) M w92 (([g1]) ++ (G_ ++ [])) ∧ I_ w92 s91 ∧ BoxV w92 g1 122 [(.func (.func g_) #[] lb_), (.func (.func sf_) #[] sb_)]) ?_ ?_
       ·replace hs := hm93
        rcases bif_some hs with ⟨hc95, hs⟩ | ⟨hc95, hs⟩
        ·skip
         refine c_condT (congrArg Value.bool hc95) ?_
         refine c_region ?_
         refine pl_val (.agg #[(.func (.func g_) #[] lb_), (.func (.func sf_) #[] sb_)]) (y_load rfl ((box_load Ag122 Sz122 hb1 [] [(.func (.func g_) #[] lb_), (.func (.func sf_) #[] sb_)] [] rfl rfl (fun h => nomatch h)) _ (Chg.refl _ _))) ?_
         refine pl_val (.int .i64 s73.1) (y_move rfl) ?_
         refine pl_val (.int .i64 m) (y_move rfl) ?_
         refine pl_val (.int .i64 (w64 ((w64 ((w64 (ishr .u64 (IntKind.u64.wrap (w64 (a_ + b))) 1)) + m)) - s73.1))) (y_move rfl) ?_
         have hO := hO.fr1
         have hI96 := Own.lend (F := (G_ ++ ([]))) (R := ([g1]) ++ ([])) (Own.perm hO (by simp))
         obtain ⟨r97, hr97, hs⟩ := bind_some hs
         refine pl_call Bd115 rfl (c_sort_rotate_func (M := M) ls_ d_ s73.1 m (w64 ((w64 ((w64 (ishr .u64 (IntKind.u64.wrap (w64 (a_ + b))) 1)) + m)) - s73.1)) (Nat.le_trans hN_ hC.size) hE_ hI_ hI96 hO.fut hr97) ?_
         rintro _ w96 ⟨rfl, hC96, hv96⟩
         have hb1 := hb1.chg hC96 (fun hg => hO.apart _ (nil_mem _ hg) (mem_l (List.mem_singleton.2 rfl)))
         have hC := hC.step hC96 (fun g hg => hO.inN g (nil_mem g hg))
         have hO := hO.ext hC96
         refine c_nil ?_
         cases hs
         have hO := hO.fr1
         exact ⟨_, fr_ovl 177 ⟨rfl, rfl, rfl, rfl, rfl, rfl, trivial⟩, hC, hO, hv96, hb1⟩
        ·skip
         refine c_condF (congrArg Value.bool hc95) ?_
         refine wp_skip ?_
         cases hs
         have hO := hO.fr1
         have hO := hO.fr1
         exact ⟨_, fr_ovl 177 ⟨rfl, rfl, rfl, rfl, rfl, rfl, trivial⟩, hC, hO, hI_, hb1⟩
       ·rintro a1 w92 ⟨σ, rfl, hC, hO, hv94, hb1⟩
        refine c_seq ?_
        refine c_seq ?_
        refine c_mid (I := fun a w99 => ∃ (σ : Nat → Value), a = fr 177 (ovl σ [(1, (.int .i64 a_)), (3, (.int .i64 b)), (4, (.pointer (some ⟨g1, 0, none⟩))), (16, (.int .i64 (w64 (ishr .u64 (IntKind.u64.wrap (w64 (a_ + b))) 1)))), (18, (.int .i64 s73.1)), (22, (.int .i64 (w64 ((w64 ((w64 (ishr .u64 (IntKind.u64.wrap (w64 (a_ + b))) 1)) + m)) - s73.1)))), (158, (.bool ((decide (a_ < s73.1)) && (decide (s73.1 < (w64 (ishr .u64 (IntKind.u64.wrap (w64 (a_ + b))) 1)))))))]) ∧ Chg [] w92 w99) ?_ ?_
        ·have hMid := Chg.refl [] w92
         refine c_region ?_
         refine pl_val (.int .i64 a_) (y_move rfl) ?_
         refine pl_val (.int .i64 s73.1) (y_move rfl) ?_
         refine pl_val (.bool (decide (a_ < s73.1))) (y_lss rfl rfl) ?_
         refine pl_val (.bool (decide (a_ < s73.1))) (y_move rfl) ?_
         rcases Bool.eq_false_or_eq_true ((decide (a_ < s73.1))) with hc101 | hc101
         ·skip
          refine pl_yes (.int .i64 s73.1) (tg := 154) (by kernel_rfl) (congrArg Value.bool hc101) (y_move rfl) ?_
          refine pl_yes (.int .i64 (w64 (ishr .u64 (IntKind.u64.wrap (w64 (a_ + b))) 1))) (tg := 154) (by kernel_rfl) (congrArg Value.bool hc101) (y_move rfl) ?_
          refine pl_yes (.bool (decide (s73.1 < (w64 (ishr .u64 (IntKind.u64.wrap (w64 (a_ + b))) 1))))) (tg := 154) (by kernel_rfl) (congrArg Value.bool hc101) (y_lss rfl rfl) ?_
          refine pl_val (.bool ((decide (a_ < s73.1)) && (decide (s73.1 < (w64 (ishr .u64 (IntKind.u64.wrap (w64 (a_ + b))) 1)))))) (y_pick_t (congrArg Value.bool hc101) (congrArg Value.bool (by rw [hc101]; rfl))) ?_
          refine c_nil ?_
          exact ⟨_, fr_ovl 177 ⟨rfl, rfl, rfl, rfl, rfl, rfl, rfl, trivial⟩, hMid⟩
         ·skip
          refine pl_not (tg := 154) (by kernel_rfl) (congrArg Value.bool hc101) ?_
          refine pl_not (tg := 154) (by kernel_rfl) (congrArg Value.bool hc101) ?_
          refine pl_not (tg := 154) (by kernel_rfl) (congrArg Value.bool hc101) ?_
          refine pl_val (.bool ((decide (a_ < s73.1)) && (decide (s73.1 < (w64 (ishr .u64 (IntKind.u64.wrap (w64 (a_ + b))) 1)))))) (y_pick_f (congrArg Value.bool hc101) (congrArg Value.bool (by rw [hc101]; rfl))) ?_
          refine c_nil ?_
          exact ⟨_, fr_ovl 177 ⟨rfl, rfl, rfl, rfl, rfl, rfl, rfl, trivial⟩, hMid⟩
        ·rintro a1 w99 ⟨σ, rfl, hCs98⟩
         have hv94 := hE_.ext hv94 hCs98 (fun _ h => nomatch h)
         have hb1 := hb1.chg hCs98 (fun h => nomatch h)
         have hC := hC.ext hCs98
         have hO := hO.ext hCs98
         obtain ⟨s106, hm108, hs⟩ := bind_some hs
         refine c_mid (I := fun a w107 => ∃ (σ : Nat → Value), a = fr 177 (ovl σ [(3, (.int .i64 b)), (4, (.pointer (some ⟨g1, 0, none⟩))), (16, (.int .i64 (w64 (ishr .u64 (IntKind.u64.wrap (w64 (a_ + b))) 1)))), (22, (.int .i64 (w64 ((w64 ((w64 (ishr .u64 (IntKind.u64.wrap (w64 (a_ + b))) 1)) + m)) - s73.1))))]) ∧ Chg (G_ ++ ([])) w w107 ∧ Own (Nw w (G_ ++ ([]))) M w107 (([g1]) ++ (G_ ++ [])) ∧ I_ w107 s106 ∧ BoxV w107 g1 122 [(.func (.func g_) #[] lb_), (.func (.func sf_) #[] sb_)]) ?_ ?_
         ·replace hs := hm108
          rcases bif_some hs with ⟨hc110, hs⟩ | ⟨hc110, hs⟩
          ·skip
           refine c_condT (congrArg Value.bool hc110) ?_
           refine c_region ?_
           refine pl_val (.agg #[(.func (.func g_) #[] lb_), (.func (.func sf_) #[] sb_)]) (y_load rfl ((box_load Ag122 Sz122 hb1 [] [(.func (.func g_) #[] lb_), (.func (.func sf_) #[] sb_)] [] rfl rfl (fun h => nomatch h)) _ (Chg.refl _ _))) ?_
           refine pl_val (.int .i64 a_) (y_move rfl) ?_
           refine pl_val (.int .i64 s73.1) (y_move rfl) ?_
           refine pl_val (.int .i64 (w64 (ishr .u64 (IntKind.u64.wrap (w64 (a_ + b))) 1))) (y_move rfl) ?_
           have hO := hO.fr1
           have hI111 := Own.lend (F := (G_ ++ ([]))) (R := ([g1]) ++ ([])) (Own.perm hO (by simp))
           obtain ⟨r112, hr112, hs⟩ := bind_some hs
           refine pl_call Bd114 rfl (c_ih (M := M) ls_ s91 a_ s73.1 (w64 (ishr .u64 (IntKind.u64.wrap (w64 (a_ + b))) 1)) (Nat.le_trans hN_ hC.size) hE_ hv94 hI111 hO.fut hr112) ?_
           rintro _ w111 ⟨rfl, hC111, hv111⟩
           have hb1 := hb1.chg hC111 (fun hg => hO.apart _ (nil_mem _ hg) (mem_l (List.mem_singleton.2 rfl)))
           have hC := hC.step hC111 (fun g hg => hO.inN g (nil_mem g hg))
           have hO := hO.ext hC111
           refine c_nil ?_
           cases hs
           have hO := hO.fr1
           exact ⟨_, fr_ovl 177 ⟨rfl, rfl, rfl, rfl, trivial⟩, hC, hO, hv111, hb1⟩
          ·skip
           refine c_condF (congrArg Value.bool hc110) ?_
           refine wp_skip ?_
           cases hs
           have hO := hO.fr1
           have hO := hO.fr1
           exact ⟨_, fr_ovl 177 ⟨rfl, rfl, rfl, rfl, trivial⟩, hC, hO, hv94, hb1⟩
         ·rintro a1 w107 ⟨σ, rfl, hC, hO, hv109, hb1⟩
          refine c_seq ?_
          refine c_mid (I := fun a w114 => ∃ (σ : Nat → Value), a = fr 177 (ovl σ [(3, (.int .i64 b)), (4, (.pointer (some ⟨g1, 0, none⟩))), (16, (.int .i64 (w64 (ishr .u64 (IntKind.u64.wrap (w64 (a_ + b))) 1)))), (22, (.int .i64 (w64 ((w64 ((w64 (ishr .u64 (IntKind.u64.wrap (w64 (a_ + b))) 1)) + m)) - s73.1)))), (171, (.bool ((decide ((w64 (ishr .u64 (IntKind.u64.wrap (w64 (a_ + b))) 1)) < (w64 ((w64 ((w64 (ishr .u64 (IntKind.u64.wrap (w64 (a_ + b))) 1)) + m)) - s73.1)))) && (decide ((w64 ((w64 ((w64 (ishr .u64 (IntKind.u64.wrap (w64 (a_ + b))) 1)) + m)) - s73.1)) < b)))))]) ∧ Chg [] w107 w114) ?_ ?_
          ·have hMid := Chg.refl [] w107
           refine c_region ?_
           refine pl_val (.int .i64 (w64 (ishr .u64 (IntKind.u64.wrap (w64 (a_ + b))) 1))) (y_move rfl) ?_
           refine pl_val (.int .i64 (w64 ((w64 ((w64 (ishr .u64 (IntKind.u64.wrap (w64 (a_ + b))) 1)) + m)) - s73.1))) (y_move rfl) ?_
           refine pl_val (.bool (decide ((w64 (ishr .u64 (IntKind.u64.wrap (w64 (a_ + b))) 1)) < (w64 ((w64 ((w64 (ishr .u64 (IntKind.u64.wrap (w64 (a_ + b))) 1)) + m)) - s73.1))))) (y_lss rfl rfl) ?_
           refine pl_val (.bool (decide ((w64 (ishr .u64 (IntKind.u64.wrap (w64 (a_ + b))) 1)) < (w64 ((w64 ((w64 (ishr .u64 (IntKind.u64.wrap (w64 (a_ + b))) 1)) + m)) - s73.1))))) (y_move rfl) ?_
           rcases Bool.eq_false_or_eq_true ((decide ((w64 (ishr .u64 (IntKind.u64.wrap (w64 (a_ + b))) 1)) < (w64 ((w64 ((w64 (ishr .u64 (IntKind.u64.wrap (w64 (a_ + b))) 1)) + m)) - s73.1))))) with hc116 | hc116
           ·skip
            refine pl_yes (.int .i64 (w64 ((w64 ((w64 (ishr .u64 (IntKind.u64.wrap (w64 (a_ + b))) 1)) + m)) - s73.1))) (tg := 167) (by kernel_rfl) (congrArg Value.bool hc116) (y_move rfl) ?_
            refine pl_yes (.int .i64 b) (tg := 167) (by kernel_rfl) (congrArg Value.bool hc116) (y_move rfl) ?_
            refine pl_yes (.bool (decide ((w64 ((w64 ((w64 (ishr .u64 (IntKind.u64.wrap (w64 (a_ + b))) 1)) + m)) - s73.1)) < b))) (tg := 167) (by kernel_rfl) (congrArg Value.bool hc116) (y_lss rfl rfl) ?_
            refine pl_val (.bool ((decide ((w64 (ishr .u64 (IntKind.u64.wrap (w64 (a_ + b))) 1)) < (w64 ((w64 ((w64 (ishr .u64 (IntKind.u64.wrap (w64 (a_ + b))) 1)) + m)) - s73.1)))) && (decide ((w64 ((w64 ((w64 (ishr .u64 (IntKind.u64.wrap (w64 (a_ + b))) 1)) + m)) - s73.1)) < b)))) (y_pick_t (congrArg Value.bool hc116) (congrArg Value.bool (by rw [hc116]; rfl))) ?_
            refine c_nil ?_
            exact ⟨_, fr_ovl 177 ⟨rfl, rfl, rfl, rfl, rfl, trivial⟩, hMid⟩
           ·skip
            refine pl_not (tg := 167) (by kernel_rfl) (congrArg Value.bool hc116) ?_
            refine pl_not (tg := 167) (by kernel_rfl) (congrArg Value.bool hc116) ?_
            refine pl_not (tg := 167) (by kernel_rfl) (congrArg Value.bool hc116) ?_
            refine pl_val (.bool ((decide ((w64 (ishr .u64 (IntKind.u64.wrap (w64 (a_ + b))) 1)) < (w64 ((w64 ((w64 (ishr .u64 (IntKind.u64.wrap (w64 (a_ + b))) 1)) + m)) - s73.1)))) && (decide ((w64 ((w64 ((w64 (ishr .u64 (IntKind.u64.wrap (w64 (a_ + b))) 1)) + m)) - s73.1)) < b)))) (y_pick_f (congrArg Value.bool hc116) (congrArg Value.bool (by rw [hc116]; rfl))) ?_
            refine c_nil ?_
            exact ⟨_, fr_ovl 177 ⟨rfl, rfl, rfl, rfl, rfl, trivial⟩, hMid⟩
          ·rintro a1 w114 ⟨σ, rfl, hCs113⟩
           have hv109 := hE_.ext hv109 hCs113 (fun _ h => nomatch h)
           have hb1 := hb1.chg hCs113 (fun h => nomatch h)
           have hC := hC.ext hCs113
           have hO := hO.ext hCs113
           rcases bif_some hs with ⟨hc117, hs⟩ | ⟨hc117, hs⟩
           ·skip
            refine c_condT (congrArg Value.bool hc117) ?_
            refine c_region ?_
            refine pl_val (.agg #[(.func (.func g_) #[] lb_), (.func (.func sf_) #[] sb_)]) (y_load rfl ((box_load Ag122 Sz122 hb1 [] [(.func (.func g_) #[] lb_), (.func (.func sf_) #[] sb_)] [] rfl rfl (fun h => nomatch h)) _ (Chg.refl _ _))) ?_
            refine pl_val (.int .i64 (w64 (ishr .u64 (IntKind.u64.wrap (w64 (a_ + b))) 1))) (y_move rfl) ?_
            refine pl_val (.int .i64 (w64 ((w64 ((w64 (ishr .u64 (IntKind.u64.wrap (w64 (a_ + b))) 1)) + m)) - s73.1))) (y_move rfl) ?_
            refine pl_val (.int .i64 b) (y_move rfl) ?_
            have hO := hO.fr1
            have hI118 := Own.lend (F := (G_ ++ ([]))) (R := ([g1]) ++ ([])) (Own.perm hO (by simp))
            obtain ⟨r119, hr119, hs⟩ := bind_some hs
            refine pl_call Bd114 rfl (c_ih (M := M) ls_ s106 (w64 (ishr .u64 (IntKind.u64.wrap (w64 (a_ + b))) 1)) (w64 ((w64 ((w64 (ishr .u64 (IntKind.u64.wrap (w64 (a_ + b))) 1)) + m)) - s73.1)) b (Nat.le_trans hN_ hC.size) hE_ hv109 hI118 hO.fut hr119) ?_
            rintro _ w118 ⟨rfl, hC118, hv118⟩
            have hb1 := hb1.chg hC118 (fun hg => hO.apart _ (nil_mem _ hg) (mem_l (List.mem_singleton.2 rfl)))
            have hC := hC.step hC118 (fun g hg => hO.inN g (nil_mem g hg))
            have hO := hO.ext hC118
            refine c_nil ?_
            cases hs
            exact ⟨_, fr_ovl 177 trivial, hC, hv118⟩
           ·skip
            refine c_condF (congrArg Value.bool hc117) ?_
            refine wp_skip ?_
            cases hs
            exact ⟨_, fr_ovl 177 trivial, hC, hv109⟩

theorem Bd113 : Bodied Try.prog 113 := bodied Try.func113 (by kernel_rfl) rfl

def k_sort_stable_func (M : Nat → Prop) (w0 : World) {α_ : Type} (I_ : World → List α_ → Prop) (G_ : List Nat) (r : (List α_)) (a : Act) (w : World) : Prop :=
  ∃ (σ : Nat → Value) , a = fr 57 (ovl σ []) ∧ Chg (G_ ++ ([])) w0 w ∧ I_ w r
def s_sort_stable_func {α_ : Type} (ls_ : α_ → α_ → Option Bool) (d_ : List α_) (n : Int) : Option ((List α_)) :=
  (iter (S := Int × Int × (List α_)) (R := (List α_)) (fun s9 =>
  (bif (decide (s9.2.1 ≤ n)) then (s_sort_insertionSort_func ls_ s9.2.2 s9.1 s9.2.1).bind fun r19 =>
  some (.nx (s9.2.1, w64 (s9.2.1 + 20), r19)) else some (.br (s9.1, s9.2.1, s9.2.2)))) FU (0, 20, d_)).bind fun o13 => after o13 (fun r_ => some r_) (fun s9 =>
  (s_sort_insertionSort_func ls_ s9.2.2 s9.1 n).bind fun r21 =>
  (iter (S := Int × Int × Int × (List α_)) (R := (List α_)) (fun s67 =>
  (bif (decide (s67.1 < n)) then (iter (S := Int × Int × (List α_)) (R := (List α_)) (fun s83 =>
  (bif (decide (s83.2.1 ≤ n)) then (s_sort_symMerge_func FU ls_ s83.2.2 s83.1 (w64 (s83.1 + s67.1)) s83.2.1).bind fun r93 =>
  some (.nx (s83.2.1, w64 (s83.2.1 + (w64 (2 * s67.1))), r93)) else some (.br (s83.1, s83.2.1, s83.2.2)))) FU (0, w64 (2 * s67.1), s67.2.2.2)).bind fun o87 => after o87 (fun r_ => some (.rt r_)) (fun s83 =>
  (bif (decide ((w64 (s83.1 + s67.1)) < n)) then (s_sort_symMerge_func FU ls_ s83.2.2 s83.1 (w64 (s83.1 + s67.1)) n).bind fun r96 =>
  some (.nx (w64 (s67.1 * 2), s83.1, s83.2.1, r96)) else some (.nx (w64 (s67.1 * 2), s83.1, s83.2.1, s83.2.2)))) else some (.br (s67.1, s67.2.1, s67.2.2.1, s67.2.2.2)))) FU (20, s9.1, s9.2.1, r21)).bind fun o71 => after o71 (fun r_ => some r_) (fun s67 =>
  some s67.2.2.2))
set_option maxHeartbeats 4000000 in
theorem c_sort_stable_func {M : Nat → Prop} {w : World} {α_ : Type} {n0_ : Nat} {I_ : World → List α_ → Prop} {G_ : List Nat} {g_ sf_ : Nat} {lb_ sb_ : Array Value} (ls_ : α_ → α_ → Option Bool) (d_ : List α_) (n : Int) (hN_ : n0_ ≤ w.heap.size) (hE_ : Env Try.prog n0_ I_ G_ ls_ g_ lb_ sf_ sb_) (hI_ : I_ w d_) (hI : Own (Nw w (G_ ++ ([]))) M w (G_ ++ ([]))) (hM : ∀ g, w.heap.size ≤ g → M g) {r : (List α_)} (hs : s_sort_stable_func ls_ d_ n = some r) :
    Gives Try.prog 101 [(.agg #[(.func (.func g_) #[] lb_), (.func (.func sf_) #[] sb_)]), (.int .i64 n)] w (fun v w' => v = (.tuple #[]) ∧ Chg (G_ ++ ([])) w w' ∧ I_ w' r) := by
 refine calls_fr Try.func101 rfl Try.ntmps101 (Nat.le_of_ble_eq_true rfl) ?_
 have hO := hI
 have hC := Chg.refl (G_ ++ ([])) w
 unfold s_sort_stable_func at hs
 refine wp_mono (Q := KPostN (k_sort_stable_func M w I_ G_ r)) ?_ (fun e a w1 h => ?_)
 rotate_left
 ·cases e
  case ret =>
   obtain ⟨σ, rfl, hrest⟩ := h
   exact ret0x Try.results101  ⟨rfl, hrest⟩
  case normal =>
   obtain ⟨σ, rfl, hrest⟩ := h
   exact ret0n Try.results101  ⟨rfl, hrest⟩
  all_goals exact (h : False).elim
 refine c_seq (c_region ?_)
 obtain ⟨w1, g1, ew1, eg1, hC1, hb1⟩ := new_block w [(.func (.func g_) #[] lb_), (.func (.func sf_) #[] sb_)] 122
 refine pl_val (w' := w1) (.pointer (some ⟨g1, 0, none⟩)) (y_box rfl (by rw [ew1, eg1]; kernel_rfl)) ?_
 have hI_ := hE_.ext hI_ hC1 (fun _ h => nomatch h)
 have hC := hC.ext hC1
 have hO := hO.new1 hC1 eg1 hb1.lt
 refine c_nil ?_
 refine c_seq (c_region ?_)
 refine pl_val (.int .i64 20) (y_assign rfl) ?_
 refine c_nil ?_
 refine c_seq (c_region ?_)
 refine pl_val (.int .i64 20) (y_move rfl) ?_
 refine pl_val (.int .i64 0) (y_assign rfl) ?_
 refine pl_val (.int .i64 20) (y_assign rfl) ?_
 refine c_nil ?_
 refine c_seq ?_
 obtain ⟨o13, hl14, hs⟩ := bind_some hs
 refine wp_block ?_
 refine wp_iter (id := 0) (I := fun s9 a w10 => ∃ (σ : Nat → Value), a = fr 57 (ovl σ [(1, (.int .i64 n)), (2, (.pointer (some ⟨g1, 0, none⟩))), (4, (.int .i64 20)), (5, (.int .i64 s9.1)), (6, (.int .i64 s9.2.1))]) ∧ Chg (G_ ++ ([])) w w10 ∧ Own (Nw w (G_ ++ ([]))) M w10 (([g1]) ++ (G_ ++ [])) ∧ I_ w10 s9.2.2 ∧ BoxV w10 g1 122 [(.func (.func g_) #[] lb_), (.func (.func sf_) #[] sb_)]) (J := fun s9 a w10 => ∃ (σ : Nat → Value), a = fr 57 (ovl σ [(1, (.int .i64 n)), (2, (.pointer (some ⟨g1, 0, none⟩))), (4, (.int .i64 20)), (5, (.int .i64 s9.1)), (6, (.int .i64 s9.2.1))]) ∧ Chg (G_ ++ ([])) w w10 ∧ Own (Nw w (G_ ++ ([]))) M w10 (([g1]) ++ (G_ ++ [])) ∧ I_ w10 s9.2.2 ∧ BoxV w10 g1 122 [(.func (.func g_) #[] lb_), (.func (.func sf_) #[] sb_)]) (K := (k_sort_stable_func M w I_ G_)) ?_ FU (0, 20, d_) o13 _ _ ?_ hl14 ?_
 ·rintro s9 o13 a w10 ⟨σ, rfl, hC, hO, hv15, hb1⟩ hs
  refine c_seq ?_
  refine c_seq (c_region ?_)
  refine pl_val (.int .i64 s9.2.1) (y_move rfl) ?_
  refine pl_val (.int .i64 n) (y_move rfl) ?_
  refine pl_val (.bool (decide (s9.2.1 ≤ n))) (y_leq rfl rfl) ?_
  refine c_nil ?_
  rcases bif_some hs with ⟨hc17, hs⟩ | ⟨hc17, hs⟩
  ·skip
   refine c_condT (congrArg Value.bool hc17) ?_
   refine wp_skip ?_
   refine wp_block ?_
   refine c_seq (c_region ?_)
   refine pl_val (.agg #[(.func (.func g_) #[] lb_), (.func (.func sf_) #[] sb_)]) (y_load rfl ((box_load Ag122 Sz122 hb1 [] [(.func (.func g_) #[] lb_), (.func (.func sf_) #[] sb_)] [] rfl rfl (fun h => nomatch h)) _ (Chg.refl _ _))) ?_
   refine pl_val (.int .i64 s9.1) (y_move rfl) ?_
   refine pl_val (.int .i64 s9.2.1) (y_move rfl) ?_
   have hO := hO.fr1
   have hI18 := Own.lend (F := (G_ ++ ([]))) (R := ([g1]) ++ ([])) (Own.perm hO (by simp))
   obtain ⟨r19, hr19, hs⟩ := bind_some hs
   refine pl_call Bd113 rfl (c_sort_insertionSort_func (M := M) ls_ s9.2.2 s9.1 s9.2.1 (Nat.le_trans hN_ hC.size) hE_ hv15 hI18 hO.fut hr19) ?_
   rintro _ w18 ⟨rfl, hC18, hv18⟩
   have hb1 := hb1.chg hC18 (fun hg => hO.apart _ (nil_mem _ hg) (mem_l (List.mem_singleton.2 rfl)))
   have hC := hC.step hC18 (fun g hg => hO.inN g (nil_mem g hg))
   have hO := hO.ext hC18
   refine c_nil ?_
   refine c_seq (c_region ?_)
   refine pl_val (.int .i64 s9.2.1) (y_move rfl) ?_
   refine pl_val (.int .i64 s9.2.1) (y_assign rfl) ?_
   refine c_nil ?_
   refine c_region ?_
   refine pl_val (.int .i64 s9.2.1) (y_move rfl) ?_
   refine pl_val (.int .i64 20) (y_move rfl) ?_
   refine pl_val (.int .i64 (w64 (s9.2.1 + 20))) (y_add rfl rfl) ?_
   refine pl_val (.int .i64 (w64 (s9.2.1 + 20))) (y_assign rfl) ?_
   refine c_nil ?_
   cases hs
   have hO := hO.fr1
   exact ⟨_, fr_ovl 57 ⟨rfl, rfl, rfl, rfl, rfl, trivial⟩, hC, hO, hv18, hb1⟩
  ·skip
   refine c_condF (congrArg Value.bool hc17) ?_
   refine wp_exit ?_
   cases hs
   have hO := hO.fr1
   have hO := hO.fr1
   exact ⟨rfl, _, fr_ovl 57 ⟨rfl, rfl, rfl, rfl, rfl, trivial⟩, hC, hO, hv15, hb1⟩
 ·skip
  have hO := hO.fr1
  have hO := hO.fr1
  exact ⟨_, fr_ovl 57 ⟨rfl, rfl, rfl, rfl, rfl, trivial⟩, hC, hO, hI_, hb1⟩
 ·cases o13 with
  | nx _ => exact True.intro
  | rt r_ =>
   have hs := after_rt hs
   intro a1 w1 hK
   cases hs
   exact hK
  | br s9 =>
   have hs := after_br hs
   rintro a1 w10 ⟨σ, rfl, hC, hO, hv16, hb1⟩
   refine c_seq (c_region ?_)
   refine pl_val (.agg #[(.func (.func g_) #[] lb_), (.func (.func sf_) #[] sb_)]) (y_load rfl ((box_load Ag122 Sz122 hb1 [] [(.func (.func g_) #[] lb_), (.func (.func sf_) #[] sb_)] [] rfl rfl (fun h => nomatch h)) _ (Chg.refl _ _))) ?_
   refine pl_val (.int .i64 s9.1) (y_move rfl) ?_
   refine pl_val (.int .i64 n) (y_move rfl) ?_
   have hO := hO.fr1
   have hI20 := Own.lend (F := (G_ ++ ([]))) (R := ([g1]) ++ ([])) (Own.perm hO (by simp))
   obtain ⟨r21, hr21, hs⟩ := bind_some hs
   refine pl_call Bd113 rfl (c_sort_insertionSort_func (M := M) ls_ s9.2.2 s9.1 n (Nat.le_trans hN_ hC.size) hE_ hv16 hI20 hO.fut hr21) ?_
   rintro _ w20 ⟨rfl, hC20, hv20⟩
   have hb1 := hb1.chg hC20 (fun hg => hO.apart _ (nil_mem _ hg) (mem_l (List.mem_singleton.2 rfl)))
   have hC := hC.step hC20 (fun g hg => hO.inN g (nil_mem g hg))
   have hO := hO.ext hC20
   refine c_nil ?_
   obtain ⟨o71, hl72, hs⟩ := bind_some hs
   refine wp_block ?_
   refine wp_iter (id := 2) (I := fun s67 a w68 => ∃ (σ : Nat → Value), a = fr 57 (ovl σ [(1, (.int .i64 n)), (2, (.pointer (some ⟨g1, 0, none⟩))), (4, (.int .i64 s67.1)), (5, (.int .i64 s67.2.1)), (6, (.int .i64 s67.2.2.1))]) ∧ Chg (G_ ++ ([])) w w68 ∧ Own (Nw w (G_ ++ ([]))) M w68 (G_ ++ (([g1]) ++ [])) ∧ I_ w68 s67.2.2.2 ∧ BoxV w68 g1 122 [(.func (.func g_) #[] lb_), (.func (.func sf_) #[] sb_)]) (J := fun s67 a w68 => ∃ (σ : Nat → Value), a = fr 57 (ovl σ []) ∧ Chg (G_ ++ ([])) w w68 ∧ Own (Nw w (G_ ++ ([]))) M w68 (G_ ++ (([g1]) ++ [])) ∧ I_ w68 s67.2.2.2 ∧ BoxV w68 g1 122 [(.func (.func g_) #[] lb_), (.func (.func sf_) #[] sb_)]) (K := (k_sort_stable_func M w I_ G_)) ?_ FU (20, s9.1, s9.2.1, r21) o71 _ _ ?_ hl72 ?_
   ·rintro s67 o71 a w68 ⟨σ, rfl, hC, hO, hv73, hb1⟩ hs
    refine c_seq ?_
    refine c_seq (c_region ?_)
    refine pl_val (.int .i64 s67.1) (y_move rfl) ?_
    refine pl_val (.int .i64 n) (y_move rfl) ?_
    refine pl_val (.bool (decide (s67.1 < n))) (y_lss rfl rfl) ?_
    refine c_nil ?_
    rcases bif_some hs with ⟨hc75, hs⟩ | ⟨hc75, hs⟩
    ·skip
     refine c_condT (congrArg Value.bool hc75) ?_
     refine wp_skip ?_
     refine wp_block ?_
     refine c_seq (c_region ?_)
     refine pl_val (.int .i64 s67.1) (y_move rfl) ?_
     refine pl_val (.int .i64 (w64 (2 * s67.1))) (y_mul rfl rfl) ?_
     refine pl_val (.int .i64 0) (y_assign rfl) ?_
     refine pl_val (.int .i64 (w64 (2 * s67.1))) (y_assign rfl) ?_
     refine c_nil ?_
     refine c_seq ?_
     obtain ⟨o87, hl88, hs⟩ := bind_some hs
     refine wp_block ?_
     refine wp_iter (id := 4) (I := fun s83 a w84 => ∃ (σ : Nat → Value), a = fr 57 (ovl σ [(1, (.int .i64 n)), (2, (.pointer (some ⟨g1, 0, none⟩))), (4, (.int .i64 s67.1)), (5, (.int .i64 s83.1)), (6, (.int .i64 s83.2.1))]) ∧ Chg (G_ ++ ([])) w w84 ∧ Own (Nw w (G_ ++ ([]))) M w84 (G_ ++ (([g1]) ++ [])) ∧ I_ w84 s83.2.2 ∧ BoxV w84 g1 122 [(.func (.func g_) #[] lb_), (.func (.func sf_) #[] sb_)]) (J := fun s83 a w84 => ∃ (σ : Nat → Value), a = fr 57 (ovl σ [(1, (.int .i64 n)), (2, (.pointer (some ⟨g1, 0, none⟩))), (4, (.int .i64 s67.1)), (5, (.int .i64 s83.1)), (6, (.int .i64 s83.2.1))]) ∧ Chg (G_ ++ ([])) w w84 ∧ Own (Nw w (G_ ++ ([]))) M w84 (G_ ++ (([g1]) ++ [])) ∧ I_ w84 s83.2.2 ∧ BoxV w84 g1 122 [(.func (.func g_) #[] lb_), (.func (.func sf_) #[] sb_)]) (K := (k_sort_stable_func M w I_ G_)) ?_ FU (0, w64 (2 * s67.1), s67.2.2.2) o87 _ _ ?_ hl88 ?_
     ·rintro s83 o87 a w84 ⟨σ, rfl, hC, hO, hv89, hb1⟩ hs
      refine c_seq ?_
      refine c_seq (c_region ?_)
      refine pl_val (.int .i64 s83.2.1) (y_move rfl) ?_
      refine pl_val (.int .i64 n) (y_move rfl) ?_
      refine pl_val (.bool (decide (s83.2.1 ≤ n))) (y_leq rfl rfl) ?_
      refine c_nil ?_
      rcases bif_some hs with ⟨hc91, hs⟩ | ⟨hc91, hs⟩
      ·skip
       refine c_condT (congrArg Value.bool hc91) ?_
       refine wp_skip ?_
       refine wp_block ?_
       refine c_seq (c_region ?_)
       refine pl_val (.agg #[(.func (.func g_) #[] lb_), (.func (.func sf_) #[] sb_)]) (y_load rfl ((box_load Ag122 Sz122 hb1 [] [(.func (.func g_) #[] lb_), (.func (.func sf_) #[] sb_)] [] rfl rfl (fun h => nomatch h)) _ (Chg.refl _ _))) ?_
       refine pl_val (.int .i64 s83.1) (y_move rfl) ?_
       refine pl_val (.int .i64 s83.1) (y_move rfl) ?_
       refine pl_val (.int .i64 s67.1) (y_move rfl) ?_
       refine pl_val (.int .i64 (w64 (s83.1 + s67.1))) (y_add rfl rfl) ?_
       refine pl_val (.int .i64 s83.2.1) (y_move rfl) ?_
       have hI92 := Own.lend (F := (G_ ++ ([]))) (R := ([g1]) ++ ([])) (Own.perm hO (by simp))
       obtain ⟨r93, hr93, hs⟩ := bind_some hs
       refine pl_call Bd114 rfl (c_sort_symMerge_func (M := M) FU ls_ s83.2.2 s83.1 (w64 (s83.1 + s67.1)) s83.2.1 (Nat.le_trans hN_ hC.size) hE_ hv89 hI92 hO.fut hr93) ?_
       rintro _ w92 ⟨rfl, hC92, hv92⟩
       have hb1 := hb1.chg hC92 (fun hg => hO.apart _ (nil_mem _ hg) (mem_l (List.mem_singleton.2 rfl)))
       have hC := hC.step hC92 (fun g hg => hO.inN g (nil_mem g hg))
       have hO := hO.ext hC92
       refine c_nil ?_
       refine c_seq (c_region ?_)
       refine pl_val (.int .i64 s83.2.1) (y_move rfl) ?_
       refine pl_val (.int .i64 s83.2.1) (y_assign rfl) ?_
       refine c_nil ?_
       refine c_region ?_
       refine pl_val (.int .i64 s83.2.1) (y_move rfl) ?_
       refine pl_val (.int .i64 s67.1) (y_move rfl) ?_
       refine pl_val (.int .i64 (w64 (2 * s67.1))) (y_mul rfl rfl) ?_
       refine pl_val (.int .i64 (w64 (s83.2.1 + (w64 (2 * s67.1))))) (y_add rfl rfl) ?_
       refine pl_val (.int .i64 (w64 (s83.2.1 + (w64 (2 * s67.1))))) (y_assign rfl) ?_
       refine c_nil ?_
       cases hs
       have hO := hO.fr1
       have hO := hO.fr1
       exact ⟨_, fr_ovl 57 ⟨rfl, rfl, rfl, rfl, rfl, trivial⟩, hC, hO, hv92, hb1⟩
      ·skip
       refine c_condF (congrArg Value.bool hc91) ?_
       refine wp_exit ?_
       cases hs
       have hO := hO.fr1
       have hO := hO.fr1
       exact ⟨rfl, _, fr_ovl 57 ⟨rfl, rfl, rfl, rfl, rfl, trivial⟩, hC, hO, hv89, hb1⟩
     ·skip
      have hO := hO.fr1
      have hO := hO.fr1
      exact ⟨_, fr_ovl 57 ⟨rfl, rfl, rfl, rfl, rfl, trivial⟩, hC, hO, hv73, hb1⟩
     ·cases o87 with
      | nx _ => exact True.intro
      | rt r_ =>
       have hs := after_rt hs
       intro a1 w1 hK
       cases hs
       exact hK
      | br s83 =>
       have hs := after_br hs
       rintro a1 w84 ⟨σ, rfl, hC, hO, hv90, hb1⟩
       refine c_seq ?_
       refine c_seq (c_region ?_)
       refine pl_val (.int .i64 s83.1) (y_move rfl) ?_
       refine pl_val (.int .i64 s67.1) (y_move rfl) ?_
       refine pl_val (.int .i64 (w64 (s83.1 + s67.1))) (y_add rfl rfl) ?_
       refine pl_val (.int .i64 (w64 (s83.1 + s67.1))) (y_assign rfl) ?_
       refine c_nil ?_
       refine c_seq (c_region ?_)
       refine pl_val (.int .i64 (w64 (s83.1 + s67.1))) (y_move rfl) ?_
       refine pl_val (.int .i64 n) (y_move rfl) ?_
       refine pl_val (.bool (decide ((w64 (s83.1 + s67.1)) < n))) (y_lss rfl rfl) ?_
       refine c_nil ?_
       rcases bif_some hs with ⟨hc94, hs⟩ | ⟨hc94, hs⟩
       ·skip
        refine c_condT (congrArg Value.bool hc94) ?_
        refine c_region ?_
        refine pl_val (.agg #[(.func (.func g_) #[] lb_), (.func (.func sf_) #[] sb_)]) (y_load rfl ((box_load Ag122 Sz122 hb1 [] [(.func (.func g_) #[] lb_), (.func (.func sf_) #[] sb_)] [] rfl rfl (fun h => nomatch h)) _ (Chg.refl _ _))) ?_
        refine pl_val (.int .i64 s83.1) (y_move rfl) ?_
        refine pl_val (.int .i64 (w64 (s83.1 + s67.1))) (y_move rfl) ?_
        refine pl_val (.int .i64 n) (y_move rfl) ?_
        have hI95 := Own.lend (F := (G_ ++ ([]))) (R := ([g1]) ++ ([])) (Own.perm hO (by simp))
        obtain ⟨r96, hr96, hs⟩ := bind_some hs
        refine pl_call Bd114 rfl (c_sort_symMerge_func (M := M) FU ls_ s83.2.2 s83.1 (w64 (s83.1 + s67.1)) n (Nat.le_trans hN_ hC.size) hE_ hv90 hI95 hO.fut hr96) ?_
        rintro _ w95 ⟨rfl, hC95, hv95⟩
        have hb1 := hb1.chg hC95 (fun hg => hO.apart _ (nil_mem _ hg) (mem_l (List.mem_singleton.2 rfl)))
        have hC := hC.step hC95 (fun g hg => hO.inN g (nil_mem g hg))
        have hO := hO.ext hC95
        refine c_nil ?_
        refine c_region ?_
        refine pl_val (.int .i64 s67.1) (y_move rfl) ?_
        refine pl_val (.int .i64 (w64 (s67.1 * 2))) (y_mul rfl rfl) ?_
        refine pl_val (.int .i64 (w64 (s67.1 * 2))) (y_assign rfl) ?_
        refine c_nil ?_
        cases hs
        have hO := hO.fr1
        have hO := hO.fr1
        exact ⟨_, fr_ovl 57 ⟨rfl, rfl, rfl, rfl, rfl, trivial⟩, hC, hO, hv95, hb1⟩
       ·skip
        refine c_condF (congrArg Value.bool hc94) ?_
        refine wp_skip ?_
        refine c_region ?_
        refine pl_val (.int .i64 s67.1) (y_move rfl) ?_
        refine pl_val (.int .i64 (w64 (s67.1 * 2))) (y_mul rfl rfl) ?_
        refine pl_val (.int .i64 (w64 (s67.1 * 2))) (y_assign rfl) ?_
        refine c_nil ?_
        cases hs
        have hO := hO.fr1
        have hO := hO.fr1
        exact ⟨_, fr_ovl 57 ⟨rfl, rfl, rfl, rfl, rfl, trivial⟩, hC, hO, hv90, hb1⟩
    ·skip
     refine c_condF (congrArg Value.bool hc75) ?_
     refine wp_exit ?_
     cases hs
     have hO := hO.fr1
     have hO := hO.fr1
     exact ⟨rfl, _, fr_ovl 57 trivial, hC, hO, hv73, hb1⟩
   ·skip
    have hO := hO.fr1
    have hO := hO.fr1
    exact ⟨_, fr_ovl 57 ⟨rfl, rfl, rfl, rfl, rfl, trivial⟩, hC, hO, hv20, hb1⟩
   ·cases o71 with
    | nx _ => exact True.intro
    | rt r_ =>
     have hs := after_rt hs
     intro a1 w1 hK
     cases hs
     exact hK
    | br s67 =>
     have hs := after_br hs
     rintro a1 w68 ⟨σ, rfl, hC, hO, hv74, hb1⟩
     cases hs
     exact ⟨_, fr_ovl 57 trivial, hC, hv74⟩

end Go.Proofs
