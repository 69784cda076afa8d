/- What functions of the program compute, as plain functions, and that a call gives just that. Conditions: those named in each theorem. -/
import Derived.Test.YtchgbcjecdnclaaF0
set_option linter.unusedVariables false
namespace Go.Proofs
open Go.G Go.RowKit
set_option maxRecDepth 100000

def k_spec_l6Put (M : Nat → Prop) (w0 : World) (r : (List (List Int))) (a : Act) (w : World) : Prop :=
  ∃ (σ : Nat → Value) (ra0 : Option Addr) (rn0 rc0 : Nat), a = fr 65 (ovl σ [(4, (.slice ra0 rn0 rc0))]) ∧ Chg [] w0 w ∧ (RT.rs (RT.rs (RT.int .i64))).val (Past M w0 w) w (.slice ra0 rn0 rc0) r []
def s_spec_l6Put (list : List (List Int)) (p : List Int) : Option ((List (List Int))) :=
  (iter (S := Int) (R := (List (List Int))) (fun s29 =>
  (bif (decide (s29 < (list.length : Int))) then (idx list s29).bind fun x36 =>
  (s_spec_l6Count x36).bind fun r41 =>
  (s_spec_l6Count p).bind fun r43 =>
  (bif (decide (r43 < r41)) then some (.nx (w64 (s29 + 1))) else (idx list s29).bind fun x45 =>
  (s_spec_l6Count x45).bind fun r50 =>
  (s_spec_l6Count p).bind fun r52 =>
  (bif (r50 == r52) then (idx list s29).bind fun x54 =>
  (s_spec_l5Less x54 p).bind fun r59 =>
  (bif r59 then some (.nx (w64 (s29 + 1))) else some (.br s29)) else some (.br s29))) else some (.br s29))) FU 0).bind fun o33 => after o33 (fun r_ => some r_) (fun s29 =>
  ((bif (decide (s29 < (list.length : Int))) then (idx list s29).bind fun x65 =>
  (s_spec_l1Same x65 p).bind fun r70 =>
  some r70 else some false)).bind fun s61 =>
  (bif s61 then some list else (slc list 0 s29).bind fun y74 =>
  (slc list s29 (list.length : Int)).bind fun y77 =>
  (app ([]) y74).bind fun y83 =>
  (app y83 ([p])).bind fun y88 =>
  (app y88 y77).bind fun y91 =>
  some y91))
set_option maxHeartbeats 4000000 in
theorem c_spec_l6Put {M : Nat → Prop} {w : World} {pa0 : Option Addr} {pn0 pc0 : Nat} {pa1 : Option Addr} {pn1 pc1 : Nat} (list : List (List Int)) (p : List Int) (h0 : (RT.rs (RT.rs (RT.int .i64))).val M w (.slice pa0 pn0 pc0) list ([])) (h1 : (RT.rs (RT.int .i64)).val M w (.slice pa1 pn1 pc1) p ([])) (hM : ∀ g, w.heap.size ≤ g → M g) {r : (List (List Int))} (hs : s_spec_l6Put list p = some r) :
    Gives Try.prog 107 [(.slice pa0 pn0 pc0), (.slice pa1 pn1 pc1)] w (fun v w' => ∃ (ra0 : Option Addr) (rn0 rc0 : Nat), v = (.slice ra0 rn0 rc0) ∧ Chg [] w w' ∧ (RT.rs (RT.rs (RT.int .i64))).val (Past M w w') w' (.slice ra0 rn0 rc0) r []) := by
 refine calls_fr Try.func107 rfl Try.ntmps107 (Nat.le_of_ble_eq_true rfl) ?_
 have hO := Own.start (N := Nw w []) hM Nw.fut
 have hC := Chg.refl [] w
 unfold s_spec_l6Put at hs
 refine wp_mono (Q := KPost (k_spec_l6Put M w r)) ?_ (fun e a w1 h => ?_)
 rotate_left
 ·cases e
  case ret =>
   obtain ⟨σ, ra0, rn0, rc0, rfl, hrest⟩ := h
   exact ret1x Try.results107 (res_tmp rfl) ⟨ra0, rn0, rc0, rfl, hrest⟩
  all_goals exact (h : False).elim
 refine c_seq (c_region ?_)
 refine pl_val (.slice none 0 0) (y_assign rfl) ?_
 refine c_nil ?_
 refine c_seq (c_region ?_)
 refine pl_val (.int .i64 0) (y_assign rfl) ?_
 refine c_nil ?_
 refine c_seq ?_
 obtain ⟨o33, hl34, hs⟩ := bind_some hs
 refine wp_block ?_
 refine wp_iter (id := 0) (I := fun s29 a w30 => ∃ (σ : Nat → Value), a = fr 65 (ovl σ [(0, (.slice pa0 pn0 pc0)), (1, (.slice pa1 pn1 pc1)), (5, (.int .i64 s29))]) ∧ Chg [] w w30 ∧ Own (Nw w []) M w30 ([]) ∧ (RT.rs (RT.rs (RT.int .i64))).val M w30 (.slice pa0 pn0 pc0) list ([]) ∧ (RT.rs (RT.int .i64)).val M w30 (.slice pa1 pn1 pc1) p ([])) (J := fun s29 a w30 => ∃ (σ : Nat → Value), a = fr 65 (ovl σ [(0, (.slice pa0 pn0 pc0)), (1, (.slice pa1 pn1 pc1)), (5, (.int .i64 s29))]) ∧ Chg [] w w30 ∧ Own (Nw w []) M w30 ([]) ∧ (RT.rs (RT.rs (RT.int .i64))).val M w30 (.slice pa0 pn0 pc0) list ([]) ∧ (RT.rs (RT.int .i64)).val M w30 (.slice pa1 pn1 pc1) p ([])) (K := (k_spec_l6Put M w)) ?_ FU 0 o33 _ _ ?_ hl34 ?_
 ·rintro s29 o33 a w30 ⟨σ, rfl, hC, hO, h0, h1⟩ hs
  refine c_seq ?_
  refine c_seq (c_region ?_)
  refine pl_val (.int .i64 s29) (y_move rfl) ?_
  refine pl_val (.slice pa0 pn0 pc0) (y_move rfl) ?_
  refine pl_val (.int .i64 (list.length : Int)) (y_len' Sl41 (rs_len h0) rfl) ?_
  refine pl_val (.bool (decide (s29 < (list.length : Int)))) (y_lss rfl rfl) ?_
  refine pl_val (.bool (decide (s29 < (list.length : Int)))) (y_move rfl) ?_
  rcases bif_some hs with ⟨hc35, hs⟩ | ⟨hc35, hs⟩
  ·skip
   refine pl_yes (.slice pa0 pn0 pc0) (tg := 10) (by kernel_rfl) (congrArg Value.bool hc35) (y_move rfl) ?_
   refine pl_yes (.int .i64 s29) (tg := 10) (by kernel_rfl) (congrArg Value.bool hc35) (y_move rfl) ?_
   obtain ⟨x36, hx36, hs⟩ := bind_some hs
   obtain ⟨b37, o37, hp37, ha37⟩ := rs_idx Sl41 Sz22 h0 hx36
   refine pl_yes (.pointer (some ⟨b37, o37, none⟩)) (tg := 10) (by kernel_rfl) (congrArg Value.bool hc35) (hp37 _ _ _ _ _ _ _ _ _ rfl rfl) ?_
   obtain ⟨v38, hl38, hv38⟩ := at_load Ag22 Sz22 (fun _ => rfl) ha37
   obtain ⟨a38, n38, c38, rfl⟩ := rs_sl hv38
   refine pl_yes (.slice a38 n38 c38) (tg := 10) (by kernel_rfl) (congrArg Value.bool hc35) (y_load rfl (hl38 _ (Chg.refl _ _))) ?_
   obtain ⟨r41, hr41, hs⟩ := bind_some hs
   refine pl_cally (tg := 10) (by kernel_rfl) (congrArg Value.bool hc35) Bd121 rfl (c_spec_l6Count (M := M) x36 hv38 hO.fut hr41) ?_
   rintro _ w40 ⟨rfl, hC40⟩
   have h0 := h0.ext hC40
   have h1 := h1.ext hC40
   have hv38 := hv38.ext hC40
   have hC := hC.ext hC40
   have hO := hO.ext hC40
   refine pl_yes (.slice pa1 pn1 pc1) (tg := 10) (by kernel_rfl) (congrArg Value.bool hc35) (y_move rfl) ?_
   obtain ⟨r43, hr43, hs⟩ := bind_some hs
   refine pl_cally (tg := 10) (by kernel_rfl) (congrArg Value.bool hc35) Bd121 rfl (c_spec_l6Count (M := M) p h1 hO.fut hr43) ?_
   rintro _ w42 ⟨rfl, hC42⟩
   have h0 := h0.ext hC42
   have h1 := h1.ext hC42
   have hv38 := hv38.ext hC42
   have hC := hC.ext hC42
   have hO := hO.ext hC42
   refine pl_yes (.bool (decide (r43 < r41))) (tg := 10) (by kernel_rfl) (congrArg Value.bool hc35) (y_gtr rfl rfl) ?_
   refine pl_yes (.bool (decide (r43 < r41))) (tg := 10) (by kernel_rfl) (congrArg Value.bool hc35) (y_move rfl) ?_
   rcases bif_some hs with ⟨hc44, hs⟩ | ⟨hc44, hs⟩
   ·skip
    refine pl_not (tg := 19) (by kernel_rfl) (congrArg Value.bool hc44) ?_
    refine pl_not (tg := 19) (by kernel_rfl) (congrArg Value.bool hc44) ?_
    refine pl_not (tg := 19) (by kernel_rfl) (congrArg Value.bool hc44) ?_
    refine pl_not (tg := 19) (by kernel_rfl) (congrArg Value.bool hc44) ?_
    refine pl_not (tg := 19) (by kernel_rfl) (congrArg Value.bool hc44) ?_
    refine pl_not (tg := 19) (by kernel_rfl) (congrArg Value.bool hc44) ?_
    refine pl_not (tg := 19) (by kernel_rfl) (congrArg Value.bool hc44) ?_
    refine pl_not (tg := 19) (by kernel_rfl) (congrArg Value.bool hc44) ?_
    refine pl_not (tg := 19) (by kernel_rfl) (congrArg Value.bool hc44) ?_
    refine pl_nou (tg := 28) (by kernel_rfl) rfl ?_
    refine pl_nou (tg := 28) (by kernel_rfl) rfl ?_
    refine pl_nou (tg := 28) (by kernel_rfl) rfl ?_
    refine pl_nou (tg := 28) (by kernel_rfl) rfl ?_
    refine pl_nou (tg := 28) (by kernel_rfl) rfl ?_
    refine pl_nou (tg := 28) (by kernel_rfl) rfl ?_
    refine pl_not (tg := 19) (by kernel_rfl) (congrArg Value.bool hc44) ?_
    refine pl_yes (.bool true) (tg := 10) (by kernel_rfl) (congrArg Value.bool hc35) (y_pick_t (congrArg Value.bool hc44) rfl) ?_
    refine pl_val (.bool true) (y_pick_t (congrArg Value.bool hc35) rfl) ?_
    refine c_nil ?_
    refine c_condT (by rfl) ?_
    refine wp_skip ?_
    refine wp_block ?_
    refine c_region ?_
    refine pl_val (.int .i64 s29) (y_move rfl) ?_
    refine pl_val (.int .i64 (w64 (s29 + 1))) (y_add rfl rfl) ?_
    refine pl_val (.int .i64 (w64 (s29 + 1))) (y_assign rfl) ?_
    refine c_nil ?_
    cases hs
    exact ⟨_, fr_ovl 65 ⟨rfl, rfl, rfl, trivial⟩, hC, hO, h0, h1⟩
   ·skip
    refine pl_yes (.slice pa0 pn0 pc0) (tg := 19) (by kernel_rfl) (congrArg Value.bool hc44) (y_move rfl) ?_
    refine pl_yes (.int .i64 s29) (tg := 19) (by kernel_rfl) (congrArg Value.bool hc44) (y_move rfl) ?_
    obtain ⟨x45, hx45, hs⟩ := bind_some hs
    obtain ⟨b46, o46, hp46, ha46⟩ := rs_idx Sl41 Sz22 h0 hx45
    refine pl_yes (.pointer (some ⟨b46, o46, none⟩)) (tg := 19) (by kernel_rfl) (congrArg Value.bool hc44) (hp46 _ _ _ _ _ _ _ _ _ rfl rfl) ?_
    obtain ⟨v47, hl47, hv47⟩ := at_load Ag22 Sz22 (fun _ => rfl) ha46
    obtain ⟨a47, n47, c47, rfl⟩ := rs_sl hv47
    refine pl_yes (.slice a47 n47 c47) (tg := 19) (by kernel_rfl) (congrArg Value.bool hc44) (y_load rfl (hl47 _ (Chg.refl _ _))) ?_
    obtain ⟨r50, hr50, hs⟩ := bind_some hs
    refine pl_cally (tg := 19) (by kernel_rfl) (congrArg Value.bool hc44) Bd121 rfl (c_spec_l6Count (M := M) x45 hv47 hO.fut hr50) ?_
    rintro _ w49 ⟨rfl, hC49⟩
    have h0 := h0.ext hC49
    have h1 := h1.ext hC49
    have hv38 := hv38.ext hC49
    have hv47 := hv47.ext hC49
    have hC := hC.ext hC49
    have hO := hO.ext hC49
    refine pl_yes (.slice pa1 pn1 pc1) (tg := 19) (by kernel_rfl) (congrArg Value.bool hc44) (y_move rfl) ?_
    obtain ⟨r52, hr52, hs⟩ := bind_some hs
    refine pl_cally (tg := 19) (by kernel_rfl) (congrArg Value.bool hc44) Bd121 rfl (c_spec_l6Count (M := M) p h1 hO.fut hr52) ?_
    rintro _ w51 ⟨rfl, hC51⟩
    have h0 := h0.ext hC51
    have h1 := h1.ext hC51
    have hv38 := hv38.ext hC51
    have hv47 := hv47.ext hC51
    have hC := hC.ext hC51
    have hO := hO.ext hC51
    refine pl_yes (.bool (r50 == r52)) (tg := 19) (by kernel_rfl) (congrArg Value.bool hc44) (y_eql rfl rfl) ?_
    refine pl_yes (.bool (r50 == r52)) (tg := 19) (by kernel_rfl) (congrArg Value.bool hc44) (y_move rfl) ?_
    rcases bif_some hs with ⟨hc53, hs⟩ | ⟨hc53, hs⟩
    ·skip
     refine pl_yes (.slice pa0 pn0 pc0) (tg := 28) (by kernel_rfl) (congrArg Value.bool hc53) (y_move rfl) ?_
     refine pl_yes (.int .i64 s29) (tg := 28) (by kernel_rfl) (congrArg Value.bool hc53) (y_move rfl) ?_
     obtain ⟨x54, hx54, hs⟩ := bind_some hs
     obtain ⟨b55, o55, hp55, ha55⟩ := rs_idx Sl41 Sz22 h0 hx54
     refine pl_yes (.pointer (some ⟨b55, o55, none⟩)) (tg := 28) (by kernel_rfl) (congrArg Value.bool hc53) (hp55 _ _ _ _ _ _ _ _ _ rfl rfl) ?_
     obtain ⟨v56, hl56, hv56⟩ := at_load Ag22 Sz22 (fun _ => rfl) ha55
     obtain ⟨a56, n56, c56, rfl⟩ := rs_sl hv56
     refine pl_yes (.slice a56 n56 c56) (tg := 28) (by kernel_rfl) (congrArg Value.bool hc53) (y_load rfl (hl56 _ (Chg.refl _ _))) ?_
     refine pl_yes (.slice pa1 pn1 pc1) (tg := 28) (by kernel_rfl) (congrArg Value.bool hc53) (y_move rfl) ?_
     obtain ⟨r59, hr59, hs⟩ := bind_some hs
     refine pl_cally (tg := 28) (by kernel_rfl) (congrArg Value.bool hc53) Bd122 rfl (c_spec_l5Less (M := M) x54 p hv56 h1 hO.fut hr59) ?_
     rintro _ w58 ⟨rfl, hC58⟩
     have h0 := h0.ext hC58
     have h1 := h1.ext hC58
     have hv38 := hv38.ext hC58
     have hv47 := hv47.ext hC58
     have hv56 := hv56.ext hC58
     have hC := hC.ext hC58
     have hO := hO.ext hC58
     refine pl_yes (.bool r59) (tg := 19) (by kernel_rfl) (congrArg Value.bool hc44) (y_pick_t (congrArg Value.bool hc53) rfl) ?_
     refine pl_yes (.bool r59) (tg := 10) (by kernel_rfl) (congrArg Value.bool hc35) (y_pick_f (congrArg Value.bool hc44) rfl) ?_
     refine pl_val (.bool r59) (y_pick_t (congrArg Value.bool hc35) rfl) ?_
     refine c_nil ?_
     rcases bif_some hs with ⟨hc60, hs⟩ | ⟨hc60, hs⟩
     ·skip
      refine c_condT (congrArg Value.bool hc60) ?_
      refine wp_skip ?_
      refine wp_block ?_
      refine c_region ?_
      refine pl_val (.int .i64 s29) (y_move rfl) ?_
      refine pl_val (.int .i64 (w64 (s29 + 1))) (y_add rfl rfl) ?_
      refine pl_val (.int .i64 (w64 (s29 + 1))) (y_assign rfl) ?_
      refine c_nil ?_
      cases hs
      exact ⟨_, fr_ovl 65 ⟨rfl, rfl, rfl, trivial⟩, hC, hO, h0, h1⟩
     ·skip
      refine c_condF (congrArg Value.bool hc60) ?_
      refine wp_exit ?_
      cases hs
      exact ⟨rfl, _, fr_ovl 65 ⟨rfl, rfl, rfl, trivial⟩, hC, hO, h0, h1⟩
    ·skip
     refine pl_not (tg := 28) (by kernel_rfl) (congrArg Value.bool hc53) ?_
     refine pl_not (tg := 28) (by kernel_rfl) (congrArg Value.bool hc53) ?_
     refine pl_not (tg := 28) (by kernel_rfl) (congrArg Value.bool hc53) ?_
     refine pl_not (tg := 28) (by kernel_rfl) (congrArg Value.bool hc53) ?_
     refine pl_not (tg := 28) (by kernel_rfl) (congrArg Value.bool hc53) ?_
     refine pl_not (tg := 28) (by kernel_rfl) (congrArg Value.bool hc53) ?_
     refine pl_yes (.bool false) (tg := 19) (by kernel_rfl) (congrArg Value.bool hc44) (y_pick_f (congrArg Value.bool hc53) rfl) ?_
     refine pl_yes (.bool false) (tg := 10) (by kernel_rfl) (congrArg Value.bool hc35) (y_pick_f (congrArg Value.bool hc44) rfl) ?_
     refine pl_val (.bool false) (y_pick_t (congrArg Value.bool hc35) rfl) ?_
     refine c_nil ?_
     refine c_condF (by rfl) ?_
     refine wp_exit ?_
     cases hs
     exact ⟨rfl, _, fr_ovl 65 ⟨rfl, rfl, rfl, trivial⟩, hC, hO, h0, h1⟩
  ·skip
   refine pl_not (tg := 10) (by kernel_rfl) (congrArg Value.bool hc35) ?_
   refine pl_not (tg := 10) (by kernel_rfl) (congrArg Value.bool hc35) ?_
   refine pl_not (tg := 10) (by kernel_rfl) (congrArg Value.bool hc35) ?_
   refine pl_not (tg := 10) (by kernel_rfl) (congrArg Value.bool hc35) ?_
   refine pl_not (tg := 10) (by kernel_rfl) (congrArg Value.bool hc35) ?_
   refine pl_not (tg := 10) (by kernel_rfl) (congrArg Value.bool hc35) ?_
   refine pl_not (tg := 10) (by kernel_rfl) (congrArg Value.bool hc35) ?_
   refine pl_not (tg := 10) (by kernel_rfl) (congrArg Value.bool hc35) ?_
   refine pl_not (tg := 10) (by kernel_rfl) (congrArg Value.bool hc35) ?_
   refine pl_nou (tg := 19) (by kernel_rfl) rfl ?_
   refine pl_nou (tg := 19) (by kernel_rfl) rfl ?_
   refine pl_nou (tg := 19) (by kernel_rfl) rfl ?_
   refine pl_nou (tg := 19) (by kernel_rfl) rfl ?_
   refine pl_nou (tg := 19) (by kernel_rfl) rfl ?_
   refine pl_nou (tg := 19) (by kernel_rfl) rfl ?_
   refine pl_nou (tg := 19) (by kernel_rfl) rfl ?_
   refine pl_nou (tg := 19) (by kernel_rfl) rfl ?_
   refine pl_nou (tg := 19) (by kernel_rfl) rfl ?_
   refine pl_nou (tg := 28) (by kernel_rfl) rfl ?_
   refine pl_nou (tg := 28) (by kernel_rfl) rfl ?_
   refine pl_nou (tg := 28) (by kernel_rfl) rfl ?_
   refine pl_nou (tg := 28) (by kernel_rfl) rfl ?_
   refine pl_nou (tg := 28) (by kernel_rfl) rfl ?_
   refine pl_nou (tg := 28) (by kernel_rfl) rfl ?_
   refine pl_nou (tg := 19) (by kernel_rfl) rfl ?_
   refine pl_not (tg := 10) (by kernel_rfl) (congrArg Value.bool hc35) ?_
   refine pl_val (.bool false) (y_pick_f (congrArg Value.bool hc35) rfl) ?_
   refine c_nil ?_
   refine c_condF (by rfl) ?_
   refine wp_exit ?_
   cases hs
   exact ⟨rfl, _, fr_ovl 65 ⟨rfl, rfl, rfl, trivial⟩, hC, hO, h0, h1⟩
 ·skip
  exact ⟨_, fr_ovl 65 ⟨rfl, rfl, rfl, trivial⟩, hC, hO, h0, h1⟩
 ·cases o33 with
  | nx _ => exact True.intro
  | rt r_ =>
   have hs := after_rt hs
   intro a1 w1 hK
   cases hs
   exact hK
  | br s29 =>
   have hs := after_br hs
   rintro a1 w30 ⟨σ, rfl, hC, hO, h0, h1⟩
   refine c_seq ?_
   refine c_seq ?_
   obtain ⟨s61, hm63, hs⟩ := bind_some hs
   refine c_mid (I := fun a w62 => ∃ (σ : Nat → Value), a = fr 65 (ovl σ [(0, (.slice pa0 pn0 pc0)), (1, (.slice pa1 pn1 pc1)), (5, (.int .i64 s29)), (51, (.bool s61))]) ∧ Chg [] w30 w62) ?_ ?_
   ·replace hs := hm63
    have hMid := Chg.refl [] w30
    refine c_region ?_
    refine pl_val (.int .i64 s29) (y_move rfl) ?_
    refine pl_val (.slice pa0 pn0 pc0) (y_move rfl) ?_
    refine pl_val (.int .i64 (list.length : Int)) (y_len' Sl41 (rs_len h0) rfl) ?_
    refine pl_val (.bool (decide (s29 < (list.length : Int)))) (y_lss rfl rfl) ?_
    refine pl_val (.bool (decide (s29 < (list.length : Int)))) (y_move rfl) ?_
    rcases bif_some hs with ⟨hc64, hs⟩ | ⟨hc64, hs⟩
    ·skip
     refine pl_yes (.slice pa0 pn0 pc0) (tg := 44) (by kernel_rfl) (congrArg Value.bool hc64) (y_move rfl) ?_
     refine pl_yes (.int .i64 s29) (tg := 44) (by kernel_rfl) (congrArg Value.bool hc64) (y_move rfl) ?_
     obtain ⟨x65, hx65, hs⟩ := bind_some hs
     obtain ⟨b66, o66, hp66, ha66⟩ := rs_idx Sl41 Sz22 h0 hx65
     refine pl_yes (.pointer (some ⟨b66, o66, none⟩)) (tg := 44) (by kernel_rfl) (congrArg Value.bool hc64) (hp66 _ _ _ _ _ _ _ _ _ rfl rfl) ?_
     obtain ⟨v67, hl67, hv67⟩ := at_load Ag22 Sz22 (fun _ => rfl) ha66
     obtain ⟨a67, n67, c67, rfl⟩ := rs_sl hv67
     refine pl_yes (.slice a67 n67 c67) (tg := 44) (by kernel_rfl) (congrArg Value.bool hc64) (y_load rfl (hl67 _ (Chg.refl _ _))) ?_
     refine pl_yes (.slice pa1 pn1 pc1) (tg := 44) (by kernel_rfl) (congrArg Value.bool hc64) (y_move rfl) ?_
     obtain ⟨r70, hr70, hs⟩ := bind_some hs
     refine pl_cally (tg := 44) (by kernel_rfl) (congrArg Value.bool hc64) Bd86 rfl (c_spec_l1Same (M := M) x65 p hv67 h1 hO.fut hr70) ?_
     rintro _ w69 ⟨rfl, hC69⟩
     have h0 := h0.ext hC69
     have h1 := h1.ext hC69
     have hv67 := hv67.ext hC69
     have hMid := hMid.ext hC69
     have hC := hC.ext hC69
     have hO := hO.ext hC69
     refine pl_val (.bool r70) (y_pick_t (congrArg Value.bool hc64) rfl) ?_
     refine c_nil ?_
     cases hs
     exact ⟨_, fr_ovl 65 ⟨rfl, rfl, rfl, rfl, trivial⟩, hMid⟩
    ·skip
     refine pl_not (tg := 44) (by kernel_rfl) (congrArg Value.bool hc64) ?_
     refine pl_not (tg := 44) (by kernel_rfl) (congrArg Value.bool hc64) ?_
     refine pl_not (tg := 44) (by kernel_rfl) (congrArg Value.bool hc64) ?_
     refine pl_not (tg := 44) (by kernel_rfl) (congrArg Value.bool hc64) ?_
     refine pl_not (tg := 44) (by kernel_rfl) (congrArg Value.bool hc64) ?_
     refine pl_not (tg := 44) (by kernel_rfl) (congrArg Value.bool hc64) ?_
     refine pl_val (.bool false) (y_pick_f (congrArg Value.bool hc64) rfl) ?_
     refine c_nil ?_
     cases hs
     exact ⟨_, fr_ovl 65 ⟨rfl, rfl, rfl, rfl, trivial⟩, hMid⟩
   ·rintro a1 w62 ⟨σ, rfl, hCs61⟩
    have h0 := h0.ext hCs61
    have h1 := h1.ext hCs61
    have hC := hC.ext hCs61
    have hO := hO.ext hCs61
    rcases bif_some hs with ⟨hc71, hs⟩ | ⟨hc71, hs⟩
    ·skip
     refine c_condT (congrArg Value.bool hc71) ?_
     refine c_seq (c_region ?_)
     refine pl_val (.slice pa0 pn0 pc0) (y_move rfl) ?_
     refine pl_val (.slice pa0 pn0 pc0) (y_assign rfl) ?_
     refine c_nil ?_
     refine wp_ret ?_
     cases hs
     exact ⟨_, pa0, pn0, pc0, fr_ovl 65 ⟨rfl, trivial⟩, hC, (Keeps.out Keeps.refl h0)⟩
    ·skip
     refine c_condF (congrArg Value.bool hc71) ?_
     refine wp_skip ?_
     refine c_seq ?_
     refine x_start [4, 7, 11] Mx rfl ?_
     have hCw72 := Chg.drew w62
     generalize World.drew w62 = w72 at hCw72 ⊢
     have h0 := h0.ext hCw72
     have h1 := h1.ext hCw72
     have hC := hC.ext hCw72
     have hO := hO.ext hCw72
     have hS := Chg.refl [] w72
     refine x_p 1 (.slice pa0 pn0 pc0) rfl (by kernel_rfl)  (fun _ => y_move rfl) (fun _ => hS) ?_
     refine x_p 2 (.int .i64 s29) rfl (by kernel_rfl)  (fun _ => y_move rfl) (fun _ => hS) ?_
     obtain ⟨y74, hy74, hs⟩ := bind_some hs
     obtain ⟨a73, n73, c73, hv73, hr73, hq73, hz73⟩ := rs_part Try.underlying41 Sz22 h0 hy74
     refine x_p 3 (.slice a73 n73 c73) rfl (by kernel_rfl)  (fun _ => y_slice rfl rfl rfl (hq73 rfl _)) (fun _ => hS) ?_
     refine x_p 5 (.slice pa1 pn1 pc1) rfl (by kernel_rfl)  (fun _ => y_move rfl) (fun _ => hS) ?_
     refine x_p 8 (.slice pa0 pn0 pc0) rfl (by kernel_rfl)  (fun _ => y_move rfl) (fun _ => hS) ?_
     refine x_p 9 (.int .i64 s29) rfl (by kernel_rfl)  (fun _ => y_move rfl) (fun _ => hS) ?_
     obtain ⟨y77, hy77, hs⟩ := bind_some hs
     obtain ⟨a76, n76, c76, hv76, hr76, hq76, hz76⟩ := rs_part Try.underlying41 Sz22 h0 hy77
     refine x_p 10 (.slice a76 n76 c76) rfl (by kernel_rfl)  (fun _ => y_slice rfl rfl rfl (hz76 rfl _)) (fun _ => hS) ?_
     refine x_two (i := 0) (j := 6) (by kernel_rfl) ?_ ?_
     ·skip
      obtain ⟨w79, g79, ew79, eg79, hC79, hb79⟩ := new_block w72 [] 22
      refine xk_val (w' := w79) (b := false) (.slice (some ⟨g79, 0, none⟩) 0 0) rfl  (y_bslice rfl (by rw [ew79, eg79]; kernel_rfl)) rfl (fun _ => hS.ext hC79) ?_
      have h0 := h0.ext hC79
      have h1 := h1.ext hC79
      have hv73 := hv73.ext hC79
      have hv76 := hv76.ext hC79
      have hC := hC.ext hC79
      have hO := hO.new1 hC79 eg79 hb79.lt
      have hv79 := os_of_box (r := (RT.os 3 (RT.int .i64))) (M := M) (css := []) (fps := []) (xs := ([] : List (List Int))) hb79 trivial (Nat.zero_le _) (List.nodup_cons.2 ⟨(fun h => nomatch h), List.nodup_nil⟩)
      have hv79 : (RT.os 22 (RT.os 3 (RT.int .i64))).val M w79 (.slice (some ⟨g79, 0, none⟩) 0 0) [] [g79] := hv79
      have hS := hS.ext hC79
      refine x_two (i := 4) (j := 6) (by kernel_rfl) ?_ ?_
      ·skip
       obtain ⟨M82, f82, hs82, hk82, hO, hv82⟩ := os_inner (Frz.os Frz.int) hv79 hO
       have h0 := h0.sub (M' := M82) hs82
       have h1 := h1.sub (M' := M82) hs82
       have hv73 := hv73.sub (M' := M82) hs82
       have hv76 := hv76.sub (M' := M82) hs82
       have hK := hk82
       obtain ⟨y83, hy83, hs⟩ := bind_some hs
       obtain ⟨a81, n81, c81, w81, f81, hr81, hC81, hf81, hv81⟩ := app_rs Rw41 hy83 hv82 hv73 hO.inM
       have hG81 := os_block hv82
       refine xk_val (w' := w81) (b := true) (.slice a81 n81 c81) rfl  (y_append rfl rfl (hr81 _)) rfl (fun h => nomatch h) ?_
       have h0 := h0.mut hC81 (fun g hg => hO.inM g (hG81 g hg)) (fun _ _ h => nomatch h)
       have h1 := h1.mut hC81 (fun g hg => hO.inM g (hG81 g hg)) (fun _ _ h => nomatch h)
       have hv73 := hv73.mut hC81 (fun g hg => hO.inM g (hG81 g hg)) (fun _ _ h => nomatch h)
       have hv76 := hv76.mut hC81 (fun g hg => hO.inM g (hG81 g hg)) (fun _ _ h => nomatch h)
       have hC := hC.step hC81 (fun g hg => hO.inN g (hG81 g hg))
       have hO := hO.grow hC81 hf81 (os_nodup hv81) hv81.fpl
       refine x_one (i := 6) (by kernel_rfl) ?_
       obtain ⟨w85, g85, ew85, eg85, hC85, hb85⟩ := new_block w81 [(.slice pa1 pn1 pc1)] 22
       refine xk_val (w' := w85) (b := true) (.slice (some ⟨g85, 0, none⟩) 1 1) rfl  (y_bslice rfl (by rw [ew85, eg85]; kernel_rfl)) rfl (fun h => nomatch h) ?_
       have h0 := h0.ext hC85
       have h1 := h1.ext hC85
       have hv73 := hv73.ext hC85
       have hv76 := hv76.ext hC85
       have hv81 := hv81.ext hC85
       have hC := hC.ext hC85
       have hO := hO.new1 hC85 eg85 hb85.lt
       have hv85 := os_of_box (r := (RT.rs (RT.int .i64))) (M := M82) (css := [[(.slice pa1 pn1 pc1)]]) (fps := [([] : List Nat)]) (xs := ([p] : List (List Int))) hb85 ⟨(rs_unval h1), trivial⟩ (Nat.le_of_ble_eq_true rfl) (List.nodup_cons.2 ⟨(fun h => nomatch h), List.nodup_nil⟩)
       have hv85 : (RT.os 22 (RT.rs (RT.int .i64))).val M82 w85 (.slice (some ⟨g85, 0, none⟩) 1 1) [p] [g85] := hv85
       refine x_one (i := 7) (by kernel_rfl) ?_
       obtain ⟨y88, hy88, hs⟩ := bind_some hs
       have hO := hO.fr1
       obtain ⟨a87, n87, c87, w87, f87, hr87, hC87, hf87, hv87⟩ := app_os Rw41 hy88 hv81 hv85 hO.inM (fun g hg hq => hO.apart g hq (mem_l hg))
       have hG87 := os_block hv81
       refine xk_val (w' := w87) (b := true) (.slice a87 n87 c87) rfl  (y_append rfl rfl (hr87 _)) rfl (fun h => nomatch h) ?_
       have hO := hO.fr1
       have hO := hO.fr1
       have h0 := h0.mut hC87 (fun g hg => hO.inM g (hG87 g hg)) (fun _ _ h => nomatch h)
       have h1 := h1.mut hC87 (fun g hg => hO.inM g (hG87 g hg)) (fun _ _ h => nomatch h)
       have hv73 := hv73.mut hC87 (fun g hg => hO.inM g (hG87 g hg)) (fun _ _ h => nomatch h)
       have hv76 := hv76.mut hC87 (fun g hg => hO.inM g (hG87 g hg)) (fun _ _ h => nomatch h)
       have hC := hC.step hC87 (fun g hg => hO.inN g (hG87 g hg))
       have hO := hO.eat hC87 hf87 (os_nodup hv87) hv87.fpl
       refine x_one (i := 11) (by kernel_rfl) ?_
       obtain ⟨y91, hy91, hs⟩ := bind_some hs
       obtain ⟨a90, n90, c90, w90, f90, hr90, hC90, hf90, hv90⟩ := app_rs Rw41 hy91 hv87 hv76 hO.inM
       have hG90 := os_block hv87
       refine xk_val (w' := w90) (b := true) (.slice a90 n90 c90) rfl  (y_append rfl rfl (hr90 _)) rfl (fun h => nomatch h) ?_
       have h0 := h0.mut hC90 (fun g hg => hO.inM g (hG90 g hg)) (fun _ _ h => nomatch h)
       have h1 := h1.mut hC90 (fun g hg => hO.inM g (hG90 g hg)) (fun _ _ h => nomatch h)
       have hv73 := hv73.mut hC90 (fun g hg => hO.inM g (hG90 g hg)) (fun _ _ h => nomatch h)
       have hv76 := hv76.mut hC90 (fun g hg => hO.inM g (hG90 g hg)) (fun _ _ h => nomatch h)
       have hC := hC.step hC90 (fun g hg => hO.inN g (hG90 g hg))
       have hO := hO.grow hC90 hf90 (os_nodup hv90) hv90.fpl
       refine x_p 12 (.slice a90 n90 c90) rfl (by kernel_rfl)  (fun _ => y_assign rfl) (fun h => nomatch h) ?_
       refine x_end (by kernel_rfl) ?_
       clear hS
       refine wp_ret ?_
       cases hs
       obtain ⟨M93, eM93, hs93, hk93, hO, hv93⟩ := frz_own (Frz.os (Frz.rs Frz.int)) hv90 hO
       have h0 := h0.sub (M' := M93) hs93
       have h1 := h1.sub (M' := M93) hs93
       have hv73 := hv73.sub (M' := M93) hs93
       have hv76 := hv76.sub (M' := M93) hs93
       have hK := hK.trans hk93
       exact ⟨_, a90, n90, c90, fr_ovl 65 ⟨rfl, trivial⟩, hC, (Keeps.out hK hv93)⟩
      ·skip
       obtain ⟨w94, g94, ew94, eg94, hC94, hb94⟩ := new_block w79 [(.slice pa1 pn1 pc1)] 22
       refine xk_val (w' := w94) (b := false) (.slice (some ⟨g94, 0, none⟩) 1 1) rfl  (y_bslice rfl (by rw [ew94, eg94]; kernel_rfl)) rfl (fun _ => hS.ext hC94) ?_
       have h0 := h0.ext hC94
       have h1 := h1.ext hC94
       have hv73 := hv73.ext hC94
       have hv76 := hv76.ext hC94
       have hv79 := hv79.ext hC94
       have hC := hC.ext hC94
       have hO := hO.new1 hC94 eg94 hb94.lt
       have hv94 := os_of_box (r := (RT.rs (RT.int .i64))) (M := M) (css := [[(.slice pa1 pn1 pc1)]]) (fps := [([] : List Nat)]) (xs := ([p] : List (List Int))) hb94 ⟨(rs_unval h1), trivial⟩ (Nat.le_of_ble_eq_true rfl) (List.nodup_cons.2 ⟨(fun h => nomatch h), List.nodup_nil⟩)
       have hv94 : (RT.os 22 (RT.rs (RT.int .i64))).val M w94 (.slice (some ⟨g94, 0, none⟩) 1 1) [p] [g94] := hv94
       have hS := hS.ext hC94
       refine x_one (i := 4) (by kernel_rfl) ?_
       have hO := hO.fr1
       obtain ⟨M97, f97, hs97, hk97, hO, hv97⟩ := os_inner (Frz.os Frz.int) hv79 hO
       have h0 := h0.sub (M' := M97) hs97
       have h1 := h1.sub (M' := M97) hs97
       have hv73 := hv73.sub (M' := M97) hs97
       have hv76 := hv76.sub (M' := M97) hs97
       have hv94 := hv94.sub (M' := M97) hs97
       have hK := hk97
       obtain ⟨y83, hy83, hs⟩ := bind_some hs
       obtain ⟨a96, n96, c96, w96, f96, hr96, hC96, hf96, hv96⟩ := app_rs Rw41 hy83 hv97 hv73 hO.inM
       have hG96 := os_block hv97
       refine xk_val (w' := w96) (b := true) (.slice a96 n96 c96) rfl  (y_append rfl rfl (hr96 _)) rfl (fun h => nomatch h) ?_
       have h0 := h0.mut hC96 (fun g hg => hO.inM g (hG96 g hg)) (fun _ _ h => nomatch h)
       have h1 := h1.mut hC96 (fun g hg => hO.inM g (hG96 g hg)) (fun _ _ h => nomatch h)
       have hv73 := hv73.mut hC96 (fun g hg => hO.inM g (hG96 g hg)) (fun _ _ h => nomatch h)
       have hv76 := hv76.mut hC96 (fun g hg => hO.inM g (hG96 g hg)) (fun _ _ h => nomatch h)
       have hv94 := hv94.mut hC96 (fun g hg => hO.inM g (hG96 g hg)) (fun g hg e => hO.apart g (hG96 g hg) (mem_l (e)))
       have hC := hC.step hC96 (fun g hg => hO.inN g (hG96 g hg))
       have hO := hO.grow hC96 hf96 (os_nodup hv96) hv96.fpl
       refine x_one (i := 7) (by kernel_rfl) ?_
       obtain ⟨y88, hy88, hs⟩ := bind_some hs
       have hO := hO.fr1
       have hO := hO.fr1
       obtain ⟨a100, n100, c100, w100, f100, hr100, hC100, hf100, hv100⟩ := app_os Rw41 hy88 hv96 hv94 hO.inM (fun g hg hq => hO.apart g hq (mem_l hg))
       have hG100 := os_block hv96
       refine xk_val (w' := w100) (b := true) (.slice a100 n100 c100) rfl  (y_append rfl rfl (hr100 _)) rfl (fun h => nomatch h) ?_
       have hO := hO.fr1
       have hO := hO.fr1
       have h0 := h0.mut hC100 (fun g hg => hO.inM g (hG100 g hg)) (fun _ _ h => nomatch h)
       have h1 := h1.mut hC100 (fun g hg => hO.inM g (hG100 g hg)) (fun _ _ h => nomatch h)
       have hv73 := hv73.mut hC100 (fun g hg => hO.inM g (hG100 g hg)) (fun _ _ h => nomatch h)
       have hv76 := hv76.mut hC100 (fun g hg => hO.inM g (hG100 g hg)) (fun _ _ h => nomatch h)
       have hC := hC.step hC100 (fun g hg => hO.inN g (hG100 g hg))
       have hO := hO.eat hC100 hf100 (os_nodup hv100) hv100.fpl
       refine x_one (i := 11) (by kernel_rfl) ?_
       obtain ⟨y91, hy91, hs⟩ := bind_some hs
       obtain ⟨a103, n103, c103, w103, f103, hr103, hC103, hf103, hv103⟩ := app_rs Rw41 hy91 hv100 hv76 hO.inM
       have hG103 := os_block hv100
       refine xk_val (w' := w103) (b := true) (.slice a103 n103 c103) rfl  (y_append rfl rfl (hr103 _)) rfl (fun h => nomatch h) ?_
       have h0 := h0.mut hC103 (fun g hg => hO.inM g (hG103 g hg)) (fun _ _ h => nomatch h)
       have h1 := h1.mut hC103 (fun g hg => hO.inM g (hG103 g hg)) (fun _ _ h => nomatch h)
       have hv73 := hv73.mut hC103 (fun g hg => hO.inM g (hG103 g hg)) (fun _ _ h => nomatch h)
       have hv76 := hv76.mut hC103 (fun g hg => hO.inM g (hG103 g hg)) (fun _ _ h => nomatch h)
       have hC := hC.step hC103 (fun g hg => hO.inN g (hG103 g hg))
       have hO := hO.grow hC103 hf103 (os_nodup hv103) hv103.fpl
       refine x_p 12 (.slice a103 n103 c103) rfl (by kernel_rfl)  (fun _ => y_assign rfl) (fun h => nomatch h) ?_
       refine x_end (by kernel_rfl) ?_
       clear hS
       refine wp_ret ?_
       cases hs
       obtain ⟨M106, eM106, hs106, hk106, hO, hv106⟩ := frz_own (Frz.os (Frz.rs Frz.int)) hv103 hO
       have h0 := h0.sub (M' := M106) hs106
       have h1 := h1.sub (M' := M106) hs106
       have hv73 := hv73.sub (M' := M106) hs106
       have hv76 := hv76.sub (M' := M106) hs106
       have hK := hK.trans hk106
       exact ⟨_, a103, n103, c103, fr_ovl 65 ⟨rfl, trivial⟩, hC, (Keeps.out hK hv106)⟩
     ·skip
      obtain ⟨w107, g107, ew107, eg107, hC107, hb107⟩ := new_block w72 [(.slice pa1 pn1 pc1)] 22
      refine xk_val (w' := w107) (b := false) (.slice (some ⟨g107, 0, none⟩) 1 1) rfl  (y_bslice rfl (by rw [ew107, eg107]; kernel_rfl)) rfl (fun _ => hS.ext hC107) ?_
      have h0 := h0.ext hC107
      have h1 := h1.ext hC107
      have hv73 := hv73.ext hC107
      have hv76 := hv76.ext hC107
      have hC := hC.ext hC107
      have hO := hO.new1 hC107 eg107 hb107.lt
      have hv107 := os_of_box (r := (RT.rs (RT.int .i64))) (M := M) (css := [[(.slice pa1 pn1 pc1)]]) (fps := [([] : List Nat)]) (xs := ([p] : List (List Int))) hb107 ⟨(rs_unval h1), trivial⟩ (Nat.le_of_ble_eq_true rfl) (List.nodup_cons.2 ⟨(fun h => nomatch h), List.nodup_nil⟩)
      have hv107 : (RT.os 22 (RT.rs (RT.int .i64))).val M w107 (.slice (some ⟨g107, 0, none⟩) 1 1) [p] [g107] := hv107
      have hS := hS.ext hC107
      refine x_one (i := 0) (by kernel_rfl) ?_
      obtain ⟨w109, g109, ew109, eg109, hC109, hb109⟩ := new_block w107 [] 22
      refine xk_val (w' := w109) (b := false) (.slice (some ⟨g109, 0, none⟩) 0 0) rfl  (y_bslice rfl (by rw [ew109, eg109]; kernel_rfl)) rfl (fun _ => hS.ext hC109) ?_
      have h0 := h0.ext hC109
      have h1 := h1.ext hC109
      have hv73 := hv73.ext hC109
      have hv76 := hv76.ext hC109
      have hv107 := hv107.ext hC109
      have hC := hC.ext hC109
      have hO := hO.new1 hC109 eg109 hb109.lt
      have hv109 := os_of_box (r := (RT.os 3 (RT.int .i64))) (M := M) (css := []) (fps := []) (xs := ([] : List (List Int))) hb109 trivial (Nat.zero_le _) (List.nodup_cons.2 ⟨(fun h => nomatch h), List.nodup_nil⟩)
      have hv109 : (RT.os 22 (RT.os 3 (RT.int .i64))).val M w109 (.slice (some ⟨g109, 0, none⟩) 0 0) [] [g109] := hv109
      have hS := hS.ext hC109
      refine x_one (i := 4) (by kernel_rfl) ?_
      obtain ⟨M112, f112, hs112, hk112, hO, hv112⟩ := os_inner (Frz.os Frz.int) hv109 hO
      have h0 := h0.sub (M' := M112) hs112
      have h1 := h1.sub (M' := M112) hs112
      have hv73 := hv73.sub (M' := M112) hs112
      have hv76 := hv76.sub (M' := M112) hs112
      have hv107 := hv107.sub (M' := M112) hs112
      have hK := hk112
      obtain ⟨y83, hy83, hs⟩ := bind_some hs
      obtain ⟨a111, n111, c111, w111, f111, hr111, hC111, hf111, hv111⟩ := app_rs Rw41 hy83 hv112 hv73 hO.inM
      have hG111 := os_block hv112
      refine xk_val (w' := w111) (b := true) (.slice a111 n111 c111) rfl  (y_append rfl rfl (hr111 _)) rfl (fun h => nomatch h) ?_
      have h0 := h0.mut hC111 (fun g hg => hO.inM g (hG111 g hg)) (fun _ _ h => nomatch h)
      have h1 := h1.mut hC111 (fun g hg => hO.inM g (hG111 g hg)) (fun _ _ h => nomatch h)
      have hv73 := hv73.mut hC111 (fun g hg => hO.inM g (hG111 g hg)) (fun _ _ h => nomatch h)
      have hv76 := hv76.mut hC111 (fun g hg => hO.inM g (hG111 g hg)) (fun _ _ h => nomatch h)
      have hv107 := hv107.mut hC111 (fun g hg => hO.inM g (hG111 g hg)) (fun g hg e => hO.apart g (hG111 g hg) (mem_l (e)))
      have hC := hC.step hC111 (fun g hg => hO.inN g (hG111 g hg))
      have hO := hO.grow hC111 hf111 (os_nodup hv111) hv111.fpl
      refine x_one (i := 7) (by kernel_rfl) ?_
      obtain ⟨y88, hy88, hs⟩ := bind_some hs
      have hO := hO.fr1
      have hO := hO.fr1
      obtain ⟨a115, n115, c115, w115, f115, hr115, hC115, hf115, hv115⟩ := app_os Rw41 hy88 hv111 hv107 hO.inM (fun g hg hq => hO.apart g hq (mem_l hg))
      have hG115 := os_block hv111
      refine xk_val (w' := w115) (b := true) (.slice a115 n115 c115) rfl  (y_append rfl rfl (hr115 _)) rfl (fun h => nomatch h) ?_
      have hO := hO.fr1
      have hO := hO.fr1
      have h0 := h0.mut hC115 (fun g hg => hO.inM g (hG115 g hg)) (fun _ _ h => nomatch h)
      have h1 := h1.mut hC115 (fun g hg => hO.inM g (hG115 g hg)) (fun _ _ h => nomatch h)
      have hv73 := hv73.mut hC115 (fun g hg => hO.inM g (hG115 g hg)) (fun _ _ h => nomatch h)
      have hv76 := hv76.mut hC115 (fun g hg => hO.inM g (hG115 g hg)) (fun _ _ h => nomatch h)
      have hC := hC.step hC115 (fun g hg => hO.inN g (hG115 g hg))
      have hO := hO.eat hC115 hf115 (os_nodup hv115) hv115.fpl
      refine x_one (i := 11) (by kernel_rfl) ?_
      obtain ⟨y91, hy91, hs⟩ := bind_some hs
      obtain ⟨a118, n118, c118, w118, f118, hr118, hC118, hf118, hv118⟩ := app_rs Rw41 hy91 hv115 hv76 hO.inM
      have hG118 := os_block hv115
      refine xk_val (w' := w118) (b := true) (.slice a118 n118 c118) rfl  (y_append rfl rfl (hr118 _)) rfl (fun h => nomatch h) ?_
      have h0 := h0.mut hC118 (fun g hg => hO.inM g (hG118 g hg)) (fun _ _ h => nomatch h)
      have h1 := h1.mut hC118 (fun g hg => hO.inM g (hG118 g hg)) (fun _ _ h => nomatch h)
      have hv73 := hv73.mut hC118 (fun g hg => hO.inM g (hG118 g hg)) (fun _ _ h => nomatch h)
      have hv76 := hv76.mut hC118 (fun g hg => hO.inM g (hG118 g hg)) (fun _ _ h => nomatch h)
      have hC := hC.step hC118 (fun g hg => hO.inN g (hG118 g hg))
      have hO := hO.grow hC118 hf118 (os_nodup hv118) hv118.fpl
      refine x_p 12 (.slice a118 n118 c118) rfl (by kernel_rfl)  (fun _ => y_assign rfl) (fun h => nomatch h) ?_
      refine x_end (by kernel_rfl) ?_
      clear hS
      refine wp_ret ?_
      cases hs
      obtain ⟨M121, eM121, hs121, hk121, hO, hv121⟩ := frz_own (Frz.os (Frz.rs Frz.int)) hv118 hO
      have h0 := h0.sub (M' := M121) hs121
      have h1 := h1.sub (M' := M121) hs121
      have hv73 := hv73.sub (M' := M121) hs121
      have hv76 := hv76.sub (M' := M121) hs121
      have hK := hK.trans hk121
      exact ⟨_, a118, n118, c118, fr_ovl 65 ⟨rfl, trivial⟩, hC, (Keeps.out hK hv121)⟩

def k_spec_l6Join (M : Nat → Prop) (w0 : World) (r : (List Int)) (a : Act) (w : World) : Prop :=
  ∃ (σ : Nat → Value) (ra0 : Option Addr) (rn0 rc0 : Nat) (rf0 : List Nat), a = fr 23 (ovl σ [(4, (.slice ra0 rn0 rc0))]) ∧ Chg [] w0 w ∧ (RT.os 3 (RT.int .i64)).val M w (.slice ra0 rn0 rc0) r rf0 ∧ Own (Nw w0 []) (fun _ => True) w (rf0 ++ ([]))
def s_spec_l6Join (p : List Int) (q : List Int) : Option ((List Int)) :=
  (s_spec_l1Own p).bind fun r4 =>
  (forC (S := (List Int)) (R := (List Int)) (fun k15 s13 =>
  (idx q k15).bind fun x23 =>
  (s_spec_l6Unite s13 k15 x23).bind fun r26 =>
  some (.nx r26)) 0 (q.length : Int) r4).bind fun o17 => after o17 (fun r_ => some r_) (fun s13 =>
  some s13)
set_option maxHeartbeats 4000000 in
theorem c_spec_l6Join {M : Nat → Prop} {w : World} {pa0 : Option Addr} {pn0 pc0 : Nat} {pa1 : Option Addr} {pn1 pc1 : Nat} (p : List Int) (q : List Int) (h0 : (RT.rs (RT.int .i64)).val M w (.slice pa0 pn0 pc0) p ([])) (h1 : (RT.rs (RT.int .i64)).val M w (.slice pa1 pn1 pc1) q ([])) (hM : ∀ g, w.heap.size ≤ g → M g) {r : (List Int)} (hs : s_spec_l6Join p q = some r) :
    Gives Try.prog 72 [(.slice pa0 pn0 pc0), (.slice pa1 pn1 pc1)] w (fun v w' => ∃ (ra0 : Option Addr) (rn0 rc0 : Nat) (rf0 : List Nat), v = (.slice ra0 rn0 rc0) ∧ Chg [] w w' ∧ (RT.os 3 (RT.int .i64)).val M w' (.slice ra0 rn0 rc0) r rf0 ∧ Own (Nw w []) (fun _ => True) w' (rf0 ++ ([]))) := by
 refine calls_fr Try.func72 rfl Try.ntmps72 (Nat.le_of_ble_eq_true rfl) ?_
 have hO := Own.start (N := Nw w []) hM Nw.fut
 have hC := Chg.refl [] w
 unfold s_spec_l6Join at hs
 refine wp_mono (Q := KPost (k_spec_l6Join M w r)) ?_ (fun e a w1 h => ?_)
 rotate_left
 ·cases e
  case ret =>
   obtain ⟨σ, ra0, rn0, rc0, rf0, rfl, hrest⟩ := h
   exact ret1x Try.results72 (res_tmp rfl) ⟨ra0, rn0, rc0, rf0, rfl, hrest⟩
  all_goals exact (h : False).elim
 refine c_seq (c_region ?_)
 refine pl_val (.slice none 0 0) (y_assign rfl) ?_
 refine c_nil ?_
 refine c_seq (c_region ?_)
 refine pl_val (.slice pa0 pn0 pc0) (y_move rfl) ?_
 obtain ⟨r4, hr4, hs⟩ := bind_some hs
 refine pl_call Bd100 rfl (c_spec_l1Own (M := M) p h0 hO.fut hr4) ?_
 rintro _ w3 ⟨a3x0, n3x0, c3x0, f3x0, rfl, hC3, hv3x0, hOc3⟩
 have h0 := h0.ext hC3
 have h1 := h1.ext hC3
 have hC := hC.ext hC3
 have hO := Own.join0 hO hC3 hOc3
 have hO := hO.perm (R := f3x0 ++ ([])) (by simp)
 refine pl_val (.slice a3x0 n3x0 c3x0) (y_assign rfl) ?_
 refine c_nil ?_
 refine c_seq ?_
 refine c_seq (c_region ?_)
 refine pl_val (.int .i64 0) (y_assign rfl) ?_
 refine c_nil ?_
 obtain ⟨o17, hl18, hs⟩ := bind_some hs
 refine wp_block ?_
 refine wp_forC (id := 0) (q.length : Int) (I := fun k15 s13 a w14 => ∃ (σ : Nat → Value) (a19 : Option Addr) (n19 : Nat) (c19 : Nat) (f19 : List Nat), a = fr 23 (ovl σ [(1, (.slice pa1 pn1 pc1)), (5, (.slice a19 n19 c19)), (6, (.int .i64 k15))]) ∧ Chg [] w w14 ∧ Own (Nw w []) M w14 (f19 ++ []) ∧ (RT.rs (RT.int .i64)).val M w14 (.slice pa1 pn1 pc1) q ([]) ∧ (RT.os 3 (RT.int .i64)).val M w14 (.slice a19 n19 c19) s13 f19) (J := fun s13 a w14 => ∃ (σ : Nat → Value) (a21 : Option Addr) (n21 : Nat) (c21 : Nat) (f21 : List Nat), a = fr 23 (ovl σ [(5, (.slice a21 n21 c21))]) ∧ Chg [] w w14 ∧ Own (Nw w []) M w14 (f21 ++ []) ∧ (RT.rs (RT.int .i64)).val M w14 (.slice pa1 pn1 pc1) q ([]) ∧ (RT.os 3 (RT.int .i64)).val M w14 (.slice a21 n21 c21) s13 f21) (K := (k_spec_l6Join M w)) ?_ ?_ 0 r4 o17 _ _ ?_ hl18 ?_
 ·rintro k15 s13 a w14 ⟨σ, a19, n19, c19, f19, rfl, hC, hO, h1, hv19⟩ hlt
  refine c_seq ?_
  refine c_seq (c_region ?_)
  refine pl_val (.int .i64 k15) (y_move rfl) ?_
  refine pl_val (.slice pa1 pn1 pc1) (y_move rfl) ?_
  refine pl_val (.int .i64 (q.length : Int)) (y_len' Sl22 (rs_len h1) rfl) ?_
  refine pl_val (.bool (decide (k15 < (q.length : Int)))) (y_lss rfl rfl) ?_
  refine c_nil ?_
  refine c_condF (congrArg Value.bool (decide_eq_false hlt)) ?_
  refine wp_exit ?_
  exact ⟨rfl, _, a19, n19, c19, f19, fr_ovl 23 ⟨rfl, trivial⟩, hC, hO, h1, hv19⟩
 ·rintro k15 s13 o17 a w14 ⟨σ, a19, n19, c19, f19, rfl, hC, hO, h1, hv19⟩ hlt hw hs
  refine c_seq ?_
  refine c_seq (c_region ?_)
  refine pl_val (.int .i64 k15) (y_move rfl) ?_
  refine pl_val (.slice pa1 pn1 pc1) (y_move rfl) ?_
  refine pl_val (.int .i64 (q.length : Int)) (y_len' Sl22 (rs_len h1) rfl) ?_
  refine pl_val (.bool (decide (k15 < (q.length : Int)))) (y_lss rfl rfl) ?_
  refine c_nil ?_
  refine c_condT (congrArg Value.bool (decide_eq_true hlt)) ?_
  refine wp_skip ?_
  refine c_seq ?_
  refine wp_block ?_
  refine c_region ?_
  refine pl_val (.slice a19 n19 c19) (y_move rfl) ?_
  refine pl_val (.int .i64 k15) (y_move rfl) ?_
  refine pl_val (.slice pa1 pn1 pc1) (y_move rfl) ?_
  refine pl_val (.int .i64 k15) (y_move rfl) ?_
  obtain ⟨x23, hx23, hs⟩ := bind_some hs
  obtain ⟨b24, o24, hp24, ha24⟩ := rs_idx Sl22 Sz3 h1 hx23
  refine pl_val (.pointer (some ⟨b24, o24, none⟩)) (hp24 _ _ _ _ _ _ _ _ _ rfl rfl) ?_
  refine pl_val (.int .i64 x23) (y_load rfl ((at_load_int Ag3 Sz3 ha24) _ (Chg.refl _ _))) ?_
  obtain ⟨r26, hr26, hs⟩ := bind_some hs
  refine pl_call Bd101 rfl (c_spec_l6Unite (M := (Less M f19)) s13 k15 x23 (((Frz.os Frz.int)).val hv19 Less.sub Less.not) hO.less.fut hr26) ?_
  rintro _ w25 ⟨a25x0, n25x0, c25x0, f25x0, rfl, hC25, hv25x0, hOc25⟩
  have h1 := h1.ext hC25
  have hv19 := hv19.ext hC25
  have hC := hC.ext hC25
  have hO := Own.join0 hO hC25 hOc25
  have hO := hO.perm (R := f25x0 ++ (f19 ++ ([]))) (by simp)
  have hv25x0 := hv25x0.free (M' := M) (Free.os Free.int)
  refine pl_val (.slice a25x0 n25x0 c25x0) (y_assign rfl) ?_
  refine c_nil ?_
  refine c_region ?_
  refine pl_val (.int .i64 k15) (y_move rfl) ?_
  refine pl_val (.int .i64 (w64 (k15 + 1))) (y_add rfl rfl) ?_
  refine pl_val (.int .i64 (w64 (k15 + 1))) (y_assign rfl) ?_
  refine c_nil ?_
  cases hs
  have hO := hO.fr1
  have hO := hO.drop
  exact ⟨_, a25x0, n25x0, c25x0, f25x0, fr_ovl 23 ⟨rfl, rfl, congrArg (Value.int .i64) hw, trivial⟩, hC, hO, h1, hv25x0⟩
 ·skip
  exact ⟨_, a3x0, n3x0, c3x0, f3x0, fr_ovl 23 ⟨rfl, rfl, rfl, trivial⟩, hC, hO, h1, hv3x0⟩
 ·cases o17 with
  | nx _ => exact True.intro
  | rt r_ =>
   have hs := after_rt hs
   intro a1 w1 hK
   cases hs
   exact hK
  | br s13 =>
   have hs := after_br hs
   rintro a1 w14 ⟨σ, a21, n21, c21, f21, rfl, hC, hO, h1, hv21⟩
   refine c_seq (c_region ?_)
   refine pl_val (.slice a21 n21 c21) (y_move rfl) ?_
   refine pl_val (.slice a21 n21 c21) (y_assign rfl) ?_
   refine c_nil ?_
   refine wp_ret ?_
   cases hs
   exact ⟨_, a21, n21, c21, f21, fr_ovl 23 ⟨rfl, trivial⟩, hC, hv21, hO.top⟩

theorem Bd108 : Bodied Try.prog 108 := bodied Try.func108 (by kernel_rfl) rfl

theorem Bd107 : Bodied Try.prog 107 := bodied Try.func107 (by kernel_rfl) rfl

theorem Bd72 : Bodied Try.prog 72 := bodied Try.func72 (by kernel_rfl) rfl

def k_spec_l6Most (M : Nat → Prop) (w0 : World) (r : (List (List Int))) (a : Act) (w : World) : Prop :=
  ∃ (σ : Nat → Value) (ra0 : Option Addr) (rn0 rc0 : Nat), a = fr 87 (ovl σ [(4, (.slice ra0 rn0 rc0))]) ∧ Chg [] w0 w ∧ (RT.rs (RT.rs (RT.int .i64))).val (Past M w0 w) w (.slice ra0 rn0 rc0) r []
def s_spec_l6Most (a_ : Int × (List (Int × (List Int)))) (most : Int) : Option ((List (List Int))) :=
  (forC (S := (List (List Int))) (R := (List (List Int))) (fun k91 s89 =>
  (forC (S := (List (List Int))) (R := (List (List Int))) (fun k122 s120 =>
  (s_spec_l6Principal (a_.1, a_.2) k91 k122).bind fun r133 =>
  (s_spec_l6Put s120 r133).bind fun r137 =>
  some (.nx r137)) 0 k91 s89).bind fun o124 => after o124 (fun r_ => some (.rt r_)) (fun s120 =>
  some (.nx s120))) 0 a_.1 ([])).bind fun o93 => after o93 (fun r_ => some r_) (fun s89 =>
  (s_spec_l6Identity a_.1).bind fun r140 =>
  (s_spec_l6Identity a_.1).bind fun r145 =>
  (iter (S := (List (List Int)) × (List (List Int)) × Int) (R := (List (List Int))) (fun s458 =>
  (bif ((decide (s458.2.2 < (s458.2.1.length : Int))) && (decide ((s458.1.length : Int) ≤ most))) then (iter (S := (List (List Int)) × (List (List Int)) × Int) (R := (List (List Int))) (fun s566 =>
  (bif ((decide (s566.2.2 < (s89.length : Int))) && (decide ((s566.1.length : Int) ≤ most))) then (idx s566.2.1 s458.2.2).bind fun x600 =>
  (idx s89 s566.2.2).bind fun x604 =>
  (s_spec_l6Join x600 x604).bind fun r609 =>
  (s_spec_l6Put s566.1 r609).bind fun r613 =>
  (bif (decide ((s566.1.length : Int) < (r613.length : Int))) then (app s566.2.1 ([r609])).bind fun y619 =>
  some (.nx (r613, y619, w64 (s566.2.2 + 1))) else some (.nx (s566.1, s566.2.1, w64 (s566.2.2 + 1)))) else some (.br (s566.1, s566.2.1, s566.2.2)))) FU (s458.1, s458.2.1, 0)).bind fun o570 => after o570 (fun r_ => some (.rt r_)) (fun s566 =>
  some (.nx (s566.1, s566.2.1, w64 (s458.2.2 + 1)))) else some (.br (s458.1, s458.2.1, s458.2.2)))) FU ([r140], [r145], 0)).bind fun o462 => after o462 (fun r_ => some r_) (fun s458 =>
  some s458.1))
set_option maxHeartbeats 4000000 in
theorem c_spec_l6Most {M : Nat → Prop} {w : World} {pa0 : Option Addr} {pn0 pc0 : Nat} (a_ : Int × (List (Int × (List Int)))) (most : Int) (h0 : (RT.rs (RT.pr (RT.int .i64) (RT.rs (RT.int .i64)))).val M w (.slice pa0 pn0 pc0) a_.2 ([])) (hM : ∀ g, w.heap.size ≤ g → M g) {r : (List (List Int))} (hs : s_spec_l6Most a_ most = some r) :
    Gives Try.prog 82 [(.agg #[(.int .i64 a_.1), (.slice pa0 pn0 pc0)]), (.int .i64 most)] w (fun v w' => ∃ (ra0 : Option Addr) (rn0 rc0 : Nat), v = (.slice ra0 rn0 rc0) ∧ Chg [] w w' ∧ (RT.rs (RT.rs (RT.int .i64))).val (Past M w w') w' (.slice ra0 rn0 rc0) r []) := by
 refine calls_fr Try.func82 rfl Try.ntmps82 (Nat.le_of_ble_eq_true rfl) ?_
 have hO := Own.start (N := Nw w []) hM Nw.fut
 have hC := Chg.refl [] w
 unfold s_spec_l6Most at hs
 refine wp_mono (Q := KPost (k_spec_l6Most M w r)) ?_ (fun e a w1 h => ?_)
 rotate_left
 ·cases e
  case ret =>
   obtain ⟨σ, ra0, rn0, rc0, rfl, hrest⟩ := h
   exact ret1x Try.results82 (res_tmp rfl) ⟨ra0, rn0, rc0, rfl, hrest⟩
  all_goals exact (h : False).elim
 refine c_seq (c_region ?_)
 obtain ⟨w2, g2, ew2, eg2, hC2, hb2⟩ := new_block w [(.int .i64 a_.1), (.slice pa0 pn0 pc0)] 35
 refine pl_val (w' := w2) (.pointer (some ⟨g2, 0, none⟩)) (y_box rfl (by rw [ew2, eg2]; kernel_rfl)) ?_
 have h0 := h0.ext hC2
 have hC := hC.ext hC2
 have hO := hO.new1 hC2 eg2 hb2.lt
 refine pl_val (.slice none 0 0) (y_assign rfl) ?_
 refine c_nil ?_
 refine c_seq (c_region ?_)
 obtain ⟨w3, g3, ew3, eg3, hC3, hb3⟩ := new_block w2 [] 22
 refine pl_val (w' := w3) (.slice (some ⟨g3, 0, none⟩) 0 0) (y_bslice rfl (by rw [ew3, eg3]; kernel_rfl)) ?_
 have h0 := h0.ext hC3
 have hb2 := hb2.chg hC3 (fun h => nomatch h)
 have hC := hC.ext hC3
 have hO := hO.new1 hC3 eg3 hb3.lt
 have hv3 := os_of_box (r := (RT.os 3 (RT.int .i64))) (M := M) (css := []) (fps := []) (xs := ([] : List (List Int))) hb3 trivial (Nat.zero_le _) (List.nodup_cons.2 ⟨(fun h => nomatch h), List.nodup_nil⟩)
 have hv3 : (RT.os 22 (RT.os 3 (RT.int .i64))).val M w3 (.slice (some ⟨g3, 0, none⟩) 0 0) [] [g3] := hv3
 refine pl_val (.slice (some ⟨g3, 0, none⟩) 0 0) (y_assign rfl) ?_
 refine c_nil ?_
 refine c_seq ?_
 refine c_seq (c_region ?_)
 refine pl_val (.int .i64 0) (y_assign rfl) ?_
 refine c_nil ?_
 obtain ⟨M88, eM88, hs88, hk88, hO, hv88⟩ := frz_own (Frz.os (Frz.os Frz.int)) hv3 hO
 have h0 := h0.sub (M' := M88) hs88
 have hK := hk88
 obtain ⟨o93, hl94, hs⟩ := bind_some hs
 refine wp_block ?_
 refine wp_forC (id := 0) a_.1 (I := fun k91 s89 a w90 => ∃ (σ : Nat → Value) (M95 : Nat → Prop) (a96 : Option Addr) (n96 : Nat) (c96 : Nat), a = fr 87 (ovl σ [(1, (.int .i64 most)), (2, (.pointer (some ⟨g2, 0, none⟩))), (5, (.slice a96 n96 c96)), (6, (.int .i64 k91))]) ∧ Chg [] w w90 ∧ Own (Nw w []) M95 w90 (([g2]) ++ []) ∧ Keeps w M M95 ∧ (RT.rs (RT.pr (RT.int .i64) (RT.rs (RT.int .i64)))).val M95 w90 (.slice pa0 pn0 pc0) a_.2 ([]) ∧ BoxV w90 g2 35 [(.int .i64 a_.1), (.slice pa0 pn0 pc0)] ∧ (RT.rs (RT.rs (RT.int .i64))).val M95 w90 (.slice a96 n96 c96) s89 ([])) (J := fun s89 a w90 => ∃ (σ : Nat → Value) (M98 : Nat → Prop) (a99 : Option Addr) (n99 : Nat) (c99 : Nat), a = fr 87 (ovl σ [(1, (.int .i64 most)), (2, (.pointer (some ⟨g2, 0, none⟩))), (5, (.slice a99 n99 c99))]) ∧ Chg [] w w90 ∧ Own (Nw w []) M98 w90 (([g2]) ++ []) ∧ Keeps w M M98 ∧ (RT.rs (RT.pr (RT.int .i64) (RT.rs (RT.int .i64)))).val M98 w90 (.slice pa0 pn0 pc0) a_.2 ([]) ∧ BoxV w90 g2 35 [(.int .i64 a_.1), (.slice pa0 pn0 pc0)] ∧ (RT.rs (RT.rs (RT.int .i64))).val M98 w90 (.slice a99 n99 c99) s89 ([])) (K := (k_spec_l6Most M w)) ?_ ?_ 0 ([]) o93 _ _ ?_ hl94 ?_
 ·rintro k91 s89 a w90 ⟨σ, M95, a96, n96, c96, rfl, hC, hO, hK, h0, hb2, hv96⟩ hlt
  refine c_seq ?_
  refine c_seq (c_region ?_)
  refine pl_val (.int .i64 k91) (y_move rfl) ?_
  refine pl_val (.pointer (some ⟨g2, 0, none⟩)) (y_faddr rfl Fa35x0) ?_
  refine pl_val (.int .i64 a_.1) (y_load rfl ((box_load Ag3 Sz3 hb2 [] [(.int .i64 a_.1)] [(.slice pa0 pn0 pc0)] rfl rfl (fun _ => rfl)) _ (Chg.refl _ _))) ?_
  refine pl_val (.bool (decide (k91 < a_.1))) (y_lss rfl rfl) ?_
  refine c_nil ?_
  refine c_condF (congrArg Value.bool (decide_eq_false hlt)) ?_
  refine wp_exit ?_
  exact ⟨rfl, _, M95, a96, n96, c96, fr_ovl 87 ⟨rfl, rfl, rfl, trivial⟩, hC, hO, hK, h0, hb2, hv96⟩
 ·rintro k91 s89 o93 a w90 ⟨σ, M95, a96, n96, c96, rfl, hC, hO, hK, h0, hb2, hv96⟩ hlt hw hs
  refine c_seq ?_
  refine c_seq (c_region ?_)
  refine pl_val (.int .i64 k91) (y_move rfl) ?_
  refine pl_val (.pointer (some ⟨g2, 0, none⟩)) (y_faddr rfl Fa35x0) ?_
  refine pl_val (.int .i64 a_.1) (y_load rfl ((box_load Ag3 Sz3 hb2 [] [(.int .i64 a_.1)] [(.slice pa0 pn0 pc0)] rfl rfl (fun _ => rfl)) _ (Chg.refl _ _))) ?_
  refine pl_val (.bool (decide (k91 < a_.1))) (y_lss rfl rfl) ?_
  refine c_nil ?_
  refine c_condT (congrArg Value.bool (decide_eq_true hlt)) ?_
  refine wp_skip ?_
  refine c_seq ?_
  refine wp_block ?_
  refine c_seq (c_region ?_)
  refine pl_val (.int .i64 0) (y_assign rfl) ?_
  refine c_nil ?_
  obtain ⟨o124, hl125, hs⟩ := bind_some hs
  refine wp_block ?_
  refine wp_forC (id := 2) k91 (I := fun k122 s120 a w121 => ∃ (σ : Nat → Value) (M126 : Nat → Prop) (a127 : Option Addr) (n127 : Nat) (c127 : Nat), a = fr 87 (ovl σ [(1, (.int .i64 most)), (2, (.pointer (some ⟨g2, 0, none⟩))), (5, (.slice a127 n127 c127)), (6, (.int .i64 k91)), (7, (.int .i64 k122))]) ∧ Chg [] w w121 ∧ Own (Nw w []) M126 w121 (([g2]) ++ []) ∧ Keeps w M M126 ∧ (RT.rs (RT.pr (RT.int .i64) (RT.rs (RT.int .i64)))).val M126 w121 (.slice pa0 pn0 pc0) a_.2 ([]) ∧ BoxV w121 g2 35 [(.int .i64 a_.1), (.slice pa0 pn0 pc0)] ∧ (RT.rs (RT.rs (RT.int .i64))).val M126 w121 (.slice a127 n127 c127) s120 ([])) (J := fun s120 a w121 => ∃ (σ : Nat → Value) (M129 : Nat → Prop) (a130 : Option Addr) (n130 : Nat) (c130 : Nat), a = fr 87 (ovl σ [(1, (.int .i64 most)), (2, (.pointer (some ⟨g2, 0, none⟩))), (5, (.slice a130 n130 c130)), (6, (.int .i64 k91))]) ∧ Chg [] w w121 ∧ Own (Nw w []) M129 w121 (([g2]) ++ []) ∧ Keeps w M M129 ∧ (RT.rs (RT.pr (RT.int .i64) (RT.rs (RT.int .i64)))).val M129 w121 (.slice pa0 pn0 pc0) a_.2 ([]) ∧ BoxV w121 g2 35 [(.int .i64 a_.1), (.slice pa0 pn0 pc0)] ∧ (RT.rs (RT.rs (RT.int .i64))).val M129 w121 (.slice a130 n130 c130) s120 ([])) (K := (k_spec_l6Most M w)) ?_ ?_ 0 s89 o124 _ _ ?_ hl125 ?_
  ·rintro k122 s120 a w121 ⟨σ, M126, a127, n127, c127, rfl, hC, hO, hK, h0, hb2, hv127⟩ hlt
   refine c_seq ?_
   refine c_seq (c_region ?_)
   refine pl_val (.int .i64 k122) (y_move rfl) ?_
   refine pl_val (.int .i64 k91) (y_move rfl) ?_
   refine pl_val (.bool (decide (k122 < k91))) (y_lss rfl rfl) ?_
   refine c_nil ?_
   refine c_condF (congrArg Value.bool (decide_eq_false hlt)) ?_
   refine wp_exit ?_
   exact ⟨rfl, _, M126, a127, n127, c127, fr_ovl 87 ⟨rfl, rfl, rfl, rfl, trivial⟩, hC, hO, hK, h0, hb2, hv127⟩
  ·rintro k122 s120 o124 a w121 ⟨σ, M126, a127, n127, c127, rfl, hC, hO, hK, h0, hb2, hv127⟩ hlt hw hs
   refine c_seq ?_
   refine c_seq (c_region ?_)
   refine pl_val (.int .i64 k122) (y_move rfl) ?_
   refine pl_val (.int .i64 k91) (y_move rfl) ?_
   refine pl_val (.bool (decide (k122 < k91))) (y_lss rfl rfl) ?_
   refine c_nil ?_
   refine c_condT (congrArg Value.bool (decide_eq_true hlt)) ?_
   refine wp_skip ?_
   refine c_seq ?_
   refine wp_block ?_
   refine c_region ?_
   refine pl_val (.slice a127 n127 c127) (y_move rfl) ?_
   refine pl_val (.agg #[(.int .i64 a_.1), (.slice pa0 pn0 pc0)]) (y_load rfl ((box_load Ag35 Sz35 hb2 [] [(.int .i64 a_.1), (.slice pa0 pn0 pc0)] [] rfl rfl (fun h => nomatch h)) _ (Chg.refl _ _))) ?_
   refine pl_val (.int .i64 k91) (y_move rfl) ?_
   refine pl_val (.int .i64 k122) (y_move rfl) ?_
   obtain ⟨r133, hr133, hs⟩ := bind_some hs
   refine pl_call Bd108 rfl (c_spec_l6Principal (M := M126) (a_.1, a_.2) k91 k122 h0 hO.fut hr133) ?_
   rintro _ w132 ⟨a132x0, n132x0, c132x0, f132x0, rfl, hC132, hv132x0, hOc132⟩
   have h0 := h0.ext hC132
   have hb2 := hb2.chg hC132 (fun h => nomatch h)
   have hv127 := hv127.ext hC132
   have hC := hC.ext hC132
   have hO := Own.join0 hO hC132 hOc132
   have hO := hO.perm (R := f132x0 ++ (([g2]) ++ ([]))) (by simp)
   obtain ⟨M136, eM136, hs136, hk136, hO, hv136⟩ := frz_own (Frz.os Frz.int) hv132x0 hO
   have h0 := h0.sub (M' := M136) hs136
   have hv127 := hv127.sub (M' := M136) hs136
   have hK := hK.trans hk136
   obtain ⟨r137, hr137, hs⟩ := bind_some hs
   refine pl_call Bd107 rfl (c_spec_l6Put (M := M136) s120 r133 hv127 hv136 hO.fut hr137) ?_
   rintro _ w135 ⟨a135x0, n135x0, c135x0, rfl, hC135, hv135x0⟩
   have hK := hK.trans (show Keeps w M136 (Past M136 w132 w135) from Keeps.past hC.size)
   have h0 := h0.ext hC135
   have hb2 := hb2.chg hC135 (fun h => nomatch h)
   have hv127 := hv127.ext hC135
   have hv136 := hv136.ext hC135
   have hC := hC.ext hC135
   have hO := hO.past hC135
   have h0 := h0.sub (M' := (Past M136 w132 w135)) (fun g hg => .inl hg.1)
   have hv127 := hv127.sub (M' := (Past M136 w132 w135)) (fun g hg => .inl hg.1)
   have hv136 := hv136.sub (M' := (Past M136 w132 w135)) (fun g hg => .inl hg.1)
   refine pl_val (.slice a135x0 n135x0 c135x0) (y_assign rfl) ?_
   refine c_nil ?_
   refine c_region ?_
   refine pl_val (.int .i64 k122) (y_move rfl) ?_
   refine pl_val (.int .i64 (w64 (k122 + 1))) (y_add rfl rfl) ?_
   refine pl_val (.int .i64 (w64 (k122 + 1))) (y_assign rfl) ?_
   refine c_nil ?_
   cases hs
   exact ⟨_, (Past M136 w132 w135), a135x0, n135x0, c135x0, fr_ovl 87 ⟨rfl, rfl, rfl, rfl, congrArg (Value.int .i64) hw, trivial⟩, hC, hO, hK, h0, hb2, hv135x0⟩
  ·skip
   exact ⟨_, M95, a96, n96, c96, fr_ovl 87 ⟨rfl, rfl, rfl, rfl, rfl, trivial⟩, hC, hO, hK, h0, hb2, hv96⟩
  ·cases o124 with
   | nx _ => exact True.intro
   | rt r_ =>
    have hs := after_rt hs
    intro a1 w1 hK
    cases hs
    exact hK
   | br s120 =>
    have hs := after_br hs
    rintro a1 w121 ⟨σ, M129, a130, n130, c130, rfl, hC, hO, hK, h0, hb2, hv130⟩
    refine c_region ?_
    refine pl_val (.int .i64 k91) (y_move rfl) ?_
    refine pl_val (.int .i64 (w64 (k91 + 1))) (y_add rfl rfl) ?_
    refine pl_val (.int .i64 (w64 (k91 + 1))) (y_assign rfl) ?_
    refine c_nil ?_
    cases hs
    exact ⟨_, M129, a130, n130, c130, fr_ovl 87 ⟨rfl, rfl, rfl, congrArg (Value.int .i64) hw, trivial⟩, hC, hO, hK, h0, hb2, hv130⟩
 ·skip
  exact ⟨_, M88, (some ⟨g3, 0, none⟩), 0, 0, fr_ovl 87 ⟨rfl, rfl, rfl, rfl, trivial⟩, hC, hO, hK, h0, hb2, hv88⟩
 ·cases o93 with
  | nx _ => exact True.intro
  | rt r_ =>
   have hs := after_rt hs
   intro a1 w1 hK
   cases hs
   exact hK
  | br s89 =>
   have hs := after_br hs
   rintro a1 w90 ⟨σ, M98, a99, n99, c99, rfl, hC, hO, hK, h0, hb2, hv99⟩
   refine c_seq (c_region ?_)
   refine pl_val (.pointer (some ⟨g2, 0, none⟩)) (y_faddr rfl Fa35x0) ?_
   refine pl_val (.int .i64 a_.1) (y_load rfl ((box_load Ag3 Sz3 hb2 [] [(.int .i64 a_.1)] [(.slice pa0 pn0 pc0)] rfl rfl (fun _ => rfl)) _ (Chg.refl _ _))) ?_
   obtain ⟨r140, hr140, hs⟩ := bind_some hs
   refine pl_call Bd95 rfl (c_spec_l6Identity (M := M98) a_.1  hO.fut hr140) ?_
   rintro _ w139 ⟨a139x0, n139x0, c139x0, f139x0, rfl, hC139, hv139x0, hOc139⟩
   have h0 := h0.ext hC139
   have hb2 := hb2.chg hC139 (fun h => nomatch h)
   have hv99 := hv99.ext hC139
   have hC := hC.ext hC139
   have hO := Own.join0 hO hC139 hOc139
   have hO := hO.perm (R := f139x0 ++ (([g2]) ++ ([]))) (by simp)
   obtain ⟨w142, g142, ew142, eg142, hC142, hb142⟩ := new_block w139 [(.slice a139x0 n139x0 c139x0)] 22
   refine pl_val (w' := w142) (.slice (some ⟨g142, 0, none⟩) 1 1) (y_bslice rfl (by rw [ew142, eg142]; kernel_rfl)) ?_
   have h0 := h0.ext hC142
   have hb2 := hb2.chg hC142 (fun h => nomatch h)
   have hv99 := hv99.ext hC142
   have hv139x0 := hv139x0.ext hC142
   have hC := hC.ext hC142
   have hO := hO.new1 hC142 eg142 hb142.lt
   have hO := hO.perm (R := (g142 :: ((f139x0) ++ ([]))) ++ (([g2]) ++ ([]))) (by simp)
   have hnd142 := hO.nd
   have hv142 := os_of_box (r := (RT.os 3 (RT.int .i64))) (M := M98) (css := [[(.slice a139x0 n139x0 c139x0)]]) (fps := [(f139x0 : List Nat)]) (xs := ([r140] : List (List Int))) hb142 ⟨(os_unval hv139x0), trivial⟩ (Nat.le_of_ble_eq_true rfl) hnd142
   have hv142 : (RT.os 22 (RT.os 3 (RT.int .i64))).val M98 w142 (.slice (some ⟨g142, 0, none⟩) 1 1) [r140] (g142 :: ((f139x0) ++ ([]))) := hv142
   refine pl_val (.slice (some ⟨g142, 0, none⟩) 1 1) (y_assign rfl) ?_
   refine c_nil ?_
   refine c_seq (c_region ?_)
   refine pl_val (.pointer (some ⟨g2, 0, none⟩)) (y_faddr rfl Fa35x0) ?_
   refine pl_val (.int .i64 a_.1) (y_load rfl ((box_load Ag3 Sz3 hb2 [] [(.int .i64 a_.1)] [(.slice pa0 pn0 pc0)] rfl rfl (fun _ => rfl)) _ (Chg.refl _ _))) ?_
   obtain ⟨r145, hr145, hs⟩ := bind_some hs
   refine pl_call Bd95 rfl (c_spec_l6Identity (M := M98) a_.1  hO.fut hr145) ?_
   rintro _ w144 ⟨a144x0, n144x0, c144x0, f144x0, rfl, hC144, hv144x0, hOc144⟩
   have h0 := h0.ext hC144
   have hb2 := hb2.chg hC144 (fun h => nomatch h)
   have hv99 := hv99.ext hC144
   have hv142 := hv142.ext hC144
   have hC := hC.ext hC144
   have hO := Own.join0 hO hC144 hOc144
   have hO := hO.perm (R := f144x0 ++ ((g142 :: ((f139x0) ++ ([]))) ++ (([g2]) ++ ([])))) (by simp)
   obtain ⟨w147, g147, ew147, eg147, hC147, hb147⟩ := new_block w144 [(.slice a144x0 n144x0 c144x0)] 22
   refine pl_val (w' := w147) (.slice (some ⟨g147, 0, none⟩) 1 1) (y_bslice rfl (by rw [ew147, eg147]; kernel_rfl)) ?_
   have h0 := h0.ext hC147
   have hb2 := hb2.chg hC147 (fun h => nomatch h)
   have hv99 := hv99.ext hC147
   have hv142 := hv142.ext hC147
   have hv144x0 := hv144x0.ext hC147
   have hC := hC.ext hC147
   have hO := hO.new1 hC147 eg147 hb147.lt
   have hO := hO.perm (R := (g147 :: ((f144x0) ++ ([]))) ++ ((g142 :: ((f139x0) ++ ([]))) ++ (([g2]) ++ ([])))) (by simp)
   have hnd147 := hO.nd
   have hv147 := os_of_box (r := (RT.os 3 (RT.int .i64))) (M := M98) (css := [[(.slice a144x0 n144x0 c144x0)]]) (fps := [(f144x0 : List Nat)]) (xs := ([r145] : List (List Int))) hb147 ⟨(os_unval hv144x0), trivial⟩ (Nat.le_of_ble_eq_true rfl) hnd147
   have hv147 : (RT.os 22 (RT.os 3 (RT.int .i64))).val M98 w147 (.slice (some ⟨g147, 0, none⟩) 1 1) [r145] (g147 :: ((f144x0) ++ ([]))) := hv147
   refine pl_val (.slice (some ⟨g147, 0, none⟩) 1 1) (y_assign rfl) ?_
   refine c_nil ?_
   refine c_seq ?_
   refine c_seq (c_region ?_)
   refine pl_val (.int .i64 0) (y_assign rfl) ?_
   refine c_nil ?_
   have hO := hO.fr2
   have hO := hO.drop
   have hO := hO.fr1
   obtain ⟨M456, eM456, hs456, hk456, hO, hv456⟩ := frz_own (Frz.os (Frz.os Frz.int)) hv142 hO
   have hv99 := hv99.sub (M' := M456) hs456
   have hv147 := hv147.sub (M' := M456) hs456
   have hK := hK.trans hk456
   obtain ⟨M457, f457, hs457, hk457, hO, hv457⟩ := os_inner (Frz.os Frz.int) hv147 hO
   have hv99 := hv99.sub (M' := M457) hs457
   have hv456 := hv456.sub (M' := M457) hs457
   have hK := hK.trans hk457
   obtain ⟨o462, hl463, hs⟩ := bind_some hs
   refine wp_block ?_
   refine wp_iter (id := 4) (I := fun s458 a w459 => ∃ (σ : Nat → Value) (M464 : Nat → Prop) (a465 : Option Addr) (n465 : Nat) (c465 : Nat) (a467 : Option Addr) (n467 : Nat) (c467 : Nat) (f467 : List Nat), a = fr 87 (ovl σ [(1, (.int .i64 most)), (5, (.slice a99 n99 c99)), (8, (.slice a465 n465 c465)), (9, (.slice a467 n467 c467)), (10, (.int .i64 s458.2.2))]) ∧ Chg [] w w459 ∧ Own (Nw w []) M464 w459 (f467 ++ []) ∧ Keeps w M M464 ∧ (RT.rs (RT.rs (RT.int .i64))).val M464 w459 (.slice a99 n99 c99) s89 ([]) ∧ (RT.rs (RT.rs (RT.int .i64))).val M464 w459 (.slice a465 n465 c465) s458.1 ([]) ∧ (RT.os 22 (RT.rs (RT.int .i64))).val M464 w459 (.slice a467 n467 c467) s458.2.1 f467) (J := fun s458 a w459 => ∃ (σ : Nat → Value) (M469 : Nat → Prop) (a470 : Option Addr) (n470 : Nat) (c470 : Nat) (a472 : Option Addr) (n472 : Nat) (c472 : Nat) (f472 : List Nat), a = fr 87 (ovl σ [(8, (.slice a470 n470 c470))]) ∧ Chg [] w w459 ∧ Own (Nw w []) M469 w459 (f472 ++ []) ∧ Keeps w M M469 ∧ (RT.rs (RT.rs (RT.int .i64))).val M469 w459 (.slice a99 n99 c99) s89 ([]) ∧ (RT.rs (RT.rs (RT.int .i64))).val M469 w459 (.slice a470 n470 c470) s458.1 ([]) ∧ (RT.os 22 (RT.rs (RT.int .i64))).val M469 w459 (.slice a472 n472 c472) s458.2.1 f472) (K := (k_spec_l6Most M w)) ?_ FU ([r140], [r145], 0) o462 _ _ ?_ hl463 ?_
   ·rintro s458 o462 a w459 ⟨σ, M464, a465, n465, c465, a467, n467, c467, f467, rfl, hC, hO, hK, hv99, hv465, hv467⟩ hs
    refine c_seq ?_
    refine c_seq ?_
    refine c_mid (I := fun a w475 => ∃ (σ : Nat → Value), a = fr 87 (ovl σ [(1, (.int .i64 most)), (5, (.slice a99 n99 c99)), (8, (.slice a465 n465 c465)), (9, (.slice a467 n467 c467)), (10, (.int .i64 s458.2.2)), (49, (.bool ((decide (s458.2.2 < (s458.2.1.length : Int))) && (decide ((s458.1.length : Int) ≤ most)))))]) ∧ Chg [] w459 w475) ?_ ?_
    ·have hMid := Chg.refl [] w459
     refine c_region ?_
     refine pl_val (.int .i64 s458.2.2) (y_move rfl) ?_
     refine pl_val (.slice a467 n467 c467) (y_move rfl) ?_
     refine pl_val (.int .i64 (s458.2.1.length : Int)) (y_len' Sl41 (os_len hv467) rfl) ?_
     refine pl_val (.bool (decide (s458.2.2 < (s458.2.1.length : Int)))) (y_lss rfl rfl) ?_
     refine pl_val (.bool (decide (s458.2.2 < (s458.2.1.length : Int)))) (y_move rfl) ?_
     rcases Bool.eq_false_or_eq_true ((decide (s458.2.2 < (s458.2.1.length : Int)))) with hc477 | hc477
     ·skip
      refine pl_yes (.slice a465 n465 c465) (tg := 44) (by kernel_rfl) (congrArg Value.bool hc477) (y_move rfl) ?_
      refine pl_yes (.int .i64 (s458.1.length : Int)) (tg := 44) (by kernel_rfl) (congrArg Value.bool hc477) (y_len' Sl41 (rs_len hv465) rfl) ?_
      refine pl_yes (.int .i64 most) (tg := 44) (by kernel_rfl) (congrArg Value.bool hc477) (y_move rfl) ?_
      refine pl_yes (.bool (decide ((s458.1.length : Int) ≤ most))) (tg := 44) (by kernel_rfl) (congrArg Value.bool hc477) (y_leq rfl rfl) ?_
      refine pl_val (.bool ((decide (s458.2.2 < (s458.2.1.length : Int))) && (decide ((s458.1.length : Int) ≤ most)))) (y_pick_t (congrArg Value.bool hc477) (congrArg Value.bool (by rw [hc477]; rfl))) ?_
      refine c_nil ?_
      exact ⟨_, fr_ovl 87 ⟨rfl, rfl, rfl, rfl, rfl, rfl, trivial⟩, hMid⟩
     ·skip
      refine pl_not (tg := 44) (by kernel_rfl) (congrArg Value.bool hc477) ?_
      refine pl_not (tg := 44) (by kernel_rfl) (congrArg Value.bool hc477) ?_
      refine pl_not (tg := 44) (by kernel_rfl) (congrArg Value.bool hc477) ?_
      refine pl_not (tg := 44) (by kernel_rfl) (congrArg Value.bool hc477) ?_
      refine pl_val (.bool ((decide (s458.2.2 < (s458.2.1.length : Int))) && (decide ((s458.1.length : Int) ≤ most)))) (y_pick_f (congrArg Value.bool hc477) (congrArg Value.bool (by rw [hc477]; rfl))) ?_
      refine c_nil ?_
      exact ⟨_, fr_ovl 87 ⟨rfl, rfl, rfl, rfl, rfl, rfl, trivial⟩, hMid⟩
    ·rintro a1 w475 ⟨σ, rfl, hCs474⟩
     have hv99 := hv99.ext hCs474
     have hv465 := hv465.ext hCs474
     have hv467 := hv467.ext hCs474
     have hC := hC.ext hCs474
     have hO := hO.ext hCs474
     rcases bif_some hs with ⟨hc478, hs⟩ | ⟨hc478, hs⟩
     ·skip
      refine c_condT (congrArg Value.bool hc478) ?_
      refine wp_skip ?_
      refine c_seq ?_
      refine wp_block ?_
      refine c_seq (c_region ?_)
      refine pl_val (.int .i64 0) (y_assign rfl) ?_
      refine c_nil ?_
      obtain ⟨o570, hl571, hs⟩ := bind_some hs
      refine wp_block ?_
      refine wp_iter (id := 6) (I := fun s566 a w567 => ∃ (σ : Nat → Value) (M572 : Nat → Prop) (a573 : Option Addr) (n573 : Nat) (c573 : Nat) (a575 : Option Addr) (n575 : Nat) (c575 : Nat) (f575 : List Nat), a = fr 87 (ovl σ [(1, (.int .i64 most)), (5, (.slice a99 n99 c99)), (8, (.slice a573 n573 c573)), (9, (.slice a575 n575 c575)), (10, (.int .i64 s458.2.2)), (11, (.int .i64 s566.2.2))]) ∧ Chg [] w w567 ∧ Own (Nw w []) M572 w567 (f575 ++ []) ∧ Keeps w M M572 ∧ (RT.rs (RT.rs (RT.int .i64))).val M572 w567 (.slice a99 n99 c99) s89 ([]) ∧ (RT.rs (RT.rs (RT.int .i64))).val M572 w567 (.slice a573 n573 c573) s566.1 ([]) ∧ (RT.os 22 (RT.rs (RT.int .i64))).val M572 w567 (.slice a575 n575 c575) s566.2.1 f575) (J := fun s566 a w567 => ∃ (σ : Nat → Value) (M577 : Nat → Prop) (a578 : Option Addr) (n578 : Nat) (c578 : Nat) (a580 : Option Addr) (n580 : Nat) (c580 : Nat) (f580 : List Nat), a = fr 87 (ovl σ [(1, (.int .i64 most)), (5, (.slice a99 n99 c99)), (8, (.slice a578 n578 c578)), (9, (.slice a580 n580 c580)), (10, (.int .i64 s458.2.2))]) ∧ Chg [] w w567 ∧ Own (Nw w []) M577 w567 (f580 ++ []) ∧ Keeps w M M577 ∧ (RT.rs (RT.rs (RT.int .i64))).val M577 w567 (.slice a99 n99 c99) s89 ([]) ∧ (RT.rs (RT.rs (RT.int .i64))).val M577 w567 (.slice a578 n578 c578) s566.1 ([]) ∧ (RT.os 22 (RT.rs (RT.int .i64))).val M577 w567 (.slice a580 n580 c580) s566.2.1 f580) (K := (k_spec_l6Most M w)) ?_ FU (s458.1, s458.2.1, 0) o570 _ _ ?_ hl571 ?_
      ·rintro s566 o570 a w567 ⟨σ, M572, a573, n573, c573, a575, n575, c575, f575, rfl, hC, hO, hK, hv99, hv573, hv575⟩ hs
       refine c_seq ?_
       refine c_seq ?_
       refine c_mid (I := fun a w583 => ∃ (σ : Nat → Value), a = fr 87 (ovl σ [(1, (.int .i64 most)), (5, (.slice a99 n99 c99)), (8, (.slice a573 n573 c573)), (9, (.slice a575 n575 c575)), (10, (.int .i64 s458.2.2)), (11, (.int .i64 s566.2.2)), (61, (.bool ((decide (s566.2.2 < (s89.length : Int))) && (decide ((s566.1.length : Int) ≤ most)))))]) ∧ Chg [] w567 w583) ?_ ?_
       ·have hMid := Chg.refl [] w567
        refine c_region ?_
        refine pl_val (.int .i64 s566.2.2) (y_move rfl) ?_
        refine pl_val (.slice a99 n99 c99) (y_move rfl) ?_
        refine pl_val (.int .i64 (s89.length : Int)) (y_len' Sl41 (rs_len hv99) rfl) ?_
        refine pl_val (.bool (decide (s566.2.2 < (s89.length : Int)))) (y_lss rfl rfl) ?_
        refine pl_val (.bool (decide (s566.2.2 < (s89.length : Int)))) (y_move rfl) ?_
        rcases Bool.eq_false_or_eq_true ((decide (s566.2.2 < (s89.length : Int)))) with hc585 | hc585
        ·skip
         refine pl_yes (.slice a573 n573 c573) (tg := 56) (by kernel_rfl) (congrArg Value.bool hc585) (y_move rfl) ?_
         refine pl_yes (.int .i64 (s566.1.length : Int)) (tg := 56) (by kernel_rfl) (congrArg Value.bool hc585) (y_len' Sl41 (rs_len hv573) rfl) ?_
         refine pl_yes (.int .i64 most) (tg := 56) (by kernel_rfl) (congrArg Value.bool hc585) (y_move rfl) ?_
         refine pl_yes (.bool (decide ((s566.1.length : Int) ≤ most))) (tg := 56) (by kernel_rfl) (congrArg Value.bool hc585) (y_leq rfl rfl) ?_
         refine pl_val (.bool ((decide (s566.2.2 < (s89.length : Int))) && (decide ((s566.1.length : Int) ≤ most)))) (y_pick_t (congrArg Value.bool hc585) (congrArg Value.bool (by rw [hc585]; rfl))) ?_
         refine c_nil ?_
         exact ⟨_, fr_ovl 87 ⟨rfl, rfl, rfl, rfl, rfl, rfl, rfl, trivial⟩, hMid⟩
        ·skip
         refine pl_not (tg := 56) (by kernel_rfl) (congrArg Value.bool hc585) ?_
         refine pl_not (tg := 56) (by kernel_rfl) (congrArg Value.bool hc585) ?_
         refine pl_not (tg := 56) (by kernel_rfl) (congrArg Value.bool hc585) ?_
         refine pl_not (tg := 56) (by kernel_rfl) (congrArg Value.bool hc585) ?_
         refine pl_val (.bool ((decide (s566.2.2 < (s89.length : Int))) && (decide ((s566.1.length : Int) ≤ most)))) (y_pick_f (congrArg Value.bool hc585) (congrArg Value.bool (by rw [hc585]; rfl))) ?_
         refine c_nil ?_
         exact ⟨_, fr_ovl 87 ⟨rfl, rfl, rfl, rfl, rfl, rfl, rfl, trivial⟩, hMid⟩
       ·rintro a1 w583 ⟨σ, rfl, hCs582⟩
        have hv99 := hv99.ext hCs582
        have hv573 := hv573.ext hCs582
        have hv575 := hv575.ext hCs582
        have hC := hC.ext hCs582
        have hO := hO.ext hCs582
        rcases bif_some hs with ⟨hc586, hs⟩ | ⟨hc586, hs⟩
        ·skip
         refine c_condT (congrArg Value.bool hc586) ?_
         refine wp_skip ?_
         refine c_seq ?_
         refine wp_block ?_
         refine c_seq ?_
         refine x_start [] Mx rfl ?_
         have hCw599 := Chg.drew w583
         generalize World.drew w583 = w599 at hCw599 ⊢
         have hv99 := hv99.ext hCw599
         have hv573 := hv573.ext hCw599
         have hv575 := hv575.ext hCw599
         have hC := hC.ext hCw599
         have hO := hO.ext hCw599
         have hS := Chg.refl [] w599
         refine x_p 0 (.slice a575 n575 c575) rfl (by kernel_rfl)  (fun _ => y_move rfl) (fun _ => hS) ?_
         refine x_p 1 (.int .i64 s458.2.2) rfl (by kernel_rfl)  (fun _ => y_move rfl) (fun _ => hS) ?_
         obtain ⟨x600, hx600, hs⟩ := bind_some hs
         obtain ⟨g601, f601, hg601, hk601, hp601, ha601, hf601⟩ := os_idx Sl41 Sz22 hv575 hx600
         have hb601 := rd_row Rd.rs ha601
         refine x_p 2 (.pointer (some ⟨g601, 0 + Int.toNat s458.2.2 * 1, none⟩)) rfl (by kernel_rfl)  (fun _ => hp601 _ _ _ _ _ _ _ _ _ rfl rfl) (fun _ => hS) ?_
         obtain ⟨v602, hl602, hv602⟩ := at_load Ag22 Sz22 (fun _ => rfl) hb601
         obtain ⟨a602, n602, c602, rfl⟩ := rs_sl hv602
         refine x_l 3 (.slice a602 n602 c602) rfl (by kernel_rfl)  (fun w' hw' => y_load rfl (hl602 w' hw')) hS ?_
         refine x_p 4 (.slice a99 n99 c99) rfl (by kernel_rfl)  (fun _ => y_move rfl) (fun _ => hS) ?_
         refine x_p 5 (.int .i64 s566.2.2) rfl (by kernel_rfl)  (fun _ => y_move rfl) (fun _ => hS) ?_
         obtain ⟨x604, hx604, hs⟩ := bind_some hs
         obtain ⟨b605, o605, hp605, ha605⟩ := rs_idx Sl41 Sz22 hv99 hx604
         refine x_p 6 (.pointer (some ⟨b605, o605, none⟩)) rfl (by kernel_rfl)  (fun _ => hp605 _ _ _ _ _ _ _ _ _ rfl rfl) (fun _ => hS) ?_
         obtain ⟨v606, hl606, hv606⟩ := at_load Ag22 Sz22 (fun _ => rfl) ha605
         obtain ⟨a606, n606, c606, rfl⟩ := rs_sl hv606
         refine x_l 7 (.slice a606 n606 c606) rfl (by kernel_rfl)  (fun w' hw' => y_load rfl (hl606 w' hw')) hS ?_
         refine x_one (i := 8) (by kernel_rfl) ?_
         obtain ⟨r609, hr609, hs⟩ := bind_some hs
         refine xk_call (b := false) rfl  Bd72 rfl (c_spec_l6Join (M := M572) x600 x604 hv602 hv606 hO.fut hr609) rfl (by rintro _ _ _ ⟨a608x0, n608x0, c608x0, f608x0, rfl, hC608, hv608x0, hOc608⟩; exact hS.ext hC608) ?_
         rintro _ w608 ⟨a608x0, n608x0, c608x0, f608x0, rfl, hC608, hv608x0, hOc608⟩
         have hv99 := hv99.ext hC608
         have hv573 := hv573.ext hC608
         have hv575 := hv575.ext hC608
         have hv602 := hv602.ext hC608
         have hv606 := hv606.ext hC608
         have hC := hC.ext hC608
         have hO := Own.join0 hO hC608 hOc608
         have hO := hO.perm (R := f608x0 ++ (f575 ++ ([]))) (by simp)
         have hS := hS.ext hC608
         refine x_p 9 (.slice a608x0 n608x0 c608x0) rfl (by kernel_rfl)  (fun _ => y_assign rfl) (fun _ => hS) ?_
         refine x_end (by kernel_rfl) ?_
         clear hS
         refine c_seq (c_region ?_)
         refine pl_val (.slice a573 n573 c573) (y_move rfl) ?_
         refine pl_val (.slice a608x0 n608x0 c608x0) (y_move rfl) ?_
         obtain ⟨M612, eM612, hs612, hk612, hO, hv612⟩ := frz_own (Frz.os Frz.int) hv608x0 hO
         have hv99 := hv99.sub (M' := M612) hs612
         have hv573 := hv573.sub (M' := M612) hs612
         have hv575 := hv575.sub (M' := M612) hs612
         have hv602 := hv602.sub (M' := M612) hs612
         have hv606 := hv606.sub (M' := M612) hs612
         have hK := hK.trans hk612
         obtain ⟨r613, hr613, hs⟩ := bind_some hs
         refine pl_call Bd107 rfl (c_spec_l6Put (M := M612) s566.1 r609 hv573 hv612 hO.fut hr613) ?_
         rintro _ w611 ⟨a611x0, n611x0, c611x0, rfl, hC611, hv611x0⟩
         have hK := hK.trans (show Keeps w M612 (Past M612 w608 w611) from Keeps.past hC.size)
         have hv99 := hv99.ext hC611
         have hv573 := hv573.ext hC611
         have hv575 := hv575.ext hC611
         have hv602 := hv602.ext hC611
         have hv606 := hv606.ext hC611
         have hv612 := hv612.ext hC611
         have hC := hC.ext hC611
         have hO := hO.past hC611
         have hv99 := hv99.sub (M' := (Past M612 w608 w611)) (fun g hg => .inl hg.1)
         have hv573 := hv573.sub (M' := (Past M612 w608 w611)) (fun g hg => .inl hg.1)
         have hv575 := hv575.sub (M' := (Past M612 w608 w611)) (fun g hg => .inl hg.1)
         have hv602 := hv602.sub (M' := (Past M612 w608 w611)) (fun g hg => .inl hg.1)
         have hv606 := hv606.sub (M' := (Past M612 w608 w611)) (fun g hg => .inl hg.1)
         have hv612 := hv612.sub (M' := (Past M612 w608 w611)) (fun g hg => .inl hg.1)
         refine pl_val (.slice a611x0 n611x0 c611x0) (y_assign rfl) ?_
         refine c_nil ?_
         refine c_seq (c_region ?_)
         refine pl_val (.slice a611x0 n611x0 c611x0) (y_move rfl) ?_
         refine pl_val (.int .i64 (r613.length : Int)) (y_len' Sl41 (rs_len hv611x0) rfl) ?_
         refine pl_val (.slice a573 n573 c573) (y_move rfl) ?_
         refine pl_val (.int .i64 (s566.1.length : Int)) (y_len' Sl41 (rs_len hv573) rfl) ?_
         refine pl_val (.bool (decide ((s566.1.length : Int) < (r613.length : Int)))) (y_gtr rfl rfl) ?_
         refine c_nil ?_
         rcases bif_some hs with ⟨hc615, hs⟩ | ⟨hc615, hs⟩
         ·skip
          refine c_condT (congrArg Value.bool hc615) ?_
          refine c_seq (c_region ?_)
          refine pl_val (.slice a611x0 n611x0 c611x0) (y_move rfl) ?_
          refine pl_val (.slice a611x0 n611x0 c611x0) (y_assign rfl) ?_
          refine c_nil ?_
          refine c_region ?_
          refine pl_val (.slice a575 n575 c575) (y_move rfl) ?_
          refine pl_val (.slice a608x0 n608x0 c608x0) (y_move rfl) ?_
          obtain ⟨w616, g616, ew616, eg616, hC616, hb616⟩ := new_block w611 [(.slice a608x0 n608x0 c608x0)] 22
          refine pl_val (w' := w616) (.slice (some ⟨g616, 0, none⟩) 1 1) (y_bslice rfl (by rw [ew616, eg616]; kernel_rfl)) ?_
          have hv99 := hv99.ext hC616
          have hv575 := hv575.ext hC616
          have hv612 := hv612.ext hC616
          have hv611x0 := hv611x0.ext hC616
          have hC := hC.ext hC616
          have hO := hO.new1 hC616 eg616 hb616.lt
          have hv616 := os_of_box (r := (RT.rs (RT.int .i64))) (M := (Past M612 w608 w611)) (css := [[(.slice a608x0 n608x0 c608x0)]]) (fps := [([] : List Nat)]) (xs := ([r609] : List (List Int))) hb616 ⟨(rs_unval hv612), trivial⟩ (Nat.le_of_ble_eq_true rfl) (List.nodup_cons.2 ⟨(fun h => nomatch h), List.nodup_nil⟩)
          have hv616 : (RT.os 22 (RT.rs (RT.int .i64))).val (Past M612 w608 w611) w616 (.slice (some ⟨g616, 0, none⟩) 1 1) [r609] [g616] := hv616
          obtain ⟨y619, hy619, hs⟩ := bind_some hs
          have hO := hO.fr1
          obtain ⟨a618, n618, c618, w618, f618, hr618, hC618, hf618, hv618⟩ := app_os Rw41 hy619 hv575 hv616 hO.inM (fun g hg hq => hO.apart g hq (mem_l hg))
          have hG618 := os_block hv575
          refine pl_val (w' := w618) (.slice a618 n618 c618) (y_append rfl rfl (hr618 _)) ?_
          have hO := hO.fr1
          have hO := hO.fr1
          have hv99 := hv99.mut hC618 (fun g hg => hO.inM g (hG618 g hg)) (fun _ _ h => nomatch h)
          have hv612 := hv612.mut hC618 (fun g hg => hO.inM g (hG618 g hg)) (fun _ _ h => nomatch h)
          have hv611x0 := hv611x0.mut hC618 (fun g hg => hO.inM g (hG618 g hg)) (fun _ _ h => nomatch h)
          have hC := hC.step hC618 (fun g hg => hO.inN g (hG618 g hg))
          have hO := hO.eat hC618 hf618 (os_nodup hv618) hv618.fpl
          refine pl_val (.slice a618 n618 c618) (y_assign rfl) ?_
          refine c_nil ?_
          refine c_region ?_
          refine pl_val (.int .i64 s566.2.2) (y_move rfl) ?_
          refine pl_val (.int .i64 (w64 (s566.2.2 + 1))) (y_add rfl rfl) ?_
          refine pl_val (.int .i64 (w64 (s566.2.2 + 1))) (y_assign rfl) ?_
          refine c_nil ?_
          cases hs
          exact ⟨_, (Past M612 w608 w611), a611x0, n611x0, c611x0, a618, n618, c618, f618, fr_ovl 87 ⟨rfl, rfl, rfl, rfl, rfl, rfl, trivial⟩, hC, hO, hK, hv99, hv611x0, hv618⟩
         ·skip
          refine c_condF (congrArg Value.bool hc615) ?_
          refine wp_skip ?_
          refine c_region ?_
          refine pl_val (.int .i64 s566.2.2) (y_move rfl) ?_
          refine pl_val (.int .i64 (w64 (s566.2.2 + 1))) (y_add rfl rfl) ?_
          refine pl_val (.int .i64 (w64 (s566.2.2 + 1))) (y_assign rfl) ?_
          refine c_nil ?_
          cases hs
          exact ⟨_, (Past M612 w608 w611), a573, n573, c573, a575, n575, c575, f575, fr_ovl 87 ⟨rfl, rfl, rfl, rfl, rfl, rfl, trivial⟩, hC, hO, hK, hv99, hv573, hv575⟩
        ·skip
         refine c_condF (congrArg Value.bool hc586) ?_
         refine wp_exit ?_
         cases hs
         exact ⟨rfl, _, M572, a573, n573, c573, a575, n575, c575, f575, fr_ovl 87 ⟨rfl, rfl, rfl, rfl, rfl, trivial⟩, hC, hO, hK, hv99, hv573, hv575⟩
      ·skip
       exact ⟨_, M464, a465, n465, c465, a467, n467, c467, f467, fr_ovl 87 ⟨rfl, rfl, rfl, rfl, rfl, rfl, trivial⟩, hC, hO, hK, hv99, hv465, hv467⟩
      ·cases o570 with
       | nx _ => exact True.intro
       | rt r_ =>
        have hs := after_rt hs
        intro a1 w1 hK
        cases hs
        exact hK
       | br s566 =>
        have hs := after_br hs
        rintro a1 w567 ⟨σ, M577, a578, n578, c578, a580, n580, c580, f580, rfl, hC, hO, hK, hv99, hv578, hv580⟩
        refine c_region ?_
        refine pl_val (.int .i64 s458.2.2) (y_move rfl) ?_
        refine pl_val (.int .i64 (w64 (s458.2.2 + 1))) (y_add rfl rfl) ?_
        refine pl_val (.int .i64 (w64 (s458.2.2 + 1))) (y_assign rfl) ?_
        refine c_nil ?_
        cases hs
        exact ⟨_, M577, a578, n578, c578, a580, n580, c580, f580, fr_ovl 87 ⟨rfl, rfl, rfl, rfl, rfl, trivial⟩, hC, hO, hK, hv99, hv578, hv580⟩
     ·skip
      refine c_condF (congrArg Value.bool hc478) ?_
      refine wp_exit ?_
      cases hs
      exact ⟨rfl, _, M464, a465, n465, c465, a467, n467, c467, f467, fr_ovl 87 ⟨rfl, trivial⟩, hC, hO, hK, hv99, hv465, hv467⟩
   ·skip
    exact ⟨_, M457, (some ⟨g142, 0, none⟩), 1, 1, (some ⟨g147, 0, none⟩), 1, 1, f457, fr_ovl 87 ⟨rfl, rfl, rfl, rfl, rfl, trivial⟩, hC, hO, hK, hv99, hv456, hv457⟩
   ·cases o462 with
    | nx _ => exact True.intro
    | rt r_ =>
     have hs := after_rt hs
     intro a1 w1 hK
     cases hs
     exact hK
    | br s458 =>
     have hs := after_br hs
     rintro a1 w459 ⟨σ, M469, a470, n470, c470, a472, n472, c472, f472, rfl, hC, hO, hK, hv99, hv470, hv472⟩
     refine c_seq (c_region ?_)
     refine pl_val (.slice a470 n470 c470) (y_move rfl) ?_
     refine pl_val (.slice a470 n470 c470) (y_assign rfl) ?_
     refine c_nil ?_
     refine wp_ret ?_
     cases hs
     exact ⟨_, a470, n470, c470, fr_ovl 87 ⟨rfl, trivial⟩, hC, (Keeps.out hK hv470)⟩

theorem Bd81 : Bodied Try.prog 81 := bodied Try.func81 (by kernel_rfl) rfl

theorem Bd82 : Bodied Try.prog 82 := bodied Try.func82 (by kernel_rfl) rfl

def k_spec_l16All (M : Nat → Prop) (w0 : World) (r : (List (List Int)) × Bool) (a : Act) (w : World) : Prop :=
  ∃ (σ : Nat → Value) (ra0 : Option Addr) (rn0 rc0 : Nat), a = fr 15 (ovl σ [(2, (.slice ra0 rn0 rc0)), (3, (.bool r.2))]) ∧ Chg [] w0 w ∧ (RT.rs (RT.rs (RT.int .i64))).val (Past M w0 w) w (.slice ra0 rn0 rc0) r.1 []
def s_spec_l16All (a_ : Int × (List (Int × (List Int)))) : Option ((List (List Int)) × Bool) :=
  (s_spec_l2Good (a_.1, a_.2)).bind fun r4 =>
  (bif (!r4) then some ([], false) else (s_spec_l6Most (a_.1, a_.2) 60).bind fun r10 =>
  some (r10, (decide ((r10.length : Int) ≤ 60))))
set_option maxHeartbeats 4000000 in
theorem c_spec_l16All {M : Nat → Prop} {w : World} {pa0 : Option Addr} {pn0 pc0 : Nat} (a_ : Int × (List (Int × (List Int)))) (h0 : (RT.rs (RT.pr (RT.int .i64) (RT.rs (RT.int .i64)))).val M w (.slice pa0 pn0 pc0) a_.2 ([])) (hM : ∀ g, w.heap.size ≤ g → M g) {r : (List (List Int)) × Bool} (hs : s_spec_l16All a_ = some r) :
    Gives Try.prog 49 [(.agg #[(.int .i64 a_.1), (.slice pa0 pn0 pc0)])] w (fun v w' => ∃ (ra0 : Option Addr) (rn0 rc0 : Nat), v = (.tuple #[(.slice ra0 rn0 rc0), (.bool r.2)]) ∧ Chg [] w w' ∧ (RT.rs (RT.rs (RT.int .i64))).val (Past M w w') w' (.slice ra0 rn0 rc0) r.1 []) := by
 refine calls_fr Try.func49 rfl Try.ntmps49 (Nat.le_of_ble_eq_true rfl) ?_
 have hO := Own.start (N := Nw w []) hM Nw.fut
 have hC := Chg.refl [] w
 unfold s_spec_l16All at hs
 refine wp_mono (Q := KPost (k_spec_l16All M w r)) ?_ (fun e a w1 h => ?_)
 rotate_left
 ·cases e
  case ret =>
   obtain ⟨σ, ra0, rn0, rc0, rfl, hrest⟩ := h
   exact ret2x Try.results49 (res_tmp rfl) (res_tmp rfl) ⟨ra0, rn0, rc0, rfl, hrest⟩
  all_goals exact (h : False).elim
 refine c_seq (c_region ?_)
 obtain ⟨w2, g2, ew2, eg2, hC2, hb2⟩ := new_block w [(.int .i64 a_.1), (.slice pa0 pn0 pc0)] 35
 refine pl_val (w' := w2) (.pointer (some ⟨g2, 0, none⟩)) (y_box rfl (by rw [ew2, eg2]; kernel_rfl)) ?_
 have h0 := h0.ext hC2
 have hC := hC.ext hC2
 have hO := hO.new1 hC2 eg2 hb2.lt
 refine pl_val (.slice none 0 0) (y_assign rfl) ?_
 refine pl_val (.bool false) (y_assign rfl) ?_
 refine c_nil ?_
 refine c_seq ?_
 refine c_seq (c_region ?_)
 refine pl_val (.agg #[(.int .i64 a_.1), (.slice pa0 pn0 pc0)]) (y_load rfl ((box_load Ag35 Sz35 hb2 [] [(.int .i64 a_.1), (.slice pa0 pn0 pc0)] [] rfl rfl (fun h => nomatch h)) _ (Chg.refl _ _))) ?_
 obtain ⟨r4, hr4, hs⟩ := bind_some hs
 refine pl_call Bd81 rfl (c_spec_l2Good (M := M) (a_.1, a_.2) h0 hO.fut hr4) ?_
 rintro _ w3 ⟨rfl, hC3⟩
 have h0 := h0.ext hC3
 have hb2 := hb2.chg hC3 (fun h => nomatch h)
 have hC := hC.ext hC3
 have hO := hO.ext hC3
 refine pl_val (.bool (!r4)) (y_not rfl) ?_
 refine c_nil ?_
 rcases bif_some hs with ⟨hc5, hs⟩ | ⟨hc5, hs⟩
 ·skip
  refine c_condT (congrArg Value.bool hc5) ?_
  refine c_seq (c_region ?_)
  obtain ⟨w6, g6, ew6, eg6, hC6, hb6⟩ := new_block w3 [] 22
  refine pl_val (w' := w6) (.slice (some ⟨g6, 0, none⟩) 0 0) (y_bslice rfl (by rw [ew6, eg6]; kernel_rfl)) ?_
  have h0 := h0.ext hC6
  have hb2 := hb2.chg hC6 (fun h => nomatch h)
  have hC := hC.ext hC6
  have hO := hO.new1 hC6 eg6 hb6.lt
  have hv6 := os_of_box (r := (RT.os 3 (RT.int .i64))) (M := M) (css := []) (fps := []) (xs := ([] : List (List Int))) hb6 trivial (Nat.zero_le _) (List.nodup_cons.2 ⟨(fun h => nomatch h), List.nodup_nil⟩)
  have hv6 : (RT.os 22 (RT.os 3 (RT.int .i64))).val M w6 (.slice (some ⟨g6, 0, none⟩) 0 0) [] [g6] := hv6
  refine pl_val (.slice (some ⟨g6, 0, none⟩) 0 0) (y_assign rfl) ?_
  refine pl_val (.bool false) (y_assign rfl) ?_
  refine c_nil ?_
  refine wp_ret ?_
  cases hs
  obtain ⟨M8, eM8, hs8, hk8, hO, hv8⟩ := frz_own (Frz.os (Frz.os Frz.int)) hv6 hO
  have h0 := h0.sub (M' := M8) hs8
  have hK := hk8
  exact ⟨_, (some ⟨g6, 0, none⟩), 0, 0, fr_ovl 15 ⟨rfl, rfl, trivial⟩, hC, (Keeps.out hK hv8)⟩
 ·skip
  refine c_condF (congrArg Value.bool hc5) ?_
  refine wp_skip ?_
  refine c_seq (c_region ?_)
  refine pl_val (.agg #[(.int .i64 a_.1), (.slice pa0 pn0 pc0)]) (y_load rfl ((box_load Ag35 Sz35 hb2 [] [(.int .i64 a_.1), (.slice pa0 pn0 pc0)] [] rfl rfl (fun h => nomatch h)) _ (Chg.refl _ _))) ?_
  obtain ⟨r10, hr10, hs⟩ := bind_some hs
  refine pl_call Bd82 rfl (c_spec_l6Most (M := M) (a_.1, a_.2) 60 h0 hO.fut hr10) ?_
  rintro _ w9 ⟨a9x0, n9x0, c9x0, rfl, hC9, hv9x0⟩
  have hK := (show Keeps w M (Past M w3 w9) from Keeps.past hC.size)
  have h0 := h0.ext hC9
  have hb2 := hb2.chg hC9 (fun h => nomatch h)
  have hC := hC.ext hC9
  have hO := hO.past hC9
  have h0 := h0.sub (M' := (Past M w3 w9)) (fun g hg => .inl hg.1)
  refine pl_val (.slice a9x0 n9x0 c9x0) (y_assign rfl) ?_
  refine c_nil ?_
  refine c_seq (c_region ?_)
  refine pl_val (.slice a9x0 n9x0 c9x0) (y_move rfl) ?_
  refine pl_val (.slice a9x0 n9x0 c9x0) (y_move rfl) ?_
  refine pl_val (.int .i64 (r10.length : Int)) (y_len' Sl41 (rs_len hv9x0) rfl) ?_
  refine pl_val (.bool (decide ((r10.length : Int) ≤ 60))) (y_leq rfl rfl) ?_
  refine pl_val (.slice a9x0 n9x0 c9x0) (y_assign rfl) ?_
  refine pl_val (.bool (decide ((r10.length : Int) ≤ 60))) (y_assign rfl) ?_
  refine c_nil ?_
  refine wp_ret ?_
  cases hs
  exact ⟨_, a9x0, n9x0, c9x0, fr_ovl 15 ⟨rfl, rfl, trivial⟩, hC, (Keeps.out hK hv9x0)⟩

def k_spec_l6Partition (M : Nat → Prop) (w0 : World) (r : Bool) (a : Act) (w : World) : Prop :=
  ∃ (σ : Nat → Value) , a = fr 36 (ovl σ [(4, (.bool r))]) ∧ Chg [] w0 w
def s_spec_l6Partition (n : Int) (p : List Int) : Option (Bool) :=
  (bif ((p.length : Int) != n) then some false else (forC (S := Unit) (R := Bool) (fun k22 s20 =>
  (idx p k22).bind fun x27 =>
  (s_spec_l1In x27 0 k22).bind fun r30 =>
  (bif (!r30) then some (.rt false) else (idx p k22).bind fun x32 =>
  (idx p k22).bind fun x34 =>
  (idx p x32).bind fun x36 =>
  (bif (x36 != x34) then some (.rt false) else some (.nx ())))) 0 n ()).bind fun o24 => after o24 (fun r_ => some r_) (fun s20 =>
  some true))
set_option maxHeartbeats 4000000 in
theorem c_spec_l6Partition {M : Nat → Prop} {w : World} {pa0 : Option Addr} {pn0 pc0 : Nat} (n : Int) (p : List Int) (h0 : (RT.rs (RT.int .i64)).val M w (.slice pa0 pn0 pc0) p ([])) (hM : ∀ g, w.heap.size ≤ g → M g) {r : Bool} (hs : s_spec_l6Partition n p = some r) :
    Gives Try.prog 62 [(.int .i64 n), (.slice pa0 pn0 pc0)] w (fun v w' => v = (.bool r) ∧ Chg [] w w') := by
 refine calls_fr Try.func62 rfl Try.ntmps62 (Nat.le_of_ble_eq_true rfl) ?_
 have hO := Own.start (N := Nw w []) hM Nw.fut
 have hC := Chg.refl [] w
 unfold s_spec_l6Partition at hs
 refine wp_mono (Q := KPost (k_spec_l6Partition M w r)) ?_ (fun e a w1 h => ?_)
 rotate_left
 ·cases e
  case ret =>
   obtain ⟨σ, rfl, hrest⟩ := h
   exact ret1x Try.results62 (res_tmp rfl) ⟨rfl, hrest⟩
  all_goals exact (h : False).elim
 refine c_seq (c_region ?_)
 refine pl_val (.bool false) (y_assign rfl) ?_
 refine c_nil ?_
 refine c_seq ?_
 refine c_seq (c_region ?_)
 refine pl_val (.slice pa0 pn0 pc0) (y_move rfl) ?_
 refine pl_val (.int .i64 (p.length : Int)) (y_len' Sl22 (rs_len h0) rfl) ?_
 refine pl_val (.int .i64 n) (y_move rfl) ?_
 refine pl_val (.bool ((p.length : Int) != n)) (y_neq rfl rfl) ?_
 refine c_nil ?_
 rcases bif_some hs with ⟨hc2, hs⟩ | ⟨hc2, hs⟩
 ·skip
  refine c_condT (congrArg Value.bool hc2) ?_
  refine c_seq (c_region ?_)
  refine pl_val (.bool false) (y_assign rfl) ?_
  refine c_nil ?_
  refine wp_ret ?_
  cases hs
  exact ⟨_, fr_ovl 36 ⟨rfl, trivial⟩, hC⟩
 ·skip
  refine c_condF (congrArg Value.bool hc2) ?_
  refine wp_skip ?_
  refine c_seq ?_
  refine c_seq (c_region ?_)
  refine pl_val (.int .i64 0) (y_assign rfl) ?_
  refine c_nil ?_
  obtain ⟨o24, hl25, hs⟩ := bind_some hs
  refine wp_block ?_
  refine wp_forC (id := 0) n (I := fun k22 s20 a w21 => ∃ (σ : Nat → Value), a = fr 36 (ovl σ [(0, (.int .i64 n)), (1, (.slice pa0 pn0 pc0)), (5, (.int .i64 k22))]) ∧ Chg [] w w21 ∧ Own (Nw w []) M w21 ([]) ∧ (RT.rs (RT.int .i64)).val M w21 (.slice pa0 pn0 pc0) p ([])) (J := fun s20 a w21 => ∃ (σ : Nat → Value), a = fr 36 (ovl σ []) ∧ Chg [] w w21 ∧ Own (Nw w []) M w21 ([]) ∧ (RT.rs (RT.int .i64)).val M w21 (.slice pa0 pn0 pc0) p ([])) (K := (k_spec_l6Partition M w)) ?_ ?_ 0 () o24 _ _ ?_ hl25 ?_
  ·rintro k22 s20 a w21 ⟨σ, rfl, hC, hO, h0⟩ hlt
   refine c_seq ?_
   refine c_seq (c_region ?_)
   refine pl_val (.int .i64 k22) (y_move rfl) ?_
   refine pl_val (.int .i64 n) (y_move rfl) ?_
   refine pl_val (.bool (decide (k22 < n))) (y_lss rfl rfl) ?_
   refine c_nil ?_
   refine c_condF (congrArg Value.bool (decide_eq_false hlt)) ?_
   refine wp_exit ?_
   exact ⟨rfl, _, fr_ovl 36 trivial, hC, hO, h0⟩
  ·rintro k22 s20 o24 a w21 ⟨σ, rfl, hC, hO, h0⟩ hlt hw hs
   refine c_seq ?_
   refine c_seq (c_region ?_)
   refine pl_val (.int .i64 k22) (y_move rfl) ?_
   refine pl_val (.int .i64 n) (y_move rfl) ?_
   refine pl_val (.bool (decide (k22 < n))) (y_lss rfl rfl) ?_
   refine c_nil ?_
   refine c_condT (congrArg Value.bool (decide_eq_true hlt)) ?_
   refine wp_skip ?_
   refine c_seq ?_
   refine wp_block ?_
   refine c_seq ?_
   refine x_start [] Mx rfl ?_
   have hCw26 := Chg.drew w21
   generalize World.drew w21 = w26 at hCw26 ⊢
   have h0 := h0.ext hCw26
   have hC := hC.ext hCw26
   have hO := hO.ext hCw26
   have hS := Chg.refl [] w26
   refine x_p 0 (.slice pa0 pn0 pc0) rfl (by kernel_rfl)  (fun _ => y_move rfl) (fun _ => hS) ?_
   refine x_p 1 (.int .i64 k22) rfl (by kernel_rfl)  (fun _ => y_move rfl) (fun _ => hS) ?_
   obtain ⟨x27, hx27, hs⟩ := bind_some hs
   obtain ⟨b28, o28, hp28, ha28⟩ := rs_idx Sl22 Sz3 h0 hx27
   refine x_p 2 (.pointer (some ⟨b28, o28, none⟩)) rfl (by kernel_rfl)  (fun _ => hp28 _ _ _ _ _ _ _ _ _ rfl rfl) (fun _ => hS) ?_
   refine x_l 3 (.int .i64 x27) rfl (by kernel_rfl)  (fun w' hw' => y_load rfl ((at_load_int Ag3 Sz3 ha28) w' hw')) hS ?_
   refine x_p 4 (.int .i64 k22) rfl (by kernel_rfl)  (fun _ => y_move rfl) (fun _ => hS) ?_
   refine x_one (i := 5) (by kernel_rfl) ?_
   obtain ⟨r30, hr30, hs⟩ := bind_some hs
   refine xk_call (b := false) rfl  Bd93 rfl (c_spec_l1In (M := M) x27 0 k22  hO.fut hr30) rfl (by rintro _ _ _ ⟨rfl, hC29⟩; exact hS.ext hC29) ?_
   rintro _ w29 ⟨rfl, hC29⟩
   have h0 := h0.ext hC29
   have hC := hC.ext hC29
   have hO := hO.ext hC29
   have hS := hS.ext hC29
   refine x_p 6 (.bool (!r30)) rfl (by kernel_rfl)  (fun _ => y_not rfl) (fun _ => hS) ?_
   refine x_p 7 (.bool (!r30)) rfl (by kernel_rfl)  (fun _ => y_move rfl) (fun _ => hS) ?_
   rcases bif_some hs with ⟨hc31, hs⟩ | ⟨hc31, hs⟩
   ·skip
    refine x_pn 8 rfl (by kernel_rfl) (tg := 22) (by kernel_rfl) (congrArg Value.bool hc31) (fun _ => hS) ?_
    refine x_pn 9 rfl (by kernel_rfl) (tg := 22) (by kernel_rfl) (congrArg Value.bool hc31) (fun _ => hS) ?_
    refine x_pn 10 rfl (by kernel_rfl) (tg := 22) (by kernel_rfl) (congrArg Value.bool hc31) (fun _ => hS) ?_
    refine x_pn 11 rfl (by kernel_rfl) (tg := 22) (by kernel_rfl) (congrArg Value.bool hc31) (fun _ => hS) ?_
    refine x_pn 12 rfl (by kernel_rfl) (tg := 22) (by kernel_rfl) (congrArg Value.bool hc31) (fun _ => hS) ?_
    refine x_pn 13 rfl (by kernel_rfl) (tg := 22) (by kernel_rfl) (congrArg Value.bool hc31) (fun _ => hS) ?_
    refine x_pn 14 rfl (by kernel_rfl) (tg := 22) (by kernel_rfl) (congrArg Value.bool hc31) (fun _ => hS) ?_
    refine x_pn 15 rfl (by kernel_rfl) (tg := 22) (by kernel_rfl) (congrArg Value.bool hc31) (fun _ => hS) ?_
    refine x_pn 16 rfl (by kernel_rfl) (tg := 22) (by kernel_rfl) (congrArg Value.bool hc31) (fun _ => hS) ?_
    refine x_pn 17 rfl (by kernel_rfl) (tg := 22) (by kernel_rfl) (congrArg Value.bool hc31) (fun _ => hS) ?_
    refine x_pn 18 rfl (by kernel_rfl) (tg := 22) (by kernel_rfl) (congrArg Value.bool hc31) (fun _ => hS) ?_
    refine x_pn 19 rfl (by kernel_rfl) (tg := 22) (by kernel_rfl) (congrArg Value.bool hc31) (fun _ => hS) ?_
    refine x_p 20 (.bool true) rfl (by kernel_rfl)  (fun _ => y_pick_t (congrArg Value.bool hc31) rfl) (fun _ => hS) ?_
    refine x_end (by kernel_rfl) ?_
    clear hS
    refine c_condT (by rfl) ?_
    refine c_seq (c_region ?_)
    refine pl_val (.bool false) (y_assign rfl) ?_
    refine c_nil ?_
    refine wp_ret ?_
    cases hs
    exact ⟨_, fr_ovl 36 ⟨rfl, trivial⟩, hC⟩
   ·skip
    refine x_py 8 (.slice pa0 pn0 pc0) rfl (by kernel_rfl) (tg := 22) (by kernel_rfl) (congrArg Value.bool hc31) (fun _ => y_move rfl) (fun _ => hS) ?_
    refine x_py 9 (.slice pa0 pn0 pc0) rfl (by kernel_rfl) (tg := 22) (by kernel_rfl) (congrArg Value.bool hc31) (fun _ => y_move rfl) (fun _ => hS) ?_
    refine x_py 10 (.int .i64 k22) rfl (by kernel_rfl) (tg := 22) (by kernel_rfl) (congrArg Value.bool hc31) (fun _ => y_move rfl) (fun _ => hS) ?_
    obtain ⟨x32, hx32, hs⟩ := bind_some hs
    obtain ⟨b33, o33, hp33, ha33⟩ := rs_idx Sl22 Sz3 h0 hx32
    refine x_py 11 (.pointer (some ⟨b33, o33, none⟩)) rfl (by kernel_rfl) (tg := 22) (by kernel_rfl) (congrArg Value.bool hc31) (fun _ => hp33 _ _ _ _ _ _ _ _ _ rfl rfl) (fun _ => hS) ?_
    refine x_py 15 (.slice pa0 pn0 pc0) rfl (by kernel_rfl) (tg := 22) (by kernel_rfl) (congrArg Value.bool hc31) (fun _ => y_move rfl) (fun _ => hS) ?_
    refine x_py 16 (.int .i64 k22) rfl (by kernel_rfl) (tg := 22) (by kernel_rfl) (congrArg Value.bool hc31) (fun _ => y_move rfl) (fun _ => hS) ?_
    obtain ⟨x34, hx34, hs⟩ := bind_some hs
    obtain ⟨b35, o35, hp35, ha35⟩ := rs_idx Sl22 Sz3 h0 hx34
    refine x_py 17 (.pointer (some ⟨b35, o35, none⟩)) rfl (by kernel_rfl) (tg := 22) (by kernel_rfl) (congrArg Value.bool hc31) (fun _ => hp35 _ _ _ _ _ _ _ _ _ rfl rfl) (fun _ => hS) ?_
    refine x_two (i := 12) (j := 18) (by kernel_rfl) ?_ ?_
    ·skip
     refine xk_valy (b := false) (.int .i64 x32) rfl (tg := 22) (by kernel_rfl) (congrArg Value.bool hc31) (y_load rfl ((at_load_int Ag3 Sz3 ha33) _ (Chg.refl _ _))) rfl (fun _ => hS) ?_
     obtain ⟨x36, hx36, hs⟩ := bind_some hs
     obtain ⟨b37, o37, hp37, ha37⟩ := rs_idx Sl22 Sz3 h0 hx36
     refine x_py 13 (.pointer (some ⟨b37, o37, none⟩)) rfl (by kernel_rfl) (tg := 22) (by kernel_rfl) (congrArg Value.bool hc31) (fun _ => hp37 _ _ _ _ _ _ _ _ _ rfl rfl) (fun _ => hS) ?_
     refine x_two (i := 14) (j := 18) (by kernel_rfl) ?_ ?_
     ·skip
      refine xk_valy (b := false) (.int .i64 x36) rfl (tg := 22) (by kernel_rfl) (congrArg Value.bool hc31) (y_load rfl ((at_load_int Ag3 Sz3 ha37) _ (Chg.refl _ _))) rfl (fun _ => hS) ?_
      refine x_one (i := 18) (by kernel_rfl) ?_
      refine xk_valy (b := false) (.int .i64 x34) rfl (tg := 22) (by kernel_rfl) (congrArg Value.bool hc31) (y_load rfl ((at_load_int Ag3 Sz3 ha35) _ (Chg.refl _ _))) rfl (fun _ => hS) ?_
      refine x_py 19 (.bool (x36 != x34)) rfl (by kernel_rfl) (tg := 22) (by kernel_rfl) (congrArg Value.bool hc31) (fun _ => y_neq rfl rfl) (fun _ => hS) ?_
      refine x_p 20 (.bool (x36 != x34)) rfl (by kernel_rfl)  (fun _ => y_pick_f (congrArg Value.bool hc31) rfl) (fun _ => hS) ?_
      refine x_end (by kernel_rfl) ?_
      clear hS
      rcases bif_some hs with ⟨hc38, hs⟩ | ⟨hc38, hs⟩
      ·skip
       refine c_condT (congrArg Value.bool hc38) ?_
       refine c_seq (c_region ?_)
       refine pl_val (.bool false) (y_assign rfl) ?_
       refine c_nil ?_
       refine wp_ret ?_
       cases hs
       exact ⟨_, fr_ovl 36 ⟨rfl, trivial⟩, hC⟩
      ·skip
       refine c_condF (congrArg Value.bool hc38) ?_
       refine wp_skip ?_
       refine c_region ?_
       refine pl_val (.int .i64 k22) (y_move rfl) ?_
       refine pl_val (.int .i64 (w64 (k22 + 1))) (y_add rfl rfl) ?_
       refine pl_val (.int .i64 (w64 (k22 + 1))) (y_assign rfl) ?_
       refine c_nil ?_
       cases hs
       exact ⟨_, fr_ovl 36 ⟨rfl, rfl, congrArg (Value.int .i64) hw, trivial⟩, hC, hO, h0⟩
     ·skip
      refine xk_valy (b := false) (.int .i64 x34) rfl (tg := 22) (by kernel_rfl) (congrArg Value.bool hc31) (y_load rfl ((at_load_int Ag3 Sz3 ha35) _ (Chg.refl _ _))) rfl (fun _ => hS) ?_
      refine x_one (i := 14) (by kernel_rfl) ?_
      refine xk_valy (b := false) (.int .i64 x36) rfl (tg := 22) (by kernel_rfl) (congrArg Value.bool hc31) (y_load rfl ((at_load_int Ag3 Sz3 ha37) _ (Chg.refl _ _))) rfl (fun _ => hS) ?_
      refine x_py 19 (.bool (x36 != x34)) rfl (by kernel_rfl) (tg := 22) (by kernel_rfl) (congrArg Value.bool hc31) (fun _ => y_neq rfl rfl) (fun _ => hS) ?_
      refine x_p 20 (.bool (x36 != x34)) rfl (by kernel_rfl)  (fun _ => y_pick_f (congrArg Value.bool hc31) rfl) (fun _ => hS) ?_
      refine x_end (by kernel_rfl) ?_
      clear hS
      rcases bif_some hs with ⟨hc39, hs⟩ | ⟨hc39, hs⟩
      ·skip
       refine c_condT (congrArg Value.bool hc39) ?_
       refine c_seq (c_region ?_)
       refine pl_val (.bool false) (y_assign rfl) ?_
       refine c_nil ?_
       refine wp_ret ?_
       cases hs
       exact ⟨_, fr_ovl 36 ⟨rfl, trivial⟩, hC⟩
      ·skip
       refine c_condF (congrArg Value.bool hc39) ?_
       refine wp_skip ?_
       refine c_region ?_
       refine pl_val (.int .i64 k22) (y_move rfl) ?_
       refine pl_val (.int .i64 (w64 (k22 + 1))) (y_add rfl rfl) ?_
       refine pl_val (.int .i64 (w64 (k22 + 1))) (y_assign rfl) ?_
       refine c_nil ?_
       cases hs
       exact ⟨_, fr_ovl 36 ⟨rfl, rfl, congrArg (Value.int .i64) hw, trivial⟩, hC, hO, h0⟩
    ·skip
     refine xk_valy (b := false) (.int .i64 x34) rfl (tg := 22) (by kernel_rfl) (congrArg Value.bool hc31) (y_load rfl ((at_load_int Ag3 Sz3 ha35) _ (Chg.refl _ _))) rfl (fun _ => hS) ?_
     refine x_one (i := 12) (by kernel_rfl) ?_
     refine xk_valy (b := false) (.int .i64 x32) rfl (tg := 22) (by kernel_rfl) (congrArg Value.bool hc31) (y_load rfl ((at_load_int Ag3 Sz3 ha33) _ (Chg.refl _ _))) rfl (fun _ => hS) ?_
     obtain ⟨x36, hx36, hs⟩ := bind_some hs
     obtain ⟨b41, o41, hp41, ha41⟩ := rs_idx Sl22 Sz3 h0 hx36
     refine x_py 13 (.pointer (some ⟨b41, o41, none⟩)) rfl (by kernel_rfl) (tg := 22) (by kernel_rfl) (congrArg Value.bool hc31) (fun _ => hp41 _ _ _ _ _ _ _ _ _ rfl rfl) (fun _ => hS) ?_
     refine x_one (i := 14) (by kernel_rfl) ?_
     refine xk_valy (b := false) (.int .i64 x36) rfl (tg := 22) (by kernel_rfl) (congrArg Value.bool hc31) (y_load rfl ((at_load_int Ag3 Sz3 ha41) _ (Chg.refl _ _))) rfl (fun _ => hS) ?_
     refine x_py 19 (.bool (x36 != x34)) rfl (by kernel_rfl) (tg := 22) (by kernel_rfl) (congrArg Value.bool hc31) (fun _ => y_neq rfl rfl) (fun _ => hS) ?_
     refine x_p 20 (.bool (x36 != x34)) rfl (by kernel_rfl)  (fun _ => y_pick_f (congrArg Value.bool hc31) rfl) (fun _ => hS) ?_
     refine x_end (by kernel_rfl) ?_
     clear hS
     rcases bif_some hs with ⟨hc42, hs⟩ | ⟨hc42, hs⟩
     ·skip
      refine c_condT (congrArg Value.bool hc42) ?_
      refine c_seq (c_region ?_)
      refine pl_val (.bool false) (y_assign rfl) ?_
      refine c_nil ?_
      refine wp_ret ?_
      cases hs
      exact ⟨_, fr_ovl 36 ⟨rfl, trivial⟩, hC⟩
     ·skip
      refine c_condF (congrArg Value.bool hc42) ?_
      refine wp_skip ?_
      refine c_region ?_
      refine pl_val (.int .i64 k22) (y_move rfl) ?_
      refine pl_val (.int .i64 (w64 (k22 + 1))) (y_add rfl rfl) ?_
      refine pl_val (.int .i64 (w64 (k22 + 1))) (y_assign rfl) ?_
      refine c_nil ?_
      cases hs
      exact ⟨_, fr_ovl 36 ⟨rfl, rfl, congrArg (Value.int .i64) hw, trivial⟩, hC, hO, h0⟩
  ·skip
   exact ⟨_, fr_ovl 36 ⟨rfl, rfl, rfl, trivial⟩, hC, hO, h0⟩
  ·cases o24 with
   | nx _ => exact True.intro
   | rt r_ =>
    have hs := after_rt hs
    intro a1 w1 hK
    cases hs
    exact hK
   | br s20 =>
    have hs := after_br hs
    rintro a1 w21 ⟨σ, rfl, hC, hO, h0⟩
    refine c_seq (c_region ?_)
    refine pl_val (.bool true) (y_assign rfl) ?_
    refine c_nil ?_
    refine wp_ret ?_
    cases hs
    exact ⟨_, fr_ovl 36 ⟨rfl, trivial⟩, hC⟩

theorem Bd62 : Bodied Try.prog 62 := bodied Try.func62 (by kernel_rfl) rfl

def k_spec_l6Is (M : Nat → Prop) (w0 : World) (r : Bool) (a : Act) (w : World) : Prop :=
  ∃ (σ : Nat → Value) , a = fr 16 (ovl σ [(4, (.bool r))]) ∧ Chg [] w0 w
def s_spec_l6Is (a_ : Int × (List (Int × (List Int)))) (p : List Int) : Option (Bool) :=
  (s_spec_l6Partition a_.1 p).bind fun r5 =>
  (bif r5 then (s_spec_l6Push (a_.1, a_.2) p).bind fun r8 =>
  (s_spec_l1Same r8 p).bind fun r11 =>
  some r11 else some false)
set_option maxHeartbeats 4000000 in
theorem c_spec_l6Is {M : Nat → Prop} {w : World} {pa0 : Option Addr} {pn0 pc0 : Nat} {pa1 : Option Addr} {pn1 pc1 : Nat} (a_ : Int × (List (Int × (List Int)))) (p : List Int) (h0 : (RT.rs (RT.pr (RT.int .i64) (RT.rs (RT.int .i64)))).val M w (.slice pa0 pn0 pc0) a_.2 ([])) (h1 : (RT.rs (RT.int .i64)).val M w (.slice pa1 pn1 pc1) p ([])) (hM : ∀ g, w.heap.size ≤ g → M g) {r : Bool} (hs : s_spec_l6Is a_ p = some r) :
    Gives Try.prog 63 [(.agg #[(.int .i64 a_.1), (.slice pa0 pn0 pc0)]), (.slice pa1 pn1 pc1)] w (fun v w' => v = (.bool r) ∧ Chg [] w w') := by
 refine calls_fr Try.func63 rfl Try.ntmps63 (Nat.le_of_ble_eq_true rfl) ?_
 have hO := Own.start (N := Nw w []) hM Nw.fut
 have hC := Chg.refl [] w
 unfold s_spec_l6Is at hs
 refine wp_mono (Q := KPost (k_spec_l6Is M w r)) ?_ (fun e a w1 h => ?_)
 rotate_left
 ·cases e
  case ret =>
   obtain ⟨σ, rfl, hrest⟩ := h
   exact ret1x Try.results63 (res_tmp rfl) ⟨rfl, hrest⟩
  all_goals exact (h : False).elim
 refine c_seq (c_region ?_)
 obtain ⟨w3, g3, ew3, eg3, hC3, hb3⟩ := new_block w [(.int .i64 a_.1), (.slice pa0 pn0 pc0)] 35
 refine pl_val (w' := w3) (.pointer (some ⟨g3, 0, none⟩)) (y_box rfl (by rw [ew3, eg3]; kernel_rfl)) ?_
 have h0 := h0.ext hC3
 have h1 := h1.ext hC3
 have hC := hC.ext hC3
 have hO := hO.new1 hC3 eg3 hb3.lt
 refine pl_val (.bool false) (y_assign rfl) ?_
 refine c_nil ?_
 refine c_seq (c_region ?_)
 refine pl_val (.pointer (some ⟨g3, 0, none⟩)) (y_faddr rfl Fa35x0) ?_
 refine pl_val (.int .i64 a_.1) (y_load rfl ((box_load Ag3 Sz3 hb3 [] [(.int .i64 a_.1)] [(.slice pa0 pn0 pc0)] rfl rfl (fun _ => rfl)) _ (Chg.refl _ _))) ?_
 refine pl_val (.slice pa1 pn1 pc1) (y_move rfl) ?_
 obtain ⟨r5, hr5, hs⟩ := bind_some hs
 refine pl_call Bd62 rfl (c_spec_l6Partition (M := M) a_.1 p h1 hO.fut hr5) ?_
 rintro _ w4 ⟨rfl, hC4⟩
 have h0 := h0.ext hC4
 have h1 := h1.ext hC4
 have hb3 := hb3.chg hC4 (fun h => nomatch h)
 have hC := hC.ext hC4
 have hO := hO.ext hC4
 refine pl_val (.bool r5) (y_move rfl) ?_
 rcases bif_some hs with ⟨hc6, hs⟩ | ⟨hc6, hs⟩
 ·skip
  refine pl_yes (.agg #[(.int .i64 a_.1), (.slice pa0 pn0 pc0)]) (tg := 9) (by kernel_rfl) (congrArg Value.bool hc6) (y_load rfl ((box_load Ag35 Sz35 hb3 [] [(.int .i64 a_.1), (.slice pa0 pn0 pc0)] [] rfl rfl (fun h => nomatch h)) _ (Chg.refl _ _))) ?_
  refine pl_yes (.slice pa1 pn1 pc1) (tg := 9) (by kernel_rfl) (congrArg Value.bool hc6) (y_move rfl) ?_
  obtain ⟨r8, hr8, hs⟩ := bind_some hs
  refine pl_cally (tg := 9) (by kernel_rfl) (congrArg Value.bool hc6) Bd94 rfl (c_spec_l6Push (M := M) (a_.1, a_.2) p h0 h1 hO.fut hr8) ?_
  rintro _ w7 ⟨a7x0, n7x0, c7x0, f7x0, rfl, hC7, hv7x0, hOc7⟩
  have h0 := h0.ext hC7
  have h1 := h1.ext hC7
  have hb3 := hb3.chg hC7 (fun h => nomatch h)
  have hC := hC.ext hC7
  have hO := Own.join0 hO hC7 hOc7
  have hO := hO.perm (R := f7x0 ++ (([g3]) ++ ([]))) (by simp)
  refine pl_yes (.slice pa1 pn1 pc1) (tg := 9) (by kernel_rfl) (congrArg Value.bool hc6) (y_move rfl) ?_
  obtain ⟨r11, hr11, hs⟩ := bind_some hs
  refine pl_cally (tg := 9) (by kernel_rfl) (congrArg Value.bool hc6) Bd86 rfl (c_spec_l1Same (M := (Less M f7x0)) r8 p (((Frz.os Frz.int)).val hv7x0 Less.sub Less.not) (h1.sub Less.sub) hO.less.fut hr11) ?_
  rintro _ w10 ⟨rfl, hC10⟩
  have h0 := h0.ext hC10
  have h1 := h1.ext hC10
  have hb3 := hb3.chg hC10 (fun h => nomatch h)
  have hv7x0 := hv7x0.ext hC10
  have hC := hC.ext hC10
  have hO := hO.ext hC10
  refine pl_val (.bool r11) (y_pick_t (congrArg Value.bool hc6) rfl) ?_
  refine pl_val (.bool r11) (y_assign rfl) ?_
  refine c_nil ?_
  refine wp_ret ?_
  cases hs
  exact ⟨_, fr_ovl 16 ⟨rfl, trivial⟩, hC⟩
 ·skip
  refine pl_not (tg := 9) (by kernel_rfl) (congrArg Value.bool hc6) ?_
  refine pl_not (tg := 9) (by kernel_rfl) (congrArg Value.bool hc6) ?_
  refine pl_not (tg := 9) (by kernel_rfl) (congrArg Value.bool hc6) ?_
  refine pl_not (tg := 9) (by kernel_rfl) (congrArg Value.bool hc6) ?_
  refine pl_not (tg := 9) (by kernel_rfl) (congrArg Value.bool hc6) ?_
  refine pl_val (.bool false) (y_pick_f (congrArg Value.bool hc6) rfl) ?_
  refine pl_val (.bool false) (y_assign rfl) ?_
  refine c_nil ?_
  refine wp_ret ?_
  cases hs
  exact ⟨_, fr_ovl 16 ⟨rfl, trivial⟩, hC⟩

def k_spec_l6Meet (M : Nat → Prop) (w0 : World) (r : (List Int)) (a : Act) (w : World) : Prop :=
  ∃ (σ : Nat → Value) (ra0 : Option Addr) (rn0 rc0 : Nat) (rf0 : List Nat), a = fr 42 (ovl σ [(4, (.slice ra0 rn0 rc0))]) ∧ Chg [] w0 w ∧ (RT.os 3 (RT.int .i64)).val M w (.slice ra0 rn0 rc0) r rf0 ∧ Own (Nw w0 []) (fun _ => True) w (rf0 ++ ([]))
def s_spec_l6Meet (p : List Int) (q : List Int) : Option ((List Int)) :=
  (forC (S := (List Int)) (R := (List Int)) (fun k42 s40 =>
  (iter (S := Int) (R := (List Int)) (fun s61 =>
  (idx p s61).bind fun x68 =>
  (idx p k42).bind fun x70 =>
  (bif (x68 != x70) then some (.nx (w64 (s61 + 1))) else (idx q s61).bind fun x73 =>
  (idx q k42).bind fun x75 =>
  (bif (x73 != x75) then some (.nx (w64 (s61 + 1))) else some (.br s61)))) FU 0).bind fun o65 => after o65 (fun r_ => some (.rt r_)) (fun s61 =>
  (app s40 ([s61])).bind fun y81 =>
  some (.nx y81))) 0 (p.length : Int) ([])).bind fun o44 => after o44 (fun r_ => some r_) (fun s40 =>
  some s40)
set_option maxHeartbeats 4000000 in
theorem c_spec_l6Meet {M : Nat → Prop} {w : World} {pa0 : Option Addr} {pn0 pc0 : Nat} {pa1 : Option Addr} {pn1 pc1 : Nat} (p : List Int) (q : List Int) (h0 : (RT.rs (RT.int .i64)).val M w (.slice pa0 pn0 pc0) p ([])) (h1 : (RT.rs (RT.int .i64)).val M w (.slice pa1 pn1 pc1) q ([])) (hM : ∀ g, w.heap.size ≤ g → M g) {r : (List Int)} (hs : s_spec_l6Meet p q = some r) :
    Gives Try.prog 87 [(.slice pa0 pn0 pc0), (.slice pa1 pn1 pc1)] w (fun v w' => ∃ (ra0 : Option Addr) (rn0 rc0 : Nat) (rf0 : List Nat), v = (.slice ra0 rn0 rc0) ∧ Chg [] w w' ∧ (RT.os 3 (RT.int .i64)).val M w' (.slice ra0 rn0 rc0) r rf0 ∧ Own (Nw w []) (fun _ => True) w' (rf0 ++ ([]))) := by
 refine calls_fr Try.func87 rfl Try.ntmps87 (Nat.le_of_ble_eq_true rfl) ?_
 have hO := Own.start (N := Nw w []) hM Nw.fut
 have hC := Chg.refl [] w
 unfold s_spec_l6Meet at hs
 refine wp_mono (Q := KPost (k_spec_l6Meet M w r)) ?_ (fun e a w1 h => ?_)
 rotate_left
 ·cases e
  case ret =>
   obtain ⟨σ, ra0, rn0, rc0, rf0, rfl, hrest⟩ := h
   exact ret1x Try.results87 (res_tmp rfl) ⟨ra0, rn0, rc0, rf0, rfl, hrest⟩
  all_goals exact (h : False).elim
 refine c_seq (c_region ?_)
 refine pl_val (.slice none 0 0) (y_assign rfl) ?_
 refine c_nil ?_
 refine c_seq (c_region ?_)
 obtain ⟨w3, g3, ew3, eg3, hC3, hb3⟩ := new_block w [] 3
 refine pl_val (w' := w3) (.slice (some ⟨g3, 0, none⟩) 0 0) (y_bslice rfl (by rw [ew3, eg3]; kernel_rfl)) ?_
 have h0 := h0.ext hC3
 have h1 := h1.ext hC3
 have hC := hC.ext hC3
 have hO := hO.new1 hC3 eg3 hb3.lt
 have hv3 := os_of_box (r := (RT.int .i64)) (M := M) (css := []) (fps := []) (xs := ([] : List Int)) hb3 trivial (Nat.zero_le _) (List.nodup_cons.2 ⟨(fun h => nomatch h), List.nodup_nil⟩)
 have hv3 : (RT.os 3 (RT.int .i64)).val M w3 (.slice (some ⟨g3, 0, none⟩) 0 0) [] [g3] := hv3
 refine pl_val (.slice (some ⟨g3, 0, none⟩) 0 0) (y_assign rfl) ?_
 refine c_nil ?_
 refine c_seq ?_
 refine c_seq (c_region ?_)
 refine pl_val (.int .i64 0) (y_assign rfl) ?_
 refine c_nil ?_
 obtain ⟨o44, hl45, hs⟩ := bind_some hs
 refine wp_block ?_
 refine wp_forC (id := 0) (p.length : Int) (I := fun k42 s40 a w41 => ∃ (σ : Nat → Value) (a46 : Option Addr) (n46 : Nat) (c46 : Nat) (f46 : List Nat), a = fr 42 (ovl σ [(0, (.slice pa0 pn0 pc0)), (1, (.slice pa1 pn1 pc1)), (5, (.slice a46 n46 c46)), (6, (.int .i64 k42))]) ∧ Chg [] w w41 ∧ Own (Nw w []) M w41 (f46 ++ []) ∧ (RT.rs (RT.int .i64)).val M w41 (.slice pa0 pn0 pc0) p ([]) ∧ (RT.rs (RT.int .i64)).val M w41 (.slice pa1 pn1 pc1) q ([]) ∧ (RT.os 3 (RT.int .i64)).val M w41 (.slice a46 n46 c46) s40 f46) (J := fun s40 a w41 => ∃ (σ : Nat → Value) (a48 : Option Addr) (n48 : Nat) (c48 : Nat) (f48 : List Nat), a = fr 42 (ovl σ [(5, (.slice a48 n48 c48))]) ∧ Chg [] w w41 ∧ Own (Nw w []) M w41 (f48 ++ []) ∧ (RT.rs (RT.int .i64)).val M w41 (.slice pa0 pn0 pc0) p ([]) ∧ (RT.rs (RT.int .i64)).val M w41 (.slice pa1 pn1 pc1) q ([]) ∧ (RT.os 3 (RT.int .i64)).val M w41 (.slice a48 n48 c48) s40 f48) (K := (k_spec_l6Meet M w)) ?_ ?_ 0 ([]) o44 _ _ ?_ hl45 ?_
 ·rintro k42 s40 a w41 ⟨σ, a46, n46, c46, f46, rfl, hC, hO, h0, h1, hv46⟩ hlt
  refine c_seq ?_
  refine c_seq (c_region ?_)
  refine pl_val (.int .i64 k42) (y_move rfl) ?_
  refine pl_val (.slice pa0 pn0 pc0) (y_move rfl) ?_
  refine pl_val (.int .i64 (p.length : Int)) (y_len' Sl22 (rs_len h0) rfl) ?_
  refine pl_val (.bool (decide (k42 < (p.length : Int)))) (y_lss rfl rfl) ?_
  refine c_nil ?_
  refine c_condF (congrArg Value.bool (decide_eq_false hlt)) ?_
  refine wp_exit ?_
  exact ⟨rfl, _, a46, n46, c46, f46, fr_ovl 42 ⟨rfl, trivial⟩, hC, hO, h0, h1, hv46⟩
 ·rintro k42 s40 o44 a w41 ⟨σ, a46, n46, c46, f46, rfl, hC, hO, h0, h1, hv46⟩ hlt hw hs
  refine c_seq ?_
  refine c_seq (c_region ?_)
  refine pl_val (.int .i64 k42) (y_move rfl) ?_
  refine pl_val (.slice pa0 pn0 pc0) (y_move rfl) ?_
  refine pl_val (.int .i64 (p.length : Int)) (y_len' Sl22 (rs_len h0) rfl) ?_
  refine pl_val (.bool (decide (k42 < (p.length : Int)))) (y_lss rfl rfl) ?_
  refine c_nil ?_
  refine c_condT (congrArg Value.bool (decide_eq_true hlt)) ?_
  refine wp_skip ?_
  refine c_seq ?_
  refine wp_block ?_
  refine c_seq (c_region ?_)
  refine pl_val (.int .i64 0) (y_assign rfl) ?_
  refine c_nil ?_
  refine c_seq ?_
  obtain ⟨o65, hl66, hs⟩ := bind_some hs
  refine wp_block ?_
  refine wp_iter (id := 2) (I := fun s61 a w62 => ∃ (σ : Nat → Value), a = fr 42 (ovl σ [(0, (.slice pa0 pn0 pc0)), (1, (.slice pa1 pn1 pc1)), (5, (.slice a46 n46 c46)), (6, (.int .i64 k42)), (7, (.int .i64 s61))]) ∧ Chg [] w w62 ∧ Own (Nw w []) M w62 (f46 ++ []) ∧ (RT.rs (RT.int .i64)).val M w62 (.slice pa0 pn0 pc0) p ([]) ∧ (RT.rs (RT.int .i64)).val M w62 (.slice pa1 pn1 pc1) q ([]) ∧ (RT.os 3 (RT.int .i64)).val M w62 (.slice a46 n46 c46) s40 f46) (J := fun s61 a w62 => ∃ (σ : Nat → Value), a = fr 42 (ovl σ [(0, (.slice pa0 pn0 pc0)), (1, (.slice pa1 pn1 pc1)), (5, (.slice a46 n46 c46)), (6, (.int .i64 k42)), (7, (.int .i64 s61))]) ∧ Chg [] w w62 ∧ Own (Nw w []) M w62 (f46 ++ []) ∧ (RT.rs (RT.int .i64)).val M w62 (.slice pa0 pn0 pc0) p ([]) ∧ (RT.rs (RT.int .i64)).val M w62 (.slice pa1 pn1 pc1) q ([]) ∧ (RT.os 3 (RT.int .i64)).val M w62 (.slice a46 n46 c46) s40 f46) (K := (k_spec_l6Meet M w)) ?_ FU 0 o65 _ _ ?_ hl66 ?_
  ·rintro s61 o65 a w62 ⟨σ, rfl, hC, hO, h0, h1, hv46⟩ hs
   refine c_seq ?_
   refine c_seq ?_
   refine x_start [] Mx rfl ?_
   have hCw67 := Chg.drew w62
   generalize World.drew w62 = w67 at hCw67 ⊢
   have h0 := h0.ext hCw67
   have h1 := h1.ext hCw67
   have hv46 := hv46.ext hCw67
   have hC := hC.ext hCw67
   have hO := hO.ext hCw67
   have hS := Chg.refl [] w67
   refine x_p 0 (.slice pa0 pn0 pc0) rfl (by kernel_rfl)  (fun _ => y_move rfl) (fun _ => hS) ?_
   refine x_p 1 (.int .i64 s61) rfl (by kernel_rfl)  (fun _ => y_move rfl) (fun _ => hS) ?_
   obtain ⟨x68, hx68, hs⟩ := bind_some hs
   obtain ⟨b69, o69, hp69, ha69⟩ := rs_idx Sl22 Sz3 h0 hx68
   refine x_p 2 (.pointer (some ⟨b69, o69, none⟩)) rfl (by kernel_rfl)  (fun _ => hp69 _ _ _ _ _ _ _ _ _ rfl rfl) (fun _ => hS) ?_
   refine x_l 3 (.int .i64 x68) rfl (by kernel_rfl)  (fun w' hw' => y_load rfl ((at_load_int Ag3 Sz3 ha69) w' hw')) hS ?_
   refine x_p 4 (.slice pa0 pn0 pc0) rfl (by kernel_rfl)  (fun _ => y_move rfl) (fun _ => hS) ?_
   refine x_p 5 (.int .i64 k42) rfl (by kernel_rfl)  (fun _ => y_move rfl) (fun _ => hS) ?_
   obtain ⟨x70, hx70, hs⟩ := bind_some hs
   obtain ⟨b71, o71, hp71, ha71⟩ := rs_idx Sl22 Sz3 h0 hx70
   refine x_p 6 (.pointer (some ⟨b71, o71, none⟩)) rfl (by kernel_rfl)  (fun _ => hp71 _ _ _ _ _ _ _ _ _ rfl rfl) (fun _ => hS) ?_
   refine x_l 7 (.int .i64 x70) rfl (by kernel_rfl)  (fun w' hw' => y_load rfl ((at_load_int Ag3 Sz3 ha71) w' hw')) hS ?_
   refine x_p 8 (.bool (x68 != x70)) rfl (by kernel_rfl)  (fun _ => y_neq rfl rfl) (fun _ => hS) ?_
   refine x_p 9 (.bool (x68 != x70)) rfl (by kernel_rfl)  (fun _ => y_move rfl) (fun _ => hS) ?_
   rcases bif_some hs with ⟨hc72, hs⟩ | ⟨hc72, hs⟩
   ·skip
    refine x_pn 10 rfl (by kernel_rfl) (tg := 24) (by kernel_rfl) (congrArg Value.bool hc72) (fun _ => hS) ?_
    refine x_pn 11 rfl (by kernel_rfl) (tg := 24) (by kernel_rfl) (congrArg Value.bool hc72) (fun _ => hS) ?_
    refine x_pn 12 rfl (by kernel_rfl) (tg := 24) (by kernel_rfl) (congrArg Value.bool hc72) (fun _ => hS) ?_
    refine x_pn 13 rfl (by kernel_rfl) (tg := 24) (by kernel_rfl) (congrArg Value.bool hc72) (fun _ => hS) ?_
    refine x_pn 14 rfl (by kernel_rfl) (tg := 24) (by kernel_rfl) (congrArg Value.bool hc72) (fun _ => hS) ?_
    refine x_pn 15 rfl (by kernel_rfl) (tg := 24) (by kernel_rfl) (congrArg Value.bool hc72) (fun _ => hS) ?_
    refine x_pn 16 rfl (by kernel_rfl) (tg := 24) (by kernel_rfl) (congrArg Value.bool hc72) (fun _ => hS) ?_
    refine x_pn 17 rfl (by kernel_rfl) (tg := 24) (by kernel_rfl) (congrArg Value.bool hc72) (fun _ => hS) ?_
    refine x_pn 18 rfl (by kernel_rfl) (tg := 24) (by kernel_rfl) (congrArg Value.bool hc72) (fun _ => hS) ?_
    refine x_p 19 (.bool true) rfl (by kernel_rfl)  (fun _ => y_pick_t (congrArg Value.bool hc72) rfl) (fun _ => hS) ?_
    refine x_end (by kernel_rfl) ?_
    clear hS
    refine c_condT (by rfl) ?_
    refine wp_skip ?_
    refine wp_block ?_
    refine c_region ?_
    refine pl_val (.int .i64 s61) (y_move rfl) ?_
    refine pl_val (.int .i64 (w64 (s61 + 1))) (y_add rfl rfl) ?_
    refine pl_val (.int .i64 (w64 (s61 + 1))) (y_assign rfl) ?_
    refine c_nil ?_
    cases hs
    exact ⟨_, fr_ovl 42 ⟨rfl, rfl, rfl, rfl, rfl, trivial⟩, hC, hO, h0, h1, hv46⟩
   ·skip
    refine x_py 10 (.slice pa1 pn1 pc1) rfl (by kernel_rfl) (tg := 24) (by kernel_rfl) (congrArg Value.bool hc72) (fun _ => y_move rfl) (fun _ => hS) ?_
    refine x_py 11 (.int .i64 s61) rfl (by kernel_rfl) (tg := 24) (by kernel_rfl) (congrArg Value.bool hc72) (fun _ => y_move rfl) (fun _ => hS) ?_
    obtain ⟨x73, hx73, hs⟩ := bind_some hs
    obtain ⟨b74, o74, hp74, ha74⟩ := rs_idx Sl22 Sz3 h1 hx73
    refine x_py 12 (.pointer (some ⟨b74, o74, none⟩)) rfl (by kernel_rfl) (tg := 24) (by kernel_rfl) (congrArg Value.bool hc72) (fun _ => hp74 _ _ _ _ _ _ _ _ _ rfl rfl) (fun _ => hS) ?_
    refine x_ly 13 (.int .i64 x73) rfl (by kernel_rfl) (tg := 24) (by kernel_rfl) (congrArg Value.bool hc72) (fun w' hw' => y_load rfl ((at_load_int Ag3 Sz3 ha74) w' hw')) hS ?_
    refine x_py 14 (.slice pa1 pn1 pc1) rfl (by kernel_rfl) (tg := 24) (by kernel_rfl) (congrArg Value.bool hc72) (fun _ => y_move rfl) (fun _ => hS) ?_
    refine x_py 15 (.int .i64 k42) rfl (by kernel_rfl) (tg := 24) (by kernel_rfl) (congrArg Value.bool hc72) (fun _ => y_move rfl) (fun _ => hS) ?_
    obtain ⟨x75, hx75, hs⟩ := bind_some hs
    obtain ⟨b76, o76, hp76, ha76⟩ := rs_idx Sl22 Sz3 h1 hx75
    refine x_py 16 (.pointer (some ⟨b76, o76, none⟩)) rfl (by kernel_rfl) (tg := 24) (by kernel_rfl) (congrArg Value.bool hc72) (fun _ => hp76 _ _ _ _ _ _ _ _ _ rfl rfl) (fun _ => hS) ?_
    refine x_ly 17 (.int .i64 x75) rfl (by kernel_rfl) (tg := 24) (by kernel_rfl) (congrArg Value.bool hc72) (fun w' hw' => y_load rfl ((at_load_int Ag3 Sz3 ha76) w' hw')) hS ?_
    refine x_py 18 (.bool (x73 != x75)) rfl (by kernel_rfl) (tg := 24) (by kernel_rfl) (congrArg Value.bool hc72) (fun _ => y_neq rfl rfl) (fun _ => hS) ?_
    refine x_p 19 (.bool (x73 != x75)) rfl (by kernel_rfl)  (fun _ => y_pick_f (congrArg Value.bool hc72) rfl) (fun _ => hS) ?_
    refine x_end (by kernel_rfl) ?_
    clear hS
    rcases bif_some hs with ⟨hc77, hs⟩ | ⟨hc77, hs⟩
    ·skip
     refine c_condT (congrArg Value.bool hc77) ?_
     refine wp_skip ?_
     refine wp_block ?_
     refine c_region ?_
     refine pl_val (.int .i64 s61) (y_move rfl) ?_
     refine pl_val (.int .i64 (w64 (s61 + 1))) (y_add rfl rfl) ?_
     refine pl_val (.int .i64 (w64 (s61 + 1))) (y_assign rfl) ?_
     refine c_nil ?_
     cases hs
     exact ⟨_, fr_ovl 42 ⟨rfl, rfl, rfl, rfl, rfl, trivial⟩, hC, hO, h0, h1, hv46⟩
    ·skip
     refine c_condF (congrArg Value.bool hc77) ?_
     refine wp_exit ?_
     cases hs
     exact ⟨rfl, _, fr_ovl 42 ⟨rfl, rfl, rfl, rfl, rfl, trivial⟩, hC, hO, h0, h1, hv46⟩
  ·skip
   exact ⟨_, fr_ovl 42 ⟨rfl, rfl, rfl, rfl, rfl, trivial⟩, hC, hO, h0, h1, hv46⟩
  ·cases o65 with
   | nx _ => exact True.intro
   | rt r_ =>
    have hs := after_rt hs
    intro a1 w1 hK
    cases hs
    exact hK
   | br s61 =>
    have hs := after_br hs
    rintro a1 w62 ⟨σ, rfl, hC, hO, h0, h1, hv46⟩
    refine c_region ?_
    refine pl_val (.slice a46 n46 c46) (y_move rfl) ?_
    refine pl_val (.int .i64 s61) (y_move rfl) ?_
    obtain ⟨w78, g78, ew78, eg78, hC78, hb78⟩ := new_block w62 [(.int .i64 s61)] 3
    refine pl_val (w' := w78) (.slice (some ⟨g78, 0, none⟩) 1 1) (y_bslice rfl (by rw [ew78, eg78]; kernel_rfl)) ?_
    have h0 := h0.ext hC78
    have h1 := h1.ext hC78
    have hv46 := hv46.ext hC78
    have hC := hC.ext hC78
    have hO := hO.new1 hC78 eg78 hb78.lt
    have hv78 := os_of_box (r := (RT.int .i64)) (M := M) (css := [[(.int .i64 s61)]]) (fps := [([] : List Nat)]) (xs := ([s61] : List Int)) hb78 ⟨⟨rfl, rfl⟩, trivial⟩ (Nat.le_of_ble_eq_true rfl) (List.nodup_cons.2 ⟨(fun h => nomatch h), List.nodup_nil⟩)
    have hv78 : (RT.os 3 (RT.int .i64)).val M w78 (.slice (some ⟨g78, 0, none⟩) 1 1) [s61] [g78] := hv78
    obtain ⟨y81, hy81, hs⟩ := bind_some hs
    have hO := hO.fr1
    obtain ⟨a80, n80, c80, w80, f80, hr80, hC80, hf80, hv80⟩ := app_os Rw22 hy81 hv46 hv78 hO.inM (fun g hg hq => hO.apart g hq (mem_l hg))
    have hG80 := os_block hv46
    refine pl_val (w' := w80) (.slice a80 n80 c80) (y_append rfl rfl (hr80 _)) ?_
    have hO := hO.fr1
    have hO := hO.fr1
    have h0 := h0.mut hC80 (fun g hg => hO.inM g (hG80 g hg)) (fun _ _ h => nomatch h)
    have h1 := h1.mut hC80 (fun g hg => hO.inM g (hG80 g hg)) (fun _ _ h => nomatch h)
    have hC := hC.step hC80 (fun g hg => hO.inN g (hG80 g hg))
    have hO := hO.eat hC80 hf80 (os_nodup hv80) hv80.fpl
    refine pl_val (.slice a80 n80 c80) (y_assign rfl) ?_
    refine c_nil ?_
    refine c_region ?_
    refine pl_val (.int .i64 k42) (y_move rfl) ?_
    refine pl_val (.int .i64 (w64 (k42 + 1))) (y_add rfl rfl) ?_
    refine pl_val (.int .i64 (w64 (k42 + 1))) (y_assign rfl) ?_
    refine c_nil ?_
    cases hs
    exact ⟨_, a80, n80, c80, f80, fr_ovl 42 ⟨rfl, rfl, rfl, congrArg (Value.int .i64) hw, trivial⟩, hC, hO, h0, h1, hv80⟩
 ·skip
  exact ⟨_, (some ⟨g3, 0, none⟩), 0, 0, ([g3]), fr_ovl 42 ⟨rfl, rfl, rfl, rfl, trivial⟩, hC, hO, h0, h1, hv3⟩
 ·cases o44 with
  | nx _ => exact True.intro
  | rt r_ =>
   have hs := after_rt hs
   intro a1 w1 hK
   cases hs
   exact hK
  | br s40 =>
   have hs := after_br hs
   rintro a1 w41 ⟨σ, a48, n48, c48, f48, rfl, hC, hO, h0, h1, hv48⟩
   refine c_seq (c_region ?_)
   refine pl_val (.slice a48 n48 c48) (y_move rfl) ?_
   refine pl_val (.slice a48 n48 c48) (y_assign rfl) ?_
   refine c_nil ?_
   refine wp_ret ?_
   cases hs
   exact ⟨_, a48, n48, c48, f48, fr_ovl 42 ⟨rfl, trivial⟩, hC, hv48, hO.top⟩

def k_spec_l6Full (M : Nat → Prop) (w0 : World) (r : (List Int)) (a : Act) (w : World) : Prop :=
  ∃ (σ : Nat → Value) (ra0 : Option Addr) (rn0 rc0 : Nat) (rf0 : List Nat), a = fr 5 (ovl σ [(2, (.slice ra0 rn0 rc0))]) ∧ Chg [] w0 w ∧ (RT.os 3 (RT.int .i64)).val M w (.slice ra0 rn0 rc0) r rf0 ∧ Own (Nw w0 []) (fun _ => True) w (rf0 ++ ([]))
def s_spec_l6Full (n : Int) : Option ((List Int)) :=
  (mks n (0 : Int)).bind fun y2 =>
  some y2
set_option maxHeartbeats 4000000 in
theorem c_spec_l6Full {M : Nat → Prop} {w : World}  (n : Int)  (hM : ∀ g, w.heap.size ≤ g → M g) {r : (List Int)} (hs : s_spec_l6Full n = some r) :
    Gives Try.prog 96 [(.int .i64 n)] w (fun v w' => ∃ (ra0 : Option Addr) (rn0 rc0 : Nat) (rf0 : List Nat), v = (.slice ra0 rn0 rc0) ∧ Chg [] w w' ∧ (RT.os 3 (RT.int .i64)).val M w' (.slice ra0 rn0 rc0) r rf0 ∧ Own (Nw w []) (fun _ => True) w' (rf0 ++ ([]))) := by
 refine calls_fr Try.func96 rfl Try.ntmps96 (Nat.le_of_ble_eq_true rfl) ?_
 have hO := Own.start (N := Nw w []) hM Nw.fut
 have hC := Chg.refl [] w
 unfold s_spec_l6Full at hs
 refine wp_mono (Q := KPost (k_spec_l6Full M w r)) ?_ (fun e a w1 h => ?_)
 rotate_left
 ·cases e
  case ret =>
   obtain ⟨σ, ra0, rn0, rc0, rf0, rfl, hrest⟩ := h
   exact ret1x Try.results96 (res_tmp rfl) ⟨ra0, rn0, rc0, rf0, rfl, hrest⟩
  all_goals exact (h : False).elim
 refine c_seq (c_region ?_)
 refine pl_val (.slice none 0 0) (y_assign rfl) ?_
 refine c_nil ?_
 refine c_seq (c_region ?_)
 refine pl_val (.int .i64 n) (y_move rfl) ?_
 obtain ⟨y2, hy2, hs⟩ := bind_some hs
 obtain ⟨a1, n1, c1, w1, f1, hm1, hC1, hfr1, hv1⟩ := mk_os (M := M) (w := w) (r := (RT.int .i64)) Rw22 hy2 (fun _ _ => ⟨rfl, rfl⟩)
 refine pl_val (w' := w1) (.slice a1 n1 c1) (y_make rfl rfl hm1) ?_
 have hC := hC.ext hC1
 have hO := hO.new hC1 hfr1 (os_nodup hv1) hv1.fpl
 refine pl_val (.slice a1 n1 c1) (y_assign rfl) ?_
 refine c_nil ?_
 refine wp_ret ?_
 cases hs
 exact ⟨_, a1, n1, c1, f1, fr_ovl 5 ⟨rfl, trivial⟩, hC, hv1, hO.top⟩

theorem Bd87 : Bodied Try.prog 87 := bodied Try.func87 (by kernel_rfl) rfl

theorem Bd96 : Bodied Try.prog 96 := bodied Try.func96 (by kernel_rfl) rfl

def k_spec_l16Complements (M : Nat → Prop) (w0 : World) (r : Bool) (a : Act) (w : World) : Prop :=
  ∃ (σ : Nat → Value) , a = fr 21 (ovl σ [(4, (.bool r))]) ∧ Chg [] w0 w
def s_spec_l16Complements (p : List Int) (q : List Int) : Option (Bool) :=
  (s_spec_l6Meet p q).bind fun r4 =>
  (s_spec_l6Identity (p.length : Int)).bind fun r7 =>
  (s_spec_l1Same r4 r7).bind fun r10 =>
  (bif r10 then (s_spec_l6Join p q).bind fun r13 =>
  (s_spec_l6Full (p.length : Int)).bind fun r16 =>
  (s_spec_l1Same r13 r16).bind fun r19 =>
  some r19 else some false)
set_option maxHeartbeats 4000000 in
theorem c_spec_l16Complements {M : Nat → Prop} {w : World} {pa0 : Option Addr} {pn0 pc0 : Nat} {pa1 : Option Addr} {pn1 pc1 : Nat} (p : List Int) (q : List Int) (h0 : (RT.rs (RT.int .i64)).val M w (.slice pa0 pn0 pc0) p ([])) (h1 : (RT.rs (RT.int .i64)).val M w (.slice pa1 pn1 pc1) q ([])) (hM : ∀ g, w.heap.size ≤ g → M g) {r : Bool} (hs : s_spec_l16Complements p q = some r) :
    Gives Try.prog 64 [(.slice pa0 pn0 pc0), (.slice pa1 pn1 pc1)] w (fun v w' => v = (.bool r) ∧ Chg [] w w') := by
 refine calls_fr Try.func64 rfl Try.ntmps64 (Nat.le_of_ble_eq_true rfl) ?_
 have hO := Own.start (N := Nw w []) hM Nw.fut
 have hC := Chg.refl [] w
 unfold s_spec_l16Complements at hs
 refine wp_mono (Q := KPost (k_spec_l16Complements M w r)) ?_ (fun e a w1 h => ?_)
 rotate_left
 ·cases e
  case ret =>
   obtain ⟨σ, rfl, hrest⟩ := h
   exact ret1x Try.results64 (res_tmp rfl) ⟨rfl, hrest⟩
  all_goals exact (h : False).elim
 refine c_seq (c_region ?_)
 refine pl_val (.bool false) (y_assign rfl) ?_
 refine c_nil ?_
 refine c_seq (c_region ?_)
 refine pl_val (.slice pa0 pn0 pc0) (y_move rfl) ?_
 refine pl_val (.slice pa1 pn1 pc1) (y_move rfl) ?_
 obtain ⟨r4, hr4, hs⟩ := bind_some hs
 refine pl_call Bd87 rfl (c_spec_l6Meet (M := M) p q h0 h1 hO.fut hr4) ?_
 rintro _ w3 ⟨a3x0, n3x0, c3x0, f3x0, rfl, hC3, hv3x0, hOc3⟩
 have h0 := h0.ext hC3
 have h1 := h1.ext hC3
 have hC := hC.ext hC3
 have hO := Own.join0 hO hC3 hOc3
 have hO := hO.perm (R := f3x0 ++ ([])) (by simp)
 refine pl_val (.slice pa0 pn0 pc0) (y_move rfl) ?_
 refine pl_val (.int .i64 (p.length : Int)) (y_len' Sl22 (rs_len h0) rfl) ?_
 obtain ⟨r7, hr7, hs⟩ := bind_some hs
 refine pl_call Bd95 rfl (c_spec_l6Identity (M := M) (p.length : Int)  hO.fut hr7) ?_
 rintro _ w6 ⟨a6x0, n6x0, c6x0, f6x0, rfl, hC6, hv6x0, hOc6⟩
 have h0 := h0.ext hC6
 have h1 := h1.ext hC6
 have hv3x0 := hv3x0.ext hC6
 have hC := hC.ext hC6
 have hO := Own.join0 hO hC6 hOc6
 have hO := hO.perm (R := f6x0 ++ (f3x0 ++ ([]))) (by simp)
 have hO := hO.fr1
 obtain ⟨r10, hr10, hs⟩ := bind_some hs
 refine pl_call Bd86 rfl (c_spec_l1Same (M := (Less (Less M f3x0) f6x0)) r4 r7 ((((Frz.os Frz.int)).val hv3x0 Less.sub Less.not).sub Less.sub) (((Frz.os Frz.int)).val (hv6x0.sub Less.sub) Less.sub Less.not) (hO.less).less.fut hr10) ?_
 rintro _ w9 ⟨rfl, hC9⟩
 have h0 := h0.ext hC9
 have h1 := h1.ext hC9
 have hv3x0 := hv3x0.ext hC9
 have hv6x0 := hv6x0.ext hC9
 have hC := hC.ext hC9
 have hO := hO.ext hC9
 refine pl_val (.bool r10) (y_move rfl) ?_
 rcases bif_some hs with ⟨hc11, hs⟩ | ⟨hc11, hs⟩
 ·skip
  refine pl_yes (.slice pa0 pn0 pc0) (tg := 12) (by kernel_rfl) (congrArg Value.bool hc11) (y_move rfl) ?_
  refine pl_yes (.slice pa1 pn1 pc1) (tg := 12) (by kernel_rfl) (congrArg Value.bool hc11) (y_move rfl) ?_
  obtain ⟨r13, hr13, hs⟩ := bind_some hs
  refine pl_cally (tg := 12) (by kernel_rfl) (congrArg Value.bool hc11) Bd72 rfl (c_spec_l6Join (M := M) p q h0 h1 hO.fut hr13) ?_
  rintro _ w12 ⟨a12x0, n12x0, c12x0, f12x0, rfl, hC12, hv12x0, hOc12⟩
  have h0 := h0.ext hC12
  have h1 := h1.ext hC12
  have hv3x0 := hv3x0.ext hC12
  have hv6x0 := hv6x0.ext hC12
  have hC := hC.ext hC12
  have hO := Own.join0 hO hC12 hOc12
  have hO := hO.perm (R := f12x0 ++ (f3x0 ++ (f6x0 ++ ([])))) (by simp)
  refine pl_yes (.slice pa0 pn0 pc0) (tg := 12) (by kernel_rfl) (congrArg Value.bool hc11) (y_move rfl) ?_
  refine pl_yes (.int .i64 (p.length : Int)) (tg := 12) (by kernel_rfl) (congrArg Value.bool hc11) (y_len' Sl22 (rs_len h0) rfl) ?_
  obtain ⟨r16, hr16, hs⟩ := bind_some hs
  refine pl_cally (tg := 12) (by kernel_rfl) (congrArg Value.bool hc11) Bd96 rfl (c_spec_l6Full (M := M) (p.length : Int)  hO.fut hr16) ?_
  rintro _ w15 ⟨a15x0, n15x0, c15x0, f15x0, rfl, hC15, hv15x0, hOc15⟩
  have h0 := h0.ext hC15
  have h1 := h1.ext hC15
  have hv3x0 := hv3x0.ext hC15
  have hv6x0 := hv6x0.ext hC15
  have hv12x0 := hv12x0.ext hC15
  have hC := hC.ext hC15
  have hO := Own.join0 hO hC15 hOc15
  have hO := hO.perm (R := f15x0 ++ (f12x0 ++ (f3x0 ++ (f6x0 ++ ([]))))) (by simp)
  have hO := hO.fr1
  obtain ⟨r19, hr19, hs⟩ := bind_some hs
  refine pl_cally (tg := 12) (by kernel_rfl) (congrArg Value.bool hc11) Bd86 rfl (c_spec_l1Same (M := (Less (Less M f12x0) f15x0)) r13 r16 ((((Frz.os Frz.int)).val hv12x0 Less.sub Less.not).sub Less.sub) (((Frz.os Frz.int)).val (hv15x0.sub Less.sub) Less.sub Less.not) (hO.less).less.fut hr19) ?_
  rintro _ w18 ⟨rfl, hC18⟩
  have h0 := h0.ext hC18
  have h1 := h1.ext hC18
  have hv3x0 := hv3x0.ext hC18
  have hv6x0 := hv6x0.ext hC18
  have hv12x0 := hv12x0.ext hC18
  have hv15x0 := hv15x0.ext hC18
  have hC := hC.ext hC18
  have hO := hO.ext hC18
  refine pl_val (.bool r19) (y_pick_t (congrArg Value.bool hc11) rfl) ?_
  refine pl_val (.bool r19) (y_assign rfl) ?_
  refine c_nil ?_
  refine wp_ret ?_
  cases hs
  exact ⟨_, fr_ovl 21 ⟨rfl, trivial⟩, hC⟩
 ·skip
  refine pl_not (tg := 12) (by kernel_rfl) (congrArg Value.bool hc11) ?_
  refine pl_not (tg := 12) (by kernel_rfl) (congrArg Value.bool hc11) ?_
  refine pl_not (tg := 12) (by kernel_rfl) (congrArg Value.bool hc11) ?_
  refine pl_not (tg := 12) (by kernel_rfl) (congrArg Value.bool hc11) ?_
  refine pl_not (tg := 12) (by kernel_rfl) (congrArg Value.bool hc11) ?_
  refine pl_not (tg := 12) (by kernel_rfl) (congrArg Value.bool hc11) ?_
  refine pl_not (tg := 12) (by kernel_rfl) (congrArg Value.bool hc11) ?_
  refine pl_val (.bool false) (y_pick_f (congrArg Value.bool hc11) rfl) ?_
  refine pl_val (.bool false) (y_assign rfl) ?_
  refine c_nil ?_
  refine wp_ret ?_
  cases hs
  exact ⟨_, fr_ovl 21 ⟨rfl, trivial⟩, hC⟩

theorem Bd49 : Bodied Try.prog 49 := bodied Try.func49 (by kernel_rfl) rfl

theorem Bd63 : Bodied Try.prog 63 := bodied Try.func63 (by kernel_rfl) rfl

theorem Bd64 : Bodied Try.prog 64 := bodied Try.func64 (by kernel_rfl) rfl

def k_spec_ComplementsOf (M : Nat → Prop) (w0 : World) (r : (List (List Int)) × Bool) (a : Act) (w : World) : Prop :=
  ∃ (σ : Nat → Value) (ra0 : Option Addr) (rn0 rc0 : Nat), a = fr 52 (ovl σ [(4, (.slice ra0 rn0 rc0)), (5, (.bool r.2))]) ∧ Chg [] w0 w ∧ (RT.rs (RT.rs (RT.int .i64))).val (Past M w0 w) w (.slice ra0 rn0 rc0) r.1 []
def s_spec_ComplementsOf (a_ : Int × (List (Int × (List Int)))) (p : List Int) : Option ((List (List Int)) × Bool) :=
  (s_spec_l16All (a_.1, a_.2)).bind fun r7 =>
  ((bif (!r7.2) then some true else (s_spec_l6Partition a_.1 p).bind fun r14 =>
  (bif (!r14) then some true else (s_spec_l6Is (a_.1, a_.2) p).bind fun r17 =>
  some (!r17)))).bind fun s9 =>
  (bif s9 then some ([], false) else (forC (S := (List (List Int))) (R := (List (List Int)) × Bool) (fun k61 s59 =>
  (idx r7.1 k61).bind fun x71 =>
  (s_spec_l16Complements p x71).bind fun r76 =>
  (bif r76 then (idx r7.1 k61).bind fun x78 =>
  (app s59 ([x78])).bind fun y85 =>
  some (.nx y85) else some (.nx s59))) 0 (r7.1.length : Int) ([])).bind fun o63 => after o63 (fun r_ => some r_) (fun s59 =>
  some (s59, true)))
set_option maxHeartbeats 4000000 in
theorem c_spec_ComplementsOf {M : Nat → Prop} {w : World} {pa0 : Option Addr} {pn0 pc0 : Nat} {pa1 : Option Addr} {pn1 pc1 : Nat} (a_ : Int × (List (Int × (List Int)))) (p : List Int) (h0 : (RT.rs (RT.pr (RT.int .i64) (RT.rs (RT.int .i64)))).val M w (.slice pa0 pn0 pc0) a_.2 ([])) (h1 : (RT.rs (RT.int .i64)).val M w (.slice pa1 pn1 pc1) p ([])) (hM : ∀ g, w.heap.size ≤ g → M g) {r : (List (List Int)) × Bool} (hs : s_spec_ComplementsOf a_ p = some r) :
    Gives Try.prog 28 [(.agg #[(.int .i64 a_.1), (.slice pa0 pn0 pc0)]), (.slice pa1 pn1 pc1)] w (fun v w' => ∃ (ra0 : Option Addr) (rn0 rc0 : Nat), v = (.tuple #[(.slice ra0 rn0 rc0), (.bool r.2)]) ∧ Chg [] w w' ∧ (RT.rs (RT.rs (RT.int .i64))).val (Past M w w') w' (.slice ra0 rn0 rc0) r.1 []) := by
 refine calls_fr Try.func28 rfl Try.ntmps28 (Nat.le_of_ble_eq_true rfl) ?_
 have hO := Own.start (N := Nw w []) hM Nw.fut
 have hC := Chg.refl [] w
 unfold s_spec_ComplementsOf at hs
 refine wp_mono (Q := KPost (k_spec_ComplementsOf M w r)) ?_ (fun e a w1 h => ?_)
 rotate_left
 ·cases e
  case ret =>
   obtain ⟨σ, ra0, rn0, rc0, rfl, hrest⟩ := h
   exact ret2x Try.results28 (res_tmp rfl) (res_tmp rfl) ⟨ra0, rn0, rc0, rfl, hrest⟩
  all_goals exact (h : False).elim
 refine c_seq (c_region ?_)
 obtain ⟨w3, g3, ew3, eg3, hC3, hb3⟩ := new_block w [(.int .i64 a_.1), (.slice pa0 pn0 pc0)] 35
 refine pl_val (w' := w3) (.pointer (some ⟨g3, 0, none⟩)) (y_box rfl (by rw [ew3, eg3]; kernel_rfl)) ?_
 have h0 := h0.ext hC3
 have h1 := h1.ext hC3
 have hC := hC.ext hC3
 have hO := hO.new1 hC3 eg3 hb3.lt
 refine pl_val (.slice none 0 0) (y_assign rfl) ?_
 refine pl_val (.bool false) (y_assign rfl) ?_
 refine c_nil ?_
 refine c_seq (c_region ?_)
 obtain ⟨w4, g4, ew4, eg4, hC4, hb4⟩ := new_block w3 [] 22
 refine pl_val (w' := w4) (.slice (some ⟨g4, 0, none⟩) 0 0) (y_bslice rfl (by rw [ew4, eg4]; kernel_rfl)) ?_
 have h0 := h0.ext hC4
 have h1 := h1.ext hC4
 have hb3 := hb3.chg hC4 (fun h => nomatch h)
 have hC := hC.ext hC4
 have hO := hO.new1 hC4 eg4 hb4.lt
 have hv4 := os_of_box (r := (RT.os 3 (RT.int .i64))) (M := M) (css := []) (fps := []) (xs := ([] : List (List Int))) hb4 trivial (Nat.zero_le _) (List.nodup_cons.2 ⟨(fun h => nomatch h), List.nodup_nil⟩)
 have hv4 : (RT.os 22 (RT.os 3 (RT.int .i64))).val M w4 (.slice (some ⟨g4, 0, none⟩) 0 0) [] [g4] := hv4
 refine pl_val (.slice (some ⟨g4, 0, none⟩) 0 0) (y_assign rfl) ?_
 refine c_nil ?_
 refine c_seq (c_region ?_)
 refine pl_val (.agg #[(.int .i64 a_.1), (.slice pa0 pn0 pc0)]) (y_load rfl ((box_load Ag35 Sz35 hb3 [] [(.int .i64 a_.1), (.slice pa0 pn0 pc0)] [] rfl rfl (fun h => nomatch h)) _ (Chg.refl _ _))) ?_
 obtain ⟨r7, hr7, hs⟩ := bind_some hs
 refine pl_call Bd49 rfl (c_spec_l16All (M := M) (a_.1, a_.2) h0 hO.fut hr7) ?_
 rintro _ w6 ⟨a6x0, n6x0, c6x0, rfl, hC6, hv6x0⟩
 have hK := (show Keeps w M (Past M w4 w6) from Keeps.past hC.size)
 have h0 := h0.ext hC6
 have h1 := h1.ext hC6
 have hb3 := hb3.chg hC6 (fun h => nomatch h)
 have hv4 := hv4.ext hC6
 have hC := hC.ext hC6
 have hO := hO.past hC6
 have h0 := h0.sub (M' := (Past M w4 w6)) (fun g hg => .inl hg.1)
 have h1 := h1.sub (M' := (Past M w4 w6)) (fun g hg => .inl hg.1)
 have hv4 := hv4.sub (M' := (Past M w4 w6)) (fun g hg => .inl hg.1)
 refine pl_val (.tuple #[(.slice a6x0 n6x0 c6x0), (.bool r7.2)]) (y_move rfl) ?_
 refine pl_val (.slice a6x0 n6x0 c6x0) (y_extract rfl (by kernel_rfl)) ?_
 refine pl_val (.bool r7.2) (y_extract rfl (by kernel_rfl)) ?_
 refine pl_val (.slice a6x0 n6x0 c6x0) (y_assign rfl) ?_
 refine pl_val (.bool r7.2) (y_assign rfl) ?_
 refine c_nil ?_
 refine c_seq ?_
 refine c_seq ?_
 obtain ⟨s9, hm11, hs⟩ := bind_some hs
 refine c_mid (I := fun a w10 => ∃ (σ : Nat → Value), a = fr 52 (ovl σ [(1, (.slice pa1 pn1 pc1)), (4, (.slice none 0 0)), (5, (.bool false)), (6, (.slice (some ⟨g4, 0, none⟩) 0 0)), (7, (.slice a6x0 n6x0 c6x0)), (30, (.bool s9))]) ∧ Chg [] w6 w10) ?_ ?_
 ·replace hs := hm11
  have hMid := Chg.refl [] w6
  refine c_region ?_
  refine pl_val (.bool r7.2) (y_move rfl) ?_
  refine pl_val (.bool (!r7.2)) (y_not rfl) ?_
  refine pl_val (.bool (!r7.2)) (y_move rfl) ?_
  rcases bif_some hs with ⟨hc12, hs⟩ | ⟨hc12, hs⟩
  ·skip
   refine pl_not (tg := 18) (by kernel_rfl) (congrArg Value.bool hc12) ?_
   refine pl_not (tg := 18) (by kernel_rfl) (congrArg Value.bool hc12) ?_
   refine pl_not (tg := 18) (by kernel_rfl) (congrArg Value.bool hc12) ?_
   refine pl_not (tg := 18) (by kernel_rfl) (congrArg Value.bool hc12) ?_
   refine pl_not (tg := 18) (by kernel_rfl) (congrArg Value.bool hc12) ?_
   refine pl_val (.bool true) (y_pick_t (congrArg Value.bool hc12) rfl) ?_
   refine pl_val (.bool true) (y_move rfl) ?_
   refine pl_not (tg := 25) (by kernel_rfl) (by rfl) ?_
   refine pl_not (tg := 25) (by kernel_rfl) (by rfl) ?_
   refine pl_not (tg := 25) (by kernel_rfl) (by rfl) ?_
   refine pl_not (tg := 25) (by kernel_rfl) (by rfl) ?_
   refine pl_val (.bool true) (y_pick_t (by rfl) rfl) ?_
   refine c_nil ?_
   cases hs
   exact ⟨_, fr_ovl 52 ⟨rfl, rfl, rfl, rfl, rfl, rfl, trivial⟩, hMid⟩
  ·skip
   refine pl_yes (.pointer (some ⟨g3, 0, none⟩)) (tg := 18) (by kernel_rfl) (congrArg Value.bool hc12) (y_faddr rfl Fa35x0) ?_
   refine pl_yes (.int .i64 a_.1) (tg := 18) (by kernel_rfl) (congrArg Value.bool hc12) (y_load rfl ((box_load Ag3 Sz3 hb3 [] [(.int .i64 a_.1)] [(.slice pa0 pn0 pc0)] rfl rfl (fun _ => rfl)) _ (Chg.refl _ _))) ?_
   refine pl_yes (.slice pa1 pn1 pc1) (tg := 18) (by kernel_rfl) (congrArg Value.bool hc12) (y_move rfl) ?_
   obtain ⟨r14, hr14, hs⟩ := bind_some hs
   refine pl_cally (tg := 18) (by kernel_rfl) (congrArg Value.bool hc12) Bd62 rfl (c_spec_l6Partition (M := (Past M w4 w6)) a_.1 p h1 hO.fut hr14) ?_
   rintro _ w13 ⟨rfl, hC13⟩
   have h0 := h0.ext hC13
   have h1 := h1.ext hC13
   have hb3 := hb3.chg hC13 (fun h => nomatch h)
   have hv4 := hv4.ext hC13
   have hv6x0 := hv6x0.ext hC13
   have hMid := hMid.ext hC13
   have hC := hC.ext hC13
   have hO := hO.ext hC13
   refine pl_yes (.bool (!r14)) (tg := 18) (by kernel_rfl) (congrArg Value.bool hc12) (y_not rfl) ?_
   refine pl_val (.bool (!r14)) (y_pick_f (congrArg Value.bool hc12) rfl) ?_
   refine pl_val (.bool (!r14)) (y_move rfl) ?_
   rcases bif_some hs with ⟨hc15, hs⟩ | ⟨hc15, hs⟩
   ·skip
    refine pl_not (tg := 25) (by kernel_rfl) (congrArg Value.bool hc15) ?_
    refine pl_not (tg := 25) (by kernel_rfl) (congrArg Value.bool hc15) ?_
    refine pl_not (tg := 25) (by kernel_rfl) (congrArg Value.bool hc15) ?_
    refine pl_not (tg := 25) (by kernel_rfl) (congrArg Value.bool hc15) ?_
    refine pl_val (.bool true) (y_pick_t (congrArg Value.bool hc15) rfl) ?_
    refine c_nil ?_
    cases hs
    exact ⟨_, fr_ovl 52 ⟨rfl, rfl, rfl, rfl, rfl, rfl, trivial⟩, hMid⟩
   ·skip
    refine pl_yes (.agg #[(.int .i64 a_.1), (.slice pa0 pn0 pc0)]) (tg := 25) (by kernel_rfl) (congrArg Value.bool hc15) (y_load rfl ((box_load Ag35 Sz35 hb3 [] [(.int .i64 a_.1), (.slice pa0 pn0 pc0)] [] rfl rfl (fun h => nomatch h)) _ (Chg.refl _ _))) ?_
    refine pl_yes (.slice pa1 pn1 pc1) (tg := 25) (by kernel_rfl) (congrArg Value.bool hc15) (y_move rfl) ?_
    obtain ⟨r17, hr17, hs⟩ := bind_some hs
    refine pl_cally (tg := 25) (by kernel_rfl) (congrArg Value.bool hc15) Bd63 rfl (c_spec_l6Is (M := (Past M w4 w6)) (a_.1, a_.2) p h0 h1 hO.fut hr17) ?_
    rintro _ w16 ⟨rfl, hC16⟩
    have h0 := h0.ext hC16
    have h1 := h1.ext hC16
    have hb3 := hb3.chg hC16 (fun h => nomatch h)
    have hv4 := hv4.ext hC16
    have hv6x0 := hv6x0.ext hC16
    have hMid := hMid.ext hC16
    have hC := hC.ext hC16
    have hO := hO.ext hC16
    refine pl_yes (.bool (!r17)) (tg := 25) (by kernel_rfl) (congrArg Value.bool hc15) (y_not rfl) ?_
    refine pl_val (.bool (!r17)) (y_pick_f (congrArg Value.bool hc15) rfl) ?_
    refine c_nil ?_
    cases hs
    exact ⟨_, fr_ovl 52 ⟨rfl, rfl, rfl, rfl, rfl, rfl, trivial⟩, hMid⟩
 ·rintro a1 w10 ⟨σ, rfl, hCs9⟩
  have h1 := h1.ext hCs9
  have hb3 := hb3.chg hCs9 (fun h => nomatch h)
  have hv4 := hv4.ext hCs9
  have hv6x0 := hv6x0.ext hCs9
  have hC := hC.ext hCs9
  have hO := hO.ext hCs9
  rcases bif_some hs with ⟨hc18, hs⟩ | ⟨hc18, hs⟩
  ·skip
   refine c_condT (congrArg Value.bool hc18) ?_
   refine c_seq (c_region ?_)
   refine pl_val (.slice (some ⟨g4, 0, none⟩) 0 0) (y_move rfl) ?_
   refine pl_val (.slice (some ⟨g4, 0, none⟩) 0 0) (y_assign rfl) ?_
   refine pl_val (.bool false) (y_assign rfl) ?_
   refine c_nil ?_
   refine wp_ret ?_
   cases hs
   obtain ⟨M19, eM19, hs19, hk19, hO, hv19⟩ := frz_own (Frz.os (Frz.os Frz.int)) hv4 hO
   have h1 := h1.sub (M' := M19) hs19
   have hv6x0 := hv6x0.sub (M' := M19) hs19
   have hK := hK.trans hk19
   exact ⟨_, (some ⟨g4, 0, none⟩), 0, 0, fr_ovl 52 ⟨rfl, rfl, trivial⟩, hC, (Keeps.out hK hv19)⟩
  ·skip
   refine c_condF (congrArg Value.bool hc18) ?_
   refine wp_skip ?_
   refine c_seq ?_
   refine c_seq (c_region ?_)
   refine pl_val (.int .i64 0) (y_assign rfl) ?_
   refine c_nil ?_
   have hO := hO.fr1
   have hO := hO.drop
   obtain ⟨M58, f58, hs58, hk58, hO, hv58⟩ := os_inner (Frz.os Frz.int) hv4 hO
   have h1 := h1.sub (M' := M58) hs58
   have hv6x0 := hv6x0.sub (M' := M58) hs58
   have hK := hK.trans hk58
   obtain ⟨o63, hl64, hs⟩ := bind_some hs
   refine wp_block ?_
   refine wp_forC (id := 0) (r7.1.length : Int) (I := fun k61 s59 a w60 => ∃ (σ : Nat → Value) (M65 : Nat → Prop) (a66 : Option Addr) (n66 : Nat) (c66 : Nat) (f66 : List Nat), a = fr 52 (ovl σ [(1, (.slice pa1 pn1 pc1)), (6, (.slice a66 n66 c66)), (7, (.slice a6x0 n6x0 c6x0)), (9, (.int .i64 k61))]) ∧ Chg [] w w60 ∧ Own (Nw w []) M65 w60 (f66 ++ []) ∧ Keeps w M M65 ∧ (RT.rs (RT.int .i64)).val M65 w60 (.slice pa1 pn1 pc1) p ([]) ∧ (RT.rs (RT.rs (RT.int .i64))).val M65 w60 (.slice a6x0 n6x0 c6x0) r7.1 ([]) ∧ (RT.os 22 (RT.rs (RT.int .i64))).val M65 w60 (.slice a66 n66 c66) s59 f66) (J := fun s59 a w60 => ∃ (σ : Nat → Value) (M68 : Nat → Prop) (a69 : Option Addr) (n69 : Nat) (c69 : Nat) (f69 : List Nat), a = fr 52 (ovl σ [(6, (.slice a69 n69 c69))]) ∧ Chg [] w w60 ∧ Own (Nw w []) M68 w60 (f69 ++ []) ∧ Keeps w M M68 ∧ (RT.rs (RT.int .i64)).val M68 w60 (.slice pa1 pn1 pc1) p ([]) ∧ (RT.rs (RT.rs (RT.int .i64))).val M68 w60 (.slice a6x0 n6x0 c6x0) r7.1 ([]) ∧ (RT.os 22 (RT.rs (RT.int .i64))).val M68 w60 (.slice a69 n69 c69) s59 f69) (K := (k_spec_ComplementsOf M w)) ?_ ?_ 0 ([]) o63 _ _ ?_ hl64 ?_
   ·rintro k61 s59 a w60 ⟨σ, M65, a66, n66, c66, f66, rfl, hC, hO, hK, h1, hv6x0, hv66⟩ hlt
    refine c_seq ?_
    refine c_seq (c_region ?_)
    refine pl_val (.int .i64 k61) (y_move rfl) ?_
    refine pl_val (.slice a6x0 n6x0 c6x0) (y_move rfl) ?_
    refine pl_val (.int .i64 (r7.1.length : Int)) (y_len' Sl41 (rs_len hv6x0) rfl) ?_
    refine pl_val (.bool (decide (k61 < (r7.1.length : Int)))) (y_lss rfl rfl) ?_
    refine c_nil ?_
    refine c_condF (congrArg Value.bool (decide_eq_false hlt)) ?_
    refine wp_exit ?_
    exact ⟨rfl, _, M65, a66, n66, c66, f66, fr_ovl 52 ⟨rfl, trivial⟩, hC, hO, hK, h1, hv6x0, hv66⟩
   ·rintro k61 s59 o63 a w60 ⟨σ, M65, a66, n66, c66, f66, rfl, hC, hO, hK, h1, hv6x0, hv66⟩ hlt hw hs
    refine c_seq ?_
    refine c_seq (c_region ?_)
    refine pl_val (.int .i64 k61) (y_move rfl) ?_
    refine pl_val (.slice a6x0 n6x0 c6x0) (y_move rfl) ?_
    refine pl_val (.int .i64 (r7.1.length : Int)) (y_len' Sl41 (rs_len hv6x0) rfl) ?_
    refine pl_val (.bool (decide (k61 < (r7.1.length : Int)))) (y_lss rfl rfl) ?_
    refine c_nil ?_
    refine c_condT (congrArg Value.bool (decide_eq_true hlt)) ?_
    refine wp_skip ?_
    refine c_seq ?_
    refine wp_block ?_
    refine c_seq (c_region ?_)
    refine pl_val (.slice pa1 pn1 pc1) (y_move rfl) ?_
    refine pl_val (.slice a6x0 n6x0 c6x0) (y_move rfl) ?_
    refine pl_val (.int .i64 k61) (y_move rfl) ?_
    obtain ⟨x71, hx71, hs⟩ := bind_some hs
    obtain ⟨b72, o72, hp72, ha72⟩ := rs_idx Sl41 Sz22 hv6x0 hx71
    refine pl_val (.pointer (some ⟨b72, o72, none⟩)) (hp72 _ _ _ _ _ _ _ _ _ rfl rfl) ?_
    obtain ⟨v73, hl73, hv73⟩ := at_load Ag22 Sz22 (fun _ => rfl) ha72
    obtain ⟨a73, n73, c73, rfl⟩ := rs_sl hv73
    refine pl_val (.slice a73 n73 c73) (y_load rfl (hl73 _ (Chg.refl _ _))) ?_
    obtain ⟨r76, hr76, hs⟩ := bind_some hs
    refine pl_call Bd64 rfl (c_spec_l16Complements (M := M65) p x71 h1 hv73 hO.fut hr76) ?_
    rintro _ w75 ⟨rfl, hC75⟩
    have h1 := h1.ext hC75
    have hv6x0 := hv6x0.ext hC75
    have hv66 := hv66.ext hC75
    have hv73 := hv73.ext hC75
    have hC := hC.ext hC75
    have hO := hO.ext hC75
    refine c_nil ?_
    rcases bif_some hs with ⟨hc77, hs⟩ | ⟨hc77, hs⟩
    ·skip
     refine c_condT (congrArg Value.bool hc77) ?_
     refine c_region ?_
     refine pl_val (.slice a66 n66 c66) (y_move rfl) ?_
     refine pl_val (.slice a6x0 n6x0 c6x0) (y_move rfl) ?_
     refine pl_val (.int .i64 k61) (y_move rfl) ?_
     obtain ⟨x78, hx78, hs⟩ := bind_some hs
     obtain ⟨b79, o79, hp79, ha79⟩ := rs_idx Sl41 Sz22 hv6x0 hx78
     refine pl_val (.pointer (some ⟨b79, o79, none⟩)) (hp79 _ _ _ _ _ _ _ _ _ rfl rfl) ?_
     obtain ⟨v80, hl80, hv80⟩ := at_load Ag22 Sz22 (fun _ => rfl) ha79
     obtain ⟨a80, n80, c80, rfl⟩ := rs_sl hv80
     refine pl_val (.slice a80 n80 c80) (y_load rfl (hl80 _ (Chg.refl _ _))) ?_
     obtain ⟨w82, g82, ew82, eg82, hC82, hb82⟩ := new_block w75 [(.slice a80 n80 c80)] 22
     refine pl_val (w' := w82) (.slice (some ⟨g82, 0, none⟩) 1 1) (y_bslice rfl (by rw [ew82, eg82]; kernel_rfl)) ?_
     have h1 := h1.ext hC82
     have hv6x0 := hv6x0.ext hC82
     have hv66 := hv66.ext hC82
     have hv80 := hv80.ext hC82
     have hC := hC.ext hC82
     have hO := hO.new1 hC82 eg82 hb82.lt
     have hv82 := os_of_box (r := (RT.rs (RT.int .i64))) (M := M65) (css := [[(.slice a80 n80 c80)]]) (fps := [([] : List Nat)]) (xs := ([x78] : List (List Int))) hb82 ⟨(rs_unval hv80), trivial⟩ (Nat.le_of_ble_eq_true rfl) (List.nodup_cons.2 ⟨(fun h => nomatch h), List.nodup_nil⟩)
     have hv82 : (RT.os 22 (RT.rs (RT.int .i64))).val M65 w82 (.slice (some ⟨g82, 0, none⟩) 1 1) [x78] [g82] := hv82
     obtain ⟨y85, hy85, hs⟩ := bind_some hs
     have hO := hO.fr1
     obtain ⟨a84, n84, c84, w84, f84, hr84, hC84, hf84, hv84⟩ := app_os Rw41 hy85 hv66 hv82 hO.inM (fun g hg hq => hO.apart g hq (mem_l hg))
     have hG84 := os_block hv66
     refine pl_val (w' := w84) (.slice a84 n84 c84) (y_append rfl rfl (hr84 _)) ?_
     have hO := hO.fr1
     have hO := hO.fr1
     have h1 := h1.mut hC84 (fun g hg => hO.inM g (hG84 g hg)) (fun _ _ h => nomatch h)
     have hv6x0 := hv6x0.mut hC84 (fun g hg => hO.inM g (hG84 g hg)) (fun _ _ h => nomatch h)
     have hv80 := hv80.mut hC84 (fun g hg => hO.inM g (hG84 g hg)) (fun _ _ h => nomatch h)
     have hC := hC.step hC84 (fun g hg => hO.inN g (hG84 g hg))
     have hO := hO.eat hC84 hf84 (os_nodup hv84) hv84.fpl
     refine pl_val (.slice a84 n84 c84) (y_assign rfl) ?_
     refine c_nil ?_
     refine c_region ?_
     refine pl_val (.int .i64 k61) (y_move rfl) ?_
     refine pl_val (.int .i64 (w64 (k61 + 1))) (y_add rfl rfl) ?_
     refine pl_val (.int .i64 (w64 (k61 + 1))) (y_assign rfl) ?_
     refine c_nil ?_
     cases hs
     exact ⟨_, M65, a84, n84, c84, f84, fr_ovl 52 ⟨rfl, rfl, rfl, congrArg (Value.int .i64) hw, trivial⟩, hC, hO, hK, h1, hv6x0, hv84⟩
    ·skip
     refine c_condF (congrArg Value.bool hc77) ?_
     refine wp_skip ?_
     refine c_region ?_
     refine pl_val (.int .i64 k61) (y_move rfl) ?_
     refine pl_val (.int .i64 (w64 (k61 + 1))) (y_add rfl rfl) ?_
     refine pl_val (.int .i64 (w64 (k61 + 1))) (y_assign rfl) ?_
     refine c_nil ?_
     cases hs
     exact ⟨_, M65, a66, n66, c66, f66, fr_ovl 52 ⟨rfl, rfl, rfl, congrArg (Value.int .i64) hw, trivial⟩, hC, hO, hK, h1, hv6x0, hv66⟩
   ·skip
    exact ⟨_, M58, (some ⟨g4, 0, none⟩), 0, 0, f58, fr_ovl 52 ⟨rfl, rfl, rfl, rfl, trivial⟩, hC, hO, hK, h1, hv6x0, hv58⟩
   ·cases o63 with
    | nx _ => exact True.intro
    | rt r_ =>
     have hs := after_rt hs
     intro a1 w1 hK
     cases hs
     exact hK
    | br s59 =>
     have hs := after_br hs
     rintro a1 w60 ⟨σ, M68, a69, n69, c69, f69, rfl, hC, hO, hK, h1, hv6x0, hv69⟩
     refine c_seq (c_region ?_)
     refine pl_val (.slice a69 n69 c69) (y_move rfl) ?_
     refine pl_val (.slice a69 n69 c69) (y_assign rfl) ?_
     refine pl_val (.bool true) (y_assign rfl) ?_
     refine c_nil ?_
     refine wp_ret ?_
     cases hs
     obtain ⟨M87, eM87, hs87, hk87, hO, hv87⟩ := frz_own (Frz.os (Frz.rs Frz.int)) hv69 hO
     have hK := hK.trans hk87
     exact ⟨_, a69, n69, c69, fr_ovl 52 ⟨rfl, rfl, trivial⟩, hC, (Keeps.out hK hv87)⟩

def k_impl_power (M : Nat → Prop) (w0 : World) (r : Int) (a : Act) (w : World) : Prop :=
  ∃ (σ : Nat → Value) , a = fr 14 (ovl σ [(4, (.int .i64 r))]) ∧ Chg [] w0 w
def s_impl_power (n : Int) (k : Int) : Option (Int) :=
  (iter (S := Int × Int) (R := Int) (fun s2 =>
  (bif (decide (0 < s2.1)) then some (.nx (w64 (s2.1 - 1), w64 (s2.2 * n))) else some (.br (s2.1, s2.2)))) FU (k, 1)).bind fun o6 => after o6 (fun r_ => some r_) (fun s2 =>
  some s2.2)
set_option maxHeartbeats 4000000 in
theorem c_impl_power {M : Nat → Prop} {w : World}  (n : Int) (k : Int)  (hM : ∀ g, w.heap.size ≤ g → M g) {r : Int} (hs : s_impl_power n k = some r) :
    Gives Try.prog 133 [(.int .i64 n), (.int .i64 k)] w (fun v w' => v = (.int .i64 r) ∧ Chg [] w w') := by
 refine calls_fr Try.func133 rfl Try.ntmps133 (Nat.le_of_ble_eq_true rfl) ?_
 have hO := Own.start (N := Nw w []) hM Nw.fut
 have hC := Chg.refl [] w
 unfold s_impl_power at hs
 refine wp_mono (Q := KPost (k_impl_power M w r)) ?_ (fun e a w1 h => ?_)
 rotate_left
 ·cases e
  case ret =>
   obtain ⟨σ, rfl, hrest⟩ := h
   exact ret1x Try.results133 (res_tmp rfl) ⟨rfl, hrest⟩
  all_goals exact (h : False).elim
 refine c_seq (c_region ?_)
 refine pl_val (.int .i64 0) (y_assign rfl) ?_
 refine c_nil ?_
 refine c_seq (c_region ?_)
 refine pl_val (.int .i64 1) (y_assign rfl) ?_
 refine c_nil ?_
 refine c_seq ?_
 obtain ⟨o6, hl7, hs⟩ := bind_some hs
 refine wp_block ?_
 refine wp_iter (id := 0) (I := fun s2 a w3 => ∃ (σ : Nat → Value), a = fr 14 (ovl σ [(0, (.int .i64 n)), (1, (.int .i64 s2.1)), (5, (.int .i64 s2.2))]) ∧ Chg [] w w3 ∧ Own (Nw w []) M w3 ([])) (J := fun s2 a w3 => ∃ (σ : Nat → Value), a = fr 14 (ovl σ [(5, (.int .i64 s2.2))]) ∧ Chg [] w w3 ∧ Own (Nw w []) M w3 ([])) (K := (k_impl_power M w)) ?_ FU (k, 1) o6 _ _ ?_ hl7 ?_
 ·rintro s2 o6 a w3 ⟨σ, rfl, hC, hO⟩ hs
  refine c_seq ?_
  refine c_seq (c_region ?_)
  refine pl_val (.int .i64 s2.1) (y_move rfl) ?_
  refine pl_val (.bool (decide (0 < s2.1))) (y_gtr rfl rfl) ?_
  refine c_nil ?_
  rcases bif_some hs with ⟨hc8, hs⟩ | ⟨hc8, hs⟩
  ·skip
   refine c_condT (congrArg Value.bool hc8) ?_
   refine wp_skip ?_
   refine c_seq ?_
   refine wp_block ?_
   refine c_region ?_
   refine pl_val (.int .i64 s2.2) (y_move rfl) ?_
   refine pl_val (.int .i64 n) (y_move rfl) ?_
   refine pl_val (.int .i64 (w64 (s2.2 * n))) (y_mul rfl rfl) ?_
   refine pl_val (.int .i64 (w64 (s2.2 * n))) (y_assign rfl) ?_
   refine c_nil ?_
   refine c_region ?_
   refine pl_val (.int .i64 s2.1) (y_move rfl) ?_
   refine pl_val (.int .i64 (w64 (s2.1 - 1))) (y_sub rfl rfl) ?_
   refine pl_val (.int .i64 (w64 (s2.1 - 1))) (y_assign rfl) ?_
   refine c_nil ?_
   cases hs
   exact ⟨_, fr_ovl 14 ⟨rfl, rfl, rfl, trivial⟩, hC, hO⟩
  ·skip
   refine c_condF (congrArg Value.bool hc8) ?_
   refine wp_exit ?_
   cases hs
   exact ⟨rfl, _, fr_ovl 14 ⟨rfl, trivial⟩, hC, hO⟩
 ·skip
  exact ⟨_, fr_ovl 14 ⟨rfl, rfl, rfl, trivial⟩, hC, hO⟩
 ·cases o6 with
  | nx _ => exact True.intro
  | rt r_ =>
   have hs := after_rt hs
   intro a1 w1 hK
   cases hs
   exact hK
  | br s2 =>
   have hs := after_br hs
   rintro a1 w3 ⟨σ, rfl, hC, hO⟩
   refine c_seq (c_region ?_)
   refine pl_val (.int .i64 s2.2) (y_move rfl) ?_
   refine pl_val (.int .i64 s2.2) (y_assign rfl) ?_
   refine c_nil ?_
   refine wp_ret ?_
   cases hs
   exact ⟨_, fr_ovl 14 ⟨rfl, trivial⟩, hC⟩

def k_impl_inSize (M : Nat → Prop) (w0 : World) (r : Bool) (a : Act) (w : World) : Prop :=
  ∃ (σ : Nat → Value) , a = fr 21 (ovl σ [(4, (.bool r))]) ∧ Chg [] w0 w
def s_impl_inSize (list : List Int) (n : Int) : Option (Bool) :=
  (forR (S := Unit) (R := Bool) (fun _ x8 s5 =>
  (bif (decide (x8 < 0)) then some (.rt false) else (bif (decide (n ≤ x8)) then some (.rt false) else some (.nx ())))) 0 list ()).bind fun o9 => after o9 (fun r_ => some r_) (fun s5 =>
  some true)
set_option maxHeartbeats 4000000 in
theorem c_impl_inSize {M : Nat → Prop} {w : World} {pa0 : Option Addr} {pn0 pc0 : Nat} (list : List Int) (n : Int) (h0 : (RT.rs (RT.int .i64)).val M w (.slice pa0 pn0 pc0) list ([])) (hM : ∀ g, w.heap.size ≤ g → M g) {r : Bool} (hs : s_impl_inSize list n = some r) :
    Gives Try.prog 134 [(.slice pa0 pn0 pc0), (.int .i64 n)] w (fun v w' => v = (.bool r) ∧ Chg [] w w') := by
 refine calls_fr Try.func134 rfl Try.ntmps134 (Nat.le_of_ble_eq_true rfl) ?_
 have hO := Own.start (N := Nw w []) hM Nw.fut
 have hC := Chg.refl [] w
 unfold s_impl_inSize at hs
 refine wp_mono (Q := KPost (k_impl_inSize M w r)) ?_ (fun e a w1 h => ?_)
 rotate_left
 ·cases e
  case ret =>
   obtain ⟨σ, rfl, hrest⟩ := h
   exact ret1x Try.results134 (res_tmp rfl) ⟨rfl, hrest⟩
  all_goals exact (h : False).elim
 refine c_seq (c_region ?_)
 refine pl_val (.bool false) (y_assign rfl) ?_
 refine c_nil ?_
 refine c_seq ?_
 refine c_seq (c_region ?_)
 refine pl_val (.slice pa0 pn0 pc0) (y_move rfl) ?_
 refine pl_val (.int .i64 (list.length : Int)) (y_len' Sl22 (rs_len h0) rfl) ?_
 refine pl_val (.int .i64 0) (y_move rfl) ?_
 refine c_nil ?_
 obtain ⟨o9, hl10, hs⟩ := bind_some hs
 refine wp_block ?_
 refine wp_forR (id := 0) (I := fun i_ xs_ s5 a w6 => ∃ k7 : Nat, i_ = (k7 : Int) ∧ List.drop k7 list = xs_ ∧ (∃ (σ : Nat → Value), a = fr 21 (ovl σ [(1, (.int .i64 n)), (7, (.slice pa0 pn0 pc0)), (8, (.int .i64 (list.length : Int))), (9, (.int .i64 (k7 : Int)))]) ∧ Chg [] w w6 ∧ Own (Nw w []) M w6 ([]) ∧ (RT.rs (RT.int .i64)).val M w6 (.slice pa0 pn0 pc0) list ([]))) (J := fun s5 a w6 => ∃ (σ : Nat → Value), a = fr 21 (ovl σ []) ∧ Chg [] w w6 ∧ Own (Nw w []) M w6 ([]) ∧ (RT.rs (RT.int .i64)).val M w6 (.slice pa0 pn0 pc0) list ([])) (K := (k_impl_inSize M w)) ?_ ?_ list 0 () o9 _ _ ?_ hl10 ?_
 ·rintro _ s5 a w6 ⟨k7, rfl, hd, σ, rfl, hC, hO, h0⟩
  have hlt := drop_nil_ge hd
  refine c_seq (c_region ?_)
  refine pl_val (.bool (decide ((k7 : Int) < (list.length : Int)))) (y_lss rfl rfl) ?_
  refine c_nil ?_
  refine c_seq ?_
  refine c_condF (congrArg Value.bool (decide_eq_false hlt)) ?_
  refine wp_exit ?_
  exact ⟨rfl, _, fr_ovl 21 trivial, hC, hO, h0⟩
 ·rintro _ x8 xs_ s5 o9 a w6 ⟨k7, rfl, hd, σ, rfl, hC, hO, h0⟩ hs
  have hlt := drop_cons_lt hd
  have hxk7 := drop_cons_idx hd
  refine c_seq (c_region ?_)
  refine pl_val (.bool (decide ((k7 : Int) < (list.length : Int)))) (y_lss rfl rfl) ?_
  refine c_nil ?_
  refine c_seq ?_
  refine c_condT (congrArg Value.bool (decide_eq_true hlt)) ?_
  refine wp_skip ?_
  refine c_seq ?_
  refine wp_block ?_
  refine c_seq (c_region ?_)
  obtain ⟨b11, o11, hp11, ha11⟩ := rs_idx Sl22 Sz3 h0 hxk7
  refine pl_val (.pointer (some ⟨b11, o11, none⟩)) (hp11 _ _ _ _ _ _ _ _ _ rfl rfl) ?_
  refine pl_val (.int .i64 x8) (y_load rfl ((at_load_int Ag3 Sz3 ha11) _ (Chg.refl _ _))) ?_
  refine pl_val (.int .i64 x8) (y_assign rfl) ?_
  refine c_nil ?_
  refine c_seq (c_region ?_)
  refine pl_val (.int .i64 x8) (y_move rfl) ?_
  refine pl_val (.bool (decide (x8 < 0))) (y_lss rfl rfl) ?_
  refine pl_val (.bool (decide (x8 < 0))) (y_move rfl) ?_
  rcases bif_some hs with ⟨hc12, hs⟩ | ⟨hc12, hs⟩
  ·skip
   refine pl_not (tg := 15) (by kernel_rfl) (congrArg Value.bool hc12) ?_
   refine pl_not (tg := 15) (by kernel_rfl) (congrArg Value.bool hc12) ?_
   refine pl_not (tg := 15) (by kernel_rfl) (congrArg Value.bool hc12) ?_
   refine pl_val (.bool true) (y_pick_t (congrArg Value.bool hc12) rfl) ?_
   refine c_nil ?_
   refine c_condT (by rfl) ?_
   refine c_seq (c_region ?_)
   refine pl_val (.bool false) (y_assign rfl) ?_
   refine c_nil ?_
   refine wp_ret ?_
   cases hs
   exact ⟨_, fr_ovl 21 ⟨rfl, trivial⟩, hC⟩
  ·skip
   refine pl_yes (.int .i64 x8) (tg := 15) (by kernel_rfl) (congrArg Value.bool hc12) (y_move rfl) ?_
   refine pl_yes (.int .i64 n) (tg := 15) (by kernel_rfl) (congrArg Value.bool hc12) (y_move rfl) ?_
   refine pl_yes (.bool (decide (n ≤ x8))) (tg := 15) (by kernel_rfl) (congrArg Value.bool hc12) (y_geq rfl rfl) ?_
   refine pl_val (.bool (decide (n ≤ x8))) (y_pick_f (congrArg Value.bool hc12) rfl) ?_
   refine c_nil ?_
   rcases bif_some hs with ⟨hc13, hs⟩ | ⟨hc13, hs⟩
   ·skip
    refine c_condT (congrArg Value.bool hc13) ?_
    refine c_seq (c_region ?_)
    refine pl_val (.bool false) (y_assign rfl) ?_
    refine c_nil ?_
    refine wp_ret ?_
    cases hs
    exact ⟨_, fr_ovl 21 ⟨rfl, trivial⟩, hC⟩
   ·skip
    refine c_condF (congrArg Value.bool hc13) ?_
    refine wp_skip ?_
    refine c_region ?_
    refine pl_val (.int .i64 (w64 ((k7 : Int) + 1))) (y_add rfl rfl) ?_
    refine pl_val (.int .i64 (w64 ((k7 : Int) + 1))) (y_move rfl) ?_
    refine c_nil ?_
    cases hs
    exact ⟨_, rfl, drop_cons_next hd, _, fr_ovl 21 ⟨rfl, rfl, rfl, congrArg (Value.int .i64) (w64_succ hlt (Int.natCast_nonneg _) (rs_max h0)), trivial⟩, hC, hO, h0⟩
 ·skip
  exact ⟨0, rfl, rfl, _, fr_ovl 21 ⟨rfl, rfl, rfl, rfl, trivial⟩, hC, hO, h0⟩
 ·cases o9 with
  | nx _ => exact True.intro
  | rt r_ =>
   have hs := after_rt hs
   intro a1 w1 hK
   cases hs
   exact hK
  | br s5 =>
   have hs := after_br hs
   rintro a1 w6 ⟨σ, rfl, hC, hO, h0⟩
   refine c_seq (c_region ?_)
   refine pl_val (.bool true) (y_assign rfl) ?_
   refine c_nil ?_
   refine wp_ret ?_
   cases hs
   exact ⟨_, fr_ovl 21 ⟨rfl, trivial⟩, hC⟩

theorem Bd133 : Bodied Try.prog 133 := bodied Try.func133 (by kernel_rfl) rfl

theorem Bd134 : Bodied Try.prog 134 := bodied Try.func134 (by kernel_rfl) rfl

def k_impl_isOp (M : Nat → Prop) (w0 : World) (r : Bool) (a : Act) (w : World) : Prop :=
  ∃ (σ : Nat → Value) , a = fr 29 (ovl σ [(4, (.bool r))]) ∧ Chg [] w0 w
def s_impl_isOp (f : Int × (List Int)) (n : Int) : Option (Bool) :=
  (bif (decide (0 ≤ f.1)) then (bif (decide (f.1 ≤ 3)) then (s_impl_power n f.1).bind fun r7 =>
  (bif ((f.2.length : Int) == r7) then (s_impl_inSize f.2 n).bind fun r10 =>
  some r10 else some false) else some false) else some false)
set_option maxHeartbeats 4000000 in
theorem c_impl_isOp {M : Nat → Prop} {w : World} {pa0 : Option Addr} {pn0 pc0 : Nat} (f : Int × (List Int)) (n : Int) (h0 : (RT.rs (RT.int .i64)).val M w (.slice pa0 pn0 pc0) f.2 ([])) (hM : ∀ g, w.heap.size ≤ g → M g) {r : Bool} (hs : s_impl_isOp f n = some r) :
    Gives Try.prog 124 [(.agg #[(.int .i64 f.1), (.slice pa0 pn0 pc0)]), (.int .i64 n)] w (fun v w' => v = (.bool r) ∧ Chg [] w w') := by
 refine calls_fr Try.func124 rfl Try.ntmps124 (Nat.le_of_ble_eq_true rfl) ?_
 have hO := Own.start (N := Nw w []) hM Nw.fut
 have hC := Chg.refl [] w
 unfold s_impl_isOp at hs
 refine wp_mono (Q := KPost (k_impl_isOp M w r)) ?_ (fun e a w1 h => ?_)
 rotate_left
 ·cases e
  case ret =>
   obtain ⟨σ, rfl, hrest⟩ := h
   exact ret1x Try.results124 (res_tmp rfl) ⟨rfl, hrest⟩
  all_goals exact (h : False).elim
 refine c_seq (c_region ?_)
 obtain ⟨w2, g2, ew2, eg2, hC2, hb2⟩ := new_block w [(.int .i64 f.1), (.slice pa0 pn0 pc0)] 81
 refine pl_val (w' := w2) (.pointer (some ⟨g2, 0, none⟩)) (y_box rfl (by rw [ew2, eg2]; kernel_rfl)) ?_
 have h0 := h0.ext hC2
 have hC := hC.ext hC2
 have hO := hO.new1 hC2 eg2 hb2.lt
 refine pl_val (.bool false) (y_assign rfl) ?_
 refine c_nil ?_
 refine c_seq ?_
 refine x_start [] Mx rfl ?_
 have hCw3 := Chg.drew w2
 generalize World.drew w2 = w3 at hCw3 ⊢
 have h0 := h0.ext hCw3
 have hb2 := hb2.chg hCw3 (fun h => nomatch h)
 have hC := hC.ext hCw3
 have hO := hO.ext hCw3
 have hS := Chg.refl [] w3
 refine x_p 0 (.pointer (some ⟨g2, 0, none⟩)) rfl (by kernel_rfl)  (fun _ => y_faddr rfl Fa81x0) (fun _ => hS) ?_
 refine x_l 1 (.int .i64 f.1) rfl (by kernel_rfl)  (fun w' hw' => y_load rfl ((box_load Ag3 Sz3 hb2 [] [(.int .i64 f.1)] [(.slice pa0 pn0 pc0)] rfl rfl (fun _ => rfl)) w' hw')) hS ?_
 refine x_p 2 (.bool (decide (0 ≤ f.1))) rfl (by kernel_rfl)  (fun _ => y_geq rfl rfl) (fun _ => hS) ?_
 refine x_p 3 (.bool (decide (0 ≤ f.1))) rfl (by kernel_rfl)  (fun _ => y_move rfl) (fun _ => hS) ?_
 rcases bif_some hs with ⟨hc4, hs⟩ | ⟨hc4, hs⟩
 ·skip
  refine x_py 4 (.pointer (some ⟨g2, 0, none⟩)) rfl (by kernel_rfl) (tg := 8) (by kernel_rfl) (congrArg Value.bool hc4) (fun _ => y_faddr rfl Fa81x0) (fun _ => hS) ?_
  refine x_ly 5 (.int .i64 f.1) rfl (by kernel_rfl) (tg := 8) (by kernel_rfl) (congrArg Value.bool hc4) (fun w' hw' => y_load rfl ((box_load Ag3 Sz3 hb2 [] [(.int .i64 f.1)] [(.slice pa0 pn0 pc0)] rfl rfl (fun _ => rfl)) w' hw')) hS ?_
  refine x_py 6 (.bool (decide (f.1 ≤ 3))) rfl (by kernel_rfl) (tg := 8) (by kernel_rfl) (congrArg Value.bool hc4) (fun _ => y_leq rfl rfl) (fun _ => hS) ?_
  refine x_p 7 (.bool (decide (f.1 ≤ 3))) rfl (by kernel_rfl)  (fun _ => y_pick_t (congrArg Value.bool hc4) rfl) (fun _ => hS) ?_
  refine x_p 8 (.bool (decide (f.1 ≤ 3))) rfl (by kernel_rfl)  (fun _ => y_move rfl) (fun _ => hS) ?_
  rcases bif_some hs with ⟨hc5, hs⟩ | ⟨hc5, hs⟩
  ·skip
   refine x_py 9 (.pointer (some ⟨g2, 1, none⟩)) rfl (by kernel_rfl) (tg := 13) (by kernel_rfl) (congrArg Value.bool hc5) (fun _ => y_faddr rfl Fa81x1) (fun _ => hS) ?_
   refine x_ly 10 (.slice pa0 pn0 pc0) rfl (by kernel_rfl) (tg := 13) (by kernel_rfl) (congrArg Value.bool hc5) (fun w' hw' => y_load rfl ((box_load Ag22 Sz22 hb2 [(.int .i64 f.1)] [(.slice pa0 pn0 pc0)] [] rfl rfl (fun _ => rfl)) w' hw')) hS ?_
   refine x_py 11 (.int .i64 (f.2.length : Int)) rfl (by kernel_rfl) (tg := 13) (by kernel_rfl) (congrArg Value.bool hc5) (fun _ => y_len' Sl22 (rs_len h0) rfl) (fun _ => hS) ?_
   refine x_py 12 (.int .i64 n) rfl (by kernel_rfl) (tg := 13) (by kernel_rfl) (congrArg Value.bool hc5) (fun _ => y_move rfl) (fun _ => hS) ?_
   refine x_py 13 (.pointer (some ⟨g2, 0, none⟩)) rfl (by kernel_rfl) (tg := 13) (by kernel_rfl) (congrArg Value.bool hc5) (fun _ => y_faddr rfl Fa81x0) (fun _ => hS) ?_
   refine x_ly 14 (.int .i64 f.1) rfl (by kernel_rfl) (tg := 13) (by kernel_rfl) (congrArg Value.bool hc5) (fun w' hw' => y_load rfl ((box_load Ag3 Sz3 hb2 [] [(.int .i64 f.1)] [(.slice pa0 pn0 pc0)] rfl rfl (fun _ => rfl)) w' hw')) hS ?_
   refine x_one (i := 15) (by kernel_rfl) ?_
   obtain ⟨r7, hr7, hs⟩ := bind_some hs
   refine xk_cally (b := false) rfl (tg := 13) (by kernel_rfl) (congrArg Value.bool hc5) Bd133 rfl (c_impl_power (M := M) n f.1  hO.fut hr7) rfl (by rintro _ _ _ ⟨rfl, hC6⟩; exact hS.ext hC6) ?_
   rintro _ w6 ⟨rfl, hC6⟩
   have h0 := h0.ext hC6
   have hb2 := hb2.chg hC6 (fun h => nomatch h)
   have hC := hC.ext hC6
   have hO := hO.ext hC6
   have hS := hS.ext hC6
   refine x_py 16 (.bool ((f.2.length : Int) == r7)) rfl (by kernel_rfl) (tg := 13) (by kernel_rfl) (congrArg Value.bool hc5) (fun _ => y_eql rfl rfl) (fun _ => hS) ?_
   refine x_p 17 (.bool ((f.2.length : Int) == r7)) rfl (by kernel_rfl)  (fun _ => y_pick_t (congrArg Value.bool hc5) rfl) (fun _ => hS) ?_
   refine x_p 18 (.bool ((f.2.length : Int) == r7)) rfl (by kernel_rfl)  (fun _ => y_move rfl) (fun _ => hS) ?_
   rcases bif_some hs with ⟨hc8, hs⟩ | ⟨hc8, hs⟩
   ·skip
    refine x_py 19 (.pointer (some ⟨g2, 1, none⟩)) rfl (by kernel_rfl) (tg := 23) (by kernel_rfl) (congrArg Value.bool hc8) (fun _ => y_faddr rfl Fa81x1) (fun _ => hS) ?_
    refine x_py 21 (.int .i64 n) rfl (by kernel_rfl) (tg := 23) (by kernel_rfl) (congrArg Value.bool hc8) (fun _ => y_move rfl) (fun _ => hS) ?_
    refine x_one (i := 20) (by kernel_rfl) ?_
    refine xk_valy (b := false) (.slice pa0 pn0 pc0) rfl (tg := 23) (by kernel_rfl) (congrArg Value.bool hc8) (y_load rfl ((box_load Ag22 Sz22 hb2 [(.int .i64 f.1)] [(.slice pa0 pn0 pc0)] [] rfl rfl (fun _ => rfl)) _ (Chg.refl _ _))) rfl (fun _ => hS) ?_
    refine x_one (i := 22) (by kernel_rfl) ?_
    obtain ⟨r10, hr10, hs⟩ := bind_some hs
    refine xk_cally (b := false) rfl (tg := 23) (by kernel_rfl) (congrArg Value.bool hc8) Bd134 rfl (c_impl_inSize (M := M) f.2 n h0 hO.fut hr10) rfl (by rintro _ _ _ ⟨rfl, hC9⟩; exact hS.ext hC9) ?_
    rintro _ w9 ⟨rfl, hC9⟩
    have h0 := h0.ext hC9
    have hb2 := hb2.chg hC9 (fun h => nomatch h)
    have hC := hC.ext hC9
    have hO := hO.ext hC9
    have hS := hS.ext hC9
    refine x_p 23 (.bool r10) rfl (by kernel_rfl)  (fun _ => y_pick_t (congrArg Value.bool hc8) rfl) (fun _ => hS) ?_
    refine x_p 24 (.bool r10) rfl (by kernel_rfl)  (fun _ => y_assign rfl) (fun _ => hS) ?_
    refine x_end (by kernel_rfl) ?_
    clear hS
    refine wp_ret ?_
    cases hs
    exact ⟨_, fr_ovl 29 ⟨rfl, trivial⟩, hC⟩
   ·skip
    refine x_pn 19 rfl (by kernel_rfl) (tg := 23) (by kernel_rfl) (congrArg Value.bool hc8) (fun _ => hS) ?_
    refine x_pn 20 rfl (by kernel_rfl) (tg := 23) (by kernel_rfl) (congrArg Value.bool hc8) (fun _ => hS) ?_
    refine x_pn 21 rfl (by kernel_rfl) (tg := 23) (by kernel_rfl) (congrArg Value.bool hc8) (fun _ => hS) ?_
    refine x_pn 22 rfl (by kernel_rfl) (tg := 23) (by kernel_rfl) (congrArg Value.bool hc8) (fun _ => hS) ?_
    refine x_p 23 (.bool false) rfl (by kernel_rfl)  (fun _ => y_pick_f (congrArg Value.bool hc8) rfl) (fun _ => hS) ?_
    refine x_p 24 (.bool false) rfl (by kernel_rfl)  (fun _ => y_assign rfl) (fun _ => hS) ?_
    refine x_end (by kernel_rfl) ?_
    clear hS
    refine wp_ret ?_
    cases hs
    exact ⟨_, fr_ovl 29 ⟨rfl, trivial⟩, hC⟩
  ·skip
   refine x_pn 9 rfl (by kernel_rfl) (tg := 13) (by kernel_rfl) (congrArg Value.bool hc5) (fun _ => hS) ?_
   refine x_pn 10 rfl (by kernel_rfl) (tg := 13) (by kernel_rfl) (congrArg Value.bool hc5) (fun _ => hS) ?_
   refine x_pn 11 rfl (by kernel_rfl) (tg := 13) (by kernel_rfl) (congrArg Value.bool hc5) (fun _ => hS) ?_
   refine x_pn 12 rfl (by kernel_rfl) (tg := 13) (by kernel_rfl) (congrArg Value.bool hc5) (fun _ => hS) ?_
   refine x_pn 13 rfl (by kernel_rfl) (tg := 13) (by kernel_rfl) (congrArg Value.bool hc5) (fun _ => hS) ?_
   refine x_pn 14 rfl (by kernel_rfl) (tg := 13) (by kernel_rfl) (congrArg Value.bool hc5) (fun _ => hS) ?_
   refine x_pn 15 rfl (by kernel_rfl) (tg := 13) (by kernel_rfl) (congrArg Value.bool hc5) (fun _ => hS) ?_
   refine x_pn 16 rfl (by kernel_rfl) (tg := 13) (by kernel_rfl) (congrArg Value.bool hc5) (fun _ => hS) ?_
   refine x_p 17 (.bool false) rfl (by kernel_rfl)  (fun _ => y_pick_f (congrArg Value.bool hc5) rfl) (fun _ => hS) ?_
   refine x_p 18 (.bool false) rfl (by kernel_rfl)  (fun _ => y_move rfl) (fun _ => hS) ?_
   refine x_pn 19 rfl (by kernel_rfl) (tg := 23) (by kernel_rfl) (by rfl) (fun _ => hS) ?_
   refine x_pn 20 rfl (by kernel_rfl) (tg := 23) (by kernel_rfl) (by rfl) (fun _ => hS) ?_
   refine x_pn 21 rfl (by kernel_rfl) (tg := 23) (by kernel_rfl) (by rfl) (fun _ => hS) ?_
   refine x_pn 22 rfl (by kernel_rfl) (tg := 23) (by kernel_rfl) (by rfl) (fun _ => hS) ?_
   refine x_p 23 (.bool false) rfl (by kernel_rfl)  (fun _ => y_pick_f (by rfl) rfl) (fun _ => hS) ?_
   refine x_p 24 (.bool false) rfl (by kernel_rfl)  (fun _ => y_assign rfl) (fun _ => hS) ?_
   refine x_end (by kernel_rfl) ?_
   clear hS
   refine wp_ret ?_
   cases hs
   exact ⟨_, fr_ovl 29 ⟨rfl, trivial⟩, hC⟩
 ·skip
  refine x_pn 4 rfl (by kernel_rfl) (tg := 8) (by kernel_rfl) (congrArg Value.bool hc4) (fun _ => hS) ?_
  refine x_pn 5 rfl (by kernel_rfl) (tg := 8) (by kernel_rfl) (congrArg Value.bool hc4) (fun _ => hS) ?_
  refine x_pn 6 rfl (by kernel_rfl) (tg := 8) (by kernel_rfl) (congrArg Value.bool hc4) (fun _ => hS) ?_
  refine x_p 7 (.bool false) rfl (by kernel_rfl)  (fun _ => y_pick_f (congrArg Value.bool hc4) rfl) (fun _ => hS) ?_
  refine x_p 8 (.bool false) rfl (by kernel_rfl)  (fun _ => y_move rfl) (fun _ => hS) ?_
  refine x_pn 9 rfl (by kernel_rfl) (tg := 13) (by kernel_rfl) (by rfl) (fun _ => hS) ?_
  refine x_pn 10 rfl (by kernel_rfl) (tg := 13) (by kernel_rfl) (by rfl) (fun _ => hS) ?_
  refine x_pn 11 rfl (by kernel_rfl) (tg := 13) (by kernel_rfl) (by rfl) (fun _ => hS) ?_
  refine x_pn 12 rfl (by kernel_rfl) (tg := 13) (by kernel_rfl) (by rfl) (fun _ => hS) ?_
  refine x_pn 13 rfl (by kernel_rfl) (tg := 13) (by kernel_rfl) (by rfl) (fun _ => hS) ?_
  refine x_pn 14 rfl (by kernel_rfl) (tg := 13) (by kernel_rfl) (by rfl) (fun _ => hS) ?_
  refine x_pn 15 rfl (by kernel_rfl) (tg := 13) (by kernel_rfl) (by rfl) (fun _ => hS) ?_
  refine x_pn 16 rfl (by kernel_rfl) (tg := 13) (by kernel_rfl) (by rfl) (fun _ => hS) ?_
  refine x_p 17 (.bool false) rfl (by kernel_rfl)  (fun _ => y_pick_f (by rfl) rfl) (fun _ => hS) ?_
  refine x_p 18 (.bool false) rfl (by kernel_rfl)  (fun _ => y_move rfl) (fun _ => hS) ?_
  refine x_pn 19 rfl (by kernel_rfl) (tg := 23) (by kernel_rfl) (by rfl) (fun _ => hS) ?_
  refine x_pn 20 rfl (by kernel_rfl) (tg := 23) (by kernel_rfl) (by rfl) (fun _ => hS) ?_
  refine x_pn 21 rfl (by kernel_rfl) (tg := 23) (by kernel_rfl) (by rfl) (fun _ => hS) ?_
  refine x_pn 22 rfl (by kernel_rfl) (tg := 23) (by kernel_rfl) (by rfl) (fun _ => hS) ?_
  refine x_p 23 (.bool false) rfl (by kernel_rfl)  (fun _ => y_pick_f (by rfl) rfl) (fun _ => hS) ?_
  refine x_p 24 (.bool false) rfl (by kernel_rfl)  (fun _ => y_assign rfl) (fun _ => hS) ?_
  refine x_end (by kernel_rfl) ?_
  clear hS
  refine wp_ret ?_
  cases hs
  exact ⟨_, fr_ovl 29 ⟨rfl, trivial⟩, hC⟩

theorem Bd124 : Bodied Try.prog 124 := bodied Try.func124 (by kernel_rfl) rfl

def k_impl_IsAlgebra (M : Nat → Prop) (w0 : World) (r : Bool) (a : Act) (w : World) : Prop :=
  ∃ (σ : Nat → Value) , a = fr 32 (ovl σ [(2, (.bool r))]) ∧ Chg [] w0 w
def s_impl_IsAlgebra (a_ : Int × (List (Int × (List Int)))) : Option (Bool) :=
  (bif (((decide (a_.1 < 1)) || (decide (8 < a_.1))) || (decide (4 < (a_.2.length : Int)))) then some false else (forR (S := Unit) (R := Bool) (fun _ x21 s18 =>
  (s_impl_isOp (x21.1, x21.2) a_.1).bind fun r30 =>
  (bif (!r30) then some (.rt false) else some (.nx ()))) 0 a_.2 ()).bind fun o22 => after o22 (fun r_ => some r_) (fun s18 =>
  some true))
set_option maxHeartbeats 4000000 in
theorem c_impl_IsAlgebra {M : Nat → Prop} {w : World} {pa0 : Option Addr} {pn0 pc0 : Nat} (a_ : Int × (List (Int × (List Int)))) (h0 : (RT.rs (RT.pr (RT.int .i64) (RT.rs (RT.int .i64)))).val M w (.slice pa0 pn0 pc0) a_.2 ([])) (hM : ∀ g, w.heap.size ≤ g → M g) {r : Bool} (hs : s_impl_IsAlgebra a_ = some r) :
    Gives Try.prog 109 [(.agg #[(.int .i64 a_.1), (.slice pa0 pn0 pc0)])] w (fun v w' => v = (.bool r) ∧ Chg [] w w') := by
 refine calls_fr Try.func109 rfl Try.ntmps109 (Nat.le_of_ble_eq_true rfl) ?_
 have hO := Own.start (N := Nw w []) hM Nw.fut
 have hC := Chg.refl [] w
 unfold s_impl_IsAlgebra at hs
 refine wp_mono (Q := KPost (k_impl_IsAlgebra M w r)) ?_ (fun e a w1 h => ?_)
 rotate_left
 ·cases e
  case ret =>
   obtain ⟨σ, rfl, hrest⟩ := h
   exact ret1x Try.results109 (res_tmp rfl) ⟨rfl, hrest⟩
  all_goals exact (h : False).elim
 refine c_seq (c_region ?_)
 obtain ⟨w2, g2, ew2, eg2, hC2, hb2⟩ := new_block w [(.int .i64 a_.1), (.slice pa0 pn0 pc0)] 35
 refine pl_val (w' := w2) (.pointer (some ⟨g2, 0, none⟩)) (y_box rfl (by rw [ew2, eg2]; kernel_rfl)) ?_
 have h0 := h0.ext hC2
 have hC := hC.ext hC2
 have hO := hO.new1 hC2 eg2 hb2.lt
 refine pl_val (.bool false) (y_assign rfl) ?_
 refine c_nil ?_
 refine c_seq ?_
 refine c_seq ?_
 refine c_mid (I := fun a w4 => ∃ (σ : Nat → Value), a = fr 32 (ovl σ [(1, (.pointer (some ⟨g2, 0, none⟩))), (2, (.bool false)), (18, (.bool (((decide (a_.1 < 1)) || (decide (8 < a_.1))) || (decide (4 < (a_.2.length : Int))))))]) ∧ Chg [] w2 w4) ?_ ?_
 ·have hMid := Chg.refl [] w2
  refine c_region ?_
  refine pl_val (.pointer (some ⟨g2, 0, none⟩)) (y_faddr rfl Fa35x0) ?_
  refine pl_val (.int .i64 a_.1) (y_load rfl ((box_load Ag3 Sz3 hb2 [] [(.int .i64 a_.1)] [(.slice pa0 pn0 pc0)] rfl rfl (fun _ => rfl)) _ (Chg.refl _ _))) ?_
  refine pl_val (.bool (decide (a_.1 < 1))) (y_lss rfl rfl) ?_
  refine pl_val (.bool (decide (a_.1 < 1))) (y_move rfl) ?_
  rcases Bool.eq_false_or_eq_true ((decide (a_.1 < 1))) with hc6 | hc6
  ·skip
   refine pl_not (tg := 8) (by kernel_rfl) (congrArg Value.bool hc6) ?_
   refine pl_not (tg := 8) (by kernel_rfl) (congrArg Value.bool hc6) ?_
   refine pl_not (tg := 8) (by kernel_rfl) (congrArg Value.bool hc6) ?_
   refine pl_val (.bool ((decide (a_.1 < 1)) || (decide (8 < a_.1)))) (y_pick_t (congrArg Value.bool hc6) (congrArg Value.bool (by rw [hc6]; rfl))) ?_
   refine pl_val (.bool ((decide (a_.1 < 1)) || (decide (8 < a_.1)))) (y_move rfl) ?_
   rcases Bool.eq_false_or_eq_true (((decide (a_.1 < 1)) || (decide (8 < a_.1)))) with hc7 | hc7
   ·skip
    refine pl_not (tg := 13) (by kernel_rfl) (congrArg Value.bool hc7) ?_
    refine pl_not (tg := 13) (by kernel_rfl) (congrArg Value.bool hc7) ?_
    refine pl_not (tg := 13) (by kernel_rfl) (congrArg Value.bool hc7) ?_
    refine pl_not (tg := 13) (by kernel_rfl) (congrArg Value.bool hc7) ?_
    refine pl_val (.bool (((decide (a_.1 < 1)) || (decide (8 < a_.1))) || (decide (4 < (a_.2.length : Int))))) (y_pick_t (congrArg Value.bool hc7) (congrArg Value.bool (by rw [hc7]; rfl))) ?_
    refine c_nil ?_
    exact ⟨_, fr_ovl 32 ⟨rfl, rfl, rfl, trivial⟩, hMid⟩
   ·skip
    refine pl_yes (.pointer (some ⟨g2, 1, none⟩)) (tg := 13) (by kernel_rfl) (congrArg Value.bool hc7) (y_faddr rfl Fa35x1) ?_
    refine pl_yes (.slice pa0 pn0 pc0) (tg := 13) (by kernel_rfl) (congrArg Value.bool hc7) (y_load rfl ((box_load Ag33 Sz33 hb2 [(.int .i64 a_.1)] [(.slice pa0 pn0 pc0)] [] rfl rfl (fun _ => rfl)) _ (Chg.refl _ _))) ?_
    refine pl_yes (.int .i64 (a_.2.length : Int)) (tg := 13) (by kernel_rfl) (congrArg Value.bool hc7) (y_len' Sl33 (rs_len h0) rfl) ?_
    refine pl_yes (.bool (decide (4 < (a_.2.length : Int)))) (tg := 13) (by kernel_rfl) (congrArg Value.bool hc7) (y_gtr rfl rfl) ?_
    refine pl_val (.bool (((decide (a_.1 < 1)) || (decide (8 < a_.1))) || (decide (4 < (a_.2.length : Int))))) (y_pick_f (congrArg Value.bool hc7) (congrArg Value.bool (by rw [hc7]; rfl))) ?_
    refine c_nil ?_
    exact ⟨_, fr_ovl 32 ⟨rfl, rfl, rfl, trivial⟩, hMid⟩
  ·skip
   refine pl_yes (.pointer (some ⟨g2, 0, none⟩)) (tg := 8) (by kernel_rfl) (congrArg Value.bool hc6) (y_faddr rfl Fa35x0) ?_
   refine pl_yes (.int .i64 a_.1) (tg := 8) (by kernel_rfl) (congrArg Value.bool hc6) (y_load rfl ((box_load Ag3 Sz3 hb2 [] [(.int .i64 a_.1)] [(.slice pa0 pn0 pc0)] rfl rfl (fun _ => rfl)) _ (Chg.refl _ _))) ?_
   refine pl_yes (.bool (decide (8 < a_.1))) (tg := 8) (by kernel_rfl) (congrArg Value.bool hc6) (y_gtr rfl rfl) ?_
   refine pl_val (.bool ((decide (a_.1 < 1)) || (decide (8 < a_.1)))) (y_pick_f (congrArg Value.bool hc6) (congrArg Value.bool (by rw [hc6]; rfl))) ?_
   refine pl_val (.bool ((decide (a_.1 < 1)) || (decide (8 < a_.1)))) (y_move rfl) ?_
   rcases Bool.eq_false_or_eq_true (((decide (a_.1 < 1)) || (decide (8 < a_.1)))) with hc8 | hc8
   ·skip
    refine pl_not (tg := 13) (by kernel_rfl) (congrArg Value.bool hc8) ?_
    refine pl_not (tg := 13) (by kernel_rfl) (congrArg Value.bool hc8) ?_
    refine pl_not (tg := 13) (by kernel_rfl) (congrArg Value.bool hc8) ?_
    refine pl_not (tg := 13) (by kernel_rfl) (congrArg Value.bool hc8) ?_
    refine pl_val (.bool (((decide (a_.1 < 1)) || (decide (8 < a_.1))) || (decide (4 < (a_.2.length : Int))))) (y_pick_t (congrArg Value.bool hc8) (congrArg Value.bool (by rw [hc8]; rfl))) ?_
    refine c_nil ?_
    exact ⟨_, fr_ovl 32 ⟨rfl, rfl, rfl, trivial⟩, hMid⟩
   ·skip
    refine pl_yes (.pointer (some ⟨g2, 1, none⟩)) (tg := 13) (by kernel_rfl) (congrArg Value.bool hc8) (y_faddr rfl Fa35x1) ?_
    refine pl_yes (.slice pa0 pn0 pc0) (tg := 13) (by kernel_rfl) (congrArg Value.bool hc8) (y_load rfl ((box_load Ag33 Sz33 hb2 [(.int .i64 a_.1)] [(.slice pa0 pn0 pc0)] [] rfl rfl (fun _ => rfl)) _ (Chg.refl _ _))) ?_
    refine pl_yes (.int .i64 (a_.2.length : Int)) (tg := 13) (by kernel_rfl) (congrArg Value.bool hc8) (y_len' Sl33 (rs_len h0) rfl) ?_
    refine pl_yes (.bool (decide (4 < (a_.2.length : Int)))) (tg := 13) (by kernel_rfl) (congrArg Value.bool hc8) (y_gtr rfl rfl) ?_
    refine pl_val (.bool (((decide (a_.1 < 1)) || (decide (8 < a_.1))) || (decide (4 < (a_.2.length : Int))))) (y_pick_f (congrArg Value.bool hc8) (congrArg Value.bool (by rw [hc8]; rfl))) ?_
    refine c_nil ?_
    exact ⟨_, fr_ovl 32 ⟨rfl, rfl, rfl, trivial⟩, hMid⟩
 ·rintro a1 w4 ⟨σ, rfl, hCs3⟩
  have h0 := h0.ext hCs3
  have hb2 := hb2.chg hCs3 (fun h => nomatch h)
  have hC := hC.ext hCs3
  have hO := hO.ext hCs3
  rcases bif_some hs with ⟨hc9, hs⟩ | ⟨hc9, hs⟩
  ·skip
   refine c_condT (congrArg Value.bool hc9) ?_
   refine c_seq (c_region ?_)
   refine pl_val (.bool false) (y_assign rfl) ?_
   refine c_nil ?_
   refine wp_ret ?_
   cases hs
   exact ⟨_, fr_ovl 32 ⟨rfl, trivial⟩, hC⟩
  ·skip
   refine c_condF (congrArg Value.bool hc9) ?_
   refine wp_skip ?_
   refine c_seq ?_
   refine c_seq (c_region ?_)
   refine pl_val (.pointer (some ⟨g2, 1, none⟩)) (y_faddr rfl Fa35x1) ?_
   refine pl_val (.slice pa0 pn0 pc0) (y_load rfl ((box_load Ag33 Sz33 hb2 [(.int .i64 a_.1)] [(.slice pa0 pn0 pc0)] [] rfl rfl (fun _ => rfl)) _ (Chg.refl _ _))) ?_
   refine pl_val (.int .i64 (a_.2.length : Int)) (y_len' Sl33 (rs_len h0) rfl) ?_
   refine pl_val (.int .i64 0) (y_move rfl) ?_
   refine c_nil ?_
   obtain ⟨o22, hl23, hs⟩ := bind_some hs
   refine wp_block ?_
   refine wp_forR (id := 0) (I := fun i_ xs_ s18 a w19 => ∃ k20 : Nat, i_ = (k20 : Int) ∧ List.drop k20 a_.2 = xs_ ∧ (∃ (σ : Nat → Value), a = fr 32 (ovl σ [(1, (.pointer (some ⟨g2, 0, none⟩))), (20, (.slice pa0 pn0 pc0)), (21, (.int .i64 (a_.2.length : Int))), (22, (.int .i64 (k20 : Int)))]) ∧ Chg [] w w19 ∧ Own (Nw w []) M w19 (([g2]) ++ []) ∧ (RT.rs (RT.pr (RT.int .i64) (RT.rs (RT.int .i64)))).val M w19 (.slice pa0 pn0 pc0) a_.2 ([]) ∧ BoxV w19 g2 35 [(.int .i64 a_.1), (.slice pa0 pn0 pc0)])) (J := fun s18 a w19 => ∃ (σ : Nat → Value), a = fr 32 (ovl σ []) ∧ Chg [] w w19 ∧ Own (Nw w []) M w19 (([g2]) ++ []) ∧ (RT.rs (RT.pr (RT.int .i64) (RT.rs (RT.int .i64)))).val M w19 (.slice pa0 pn0 pc0) a_.2 ([]) ∧ BoxV w19 g2 35 [(.int .i64 a_.1), (.slice pa0 pn0 pc0)]) (K := (k_impl_IsAlgebra M w)) ?_ ?_ a_.2 0 () o22 _ _ ?_ hl23 ?_
   ·rintro _ s18 a w19 ⟨k20, rfl, hd, σ, rfl, hC, hO, h0, hb2⟩
    have hlt := drop_nil_ge hd
    refine c_seq (c_region ?_)
    refine pl_val (.bool (decide ((k20 : Int) < (a_.2.length : Int)))) (y_lss rfl rfl) ?_
    refine c_nil ?_
    refine c_seq ?_
    refine c_condF (congrArg Value.bool (decide_eq_false hlt)) ?_
    refine wp_exit ?_
    exact ⟨rfl, _, fr_ovl 32 trivial, hC, hO, h0, hb2⟩
   ·rintro _ x21 xs_ s18 o22 a w19 ⟨k20, rfl, hd, σ, rfl, hC, hO, h0, hb2⟩ hs
    have hlt := drop_cons_lt hd
    have hxk20 := drop_cons_idx hd
    refine c_seq (c_region ?_)
    refine pl_val (.bool (decide ((k20 : Int) < (a_.2.length : Int)))) (y_lss rfl rfl) ?_
    refine c_nil ?_
    refine c_seq ?_
    refine c_condT (congrArg Value.bool (decide_eq_true hlt)) ?_
    refine wp_skip ?_
    refine c_seq ?_
    refine wp_block ?_
    refine c_seq (c_region ?_)
    obtain ⟨b24, o24, hp24, ha24⟩ := rs_idx Sl33 Sz81 h0 hxk20
    refine pl_val (.pointer (some ⟨b24, o24, none⟩)) (hp24 _ _ _ _ _ _ _ _ _ rfl rfl) ?_
    obtain ⟨v25, hl25, hv25⟩ := at_load Ag81 Sz81 (by intro h; cases h) ha24
    obtain ⟨cs25, rfl, hr25⟩ := hv25
    obtain ⟨cc25x1, cd25x1, rfl, hh25x1, ht25x1⟩ := pr_open hr25
    obtain rfl := int_rel hh25x1
    obtain ⟨a25x2, n25x2, c25x2, rfl, hv25x2⟩ := rs_rel ht25x1
    refine pl_val (.agg #[(.int .i64 x21.1), (.slice a25x2 n25x2 c25x2)]) (y_load rfl (hl25 _ (Chg.refl _ _))) ?_
    obtain ⟨w27, g27, ew27, eg27, hC27, hb27⟩ := new_block w19 [(.int .i64 0), (.slice none 0 0)] 81
    refine pl_val (w' := w27) (.pointer (some ⟨g27, 0, none⟩)) (y_alloc (by rw [ew27, eg27]; kernel_rfl)) ?_
    have h0 := h0.ext hC27
    have hb2 := hb2.chg hC27 (fun h => nomatch h)
    have hv25x2 := hv25x2.ext hC27
    have hC := hC.ext hC27
    have hO := hO.new1 hC27 eg27 hb27.lt
    obtain ⟨w28, hst28, hC28, hb28⟩ := box_store (P := Try.prog) hb27 [] [(.int .i64 0), (.slice none 0 0)] [] [(.int .i64 x21.1), (.slice a25x2 n25x2 c25x2)] rfl rfl (by intro u hu; simp only [List.mem_cons, List.not_mem_nil, or_false] at hu; rcases hu with rfl | rfl <;> rfl)
    refine pl_skip (w' := w28) (ys_store rfl rfl (hst28 _ _ rfl Sz81)) ?_
    have h0 := h0.mut hC28 (fun g hg => hO.inM g ((fun _ h => h) g hg)) (fun _ _ h => nomatch h)
    have hb2 := hb2.chg hC28 (fun hg => hO.apart _ ((fun _ h => h) _ hg) (mem_l (List.mem_singleton.2 rfl)))
    have hv25x2 := hv25x2.mut hC28 (fun g hg => hO.inM g ((fun _ h => h) g hg)) (fun _ _ h => nomatch h)
    have hC := hC.step hC28 (fun g hg => hO.inN g ((fun _ h => h) g hg))
    have hO := hO.ext hC28
    have hb28 : BoxV w28 g27 81 [(.int .i64 x21.1), (.slice a25x2 n25x2 c25x2)] := hb28
    refine c_nil ?_
    refine c_seq (c_region ?_)
    refine pl_val (.agg #[(.int .i64 x21.1), (.slice a25x2 n25x2 c25x2)]) (y_load rfl ((box_load Ag81 Sz81 hb28 [] [(.int .i64 x21.1), (.slice a25x2 n25x2 c25x2)] [] rfl rfl (fun h => nomatch h)) _ (Chg.refl _ _))) ?_
    refine pl_val (.pointer (some ⟨g2, 0, none⟩)) (y_faddr rfl Fa35x0) ?_
    refine pl_val (.int .i64 a_.1) (y_load rfl ((box_load Ag3 Sz3 hb2 [] [(.int .i64 a_.1)] [(.slice pa0 pn0 pc0)] rfl rfl (fun _ => rfl)) _ (Chg.refl _ _))) ?_
    obtain ⟨r30, hr30, hs⟩ := bind_some hs
    refine pl_call Bd124 rfl (c_impl_isOp (M := M) (x21.1, x21.2) a_.1 hv25x2 hO.fut hr30) ?_
    rintro _ w29 ⟨rfl, hC29⟩
    have h0 := h0.ext hC29
    have hb2 := hb2.chg hC29 (fun h => nomatch h)
    have hv25x2 := hv25x2.ext hC29
    have hb28 := hb28.chg hC29 (fun h => nomatch h)
    have hC := hC.ext hC29
    have hO := hO.ext hC29
    refine pl_val (.bool (!r30)) (y_not rfl) ?_
    refine c_nil ?_
    rcases bif_some hs with ⟨hc31, hs⟩ | ⟨hc31, hs⟩
    ·skip
     refine c_condT (congrArg Value.bool hc31) ?_
     refine c_seq (c_region ?_)
     refine pl_val (.bool false) (y_assign rfl) ?_
     refine c_nil ?_
     refine wp_ret ?_
     cases hs
     exact ⟨_, fr_ovl 32 ⟨rfl, trivial⟩, hC⟩
    ·skip
     refine c_condF (congrArg Value.bool hc31) ?_
     refine wp_skip ?_
     refine c_region ?_
     refine pl_val (.int .i64 (w64 ((k20 : Int) + 1))) (y_add rfl rfl) ?_
     refine pl_val (.int .i64 (w64 ((k20 : Int) + 1))) (y_move rfl) ?_
     refine c_nil ?_
     cases hs
     have hO := hO.drop
     exact ⟨_, rfl, drop_cons_next hd, _, fr_ovl 32 ⟨rfl, rfl, rfl, congrArg (Value.int .i64) (w64_succ hlt (Int.natCast_nonneg _) (rs_max h0)), trivial⟩, hC, hO, h0, hb2⟩
   ·skip
    exact ⟨0, rfl, rfl, _, fr_ovl 32 ⟨rfl, rfl, rfl, rfl, trivial⟩, hC, hO, h0, hb2⟩
   ·cases o22 with
    | nx _ => exact True.intro
    | rt r_ =>
     have hs := after_rt hs
     intro a1 w1 hK
     cases hs
     exact hK
    | br s18 =>
     have hs := after_br hs
     rintro a1 w19 ⟨σ, rfl, hC, hO, h0, hb2⟩
     refine c_seq (c_region ?_)
     refine pl_val (.bool true) (y_assign rfl) ?_
     refine c_nil ?_
     refine wp_ret ?_
     cases hs
     exact ⟨_, fr_ovl 32 ⟨rfl, trivial⟩, hC⟩

def k_impl_identityOf (M : Nat → Prop) (w0 : World) (r : (List Int)) (a : Act) (w : World) : Prop :=
  ∃ (σ : Nat → Value) (ra0 : Option Addr) (rn0 rc0 : Nat) (rf0 : List Nat), a = fr 18 (ovl σ [(2, (.slice ra0 rn0 rc0))]) ∧ Chg [] w0 w ∧ (RT.os 3 (RT.int .i64)).val M w (.slice ra0 rn0 rc0) r rf0 ∧ Own (Nw w0 []) (fun _ => True) w (rf0 ++ ([]))
def s_impl_identityOf (n : Int) : Option ((List Int)) :=
  (mks n (0 : Int)).bind fun y2 =>
  (forC (S := (List Int)) (R := (List Int)) (fun k13 s11 =>
  (idx s11 k13).bind fun x19 =>
  some (.nx (List.set s11 (Int.toNat k13) k13))) 0 (y2.length : Int) y2).bind fun o15 => after o15 (fun r_ => some r_) (fun s11 =>
  some s11)
set_option maxHeartbeats 4000000 in
theorem c_impl_identityOf {M : Nat → Prop} {w : World}  (n : Int)  (hM : ∀ g, w.heap.size ≤ g → M g) {r : (List Int)} (hs : s_impl_identityOf n = some r) :
    Gives Try.prog 126 [(.int .i64 n)] w (fun v w' => ∃ (ra0 : Option Addr) (rn0 rc0 : Nat) (rf0 : List Nat), v = (.slice ra0 rn0 rc0) ∧ Chg [] w w' ∧ (RT.os 3 (RT.int .i64)).val M w' (.slice ra0 rn0 rc0) r rf0 ∧ Own (Nw w []) (fun _ => True) w' (rf0 ++ ([]))) := by
 refine calls_fr Try.func126 rfl Try.ntmps126 (Nat.le_of_ble_eq_true rfl) ?_
 have hO := Own.start (N := Nw w []) hM Nw.fut
 have hC := Chg.refl [] w
 unfold s_impl_identityOf at hs
 refine wp_mono (Q := KPost (k_impl_identityOf M w r)) ?_ (fun e a w1 h => ?_)
 rotate_left
 ·cases e
  case ret =>
   obtain ⟨σ, ra0, rn0, rc0, rf0, rfl, hrest⟩ := h
   exact ret1x Try.results126 (res_tmp rfl) ⟨ra0, rn0, rc0, rf0, rfl, hrest⟩
  all_goals exact (h : False).elim
 refine c_seq (c_region ?_)
 refine pl_val (.slice none 0 0) (y_assign rfl) ?_
 refine c_nil ?_
 refine c_seq (c_region ?_)
 refine pl_val (.int .i64 n) (y_move rfl) ?_
 obtain ⟨y2, hy2, hs⟩ := bind_some hs
 obtain ⟨a1, n1, c1, w1, f1, hm1, hC1, hfr1, hv1⟩ := mk_os (M := M) (w := w) (r := (RT.int .i64)) Rw22 hy2 (fun _ _ => ⟨rfl, rfl⟩)
 refine pl_val (w' := w1) (.slice a1 n1 c1) (y_make rfl rfl hm1) ?_
 have hC := hC.ext hC1
 have hO := hO.new hC1 hfr1 (os_nodup hv1) hv1.fpl
 refine pl_val (.slice a1 n1 c1) (y_assign rfl) ?_
 refine c_nil ?_
 refine c_seq ?_
 refine c_seq (c_region ?_)
 refine pl_val (.slice a1 n1 c1) (y_move rfl) ?_
 refine pl_val (.int .i64 (y2.length : Int)) (y_len' Sl22 (os_len hv1) rfl) ?_
 refine pl_val (.int .i64 0) (y_move rfl) ?_
 refine c_nil ?_
 obtain ⟨o15, hl16, hs⟩ := bind_some hs
 refine wp_block ?_
 refine wp_forC (id := 0) (y2.length : Int) (I := fun k13 s11 a w12 => ∃ (σ : Nat → Value) (f17 : List Nat), a = fr 18 (ovl σ [(3, (.slice a1 n1 c1)), (8, (.int .i64 (y2.length : Int))), (9, (.int .i64 k13))]) ∧ Chg [] w w12 ∧ Own (Nw w []) M w12 (f17 ++ []) ∧ (RT.os 3 (RT.int .i64)).val M w12 (.slice a1 n1 c1) s11 f17) (J := fun s11 a w12 => ∃ (σ : Nat → Value) (f18 : List Nat), a = fr 18 (ovl σ [(3, (.slice a1 n1 c1))]) ∧ Chg [] w w12 ∧ Own (Nw w []) M w12 (f18 ++ []) ∧ (RT.os 3 (RT.int .i64)).val M w12 (.slice a1 n1 c1) s11 f18) (K := (k_impl_identityOf M w)) ?_ ?_ 0 y2 o15 _ _ ?_ hl16 ?_
 ·rintro k13 s11 a w12 ⟨σ, f17, rfl, hC, hO, hv17⟩ hlt
  refine c_seq (c_region ?_)
  refine pl_val (.bool (decide (k13 < (y2.length : Int)))) (y_lss rfl rfl) ?_
  refine c_nil ?_
  refine c_seq ?_
  refine c_condF (congrArg Value.bool (decide_eq_false hlt)) ?_
  refine wp_exit ?_
  exact ⟨rfl, _, f17, fr_ovl 18 ⟨rfl, trivial⟩, hC, hO, hv17⟩
 ·rintro k13 s11 o15 a w12 ⟨σ, f17, rfl, hC, hO, hv17⟩ hlt hw hs
  refine c_seq (c_region ?_)
  refine pl_val (.bool (decide (k13 < (y2.length : Int)))) (y_lss rfl rfl) ?_
  refine c_nil ?_
  refine c_seq ?_
  refine c_condT (congrArg Value.bool (decide_eq_true hlt)) ?_
  refine wp_skip ?_
  refine c_seq ?_
  refine wp_block ?_
  refine c_seq (c_region ?_)
  refine pl_val (.int .i64 k13) (y_move rfl) ?_
  refine pl_val (.int .i64 k13) (y_assign rfl) ?_
  refine c_nil ?_
  refine c_region ?_
  refine pl_val (.slice a1 n1 c1) (y_move rfl) ?_
  refine pl_val (.int .i64 k13) (y_move rfl) ?_
  refine pl_val (.int .i64 k13) (y_move rfl) ?_
  obtain ⟨x19, hx19, hs⟩ := bind_some hs
  obtain ⟨g20, f20, hg20, hk20, hp20, ha20, hf20⟩ := os_idx Sl22 Sz3 hv17 hx19
  refine pl_val (.pointer (some ⟨g20, 0 + Int.toNat k13 * 1, none⟩)) (hp20 _ _ _ _ _ _ _ _ _ rfl rfl) ?_
  obtain ⟨w21, f21, hst21, hC21, hf21, hv21⟩ := os_store (P := Try.prog) (c' := [(.int .i64 k13)]) hg20 hv17 hk20 (fun g hg => hO.inM g (os_block hv17 g (by simpa using hg))) ⟨rfl, rfl⟩ List.nodup_nil (fun _ h => nomatch h) (fun _ h => .inl h)
  have hG21 : ∀ q ∈ [g20], q ∈ f17 := fun q hq => os_block hv17 q (by rw [hg20]; exact hq)
  refine pl_skip (w' := w21) (ys_store rfl rfl (hst21 _ _ rfl Sz3)) ?_
  have hC := hC.step hC21 (fun g hg => hO.inN g (hG21 g hg))
  have hO := hO.grow hC21 (fun q hq => .inl ((hf21 q hq).resolve_right (fun h => nomatch h))) (os_nodup hv21) hv21.fpl
  refine c_nil ?_
  refine c_region ?_
  refine pl_val (.int .i64 (w64 (k13 + 1))) (y_add rfl rfl) ?_
  refine pl_val (.int .i64 (w64 (k13 + 1))) (y_move rfl) ?_
  refine c_nil ?_
  cases hs
  exact ⟨_, f21, fr_ovl 18 ⟨rfl, rfl, congrArg (Value.int .i64) hw, trivial⟩, hC, hO, hv21⟩
 ·skip
  exact ⟨_, f1, fr_ovl 18 ⟨rfl, rfl, rfl, trivial⟩, hC, hO, hv1⟩
 ·cases o15 with
  | nx _ => exact True.intro
  | rt r_ =>
   have hs := after_rt hs
   intro a1 w1 hK
   cases hs
   exact hK
  | br s11 =>
   have hs := after_br hs
   rintro a1 w12 ⟨σ, f18, rfl, hC, hO, hv18⟩
   refine c_seq (c_region ?_)
   refine pl_val (.slice a1 n1 c1) (y_move rfl) ?_
   refine pl_val (.slice a1 n1 c1) (y_assign rfl) ?_
   refine c_nil ?_
   refine wp_ret ?_
   cases hs
   exact ⟨_, a1, n1, c1, f18, fr_ovl 18 ⟨rfl, trivial⟩, hC, hv18, hO.top⟩

def k_impl_unite (M : Nat → Prop) (w0 : World) (qa0 : Option Addr) (qn0 qc0 : Nat) (qf0 : List Nat) (r : Bool × (List Int)) (a : Act) (w : World) : Prop :=
  ∃ (σ : Nat → Value) (rfi0 : List Nat), a = fr 40 (ovl σ [(6, (.bool r.1))]) ∧ Chg (qf0 ++ ([])) w0 w ∧ (RT.os 3 (RT.int .i64)).val M w (.slice qa0 qn0 qc0) r.2 rfi0 ∧ Own (Nw w0 (qf0 ++ ([]))) (fun _ => True) w (rfi0 ++ ([]))
def s_impl_unite (p : List Int) (x_ : Int) (y : Int) : Option (Bool × (List Int)) :=
  (idx p x_).bind fun x8 =>
  (idx p y).bind fun x10 =>
  (bif (x8 == x10) then some (false, p) else (bif (decide (x10 < x8)) then some (x10, x8) else some (x8, x10)).bind fun s13 =>
  (forC (S := (List Int)) (R := Bool × (List Int)) (fun k32 s30 =>
  (idx s30 k32).bind fun x38 =>
  (bif (x38 == s13.2) then (idx s30 k32).bind fun x41 =>
  some (.nx (List.set s30 (Int.toNat k32) s13.1)) else some (.nx s30))) 0 (p.length : Int) p).bind fun o34 => after o34 (fun r_ => some r_) (fun s30 =>
  some (true, s30)))
set_option maxHeartbeats 4000000 in
theorem c_impl_unite {M : Nat → Prop} {w : World} {pa0 : Option Addr} {pn0 pc0 : Nat} {pf0 : List Nat} (p : List Int) (x_ : Int) (y : Int) (h0 : (RT.os 3 (RT.int .i64)).val M w (.slice pa0 pn0 pc0) p pf0) (hI : Own (Nw w (pf0 ++ ([]))) M w (pf0 ++ ([]))) (hM : ∀ g, w.heap.size ≤ g → M g) {r : Bool × (List Int)} (hs : s_impl_unite p x_ y = some r) :
    Gives Try.prog 103 [(.slice pa0 pn0 pc0), (.int .i64 x_), (.int .i64 y)] w (fun v w' => ∃ (rfi0 : List Nat), v = (.bool r.1) ∧ Chg (pf0 ++ ([])) w w' ∧ (RT.os 3 (RT.int .i64)).val M w' (.slice pa0 pn0 pc0) r.2 rfi0 ∧ Own (Nw w (pf0 ++ ([]))) (fun _ => True) w' (rfi0 ++ ([]))) := by
 refine calls_fr Try.func103 rfl Try.ntmps103 (Nat.le_of_ble_eq_true rfl) ?_
 have hO := hI
 have hC := Chg.refl (pf0 ++ ([])) w
 unfold s_impl_unite at hs
 refine wp_mono (Q := KPost (k_impl_unite M w pa0 pn0 pc0 pf0 r)) ?_ (fun e a w1 h => ?_)
 rotate_left
 ·cases e
  case ret =>
   obtain ⟨σ, rfi0, rfl, hrest⟩ := h
   exact ret1x Try.results103 (res_tmp rfl) ⟨rfi0, rfl, hrest⟩
  all_goals exact (h : False).elim
 refine c_seq (c_region ?_)
 refine pl_val (.bool false) (y_assign rfl) ?_
 refine c_nil ?_
 refine c_seq ?_
 refine x_start [] Mx rfl ?_
 have hCw7 := Chg.drew w
 generalize World.drew w = w7 at hCw7 ⊢
 have h0 := h0.ext hCw7
 have hC := hC.ext hCw7
 have hO := hO.ext hCw7
 have hS := Chg.refl [] w7
 refine x_p 0 (.slice pa0 pn0 pc0) rfl (by kernel_rfl)  (fun _ => y_move rfl) (fun _ => hS) ?_
 refine x_p 1 (.int .i64 x_) rfl (by kernel_rfl)  (fun _ => y_move rfl) (fun _ => hS) ?_
 obtain ⟨x8, hx8, hs⟩ := bind_some hs
 obtain ⟨g9, f9, hg9, hk9, hp9, ha9, hf9⟩ := os_idx Sl22 Sz3 h0 hx8
 refine x_p 2 (.pointer (some ⟨g9, 0 + Int.toNat x_ * 1, none⟩)) rfl (by kernel_rfl)  (fun _ => hp9 _ _ _ _ _ _ _ _ _ rfl rfl) (fun _ => hS) ?_
 refine x_l 3 (.int .i64 x8) rfl (by kernel_rfl)  (fun w' hw' => y_load rfl ((at_load_int Ag3 Sz3 ha9) w' hw')) hS ?_
 refine x_p 4 (.slice pa0 pn0 pc0) rfl (by kernel_rfl)  (fun _ => y_move rfl) (fun _ => hS) ?_
 refine x_p 5 (.int .i64 y) rfl (by kernel_rfl)  (fun _ => y_move rfl) (fun _ => hS) ?_
 obtain ⟨x10, hx10, hs⟩ := bind_some hs
 obtain ⟨g11, f11, hg11, hk11, hp11, ha11, hf11⟩ := os_idx Sl22 Sz3 h0 hx10
 refine x_p 6 (.pointer (some ⟨g11, 0 + Int.toNat y * 1, none⟩)) rfl (by kernel_rfl)  (fun _ => hp11 _ _ _ _ _ _ _ _ _ rfl rfl) (fun _ => hS) ?_
 refine x_l 7 (.int .i64 x10) rfl (by kernel_rfl)  (fun w' hw' => y_load rfl ((at_load_int Ag3 Sz3 ha11) w' hw')) hS ?_
 refine x_p 8 (.int .i64 x8) rfl (by kernel_rfl)  (fun _ => y_assign rfl) (fun _ => hS) ?_
 refine x_p 9 (.int .i64 x10) rfl (by kernel_rfl)  (fun _ => y_assign rfl) (fun _ => hS) ?_
 refine x_end (by kernel_rfl) ?_
 clear hS
 refine c_seq ?_
 refine c_seq (c_region ?_)
 refine pl_val (.int .i64 x8) (y_move rfl) ?_
 refine pl_val (.int .i64 x10) (y_move rfl) ?_
 refine pl_val (.bool (x8 == x10)) (y_eql rfl rfl) ?_
 refine c_nil ?_
 rcases bif_some hs with ⟨hc12, hs⟩ | ⟨hc12, hs⟩
 ·skip
  refine c_condT (congrArg Value.bool hc12) ?_
  refine c_seq (c_region ?_)
  refine pl_val (.bool false) (y_assign rfl) ?_
  refine c_nil ?_
  refine wp_ret ?_
  cases hs
  exact ⟨_, pf0, fr_ovl 40 ⟨rfl, trivial⟩, hC, h0, hO.top⟩
 ·skip
  refine c_condF (congrArg Value.bool hc12) ?_
  refine wp_skip ?_
  refine c_seq ?_
  refine c_seq (c_region ?_)
  refine pl_val (.int .i64 x8) (y_move rfl) ?_
  refine pl_val (.int .i64 x10) (y_move rfl) ?_
  refine pl_val (.bool (decide (x10 < x8))) (y_gtr rfl rfl) ?_
  refine c_nil ?_
  obtain ⟨s13, hm15, hs⟩ := bind_some hs
  refine c_mid (I := fun a w14 => ∃ (σ : Nat → Value), a = fr 40 (ovl σ [(0, (.slice pa0 pn0 pc0)), (1, (.int .i64 s13.1)), (2, (.int .i64 s13.2))]) ∧ Chg (pf0 ++ ([])) w w14 ∧ Own (Nw w (pf0 ++ ([]))) M w14 (pf0 ++ []) ∧ (RT.os 3 (RT.int .i64)).val M w14 (.slice pa0 pn0 pc0) p pf0) ?_ ?_
  ·replace hs := hm15
   rcases bif_some hs with ⟨hc16, hs⟩ | ⟨hc16, hs⟩
   ·skip
    refine c_condT (congrArg Value.bool hc16) ?_
    refine c_region ?_
    refine pl_val (.int .i64 x10) (y_move rfl) ?_
    refine pl_val (.int .i64 x8) (y_move rfl) ?_
    refine pl_val (.int .i64 x10) (y_assign rfl) ?_
    refine pl_val (.int .i64 x8) (y_assign rfl) ?_
    refine c_nil ?_
    cases hs
    exact ⟨_, fr_ovl 40 ⟨rfl, rfl, rfl, trivial⟩, hC, hO, h0⟩
   ·skip
    refine c_condF (congrArg Value.bool hc16) ?_
    refine wp_skip ?_
    cases hs
    exact ⟨_, fr_ovl 40 ⟨rfl, rfl, rfl, trivial⟩, hC, hO, h0⟩
  ·rintro a1 w14 ⟨σ, rfl, hC, hO, h0⟩
   refine c_seq ?_
   refine c_seq (c_region ?_)
   refine pl_val (.slice pa0 pn0 pc0) (y_move rfl) ?_
   refine pl_val (.int .i64 (p.length : Int)) (y_len' Sl22 (os_len h0) rfl) ?_
   refine pl_val (.int .i64 0) (y_move rfl) ?_
   refine c_nil ?_
   obtain ⟨o34, hl35, hs⟩ := bind_some hs
   refine wp_block ?_
   refine wp_forC (id := 0) (p.length : Int) (I := fun k32 s30 a w31 => ∃ (σ : Nat → Value) (f36 : List Nat), a = fr 40 (ovl σ [(0, (.slice pa0 pn0 pc0)), (1, (.int .i64 s13.1)), (2, (.int .i64 s13.2)), (25, (.int .i64 (p.length : Int))), (26, (.int .i64 k32))]) ∧ Chg (pf0 ++ ([])) w w31 ∧ Own (Nw w (pf0 ++ ([]))) M w31 (f36 ++ []) ∧ (RT.os 3 (RT.int .i64)).val M w31 (.slice pa0 pn0 pc0) s30 f36) (J := fun s30 a w31 => ∃ (σ : Nat → Value) (f37 : List Nat), a = fr 40 (ovl σ []) ∧ Chg (pf0 ++ ([])) w w31 ∧ Own (Nw w (pf0 ++ ([]))) M w31 (f37 ++ []) ∧ (RT.os 3 (RT.int .i64)).val M w31 (.slice pa0 pn0 pc0) s30 f37) (K := (k_impl_unite M w pa0 pn0 pc0 pf0)) ?_ ?_ 0 p o34 _ _ ?_ hl35 ?_
   ·rintro k32 s30 a w31 ⟨σ, f36, rfl, hC, hO, hv36⟩ hlt
    refine c_seq (c_region ?_)
    refine pl_val (.bool (decide (k32 < (p.length : Int)))) (y_lss rfl rfl) ?_
    refine c_nil ?_
    refine c_seq ?_
    refine c_condF (congrArg Value.bool (decide_eq_false hlt)) ?_
    refine wp_exit ?_
    exact ⟨rfl, _, f36, fr_ovl 40 trivial, hC, hO, hv36⟩
   ·rintro k32 s30 o34 a w31 ⟨σ, f36, rfl, hC, hO, hv36⟩ hlt hw hs
    refine c_seq (c_region ?_)
    refine pl_val (.bool (decide (k32 < (p.length : Int)))) (y_lss rfl rfl) ?_
    refine c_nil ?_
    refine c_seq ?_
    refine c_condT (congrArg Value.bool (decide_eq_true hlt)) ?_
    refine wp_skip ?_
    refine c_seq ?_
    refine wp_block ?_
    refine c_seq (c_region ?_)
    refine pl_val (.int .i64 k32) (y_move rfl) ?_
    refine pl_val (.int .i64 k32) (y_assign rfl) ?_
    refine c_nil ?_
    refine c_seq (c_region ?_)
    refine pl_val (.slice pa0 pn0 pc0) (y_move rfl) ?_
    refine pl_val (.int .i64 k32) (y_move rfl) ?_
    obtain ⟨x38, hx38, hs⟩ := bind_some hs
    obtain ⟨g39, f39, hg39, hk39, hp39, ha39, hf39⟩ := os_idx Sl22 Sz3 hv36 hx38
    refine pl_val (.pointer (some ⟨g39, 0 + Int.toNat k32 * 1, none⟩)) (hp39 _ _ _ _ _ _ _ _ _ rfl rfl) ?_
    refine pl_val (.int .i64 x38) (y_load rfl ((at_load_int Ag3 Sz3 ha39) _ (Chg.refl _ _))) ?_
    refine pl_val (.int .i64 s13.2) (y_move rfl) ?_
    refine pl_val (.bool (x38 == s13.2)) (y_eql rfl rfl) ?_
    refine c_nil ?_
    rcases bif_some hs with ⟨hc40, hs⟩ | ⟨hc40, hs⟩
    ·skip
     refine c_condT (congrArg Value.bool hc40) ?_
     refine c_region ?_
     refine pl_val (.slice pa0 pn0 pc0) (y_move rfl) ?_
     refine pl_val (.int .i64 k32) (y_move rfl) ?_
     refine pl_val (.int .i64 s13.1) (y_move rfl) ?_
     obtain ⟨x41, hx41, hs⟩ := bind_some hs
     obtain ⟨g42, f42, hg42, hk42, hp42, ha42, hf42⟩ := os_idx Sl22 Sz3 hv36 hx41
     refine pl_val (.pointer (some ⟨g42, 0 + Int.toNat k32 * 1, none⟩)) (hp42 _ _ _ _ _ _ _ _ _ rfl rfl) ?_
     obtain ⟨w43, f43, hst43, hC43, hf43, hv43⟩ := os_store (P := Try.prog) (c' := [(.int .i64 s13.1)]) hg42 hv36 hk42 (fun g hg => hO.inM g (os_block hv36 g (by simpa using hg))) ⟨rfl, rfl⟩ List.nodup_nil (fun _ h => nomatch h) (fun _ h => .inl h)
     have hG43 : ∀ q ∈ [g42], q ∈ f36 := fun q hq => os_block hv36 q (by rw [hg42]; exact hq)
     refine pl_skip (w' := w43) (ys_store rfl rfl (hst43 _ _ rfl Sz3)) ?_
     have hC := hC.step hC43 (fun g hg => hO.inN g (hG43 g hg))
     have hO := hO.grow hC43 (fun q hq => .inl ((hf43 q hq).resolve_right (fun h => nomatch h))) (os_nodup hv43) hv43.fpl
     refine c_nil ?_
     refine c_region ?_
     refine pl_val (.int .i64 (w64 (k32 + 1))) (y_add rfl rfl) ?_
     refine pl_val (.int .i64 (w64 (k32 + 1))) (y_move rfl) ?_
     refine c_nil ?_
     cases hs
     exact ⟨_, f43, fr_ovl 40 ⟨rfl, rfl, rfl, rfl, congrArg (Value.int .i64) hw, trivial⟩, hC, hO, hv43⟩
    ·skip
     refine c_condF (congrArg Value.bool hc40) ?_
     refine wp_skip ?_
     refine c_region ?_
     refine pl_val (.int .i64 (w64 (k32 + 1))) (y_add rfl rfl) ?_
     refine pl_val (.int .i64 (w64 (k32 + 1))) (y_move rfl) ?_
     refine c_nil ?_
     cases hs
     exact ⟨_, f36, fr_ovl 40 ⟨rfl, rfl, rfl, rfl, congrArg (Value.int .i64) hw, trivial⟩, hC, hO, hv36⟩
   ·skip
    exact ⟨_, pf0, fr_ovl 40 ⟨rfl, rfl, rfl, rfl, rfl, trivial⟩, hC, hO, h0⟩
   ·cases o34 with
    | nx _ => exact True.intro
    | rt r_ =>
     have hs := after_rt hs
     intro a1 w1 hK
     cases hs
     exact hK
    | br s30 =>
     have hs := after_br hs
     rintro a1 w31 ⟨σ, f37, rfl, hC, hO, hv37⟩
     refine c_seq (c_region ?_)
     refine pl_val (.bool true) (y_assign rfl) ?_
     refine c_nil ?_
     refine wp_ret ?_
     cases hs
     exact ⟨_, f37, fr_ovl 40 ⟨rfl, trivial⟩, hC, hv37, hO.top⟩

theorem Bd103 : Bodied Try.prog 103 := bodied Try.func103 (by kernel_rfl) rfl

end Go.Proofs
