/- What functions of the program compute, as plain functions, and that a call gives just that. Conditions: those named in each theorem. -/
import Derived.Test.YtchgbcjecdnclaaF0
set_option linter.unusedVariables false
namespace Go.Proofs
open Go.G Go.RowKit
set_option maxRecDepth 100000

def k_spec_l6Put (M : Nat → Prop) (w0 : World) (r : (List (List Int))) (a : Act) (w : World) : Prop :=
  ∃ (σ : Nat → Value) (ra0 : Option Addr) (rn0 rc0 : Nat), a = fr 65 (ovl σ [(4, (.slice ra0 rn0 rc0))]) ∧ Chg [] w0 w ∧ (RT.rs (RT.rs (RT.int .i64))).val (Past M w0 w) w (.slice ra0 rn0 rc0) r []
def s_spec_l6Put (list : List (List Int)) (p : List Int) : Option ((List (List Int))) :=
  (iter (S := Int) (R := (List (List Int))) (fun s29 =>
  (bif (decide (s29 < (list.length : Int))) then (idx list s29).bind fun x36 =>
  (s_spec_l6Count x36).bind fun r41 =>
  (s_spec_l6Count p).bind fun r43 =>
  (bif (decide (r43 < r41)) then some (.nx (w64 (s29 + 1))) else (idx list s29).bind fun x45 =>
  (s_spec_l6Count x45).bind fun r50 =>
  (s_spec_l6Count p).bind fun r52 =>
  (bif (r50 == r52) then (idx list s29).bind fun x54 =>
  (s_spec_l5Less x54 p).bind fun r59 =>
  (bif r59 then some (.nx (w64 (s29 + 1))) else some (.br s29)) else some (.br s29))) else some (.br s29))) FU 0).bind fun o33 => after o33 (fun r_ => some r_) (fun s29 =>
  ((bif (decide (s29 < (list.length : Int))) then (idx list s29).bind fun x65 =>
  (s_spec_l1Same x65 p).bind fun r70 =>
  some r70 else some false)).bind fun s61 =>
  (bif s61 then some list else (slc list 0 s29).bind fun y74 =>
  (slc list s29 (list.length : Int)).bind fun y77 =>
  (app ([]) y74).bind fun y83 =>
  (app y83 ([p])).bind fun y88 =>
  (app y88 y77).bind fun y91 =>
  some y91))
set_option maxHeartbeats 4000000 in
theorem c_spec_l6Put {M : Nat → Prop} {w : World} {pa0 : Option Addr} {pn0 pc0 : Nat} {pa1 : Option Addr} {pn1 pc1 : Nat} (list : List (List Int)) (p : List Int) (h0 : (RT.rs (RT.rs (RT.int .i64))).val M w (.slice pa0 pn0 pc0) list ([])) (h1 : (RT.rs (RT.int .i64)).val M w (.slice pa1 pn1 pc1) p ([])) (hM : ∀ g, w.heap.size ≤ g → M g) {r : (List (List Int))} (hs : s_spec_l6Put list p = some r) :
    Gives Try.prog 107 [(.slice pa0 pn0 pc0), (.slice pa1 pn1 pc1)] w (fun v w' => ∃ (ra0 : Option Addr) (rn0 rc0 : Nat), v = (.slice ra0 rn0 rc0) ∧ Chg [] w w' ∧ (RT.rs (RT.rs (RT.int .i64))).val (Past M w w') w' (.slice ra0 rn0 rc0) r []) := by
 refine calls_fr Try.func107 rfl Try.ntmps107 (Nat.le_of_ble_eq_true rfl) ?_
 have hO := Own.start (N := Nw w []) hM Nw.fut
 have hC := Chg.refl [] w
 unfold s_spec_l6Put at hs
 refine wp_mono (Q := KPost (k_spec_l6Put M w r)) ?_ (fun e a w1 h => ?_)
 rotate_left
 ·cases e
  case ret =>
   obtain ⟨σ, ra0, rn0, rc0, rfl, hrest⟩ := h
   exact ret1x Try.results107 (res_tmp rfl) ⟨ra0, rn0, rc0, rfl, hrest⟩
  all_goals exact (h : False).elim
 refine c_seq (c_region ?_)
 refine pl_val (.slice none 0 0) (y_assign rfl) ?_
 refine c_nil ?_
 refine c_seq (c_region ?_)
 refine pl_val (.int .i64 0) (y_assign rfl) ?_
 refine c_nil ?_
 refine c_seq ?_
 obtain ⟨o33, hl34, hs⟩ := bind_some hs
 refine wp_block ?_
 refine wp_iter (id := 0) (I := fun s29 a w30 => ∃ (σ : Nat → Value), a = fr 65 (ovl σ [(0, (.slice pa0 pn0 pc0)), (1, (.slice pa1 pn1 pc1)), (5, (.int .i64 s29))]) ∧ Chg [] w w30 ∧ Own (Nw w []) M w30 ([]) ∧ (RT.rs (RT.rs (RT.int .i64))).val M w30 (.slice pa0 pn0 pc0) list ([]) ∧ (RT.rs (RT.int .i64)).val M w30 (.slice pa1 pn1 pc1) p ([])) (J := fun s29 a w30 => ∃ (σ : Nat → Value), a = fr 65 (ovl σ [(0, (.slice pa0 pn0 pc0)), (1, (.slice pa1 pn1 pc1)), (5, (.int .i64 s29))]) ∧ Chg [] w w30 ∧ Own (Nw w []) M w30 ([]) ∧ (RT.rs (RT.rs (RT.int .i64))).val M w30 (.slice pa0 pn0 pc0) list ([]) ∧ (RT.rs (RT.int .i64)).val M w30 (.slice pa1 pn1 pc1) p ([])) (K := (k_spec_l6Put M w)) ?_ FU 0 o33 _ _ ?_ hl34 ?_
 ·rintro s29 o33 a w30 ⟨σ, rfl, hC, hO, h0, h1⟩ hs
  refine c_seq ?_
  refine c_seq (c_region ?_)
  refine pl_val (.int .i64 s29) (y_move rfl) ?_
  refine pl_val (.slice pa0 pn0 pc0) (y_move rfl) ?_
  refine pl_val (.int .i64 (list.length : Int)) (y_len' Sl41 (rs_len h0) rfl) ?_
  refine pl_val (.bool (decide (s29 < (list.length : Int)))) (y_lss rfl rfl) ?_
  refine pl_val (.bool (decide (s29 < (list.length : Int)))) (y_move rfl) ?_
  rcases bif_some hs with ⟨hc35, hs⟩ | ⟨hc35, hs⟩
  ·skip
   refine pl_yes (.slice pa0 pn0 pc0) (tg := 10) (by kernel_rfl) (congrArg Value.bool hc35) (y_move rfl) ?_
   refine pl_yes (.int .i64 s29) (tg := 10) (by kernel_rfl) (congrArg Value.bool hc35) (y_move rfl) ?_
   obtain ⟨x36, hx36, hs⟩ := bind_some hs
   obtain ⟨b37, o37, hp37, ha37⟩ := rs_idx Sl41 Sz22 h0 hx36
   refine pl_yes (.pointer (some ⟨b37, o37, none⟩)) (tg := 10) (by kernel_rfl) (congrArg Value.bool hc35) (hp37 _ _ _ _ _ _ _ _ _ rfl rfl) ?_
   obtain ⟨v38, hl38, hv38⟩ := at_load Ag22 Sz22 (fun _ => rfl) ha37
   obtain ⟨a38, n38, c38, rfl⟩ := rs_sl hv38
   refine pl_yes (.slice a38 n38 c38) (tg := 10) (by kernel_rfl) (congrArg Value.bool hc35) (y_load rfl (hl38 _ (Chg.refl _ _))) ?_
   obtain ⟨r41, hr41, hs⟩ := bind_some hs
   refine pl_cally (tg := 10) (by kernel_rfl) (congrArg Value.bool hc35) Bd121 rfl (c_spec_l6Count (M := M) x36 hv38 hO.fut hr41) ?_
   rintro _ w40 ⟨rfl, hC40⟩
   have h0 := h0.ext hC40
   have h1 := h1.ext hC40
   have hv38 := hv38.ext hC40
   have hC := hC.ext hC40
   have hO := hO.ext hC40
   refine pl_yes (.slice pa1 pn1 pc1) (tg := 10) (by kernel_rfl) (congrArg Value.bool hc35) (y_move rfl) ?_
   obtain ⟨r43, hr43, hs⟩ := bind_some hs
   refine pl_cally (tg := 10) (by kernel_rfl) (congrArg Value.bool hc35) Bd121 rfl (c_spec_l6Count (M := M) p h1 hO.fut hr43) ?_
   rintro _ w42 ⟨rfl, hC42⟩
   have h0 := h0.ext hC42
   have h1 := h1.ext hC42
   have hv38 := hv38.ext hC42
   have hC := hC.ext hC42
   have hO := hO.ext hC42
   refine pl_yes (.bool (decide (r43 < r41))) (tg := 10) (by kernel_rfl) (congrArg Value.bool hc35) (y_gtr rfl rfl) ?_
   refine pl_yes (.bool (decide (r43 < r41))) (tg := 10) (by kernel_rfl) (congrArg Value.bool hc35) (y_move rfl) ?_
   rcases bif_some hs with ⟨hc44, hs⟩ | ⟨hc44, hs⟩
   ·skip
    refine pl_not (tg := 19) (by kernel_rfl) (congrArg Value.bool hc44) ?_
    refine pl_not (tg := 19) (by kernel_rfl) (congrArg Value.bool hc44) ?_
    refine pl_not (tg := 19) (by kernel_rfl) (congrArg Value.bool hc44) ?_
    refine pl_not (tg := 19) (by kernel_rfl) (congrArg Value.bool hc44) ?_
    refine pl_not (tg := 19) (by kernel_rfl) (congrArg Value.bool hc44) ?_
    refine pl_not (tg := 19) (by kernel_rfl) (congrArg Value.bool hc44) ?_
    refine pl_not (tg := 19) (by kernel_rfl) (congrArg Value.bool hc44) ?_
    refine pl_not (tg := 19) (by kernel_rfl) (congrArg Value.bool hc44) ?_
    refine pl_not (tg := 19) (by kernel_rfl) (congrArg Value.bool hc44) ?_
    refine pl_nou (tg := 28) (by kernel_rfl) rfl ?_
    refine pl_nou (tg := 28) (by kernel_rfl) rfl ?_
    refine pl_nou (tg := 28) (by kernel_rfl) rfl ?_
    refine pl_nou (tg := 28) (by kernel_rfl) rfl ?_
    refine pl_nou (tg := 28) (by kernel_rfl) rfl ?_
    refine pl_nou (tg := 28) (by kernel_rfl) rfl ?_
    refine pl_not (tg := 19) (by kernel_rfl) (congrArg Value.bool hc44) ?_
    refine pl_yes (.bool true) (tg := 10) (by kernel_rfl) (congrArg Value.bool hc35) (y_pick_t (congrArg Value.bool hc44) rfl) ?_
    refine pl_val (.bool true) (y_pick_t (congrArg Value.bool hc35) rfl) ?_
    refine c_nil ?_
    refine c_condT (by rfl) ?_
    refine wp_skip ?_
    refine wp_block ?_
    refine c_region ?_
    refine pl_val (.int .i64 s29) (y_move rfl) ?_
    refine pl_val (.int .i64 (w64 (s29 + 1))) (y_add rfl rfl) ?_
    refine pl_val (.int .i64 (w64 (s29 + 1))) (y_assign rfl) ?_
    refine c_nil ?_
    cases hs
    exact ⟨_, fr_ovl 65 ⟨rfl, rfl, rfl, trivial⟩, hC, hO, h0, h1⟩
   ·skip
    refine pl_yes (.slice pa0 pn0 pc0) (tg := 19) (by kernel_rfl) (congrArg Value.bool hc44) (y_move rfl) ?_
    refine pl_yes (.int .i64 s29) (tg := 19) (by kernel_rfl) (congrArg Value.bool hc44) (y_move rfl) ?_
    obtain ⟨x45, hx45, hs⟩ := bind_some hs
    obtain ⟨b46, o46, hp46, ha46⟩ := rs_idx Sl41 Sz22 h0 hx45
    refine pl_yes (.pointer (some ⟨b46, o46, none⟩)) (tg := 19) (by kernel_rfl) (congrArg Value.bool hc44) (hp46 _ _ _ _ _ _ _ _ _ rfl rfl) ?_
    obtain ⟨v47, hl47, hv47⟩ := at_load Ag22 Sz22 (fun _ => rfl) ha46
    obtain ⟨a47, n47, c47, rfl⟩ := rs_sl hv47
    refine pl_yes (.slice a47 n47 c47) (tg := 19) (by kernel_rfl) (congrArg Value.bool hc44) (y_load rfl (hl47 _ (Chg.refl _ _))) ?_
    obtain ⟨r50, hr50, hs⟩ := bind_some hs
    refine pl_cally (tg := 19) (by kernel_rfl) (congrArg Value.bool hc44) Bd121 rfl (c_spec_l6Count (M := M) x45 hv47 hO.fut hr50) ?_
    rintro _ w49 ⟨rfl, hC49⟩
    have h0 := h0.ext hC49
    have h1 := h1.ext hC49
    have hv38 := hv38.ext hC49
    have hv47 := hv47.ext hC49
    have hC := hC.ext hC49
    have hO := hO.ext hC49
    refine pl_yes (.slice pa1 pn1 pc1) (tg := 19) (by kernel_rfl) (congrArg Value.bool hc44) (y_move rfl) ?_
    obtain ⟨r52, hr52, hs⟩ := bind_some hs
    refine pl_cally (tg := 19) (by kernel_rfl) (congrArg Value.bool hc44) Bd121 rfl (c_spec_l6Count (M := M) p h1 hO.fut hr52) ?_
    rintro _ w51 ⟨rfl, hC51⟩
    have h0 := h0.ext hC51
    have h1 := h1.ext hC51
    have hv38 := hv38.ext hC51
    have hv47 := hv47.ext hC51
    have hC := hC.ext hC51
    have hO := hO.ext hC51
    refine pl_yes (.bool (r50 == r52)) (tg := 19) (by kernel_rfl) (congrArg Value.bool hc44) (y_eql rfl rfl) ?_
    refine pl_yes (.bool (r50 == r52)) (tg := 19) (by kernel_rfl) (congrArg Value.bool hc44) (y_move rfl) ?_
    rcases bif_some hs with ⟨hc53, hs⟩ | ⟨hc53, hs⟩
    ·skip
     refine pl_yes (.slice pa0 pn0 pc0) (tg := 28) (by kernel_rfl) (congrArg Value.bool hc53) (y_move rfl) ?_
     refine pl_yes (.int .i64 s29) (tg := 28) (by kernel_rfl) (congrArg Value.bool hc53) (y_move rfl) ?_
     obtain ⟨x54, hx54, hs⟩ := bind_some hs
     obtain ⟨b55, o55, hp55, ha55⟩ := rs_idx Sl41 Sz22 h0 hx54
     refine pl_yes (.pointer (some ⟨b55, o55, none⟩)) (tg := 28) (by kernel_rfl) (congrArg Value.bool hc53) (hp55 _ _ _ _ _ _ _ _ _ rfl rfl) ?_
     obtain ⟨v56, hl56, hv56⟩ := at_load Ag22 Sz22 (fun _ => rfl) ha55
     obtain ⟨a56, n56, c56, rfl⟩ := rs_sl hv56
     refine pl_yes (.slice a56 n56 c56) (tg := 28) (by kernel_rfl) (congrArg Value.bool hc53) (y_load rfl (hl56 _ (Chg.refl _ _))) ?_
     refine pl_yes (.slice pa1 pn1 pc1) (tg := 28) (by kernel_rfl) (congrArg Value.bool hc53) (y_move rfl) ?_
     obtain ⟨r59, hr59, hs⟩ := bind_some hs
     refine pl_cally (tg := 28) (by kernel_rfl) (congrArg Value.bool hc53) Bd122 rfl (c_spec_l5Less (M := M) x54 p hv56 h1 hO.fut hr59) ?_
     rintro _ w58 ⟨rfl, hC58⟩
     have h0 := h0.ext hC58
     have h1 := h1.ext hC58
     have hv38 := hv38.ext hC58
     have hv47 := hv47.ext hC58
     have hv56 := hv56.ext hC58
     have hC := hC.ext hC58
     have hO := hO.ext hC58
     refine pl_yes (.bool r59) (tg := 19) (by kernel_rfl) (congrArg Value.bool hc44) (y_pick_t (congrArg Value.bool hc53) rfl) ?_
     refine pl_yes (.bool r59) (tg := 10) (by kernel_rfl) (congrArg Value.bool hc35) (y_pick_f (congrArg Value.bool hc44) rfl) ?_
     refine pl_val (.bool r59) (y_pick_t (congrArg Value.bool hc35) rfl) ?_
     refine c_nil ?_
     rcases bif_some hs with ⟨hc60, hs⟩ | ⟨hc60, hs⟩
     ·skip
      refine c_condT (congrArg Value.bool hc60) ?_
      refine wp_skip ?_
      refine wp_block ?_
      refine c_region ?_
      refine pl_val (.int .i64 s29) (y_move rfl) ?_
      refine pl_val (.int .i64 (w64 (s29 + 1))) (y_add rfl rfl) ?_
      refine pl_val (.int .i64 (w64 (s29 + 1))) (y_assign rfl) ?_
      refine c_nil ?_
      cases hs
      exact ⟨_, fr_ovl 65 ⟨rfl, rfl, rfl, trivial⟩, hC, hO, h0, h1⟩
     ·skip
      refine c_condF (congrArg Value.bool hc60) ?_
      refine wp_exit ?_
      cases hs
      exact ⟨rfl, _, fr_ovl 65 ⟨rfl, rfl, rfl, trivial⟩, hC, hO, h0, h1⟩
    ·skip
     refine pl_not (tg := 28) (by kernel_rfl) (congrArg Value.bool hc53) ?_
     refine pl_not (tg := 28) (by kernel_rfl) (congrArg Value.bool hc53) ?_
     refine pl_not (tg := 28) (by kernel_rfl) (congrArg Value.bool hc53) ?_
     refine pl_not (tg := 28) (by kernel_rfl) (congrArg Value.bool hc53) ?_
     refine pl_not (tg := 28) (by kernel_rfl) (congrArg Value.bool hc53) ?_
     refine pl_not (tg := 28) (by kernel_rfl) (congrArg Value.bool hc53) ?_
     refine pl_yes (.bool false) (tg := 19) (by kernel_rfl) (congrArg Value.bool hc44) (y_pick_f (congrArg Value.bool hc53) rfl) ?_
     refine pl_yes (.bool false) (tg := 10) (by kernel_rfl) (congrArg Value.bool hc35) (y_pick_f (congrArg Value.bool hc44) rfl) ?_
     refine pl_val (.bool false) (y_pick_t (congrArg Value.bool hc35) rfl) ?_
     refine c_nil ?_
     refine c_condF (by rfl) ?_
     refine wp_exit ?_
     cases hs
     exact ⟨rfl, _, fr_ovl 65 ⟨rfl, rfl, rfl, trivial⟩, hC, hO, h0, h1⟩
  ·skip
   refine pl_not (tg := 10) (by kernel_rfl) (congrArg Value.bool hc35) ?_
   refine pl_not (tg := 10) (by kernel_rfl) (congrArg Value.bool hc35) ?_
   refine pl_not (tg := 10) (by kernel_rfl) (congrArg Value.bool hc35) ?_
   refine pl_not (tg := 10) (by kernel_rfl) (congrArg Value.bool hc35) ?_
   refine pl_not (tg := 10) (by kernel_rfl) (congrArg Value.bool hc35) ?_
   refine pl_not (tg := 10) (by kernel_rfl) (congrArg Value.bool hc35) ?_
   refine pl_not (tg := 10) (by kernel_rfl) (congrArg Value.bool hc35) ?_
   refine pl_not (tg := 10) (by kernel_rfl) (congrArg Value.bool hc35) ?_
   refine pl_not (tg := 10) (by kernel_rfl) (congrArg Value.bool hc35) ?_
   refine pl_nou (tg := 19) (by kernel_rfl) rfl ?_
   refine pl_nou (tg := 19) (by kernel_rfl) rfl ?_
   refine pl_nou (tg := 19) (by kernel_rfl) rfl ?_
   refine pl_nou (tg := 19) (by kernel_rfl) rfl ?_
   refine pl_nou (tg := 19) (by kernel_rfl) rfl ?_
   refine pl_nou (tg := 19) (by kernel_rfl) rfl ?_
   refine pl_nou (tg := 19) (by kernel_rfl) rfl ?_
   refine pl_nou (tg := 19) (by kernel_rfl) rfl ?_
   refine pl_nou (tg := 19) (by kernel_rfl) rfl ?_
   refine pl_nou (tg := 28) (by kernel_rfl) rfl ?_
   refine pl_nou (tg := 28) (by kernel_rfl) rfl ?_
   refine pl_nou (tg := 28) (by kernel_rfl) rfl ?_
   refine pl_nou (tg := 28) (by kernel_rfl) rfl ?_
   refine pl_nou (tg := 28) (by kernel_rfl) rfl ?_
   refine pl_nou (tg := 28) (by kernel_rfl) rfl ?_
   refine pl_nou (tg := 19) (by kernel_rfl) rfl ?_
   refine pl_not (tg := 10) (by kernel_rfl) (congrArg Value.bool hc35) ?_
   refine pl_val (.bool false) (y_pick_f (congrArg Value.bool hc35) rfl) ?_
   refine c_nil ?_
   refine c_condF (by rfl) ?_
   refine wp_exit ?_
   cases hs
   exact ⟨rfl, _, fr_ovl 65 ⟨rfl, rfl, rfl, trivial⟩, hC, hO, h0, h1⟩
 ·skip
  exact ⟨_, fr_ovl 65 ⟨rfl, rfl, rfl, trivial⟩, hC, hO, h0, h1⟩
 ·cases o33 with
  | nx _ => exact True.intro
  | rt r_ =>
   have hs := after_rt hs
   intro a1 w1 hK
   cases hs
   exact hK
  | br s29 =>
   have hs := after_br hs
   rintro a1 w30 ⟨σ, rfl, hC, hO, h0, h1⟩
   refine c_seq ?_
   refine c_seq ?_
   obtain ⟨s61, hm63, hs⟩ := bind_some hs
   refine c_mid (I := fun a w62 => ∃ (σ : Nat → Value), a = fr 65 (ovl σ [(0, (.slice pa0 pn0 pc0)), (1, (.slice pa1 pn1 pc1)), (5, (.int .i64 s29)), (51, (.bool s61))]) ∧ Chg [] w30 w62) ?_ ?_
   ·replace hs := hm63
    have hMid := Chg.refl [] w30
    refine c_region ?_
    refine pl_val (.int .i64 s29) (y_move rfl) ?_
    refine pl_val (.slice pa0 pn0 pc0) (y_move rfl) ?_
    refine pl_val (.int .i64 (list.length : Int)) (y_len' Sl41 (rs_len h0) rfl) ?_
    refine pl_val (.bool (decide (s29 < (list.length : Int)))) (y_lss rfl rfl) ?_
    refine pl_val (.bool (decide (s29 < (list.length : Int)))) (y_move rfl) ?_
    rcases bif_some hs with ⟨hc64, hs⟩ | ⟨hc64, hs⟩
    ·skip
     refine pl_yes (.slice pa0 pn0 pc0) (tg := 44) (by kernel_rfl) (congrArg Value.bool hc64) (y_move rfl) ?_
     refine pl_yes (.int .i64 s29) (tg := 44) (by kernel_rfl) (congrArg Value.bool hc64) (y_move rfl) ?_
     obtain ⟨x65, hx65, hs⟩ := bind_some hs
     obtain ⟨b66, o66, hp66, ha66⟩ := rs_idx Sl41 Sz22 h0 hx65
     refine pl_yes (.pointer (some ⟨b66, o66, none⟩)) (tg := 44) (by kernel_rfl) (congrArg Value.bool hc64) (hp66 _ _ _ _ _ _ _ _ _ rfl rfl) ?_
     obtain ⟨v67, hl67, hv67⟩ := at_load Ag22 Sz22 (fun _ => rfl) ha66
     obtain ⟨a67, n67, c67, rfl⟩ := rs_sl hv67
     refine pl_yes (.slice a67 n67 c67) (tg := 44) (by kernel_rfl) (congrArg Value.bool hc64) (y_load rfl (hl67 _ (Chg.refl _ _))) ?_
     refine pl_yes (.slice pa1 pn1 pc1) (tg := 44) (by kernel_rfl) (congrArg Value.bool hc64) (y_move rfl) ?_
     obtain ⟨r70, hr70, hs⟩ := bind_some hs
     refine pl_cally (tg := 44) (by kernel_rfl) (congrArg Value.bool hc64) Bd86 rfl (c_spec_l1Same (M := M) x65 p hv67 h1 hO.fut hr70) ?_
     rintro _ w69 ⟨rfl, hC69⟩
     have h0 := h0.ext hC69
     have h1 := h1.ext hC69
     have hv67 := hv67.ext hC69
     have hMid := hMid.ext hC69
     have hC := hC.ext hC69
     have hO := hO.ext hC69
     refine pl_val (.bool r70) (y_pick_t (congrArg Value.bool hc64) rfl) ?_
     refine c_nil ?_
     cases hs
     exact ⟨_, fr_ovl 65 ⟨rfl, rfl, rfl, rfl, trivial⟩, hMid⟩
    ·skip
     refine pl_not (tg := 44) (by kernel_rfl) (congrArg Value.bool hc64) ?_
     refine pl_not (tg := 44) (by kernel_rfl) (congrArg Value.bool hc64) ?_
     refine pl_not (tg := 44) (by kernel_rfl) (congrArg Value.bool hc64) ?_
     refine pl_not (tg := 44) (by kernel_rfl) (congrArg Value.bool hc64) ?_
     refine pl_not (tg := 44) (by kernel_rfl) (congrArg Value.bool hc64) ?_
     refine pl_not (tg := 44) (by kernel_rfl) (congrArg Value.bool hc64) ?_
     refine pl_val (.bool false) (y_pick_f (congrArg Value.bool hc64) rfl) ?_
     refine c_nil ?_
     cases hs
     exact ⟨_, fr_ovl 65 ⟨rfl, rfl, rfl, rfl, trivial⟩, hMid⟩
   ·rintro a1 w62 ⟨σ, rfl, hCs61⟩
    have h0 := h0.ext hCs61
    have h1 := h1.ext hCs61
    have hC := hC.ext hCs61
    have hO := hO.ext hCs61
    rcases bif_some hs with ⟨hc71, hs⟩ | ⟨hc71, hs⟩
    ·skip
     refine c_condT (congrArg Value.bool hc71) ?_
     refine c_seq (c_region ?_)
     refine pl_val (.slice pa0 pn0 pc0) (y_move rfl) ?_
     refine pl_val (.slice pa0 pn0 pc0) (y_assign rfl) ?_
     refine c_nil ?_
     refine wp_ret ?_
     cases hs
     exact ⟨_, pa0, pn0, pc0, fr_ovl 65 ⟨rfl, trivial⟩, hC, (Keeps.out Keeps.refl h0)⟩
    ·skip
     refine c_condF (congrArg Value.bool hc71) ?_
     refine wp_skip ?_
     refine c_seq ?_
     refine x_start [4, 7, 11] Mx rfl ?_
     have hCw72 := Chg.drew w62
     generalize World.drew w62 = w72 at hCw72 ⊢
     have h0 := h0.ext hCw72
     have h1 := h1.ext hCw72
     have hC := hC.ext hCw72
     have hO := hO.ext hCw72
     have hS := Chg.refl [] w72
     refine x_p 1 (.slice pa0 pn0 pc0) rfl (by kernel_rfl)  (fun _ => y_move rfl) (fun _ => hS) ?_
     refine x_p 2 (.int .i64 s29) rfl (by kernel_rfl)  (fun _ => y_move rfl) (fun _ => hS) ?_
     obtain ⟨y74, hy74, hs⟩ := bind_some hs
     obtain ⟨a73, n73, c73, hv73, hr73, hq73, hz73⟩ := rs_part Try.underlying41 Sz22 h0 hy74
     refine x_p 3 (.slice a73 n73 c73) rfl (by kernel_rfl)  (fun _ => y_slice rfl rfl rfl (hq73 rfl _)) (fun _ => hS) ?_
     refine x_p 5 (.slice pa1 pn1 pc1) rfl (by kernel_rfl)  (fun _ => y_move rfl) (fun _ => hS) ?_
     refine x_p 8 (.slice pa0 pn0 pc0) rfl (by kernel_rfl)  (fun _ => y_move rfl) (fun _ => hS) ?_
     refine x_p 9 (.int .i64 s29) rfl (by kernel_rfl)  (fun _ => y_move rfl) (fun _ => hS) ?_
     obtain ⟨y77, hy77, hs⟩ := bind_some hs
     obtain ⟨a76, n76, c76, hv76, hr76, hq76, hz76⟩ := rs_part Try.underlying41 Sz22 h0 hy77
     refine x_p 10 (.slice a76 n76 c76) rfl (by kernel_rfl)  (fun _ => y_slice rfl rfl rfl (hz76 rfl _)) (fun _ => hS) ?_
     refine x_two (i := 0) (j := 6) (by kernel_rfl) ?_ ?_
     ·skip
      obtain ⟨w79, g79, ew79, eg79, hC79, hb79⟩ := new_block w72 [] 22
      refine xk_val (w' := w79) (b := false) (.slice (some ⟨g79, 0, none⟩) 0 0) rfl  (y_bslice rfl (by rw [ew79, eg79]; kernel_rfl)) rfl (fun _ => hS.ext hC79) ?_
      have h0 := h0.ext hC79
      have h1 := h1.ext hC79
      have hv73 := hv73.ext hC79
      have hv76 := hv76.ext hC79
      have hC := hC.ext hC79
      have hO := hO.new1 hC79 eg79 hb79.lt
      have hv79 := os_of_box (r := (RT.os 3 (RT.int .i64))) (M := M) (css := []) (fps := []) (xs := ([] : List (List Int))) hb79 trivial (Nat.zero_le _) (List.nodup_cons.2 ⟨(fun h => nomatch h), List.nodup_nil⟩)
      have hv79 : (RT.os 22 (RT.os 3 (RT.int .i64))).val M w79 (.slice (some ⟨g79, 0, none⟩) 0 0) [] [g79] := hv79
      have hS := hS.ext hC79
      refine x_two (i := 4) (j := 6) (by kernel_rfl) ?_ ?_
      ·skip
       obtain ⟨M82, f82, hs82, hk82, hO, hv82⟩ := os_inner (Frz.os Frz.int) hv79 hO
       have h0 := h0.sub (M' := M82) hs82
       have h1 := h1.sub (M' := M82) hs82
       have hv73 := hv73.sub (M' := M82) hs82
       have hv76 := hv76.sub (M' := M82) hs82
       have hK := hk82
       obtain ⟨y83, hy83, hs⟩ := bind_some hs
       obtain ⟨a81, n81, c81, w81, f81, hr81, hC81, hf81, hv81⟩ := app_rs Rw41 hy83 hv82 hv73 hO.inM
       have hG81 := os_block hv82
       refine xk_val (w' := w81) (b := true) (.slice a81 n81 c81) rfl  (y_append rfl rfl (hr81 _)) rfl (fun h => nomatch h) ?_
       have h0 := h0.mut hC81 (fun g hg => hO.inM g (hG81 g hg)) (fun _ _ h => nomatch h)
       have h1 := h1.mut hC81 (fun g hg => hO.inM g (hG81 g hg)) (fun _ _ h => nomatch h)
       have hv73 := hv73.mut hC81 (fun g hg => hO.inM g (hG81 g hg)) (fun _ _ h => nomatch h)
       have hv76 := hv76.mut hC81 (fun g hg => hO.inM g (hG81 g hg)) (fun _ _ h => nomatch h)
       have hC := hC.step hC81 (fun g hg => hO.inN g (hG81 g hg))
       have hO := hO.grow hC81 hf81 (os_nodup hv81) hv81.fpl
       refine x_one (i := 6) (by kernel_rfl) ?_
       obtain ⟨w85, g85, ew85, eg85, hC85, hb85⟩ := new_block w81 [(.slice pa1 pn1 pc1)] 22
       refine xk_val (w' := w85) (b := true) (.slice (some ⟨g85, 0, none⟩) 1 1) rfl  (y_bslice rfl (by rw [ew85, eg85]; kernel_rfl)) rfl (fun h => nomatch h) ?_
       have h0 := h0.ext hC85
       have h1 := h1.ext hC85
       have hv73 := hv73.ext hC85
       have hv76 := hv76.ext hC85
       have hv81 := hv81.ext hC85
       have hC := hC.ext hC85
       have hO := hO.new1 hC85 eg85 hb85.lt
       have hv85 := os_of_box (r := (RT.rs (RT.int .i64))) (M := M82) (css := [[(.slice pa1 pn1 pc1)]]) (fps := [([] : List Nat)]) (xs := ([p] : List (List Int))) hb85 ⟨(rs_unval h1), trivial⟩ (Nat.le_of_ble_eq_true rfl) (List.nodup_cons.2 ⟨(fun h => nomatch h), List.nodup_nil⟩)
       have hv85 : (RT.os 22 (RT.rs (RT.int .i64))).val M82 w85 (.slice (some ⟨g85, 0, none⟩) 1 1) [p] [g85] := hv85
       refine x_one (i := 7) (by kernel_rfl) ?_
       obtain ⟨y88, hy88, hs⟩ := bind_some hs
       have hO := hO.fr1
       obtain ⟨a87, n87, c87, w87, f87, hr87, hC87, hf87, hv87⟩ := app_os Rw41 hy88 hv81 hv85 hO.inM (fun g hg hq => hO.apart g hq (mem_l hg))
       have hG87 := os_block hv81
       refine xk_val (w' := w87) (b := true) (.slice a87 n87 c87) rfl  (y_append rfl rfl (hr87 _)) rfl (fun h => nomatch h) ?_
       have hO := hO.fr1
       have hO := hO.fr1
       have h0 := h0.mut hC87 (fun g hg => hO.inM g (hG87 g hg)) (fun _ _ h => nomatch h)
       have h1 := h1.mut hC87 (fun g hg => hO.inM g (hG87 g hg)) (fun _ _ h => nomatch h)
       have hv73 := hv73.mut hC87 (fun g hg => hO.inM g (hG87 g hg)) (fun _ _ h => nomatch h)
       have hv76 := hv76.mut hC87 (fun g hg => hO.inM g (hG87 g hg)) (fun _ _ h => nomatch h)
       have hC := hC.step hC87 (fun g hg => hO.inN g (hG87 g hg))
       have hO := hO.eat hC87 hf87 (os_nodup hv87) hv87.fpl
       refine x_one (i := 11) (by kernel_rfl) ?_
       obtain ⟨y91, hy91, hs⟩ := bind_some hs
       obtain ⟨a90, n90, c90, w90, f90, hr90, hC90, hf90, hv90⟩ := app_rs Rw41 hy91 hv87 hv76 hO.inM
       have hG90 := os_block hv87
       refine xk_val (w' := w90) (b := true) (.slice a90 n90 c90) rfl  (y_append rfl rfl (hr90 _)) rfl (fun h => nomatch h) ?_
       have h0 := h0.mut hC90 (fun g hg => hO.inM g (hG90 g hg)) (fun _ _ h => nomatch h)
       have h1 := h1.mut hC90 (fun g hg => hO.inM g (hG90 g hg)) (fun _ _ h => nomatch h)
       have hv73 := hv73.mut hC90 (fun g hg => hO.inM g (hG90 g hg)) (fun _ _ h => nomatch h)
       have hv76 := hv76.mut hC90 (fun g hg => hO.inM g (hG90 g hg)) (fun _ _ h => nomatch h)
       have hC := hC.step hC90 (fun g hg => hO.inN g (hG90 g hg))
       have hO := hO.grow hC90 hf90 (os_nodup hv90) hv90.fpl
       refine x_p 12 (.slice a90 n90 c90) rfl (by kernel_rfl)  (fun _ => y_assign rfl) (fun h => nomatch h) ?_
       refine x_end (by kernel_rfl) ?_
       clear hS
       refine wp_ret ?_
       cases hs
       obtain ⟨M93, eM93, hs93, hk93, hO, hv93⟩ := frz_own (Frz.os (Frz.rs Frz.int)) hv90 hO
       have h0 := h0.sub (M' := M93) hs93
       have h1 := h1.sub (M' := M93) hs93
       have hv73 := hv73.sub (M' := M93) hs93
       have hv76 := hv76.sub (M' := M93) hs93
       have hK := hK.trans hk93
       exact ⟨_, a90, n90, c90, fr_ovl 65 ⟨rfl, trivial⟩, hC, (Keeps.out hK hv93)⟩
      ·skip
       obtain ⟨w94, g94, ew94, eg94, hC94, hb94⟩ := new_block w79 [(.slice pa1 pn1 pc1)] 22
       refine xk_val (w' := w94) (b := false) (.slice (some ⟨g94, 0, none⟩) 1 1) rfl  (y_bslice rfl (by rw [ew94, eg94]; kernel_rfl)) rfl (fun _ => hS.ext hC94) ?_
       have h0 := h0.ext hC94
       have h1 := h1.ext hC94
       have hv73 := hv73.ext hC94
       have hv76 := hv76.ext hC94
       have hv79 := hv79.ext hC94
       have hC := hC.ext hC94
       have hO := hO.new1 hC94 eg94 hb94.lt
       have hv94 := os_of_box (r := (RT.rs (RT.int .i64))) (M := M) (css := [[(.slice pa1 pn1 pc1)]]) (fps := [([] : List Nat)]) (xs := ([p] : List (List Int))) hb94 ⟨(rs_unval h1), trivial⟩ (Nat.le_of_ble_eq_true rfl) (List.nodup_cons.2 ⟨(fun h => nomatch h), List.nodup_nil⟩)
       have hv94 : (RT.os 22 (RT.rs (RT.int .i64))).val M w94 (.slice (some ⟨g94, 0, none⟩) 1 1) [p] [g94] := hv94
       have hS := hS.ext hC94
       refine x_one (i := 4) (by kernel_rfl) ?_
       have hO := hO.fr1
       obtain ⟨M97, f97, hs97, hk97, hO, hv97⟩ := os_inner (Frz.os Frz.int) hv79 hO
       have h0 := h0.sub (M' := M97) hs97
       have h1 := h1.sub (M' := M97) hs97
       have hv73 := hv73.sub (M' := M97) hs97
       have hv76 := hv76.sub (M' := M97) hs97
       have hv94 := hv94.sub (M' := M97) hs97
       have hK := hk97
       obtain ⟨y83, hy83, hs⟩ := bind_some hs
       obtain ⟨a96, n96, c96, w96, f96, hr96, hC96, hf96, hv96⟩ := app_rs Rw41 hy83 hv97 hv73 hO.inM
       have hG96 := os_block hv97
       refine xk_val (w' := w96) (b := true) (.slice a96 n96 c96) rfl  (y_append rfl rfl (hr96 _)) rfl (fun h => nomatch h) ?_
       have h0 := h0.mut hC96 (fun g hg => hO.inM g (hG96 g hg)) (fun _ _ h => nomatch h)
       have h1 := h1.mut hC96 (fun g hg => hO.inM g (hG96 g hg)) (fun _ _ h => nomatch h)
       have hv73 := hv73.mut hC96 (fun g hg => hO.inM g (hG96 g hg)) (fun _ _ h => nomatch h)
       have hv76 := hv76.mut hC96 (fun g hg => hO.inM g (hG96 g hg)) (fun _ _ h => nomatch h)
       have hv94 := hv94.mut hC96 (fun g hg => hO.inM g (hG96 g hg)) (fun g hg e => hO.apart g (hG96 g hg) (mem_l (e)))
       have hC := hC.step hC96 (fun g hg => hO.inN g (hG96 g hg))
       have hO := hO.grow hC96 hf96 (os_nodup hv96) hv96.fpl
       refine x_one (i := 7) (by kernel_rfl) ?_
       obtain ⟨y88, hy88, hs⟩ := bind_some hs
       have hO := hO.fr1
       have hO := hO.fr1
       obtain ⟨a100, n100, c100, w100, f100, hr100, hC100, hf100, hv100⟩ := app_os Rw41 hy88 hv96 hv94 hO.inM (fun g hg hq => hO.apart g hq (mem_l hg))
       have hG100 := os_block hv96
       refine xk_val (w' := w100) (b := true) (.slice a100 n100 c100) rfl  (y_append rfl rfl (hr100 _)) rfl (fun h => nomatch h) ?_
       have hO := hO.fr1
       have hO := hO.fr1
       have h0 := h0.mut hC100 (fun g hg => hO.inM g (hG100 g hg)) (fun _ _ h => nomatch h)
       have h1 := h1.mut hC100 (fun g hg => hO.inM g (hG100 g hg)) (fun _ _ h => nomatch h)
       have hv73 := hv73.mut hC100 (fun g hg => hO.inM g (hG100 g hg)) (fun _ _ h => nomatch h)
       have hv76 := hv76.mut hC100 (fun g hg => hO.inM g (hG100 g hg)) (fun _ _ h => nomatch h)
       have hC := hC.step hC100 (fun g hg => hO.inN g (hG100 g hg))
       have hO := hO.eat hC100 hf100 (os_nodup hv100) hv100.fpl
       refine x_one (i := 11) (by kernel_rfl) ?_
       obtain ⟨y91, hy91, hs⟩ := bind_some hs
       obtain ⟨a103, n103, c103, w103, f103, hr103, hC103, hf103, hv103⟩ := app_rs Rw41 hy91 hv100 hv76 hO.inM
       have hG103 := os_block hv100
       refine xk_val (w' := w103) (b := true) (.slice a103 n103 c103) rfl  (y_append rfl rfl (hr103 _)) rfl (fun h => nomatch h) ?_
       have h0 := h0.mut hC103 (fun g hg => hO.inM g (hG103 g hg)) (fun _ _ h => nomatch h)
       have h1 := h1.mut hC103 (fun g hg => hO.inM g (hG103 g hg)) (fun _ _ h => nomatch h)
       have hv73 := hv73.mut hC103 (fun g hg => hO.inM g (hG103 g hg)) (fun _ _ h => nomatch h)
       have hv76 := hv76.mut hC103 (fun g hg => hO.inM g (hG103 g hg)) (fun _ _ h => nomatch h)
       have hC := hC.step hC103 (fun g hg => hO.inN g (hG103 g hg))
       have hO := hO.grow hC103 hf103 (os_nodup hv103) hv103.fpl
       refine x_p 12 (.slice a103 n103 c103) rfl (by kernel_rfl)  (fun _ => y_assign rfl) (fun h => nomatch h) ?_
       refine x_end (by kernel_rfl) ?_
       clear hS
       refine wp_ret ?_
       cases hs
       obtain ⟨M106, eM106, hs106, hk106, hO, hv106⟩ := frz_own (Frz.os (Frz.rs Frz.int)) hv103 hO
       have h0 := h0.sub (M' := M106) hs106
       have h1 := h1.sub (M' := M106) hs106
       have hv73 := hv73.sub (M' := M106) hs106
       have hv76 := hv76.sub (M' := M106) hs106
       have hK := hK.trans hk106
       exact ⟨_, a103, n103, c103, fr_ovl 65 ⟨rfl, trivial⟩, hC, (Keeps.out hK hv106)⟩
     ·skip
      obtain ⟨w107, g107, ew107, eg107, hC107, hb107⟩ := new_block w72 [(.slice pa1 pn1 pc1)] 22
      refine xk_val (w' := w107) (b := false) (.slice (some ⟨g107, 0, none⟩) 1 1) rfl  (y_bslice rfl (by rw [ew107, eg107]; kernel_rfl)) rfl (fun _ => hS.ext hC107) ?_
      have h0 := h0.ext hC107
      have h1 := h1.ext hC107
      have hv73 := hv73.ext hC107
      have hv76 := hv76.ext hC107
      have hC := hC.ext hC107
      have hO := hO.new1 hC107 eg107 hb107.lt
      have hv107 := os_of_box (r := (RT.rs (RT.int .i64))) (M := M) (css := [[(.slice pa1 pn1 pc1)]]) (fps := [([] : List Nat)]) (xs := ([p] : List (List Int))) hb107 ⟨(rs_unval h1), trivial⟩ (Nat.le_of_ble_eq_true rfl) (List.nodup_cons.2 ⟨(fun h => nomatch h), List.nodup_nil⟩)
      have hv107 : (RT.os 22 (RT.rs (RT.int .i64))).val M w107 (.slice (some ⟨g107, 0, none⟩) 1 1) [p] [g107] := hv107
      have hS := hS.ext hC107
      refine x_one (i := 0) (by kernel_rfl) ?_
      obtain ⟨w109, g109, ew109, eg109, hC109, hb109⟩ := new_block w107 [] 22
      refine xk_val (w' := w109) (b := false) (.slice (some ⟨g109, 0, none⟩) 0 0) rfl  (y_bslice rfl (by rw [ew109, eg109]; kernel_rfl)) rfl (fun _ => hS.ext hC109) ?_
      have h0 := h0.ext hC109
      have h1 := h1.ext hC109
      have hv73 := hv73.ext hC109
      have hv76 := hv76.ext hC109
      have hv107 := hv107.ext hC109
      have hC := hC.ext hC109
      have hO := hO.new1 hC109 eg109 hb109.lt
      have hv109 := os_of_box (r := (RT.os 3 (RT.int .i64))) (M := M) (css := []) (fps := []) (xs := ([] : List (List Int))) hb109 trivial (Nat.zero_le _) (List.nodup_cons.2 ⟨(fun h => nomatch h), List.nodup_nil⟩)
      have hv109 : (RT.os 22 (RT.os 3 (RT.int .i64))).val M w109 (.slice (some ⟨g109, 0, none⟩) 0 0) [] [g109] := hv109
      have hS := hS.ext hC109
      refine x_one (i := 4) (by kernel_rfl) ?_
      obtain ⟨M112, f112, hs112, hk112, hO, hv112⟩ := os_inner (Frz.os Frz.int) hv109 hO
      have h0 := h0.sub (M' := M112) hs112
      have h1 := h1.sub (M' := M112) hs112
      have hv73 := hv73.sub (M' := M112) hs112
      have hv76 := hv76.sub (M' := M112) hs112
      have hv107 := hv107.sub (M' := M112) hs112
      have hK := hk112
      obtain ⟨y83, hy83, hs⟩ := bind_some hs
      obtain ⟨a111, n111, c111, w111, f111, hr111, hC111, hf111, hv111⟩ := app_rs Rw41 hy83 hv112 hv73 hO.inM
      have hG111 := os_block hv112
      refine xk_val (w' := w111) (b := true) (.slice a111 n111 c111) rfl  (y_append rfl rfl (hr111 _)) rfl (fun h => nomatch h) ?_
      have h0 := h0.mut hC111 (fun g hg => hO.inM g (hG111 g hg)) (fun _ _ h => nomatch h)
      have h1 := h1.mut hC111 (fun g hg => hO.inM g (hG111 g hg)) (fun _ _ h => nomatch h)
      have hv73 := hv73.mut hC111 (fun g hg => hO.inM g (hG111 g hg)) (fun _ _ h => nomatch h)
      have hv76 := hv76.mut hC111 (fun g hg => hO.inM g (hG111 g hg)) (fun _ _ h => nomatch h)
      have hv107 := hv107.mut hC111 (fun g hg => hO.inM g (hG111 g hg)) (fun g hg e => hO.apart g (hG111 g hg) (mem_l (e)))
      have hC := hC.step hC111 (fun g hg => hO.inN g (hG111 g hg))
      have hO := hO.grow hC111 hf111 (os_nodup hv111) hv111.fpl
      refine x_one (i := 7) (by kernel_rfl) ?_
      obtain ⟨y88, hy88, hs⟩ := bind_some hs
      have hO := hO.fr1
      have hO := hO.fr1
      obtain ⟨a115, n115, c115, w115, f115, hr115, hC115, hf115, hv115⟩ := app_os Rw41 hy88 hv111 hv107 hO.inM (fun g hg hq => hO.apart g hq (mem_l hg))
      have hG115 := os_block hv111
      refine xk_val (w' := w115) (b := true) (.slice a115 n115 c115) rfl  (y_append rfl rfl (hr115 _)) rfl (fun h => nomatch h) ?_
      have hO := hO.fr1
      have hO := hO.fr1
      have h0 := h0.mut hC115 (fun g hg => hO.inM g (hG115 g hg)) (fun _ _ h => nomatch h)
      have h1 := h1.mut hC115 (fun g hg => hO.inM g (hG115 g hg)) (fun _ _ h => nomatch h)
      have hv73 := hv73.mut hC115 (fun g hg => hO.inM g (hG115 g hg)) (fun _ _ h => nomatch h)
      have hv76 := hv76.mut hC115 (fun g hg => hO.inM g (hG115 g hg)) (fun _ _ h => nomatch h)
      have hC := hC.step hC115 (fun g hg => hO.inN g (hG115 g hg))
      have hO := hO.eat hC115 hf115 (os_nodup hv115) hv115.fpl
      refine x_one (i := 11) (by kernel_rfl) ?_
      obtain ⟨y91, hy91, hs⟩ := bind_some hs
      obtain ⟨a118, n118, c118, w118, f118, hr118, hC118, hf118, hv118⟩ := app_rs Rw41 hy91 hv115 hv76 hO.inM
      have hG118 := os_block hv115
      refine xk_val (w' := w118) (b := true) (.slice a118 n118 c118) rfl  (y_append rfl rfl (hr118 _)) rfl (fun h => nomatch h) ?_
      have h0 := h0.mut hC118 (fun g hg => hO.inM g (hG118 g hg)) (fun _ _ h => nomatch h)
      have h1 := h1.mut hC118 (fun g hg => hO.inM g (hG118 g hg)) (fun _ _ h => nomatch h)
      have hv73 := hv73.mut hC118 (fun g hg => hO.inM g (hG118 g hg)) (fun _ _ h => nomatch h)
      have hv76 := hv76.mut hC118 (fun g hg => hO.inM g (hG118 g hg)) (fun _ _ h => nomatch h)
      have hC := hC.step hC118 (fun g hg => hO.inN g (hG118 g hg))
      have hO := hO.grow hC118 hf118 (os_nodup hv118) hv118.fpl
      refine x_p 12 (.slice a118 n118 c118) rfl (by kernel_rfl)  (fun _ => y_assign rfl) (fun h => nomatch h) ?_
      refine x_end (by kernel_rfl) ?_
      clear hS
      refine wp_ret ?_
      cases hs
      obtain ⟨M121, eM121, hs121, hk121, hO, hv121⟩ := frz_own (Frz.os (Frz.rs Frz.int)) hv118 hO
      have h0 := h0.sub (M' := M121) hs121
      have h1 := h1.sub (M' := M121) hs121
      have hv73 := hv73.sub (M' := M121) hs121
      have hv76 := hv76.sub (M' := M121) hs121
      have hK := hK.trans hk121
      exact ⟨_, a118, n118, c118, fr_ovl 65 ⟨rfl, trivial⟩, hC, (Keeps.out hK hv121)⟩

def k_spec_l6Join (M : Nat → Prop) (w0 : World) (r : (List Int)) (a : Act) (w : World) : Prop :=
  ∃ (σ : Nat → Value) (ra0 : Option Addr) (rn0 rc0 : Nat) (rf0 : List Nat), a = fr 23 (ovl σ [(4, (.slice ra0 rn0 rc0))]) ∧ Chg [] w0 w ∧ (RT.os 3 (RT.int .i64)).val M w (.slice ra0 rn0 rc0) r rf0 ∧ Own (Nw w0 []) (fun _ => True) w (rf0 ++ ([]))
def s_spec_l6Join (p : List Int) (q : List Int) : Option ((List Int)) :=
  (s_spec_l1Own p).bind fun r4 =>
  (forC (S := (List Int)) (R := (List Int)) (fun k15 s13 =>
  (idx q k15).bind fun x23 =>
  (s_spec_l6Unite s13 k15 x23).bind fun r26 =>
  some (.nx r26)) 0 (q.length : Int) r4).bind fun o17 => after o17 (fun r_ => some r_) (fun s13 =>
  some s13)
set_option maxHeartbeats 4000000 in
theorem c_spec_l6Join {M : Nat → Prop} {w : World} {pa0 : Option Addr} {pn0 pc0 : Nat} {pa1 : Option Addr} {pn1 pc1 : Nat} (p : List Int) (q : List Int) (h0 : (RT.rs (RT.int .i64)).val M w (.slice pa0 pn0 pc0) p ([])) (h1 : (RT.rs (RT.int .i64)).val M w (.slice pa1 pn1 pc1) q ([])) (hM : ∀ g, w.heap.size ≤ g → M g) {r : (List Int)} (hs : s_spec_l6Join p q = some r) :
    Gives Try.prog 72 [(.slice pa0 pn0 pc0), (.slice pa1 pn1 pc1)] w (fun v w' => ∃ (ra0 : Option Addr) (rn0 rc0 : Nat) (rf0 : List Nat), v = (.slice ra0 rn0 rc0) ∧ Chg [] w w' ∧ (RT.os 3 (RT.int .i64)).val M w' (.slice ra0 rn0 rc0) r rf0 ∧ Own (Nw w []) (fun _ => True) w' (rf0 ++ ([]))) := by
 refine calls_fr Try.func72 rfl Try.ntmps72 (Nat.le_of_ble_eq_true rfl) ?_
 have hO := Own.start (N := Nw w []) hM Nw.fut
 have hC := Chg.refl [] w
 unfold s_spec_l6Join at hs
 refine wp_mono (Q := KPost (k_spec_l6Join M w r)) ?_ (fun e a w1 h => ?_)
 rotate_left
 ·cases e
  case ret =>
   obtain ⟨σ, ra0, rn0, rc0, rf0, rfl, hrest⟩ := h
   exact ret1x Try.results72 (res_tmp rfl) ⟨ra0, rn0, rc0, rf0, rfl, hrest⟩
  all_goals exact (h : False).elim
 refine c_seq (c_region ?_)
 refine pl_val (.slice none 0 0) (y_assign rfl) ?_
 refine c_nil ?_
 refine c_seq (c_region ?_)
 refine pl_val (.slice pa0 pn0 pc0) (y_move rfl) ?_
 obtain ⟨r4, hr4, hs⟩ := bind_some hs
 refine pl_call Bd100 rfl (c_spec_l1Own (M := M) p h0 hO.fut hr4) ?_
 rintro _ w3 ⟨a3x0, n3x0, c3x0, f3x0, rfl, hC3, hv3x0, hOc3⟩
 have h0 := h0.ext hC3
 have h1 := h1.ext hC3
 have hC := hC.ext hC3
 have hO := Own.join0 hO hC3 hOc3
 have hO := hO.perm (R := f3x0 ++ ([])) (by simp)
 refine pl_val (.slice a3x0 n3x0 c3x0) (y_assign rfl) ?_
 refine c_nil ?_
 refine c_seq ?_
 refine c_seq (c_region ?_)
 refine pl_val (.int .i64 0) (y_assign rfl) ?_
 refine c_nil ?_
 obtain ⟨o17, hl18, hs⟩ := bind_some hs
 refine wp_block ?_
 refine wp_forC (id := 0) (q.length : Int) (I := fun k15 s13 a w14 => ∃ (σ : Nat → Value) (a19 : Option Addr) (n19 : Nat) (c19 : Nat) (f19 : List Nat), a = fr 23 (ovl σ [(1, (.slice pa1 pn1 pc1)), (5, (.slice a19 n19 c19)), (6, (.int .i64 k15))]) ∧ Chg [] w w14 ∧ Own (Nw w []) M w14 (f19 ++ []) ∧ (RT.rs (RT.int .i64)).val M w14 (.slice pa1 pn1 pc1) q ([]) ∧ (RT.os 3 (RT.int .i64)).val M w14 (.slice a19 n19 c19) s13 f19) (J := fun s13 a w14 => ∃ (σ : Nat → Value) (a21 : Option Addr) (n21 : Nat) (c21 : Nat) (f21 : List Nat), a = fr 23 (ovl σ [(5, (.slice a21 n21 c21))]) ∧ Chg [] w w14 ∧ Own (Nw w []) M w14 (f21 ++ []) ∧ (RT.rs (RT.int .i64)).val M w14 (.slice pa1 pn1 pc1) q ([]) ∧ (RT.os 3 (RT.int .i64)).val M w14 (.slice a21 n21 c21) s13 f21) (K := (k_spec_l6Join M w)) ?_ ?_ 0 r4 o17 _ _ ?_ hl18 ?_
 ·rintro k15 s13 a w14 ⟨σ, a19, n19, c19, f19, rfl, hC, hO, h1, hv19⟩ hlt
  refine c_seq ?_
  refine c_seq (c_region ?_)
  refine pl_val (.int .i64 k15) (y_move rfl) ?_
  refine pl_val (.slice pa1 pn1 pc1) (y_move rfl) ?_
  refine pl_val (.int .i64 (q.length : Int)) (y_len' Sl22 (rs_len h1) rfl) ?_
  refine pl_val (.bool (decide (k15 < (q.length : Int)))) (y_lss rfl rfl) ?_
  refine c_nil ?_
  refine c_condF (congrArg Value.bool (decide_eq_false hlt)) ?_
  refine wp_exit ?_
  exact ⟨rfl, _, a19, n19, c19, f19, fr_ovl 23 ⟨rfl, trivial⟩, hC, hO, h1, hv19⟩
 ·rintro k15 s13 o17 a w14 ⟨σ, a19, n19, c19, f19, rfl, hC, hO, h1, hv19⟩ hlt hw hs
  refine c_seq ?_
  refine c_seq (c_region ?_)
  refine pl_val (.int .i64 k15) (y_move rfl) ?_
  refine pl_val (.slice pa1 pn1 pc1) (y_move rfl) ?_
  refine pl_val (.int .i64 (q.length : Int)) (y_len' Sl22 (rs_len h1) rfl) ?_
  refine pl_val (.bool (decide (k15 < (q.length : Int)))) (y_lss rfl rfl) ?_
  refine c_nil ?_
  refine c_condT (congrArg Value.bool (decide_eq_true hlt)) ?_
  refine wp_skip ?_
  refine c_seq ?_
  refine wp_block ?_
  refine c_region ?_
  refine pl_val (.slice a19 n19 c19) (y_move rfl) ?_
  refine pl_val (.int .i64 k15) (y_move rfl) ?_
  refine pl_val (.slice pa1 pn1 pc1) (y_move rfl) ?_
  refine pl_val (.int .i64 k15) (y_move rfl) ?_
  obtain ⟨x23, hx23, hs⟩ := bind_some hs
  obtain ⟨b24, o24, hp24, ha24⟩ := rs_idx Sl22 Sz3 h1 hx23
  refine pl_val (.pointer (some ⟨b24, o24, none⟩)) (hp24 _ _ _ _ _ _ _ _ _ rfl rfl) ?_
  refine pl_val (.int .i64 x23) (y_load rfl ((at_load_int Ag3 Sz3 ha24) _ (Chg.refl _ _))) ?_
  obtain ⟨r26, hr26, hs⟩ := bind_some hs
  refine pl_call Bd101 rfl (c_spec_l6Unite (M := (Less M f19)) s13 k15 x23 (((Frz.os Frz.int)).val hv19 Less.sub Less.not) hO.less.fut hr26) ?_
  rintro _ w25 ⟨a25x0, n25x0, c25x0, f25x0, rfl, hC25, hv25x0, hOc25⟩
  have h1 := h1.ext hC25
  have hv19 := hv19.ext hC25
  have hC := hC.ext hC25
  have hO := Own.join0 hO hC25 hOc25
  have hO := hO.perm (R := f25x0 ++ (f19 ++ ([]))) (by simp)
  have hv25x0 := hv25x0.free (M' := M) (Free.os Free.int)
  refine pl_val (.slice a25x0 n25x0 c25x0) (y_assign rfl) ?_
  refine c_nil ?_
  refine c_region ?_
  refine pl_val (.int .i64 k15) (y_move rfl) ?_
  refine pl_val (.int .i64 (w64 (k15 + 1))) (y_add rfl rfl) ?_
  refine pl_val (.int .i64 (w64 (k15 + 1))) (y_assign rfl) ?_
  refine c_nil ?_
  cases hs
  have hO := hO.fr1
  have hO := hO.drop
  exact ⟨_, a25x0, n25x0, c25x0, f25x0, fr_ovl 23 ⟨rfl, rfl, congrArg (Value.int .i64) hw, trivial⟩, hC, hO, h1, hv25x0⟩
 ·skip
  exact ⟨_, a3x0, n3x0, c3x0, f3x0, fr_ovl 23 ⟨rfl, rfl, rfl, trivial⟩, hC, hO, h1, hv3x0⟩
 ·cases o17 with
  | nx _ => exact True.intro
  | rt r_ =>
   have hs := after_rt hs
   intro a1 w1 hK
   cases hs
   exact hK
  | br s13 =>
   have hs := after_br hs
   rintro a1 w14 ⟨σ, a21, n21, c21, f21, rfl, hC, hO, h1, hv21⟩
   refine c_seq (c_region ?_)
   refine pl_val (.slice a21 n21 c21) (y_move rfl) ?_
   refine pl_val (.slice a21 n21 c21) (y_assign rfl) ?_
   refine c_nil ?_
   refine wp_ret ?_
   cases hs
   exact ⟨_, a21, n21, c21, f21, fr_ovl 23 ⟨rfl, trivial⟩, hC, hv21, hO.top⟩

theorem Bd108 : Bodied Try.prog 108 := bodied Try.func108 (by kernel_rfl) rfl

theorem Bd107 : Bodied Try.prog 107 := bodied Try.func107 (by kernel_rfl) rfl

theorem Bd72 : Bodied Try.prog 72 := bodied Try.func72 (by kernel_rfl) rfl

def k_spec_l6Most (M : Nat → Prop) (w0 : World) (r : (List (List Int))) (a : Act) (w : World) : Prop :=
  ∃ (σ : Nat → Value) (ra0 : Option Addr) (rn0 rc0 : Nat), a = fr 87 (ovl σ [(4, (.slice ra0 rn0 rc0))]) ∧ Chg [] w0 w ∧ (RT.rs (RT.rs (RT.int .i64))).val (Past M w0 w) w (.slice ra0 rn0 rc0) r []
def s_spec_l6Most (a_ : Int × (List (Int × (List Int)))) (most : Int) : Option ((List (List Int))) :=
  (forC (S := (List (List Int))) (R := (List (List Int))) (fun k91 s89 =>
  (forC (S := (List (List Int))) (R := (List (List Int))) (fun k122 s120 =>
  (s_spec_l6Principal (a_.1, a_.2) k91 k122).bind fun r133 =>
  (s_spec_l6Put s120 r133).bind fun r137 =>
  some (.nx r137)) 0 k91 s89).bind fun o124 => after o124 (fun r_ => some (.rt r_)) (fun s120 =>
  some (.nx s120))) 0 a_.1 ([])).bind fun o93 => after o93 (fun r_ => some r_) (fun s89 =>
  (s_spec_l6Identity a_.1).bind fun r140 =>
  (s_spec_l6Identity a_.1).bind fun r145 =>
  (iter (S := (List (List Int)) × (List (List Int)) × Int) (R := (List (List Int))) (fun s458 =>
  (bif ((decide (s458.2.2 < (s458.2.1.length : Int))) && (decide ((s458.1.length : Int) ≤ most))) then (iter (S := (List (List Int)) × (List (List Int)) × Int) (R := (List (List Int))) (fun s566 =>
  (bif ((decide (s566.2.2 < (s89.length : Int))) && (decide ((s566.1.length : Int) ≤ most))) then (idx s566.2.1 s458.2.2).bind fun x600 =>
  (idx s89 s566.2.2).bind fun x604 =>
  (s_spec_l6Join x600 x604).bind fun r609 =>
  (s_spec_l6Put s566.1 r609).bind fun r613 =>
  (bif (decide ((s566.1.length : Int) < (r613.length : Int))) then (app s566.2.1 ([r609])).bind fun y619 =>
  some (.nx (r613, y619, w64 (s566.2.2 + 1))) else some (.nx (s566.1, s566.2.1, w64 (s566.2.2 + 1)))) else some (.br (s566.1, s566.2.1, s566.2.2)))) FU (s458.1, s458.2.1, 0)).bind fun o570 => after o570 (fun r_ => some (.rt r_)) (fun s566 =>
  some (.nx (s566.1, s566.2.1, w64 (s458.2.2 + 1)))) else some (.br (s458.1, s458.2.1, s458.2.2)))) FU ([r140], [r145], 0)).bind fun o462 => after o462 (fun r_ => some r_) (fun s458 =>
  some s458.1))
set_option maxHeartbeats 4000000 in
theorem c_spec_l6Most {M : Nat → Prop} {w : World} {pa0 : Option Addr} {pn0 pc0 : Nat} (a_ : Int × (List (Int × (List Int)))) (most : Int) (h0 : (RT.rs (RT.pr (RT.int .i64) (RT.rs (RT.int .i64)))).val M w (.slice pa0 pn0 pc0) a_.2 ([])) (hM : ∀ g, w.heap.size ≤ g → M g) {r : (List (List Int))} (hs : s_spec_l6Most a_ most = some r) :
    Gives Try.prog 82 [(.agg #[(.int .i64 a_.1), (.slice pa0 pn0 pc0)]), (.int .i64 most)] w (fun v w' => ∃ (ra0 : Option Addr) (rn0 rc0 : Nat), v = (.slice ra0 rn0 rc0) ∧ Chg [] w w' ∧ (RT.rs (RT.rs (RT.int .i64))).val (Past M w w') w' (.slice ra0 rn0 rc0) r []) := by
 refine calls_fr Try.func82 rfl Try.ntmps82 (Nat.le_of_ble_eq_true rfl) ?_
 have hO := Own.start (N := Nw w []) hM Nw.fut
 have hC := Chg.refl [] w
 unfold s_spec_l6Most at hs
 refine wp_mono (Q := KPost (k_spec_l6Most M w r)) ?_ (fun e a w1 h => ?_)
 rotate_left
 ·cases e
  case ret =>
   obtain ⟨σ, ra0, rn0, rc0, rfl, hrest⟩ := h
   exact ret1x Try.results82 (res_tmp rfl) ⟨ra0, rn0, rc0, rfl, hrest⟩
  all_goals exact (h : False).elim
 refine c_seq (c_region ?_)
 obtain ⟨w2, g2, ew2, eg2, hC2, hb2⟩ := new_block w [(.int .i64 a_.1), (.slice pa0 pn0 pc0)] 35
 refine pl_val (w' := w2) (.pointer (some ⟨g2, 0, none⟩)) (y_box rfl (by rw [ew2, eg2]; kernel_rfl)) ?_
 have h0 := h0.ext hC2
 have hC := hC.ext hC2
 have hO := hO.new1 hC2 eg2 hb2.lt
 refine pl_val (.slice none 0 0) (y_assign rfl) ?_
 refine c_nil ?_
 refine c_seq (c_region ?_)
 obtain ⟨w3, g3, ew3, eg3, hC3, hb3⟩ := new_block w2 [] 22
 refine pl_val (w' := w3) (.slice (some ⟨g3, 0, none⟩) 0 0) (y_bslice rfl (by rw [ew3, eg3]; kernel_rfl)) ?_
 have h0 := h0.ext hC3
 have hb2 := hb2.chg hC3 (fun h => nomatch h)
 have hC := hC.ext hC3
 have hO := hO.new1 hC3 eg3 hb3.lt
 have hv3 := os_of_box (r := (RT.os 3 (RT.int .i64))) (M := M) (css := []) (fps := []) (xs := ([] : List (List Int))) hb3 trivial (Nat.zero_le _) (List.nodup_cons.2 ⟨(fun h => nomatch h), List.nodup_nil⟩)
 have hv3 : (RT.os 22 (RT.os 3 (RT.int .i64))).val M w3 (.slice (some ⟨g3, 0, none⟩) 0 0) [] [g3] := hv3
 refine pl_val (.slice (some ⟨g3, 0, none⟩) 0 0) (y_assign rfl) ?_
 refine c_nil ?_
 refine c_seq ?_
 refine c_seq (c_region ?_)
 refine pl_val (.int .i64 0) (y_assign rfl) ?_
 refine c_nil ?_
 obtain ⟨M88, eM88, hs88, hk88, hO, hv88⟩ := frz_own (Frz.os (Frz.os Frz.int)) hv3 hO
 have h0 := h0.sub (M' := M88) hs88
 have hK := hk88
 obtain ⟨o93, hl94, hs⟩ := bind_some hs
 refine wp_block ?_
 refine wp_forC (id := 0) a_.1 (I := fun k91 s89 a w90 => ∃ (σ : Nat → Value) (M95 : Nat → Prop) (a96 : Option Addr) (n96 : Nat) (c96 : Nat), a = fr 87 (ovl σ [(1, (.int .i64 most)), (2, (.pointer (some ⟨g2, 0, none⟩))), (5, (.slice a96 n96 c96)), (6, (.int .i64 k91))]) ∧ Chg [] w w90 ∧ Own (Nw w []) M95 w90 (([g2]) ++ []) ∧ Keeps w M M95 ∧ (RT.rs (RT.pr (RT.int .i64) (RT.rs (RT.int .i64)))).val M95 w90 (.slice pa0 pn0 pc0) a_.2 ([]) ∧ BoxV w90 g2 35 [(.int .i64 a_.1), (.slice pa0 pn0 pc0)] ∧ (RT.rs (RT.rs (RT.int .i64))).val M95 w90 (.slice a96 n96 c96) s89 ([])) (J := fun s89 a w90 => ∃ (σ : Nat → Value) (M98 : Nat → Prop) (a99 : Option Addr) (n99 : Nat) (c99 : Nat), a = fr 87 (ovl σ [(1, (.int .i64 most)), (2, (.pointer (some ⟨g2, 0, none⟩))), (5, (.slice a99 n99 c99))]) ∧ Chg [] w w90 ∧ Own (Nw w []) M98 w90 (([g2]) ++ []) ∧ Keeps w M M98 ∧ (RT.rs (RT.pr (RT.int .i64) (RT.rs (RT.int .i64)))).val M98 w90 (.slice pa0 pn0 pc0) a_.2 ([]) ∧ BoxV w90 g2 35 [(.int .i64 a_.1), (.slice pa0 pn0 pc0)] ∧ (RT.rs (RT.rs (RT.int .i64))).val M98 w90 (.slice a99 n99 c99) s89 ([])) (K := (k_spec_l6Most M w)) ?_ ?_ 0 ([]) o93 _ _ ?_ hl94 ?_
 ·rintro k91 s89 a w90 ⟨σ, M95, a96, n96, c96, rfl, hC, hO, hK, h0, hb2, hv96⟩ hlt
  refine c_seq ?_
  refine c_seq (c_region ?_)
  refine pl_val (.int .i64 k91) (y_move rfl) ?_
  refine pl_val (.pointer (some ⟨g2, 0, none⟩)) (y_faddr rfl Fa35x0) ?_
  refine pl_val (.int .i64 a_.1) (y_load rfl ((box_load Ag3 Sz3 hb2 [] [(.int .i64 a_.1)] [(.slice pa0 pn0 pc0)] rfl rfl (fun _ => rfl)) _ (Chg.refl _ _))) ?_
  refine pl_val (.bool (decide (k91 < a_.1))) (y_lss rfl rfl) ?_
  refine c_nil ?_
  refine c_condF (congrArg Value.bool (decide_eq_false hlt)) ?_
  refine wp_exit ?_
  exact ⟨rfl, _, M95, a96, n96, c96, fr_ovl 87 ⟨rfl, rfl, rfl, trivial⟩, hC, hO, hK, h0, hb2, hv96⟩
 ·rintro k91 s89 o93 a w90 ⟨σ, M95, a96, n96, c96, rfl, hC, hO, hK, h0, hb2, hv96⟩ hlt hw hs
  refine c_seq ?_
  refine c_seq (c_region ?_)
  refine pl_val (.int .i64 k91) (y_move rfl) ?_
  refine pl_val (.pointer (some ⟨g2, 0, none⟩)) (y_faddr rfl Fa35x0) ?_
  refine pl_val (.int .i64 a_.1) (y_load rfl ((box_load Ag3 Sz3 hb2 [] [(.int .i64 a_.1)] [(.slice pa0 pn0 pc0)] rfl rfl (fun _ => rfl)) _ (Chg.refl _ _))) ?_
  refine pl_val (.bool (decide (k91 < a_.1))) (y_lss rfl rfl) ?_
  refine c_nil ?_
  refine c_condT (congrArg Value.bool (decide_eq_true hlt)) ?_
  refine wp_skip ?_
  refine c_seq ?_
  refine wp_block ?_
  refine c_seq (c_region ?_)
  refine pl_val (.int .i64 0) (y_assign rfl) ?_
  refine c_nil ?_
  obtain ⟨o124, hl125, hs⟩ := bind_some hs
  refine wp_block ?_
  refine wp_forC (id := 2) k91 (I := fun k122 s120 a w121 => ∃ (σ : Nat → Value) (M126 : Nat → Prop) (a127 : Option Addr) (n127 : Nat) (c127 : Nat), a = fr 87 (ovl σ [(1, (.int .i64 most)), (2, (.pointer (some ⟨g2, 0, none⟩))), (5, (.slice a127 n127 c127)), (6, (.int .i64 k91)), (7, (.int .i64 k122))]) ∧ Chg [] w w121 ∧ Own (Nw w []) M126 w121 (([g2]) ++ []) ∧ Keeps w M M126 ∧ (RT.rs (RT.pr (RT.int .i64) (RT.rs (RT.int .i64)))).val M126 w121 (.slice pa0 pn0 pc0) a_.2 ([]) ∧ BoxV w121 g2 35 [(.int .i64 a_.1), (.slice pa0 pn0 pc0)] ∧ (RT.rs (RT.rs (RT.int .i64))).val M126 w121 (.slice a127 n127 c127) s120 ([])) (J := fun s120 a w121 => ∃ (σ : Nat → Value) (M129 : Nat → Prop) (a130 : Option Addr) (n130 : Nat) (c130 : Nat), a = fr 87 (ovl σ [(1, (.int .i64 most)), (2, (.pointer (some ⟨g2, 0, none⟩))), (5, (.slice a130 n130 c130)), (6, (.int .i64 k91))]) ∧ Chg [] w w121 ∧ Own (Nw w []) M129 w121 (([g2]) ++ []) ∧ Keeps w M M129 ∧ (RT.rs (RT.pr (RT.int .i64) (RT.rs (RT.int .i64)))).val M129 w121 (.slice pa0 pn0 pc0) a_.2 ([]) ∧ BoxV w121 g2 35 [(.int .i64 a_.1), (.slice pa0 pn0 pc0)] ∧ (RT.rs (RT.rs (RT.int .i64))).val M129 w121 (.slice a130 n130 c130) s120 ([])) (K := (k_spec_l6Most M w)) ?_ ?_ 0 s89 o124 _ _ ?_ hl125 ?_
  ·rintro k122 s120 a w121 ⟨σ, M126, a127, n127, c127, rfl, hC, hO, hK, h0, hb2, hv127⟩ hlt
   refine c_seq ?_
   refine c_seq (c_region ?_)
   refine pl_val (.int .i64 k122) (y_move rfl) ?_
   refine pl_val (.int .i64 k91) (y_move rfl) ?_
   refine pl_val (.bool (decide (k122 < k91))) (y_lss rfl rfl) ?_
   refine c_nil ?_
   refine c_condF (congrArg Value.bool (decide_eq_false hlt)) ?_
   refine wp_exit ?_
   exact ⟨rfl, _, M126, a127, n127, c127, fr_ovl 87 ⟨rfl, rfl, rfl, rfl, trivial⟩, hC, hO, hK, h0, hb2, hv127⟩
  ·rintro k122 s120 o124 a w121 ⟨σ, M126, a127, n127, c127, rfl, hC, hO, hK, h0, hb2, hv127⟩ hlt hw hs
   refine c_seq ?_
   refine c_seq (c_region ?_)
   refine pl_val (.int .i64 k122) (y_move rfl) ?_
   refine pl_val (.int .i64 k91) (y_move rfl) ?_
   refine pl_val (.bool (decide (k122 < k91))) (y_lss rfl rfl) ?_
   refine c_nil ?_
   refine c_condT (congrArg Value.bool (decide_eq_true hlt)) ?_
   refine wp_skip ?_
   refine c_seq ?_
   refine wp_block ?_
   refine c_region ?_
   refine pl_val (.slice a127 n127 c127) (y_move rfl) ?_
   refine pl_val (.agg #[(.int .i64 a_.1), (.slice pa0 pn0 pc0)]) (y_load rfl ((box_load Ag35 Sz35 hb2 [] [(.int .i64 a_.1), (.slice pa0 pn0 pc0)] [] rfl rfl (fun h => nomatch h)) _ (Chg.refl _ _))) ?_
   refine pl_val (.int .i64 k91) (y_move rfl) ?_
   refine pl_val (.int .i64 k122) (y_move rfl) ?_
   obtain ⟨r133, hr133, hs⟩ := bind_some hs
   refine pl_call Bd108 rfl (c_spec_l6Principal (M := M126) (a_.1, a_.2) k91 k122 h0 hO.fut hr133) ?_
   rintro _ w132 ⟨a132x0, n132x0, c132x0, f132x0, rfl, hC132, hv132x0, hOc132⟩
   have h0 := h0.ext hC132
   have hb2 := hb2.chg hC132 (fun h => nomatch h)
   have hv127 := hv127.ext hC132
   have hC := hC.ext hC132
   have hO := Own.join0 hO hC132 hOc132
   have hO := hO.perm (R := f132x0 ++ (([g2]) ++ ([]))) (by simp)
   obtain ⟨M136, eM136, hs136, hk136, hO, hv136⟩ := frz_own (Frz.os Frz.int) hv132x0 hO
   have h0 := h0.sub (M' := M136) hs136
   have hv127 := hv127.sub (M' := M136) hs136
   have hK := hK.trans hk136
   obtain ⟨r137, hr137, hs⟩ := bind_some hs
   refine pl_call Bd107 rfl (c_spec_l6Put (M := M136) s120 r133 hv127 hv136 hO.fut hr137) ?_
   rintro _ w135 ⟨a135x0, n135x0, c135x0, rfl, hC135, hv135x0⟩
   have hK := hK.trans (show Keeps w M136 (Past M136 w132 w135) from Keeps.past hC.size)
   have h0 := h0.ext hC135
   have hb2 := hb2.chg hC135 (fun h => nomatch h)
   have hv127 := hv127.ext hC135
   have hv136 := hv136.ext hC135
   have hC := hC.ext hC135
   have hO := hO.past hC135
   have h0 := h0.sub (M' := (Past M136 w132 w135)) (fun g hg => .inl hg.1)
   have hv127 := hv127.sub (M' := (Past M136 w132 w135)) (fun g hg => .inl hg.1)
   have hv136 := hv136.sub (M' := (Past M136 w132 w135)) (fun g hg => .inl hg.1)
   refine pl_val (.slice a135x0 n135x0 c135x0) (y_assign rfl) ?_
   refine c_nil ?_
   refine c_region ?_
   refine pl_val (.int .i64 k122) (y_move rfl) ?_
   refine pl_val (.int .i64 (w64 (k122 + 1))) (y_add rfl rfl) ?_
   refine pl_val (.int .i64 (w64 (k122 + 1))) (y_assign rfl) ?_
   refine c_nil ?_
   cases hs
   exact ⟨_, (Past M136 w132 w135), a135x0, n135x0, c135x0, fr_ovl 87 ⟨rfl, rfl, rfl, rfl, congrArg (Value.int .i64) hw, trivial⟩, hC, hO, hK, h0, hb2, hv135x0⟩
  ·skip
   exact ⟨_, M95, a96, n96, c96, fr_ovl 87 ⟨rfl, rfl, rfl, rfl, rfl, trivial⟩, hC, hO, hK, h0, hb2, hv96⟩
  ·cases o124 with
   | nx _ => exact True.intro
   | rt r_ =>
    have hs := after_rt hs
    intro a1 w1 hK
    cases hs
    exact hK
   | br s120 =>
    have hs := after_br hs
    rintro a1 w121 ⟨σ, M129, a130, n130, c130, rfl, hC, hO, hK, h0, hb2, hv130⟩
    refine c_region ?_
    refine pl_val (.int .i64 k91) (y_move rfl) ?_
    refine pl_val (.int .i64 (w64 (k91 + 1))) (y_add rfl rfl) ?_
    refine pl_val (.int .i64 (w64 (k91 + 1))) (y_assign rfl) ?_
    refine c_nil ?_
    cases hs
    exact ⟨_, M129, a130, n130, c130, fr_ovl 87 ⟨rfl, rfl, rfl, congrArg (Value.int .i64) hw, trivial⟩, hC, hO, hK, h0, hb2, hv130⟩
 ·skip
  exact ⟨_, M88, (some ⟨g3, 0, none⟩), 0, 0, fr_ovl 87 ⟨rfl, rfl, rfl, rfl, trivial⟩, hC, hO, hK, h0, hb2, hv88⟩
 ·cases o93 with
  | nx _ => exact True.intro
  | rt r_ =>
   have hs := after_rt hs
   intro a1 w1 hK
   cases hs
   exact hK
  | br s89 =>
   have hs := after_br hs
   rintro a1 w90 ⟨σ, M98, a99, n99, c99, rfl, hC, hO, hK, h0, hb2, hv99⟩
   refine c_seq (c_region ?_)
   refine pl_val (.pointer (some ⟨g2, 0, none⟩)) (y_faddr rfl Fa35x0) ?_
   refine pl_val (.int .i64 a_.1) (y_load rfl ((box_load Ag3 Sz3 hb2 [] [(.int .i64 a_.1)] [(.slice pa0 pn0 pc0)] rfl rfl (fun _ => rfl)) _ (Chg.refl _ _))) ?_
   obtain ⟨r140, hr140, hs⟩ := bind_some hs
   refine pl_call Bd95 rfl (c_spec_l6Identity (M := M98) a_.1  hO.fut hr140) ?_
   rintro _ w139 ⟨a139x0, n139x0, c139x0, f139x0, rfl, hC139, hv139x0, hOc139⟩
   have h0 := h0.ext hC139
   have hb2 := hb2.chg hC139 (fun h => nomatch h)
   have hv99 := hv99.ext hC139
   have hC := hC.ext hC139
   have hO := Own.join0 hO hC139 hOc139
   have hO := hO.perm (R := f139x0 ++ (([g2]) ++ ([]))) (by simp)
   obtain ⟨w142, g142, ew142, eg142, hC142, hb142⟩ := new_block w139 [(.slice a139x0 n139x0 c139x0)] 22
   refine pl_val (w' := w142) (.slice (some ⟨g142, 0, none⟩) 1 1) (y_bslice rfl (by rw [ew142, eg142]; kernel_rfl)) ?_
   have h0 := h0.ext hC142
   have hb2 := hb2.chg hC142 (fun h => nomatch h)
   have hv99 := hv99.ext hC142
   have hv139x0 := hv139x0.ext hC142
   have hC := hC.ext hC142
   have hO := hO.new1 hC142 eg142 hb142.lt
   have hO := hO.perm (R := (g142 :: ((f139x0) ++ ([]))) ++ (([g2]) ++ ([]))) (by simp)
   have hnd142 := hO.nd
   have hv142 := os_of_box (r := (RT.os 3 (RT.int .i64))) (M := M98) (css := [[(.slice a139x0 n139x0 c139x0)]]) (fps := [(f139x0 : List Nat)]) (xs := ([r140] : List (List Int))) hb142 ⟨(os_unval hv139x0), trivial⟩ (Nat.le_of_ble_eq_true rfl) hnd142
   have hv142 : (RT.os 22 (RT.os 3 (RT.int .i64))).val M98 w142 (.slice (some ⟨g142, 0, none⟩) 1 1) [r140] (g142 :: ((f139x0) ++ ([]))) := hv142
   refine pl_val (.slice (some ⟨g142, 0, none⟩) 1 1) (y_assign rfl) ?_
   refine c_nil ?_
   refine c_seq (c_region ?_)
   refine pl_val (.pointer (some ⟨g2, 0, none⟩)) (y_faddr rfl Fa35x0) ?_
   refine pl_val (.int .i64 a_.1) (y_load rfl ((box_load Ag3 Sz3 hb2 [] [(.int .i64 a_.1)] [(.slice pa0 pn0 pc0)] rfl rfl (fun _ => rfl)) _ (Chg.refl _ _))) ?_
   obtain ⟨r145, hr145, hs⟩ := bind_some hs
   refine pl_call Bd95 rfl (c_spec_l6Identity (M := M98) a_.1  hO.fut hr145) ?_
   rintro _ w144 ⟨a144x0, n144x0, c144x0, f144x0, rfl, hC144, hv144x0, hOc144⟩
   have h0 := h0.ext hC144
   have hb2 := hb2.chg hC144 (fun h => nomatch h)
   have hv99 := hv99.ext hC144
   have hv142 := hv142.ext hC144
   have hC := hC.ext hC144
   have hO := Own.join0 hO hC144 hOc144
   have hO := hO.perm (R := f144x0 ++ ((g142 :: ((f139x0) ++ ([]))) ++ (([g2]) ++ ([])))) (by simp)
   obtain ⟨w147, g147, ew147, eg147, hC147, hb147⟩ := new_block w144 [(.slice a144x0 n144x0 c144x0)] 22
   refine pl_val (w' := w147) (.slice (some ⟨g147, 0, none⟩) 1 1) (y_bslice rfl (by rw [ew147, eg147]; kernel_rfl)) ?_
   have h0 := h0.ext hC147
   have hb2 := hb2.chg hC147 (fun h => nomatch h)
   have hv99 := hv99.ext hC147
   have hv142 := hv142.ext hC147
   have hv144x0 := hv144x0.ext hC147
   have hC := hC.ext hC147
   have hO := hO.new1 hC147 eg147 hb147.lt
   have hO := hO.perm (R := (g147 :: ((f144x0) ++ ([]))) ++ ((g142 :: ((f139x0) ++ ([]))) ++ (([g2]) ++ ([])))) (by simp)
   have hnd147 := hO.nd
   have hv147 := os_of_box (r := (RT.os 3 (RT.int .i64))) (M := M98) (css := [[(.slice a144x0 n144x0 c144x0)]]) (fps := [(f144x0 : List Nat)]) (xs := ([r145] : List (List Int))) hb147 ⟨(os_unval hv144x0), trivial⟩ (Nat.le_of_ble_eq_true rfl) hnd147
   have hv147 : (RT.os 22 (RT.os 3 (RT.int .i64))).val M98 w147 (.slice (some ⟨g147, 0, none⟩) 1 1) [r145] (g147 :: ((f144x0) ++ ([]))) := hv147
   refine pl_val (.slice (some ⟨g147, 0, none⟩) 1 1) (y_assign rfl) ?_
   refine c_nil ?_
   refine c_seq ?_
   refine c_seq (c_region ?_)
   refine pl_val (.int .i64 0) (y_assign rfl) ?_
   refine c_nil ?_
   have hO := hO.fr2
   have hO := hO.drop
   have hO := hO.fr1
   obtain ⟨M456, eM456, hs456, hk456, hO, hv456⟩ := frz_own (Frz.os (Frz.os Frz.int)) hv142 hO
   have hv99 := hv99.sub (M' := M456) hs456
   have hv147 := hv147.sub (M' := M456) hs456
   have hK := hK.trans hk456
   obtain ⟨M457, f457, hs457, hk457, hO, hv457⟩ := os_inner (Frz.os Frz.int) hv147 hO
   have hv99 := hv99.sub (M' := M457) hs457
   have hv456 := hv456.sub (M' := M457) hs457
   have hK := hK.trans hk457
   obtain ⟨o462, hl463, hs⟩ := bind_some hs
   refine wp_block ?_
   refine wp_iter (id := 4) (I := fun s458 a w459 => ∃ (σ : Nat → Value) (M464 : Nat → Prop) (a465 : Option Addr) (n465 : Nat) (c465 : Nat) (a467 : Option Addr) (n467 : Nat) (c467 : Nat) (f467 : List Nat), a = fr 87 (ovl σ [(1, (.int .i64 most)), (5, (.slice a99 n99 c99)), (8, (.slice a465 n465 c465)), (9, (.slice a467 n467 c467)), (10, (.int .i64 s458.2.2))]) ∧ Chg [] w w459 ∧ Own (Nw w []) M464 w459 (f467 ++ []) ∧ Keeps w M M464 ∧ (RT.rs (RT.rs (RT.int .i64))).val M464 w459 (.slice a99 n99 c99) s89 ([]) ∧ (RT.rs (RT.rs (RT.int .i64))).val M464 w459 (.slice a465 n465 c465) s458.1 ([]) ∧ (RT.os 22 (RT.rs (RT.int .i64))).val M464 w459 (.slice a467 n467 c467) s458.2.1 f467) (J := fun s458 a w459 => ∃ (σ : Nat → Value) (M469 : Nat → Prop) (a470 : Option Addr) (n470 : Nat) (c470 : Nat) (a472 : Option Addr) (n472 : Nat) (c472 : Nat) (f472 : List Nat), a = fr 87 (ovl σ [(8, (.slice a470 n470 c470))]) ∧ Chg [] w w459 ∧ Own (Nw w []) M469 w459 (f472 ++ []) ∧ Keeps w M M469 ∧ (RT.rs (RT.rs (RT.int .i64))).val M469 w459 (.slice a99 n99 c99) s89 ([]) ∧ (RT.rs (RT.rs (RT.int .i64))).val M469 w459 (.slice a470 n470 c470) s458.1 ([]) ∧ (RT.os 22 (RT.rs (RT.int .i64))).val M469 w459 (.slice a472 n472 c472) s458.2.1 f472) (K := (k_spec_l6Most M w)) ?_ FU ([r140], [r145], 0) o462 _ _ ?_ hl463 ?_
   ·rintro s458 o462 a w459 ⟨σ, M464, a465, n465, c465, a467, n467, c467, f467, rfl, hC, hO, hK, hv99, hv465, hv467⟩ hs
    refine c_seq ?_
    refine c_seq ?_
    refine c_mid (I := fun a w475 => ∃ (σ : Nat → Value), a = fr 87 (ovl σ [(1, (.int .i64 most)), (5, (.slice a99 n99 c99)), (8, (.slice a465 n465 c465)), (9, (.slice a467 n467 c467)), (10, (.int .i64 s458.2.2)), (49, (.bool ((decide (s458.2.2 < (s458.2.1.length : Int))) && (decide ((s458.1.length : Int) ≤ most)))))]) ∧ Chg [] w459 w475) ?_ ?_
    ·have hMid := Chg.refl [] w459
     refine c_region ?_
     refine pl_val (.int .i64 s458.2.2) (y_move rfl) ?_
     refine pl_val (.slice a467 n467 c467) (y_move rfl) ?_
     refine pl_val (.int .i64 (s458.2.1.length : Int)) (y_len' Sl41 (os_len hv467) rfl) ?_
     refine pl_val (.bool (decide (s458.2.2 < (s458.2.1.length : Int)))) (y_lss rfl rfl) ?_
     refine pl_val (.bool (decide (s458.2.2 < (s458.2.1.length : Int)))) (y_move rfl) ?_
     rcases Bool.eq_false_or_eq_true ((decide (s458.2.2 < (s458.2.1.length : Int)))) with hc477 | hc477
     ·skip
      refine pl_yes (.slice a465 n465 c465) (tg := 44) (by kernel_rfl) (congrArg Value.bool hc477) (y_move rfl) ?_
      refine pl_yes (.int .i64 (s458.1.length : Int)) (tg := 44) (by kernel_rfl) (congrArg Value.bool hc477) (y_len' Sl41 (rs_len hv465) rfl) ?_
      refine pl_yes (.int .i64 most) (tg := 44) (by kernel_rfl) (congrArg Value.bool hc477) (y_move rfl) ?_
      refine pl_yes (.bool (decide ((s458.1.length : Int) ≤ most))) (tg := 44) (by kernel_rfl) (congrArg Value.bool hc477) (y_leq rfl rfl) ?_
      refine pl_val (.bool ((decide (s458.2.2 < (s458.2.1.length : Int))) && (decide ((s458.1.length : Int) ≤ most)))) (y_pick_t (congrArg Value.bool hc477) (congrArg Value.bool (by rw [hc477]; rfl))) ?_
      refine c_nil ?_
      exact ⟨_, fr_ovl 87 ⟨rfl, rfl, rfl, rfl, rfl, rfl, trivial⟩, hMid⟩
     ·skip
      refine pl_not (tg := 44) (by kernel_rfl) (congrArg Value.bool hc477) ?_
      refine pl_not (tg := 44) (by kernel_rfl) (congrArg Value.bool hc477) ?_
      refine pl_not (tg := 44) (by kernel_rfl) (congrArg Value.bool hc477) ?_
      refine pl_not (tg := 44) (by kernel_rfl) (congrArg Value.bool hc477) ?_
      refine pl_val (.bool ((decide (s458.2.2 < (s458.2.1.length : Int))) && (decide ((s458.1.length : Int) ≤ most)))) (y_pick_f (congrArg Value.bool hc477) (congrArg Value.bool (by rw [hc477]; rfl))) ?_
      refine c_nil ?_
      exact ⟨_, fr_ovl 87 ⟨rfl, rfl, rfl, rfl, rfl, rfl, trivial⟩, hMid⟩
    ·rintro a1 w475 ⟨σ, rfl, hCs474⟩
     have hv99 := hv99.ext hCs474
     have hv465 := hv465.ext hCs474
     have hv467 := hv467.ext hCs474
     have hC := hC.ext hCs474
     have hO := hO.ext hCs474
     rcases bif_some hs with ⟨hc478, hs⟩ | ⟨hc478, hs⟩
     ·skip
      refine c_condT (congrArg Value.bool hc478) ?_
      refine wp_skip ?_
      refine c_seq ?_
      refine wp_block ?_
      refine c_seq (c_region ?_)
      refine pl_val (.int .i64 0) (y_assign rfl) ?_
      refine c_nil ?_
      obtain ⟨o570, hl571, hs⟩ := bind_some hs
      refine wp_block ?_
      refine wp_iter (id := 6) (I := fun s566 a w567 => ∃ (σ : Nat → Value) (M572 : Nat → Prop) (a573 : Option Addr) (n573 : Nat) (c573 : Nat) (a575 : Option Addr) (n575 : Nat) (c575 : Nat) (f575 : List Nat), a = fr 87 (ovl σ [(1, (.int .i64 most)), (5, (.slice a99 n99 c99)), (8, (.slice a573 n573 c573)), (9, (.slice a575 n575 c575)), (10, (.int .i64 s458.2.2)), (11, (.int .i64 s566.2.2))]) ∧ Chg [] w w567 ∧ Own (Nw w []) M572 w567 (f575 ++ []) ∧ Keeps w M M572 ∧ (RT.rs (RT.rs (RT.int .i64))).val M572 w567 (.slice a99 n99 c99) s89 ([]) ∧ (RT.rs (RT.rs (RT.int .i64))).val M572 w567 (.slice a573 n573 c573) s566.1 ([]) ∧ (RT.os 22 (RT.rs (RT.int .i64))).val M572 w567 (.slice a575 n575 c575) s566.2.1 f575) (J := fun s566 a w567 => ∃ (σ : Nat → Value) (M577 : Nat → Prop) (a578 : Option Addr) (n578 : Nat) (c578 : Nat) (a580 : Option Addr) (n580 : Nat) (c580 : Nat) (f580 : List Nat), a = fr 87 (ovl σ [(1, (.int .i64 most)), (5, (.slice a99 n99 c99)), (8, (.slice a578 n578 c578)), (9, (.slice a580 n580 c580)), (10, (.int .i64 s458.2.2))]) ∧ Chg [] w w567 ∧ Own (Nw w []) M577 w567 (f580 ++ []) ∧ Keeps w M M577 ∧ (RT.rs (RT.rs (RT.int .i64))).val M577 w567 (.slice a99 n99 c99) s89 ([]) ∧ (RT.rs (RT.rs (RT.int .i64))).val M577 w567 (.slice a578 n578 c578) s566.1 ([]) ∧ (RT.os 22 (RT.rs (RT.int .i64))).val M577 w567 (.slice a580 n580 c580) s566.2.1 f580) (K := (k_spec_l6Most M w)) ?_ FU (s458.1, s458.2.1, 0) o570 _ _ ?_ hl571 ?_
      ·rintro s566 o570 a w567 ⟨σ, M572, a573, n573, c573, a575, n575, c575, f575, rfl, hC, hO, hK, hv99, hv573, hv575⟩ hs
       refine c_seq ?_
       refine c_seq ?_
       refine c_mid (I := fun a w583 => ∃ (σ : Nat → Value), a = fr 87 (ovl σ [(1, (.int .i64 most)), (5, (.slice a99 n99 c99)), (8, (.slice a573 n573 c573)), (9, (.slice a575 n575 c575)), (10, (.int .i64 s458.2.2)), (11, (.int .i64 s566.2.2)), (61, (.bool ((decide (s566.2.2 < (s89.length : Int))) && (decide ((s566.1.length : Int) ≤ most)))))]) ∧ Chg [] w567 w583) ?_ ?_
       ·have hMid := Chg.refl [] w567
        refine c_region ?_
        refine pl_val (.int .i64 s566.2.2) (y_move rfl) ?_
        refine pl_val (.slice a99 n99 c99) (y_move rfl) ?_
        refine pl_val (.int .i64 (s89.length : Int)) (y_len' Sl41 (rs_len hv99) rfl) ?_
        refine pl_val (.bool (decide (s566.2.2 < (s89.length : Int)))) (y_lss rfl rfl) ?_
        refine pl_val (.bool (decide (s566.2.2 < (s89.length : Int)))) (y_move rfl) ?_
        rcases Bool.eq_false_or_eq_true ((decide (s566.2.2 < (s89.length : Int)))) with hc585 | hc585
        ·skip
         refine pl_yes (.slice a573 n573 c573) (tg := 56) (by kernel_rfl) (congrArg Value.bool hc585) (y_move rfl) ?_
         refine pl_yes (.int .i64 (s566.1.length : Int)) (tg := 56) (by kernel_rfl) (congrArg Value.bool hc585) (y_len' Sl41 (rs_len hv573) rfl) ?_
         refine pl_yes (.int .i64 most) (tg := 56) (by kernel_rfl) (congrArg Value.bool hc585) (y_move rfl) ?_
         refine pl_yes (.bool (decide ((s566.1.length : Int) ≤ most))) (tg := 56) (by kernel_rfl) (congrArg Value.bool hc585) (y_leq rfl rfl) ?_
         refine pl_val (.bool ((decide (s566.2.2 < (s89.length : Int))) && (decide ((s566.1.length : Int) ≤ most)))) (y_pick_t (congrArg Value.bool hc585) (congrArg Value.bool (by rw [hc585]; rfl))) ?_
         refine c_nil ?_
         exact ⟨_, fr_ovl 87 ⟨rfl, rfl, rfl, rfl, rfl, rfl, rfl, trivial⟩, hMid⟩
        ·skip
         refine pl_not (tg := 56) (by kernel_rfl) (congrArg Value.bool hc585) ?_
         refine pl_not (tg := 56) (by kernel_rfl) (congrArg Value.bool hc585) ?_
         refine pl_not (tg := 56) (by kernel_rfl) (congrArg Value.bool hc585) ?_
         refine pl_not (tg := 56) (by kernel_rfl) (congrArg Value.bool hc585) ?_
         refine pl_val (.bool ((decide (s566.2.2 < (s89.length : Int))) && (decide ((s566.1.length : Int) ≤ most)))) (y_pick_f (congrArg Value.bool hc585) (congrArg Value.bool (by rw [hc585]; rfl))) ?_
         refine c_nil ?_
         exact ⟨_, fr_ovl 87 ⟨rfl, rfl, rfl, rfl, rfl, rfl, rfl, trivial⟩, hMid⟩
       ·rintro a1 w583 ⟨σ, rfl, hCs582⟩
        have hv99 := hv99.ext hCs582
        have hv573 := hv573.ext hCs582
        have hv575 := hv575.ext hCs582
        have hC := hC.ext hCs582
        have hO := hO.ext hCs582
        rcases bif_some hs with ⟨hc586, hs⟩ | ⟨hc586, hs⟩
        ·skip
         refine c_condT (congrArg Value.bool hc586) ?_
         refine wp_skip ?_
         refine c_seq ?_
         refine wp_block ?_
         refine c_seq ?_
         refine x_start [] Mx rfl ?_
         have hCw599 := Chg.drew w583
         generalize World.drew w583 = w599 at hCw599 ⊢
         have hv99 := hv99.ext hCw599
         have hv573 := hv573.ext hCw599
         have hv575 := hv575.ext hCw599
         have hC := hC.ext hCw599
         have hO := hO.ext hCw599
         have hS := Chg.refl [] w599
         refine x_p 0 (.slice a575 n575 c575) rfl (by kernel_rfl)  (fun _ => y_move rfl) (fun _ => hS) ?_
         refine x_p 1 (.int .i64 s458.2.2) rfl (by kernel_rfl)  (fun _ => y_move rfl) (fun _ => hS) ?_
         obtain ⟨x600, hx600, hs⟩ := bind_some hs
         obtain ⟨g601, f601, hg601, hk601, hp601, ha601, hf601⟩ := os_idx Sl41 Sz22 hv575 hx600
         have hb601 := rd_row Rd.rs ha601
         refine x_p 2 (.pointer (some ⟨g601, 0 + Int.toNat s458.2.2 * 1, none⟩)) rfl (by kernel_rfl)  (fun _ => hp601 _ _ _ _ _ _ _ _ _ rfl rfl) (fun _ => hS) ?_
         obtain ⟨v602, hl602, hv602⟩ := at_load Ag22 Sz22 (fun _ => rfl) hb601
         obtain ⟨a602, n602, c602, rfl⟩ := rs_sl hv602
         refine x_l 3 (.slice a602 n602 c602) rfl (by kernel_rfl)  (fun w' hw' => y_load rfl (hl602 w' hw')) hS ?_
         refine x_p 4 (.slice a99 n99 c99) rfl (by kernel_rfl)  (fun _ => y_move rfl) (fun _ => hS) ?_
         refine x_p 5 (.int .i64 s566.2.2) rfl (by kernel_rfl)  (fun _ => y_move rfl) (fun _ => hS) ?_
         obtain ⟨x604, hx604, hs⟩ := bind_some hs
         obtain ⟨b605, o605, hp605, ha605⟩ := rs_idx Sl41 Sz22 hv99 hx604
         refine x_p 6 (.pointer (some ⟨b605, o605, none⟩)) rfl (by kernel_rfl)  (fun _ => hp605 _ _ _ _ _ _ _ _ _ rfl rfl) (fun _ => hS) ?_
         obtain ⟨v606, hl606, hv606⟩ := at_load Ag22 Sz22 (fun _ => rfl) ha605
         obtain ⟨a606, n606, c606, rfl⟩ := rs_sl hv606
         refine x_l 7 (.slice a606 n606 c606) rfl (by kernel_rfl)  (fun w' hw' => y_load rfl (hl606 w' hw')) hS ?_
         refine x_one (i := 8) (by kernel_rfl) ?_
         obtain ⟨r609, hr609, hs⟩ := bind_some hs
         refine xk_call (b := false) rfl  Bd72 rfl (c_spec_l6Join (M := M572) x600 x604 hv602 hv606 hO.fut hr609) rfl (by rintro _ _ _ ⟨a608x0, n608x0, c608x0, f608x0, rfl, hC608, hv608x0, hOc608⟩; exact hS.ext hC608) ?_
         rintro _ w608 ⟨a608x0, n608x0, c608x0, f608x0, rfl, hC608, hv608x0, hOc608⟩
         have hv99 := hv99.ext hC608
         have hv573 := hv573.ext hC608
         have hv575 := hv575.ext hC608
         have hv602 := hv602.ext hC608
         have hv606 := hv606.ext hC608
         have hC := hC.ext hC608
         have hO := Own.join0 hO hC608 hOc608
         have hO := hO.perm (R := f608x0 ++ (f575 ++ ([]))) (by simp)
         have hS := hS.ext hC608
         refine x_p 9 (.slice a608x0 n608x0 c608x0) rfl (by kernel_rfl)  (fun _ => y_assign rfl) (fun _ => hS) ?_
         refine x_end (by kernel_rfl) ?_
         clear hS
         refine c_seq (c_region ?_)
         refine pl_val (.slice a573 n573 c573) (y_move rfl) ?_
         refine pl_val (.slice a608x0 n608x0 c608x0) (y_move rfl) ?_
         obtain ⟨M612, eM612, hs612, hk612, hO, hv612⟩ := frz_own (Frz.os Frz.int) hv608x0 hO
         have hv99 := hv99.sub (M' := M612) hs612
         have hv573 := hv573.sub (M' := M612) hs612
         have hv575 := hv575.sub (M' := M612) hs612
         have hv602 := hv602.sub (M' := M612) hs612
         have hv606 := hv606.sub (M' := M612) hs612
         have hK := hK.trans hk612
         obtain ⟨r613, hr613, hs⟩ := bind_some hs
         refine pl_call Bd107 rfl (c_spec_l6Put (M := M612) s566.1 r609 hv573 hv612 hO.fut hr613) ?_
         rintro _ w611 ⟨a611x0, n611x0, c611x0, rfl, hC611, hv611x0⟩
         have hK := hK.trans (show Keeps w M612 (Past M612 w608 w611) from Keeps.past hC.size)
         have hv99 := hv99.ext hC611
         have hv573 := hv573.ext hC611
         have hv575 := hv575.ext hC611
         have hv602 := hv602.ext hC611
         have hv606 := hv606.ext hC611
         have hv612 := hv612.ext hC611
         have hC := hC.ext hC611
         have hO := hO.past hC611
         have hv99 := hv99.sub (M' := (Past M612 w608 w611)) (fun g hg => .inl hg.1)
         have hv573 := hv573.sub (M' := (Past M612 w608 w611)) (fun g hg => .inl hg.1)
         have hv575 := hv575.sub (M' := (Past M612 w608 w611)) (fun g hg => .inl hg.1)
         have hv602 := hv602.sub (M' := (Past M612 w608 w611)) (fun g hg => .inl hg.1)
         have hv606 := hv606.sub (M' := (Past M612 w608 w611)) (fun g hg => .inl hg.1)
         have hv612 := hv612.sub (M' := (Past M612 w608 w611)) (fun g hg => .inl hg.1)
         refine pl_val (.slice a611x0 n611x0 c611x0) (y_assign rfl) ?_
         refine c_nil ?_
         refine c_seq (c_region ?_)
         refine pl_val (.slice a611x0 n611x0 c611x0) (y_move rfl) ?_
         refine pl_val (.int .i64 (r613.length : Int)) (y_len' Sl41 (rs_len hv611x0) rfl) ?_
         refine pl_val (.slice a573 n573 c573) (y_move rfl) ?_
         refine pl_val (.int .i64 (s566.1.length : Int)) (y_len' Sl41 (rs_len hv573) rfl) ?_
         refine pl_val (.bool (decide ((s566.1.length : Int) < (r613.length : Int)))) (y_gtr rfl rfl) ?_
         refine c_nil ?_
         rcases bif_some hs with ⟨hc615, hs⟩ | ⟨hc615, hs⟩
         ·skip
          refine c_condT (congrArg Value.bool hc615) ?_
          refine c_seq (c_region ?_)
          refine pl_val (.slice a611x0 n611x0 c611x0) (y_move rfl) ?_
          refine pl_val (.slice a611x0 n611x0 c611x0) (y_assign rfl) ?_
          refine c_nil ?_
          refine c_region ?_
          refine pl_val (.slice a575 n575 c575) (y_move rfl) ?_
          refine pl_val (.slice a608x0 n608x0 c608x0) (y_move rfl) ?_
          obtain ⟨w616, g616, ew616, eg616, hC616, hb616⟩ := new_block w611 [(.slice a608x0 n608x0 c608x0)] 22
          refine pl_val (w' := w616) (.slice (some ⟨g616, 0, none⟩) 1 1) (y_bslice rfl (by rw [ew616, eg616]; kernel_rfl)) ?_
          have hv99 := hv99.ext hC616
          have hv575 := hv575.ext hC616
          have hv612 := hv612.ext hC616
          have hv611x0 := hv611x0.ext hC616
          have hC := hC.ext hC616
          have hO := hO.new1 hC616 eg616 hb616.lt
          have hv616 := os_of_box (r := (RT.rs (RT.int .i64))) (M := (Past M612 w608 w611)) (css := [[(.slice a608x0 n608x0 c608x0)]]) (fps := [([] : List Nat)]) (xs := ([r609] : List (List Int))) hb616 ⟨(rs_unval hv612), trivial⟩ (Nat.le_of_ble_eq_true rfl) (List.nodup_cons.2 ⟨(fun h => nomatch h), List.nodup_nil⟩)
          have hv616 : (RT.os 22 (RT.rs (RT.int .i64))).val (Past M612 w608 w611) w616 (.slice (some ⟨g616, 0, none⟩) 1 1) [r609] [g616] := hv616
          obtain ⟨y619, hy619, hs⟩ := bind_some hs
          have hO := hO.fr1
          obtain ⟨a618, n618, c618, w618, f618, hr618, hC618, hf618, hv618⟩ := app_os Rw41 hy619 hv575 hv616 hO.inM (fun g hg hq => hO.apart g hq (mem_l hg))
          have hG618 := os_block hv575
          refine pl_val (w' := w618) (.slice a618 n618 c618) (y_append rfl rfl (hr618 _)) ?_
          have hO := hO.fr1
          have hO := hO.fr1
          have hv99 := hv99.mut hC618 (fun g hg => hO.inM g (hG618 g hg)) (fun _ _ h => nomatch h)
          have hv612 := hv612.mut hC618 (fun g hg => hO.inM g (hG618 g hg)) (fun _ _ h => nomatch h)
          have hv611x0 := hv611x0.mut hC618 (fun g hg => hO.inM g (hG618 g hg)) (fun _ _ h => nomatch h)
          have hC := hC.step hC618 (fun g hg => hO.inN g (hG618 g hg))
          have hO := hO.eat hC618 hf618 (os_nodup hv618) hv618.fpl
          refine pl_val (.slice a618 n618 c618) (y_assign rfl) ?_
          refine c_nil ?_
          refine c_region ?_
          refine pl_val (.int .i64 s566.2.2) (y_move rfl) ?_
          refine pl_val (.int .i64 (w64 (s566.2.2 + 1))) (y_add rfl rfl) ?_
          refine pl_val (.int .i64 (w64 (s566.2.2 + 1))) (y_assign rfl) ?_
          refine c_nil ?_
          cases hs
          exact ⟨_, (Past M612 w608 w611), a611x0, n611x0, c611x0, a618, n618, c618, f618, fr_ovl 87 ⟨rfl, rfl, rfl, rfl, rfl, rfl, trivial⟩, hC, hO, hK, hv99, hv611x0, hv618⟩
         ·skip
          refine c_condF (congrArg Value.bool hc615) ?_
          refine wp_skip ?_
          refine c_region ?_
          refine pl_val (.int .i64 s566.2.2) (y_move rfl) ?_
          refine pl_val (.int .i64 (w64 (s566.2.2 + 1))) (y_add rfl rfl) ?_
          refine pl_val (.int .i64 (w64 (s566.2.2 + 1))) (y_assign rfl) ?_
          refine c_nil ?_
          cases hs
          exact ⟨_, (Past M612 w608 w611), a573, n573, c573, a575, n575, c575, f575, fr_ovl 87 ⟨rfl, rfl, rfl, rfl, rfl, rfl, trivial⟩, hC, hO, hK, hv99, hv573, hv575⟩
        ·skip
         refine c_condF (congrArg Value.bool hc586) ?_
         refine wp_exit ?_
         cases hs
         exact ⟨rfl, _, M572, a573, n573, c573, a575, n575, c575, f575, fr_ovl 87 ⟨rfl, rfl, rfl, rfl, rfl, trivial⟩, hC, hO, hK, hv99, hv573, hv575⟩
      ·skip
       exact ⟨_, M464, a465, n465, c465, a467, n467, c467, f467, fr_ovl 87 ⟨rfl, rfl, rfl, rfl, rfl, rfl, trivial⟩, hC, hO, hK, hv99, hv465, hv467⟩
      ·cases o570 with
       | nx _ => exact True.intro
       | rt r_ =>
        have hs := after_rt hs
        intro a1 w1 hK
        cases hs
        exact hK
       | br s566 =>
        have hs := after_br hs
        rintro a1 w567 ⟨σ, M577, a578, n578, c578, a580, n580, c580, f580, rfl, hC, hO, hK, hv99, hv578, hv580⟩
        refine c_region ?_
        refine pl_val (.int .i64 s458.2.2) (y_move rfl) ?_
        refine pl_val (.int .i64 (w64 (s458.2.2 + 1))) (y_add rfl rfl) ?_
        refine pl_val (.int .i64 (w64 (s458.2.2 + 1))) (y_assign rfl) ?_
        refine c_nil ?_
        cases hs
        exact ⟨_, M577, a578, n578, c578, a580, n580, c580, f580, fr_ovl 87 ⟨rfl, rfl, rfl, rfl, rfl, trivial⟩, hC, hO, hK, hv99, hv578, hv580⟩
     ·skip
      refine c_condF (congrArg Value.bool hc478) ?_
      refine wp_exit ?_
      cases hs
      exact ⟨rfl, _, M464, a465, n465, c465, a467, n467, c467, f467, fr_ovl 87 ⟨rfl, trivial⟩, hC, hO, hK, hv99, hv465, hv467⟩
   ·skip
    exact ⟨_, M457, (some ⟨g142, 0, none⟩), 1, 1, (some ⟨g147, 0, none⟩), 1, 1, f457, fr_ovl 87 ⟨rfl, rfl, rfl, rfl, rfl, trivial⟩, hC, hO, hK, hv99, hv456, hv457⟩
   ·cases o462 with
    | nx _ => exact True.intro
    | rt r_ =>
     have hs := after_rt hs
     intro a1 w1 hK
     cases hs
     exact hK
    | br s458 =>
     have hs := after_br hs
     rintro a1 w459 ⟨σ, M469, a470, n470, c470, a472, n472, c472, f472, rfl, hC, hO, hK, hv99, hv470, hv472⟩
     refine c_seq (c_region ?_)
     refine pl_val (.slice a470 n470 c470) (y_move rfl) ?_
     refine pl_val (.slice a470 n470 c470) (y_assign rfl) ?_
     refine c_nil ?_
     refine wp_ret ?_
     cases hs
     exact ⟨_, a470, n470, c470, fr_ovl 87 ⟨rfl, trivial⟩, hC, (Keeps.out hK hv470)⟩

theorem Bd81 : Bodied Try.prog 81 := bodied Try.func81 (by kernel_rfl) rfl

theorem Bd82 : Bodied Try.prog 82 := bodied Try.func82 (by kernel_rfl) rfl

def k_spec_l16All (M : Nat → Prop) (w0 : World) (r : (List (List Int)) × Bool) (a : Act) (w : World) : Prop :=
  ∃ (σ : Nat → Value) (ra0 : Option Addr) (rn0 rc0 : Nat), a = fr 15 (ovl σ [(2, (.slice ra0 rn0 rc0)), (3, (.bool r.2))]) ∧ Chg [] w0 w ∧ (RT.rs (RT.rs (RT.int .i64))).val (Past M w0 w) w (.slice ra0 rn0 rc0) r.1 []
def s_spec_l16All (a_ : Int × (List (Int × (List Int)))) : Option ((List (List Int)) × Bool) :=
  (s_spec_l2Good (a_.1, a_.2)).bind fun r4 =>
  (bif (!r4) then some ([], false) else (s_spec_l6Most (a_.1, a_.2) 60).bind fun r10 =>
  some (r10, (decide ((r10.length : Int) ≤ 60))))
set_option maxHeartbeats 4000000 in
theorem c_spec_l16All {M : Nat → Prop} {w : World} {pa0 : Option Addr} {pn0 pc0 : Nat} (a_ : Int × (List (Int × (List Int)))) (h0 : (RT.rs (RT.pr (RT.int .i64) (RT.rs (RT.int .i64)))).val M w (.slice pa0 pn0 pc0) a_.2 ([])) (hM : ∀ g, w.heap.size ≤ g → M g) {r : (List (List Int)) × Bool} (hs : s_spec_l16All a_ = some r) :
    Gives Try.prog 49 [(.agg #[(.int .i64 a_.1), (.slice pa0 pn0 pc0)])] w (fun v w' => ∃ (ra0 : Option Addr) (rn0 rc0 : Nat), v = (.tuple #[(.slice ra0 rn0 rc0), (.bool r.2)]) ∧ Chg [] w w' ∧ (RT.rs (RT.rs (RT.int .i64))).val (Past M w w') w' (.slice ra0 rn0 rc0) r.1 []) := by
 refine calls_fr Try.func49 rfl Try.ntmps49 (Nat.le_of_ble_eq_true rfl) ?_
 have hO := Own.start (N := Nw w []) hM Nw.fut
 have hC := Chg.refl [] w
 unfold s_spec_l16All at hs
 refine wp_mono (Q := KPost (k_spec_l16All M w r)) ?_ (fun e a w1 h => ?_)
 rotate_left
 ·cases e
  case ret =>
   obtain ⟨σ, ra0, rn0, rc0, rfl, hrest⟩ := h
   exact ret2x Try.results49 (res_tmp rfl) (res_tmp rfl) ⟨ra0, rn0, rc0, rfl, hrest⟩
  all_goals exact (h : False).elim
 refine c_seq (c_region ?_)
 obtain ⟨w2, g2, ew2, eg2, hC2, hb2⟩ := new_block w [(.int .i64 a_.1), (.slice pa0 pn0 pc0)] 35
 refine pl_val (w' := w2) (.pointer (some ⟨g2, 0, none⟩)) (y_box rfl (by rw [ew2, eg2]; kernel_rfl)) ?_
 have h0 := h0.ext hC2
 have hC := hC.ext hC2
 have hO := hO.new1 hC2 eg2 hb2.lt
 refine pl_val (.slice none 0 0) (y_assign rfl) ?_
 refine pl_val (.bool false) (y_assign rfl) ?_
 refine c_nil ?_
 refine c_seq ?_
 refine c_seq (c_region ?_)
 refine pl_val (.agg #[(.int .i64 a_.1), (.slice pa0 pn0 pc0)]) (y_load rfl ((box_load Ag35 Sz35 hb2 [] [(.int .i64 a_.1), (.slice pa0 pn0 pc0)] [] rfl rfl (fun h => nomatch h)) _ (Chg.refl _ _))) ?_
 obtain ⟨r4, hr4, hs⟩ := bind_some hs
 refine pl_call Bd81 rfl (c_spec_l2Good (M := M) (a_.1, a_.2) h0 hO.fut hr4) ?_
 rintro _ w3 ⟨rfl, hC3⟩
 have h0 := h0.ext hC3
 have hb2 := hb2.chg hC3 (fun h => nomatch h)
 have hC := hC.ext hC3
 have hO := hO.ext hC3
 refine pl_val (.bool (!r4)) (y_not rfl) ?_
 refine c_nil ?_
 rcases bif_some hs with ⟨hc5, hs⟩ | ⟨hc5, hs⟩
 ·skip
  refine c_condT (congrArg Value.bool hc5) ?_
  refine c_seq (c_region ?_)
  obtain ⟨w6, g6, ew6, eg6, hC6, hb6⟩ := new_block w3 [] 22
  refine pl_val (w' := w6) (.slice (some ⟨g6, 0, none⟩) 0 0) (y_bslice rfl (by rw [ew6, eg6]; kernel_rfl)) ?_
  have h0 := h0.ext hC6
  have hb2 := hb2.chg hC6 (fun h => nomatch h)
  have hC := hC.ext hC6
  have hO := hO.new1 hC6 eg6 hb6.lt
  have hv6 := os_of_box (r := (RT.os 3 (RT.int .i64))) (M := M) (css := []) (fps := []) (xs := ([] : List (List Int))) hb6 trivial (Nat.zero_le _) (List.nodup_cons.2 ⟨(fun h => nomatch h), List.nodup_nil⟩)
  have hv6 : (RT.os 22 (RT.os 3 (RT.int .i64))).val M w6 (.slice (some ⟨g6, 0, none⟩) 0 0) [] [g6] := hv6
  refine pl_val (.slice (some ⟨g6, 0, none⟩) 0 0) (y_assign rfl) ?_
  refine pl_val (.bool false) (y_assign rfl) ?_
  refine c_nil ?_
  refine wp_ret ?_
  cases hs
  obtain ⟨M8, eM8, hs8, hk8, hO, hv8⟩ := frz_own (Frz.os (Frz.os Frz.int)) hv6 hO
  have h0 := h0.sub (M' := M8) hs8
  have hK := hk8
  exact ⟨_, (some ⟨g6, 0, none⟩), 0, 0, fr_ovl 15 ⟨rfl, rfl, trivial⟩, hC, (Keeps.out hK hv8)⟩
 ·skip
  refine c_condF (congrArg Value.bool hc5) ?_
  refine wp_skip ?_
  refine c_seq (c_region ?_)
  refine pl_val (.agg #[(.int .i64 a_.1), (.slice pa0 pn0 pc0)]) (y_load rfl ((box_load Ag35 Sz35 hb2 [] [(.int .i64 a_.1), (.slice pa0 pn0 pc0)] [] rfl rfl (fun h => nomatch h)) _ (Chg.refl _ _))) ?_
  obtain ⟨r10, hr10, hs⟩ := bind_some hs
  refine pl_call Bd82 rfl (c_spec_l6Most (M := M) (a_.1, a_.2) 60 h0 hO.fut hr10) ?_
  rintro _ w9 ⟨a9x0, n9x0, c9x0, rfl, hC9, hv9x0⟩
  have hK := (show Keeps w M (Past M w3 w9) from Keeps.past hC.size)
  have h0 := h0.ext hC9
  have hb2 := hb2.chg hC9 (fun h => nomatch h)
  have hC := hC.ext hC9
  have hO := hO.past hC9
  have h0 := h0.sub (M' := (Past M w3 w9)) (fun g hg => .inl hg.1)
  refine pl_val (.slice a9x0 n9x0 c9x0) (y_assign rfl) ?_
  refine c_nil ?_
  refine c_seq (c_region ?_)
  refine pl_val (.slice a9x0 n9x0 c9x0) (y_move rfl) ?_
  refine pl_val (.slice a9x0 n9x0 c9x0) (y_move rfl) ?_
  refine pl_val (.int .i64 (r10.length : Int)) (y_len' Sl41 (rs_len hv9x0) rfl) ?_
  refine pl_val (.bool (decide ((r10.length : Int) ≤ 60))) (y_leq rfl rfl) ?_
  refine pl_val (.slice a9x0 n9x0 c9x0) (y_assign rfl) ?_
  refine pl_val (.bool (decide ((r10.length : Int) ≤ 60))) (y_assign rfl) ?_
  refine c_nil ?_
  refine wp_ret ?_
  cases hs
  exact ⟨_, a9x0, n9x0, c9x0, fr_ovl 15 ⟨rfl, rfl, trivial⟩, hC, (Keeps.out hK hv9x0)⟩

theorem Ag71 : AggT Try.prog 71 true := fun _ => by kernel_rfl

theorem Sz71 : SzT Try.prog 71 2 := ⟨_, rfl, rfl⟩

theorem Fa71x1 : ∀ (a : Addr) (w : World), (Instr.fieldAt 71 (.pointer (some a)) 1).run Try.prog w = .ok (.pointer (some (a.add 1))) w := fun _ _ => by kernel_rfl

theorem Ag41 : AggT Try.prog 41 false := fun _ => by kernel_rfl

theorem Sz41 : SzT Try.prog 41 1 := ⟨_, rfl, rfl⟩

def k_spec_l13OfPartition (M : Nat → Prop) (w0 : World) (r : (Int × (List (List Int)))) (a : Act) (w : World) : Prop :=
  ∃ (σ : Nat → Value) (rg2 : Nat) (ra0 : Option Addr) (rn0 rc0 : Nat) (rf0 : List Nat), a = fr 38 (ovl σ [(2, (.pointer (some ⟨rg2, 0, none⟩)))]) ∧ BoxV w rg2 71 [(.int .i64 r.1), (.slice ra0 rn0 rc0)] ∧ Chg [] w0 w ∧ (RT.os 22 (RT.os 3 (RT.int .i64))).val M w (.slice ra0 rn0 rc0) r.2 rf0 ∧ Own (Nw w0 []) (fun _ => True) w (rf0 ++ ([]))
def s_spec_l13OfPartition (p : List Int) : Option ((Int × (List (List Int)))) :=
  (forC (S := (List (List Int))) (R := (Int × (List (List Int)))) (fun k150 s148 =>
  (forC (S := (List (List Int))) (R := (Int × (List (List Int)))) (fun k200 s198 =>
  (idx p k150).bind fun x214 =>
  (idx p k200).bind fun x216 =>
  (bif (x214 == x216) then (app s198 ([[k150, k200]])).bind fun y224 =>
  some (.nx y224) else some (.nx s198))) 0 (p.length : Int) s148).bind fun o202 => after o202 (fun r_ => some (.rt r_)) (fun s198 =>
  some (.nx s198))) 0 (p.length : Int) ([])).bind fun o152 => after o152 (fun r_ => some r_) (fun s148 =>
  some (2, s148))
set_option maxHeartbeats 4000000 in
theorem c_spec_l13OfPartition {M : Nat → Prop} {w : World} {pa0 : Option Addr} {pn0 pc0 : Nat} (p : List Int) (h0 : (RT.rs (RT.int .i64)).val M w (.slice pa0 pn0 pc0) p ([])) (hM : ∀ g, w.heap.size ≤ g → M g) {r : (Int × (List (List Int)))} (hs : s_spec_l13OfPartition p = some r) :
    Gives Try.prog 71 [(.slice pa0 pn0 pc0)] w (fun v w' => ∃ (ra0 : Option Addr) (rn0 rc0 : Nat) (rf0 : List Nat), v = (.agg #[(.int .i64 r.1), (.slice ra0 rn0 rc0)]) ∧ Chg [] w w' ∧ (RT.os 22 (RT.os 3 (RT.int .i64))).val M w' (.slice ra0 rn0 rc0) r.2 rf0 ∧ Own (Nw w []) (fun _ => True) w' (rf0 ++ ([]))) := by
 refine calls_fr Try.func71 rfl Try.ntmps71 (Nat.le_of_ble_eq_true rfl) ?_
 have hO := Own.start (N := Nw w []) hM Nw.fut
 have hC := Chg.refl [] w
 unfold s_spec_l13OfPartition at hs
 refine wp_mono (Q := KPost (k_spec_l13OfPartition M w r)) ?_ (fun e a w1 h => ?_)
 rotate_left
 ·cases e
  case ret =>
   obtain ⟨σ, rg2, ra0, rn0, rc0, rf0, rfl, hbrg2, hrest⟩ := h
   exact ret1x Try.results71 (res_cell rfl (box_load Ag71 Sz71 hbrg2 [] _ [] rfl rfl (fun h => nomatch h))) ⟨ra0, rn0, rc0, rf0, rfl, hrest⟩
  all_goals exact (h : False).elim
 refine c_seq (c_region ?_)
 obtain ⟨w2, g2, ew2, eg2, hC2, hb2⟩ := new_block w [(.int .i64 0), (.slice none 0 0)] 71
 refine pl_val (w' := w2) (.pointer (some ⟨g2, 0, none⟩)) (y_alloc (by rw [ew2, eg2]; kernel_rfl)) ?_
 have h0 := h0.ext hC2
 have hC := hC.ext hC2
 have hO := hO.new1 hC2 eg2 hb2.lt
 refine c_nil ?_
 refine c_seq (c_region ?_)
 obtain ⟨w3, g3, ew3, eg3, hC3, hb3⟩ := new_block w2 [] 22
 refine pl_val (w' := w3) (.slice (some ⟨g3, 0, none⟩) 0 0) (y_bslice rfl (by rw [ew3, eg3]; kernel_rfl)) ?_
 have h0 := h0.ext hC3
 have hb2 := hb2.chg hC3 (fun h => nomatch h)
 have hC := hC.ext hC3
 have hO := hO.new1 hC3 eg3 hb3.lt
 have hv3 := os_of_box (r := (RT.os 3 (RT.int .i64))) (M := M) (css := []) (fps := []) (xs := ([] : List (List Int))) hb3 trivial (Nat.zero_le _) (List.nodup_cons.2 ⟨(fun h => nomatch h), List.nodup_nil⟩)
 have hv3 : (RT.os 22 (RT.os 3 (RT.int .i64))).val M w3 (.slice (some ⟨g3, 0, none⟩) 0 0) [] [g3] := hv3
 refine pl_val (.agg #[(.int .i64 2), (.slice (some ⟨g3, 0, none⟩) 0 0)]) (y_build rfl (by kernel_rfl)) ?_
 obtain ⟨w5, g5, ew5, eg5, hC5, hb5⟩ := new_block w3 [(.int .i64 0), (.slice none 0 0)] 71
 refine pl_val (w' := w5) (.pointer (some ⟨g5, 0, none⟩)) (y_alloc (by rw [ew5, eg5]; kernel_rfl)) ?_
 have h0 := h0.ext hC5
 have hb2 := hb2.chg hC5 (fun h => nomatch h)
 have hv3 := hv3.ext hC5
 have hC := hC.ext hC5
 have hO := hO.new1 hC5 eg5 hb5.lt
 obtain ⟨w6, hst6, hC6, hb6⟩ := box_store (P := Try.prog) hb5 [] [(.int .i64 0), (.slice none 0 0)] [] [(.int .i64 2), (.slice (some ⟨g3, 0, none⟩) 0 0)] rfl rfl (by intro u hu; simp only [List.mem_cons, List.not_mem_nil, or_false] at hu; rcases hu with rfl | rfl <;> rfl)
 refine pl_skip (w' := w6) (ys_store rfl rfl (hst6 _ _ rfl Sz71)) ?_
 have h0 := h0.mut hC6 (fun g hg => hO.inM g ((fun _ h => h) g hg)) (fun _ _ h => nomatch h)
 have hb2 := hb2.chg hC6 (fun hg => hO.apart _ ((fun _ h => h) _ hg) (mem_r (mem_l (List.mem_singleton.2 rfl))))
 have hv3 := hv3.mut hC6 (fun g hg => hO.inM g ((fun _ h => h) g hg)) (fun g hg e => hO.apart g ((fun _ h => h) g hg) (mem_l (e)))
 have hC := hC.step hC6 (fun g hg => hO.inN g ((fun _ h => h) g hg))
 have hO := hO.ext hC6
 have hb6 : BoxV w6 g5 71 [(.int .i64 2), (.slice (some ⟨g3, 0, none⟩) 0 0)] := hb6
 refine c_nil ?_
 refine c_seq ?_
 refine c_seq (c_region ?_)
 refine pl_val (.int .i64 0) (y_assign rfl) ?_
 refine c_nil ?_
 obtain ⟨o152, hl153, hs⟩ := bind_some hs
 refine wp_block ?_
 refine wp_forC (id := 0) (p.length : Int) (I := fun k150 s148 a w149 => ∃ (σ : Nat → Value) (a154 : Option Addr) (n154 : Nat) (c154 : Nat) (f154 : List Nat), a = fr 38 (ovl σ [(0, (.slice pa0 pn0 pc0)), (2, (.pointer (some ⟨g2, 0, none⟩))), (3, (.pointer (some ⟨g5, 0, none⟩))), (4, (.int .i64 k150))]) ∧ Chg [] w w149 ∧ Own (Nw w []) M w149 (f154 ++ (([g5]) ++ (([g2]) ++ []))) ∧ (RT.rs (RT.int .i64)).val M w149 (.slice pa0 pn0 pc0) p ([]) ∧ BoxV w149 g2 71 [(.int .i64 0), (.slice none 0 0)] ∧ BoxV w149 g5 71 [(.int .i64 2), (.slice a154 n154 c154)] ∧ (RT.os 22 (RT.os 3 (RT.int .i64))).val M w149 (.slice a154 n154 c154) s148 f154) (J := fun s148 a w149 => ∃ (σ : Nat → Value) (a156 : Option Addr) (n156 : Nat) (c156 : Nat) (f156 : List Nat), a = fr 38 (ovl σ [(2, (.pointer (some ⟨g2, 0, none⟩))), (3, (.pointer (some ⟨g5, 0, none⟩)))]) ∧ Chg [] w w149 ∧ Own (Nw w []) M w149 (f156 ++ (([g5]) ++ (([g2]) ++ []))) ∧ (RT.rs (RT.int .i64)).val M w149 (.slice pa0 pn0 pc0) p ([]) ∧ BoxV w149 g2 71 [(.int .i64 0), (.slice none 0 0)] ∧ BoxV w149 g5 71 [(.int .i64 2), (.slice a156 n156 c156)] ∧ (RT.os 22 (RT.os 3 (RT.int .i64))).val M w149 (.slice a156 n156 c156) s148 f156) (K := (k_spec_l13OfPartition M w)) ?_ ?_ 0 ([]) o152 _ _ ?_ hl153 ?_
 ·rintro k150 s148 a w149 ⟨σ, a154, n154, c154, f154, rfl, hC, hO, h0, hb2, hb6, hv154⟩ hlt
  refine c_seq ?_
  refine c_seq (c_region ?_)
  refine pl_val (.int .i64 k150) (y_move rfl) ?_
  refine pl_val (.slice pa0 pn0 pc0) (y_move rfl) ?_
  refine pl_val (.int .i64 (p.length : Int)) (y_len' Sl22 (rs_len h0) rfl) ?_
  refine pl_val (.bool (decide (k150 < (p.length : Int)))) (y_lss rfl rfl) ?_
  refine c_nil ?_
  refine c_condF (congrArg Value.bool (decide_eq_false hlt)) ?_
  refine wp_exit ?_
  have hO := hO.fr2
  have hO := hO.fr2
  have hO := hO.fr2
  exact ⟨rfl, _, a154, n154, c154, f154, fr_ovl 38 ⟨rfl, rfl, trivial⟩, hC, hO, h0, hb2, hb6, hv154⟩
 ·rintro k150 s148 o152 a w149 ⟨σ, a154, n154, c154, f154, rfl, hC, hO, h0, hb2, hb6, hv154⟩ hlt hw hs
  refine c_seq ?_
  refine c_seq (c_region ?_)
  refine pl_val (.int .i64 k150) (y_move rfl) ?_
  refine pl_val (.slice pa0 pn0 pc0) (y_move rfl) ?_
  refine pl_val (.int .i64 (p.length : Int)) (y_len' Sl22 (rs_len h0) rfl) ?_
  refine pl_val (.bool (decide (k150 < (p.length : Int)))) (y_lss rfl rfl) ?_
  refine c_nil ?_
  refine c_condT (congrArg Value.bool (decide_eq_true hlt)) ?_
  refine wp_skip ?_
  refine c_seq ?_
  refine wp_block ?_
  refine c_seq (c_region ?_)
  refine pl_val (.int .i64 0) (y_assign rfl) ?_
  refine c_nil ?_
  obtain ⟨o202, hl203, hs⟩ := bind_some hs
  refine wp_block ?_
  refine wp_forC (id := 2) (p.length : Int) (I := fun k200 s198 a w199 => ∃ (σ : Nat → Value) (a204 : Option Addr) (n204 : Nat) (c204 : Nat) (f204 : List Nat), a = fr 38 (ovl σ [(0, (.slice pa0 pn0 pc0)), (2, (.pointer (some ⟨g2, 0, none⟩))), (3, (.pointer (some ⟨g5, 0, none⟩))), (4, (.int .i64 k150)), (5, (.int .i64 k200))]) ∧ Chg [] w w199 ∧ Own (Nw w []) M w199 (f204 ++ (([g5]) ++ (([g2]) ++ []))) ∧ (RT.rs (RT.int .i64)).val M w199 (.slice pa0 pn0 pc0) p ([]) ∧ BoxV w199 g2 71 [(.int .i64 0), (.slice none 0 0)] ∧ BoxV w199 g5 71 [(.int .i64 2), (.slice a204 n204 c204)] ∧ (RT.os 22 (RT.os 3 (RT.int .i64))).val M w199 (.slice a204 n204 c204) s198 f204) (J := fun s198 a w199 => ∃ (σ : Nat → Value) (a206 : Option Addr) (n206 : Nat) (c206 : Nat) (f206 : List Nat), a = fr 38 (ovl σ [(0, (.slice pa0 pn0 pc0)), (2, (.pointer (some ⟨g2, 0, none⟩))), (3, (.pointer (some ⟨g5, 0, none⟩))), (4, (.int .i64 k150))]) ∧ Chg [] w w199 ∧ Own (Nw w []) M w199 (f206 ++ (([g5]) ++ (([g2]) ++ []))) ∧ (RT.rs (RT.int .i64)).val M w199 (.slice pa0 pn0 pc0) p ([]) ∧ BoxV w199 g2 71 [(.int .i64 0), (.slice none 0 0)] ∧ BoxV w199 g5 71 [(.int .i64 2), (.slice a206 n206 c206)] ∧ (RT.os 22 (RT.os 3 (RT.int .i64))).val M w199 (.slice a206 n206 c206) s198 f206) (K := (k_spec_l13OfPartition M w)) ?_ ?_ 0 s148 o202 _ _ ?_ hl203 ?_
  ·rintro k200 s198 a w199 ⟨σ, a204, n204, c204, f204, rfl, hC, hO, h0, hb2, hb6, hv204⟩ hlt
   refine c_seq ?_
   refine c_seq (c_region ?_)
   refine pl_val (.int .i64 k200) (y_move rfl) ?_
   refine pl_val (.slice pa0 pn0 pc0) (y_move rfl) ?_
   refine pl_val (.int .i64 (p.length : Int)) (y_len' Sl22 (rs_len h0) rfl) ?_
   refine pl_val (.bool (decide (k200 < (p.length : Int)))) (y_lss rfl rfl) ?_
   refine c_nil ?_
   refine c_condF (congrArg Value.bool (decide_eq_false hlt)) ?_
   refine wp_exit ?_
   have hO := hO.fr2
   have hO := hO.fr2
   have hO := hO.fr2
   exact ⟨rfl, _, a204, n204, c204, f204, fr_ovl 38 ⟨rfl, rfl, rfl, rfl, trivial⟩, hC, hO, h0, hb2, hb6, hv204⟩
  ·rintro k200 s198 o202 a w199 ⟨σ, a204, n204, c204, f204, rfl, hC, hO, h0, hb2, hb6, hv204⟩ hlt hw hs
   refine c_seq ?_
   refine c_seq (c_region ?_)
   refine pl_val (.int .i64 k200) (y_move rfl) ?_
   refine pl_val (.slice pa0 pn0 pc0) (y_move rfl) ?_
   refine pl_val (.int .i64 (p.length : Int)) (y_len' Sl22 (rs_len h0) rfl) ?_
   refine pl_val (.bool (decide (k200 < (p.length : Int)))) (y_lss rfl rfl) ?_
   refine c_nil ?_
   refine c_condT (congrArg Value.bool (decide_eq_true hlt)) ?_
   refine wp_skip ?_
   refine c_seq ?_
   refine wp_block ?_
   refine c_seq ?_
   refine x_start [] Mx rfl ?_
   have hCw213 := Chg.drew w199
   generalize World.drew w199 = w213 at hCw213 ⊢
   have h0 := h0.ext hCw213
   have hb2 := hb2.chg hCw213 (fun h => nomatch h)
   have hb6 := hb6.chg hCw213 (fun h => nomatch h)
   have hv204 := hv204.ext hCw213
   have hC := hC.ext hCw213
   have hO := hO.ext hCw213
   have hS := Chg.refl [] w213
   refine x_p 0 (.slice pa0 pn0 pc0) rfl (by kernel_rfl)  (fun _ => y_move rfl) (fun _ => hS) ?_
   refine x_p 1 (.int .i64 k150) rfl (by kernel_rfl)  (fun _ => y_move rfl) (fun _ => hS) ?_
   obtain ⟨x214, hx214, hs⟩ := bind_some hs
   obtain ⟨b215, o215, hp215, ha215⟩ := rs_idx Sl22 Sz3 h0 hx214
   refine x_p 2 (.pointer (some ⟨b215, o215, none⟩)) rfl (by kernel_rfl)  (fun _ => hp215 _ _ _ _ _ _ _ _ _ rfl rfl) (fun _ => hS) ?_
   refine x_l 3 (.int .i64 x214) rfl (by kernel_rfl)  (fun w' hw' => y_load rfl ((at_load_int Ag3 Sz3 ha215) w' hw')) hS ?_
   refine x_p 4 (.slice pa0 pn0 pc0) rfl (by kernel_rfl)  (fun _ => y_move rfl) (fun _ => hS) ?_
   refine x_p 5 (.int .i64 k200) rfl (by kernel_rfl)  (fun _ => y_move rfl) (fun _ => hS) ?_
   obtain ⟨x216, hx216, hs⟩ := bind_some hs
   obtain ⟨b217, o217, hp217, ha217⟩ := rs_idx Sl22 Sz3 h0 hx216
   refine x_p 6 (.pointer (some ⟨b217, o217, none⟩)) rfl (by kernel_rfl)  (fun _ => hp217 _ _ _ _ _ _ _ _ _ rfl rfl) (fun _ => hS) ?_
   refine x_l 7 (.int .i64 x216) rfl (by kernel_rfl)  (fun w' hw' => y_load rfl ((at_load_int Ag3 Sz3 ha217) w' hw')) hS ?_
   refine x_p 8 (.bool (x214 == x216)) rfl (by kernel_rfl)  (fun _ => y_eql rfl rfl) (fun _ => hS) ?_
   refine x_end (by kernel_rfl) ?_
   clear hS
   rcases bif_some hs with ⟨hc218, hs⟩ | ⟨hc218, hs⟩
   ·skip
    refine c_condT (congrArg Value.bool hc218) ?_
    refine c_region ?_
    refine pl_val (.pointer (some ⟨g5, 1, none⟩)) (y_faddr rfl Fa71x1) ?_
    refine pl_val (.slice a204 n204 c204) (y_load rfl ((box_load Ag41 Sz41 hb6 [(.int .i64 2)] [(.slice a204 n204 c204)] [] rfl rfl (fun _ => rfl)) _ (Chg.refl _ _))) ?_
    refine pl_val (.int .i64 k150) (y_move rfl) ?_
    refine pl_val (.int .i64 k200) (y_move rfl) ?_
    obtain ⟨w219, g219, ew219, eg219, hC219, hb219⟩ := new_block w213 [(.int .i64 k150), (.int .i64 k200)] 3
    refine pl_val (w' := w219) (.slice (some ⟨g219, 0, none⟩) 2 2) (y_bslice rfl (by rw [ew219, eg219]; kernel_rfl)) ?_
    have h0 := h0.ext hC219
    have hb2 := hb2.chg hC219 (fun h => nomatch h)
    have hb6 := hb6.chg hC219 (fun h => nomatch h)
    have hv204 := hv204.ext hC219
    have hC := hC.ext hC219
    have hO := hO.new1 hC219 eg219 hb219.lt
    have hv219 := os_of_box (r := (RT.int .i64)) (M := M) (css := [[(.int .i64 k150)], [(.int .i64 k200)]]) (fps := [([] : List Nat), ([] : List Nat)]) (xs := ([k150, k200] : List Int)) hb219 ⟨⟨rfl, rfl⟩, ⟨⟨rfl, rfl⟩, trivial⟩⟩ (Nat.le_of_ble_eq_true rfl) (List.nodup_cons.2 ⟨(fun h => nomatch h), List.nodup_nil⟩)
    have hv219 : (RT.os 3 (RT.int .i64)).val M w219 (.slice (some ⟨g219, 0, none⟩) 2 2) [k150, k200] [g219] := hv219
    obtain ⟨w221, g221, ew221, eg221, hC221, hb221⟩ := new_block w219 [(.slice (some ⟨g219, 0, none⟩) 2 2)] 22
    refine pl_val (w' := w221) (.slice (some ⟨g221, 0, none⟩) 1 1) (y_bslice rfl (by rw [ew221, eg221]; kernel_rfl)) ?_
    have h0 := h0.ext hC221
    have hb2 := hb2.chg hC221 (fun h => nomatch h)
    have hb6 := hb6.chg hC221 (fun h => nomatch h)
    have hv204 := hv204.ext hC221
    have hv219 := hv219.ext hC221
    have hC := hC.ext hC221
    have hO := hO.new1 hC221 eg221 hb221.lt
    have hO := hO.perm (R := (g221 :: ((([g219])) ++ ([]))) ++ (f204 ++ (([g5]) ++ (([g2]) ++ ([]))))) (by simp)
    have hnd221 := hO.nd
    have hv221 := os_of_box (r := (RT.os 3 (RT.int .i64))) (M := M) (css := [[(.slice (some ⟨g219, 0, none⟩) 2 2)]]) (fps := [([g219] : List Nat)]) (xs := ([[k150, k200]] : List (List Int))) hb221 ⟨(os_unval hv219), trivial⟩ (Nat.le_of_ble_eq_true rfl) hnd221
    have hv221 : (RT.os 22 (RT.os 3 (RT.int .i64))).val M w221 (.slice (some ⟨g221, 0, none⟩) 1 1) [[k150, k200]] (g221 :: ((([g219])) ++ ([]))) := hv221
    obtain ⟨y224, hy224, hs⟩ := bind_some hs
    have hO := hO.fr1
    obtain ⟨a223, n223, c223, w223, f223, hr223, hC223, hf223, hv223⟩ := app_os Rw41 hy224 hv204 hv221 hO.inM (fun g hg hq => hO.apart g hq (mem_l hg))
    have hG223 := os_block hv204
    refine pl_val (w' := w223) (.slice a223 n223 c223) (y_append rfl rfl (hr223 _)) ?_
    have hO := hO.fr1
    have hO := hO.fr1
    have h0 := h0.mut hC223 (fun g hg => hO.inM g (hG223 g hg)) (fun _ _ h => nomatch h)
    have hb2 := hb2.chg hC223 (fun hg => hO.apart _ (hG223 _ hg) (mem_r (mem_r (mem_l (List.mem_singleton.2 rfl)))))
    have hb6 := hb6.chg hC223 (fun hg => hO.apart _ (hG223 _ hg) (mem_r (mem_l (List.mem_singleton.2 rfl))))
    have hC := hC.step hC223 (fun g hg => hO.inN g (hG223 g hg))
    have hO := hO.eat hC223 hf223 (os_nodup hv223) hv223.fpl
    refine pl_val (.pointer (some ⟨g5, 1, none⟩)) (y_faddr rfl Fa71x1) ?_
    obtain ⟨w226, hst226, hC226, hb226⟩ := box_store (P := Try.prog) hb6 [(.int .i64 2)] [(.slice a204 n204 c204)] [] [(.slice a223 n223 c223)] rfl rfl (by intro u hu; simp only [List.mem_cons, List.not_mem_nil, or_false] at hu; rcases hu with rfl <;> rfl)
    refine pl_skip (w' := w226) (ys_store rfl rfl (hst226 _ _ rfl Sz41)) ?_
    have hO := hO.fr1
    have h0 := h0.mut hC226 (fun g hg => hO.inM g ((fun _ h => h) g hg)) (fun _ _ h => nomatch h)
    have hb2 := hb2.chg hC226 (fun hg => hO.apart _ ((fun _ h => h) _ hg) (mem_r (mem_l (List.mem_singleton.2 rfl))))
    have hv223 := hv223.mut hC226 (fun g hg => hO.inM g ((fun _ h => h) g hg)) (fun g hg e => hO.apart g ((fun _ h => h) g hg) (mem_l (e)))
    have hC := hC.step hC226 (fun g hg => hO.inN g ((fun _ h => h) g hg))
    have hO := hO.ext hC226
    have hb226 : BoxV w226 g5 71 [(.int .i64 2), (.slice a223 n223 c223)] := hb226
    refine c_nil ?_
    refine c_region ?_
    refine pl_val (.int .i64 k200) (y_move rfl) ?_
    refine pl_val (.int .i64 (w64 (k200 + 1))) (y_add rfl rfl) ?_
    refine pl_val (.int .i64 (w64 (k200 + 1))) (y_assign rfl) ?_
    refine c_nil ?_
    cases hs
    have hO := hO.fr2
    have hO := hO.fr1
    have hO := hO.fr2
    exact ⟨_, a223, n223, c223, f223, fr_ovl 38 ⟨rfl, rfl, rfl, rfl, congrArg (Value.int .i64) hw, trivial⟩, hC, hO, h0, hb2, hb226, hv223⟩
   ·skip
    refine c_condF (congrArg Value.bool hc218) ?_
    refine wp_skip ?_
    refine c_region ?_
    refine pl_val (.int .i64 k200) (y_move rfl) ?_
    refine pl_val (.int .i64 (w64 (k200 + 1))) (y_add rfl rfl) ?_
    refine pl_val (.int .i64 (w64 (k200 + 1))) (y_assign rfl) ?_
    refine c_nil ?_
    cases hs
    have hO := hO.fr2
    have hO := hO.fr2
    have hO := hO.fr2
    exact ⟨_, a204, n204, c204, f204, fr_ovl 38 ⟨rfl, rfl, rfl, rfl, congrArg (Value.int .i64) hw, trivial⟩, hC, hO, h0, hb2, hb6, hv204⟩
  ·skip
   have hO := hO.fr2
   have hO := hO.fr2
   have hO := hO.fr2
   exact ⟨_, a154, n154, c154, f154, fr_ovl 38 ⟨rfl, rfl, rfl, rfl, rfl, trivial⟩, hC, hO, h0, hb2, hb6, hv154⟩
  ·cases o202 with
   | nx _ => exact True.intro
   | rt r_ =>
    have hs := after_rt hs
    intro a1 w1 hK
    cases hs
    exact hK
   | br s198 =>
    have hs := after_br hs
    rintro a1 w199 ⟨σ, a206, n206, c206, f206, rfl, hC, hO, h0, hb2, hb6, hv206⟩
    refine c_region ?_
    refine pl_val (.int .i64 k150) (y_move rfl) ?_
    refine pl_val (.int .i64 (w64 (k150 + 1))) (y_add rfl rfl) ?_
    refine pl_val (.int .i64 (w64 (k150 + 1))) (y_assign rfl) ?_
    refine c_nil ?_
    cases hs
    have hO := hO.fr2
    have hO := hO.fr2
    have hO := hO.fr2
    exact ⟨_, a206, n206, c206, f206, fr_ovl 38 ⟨rfl, rfl, rfl, congrArg (Value.int .i64) hw, trivial⟩, hC, hO, h0, hb2, hb6, hv206⟩
 ·skip
  have hO := hO.fr2
  have hO := hO.fr1
  have hO := hO.fr2
  exact ⟨_, (some ⟨g3, 0, none⟩), 0, 0, ([g3]), fr_ovl 38 ⟨rfl, rfl, rfl, rfl, trivial⟩, hC, hO, h0, hb2, hb6, hv3⟩
 ·cases o152 with
  | nx _ => exact True.intro
  | rt r_ =>
   have hs := after_rt hs
   intro a1 w1 hK
   cases hs
   exact hK
  | br s148 =>
   have hs := after_br hs
   rintro a1 w149 ⟨σ, a156, n156, c156, f156, rfl, hC, hO, h0, hb2, hb6, hv156⟩
   refine c_seq (c_region ?_)
   refine pl_val (.agg #[(.int .i64 2), (.slice a156 n156 c156)]) (y_load rfl ((box_load Ag71 Sz71 hb6 [] [(.int .i64 2), (.slice a156 n156 c156)] [] rfl rfl (fun h => nomatch h)) _ (Chg.refl _ _))) ?_
   obtain ⟨w227, hst227, hC227, hb227⟩ := box_store (P := Try.prog) hb2 [] [(.int .i64 0), (.slice none 0 0)] [] [(.int .i64 2), (.slice a156 n156 c156)] rfl rfl (by intro u hu; simp only [List.mem_cons, List.not_mem_nil, or_false] at hu; rcases hu with rfl | rfl <;> rfl)
   refine pl_skip (w' := w227) (ys_store rfl rfl (hst227 _ _ rfl Sz71)) ?_
   have hO := hO.fr2
   have h0 := h0.mut hC227 (fun g hg => hO.inM g ((fun _ h => h) g hg)) (fun _ _ h => nomatch h)
   have hb6 := hb6.chg hC227 (fun hg => hO.apart _ ((fun _ h => h) _ hg) (mem_r (mem_l (List.mem_singleton.2 rfl))))
   have hv156 := hv156.mut hC227 (fun g hg => hO.inM g ((fun _ h => h) g hg)) (fun g hg e => hO.apart g ((fun _ h => h) g hg) (mem_l (e)))
   have hC := hC.step hC227 (fun g hg => hO.inN g ((fun _ h => h) g hg))
   have hO := hO.ext hC227
   have hb227 : BoxV w227 g2 71 [(.int .i64 2), (.slice a156 n156 c156)] := hb227
   refine c_nil ?_
   refine wp_ret ?_
   cases hs
   have hO := hO.drop
   have hO := hO.fr1
   have hO := hO.drop
   exact ⟨_, g2, a156, n156, c156, f156, fr_ovl 38 ⟨rfl, trivial⟩, hb227, hC, hv156, hO.top⟩

def k_spec_l3Less (M : Nat → Prop) (w0 : World) (r : Bool) (a : Act) (w : World) : Prop :=
  ∃ (σ : Nat → Value) , a = fr 30 (ovl σ [(4, (.bool r))]) ∧ Chg [] w0 w
def s_spec_l3Less (a_ : List Int) (b : List Int) : Option (Bool) :=
  (forC (S := Unit) (R := Bool) (fun k21 s19 =>
  (idx a_ k21).bind fun x31 =>
  (idx b k21).bind fun x33 =>
  (bif (x31 != x33) then (idx a_ k21).bind fun x37 =>
  (idx b k21).bind fun x39 =>
  some (.rt (decide (x37 < x39))) else some (.nx ()))) 0 (a_.length : Int) ()).bind fun o23 => after o23 (fun r_ => some r_) (fun s19 =>
  some false)
set_option maxHeartbeats 4000000 in
theorem c_spec_l3Less {M : Nat → Prop} {w : World} {pa0 : Option Addr} {pn0 pc0 : Nat} {pa1 : Option Addr} {pn1 pc1 : Nat} (a_ : List Int) (b : List Int) (h0 : (RT.rs (RT.int .i64)).val M w (.slice pa0 pn0 pc0) a_ ([])) (h1 : (RT.rs (RT.int .i64)).val M w (.slice pa1 pn1 pc1) b ([])) (hM : ∀ g, w.heap.size ≤ g → M g) {r : Bool} (hs : s_spec_l3Less a_ b = some r) :
    Gives Try.prog 131 [(.slice pa0 pn0 pc0), (.slice pa1 pn1 pc1)] w (fun v w' => v = (.bool r) ∧ Chg [] w w') := by
 refine calls_fr Try.func131 rfl Try.ntmps131 (Nat.le_of_ble_eq_true rfl) ?_
 have hO := Own.start (N := Nw w []) hM Nw.fut
 have hC := Chg.refl [] w
 unfold s_spec_l3Less at hs
 refine wp_mono (Q := KPost (k_spec_l3Less M w r)) ?_ (fun e a w1 h => ?_)
 rotate_left
 ·cases e
  case ret =>
   obtain ⟨σ, rfl, hrest⟩ := h
   exact ret1x Try.results131 (res_tmp rfl) ⟨rfl, hrest⟩
  all_goals exact (h : False).elim
 refine c_seq (c_region ?_)
 refine pl_val (.bool false) (y_assign rfl) ?_
 refine c_nil ?_
 refine c_seq ?_
 refine c_seq (c_region ?_)
 refine pl_val (.int .i64 0) (y_assign rfl) ?_
 refine c_nil ?_
 obtain ⟨o23, hl24, hs⟩ := bind_some hs
 refine wp_block ?_
 refine wp_forC (id := 0) (a_.length : Int) (I := fun k21 s19 a w20 => ∃ (σ : Nat → Value), a = fr 30 (ovl σ [(0, (.slice pa0 pn0 pc0)), (1, (.slice pa1 pn1 pc1)), (5, (.int .i64 k21))]) ∧ Chg [] w w20 ∧ Own (Nw w []) M w20 ([]) ∧ (RT.rs (RT.int .i64)).val M w20 (.slice pa0 pn0 pc0) a_ ([]) ∧ (RT.rs (RT.int .i64)).val M w20 (.slice pa1 pn1 pc1) b ([])) (J := fun s19 a w20 => ∃ (σ : Nat → Value), a = fr 30 (ovl σ []) ∧ Chg [] w w20 ∧ Own (Nw w []) M w20 ([]) ∧ (RT.rs (RT.int .i64)).val M w20 (.slice pa0 pn0 pc0) a_ ([]) ∧ (RT.rs (RT.int .i64)).val M w20 (.slice pa1 pn1 pc1) b ([])) (K := (k_spec_l3Less M w)) ?_ ?_ 0 () o23 _ _ ?_ hl24 ?_
 ·rintro k21 s19 a w20 ⟨σ, rfl, hC, hO, h0, h1⟩ hlt
  refine c_seq ?_
  refine c_seq (c_region ?_)
  refine pl_val (.int .i64 k21) (y_move rfl) ?_
  refine pl_val (.slice pa0 pn0 pc0) (y_move rfl) ?_
  refine pl_val (.int .i64 (a_.length : Int)) (y_len' Sl22 (rs_len h0) rfl) ?_
  refine pl_val (.bool (decide (k21 < (a_.length : Int)))) (y_lss rfl rfl) ?_
  refine c_nil ?_
  refine c_condF (congrArg Value.bool (decide_eq_false hlt)) ?_
  refine wp_exit ?_
  exact ⟨rfl, _, fr_ovl 30 trivial, hC, hO, h0, h1⟩
 ·rintro k21 s19 o23 a w20 ⟨σ, rfl, hC, hO, h0, h1⟩ hlt hw hs
  refine c_seq ?_
  refine c_seq (c_region ?_)
  refine pl_val (.int .i64 k21) (y_move rfl) ?_
  refine pl_val (.slice pa0 pn0 pc0) (y_move rfl) ?_
  refine pl_val (.int .i64 (a_.length : Int)) (y_len' Sl22 (rs_len h0) rfl) ?_
  refine pl_val (.bool (decide (k21 < (a_.length : Int)))) (y_lss rfl rfl) ?_
  refine c_nil ?_
  refine c_condT (congrArg Value.bool (decide_eq_true hlt)) ?_
  refine wp_skip ?_
  refine c_seq ?_
  refine wp_block ?_
  refine c_seq ?_
  refine x_start [] Mx rfl ?_
  have hCw30 := Chg.drew w20
  generalize World.drew w20 = w30 at hCw30 ⊢
  have h0 := h0.ext hCw30
  have h1 := h1.ext hCw30
  have hC := hC.ext hCw30
  have hO := hO.ext hCw30
  have hS := Chg.refl [] w30
  refine x_p 0 (.slice pa0 pn0 pc0) rfl (by kernel_rfl)  (fun _ => y_move rfl) (fun _ => hS) ?_
  refine x_p 1 (.int .i64 k21) rfl (by kernel_rfl)  (fun _ => y_move rfl) (fun _ => hS) ?_
  obtain ⟨x31, hx31, hs⟩ := bind_some hs
  obtain ⟨b32, o32, hp32, ha32⟩ := rs_idx Sl22 Sz3 h0 hx31
  refine x_p 2 (.pointer (some ⟨b32, o32, none⟩)) rfl (by kernel_rfl)  (fun _ => hp32 _ _ _ _ _ _ _ _ _ rfl rfl) (fun _ => hS) ?_
  refine x_l 3 (.int .i64 x31) rfl (by kernel_rfl)  (fun w' hw' => y_load rfl ((at_load_int Ag3 Sz3 ha32) w' hw')) hS ?_
  refine x_p 4 (.slice pa1 pn1 pc1) rfl (by kernel_rfl)  (fun _ => y_move rfl) (fun _ => hS) ?_
  refine x_p 5 (.int .i64 k21) rfl (by kernel_rfl)  (fun _ => y_move rfl) (fun _ => hS) ?_
  obtain ⟨x33, hx33, hs⟩ := bind_some hs
  obtain ⟨b34, o34, hp34, ha34⟩ := rs_idx Sl22 Sz3 h1 hx33
  refine x_p 6 (.pointer (some ⟨b34, o34, none⟩)) rfl (by kernel_rfl)  (fun _ => hp34 _ _ _ _ _ _ _ _ _ rfl rfl) (fun _ => hS) ?_
  refine x_l 7 (.int .i64 x33) rfl (by kernel_rfl)  (fun w' hw' => y_load rfl ((at_load_int Ag3 Sz3 ha34) w' hw')) hS ?_
  refine x_p 8 (.bool (x31 != x33)) rfl (by kernel_rfl)  (fun _ => y_neq rfl rfl) (fun _ => hS) ?_
  refine x_end (by kernel_rfl) ?_
  clear hS
  rcases bif_some hs with ⟨hc35, hs⟩ | ⟨hc35, hs⟩
  ·skip
   refine c_condT (congrArg Value.bool hc35) ?_
   refine c_seq ?_
   refine x_start [] Mx rfl ?_
   have hCw36 := Chg.drew w30
   generalize World.drew w30 = w36 at hCw36 ⊢
   have h0 := h0.ext hCw36
   have h1 := h1.ext hCw36
   have hC := hC.ext hCw36
   have hO := hO.ext hCw36
   have hS := Chg.refl [] w36
   refine x_p 0 (.slice pa0 pn0 pc0) rfl (by kernel_rfl)  (fun _ => y_move rfl) (fun _ => hS) ?_
   refine x_p 1 (.int .i64 k21) rfl (by kernel_rfl)  (fun _ => y_move rfl) (fun _ => hS) ?_
   obtain ⟨x37, hx37, hs⟩ := bind_some hs
   obtain ⟨b38, o38, hp38, ha38⟩ := rs_idx Sl22 Sz3 h0 hx37
   refine x_p 2 (.pointer (some ⟨b38, o38, none⟩)) rfl (by kernel_rfl)  (fun _ => hp38 _ _ _ _ _ _ _ _ _ rfl rfl) (fun _ => hS) ?_
   refine x_l 3 (.int .i64 x37) rfl (by kernel_rfl)  (fun w' hw' => y_load rfl ((at_load_int Ag3 Sz3 ha38) w' hw')) hS ?_
   refine x_p 4 (.slice pa1 pn1 pc1) rfl (by kernel_rfl)  (fun _ => y_move rfl) (fun _ => hS) ?_
   refine x_p 5 (.int .i64 k21) rfl (by kernel_rfl)  (fun _ => y_move rfl) (fun _ => hS) ?_
   obtain ⟨x39, hx39, hs⟩ := bind_some hs
   obtain ⟨b40, o40, hp40, ha40⟩ := rs_idx Sl22 Sz3 h1 hx39
   refine x_p 6 (.pointer (some ⟨b40, o40, none⟩)) rfl (by kernel_rfl)  (fun _ => hp40 _ _ _ _ _ _ _ _ _ rfl rfl) (fun _ => hS) ?_
   refine x_l 7 (.int .i64 x39) rfl (by kernel_rfl)  (fun w' hw' => y_load rfl ((at_load_int Ag3 Sz3 ha40) w' hw')) hS ?_
   refine x_p 8 (.bool (decide (x37 < x39))) rfl (by kernel_rfl)  (fun _ => y_lss rfl rfl) (fun _ => hS) ?_
   refine x_p 9 (.bool (decide (x37 < x39))) rfl (by kernel_rfl)  (fun _ => y_assign rfl) (fun _ => hS) ?_
   refine x_end (by kernel_rfl) ?_
   clear hS
   refine wp_ret ?_
   cases hs
   exact ⟨_, fr_ovl 30 ⟨rfl, trivial⟩, hC⟩
  ·skip
   refine c_condF (congrArg Value.bool hc35) ?_
   refine wp_skip ?_
   refine c_region ?_
   refine pl_val (.int .i64 k21) (y_move rfl) ?_
   refine pl_val (.int .i64 (w64 (k21 + 1))) (y_add rfl rfl) ?_
   refine pl_val (.int .i64 (w64 (k21 + 1))) (y_assign rfl) ?_
   refine c_nil ?_
   cases hs
   exact ⟨_, fr_ovl 30 ⟨rfl, rfl, congrArg (Value.int .i64) hw, trivial⟩, hC, hO, h0, h1⟩
 ·skip
  exact ⟨_, fr_ovl 30 ⟨rfl, rfl, rfl, trivial⟩, hC, hO, h0, h1⟩
 ·cases o23 with
  | nx _ => exact True.intro
  | rt r_ =>
   have hs := after_rt hs
   intro a1 w1 hK
   cases hs
   exact hK
  | br s19 =>
   have hs := after_br hs
   rintro a1 w20 ⟨σ, rfl, hC, hO, h0, h1⟩
   refine c_seq (c_region ?_)
   refine pl_val (.bool false) (y_assign rfl) ?_
   refine c_nil ?_
   refine wp_ret ?_
   cases hs
   exact ⟨_, fr_ovl 30 ⟨rfl, trivial⟩, hC⟩

theorem Bd131 : Bodied Try.prog 131 := bodied Try.func131 (by kernel_rfl) rfl

def k_spec_l8Find (M : Nat → Prop) (w0 : World) (r : Int × Bool) (a : Act) (w : World) : Prop :=
  ∃ (σ : Nat → Value) , a = fr 40 (ovl σ [(4, (.int .i64 r.1)), (5, (.bool r.2))]) ∧ Chg [] w0 w
def s_spec_l8Find (list : List (List Int)) (t : List Int) : Option (Int × Bool) :=
  (iter (S := Int × Int) (R := Int × Bool) (fun s11 =>
  (bif (decide (s11.1 < s11.2)) then (idx list (w64 (Int.tdiv (w64 (s11.1 + s11.2)) 2))).bind fun x18 =>
  (s_spec_l3Less x18 t).bind fun r23 =>
  (bif r23 then some (.nx (w64 ((w64 (Int.tdiv (w64 (s11.1 + s11.2)) 2)) + 1), s11.2)) else some (.nx (s11.1, w64 (Int.tdiv (w64 (s11.1 + s11.2)) 2)))) else some (.br (s11.1, s11.2)))) FU (0, (list.length : Int))).bind fun o15 => after o15 (fun r_ => some r_) (fun s11 =>
  (bif (decide (s11.1 < (list.length : Int))) then (idx list s11.1).bind fun x26 =>
  (s_spec_l1Same x26 t).bind fun r31 =>
  some (s11.1, r31) else some (s11.1, false)))
set_option maxHeartbeats 4000000 in
theorem c_spec_l8Find {M : Nat → Prop} {w : World} {pa0 : Option Addr} {pn0 pc0 : Nat} {pa1 : Option Addr} {pn1 pc1 : Nat} (list : List (List Int)) (t : List Int) (h0 : (RT.rs (RT.rs (RT.int .i64))).val M w (.slice pa0 pn0 pc0) list ([])) (h1 : (RT.rs (RT.int .i64)).val M w (.slice pa1 pn1 pc1) t ([])) (hM : ∀ g, w.heap.size ≤ g → M g) {r : Int × Bool} (hs : s_spec_l8Find list t = some r) :
    Gives Try.prog 117 [(.slice pa0 pn0 pc0), (.slice pa1 pn1 pc1)] w (fun v w' => v = (.tuple #[(.int .i64 r.1), (.bool r.2)]) ∧ Chg [] w w') := by
 refine calls_fr Try.func117 rfl Try.ntmps117 (Nat.le_of_ble_eq_true rfl) ?_
 have hO := Own.start (N := Nw w []) hM Nw.fut
 have hC := Chg.refl [] w
 unfold s_spec_l8Find at hs
 refine wp_mono (Q := KPost (k_spec_l8Find M w r)) ?_ (fun e a w1 h => ?_)
 rotate_left
 ·cases e
  case ret =>
   obtain ⟨σ, rfl, hrest⟩ := h
   exact ret2x Try.results117 (res_tmp rfl) (res_tmp rfl) ⟨rfl, hrest⟩
  all_goals exact (h : False).elim
 refine c_seq (c_region ?_)
 refine pl_val (.int .i64 0) (y_assign rfl) ?_
 refine pl_val (.bool false) (y_assign rfl) ?_
 refine c_nil ?_
 refine c_seq (c_region ?_)
 refine pl_val (.slice pa0 pn0 pc0) (y_move rfl) ?_
 refine pl_val (.int .i64 (list.length : Int)) (y_len' Sl41 (rs_len h0) rfl) ?_
 refine pl_val (.int .i64 0) (y_assign rfl) ?_
 refine pl_val (.int .i64 (list.length : Int)) (y_assign rfl) ?_
 refine c_nil ?_
 refine c_seq ?_
 obtain ⟨o15, hl16, hs⟩ := bind_some hs
 refine wp_block ?_
 refine wp_iter (id := 0) (I := fun s11 a w12 => ∃ (σ : Nat → Value), a = fr 40 (ovl σ [(0, (.slice pa0 pn0 pc0)), (1, (.slice pa1 pn1 pc1)), (6, (.int .i64 s11.1)), (7, (.int .i64 s11.2))]) ∧ Chg [] w w12 ∧ Own (Nw w []) M w12 ([]) ∧ (RT.rs (RT.rs (RT.int .i64))).val M w12 (.slice pa0 pn0 pc0) list ([]) ∧ (RT.rs (RT.int .i64)).val M w12 (.slice pa1 pn1 pc1) t ([])) (J := fun s11 a w12 => ∃ (σ : Nat → Value), a = fr 40 (ovl σ [(0, (.slice pa0 pn0 pc0)), (1, (.slice pa1 pn1 pc1)), (6, (.int .i64 s11.1))]) ∧ Chg [] w w12 ∧ Own (Nw w []) M w12 ([]) ∧ (RT.rs (RT.rs (RT.int .i64))).val M w12 (.slice pa0 pn0 pc0) list ([]) ∧ (RT.rs (RT.int .i64)).val M w12 (.slice pa1 pn1 pc1) t ([])) (K := (k_spec_l8Find M w)) ?_ FU (0, (list.length : Int)) o15 _ _ ?_ hl16 ?_
 ·rintro s11 o15 a w12 ⟨σ, rfl, hC, hO, h0, h1⟩ hs
  refine c_seq ?_
  refine c_seq (c_region ?_)
  refine pl_val (.int .i64 s11.1) (y_move rfl) ?_
  refine pl_val (.int .i64 s11.2) (y_move rfl) ?_
  refine pl_val (.bool (decide (s11.1 < s11.2))) (y_lss rfl rfl) ?_
  refine c_nil ?_
  rcases bif_some hs with ⟨hc17, hs⟩ | ⟨hc17, hs⟩
  ·skip
   refine c_condT (congrArg Value.bool hc17) ?_
   refine wp_skip ?_
   refine wp_block ?_
   refine c_seq (c_region ?_)
   refine pl_val (.int .i64 s11.1) (y_move rfl) ?_
   refine pl_val (.int .i64 s11.2) (y_move rfl) ?_
   refine pl_val (.int .i64 (w64 (s11.1 + s11.2))) (y_add rfl rfl) ?_
   refine pl_val (.int .i64 (w64 (Int.tdiv (w64 (s11.1 + s11.2)) 2))) (y_quo rfl rfl (by decide)) ?_
   refine pl_val (.int .i64 (w64 (Int.tdiv (w64 (s11.1 + s11.2)) 2))) (y_assign rfl) ?_
   refine c_nil ?_
   refine c_seq (c_region ?_)
   refine pl_val (.slice pa0 pn0 pc0) (y_move rfl) ?_
   refine pl_val (.int .i64 (w64 (Int.tdiv (w64 (s11.1 + s11.2)) 2))) (y_move rfl) ?_
   obtain ⟨x18, hx18, hs⟩ := bind_some hs
   obtain ⟨b19, o19, hp19, ha19⟩ := rs_idx Sl41 Sz22 h0 hx18
   refine pl_val (.pointer (some ⟨b19, o19, none⟩)) (hp19 _ _ _ _ _ _ _ _ _ rfl rfl) ?_
   obtain ⟨v20, hl20, hv20⟩ := at_load Ag22 Sz22 (fun _ => rfl) ha19
   obtain ⟨a20, n20, c20, rfl⟩ := rs_sl hv20
   refine pl_val (.slice a20 n20 c20) (y_load rfl (hl20 _ (Chg.refl _ _))) ?_
   refine pl_val (.slice pa1 pn1 pc1) (y_move rfl) ?_
   obtain ⟨r23, hr23, hs⟩ := bind_some hs
   refine pl_call Bd131 rfl (c_spec_l3Less (M := M) x18 t hv20 h1 hO.fut hr23) ?_
   rintro _ w22 ⟨rfl, hC22⟩
   have h0 := h0.ext hC22
   have h1 := h1.ext hC22
   have hv20 := hv20.ext hC22
   have hC := hC.ext hC22
   have hO := hO.ext hC22
   refine c_nil ?_
   rcases bif_some hs with ⟨hc24, hs⟩ | ⟨hc24, hs⟩
   ·skip
    refine c_condT (congrArg Value.bool hc24) ?_
    refine c_region ?_
    refine pl_val (.int .i64 (w64 (Int.tdiv (w64 (s11.1 + s11.2)) 2))) (y_move rfl) ?_
    refine pl_val (.int .i64 (w64 ((w64 (Int.tdiv (w64 (s11.1 + s11.2)) 2)) + 1))) (y_add rfl rfl) ?_
    refine pl_val (.int .i64 (w64 ((w64 (Int.tdiv (w64 (s11.1 + s11.2)) 2)) + 1))) (y_assign rfl) ?_
    refine c_nil ?_
    cases hs
    exact ⟨_, fr_ovl 40 ⟨rfl, rfl, rfl, rfl, trivial⟩, hC, hO, h0, h1⟩
   ·skip
    refine c_condF (congrArg Value.bool hc24) ?_
    refine c_region ?_
    refine pl_val (.int .i64 (w64 (Int.tdiv (w64 (s11.1 + s11.2)) 2))) (y_move rfl) ?_
    refine pl_val (.int .i64 (w64 (Int.tdiv (w64 (s11.1 + s11.2)) 2))) (y_assign rfl) ?_
    refine c_nil ?_
    cases hs
    exact ⟨_, fr_ovl 40 ⟨rfl, rfl, rfl, rfl, trivial⟩, hC, hO, h0, h1⟩
  ·skip
   refine c_condF (congrArg Value.bool hc17) ?_
   refine wp_exit ?_
   cases hs
   exact ⟨rfl, _, fr_ovl 40 ⟨rfl, rfl, rfl, trivial⟩, hC, hO, h0, h1⟩
 ·skip
  exact ⟨_, fr_ovl 40 ⟨rfl, rfl, rfl, rfl, trivial⟩, hC, hO, h0, h1⟩
 ·cases o15 with
  | nx _ => exact True.intro
  | rt r_ =>
   have hs := after_rt hs
   intro a1 w1 hK
   cases hs
   exact hK
  | br s11 =>
   have hs := after_br hs
   rintro a1 w12 ⟨σ, rfl, hC, hO, h0, h1⟩
   refine c_seq (c_region ?_)
   refine pl_val (.int .i64 s11.1) (y_move rfl) ?_
   refine pl_val (.int .i64 s11.1) (y_move rfl) ?_
   refine pl_val (.slice pa0 pn0 pc0) (y_move rfl) ?_
   refine pl_val (.int .i64 (list.length : Int)) (y_len' Sl41 (rs_len h0) rfl) ?_
   refine pl_val (.bool (decide (s11.1 < (list.length : Int)))) (y_lss rfl rfl) ?_
   refine pl_val (.bool (decide (s11.1 < (list.length : Int)))) (y_move rfl) ?_
   rcases bif_some hs with ⟨hc25, hs⟩ | ⟨hc25, hs⟩
   ·skip
    refine pl_yes (.slice pa0 pn0 pc0) (tg := 32) (by kernel_rfl) (congrArg Value.bool hc25) (y_move rfl) ?_
    refine pl_yes (.int .i64 s11.1) (tg := 32) (by kernel_rfl) (congrArg Value.bool hc25) (y_move rfl) ?_
    obtain ⟨x26, hx26, hs⟩ := bind_some hs
    obtain ⟨b27, o27, hp27, ha27⟩ := rs_idx Sl41 Sz22 h0 hx26
    refine pl_yes (.pointer (some ⟨b27, o27, none⟩)) (tg := 32) (by kernel_rfl) (congrArg Value.bool hc25) (hp27 _ _ _ _ _ _ _ _ _ rfl rfl) ?_
    obtain ⟨v28, hl28, hv28⟩ := at_load Ag22 Sz22 (fun _ => rfl) ha27
    obtain ⟨a28, n28, c28, rfl⟩ := rs_sl hv28
    refine pl_yes (.slice a28 n28 c28) (tg := 32) (by kernel_rfl) (congrArg Value.bool hc25) (y_load rfl (hl28 _ (Chg.refl _ _))) ?_
    refine pl_yes (.slice pa1 pn1 pc1) (tg := 32) (by kernel_rfl) (congrArg Value.bool hc25) (y_move rfl) ?_
    obtain ⟨r31, hr31, hs⟩ := bind_some hs
    refine pl_cally (tg := 32) (by kernel_rfl) (congrArg Value.bool hc25) Bd86 rfl (c_spec_l1Same (M := M) x26 t hv28 h1 hO.fut hr31) ?_
    rintro _ w30 ⟨rfl, hC30⟩
    have h0 := h0.ext hC30
    have h1 := h1.ext hC30
    have hv28 := hv28.ext hC30
    have hC := hC.ext hC30
    have hO := hO.ext hC30
    refine pl_val (.bool r31) (y_pick_t (congrArg Value.bool hc25) rfl) ?_
    refine pl_val (.int .i64 s11.1) (y_assign rfl) ?_
    refine pl_val (.bool r31) (y_assign rfl) ?_
    refine c_nil ?_
    refine wp_ret ?_
    cases hs
    exact ⟨_, fr_ovl 40 ⟨rfl, rfl, trivial⟩, hC⟩
   ·skip
    refine pl_not (tg := 32) (by kernel_rfl) (congrArg Value.bool hc25) ?_
    refine pl_not (tg := 32) (by kernel_rfl) (congrArg Value.bool hc25) ?_
    refine pl_not (tg := 32) (by kernel_rfl) (congrArg Value.bool hc25) ?_
    refine pl_not (tg := 32) (by kernel_rfl) (congrArg Value.bool hc25) ?_
    refine pl_not (tg := 32) (by kernel_rfl) (congrArg Value.bool hc25) ?_
    refine pl_not (tg := 32) (by kernel_rfl) (congrArg Value.bool hc25) ?_
    refine pl_val (.bool false) (y_pick_f (congrArg Value.bool hc25) rfl) ?_
    refine pl_val (.int .i64 s11.1) (y_assign rfl) ?_
    refine pl_val (.bool false) (y_assign rfl) ?_
    refine c_nil ?_
    refine wp_ret ?_
    cases hs
    exact ⟨_, fr_ovl 40 ⟨rfl, rfl, trivial⟩, hC⟩

theorem Fa71x0 : ∀ (a : Addr) (w : World), (Instr.fieldAt 71 (.pointer (some a)) 0).run Try.prog w = .ok (.pointer (some (a.add 0))) w := fun _ _ => by kernel_rfl

theorem Bd117 : Bodied Try.prog 117 := bodied Try.func117 (by kernel_rfl) rfl

def k_spec_l13Has (M : Nat → Prop) (w0 : World) (r : Bool) (a : Act) (w : World) : Prop :=
  ∃ (σ : Nat → Value) , a = fr 20 (ovl σ [(4, (.bool r))]) ∧ Chg [] w0 w
def s_spec_l13Has (r_ : Int × (List (List Int))) (t : List Int) : Option (Bool) :=
  (bif ((t.length : Int) != r_.1) then some false else (s_spec_l8Find r_.2 t).bind fun r6 =>
  some r6.2)
set_option maxHeartbeats 4000000 in
theorem c_spec_l13Has {M : Nat → Prop} {w : World} {pa0 : Option Addr} {pn0 pc0 : Nat} {pa1 : Option Addr} {pn1 pc1 : Nat} (r_ : Int × (List (List Int))) (t : List Int) (h0 : (RT.rs (RT.rs (RT.int .i64))).val M w (.slice pa0 pn0 pc0) r_.2 ([])) (h1 : (RT.rs (RT.int .i64)).val M w (.slice pa1 pn1 pc1) t ([])) (hM : ∀ g, w.heap.size ≤ g → M g) {r : Bool} (hs : s_spec_l13Has r_ t = some r) :
    Gives Try.prog 102 [(.agg #[(.int .i64 r_.1), (.slice pa0 pn0 pc0)]), (.slice pa1 pn1 pc1)] w (fun v w' => v = (.bool r) ∧ Chg [] w w') := by
 refine calls_fr Try.func102 rfl Try.ntmps102 (Nat.le_of_ble_eq_true rfl) ?_
 have hO := Own.start (N := Nw w []) hM Nw.fut
 have hC := Chg.refl [] w
 unfold s_spec_l13Has at hs
 refine wp_mono (Q := KPost (k_spec_l13Has M w r)) ?_ (fun e a w1 h => ?_)
 rotate_left
 ·cases e
  case ret =>
   obtain ⟨σ, rfl, hrest⟩ := h
   exact ret1x Try.results102 (res_tmp rfl) ⟨rfl, hrest⟩
  all_goals exact (h : False).elim
 refine c_seq (c_region ?_)
 obtain ⟨w3, g3, ew3, eg3, hC3, hb3⟩ := new_block w [(.int .i64 r_.1), (.slice pa0 pn0 pc0)] 71
 refine pl_val (w' := w3) (.pointer (some ⟨g3, 0, none⟩)) (y_box rfl (by rw [ew3, eg3]; kernel_rfl)) ?_
 have h0 := h0.ext hC3
 have h1 := h1.ext hC3
 have hC := hC.ext hC3
 have hO := hO.new1 hC3 eg3 hb3.lt
 refine pl_val (.bool false) (y_assign rfl) ?_
 refine c_nil ?_
 refine c_seq ?_
 refine c_seq (c_region ?_)
 refine pl_val (.slice pa1 pn1 pc1) (y_move rfl) ?_
 refine pl_val (.int .i64 (t.length : Int)) (y_len' Sl22 (rs_len h1) rfl) ?_
 refine pl_val (.pointer (some ⟨g3, 0, none⟩)) (y_faddr rfl Fa71x0) ?_
 refine pl_val (.int .i64 r_.1) (y_load rfl ((box_load Ag3 Sz3 hb3 [] [(.int .i64 r_.1)] [(.slice pa0 pn0 pc0)] rfl rfl (fun _ => rfl)) _ (Chg.refl _ _))) ?_
 refine pl_val (.bool ((t.length : Int) != r_.1)) (y_neq rfl rfl) ?_
 refine c_nil ?_
 rcases bif_some hs with ⟨hc4, hs⟩ | ⟨hc4, hs⟩
 ·skip
  refine c_condT (congrArg Value.bool hc4) ?_
  refine c_seq (c_region ?_)
  refine pl_val (.bool false) (y_assign rfl) ?_
  refine c_nil ?_
  refine wp_ret ?_
  cases hs
  exact ⟨_, fr_ovl 20 ⟨rfl, trivial⟩, hC⟩
 ·skip
  refine c_condF (congrArg Value.bool hc4) ?_
  refine wp_skip ?_
  refine c_seq (c_region ?_)
  refine pl_val (.pointer (some ⟨g3, 1, none⟩)) (y_faddr rfl Fa71x1) ?_
  refine pl_val (.slice pa0 pn0 pc0) (y_load rfl ((box_load Ag41 Sz41 hb3 [(.int .i64 r_.1)] [(.slice pa0 pn0 pc0)] [] rfl rfl (fun _ => rfl)) _ (Chg.refl _ _))) ?_
  refine pl_val (.slice pa1 pn1 pc1) (y_move rfl) ?_
  obtain ⟨r6, hr6, hs⟩ := bind_some hs
  refine pl_call Bd117 rfl (c_spec_l8Find (M := M) r_.2 t h0 h1 hO.fut hr6) ?_
  rintro _ w5 ⟨rfl, hC5⟩
  have h0 := h0.ext hC5
  have h1 := h1.ext hC5
  have hb3 := hb3.chg hC5 (fun h => nomatch h)
  have hC := hC.ext hC5
  have hO := hO.ext hC5
  refine pl_val (.tuple #[(.int .i64 r6.1), (.bool r6.2)]) (y_move rfl) ?_
  refine pl_val (.int .i64 r6.1) (y_extract rfl (by kernel_rfl)) ?_
  refine pl_val (.bool r6.2) (y_extract rfl (by kernel_rfl)) ?_
  refine pl_val (.int .i64 r6.1) (y_assign rfl) ?_
  refine pl_val (.bool r6.2) (y_assign rfl) ?_
  refine c_nil ?_
  refine c_seq (c_region ?_)
  refine pl_val (.bool r6.2) (y_move rfl) ?_
  refine pl_val (.bool r6.2) (y_assign rfl) ?_
  refine c_nil ?_
  refine wp_ret ?_
  cases hs
  exact ⟨_, fr_ovl 20 ⟨rfl, trivial⟩, hC⟩

theorem Bd102 : Bodied Try.prog 102 := bodied Try.func102 (by kernel_rfl) rfl

def k_spec_l13Compose (M : Nat → Prop) (w0 : World) (r : (Int × (List (List Int)))) (a : Act) (w : World) : Prop :=
  ∃ (σ : Nat → Value) (rg6 : Nat) (ra0 : Option Addr) (rn0 rc0 : Nat) (rf0 : List Nat), a = fr 55 (ovl σ [(6, (.pointer (some ⟨rg6, 0, none⟩)))]) ∧ BoxV w rg6 71 [(.int .i64 r.1), (.slice ra0 rn0 rc0)] ∧ Chg [] w0 w ∧ (RT.os 22 (RT.os 3 (RT.int .i64))).val M w (.slice ra0 rn0 rc0) r.2 rf0 ∧ Own (Nw w0 []) (fun _ => True) w (rf0 ++ ([]))
def s_spec_l13Compose (n : Int) (r_ : Int × (List (List Int))) (s_ : Int × (List (List Int))) : Option ((Int × (List (List Int)))) :=
  (forC (S := (List (List Int))) (R := (Int × (List (List Int)))) (fun k296 s294 =>
  (forC (S := (List (List Int))) (R := (Int × (List (List Int)))) (fun k394 s392 =>
  (iter (S := Bool × Int) (R := (Int × (List (List Int)))) (fun s416 =>
  (bif ((decide (s416.2 < n)) && (!s416.1)) then (s_spec_l13Has (r_.1, r_.2) ([k296, s416.2])).bind fun r430 =>
  (bif r430 then (s_spec_l13Has (s_.1, s_.2) ([s416.2, k394])).bind fun r435 =>
  some (.nx (r435, w64 (s416.2 + 1))) else some (.nx (false, w64 (s416.2 + 1)))) else some (.br (s416.1, s416.2)))) FU (false, 0)).bind fun o420 => after o420 (fun r_ => some (.rt r_)) (fun s416 =>
  (bif s416.1 then (app s392 ([[k296, k394]])).bind fun y442 =>
  some (.nx y442) else some (.nx s392)))) 0 n s294).bind fun o396 => after o396 (fun r_ => some (.rt r_)) (fun s392 =>
  some (.nx s392))) 0 n ([])).bind fun o298 => after o298 (fun r_ => some r_) (fun s294 =>
  some (2, s294))
set_option maxHeartbeats 4000000 in
theorem c_spec_l13Compose {M : Nat → Prop} {w : World} {pa0 : Option Addr} {pn0 pc0 : Nat} {pa1 : Option Addr} {pn1 pc1 : Nat} (n : Int) (r_ : Int × (List (List Int))) (s_ : Int × (List (List Int))) (h0 : (RT.rs (RT.rs (RT.int .i64))).val M w (.slice pa0 pn0 pc0) r_.2 ([])) (h1 : (RT.rs (RT.rs (RT.int .i64))).val M w (.slice pa1 pn1 pc1) s_.2 ([])) (hM : ∀ g, w.heap.size ≤ g → M g) {r : (Int × (List (List Int)))} (hs : s_spec_l13Compose n r_ s_ = some r) :
    Gives Try.prog 74 [(.int .i64 n), (.agg #[(.int .i64 r_.1), (.slice pa0 pn0 pc0)]), (.agg #[(.int .i64 s_.1), (.slice pa1 pn1 pc1)])] w (fun v w' => ∃ (ra0 : Option Addr) (rn0 rc0 : Nat) (rf0 : List Nat), v = (.agg #[(.int .i64 r.1), (.slice ra0 rn0 rc0)]) ∧ Chg [] w w' ∧ (RT.os 22 (RT.os 3 (RT.int .i64))).val M w' (.slice ra0 rn0 rc0) r.2 rf0 ∧ Own (Nw w []) (fun _ => True) w' (rf0 ++ ([]))) := by
 refine calls_fr Try.func74 rfl Try.ntmps74 (Nat.le_of_ble_eq_true rfl) ?_
 have hO := Own.start (N := Nw w []) hM Nw.fut
 have hC := Chg.refl [] w
 unfold s_spec_l13Compose at hs
 refine wp_mono (Q := KPost (k_spec_l13Compose M w r)) ?_ (fun e a w1 h => ?_)
 rotate_left
 ·cases e
  case ret =>
   obtain ⟨σ, rg6, ra0, rn0, rc0, rf0, rfl, hbrg6, hrest⟩ := h
   exact ret1x Try.results74 (res_cell rfl (box_load Ag71 Sz71 hbrg6 [] _ [] rfl rfl (fun h => nomatch h))) ⟨ra0, rn0, rc0, rf0, rfl, hrest⟩
  all_goals exact (h : False).elim
 refine c_seq (c_region ?_)
 obtain ⟨w3, g3, ew3, eg3, hC3, hb3⟩ := new_block w [(.int .i64 r_.1), (.slice pa0 pn0 pc0)] 71
 refine pl_val (w' := w3) (.pointer (some ⟨g3, 0, none⟩)) (y_box rfl (by rw [ew3, eg3]; kernel_rfl)) ?_
 have h0 := h0.ext hC3
 have h1 := h1.ext hC3
 have hC := hC.ext hC3
 have hO := hO.new1 hC3 eg3 hb3.lt
 obtain ⟨w4, g4, ew4, eg4, hC4, hb4⟩ := new_block w3 [(.int .i64 s_.1), (.slice pa1 pn1 pc1)] 71
 refine pl_val (w' := w4) (.pointer (some ⟨g4, 0, none⟩)) (y_box rfl (by rw [ew4, eg4]; kernel_rfl)) ?_
 have h0 := h0.ext hC4
 have h1 := h1.ext hC4
 have hb3 := hb3.chg hC4 (fun h => nomatch h)
 have hC := hC.ext hC4
 have hO := hO.new1 hC4 eg4 hb4.lt
 obtain ⟨w5, g5, ew5, eg5, hC5, hb5⟩ := new_block w4 [(.int .i64 0), (.slice none 0 0)] 71
 refine pl_val (w' := w5) (.pointer (some ⟨g5, 0, none⟩)) (y_alloc (by rw [ew5, eg5]; kernel_rfl)) ?_
 have h0 := h0.ext hC5
 have h1 := h1.ext hC5
 have hb3 := hb3.chg hC5 (fun h => nomatch h)
 have hb4 := hb4.chg hC5 (fun h => nomatch h)
 have hC := hC.ext hC5
 have hO := hO.new1 hC5 eg5 hb5.lt
 refine c_nil ?_
 refine c_seq (c_region ?_)
 obtain ⟨w6, g6, ew6, eg6, hC6, hb6⟩ := new_block w5 [] 22
 refine pl_val (w' := w6) (.slice (some ⟨g6, 0, none⟩) 0 0) (y_bslice rfl (by rw [ew6, eg6]; kernel_rfl)) ?_
 have h0 := h0.ext hC6
 have h1 := h1.ext hC6
 have hb3 := hb3.chg hC6 (fun h => nomatch h)
 have hb4 := hb4.chg hC6 (fun h => nomatch h)
 have hb5 := hb5.chg hC6 (fun h => nomatch h)
 have hC := hC.ext hC6
 have hO := hO.new1 hC6 eg6 hb6.lt
 have hv6 := os_of_box (r := (RT.os 3 (RT.int .i64))) (M := M) (css := []) (fps := []) (xs := ([] : List (List Int))) hb6 trivial (Nat.zero_le _) (List.nodup_cons.2 ⟨(fun h => nomatch h), List.nodup_nil⟩)
 have hv6 : (RT.os 22 (RT.os 3 (RT.int .i64))).val M w6 (.slice (some ⟨g6, 0, none⟩) 0 0) [] [g6] := hv6
 refine pl_val (.agg #[(.int .i64 2), (.slice (some ⟨g6, 0, none⟩) 0 0)]) (y_build rfl (by kernel_rfl)) ?_
 obtain ⟨w8, g8, ew8, eg8, hC8, hb8⟩ := new_block w6 [(.int .i64 0), (.slice none 0 0)] 71
 refine pl_val (w' := w8) (.pointer (some ⟨g8, 0, none⟩)) (y_alloc (by rw [ew8, eg8]; kernel_rfl)) ?_
 have h0 := h0.ext hC8
 have h1 := h1.ext hC8
 have hb3 := hb3.chg hC8 (fun h => nomatch h)
 have hb4 := hb4.chg hC8 (fun h => nomatch h)
 have hb5 := hb5.chg hC8 (fun h => nomatch h)
 have hv6 := hv6.ext hC8
 have hC := hC.ext hC8
 have hO := hO.new1 hC8 eg8 hb8.lt
 obtain ⟨w9, hst9, hC9, hb9⟩ := box_store (P := Try.prog) hb8 [] [(.int .i64 0), (.slice none 0 0)] [] [(.int .i64 2), (.slice (some ⟨g6, 0, none⟩) 0 0)] rfl rfl (by intro u hu; simp only [List.mem_cons, List.not_mem_nil, or_false] at hu; rcases hu with rfl | rfl <;> rfl)
 refine pl_skip (w' := w9) (ys_store rfl rfl (hst9 _ _ rfl Sz71)) ?_
 have h0 := h0.mut hC9 (fun g hg => hO.inM g ((fun _ h => h) g hg)) (fun _ _ h => nomatch h)
 have h1 := h1.mut hC9 (fun g hg => hO.inM g ((fun _ h => h) g hg)) (fun _ _ h => nomatch h)
 have hb3 := hb3.chg hC9 (fun hg => hO.apart _ ((fun _ h => h) _ hg) (mem_r (mem_r (mem_r (mem_l (List.mem_singleton.2 rfl))))))
 have hb4 := hb4.chg hC9 (fun hg => hO.apart _ ((fun _ h => h) _ hg) (mem_r (mem_r (mem_l (List.mem_singleton.2 rfl)))))
 have hb5 := hb5.chg hC9 (fun hg => hO.apart _ ((fun _ h => h) _ hg) (mem_r (mem_l (List.mem_singleton.2 rfl))))
 have hv6 := hv6.mut hC9 (fun g hg => hO.inM g ((fun _ h => h) g hg)) (fun g hg e => hO.apart g ((fun _ h => h) g hg) (mem_l (e)))
 have hC := hC.step hC9 (fun g hg => hO.inN g ((fun _ h => h) g hg))
 have hO := hO.ext hC9
 have hb9 : BoxV w9 g8 71 [(.int .i64 2), (.slice (some ⟨g6, 0, none⟩) 0 0)] := hb9
 refine c_nil ?_
 refine c_seq ?_
 refine c_seq (c_region ?_)
 refine pl_val (.int .i64 0) (y_assign rfl) ?_
 refine c_nil ?_
 obtain ⟨o298, hl299, hs⟩ := bind_some hs
 refine wp_block ?_
 refine wp_forC (id := 0) n (I := fun k296 s294 a w295 => ∃ (σ : Nat → Value) (a300 : Option Addr) (n300 : Nat) (c300 : Nat) (f300 : List Nat), a = fr 55 (ovl σ [(0, (.int .i64 n)), (4, (.pointer (some ⟨g3, 0, none⟩))), (5, (.pointer (some ⟨g4, 0, none⟩))), (6, (.pointer (some ⟨g5, 0, none⟩))), (7, (.pointer (some ⟨g8, 0, none⟩))), (8, (.int .i64 k296))]) ∧ Chg [] w w295 ∧ Own (Nw w []) M w295 (f300 ++ (([g8]) ++ (([g5]) ++ (([g4]) ++ (([g3]) ++ []))))) ∧ (RT.rs (RT.rs (RT.int .i64))).val M w295 (.slice pa0 pn0 pc0) r_.2 ([]) ∧ (RT.rs (RT.rs (RT.int .i64))).val M w295 (.slice pa1 pn1 pc1) s_.2 ([]) ∧ BoxV w295 g3 71 [(.int .i64 r_.1), (.slice pa0 pn0 pc0)] ∧ BoxV w295 g4 71 [(.int .i64 s_.1), (.slice pa1 pn1 pc1)] ∧ BoxV w295 g5 71 [(.int .i64 0), (.slice none 0 0)] ∧ BoxV w295 g8 71 [(.int .i64 2), (.slice a300 n300 c300)] ∧ (RT.os 22 (RT.os 3 (RT.int .i64))).val M w295 (.slice a300 n300 c300) s294 f300) (J := fun s294 a w295 => ∃ (σ : Nat → Value) (a302 : Option Addr) (n302 : Nat) (c302 : Nat) (f302 : List Nat), a = fr 55 (ovl σ [(6, (.pointer (some ⟨g5, 0, none⟩))), (7, (.pointer (some ⟨g8, 0, none⟩)))]) ∧ Chg [] w w295 ∧ Own (Nw w []) M w295 (f302 ++ (([g8]) ++ (([g5]) ++ (([g4]) ++ (([g3]) ++ []))))) ∧ (RT.rs (RT.rs (RT.int .i64))).val M w295 (.slice pa0 pn0 pc0) r_.2 ([]) ∧ (RT.rs (RT.rs (RT.int .i64))).val M w295 (.slice pa1 pn1 pc1) s_.2 ([]) ∧ BoxV w295 g3 71 [(.int .i64 r_.1), (.slice pa0 pn0 pc0)] ∧ BoxV w295 g4 71 [(.int .i64 s_.1), (.slice pa1 pn1 pc1)] ∧ BoxV w295 g5 71 [(.int .i64 0), (.slice none 0 0)] ∧ BoxV w295 g8 71 [(.int .i64 2), (.slice a302 n302 c302)] ∧ (RT.os 22 (RT.os 3 (RT.int .i64))).val M w295 (.slice a302 n302 c302) s294 f302) (K := (k_spec_l13Compose M w)) ?_ ?_ 0 ([]) o298 _ _ ?_ hl299 ?_
 ·rintro k296 s294 a w295 ⟨σ, a300, n300, c300, f300, rfl, hC, hO, h0, h1, hb3, hb4, hb5, hb9, hv300⟩ hlt
  refine c_seq ?_
  refine c_seq (c_region ?_)
  refine pl_val (.int .i64 k296) (y_move rfl) ?_
  refine pl_val (.int .i64 n) (y_move rfl) ?_
  refine pl_val (.bool (decide (k296 < n))) (y_lss rfl rfl) ?_
  refine c_nil ?_
  refine c_condF (congrArg Value.bool (decide_eq_false hlt)) ?_
  refine wp_exit ?_
  have hO := hO.fr4
  have hO := hO.fr4
  have hO := hO.fr4
  have hO := hO.fr4
  have hO := hO.fr4
  exact ⟨rfl, _, a300, n300, c300, f300, fr_ovl 55 ⟨rfl, rfl, trivial⟩, hC, hO, h0, h1, hb3, hb4, hb5, hb9, hv300⟩
 ·rintro k296 s294 o298 a w295 ⟨σ, a300, n300, c300, f300, rfl, hC, hO, h0, h1, hb3, hb4, hb5, hb9, hv300⟩ hlt hw hs
  refine c_seq ?_
  refine c_seq (c_region ?_)
  refine pl_val (.int .i64 k296) (y_move rfl) ?_
  refine pl_val (.int .i64 n) (y_move rfl) ?_
  refine pl_val (.bool (decide (k296 < n))) (y_lss rfl rfl) ?_
  refine c_nil ?_
  refine c_condT (congrArg Value.bool (decide_eq_true hlt)) ?_
  refine wp_skip ?_
  refine c_seq ?_
  refine wp_block ?_
  refine c_seq (c_region ?_)
  refine pl_val (.int .i64 0) (y_assign rfl) ?_
  refine c_nil ?_
  obtain ⟨o396, hl397, hs⟩ := bind_some hs
  refine wp_block ?_
  refine wp_forC (id := 2) n (I := fun k394 s392 a w393 => ∃ (σ : Nat → Value) (a398 : Option Addr) (n398 : Nat) (c398 : Nat) (f398 : List Nat), a = fr 55 (ovl σ [(0, (.int .i64 n)), (4, (.pointer (some ⟨g3, 0, none⟩))), (5, (.pointer (some ⟨g4, 0, none⟩))), (6, (.pointer (some ⟨g5, 0, none⟩))), (7, (.pointer (some ⟨g8, 0, none⟩))), (8, (.int .i64 k296)), (9, (.int .i64 k394))]) ∧ Chg [] w w393 ∧ Own (Nw w []) M w393 (f398 ++ (([g8]) ++ (([g5]) ++ (([g4]) ++ (([g3]) ++ []))))) ∧ (RT.rs (RT.rs (RT.int .i64))).val M w393 (.slice pa0 pn0 pc0) r_.2 ([]) ∧ (RT.rs (RT.rs (RT.int .i64))).val M w393 (.slice pa1 pn1 pc1) s_.2 ([]) ∧ BoxV w393 g3 71 [(.int .i64 r_.1), (.slice pa0 pn0 pc0)] ∧ BoxV w393 g4 71 [(.int .i64 s_.1), (.slice pa1 pn1 pc1)] ∧ BoxV w393 g5 71 [(.int .i64 0), (.slice none 0 0)] ∧ BoxV w393 g8 71 [(.int .i64 2), (.slice a398 n398 c398)] ∧ (RT.os 22 (RT.os 3 (RT.int .i64))).val M w393 (.slice a398 n398 c398) s392 f398) (J := fun s392 a w393 => ∃ (σ : Nat → Value) (a400 : Option Addr) (n400 : Nat) (c400 : Nat) (f400 : List Nat), a = fr 55 (ovl σ [(0, (.int .i64 n)), (4, (.pointer (some ⟨g3, 0, none⟩))), (5, (.pointer (some ⟨g4, 0, none⟩))), (6, (.pointer (some ⟨g5, 0, none⟩))), (7, (.pointer (some ⟨g8, 0, none⟩))), (8, (.int .i64 k296))]) ∧ Chg [] w w393 ∧ Own (Nw w []) M w393 (f400 ++ (([g8]) ++ (([g5]) ++ (([g4]) ++ (([g3]) ++ []))))) ∧ (RT.rs (RT.rs (RT.int .i64))).val M w393 (.slice pa0 pn0 pc0) r_.2 ([]) ∧ (RT.rs (RT.rs (RT.int .i64))).val M w393 (.slice pa1 pn1 pc1) s_.2 ([]) ∧ BoxV w393 g3 71 [(.int .i64 r_.1), (.slice pa0 pn0 pc0)] ∧ BoxV w393 g4 71 [(.int .i64 s_.1), (.slice pa1 pn1 pc1)] ∧ BoxV w393 g5 71 [(.int .i64 0), (.slice none 0 0)] ∧ BoxV w393 g8 71 [(.int .i64 2), (.slice a400 n400 c400)] ∧ (RT.os 22 (RT.os 3 (RT.int .i64))).val M w393 (.slice a400 n400 c400) s392 f400) (K := (k_spec_l13Compose M w)) ?_ ?_ 0 s294 o396 _ _ ?_ hl397 ?_
  ·rintro k394 s392 a w393 ⟨σ, a398, n398, c398, f398, rfl, hC, hO, h0, h1, hb3, hb4, hb5, hb9, hv398⟩ hlt
   refine c_seq ?_
   refine c_seq (c_region ?_)
   refine pl_val (.int .i64 k394) (y_move rfl) ?_
   refine pl_val (.int .i64 n) (y_move rfl) ?_
   refine pl_val (.bool (decide (k394 < n))) (y_lss rfl rfl) ?_
   refine c_nil ?_
   refine c_condF (congrArg Value.bool (decide_eq_false hlt)) ?_
   refine wp_exit ?_
   have hO := hO.fr4
   have hO := hO.fr4
   have hO := hO.fr4
   have hO := hO.fr4
   have hO := hO.fr4
   exact ⟨rfl, _, a398, n398, c398, f398, fr_ovl 55 ⟨rfl, rfl, rfl, rfl, rfl, rfl, trivial⟩, hC, hO, h0, h1, hb3, hb4, hb5, hb9, hv398⟩
  ·rintro k394 s392 o396 a w393 ⟨σ, a398, n398, c398, f398, rfl, hC, hO, h0, h1, hb3, hb4, hb5, hb9, hv398⟩ hlt hw hs
   refine c_seq ?_
   refine c_seq (c_region ?_)
   refine pl_val (.int .i64 k394) (y_move rfl) ?_
   refine pl_val (.int .i64 n) (y_move rfl) ?_
   refine pl_val (.bool (decide (k394 < n))) (y_lss rfl rfl) ?_
   refine c_nil ?_
   refine c_condT (congrArg Value.bool (decide_eq_true hlt)) ?_
   refine wp_skip ?_
   refine c_seq ?_
   refine wp_block ?_
   refine c_seq (c_region ?_)
   refine pl_val (.bool false) (y_assign rfl) ?_
   refine c_nil ?_
   refine c_seq ?_
   refine c_seq (c_region ?_)
   refine pl_val (.int .i64 0) (y_assign rfl) ?_
   refine c_nil ?_
   obtain ⟨o420, hl421, hs⟩ := bind_some hs
   refine wp_block ?_
   refine wp_iter (id := 4) (I := fun s416 a w417 => ∃ (σ : Nat → Value), a = fr 55 (ovl σ [(0, (.int .i64 n)), (4, (.pointer (some ⟨g3, 0, none⟩))), (5, (.pointer (some ⟨g4, 0, none⟩))), (6, (.pointer (some ⟨g5, 0, none⟩))), (7, (.pointer (some ⟨g8, 0, none⟩))), (8, (.int .i64 k296)), (9, (.int .i64 k394)), (10, (.bool s416.1)), (11, (.int .i64 s416.2))]) ∧ Chg [] w w417 ∧ Own (Nw w []) M w417 (f398 ++ (([g8]) ++ (([g5]) ++ (([g4]) ++ (([g3]) ++ []))))) ∧ (RT.rs (RT.rs (RT.int .i64))).val M w417 (.slice pa0 pn0 pc0) r_.2 ([]) ∧ (RT.rs (RT.rs (RT.int .i64))).val M w417 (.slice pa1 pn1 pc1) s_.2 ([]) ∧ BoxV w417 g3 71 [(.int .i64 r_.1), (.slice pa0 pn0 pc0)] ∧ BoxV w417 g4 71 [(.int .i64 s_.1), (.slice pa1 pn1 pc1)] ∧ BoxV w417 g5 71 [(.int .i64 0), (.slice none 0 0)] ∧ BoxV w417 g8 71 [(.int .i64 2), (.slice a398 n398 c398)] ∧ (RT.os 22 (RT.os 3 (RT.int .i64))).val M w417 (.slice a398 n398 c398) s392 f398) (J := fun s416 a w417 => ∃ (σ : Nat → Value), a = fr 55 (ovl σ [(0, (.int .i64 n)), (4, (.pointer (some ⟨g3, 0, none⟩))), (5, (.pointer (some ⟨g4, 0, none⟩))), (6, (.pointer (some ⟨g5, 0, none⟩))), (7, (.pointer (some ⟨g8, 0, none⟩))), (8, (.int .i64 k296)), (9, (.int .i64 k394)), (10, (.bool s416.1))]) ∧ Chg [] w w417 ∧ Own (Nw w []) M w417 (f398 ++ (([g8]) ++ (([g5]) ++ (([g4]) ++ (([g3]) ++ []))))) ∧ (RT.rs (RT.rs (RT.int .i64))).val M w417 (.slice pa0 pn0 pc0) r_.2 ([]) ∧ (RT.rs (RT.rs (RT.int .i64))).val M w417 (.slice pa1 pn1 pc1) s_.2 ([]) ∧ BoxV w417 g3 71 [(.int .i64 r_.1), (.slice pa0 pn0 pc0)] ∧ BoxV w417 g4 71 [(.int .i64 s_.1), (.slice pa1 pn1 pc1)] ∧ BoxV w417 g5 71 [(.int .i64 0), (.slice none 0 0)] ∧ BoxV w417 g8 71 [(.int .i64 2), (.slice a398 n398 c398)] ∧ (RT.os 22 (RT.os 3 (RT.int .i64))).val M w417 (.slice a398 n398 c398) s392 f398) (K := (k_spec_l13Compose M w)) ?_ FU (false, 0) o420 _ _ ?_ hl421 ?_
   ·rintro s416 o420 a w417 ⟨σ, rfl, hC, hO, h0, h1, hb3, hb4, hb5, hb9, hv398⟩ hs
    refine c_seq ?_
    refine c_seq ?_
    refine c_mid (I := fun a w423 => ∃ (σ : Nat → Value), a = fr 55 (ovl σ [(0, (.int .i64 n)), (4, (.pointer (some ⟨g3, 0, none⟩))), (5, (.pointer (some ⟨g4, 0, none⟩))), (6, (.pointer (some ⟨g5, 0, none⟩))), (7, (.pointer (some ⟨g8, 0, none⟩))), (8, (.int .i64 k296)), (9, (.int .i64 k394)), (10, (.bool s416.1)), (11, (.int .i64 s416.2)), (30, (.bool ((decide (s416.2 < n)) && (!s416.1))))]) ∧ Chg [] w417 w423) ?_ ?_
    ·have hMid := Chg.refl [] w417
     refine c_region ?_
     refine pl_val (.int .i64 s416.2) (y_move rfl) ?_
     refine pl_val (.int .i64 n) (y_move rfl) ?_
     refine pl_val (.bool (decide (s416.2 < n))) (y_lss rfl rfl) ?_
     refine pl_val (.bool (decide (s416.2 < n))) (y_move rfl) ?_
     rcases Bool.eq_false_or_eq_true ((decide (s416.2 < n))) with hc425 | hc425
     ·skip
      refine pl_yes (.bool s416.1) (tg := 27) (by kernel_rfl) (congrArg Value.bool hc425) (y_move rfl) ?_
      refine pl_yes (.bool (!s416.1)) (tg := 27) (by kernel_rfl) (congrArg Value.bool hc425) (y_not rfl) ?_
      refine pl_val (.bool ((decide (s416.2 < n)) && (!s416.1))) (y_pick_t (congrArg Value.bool hc425) (congrArg Value.bool (by rw [hc425]; rfl))) ?_
      refine c_nil ?_
      exact ⟨_, fr_ovl 55 ⟨rfl, rfl, rfl, rfl, rfl, rfl, rfl, rfl, rfl, rfl, trivial⟩, hMid⟩
     ·skip
      refine pl_not (tg := 27) (by kernel_rfl) (congrArg Value.bool hc425) ?_
      refine pl_not (tg := 27) (by kernel_rfl) (congrArg Value.bool hc425) ?_
      refine pl_val (.bool ((decide (s416.2 < n)) && (!s416.1))) (y_pick_f (congrArg Value.bool hc425) (congrArg Value.bool (by rw [hc425]; rfl))) ?_
      refine c_nil ?_
      exact ⟨_, fr_ovl 55 ⟨rfl, rfl, rfl, rfl, rfl, rfl, rfl, rfl, rfl, rfl, trivial⟩, hMid⟩
    ·rintro a1 w423 ⟨σ, rfl, hCs422⟩
     have h0 := h0.ext hCs422
     have h1 := h1.ext hCs422
     have hb3 := hb3.chg hCs422 (fun h => nomatch h)
     have hb4 := hb4.chg hCs422 (fun h => nomatch h)
     have hb5 := hb5.chg hCs422 (fun h => nomatch h)
     have hb9 := hb9.chg hCs422 (fun h => nomatch h)
     have hv398 := hv398.ext hCs422
     have hC := hC.ext hCs422
     have hO := hO.ext hCs422
     rcases bif_some hs with ⟨hc426, hs⟩ | ⟨hc426, hs⟩
     ·skip
      refine c_condT (congrArg Value.bool hc426) ?_
      refine wp_skip ?_
      refine c_seq ?_
      refine wp_block ?_
      refine c_region ?_
      refine pl_val (.agg #[(.int .i64 r_.1), (.slice pa0 pn0 pc0)]) (y_load rfl ((box_load Ag71 Sz71 hb3 [] [(.int .i64 r_.1), (.slice pa0 pn0 pc0)] [] rfl rfl (fun h => nomatch h)) _ (Chg.refl _ _))) ?_
      refine pl_val (.int .i64 k296) (y_move rfl) ?_
      refine pl_val (.int .i64 s416.2) (y_move rfl) ?_
      obtain ⟨w427, g427, ew427, eg427, hC427, hb427⟩ := new_block w423 [(.int .i64 k296), (.int .i64 s416.2)] 3
      refine pl_val (w' := w427) (.slice (some ⟨g427, 0, none⟩) 2 2) (y_bslice rfl (by rw [ew427, eg427]; kernel_rfl)) ?_
      have h0 := h0.ext hC427
      have h1 := h1.ext hC427
      have hb3 := hb3.chg hC427 (fun h => nomatch h)
      have hb4 := hb4.chg hC427 (fun h => nomatch h)
      have hb5 := hb5.chg hC427 (fun h => nomatch h)
      have hb9 := hb9.chg hC427 (fun h => nomatch h)
      have hv398 := hv398.ext hC427
      have hC := hC.ext hC427
      have hO := hO.new1 hC427 eg427 hb427.lt
      have hv427 := os_of_box (r := (RT.int .i64)) (M := M) (css := [[(.int .i64 k296)], [(.int .i64 s416.2)]]) (fps := [([] : List Nat), ([] : List Nat)]) (xs := ([k296, s416.2] : List Int)) hb427 ⟨⟨rfl, rfl⟩, ⟨⟨rfl, rfl⟩, trivial⟩⟩ (Nat.le_of_ble_eq_true rfl) (List.nodup_cons.2 ⟨(fun h => nomatch h), List.nodup_nil⟩)
      have hv427 : (RT.os 3 (RT.int .i64)).val M w427 (.slice (some ⟨g427, 0, none⟩) 2 2) [k296, s416.2] [g427] := hv427
      obtain ⟨r430, hr430, hs⟩ := bind_some hs
      refine pl_call Bd102 rfl (c_spec_l13Has (M := (Less M ([g427]))) (r_.1, r_.2) ([k296, s416.2]) (h0.sub Less.sub) (((Frz.os Frz.int)).val hv427 Less.sub Less.not) hO.less.fut hr430) ?_
      rintro _ w429 ⟨rfl, hC429⟩
      have h0 := h0.ext hC429
      have h1 := h1.ext hC429
      have hb3 := hb3.chg hC429 (fun h => nomatch h)
      have hb4 := hb4.chg hC429 (fun h => nomatch h)
      have hb5 := hb5.chg hC429 (fun h => nomatch h)
      have hb9 := hb9.chg hC429 (fun h => nomatch h)
      have hv398 := hv398.ext hC429
      have hv427 := hv427.ext hC429
      have hC := hC.ext hC429
      have hO := hO.ext hC429
      refine pl_val (.bool r430) (y_move rfl) ?_
      rcases bif_some hs with ⟨hc431, hs⟩ | ⟨hc431, hs⟩
      ·skip
       refine pl_yes (.agg #[(.int .i64 s_.1), (.slice pa1 pn1 pc1)]) (tg := 38) (by kernel_rfl) (congrArg Value.bool hc431) (y_load rfl ((box_load Ag71 Sz71 hb4 [] [(.int .i64 s_.1), (.slice pa1 pn1 pc1)] [] rfl rfl (fun h => nomatch h)) _ (Chg.refl _ _))) ?_
       refine pl_yes (.int .i64 s416.2) (tg := 38) (by kernel_rfl) (congrArg Value.bool hc431) (y_move rfl) ?_
       refine pl_yes (.int .i64 k394) (tg := 38) (by kernel_rfl) (congrArg Value.bool hc431) (y_move rfl) ?_
       obtain ⟨w432, g432, ew432, eg432, hC432, hb432⟩ := new_block w429 [(.int .i64 s416.2), (.int .i64 k394)] 3
       refine pl_yes (w' := w432) (.slice (some ⟨g432, 0, none⟩) 2 2) (tg := 38) (by kernel_rfl) (congrArg Value.bool hc431) (y_bslice rfl (by rw [ew432, eg432]; kernel_rfl)) ?_
       have h0 := h0.ext hC432
       have h1 := h1.ext hC432
       have hb3 := hb3.chg hC432 (fun h => nomatch h)
       have hb4 := hb4.chg hC432 (fun h => nomatch h)
       have hb5 := hb5.chg hC432 (fun h => nomatch h)
       have hb9 := hb9.chg hC432 (fun h => nomatch h)
       have hv398 := hv398.ext hC432
       have hv427 := hv427.ext hC432
       have hC := hC.ext hC432
       have hO := hO.new1 hC432 eg432 hb432.lt
       have hv432 := os_of_box (r := (RT.int .i64)) (M := M) (css := [[(.int .i64 s416.2)], [(.int .i64 k394)]]) (fps := [([] : List Nat), ([] : List Nat)]) (xs := ([s416.2, k394] : List Int)) hb432 ⟨⟨rfl, rfl⟩, ⟨⟨rfl, rfl⟩, trivial⟩⟩ (Nat.le_of_ble_eq_true rfl) (List.nodup_cons.2 ⟨(fun h => nomatch h), List.nodup_nil⟩)
       have hv432 : (RT.os 3 (RT.int .i64)).val M w432 (.slice (some ⟨g432, 0, none⟩) 2 2) [s416.2, k394] [g432] := hv432
       obtain ⟨r435, hr435, hs⟩ := bind_some hs
       refine pl_cally (tg := 38) (by kernel_rfl) (congrArg Value.bool hc431) Bd102 rfl (c_spec_l13Has (M := (Less M ([g432]))) (s_.1, s_.2) ([s416.2, k394]) (h1.sub Less.sub) (((Frz.os Frz.int)).val hv432 Less.sub Less.not) hO.less.fut hr435) ?_
       rintro _ w434 ⟨rfl, hC434⟩
       have h0 := h0.ext hC434
       have h1 := h1.ext hC434
       have hb3 := hb3.chg hC434 (fun h => nomatch h)
       have hb4 := hb4.chg hC434 (fun h => nomatch h)
       have hb5 := hb5.chg hC434 (fun h => nomatch h)
       have hb9 := hb9.chg hC434 (fun h => nomatch h)
       have hv398 := hv398.ext hC434
       have hv427 := hv427.ext hC434
       have hv432 := hv432.ext hC434
       have hC := hC.ext hC434
       have hO := hO.ext hC434
       refine pl_val (.bool r435) (y_pick_t (congrArg Value.bool hc431) rfl) ?_
       refine pl_val (.bool r435) (y_assign rfl) ?_
       refine c_nil ?_
       refine c_region ?_
       refine pl_val (.int .i64 s416.2) (y_move rfl) ?_
       refine pl_val (.int .i64 (w64 (s416.2 + 1))) (y_add rfl rfl) ?_
       refine pl_val (.int .i64 (w64 (s416.2 + 1))) (y_assign rfl) ?_
       refine c_nil ?_
       cases hs
       have hO := hO.drop
       have hO := hO.drop
       have hO := hO.fr4
       have hO := hO.fr4
       have hO := hO.fr4
       have hO := hO.fr4
       have hO := hO.fr4
       exact ⟨_, fr_ovl 55 ⟨rfl, rfl, rfl, rfl, rfl, rfl, rfl, rfl, rfl, trivial⟩, hC, hO, h0, h1, hb3, hb4, hb5, hb9, hv398⟩
      ·skip
       refine pl_not (tg := 38) (by kernel_rfl) (congrArg Value.bool hc431) ?_
       refine pl_not (tg := 38) (by kernel_rfl) (congrArg Value.bool hc431) ?_
       refine pl_not (tg := 38) (by kernel_rfl) (congrArg Value.bool hc431) ?_
       refine pl_not (tg := 38) (by kernel_rfl) (congrArg Value.bool hc431) ?_
       refine pl_not (tg := 38) (by kernel_rfl) (congrArg Value.bool hc431) ?_
       refine pl_val (.bool false) (y_pick_f (congrArg Value.bool hc431) rfl) ?_
       refine pl_val (.bool false) (y_assign rfl) ?_
       refine c_nil ?_
       refine c_region ?_
       refine pl_val (.int .i64 s416.2) (y_move rfl) ?_
       refine pl_val (.int .i64 (w64 (s416.2 + 1))) (y_add rfl rfl) ?_
       refine pl_val (.int .i64 (w64 (s416.2 + 1))) (y_assign rfl) ?_
       refine c_nil ?_
       cases hs
       have hO := hO.drop
       have hO := hO.fr4
       have hO := hO.fr4
       have hO := hO.fr4
       have hO := hO.fr4
       have hO := hO.fr4
       exact ⟨_, fr_ovl 55 ⟨rfl, rfl, rfl, rfl, rfl, rfl, rfl, rfl, rfl, trivial⟩, hC, hO, h0, h1, hb3, hb4, hb5, hb9, hv398⟩
     ·skip
      refine c_condF (congrArg Value.bool hc426) ?_
      refine wp_exit ?_
      cases hs
      have hO := hO.fr4
      have hO := hO.fr4
      have hO := hO.fr4
      have hO := hO.fr4
      have hO := hO.fr4
      exact ⟨rfl, _, fr_ovl 55 ⟨rfl, rfl, rfl, rfl, rfl, rfl, rfl, rfl, trivial⟩, hC, hO, h0, h1, hb3, hb4, hb5, hb9, hv398⟩
   ·skip
    have hO := hO.fr4
    have hO := hO.fr4
    have hO := hO.fr4
    have hO := hO.fr4
    have hO := hO.fr4
    exact ⟨_, fr_ovl 55 ⟨rfl, rfl, rfl, rfl, rfl, rfl, rfl, rfl, rfl, trivial⟩, hC, hO, h0, h1, hb3, hb4, hb5, hb9, hv398⟩
   ·cases o420 with
    | nx _ => exact True.intro
    | rt r_ =>
     have hs := after_rt hs
     intro a1 w1 hK
     cases hs
     exact hK
    | br s416 =>
     have hs := after_br hs
     rintro a1 w417 ⟨σ, rfl, hC, hO, h0, h1, hb3, hb4, hb5, hb9, hv398⟩
     refine c_seq (c_region ?_)
     refine pl_val (.bool s416.1) (y_move rfl) ?_
     refine c_nil ?_
     rcases bif_some hs with ⟨hc436, hs⟩ | ⟨hc436, hs⟩
     ·skip
      refine c_condT (congrArg Value.bool hc436) ?_
      refine c_region ?_
      refine pl_val (.pointer (some ⟨g8, 1, none⟩)) (y_faddr rfl Fa71x1) ?_
      refine pl_val (.slice a398 n398 c398) (y_load rfl ((box_load Ag41 Sz41 hb9 [(.int .i64 2)] [(.slice a398 n398 c398)] [] rfl rfl (fun _ => rfl)) _ (Chg.refl _ _))) ?_
      refine pl_val (.int .i64 k296) (y_move rfl) ?_
      refine pl_val (.int .i64 k394) (y_move rfl) ?_
      obtain ⟨w437, g437, ew437, eg437, hC437, hb437⟩ := new_block w417 [(.int .i64 k296), (.int .i64 k394)] 3
      refine pl_val (w' := w437) (.slice (some ⟨g437, 0, none⟩) 2 2) (y_bslice rfl (by rw [ew437, eg437]; kernel_rfl)) ?_
      have h0 := h0.ext hC437
      have h1 := h1.ext hC437
      have hb3 := hb3.chg hC437 (fun h => nomatch h)
      have hb4 := hb4.chg hC437 (fun h => nomatch h)
      have hb5 := hb5.chg hC437 (fun h => nomatch h)
      have hb9 := hb9.chg hC437 (fun h => nomatch h)
      have hv398 := hv398.ext hC437
      have hC := hC.ext hC437
      have hO := hO.new1 hC437 eg437 hb437.lt
      have hv437 := os_of_box (r := (RT.int .i64)) (M := M) (css := [[(.int .i64 k296)], [(.int .i64 k394)]]) (fps := [([] : List Nat), ([] : List Nat)]) (xs := ([k296, k394] : List Int)) hb437 ⟨⟨rfl, rfl⟩, ⟨⟨rfl, rfl⟩, trivial⟩⟩ (Nat.le_of_ble_eq_true rfl) (List.nodup_cons.2 ⟨(fun h => nomatch h), List.nodup_nil⟩)
      have hv437 : (RT.os 3 (RT.int .i64)).val M w437 (.slice (some ⟨g437, 0, none⟩) 2 2) [k296, k394] [g437] := hv437
      obtain ⟨w439, g439, ew439, eg439, hC439, hb439⟩ := new_block w437 [(.slice (some ⟨g437, 0, none⟩) 2 2)] 22
      refine pl_val (w' := w439) (.slice (some ⟨g439, 0, none⟩) 1 1) (y_bslice rfl (by rw [ew439, eg439]; kernel_rfl)) ?_
      have h0 := h0.ext hC439
      have h1 := h1.ext hC439
      have hb3 := hb3.chg hC439 (fun h => nomatch h)
      have hb4 := hb4.chg hC439 (fun h => nomatch h)
      have hb5 := hb5.chg hC439 (fun h => nomatch h)
      have hb9 := hb9.chg hC439 (fun h => nomatch h)
      have hv398 := hv398.ext hC439
      have hv437 := hv437.ext hC439
      have hC := hC.ext hC439
      have hO := hO.new1 hC439 eg439 hb439.lt
      have hO := hO.perm (R := (g439 :: ((([g437])) ++ ([]))) ++ (f398 ++ (([g8]) ++ (([g5]) ++ (([g4]) ++ (([g3]) ++ ([]))))))) (by simp)
      have hnd439 := hO.nd
      have hv439 := os_of_box (r := (RT.os 3 (RT.int .i64))) (M := M) (css := [[(.slice (some ⟨g437, 0, none⟩) 2 2)]]) (fps := [([g437] : List Nat)]) (xs := ([[k296, k394]] : List (List Int))) hb439 ⟨(os_unval hv437), trivial⟩ (Nat.le_of_ble_eq_true rfl) hnd439
      have hv439 : (RT.os 22 (RT.os 3 (RT.int .i64))).val M w439 (.slice (some ⟨g439, 0, none⟩) 1 1) [[k296, k394]] (g439 :: ((([g437])) ++ ([]))) := hv439
      obtain ⟨y442, hy442, hs⟩ := bind_some hs
      have hO := hO.fr1
      obtain ⟨a441, n441, c441, w441, f441, hr441, hC441, hf441, hv441⟩ := app_os Rw41 hy442 hv398 hv439 hO.inM (fun g hg hq => hO.apart g hq (mem_l hg))
      have hG441 := os_block hv398
      refine pl_val (w' := w441) (.slice a441 n441 c441) (y_append rfl rfl (hr441 _)) ?_
      have hO := hO.fr1
      have hO := hO.fr1
      have h0 := h0.mut hC441 (fun g hg => hO.inM g (hG441 g hg)) (fun _ _ h => nomatch h)
      have h1 := h1.mut hC441 (fun g hg => hO.inM g (hG441 g hg)) (fun _ _ h => nomatch h)
      have hb3 := hb3.chg hC441 (fun hg => hO.apart _ (hG441 _ hg) (mem_r (mem_r (mem_r (mem_r (mem_l (List.mem_singleton.2 rfl)))))))
      have hb4 := hb4.chg hC441 (fun hg => hO.apart _ (hG441 _ hg) (mem_r (mem_r (mem_r (mem_l (List.mem_singleton.2 rfl))))))
      have hb5 := hb5.chg hC441 (fun hg => hO.apart _ (hG441 _ hg) (mem_r (mem_r (mem_l (List.mem_singleton.2 rfl)))))
      have hb9 := hb9.chg hC441 (fun hg => hO.apart _ (hG441 _ hg) (mem_r (mem_l (List.mem_singleton.2 rfl))))
      have hC := hC.step hC441 (fun g hg => hO.inN g (hG441 g hg))
      have hO := hO.eat hC441 hf441 (os_nodup hv441) hv441.fpl
      refine pl_val (.pointer (some ⟨g8, 1, none⟩)) (y_faddr rfl Fa71x1) ?_
      obtain ⟨w444, hst444, hC444, hb444⟩ := box_store (P := Try.prog) hb9 [(.int .i64 2)] [(.slice a398 n398 c398)] [] [(.slice a441 n441 c441)] rfl rfl (by intro u hu; simp only [List.mem_cons, List.not_mem_nil, or_false] at hu; rcases hu with rfl <;> rfl)
      refine pl_skip (w' := w444) (ys_store rfl rfl (hst444 _ _ rfl Sz41)) ?_
      have hO := hO.fr1
      have h0 := h0.mut hC444 (fun g hg => hO.inM g ((fun _ h => h) g hg)) (fun _ _ h => nomatch h)
      have h1 := h1.mut hC444 (fun g hg => hO.inM g ((fun _ h => h) g hg)) (fun _ _ h => nomatch h)
      have hb3 := hb3.chg hC444 (fun hg => hO.apart _ ((fun _ h => h) _ hg) (mem_r (mem_r (mem_r (mem_l (List.mem_singleton.2 rfl))))))
      have hb4 := hb4.chg hC444 (fun hg => hO.apart _ ((fun _ h => h) _ hg) (mem_r (mem_r (mem_l (List.mem_singleton.2 rfl)))))
      have hb5 := hb5.chg hC444 (fun hg => hO.apart _ ((fun _ h => h) _ hg) (mem_r (mem_l (List.mem_singleton.2 rfl))))
      have hv441 := hv441.mut hC444 (fun g hg => hO.inM g ((fun _ h => h) g hg)) (fun g hg e => hO.apart g ((fun _ h => h) g hg) (mem_l (e)))
      have hC := hC.step hC444 (fun g hg => hO.inN g ((fun _ h => h) g hg))
      have hO := hO.ext hC444
      have hb444 : BoxV w444 g8 71 [(.int .i64 2), (.slice a441 n441 c441)] := hb444
      refine c_nil ?_
      refine c_region ?_
      refine pl_val (.int .i64 k394) (y_move rfl) ?_
      refine pl_val (.int .i64 (w64 (k394 + 1))) (y_add rfl rfl) ?_
      refine pl_val (.int .i64 (w64 (k394 + 1))) (y_assign rfl) ?_
      refine c_nil ?_
      cases hs
      have hO := hO.fr4
      have hO := hO.fr4
      have hO := hO.fr4
      have hO := hO.fr3
      have hO := hO.fr4
      exact ⟨_, a441, n441, c441, f441, fr_ovl 55 ⟨rfl, rfl, rfl, rfl, rfl, rfl, congrArg (Value.int .i64) hw, trivial⟩, hC, hO, h0, h1, hb3, hb4, hb5, hb444, hv441⟩
     ·skip
      refine c_condF (congrArg Value.bool hc436) ?_
      refine wp_skip ?_
      refine c_region ?_
      refine pl_val (.int .i64 k394) (y_move rfl) ?_
      refine pl_val (.int .i64 (w64 (k394 + 1))) (y_add rfl rfl) ?_
      refine pl_val (.int .i64 (w64 (k394 + 1))) (y_assign rfl) ?_
      refine c_nil ?_
      cases hs
      have hO := hO.fr4
      have hO := hO.fr4
      have hO := hO.fr4
      have hO := hO.fr4
      have hO := hO.fr4
      exact ⟨_, a398, n398, c398, f398, fr_ovl 55 ⟨rfl, rfl, rfl, rfl, rfl, rfl, congrArg (Value.int .i64) hw, trivial⟩, hC, hO, h0, h1, hb3, hb4, hb5, hb9, hv398⟩
  ·skip
   have hO := hO.fr4
   have hO := hO.fr4
   have hO := hO.fr4
   have hO := hO.fr4
   have hO := hO.fr4
   exact ⟨_, a300, n300, c300, f300, fr_ovl 55 ⟨rfl, rfl, rfl, rfl, rfl, rfl, rfl, trivial⟩, hC, hO, h0, h1, hb3, hb4, hb5, hb9, hv300⟩
  ·cases o396 with
   | nx _ => exact True.intro
   | rt r_ =>
    have hs := after_rt hs
    intro a1 w1 hK
    cases hs
    exact hK
   | br s392 =>
    have hs := after_br hs
    rintro a1 w393 ⟨σ, a400, n400, c400, f400, rfl, hC, hO, h0, h1, hb3, hb4, hb5, hb9, hv400⟩
    refine c_region ?_
    refine pl_val (.int .i64 k296) (y_move rfl) ?_
    refine pl_val (.int .i64 (w64 (k296 + 1))) (y_add rfl rfl) ?_
    refine pl_val (.int .i64 (w64 (k296 + 1))) (y_assign rfl) ?_
    refine c_nil ?_
    cases hs
    have hO := hO.fr4
    have hO := hO.fr4
    have hO := hO.fr4
    have hO := hO.fr4
    have hO := hO.fr4
    exact ⟨_, a400, n400, c400, f400, fr_ovl 55 ⟨rfl, rfl, rfl, rfl, rfl, congrArg (Value.int .i64) hw, trivial⟩, hC, hO, h0, h1, hb3, hb4, hb5, hb9, hv400⟩
 ·skip
  have hO := hO.fr4
  have hO := hO.fr4
  have hO := hO.fr4
  have hO := hO.fr3
  have hO := hO.fr4
  exact ⟨_, (some ⟨g6, 0, none⟩), 0, 0, ([g6]), fr_ovl 55 ⟨rfl, rfl, rfl, rfl, rfl, rfl, trivial⟩, hC, hO, h0, h1, hb3, hb4, hb5, hb9, hv6⟩
 ·cases o298 with
  | nx _ => exact True.intro
  | rt r_ =>
   have hs := after_rt hs
   intro a1 w1 hK
   cases hs
   exact hK
  | br s294 =>
   have hs := after_br hs
   rintro a1 w295 ⟨σ, a302, n302, c302, f302, rfl, hC, hO, h0, h1, hb3, hb4, hb5, hb9, hv302⟩
   refine c_seq (c_region ?_)
   refine pl_val (.agg #[(.int .i64 2), (.slice a302 n302 c302)]) (y_load rfl ((box_load Ag71 Sz71 hb9 [] [(.int .i64 2), (.slice a302 n302 c302)] [] rfl rfl (fun h => nomatch h)) _ (Chg.refl _ _))) ?_
   obtain ⟨w445, hst445, hC445, hb445⟩ := box_store (P := Try.prog) hb5 [] [(.int .i64 0), (.slice none 0 0)] [] [(.int .i64 2), (.slice a302 n302 c302)] rfl rfl (by intro u hu; simp only [List.mem_cons, List.not_mem_nil, or_false] at hu; rcases hu with rfl | rfl <;> rfl)
   refine pl_skip (w' := w445) (ys_store rfl rfl (hst445 _ _ rfl Sz71)) ?_
   have hO := hO.fr2
   have h0 := h0.mut hC445 (fun g hg => hO.inM g ((fun _ h => h) g hg)) (fun _ _ h => nomatch h)
   have h1 := h1.mut hC445 (fun g hg => hO.inM g ((fun _ h => h) g hg)) (fun _ _ h => nomatch h)
   have hb3 := hb3.chg hC445 (fun hg => hO.apart _ ((fun _ h => h) _ hg) (mem_r (mem_r (mem_r (mem_l (List.mem_singleton.2 rfl))))))
   have hb4 := hb4.chg hC445 (fun hg => hO.apart _ ((fun _ h => h) _ hg) (mem_r (mem_r (mem_l (List.mem_singleton.2 rfl)))))
   have hb9 := hb9.chg hC445 (fun hg => hO.apart _ ((fun _ h => h) _ hg) (mem_r (mem_l (List.mem_singleton.2 rfl))))
   have hv302 := hv302.mut hC445 (fun g hg => hO.inM g ((fun _ h => h) g hg)) (fun g hg e => hO.apart g ((fun _ h => h) g hg) (mem_l (e)))
   have hC := hC.step hC445 (fun g hg => hO.inN g ((fun _ h => h) g hg))
   have hO := hO.ext hC445
   have hb445 : BoxV w445 g5 71 [(.int .i64 2), (.slice a302 n302 c302)] := hb445
   refine c_nil ?_
   refine wp_ret ?_
   cases hs
   have hO := hO.drop
   have hO := hO.fr1
   have hO := hO.drop
   have hO := hO.fr1
   have hO := hO.drop
   have hO := hO.fr1
   have hO := hO.drop
   exact ⟨_, g5, a302, n302, c302, f302, fr_ovl 55 ⟨rfl, trivial⟩, hb445, hC, hv302, hO.top⟩

theorem Bd71 : Bodied Try.prog 71 := bodied Try.func71 (by kernel_rfl) rfl

theorem Bd74 : Bodied Try.prog 74 := bodied Try.func74 (by kernel_rfl) rfl

def k_spec_l16Product (M : Nat → Prop) (w0 : World) (r : (Int × (List (List Int)))) (a : Act) (w : World) : Prop :=
  ∃ (σ : Nat → Value) (rg4 : Nat) (ra0 : Option Addr) (rn0 rc0 : Nat) (rf0 : List Nat), a = fr 12 (ovl σ [(4, (.pointer (some ⟨rg4, 0, none⟩)))]) ∧ BoxV w rg4 71 [(.int .i64 r.1), (.slice ra0 rn0 rc0)] ∧ Chg [] w0 w ∧ (RT.os 22 (RT.os 3 (RT.int .i64))).val M w (.slice ra0 rn0 rc0) r.2 rf0 ∧ Own (Nw w0 []) (fun _ => True) w (rf0 ++ ([]))
def s_spec_l16Product (p : List Int) (q : List Int) : Option ((Int × (List (List Int)))) :=
  (s_spec_l13OfPartition p).bind fun r5 =>
  (s_spec_l13OfPartition q).bind fun r8 =>
  (s_spec_l13Compose (p.length : Int) (r5.1, r5.2) (r8.1, r8.2)).bind fun r11 =>
  some (r11.1, r11.2)
set_option maxHeartbeats 4000000 in
theorem c_spec_l16Product {M : Nat → Prop} {w : World} {pa0 : Option Addr} {pn0 pc0 : Nat} {pa1 : Option Addr} {pn1 pc1 : Nat} (p : List Int) (q : List Int) (h0 : (RT.rs (RT.int .i64)).val M w (.slice pa0 pn0 pc0) p ([])) (h1 : (RT.rs (RT.int .i64)).val M w (.slice pa1 pn1 pc1) q ([])) (hM : ∀ g, w.heap.size ≤ g → M g) {r : (Int × (List (List Int)))} (hs : s_spec_l16Product p q = some r) :
    Gives Try.prog 112 [(.slice pa0 pn0 pc0), (.slice pa1 pn1 pc1)] w (fun v w' => ∃ (ra0 : Option Addr) (rn0 rc0 : Nat) (rf0 : List Nat), v = (.agg #[(.int .i64 r.1), (.slice ra0 rn0 rc0)]) ∧ Chg [] w w' ∧ (RT.os 22 (RT.os 3 (RT.int .i64))).val M w' (.slice ra0 rn0 rc0) r.2 rf0 ∧ Own (Nw w []) (fun _ => True) w' (rf0 ++ ([]))) := by
 refine calls_fr Try.func112 rfl Try.ntmps112 (Nat.le_of_ble_eq_true rfl) ?_
 have hO := Own.start (N := Nw w []) hM Nw.fut
 have hC := Chg.refl [] w
 unfold s_spec_l16Product at hs
 refine wp_mono (Q := KPost (k_spec_l16Product M w r)) ?_ (fun e a w1 h => ?_)
 rotate_left
 ·cases e
  case ret =>
   obtain ⟨σ, rg4, ra0, rn0, rc0, rf0, rfl, hbrg4, hrest⟩ := h
   exact ret1x Try.results112 (res_cell rfl (box_load Ag71 Sz71 hbrg4 [] _ [] rfl rfl (fun h => nomatch h))) ⟨ra0, rn0, rc0, rf0, rfl, hrest⟩
  all_goals exact (h : False).elim
 refine c_seq (c_region ?_)
 obtain ⟨w3, g3, ew3, eg3, hC3, hb3⟩ := new_block w [(.int .i64 0), (.slice none 0 0)] 71
 refine pl_val (w' := w3) (.pointer (some ⟨g3, 0, none⟩)) (y_alloc (by rw [ew3, eg3]; kernel_rfl)) ?_
 have h0 := h0.ext hC3
 have h1 := h1.ext hC3
 have hC := hC.ext hC3
 have hO := hO.new1 hC3 eg3 hb3.lt
 refine c_nil ?_
 refine c_seq (c_region ?_)
 refine pl_val (.slice pa0 pn0 pc0) (y_move rfl) ?_
 refine pl_val (.int .i64 (p.length : Int)) (y_len' Sl22 (rs_len h0) rfl) ?_
 refine pl_val (.slice pa0 pn0 pc0) (y_move rfl) ?_
 obtain ⟨r5, hr5, hs⟩ := bind_some hs
 refine pl_call Bd71 rfl (c_spec_l13OfPartition (M := M) p h0 hO.fut hr5) ?_
 rintro _ w4 ⟨a4x0, n4x0, c4x0, f4x0, rfl, hC4, hv4x0, hOc4⟩
 have h0 := h0.ext hC4
 have h1 := h1.ext hC4
 have hb3 := hb3.chg hC4 (fun h => nomatch h)
 have hC := hC.ext hC4
 have hO := Own.join0 hO hC4 hOc4
 have hO := hO.perm (R := f4x0 ++ (([g3]) ++ ([]))) (by simp)
 refine pl_val (.slice pa1 pn1 pc1) (y_move rfl) ?_
 obtain ⟨r8, hr8, hs⟩ := bind_some hs
 refine pl_call Bd71 rfl (c_spec_l13OfPartition (M := M) q h1 hO.fut hr8) ?_
 rintro _ w7 ⟨a7x0, n7x0, c7x0, f7x0, rfl, hC7, hv7x0, hOc7⟩
 have h0 := h0.ext hC7
 have h1 := h1.ext hC7
 have hb3 := hb3.chg hC7 (fun h => nomatch h)
 have hv4x0 := hv4x0.ext hC7
 have hC := hC.ext hC7
 have hO := Own.join0 hO hC7 hOc7
 have hO := hO.perm (R := f7x0 ++ (f4x0 ++ (([g3]) ++ ([])))) (by simp)
 have hO := hO.fr1
 obtain ⟨r11, hr11, hs⟩ := bind_some hs
 refine pl_call Bd74 rfl (c_spec_l13Compose (M := (Less (Less M f4x0) f7x0)) (p.length : Int) (r5.1, r5.2) (r8.1, r8.2) ((((Frz.os (Frz.os Frz.int))).val hv4x0 Less.sub Less.not).sub Less.sub) (((Frz.os (Frz.os Frz.int))).val (hv7x0.sub Less.sub) Less.sub Less.not) (hO.less).less.fut hr11) ?_
 rintro _ w10 ⟨a10x0, n10x0, c10x0, f10x0, rfl, hC10, hv10x0, hOc10⟩
 have h0 := h0.ext hC10
 have h1 := h1.ext hC10
 have hb3 := hb3.chg hC10 (fun h => nomatch h)
 have hv4x0 := hv4x0.ext hC10
 have hv7x0 := hv7x0.ext hC10
 have hC := hC.ext hC10
 have hO := Own.join0 hO hC10 hOc10
 have hO := hO.perm (R := f10x0 ++ (f4x0 ++ (f7x0 ++ (([g3]) ++ ([]))))) (by simp)
 have hv10x0 := hv10x0.free (M' := M) (Free.os (Free.os Free.int))
 obtain ⟨w13, hst13, hC13, hb13⟩ := box_store (P := Try.prog) hb3 [] [(.int .i64 0), (.slice none 0 0)] [] [(.int .i64 r11.1), (.slice a10x0 n10x0 c10x0)] rfl rfl (by intro u hu; simp only [List.mem_cons, List.not_mem_nil, or_false] at hu; rcases hu with rfl | rfl <;> rfl)
 refine pl_skip (w' := w13) (ys_store rfl rfl (hst13 _ _ rfl Sz71)) ?_
 have hO := hO.fr3
 have h0 := h0.mut hC13 (fun g hg => hO.inM g ((fun _ h => h) g hg)) (fun _ _ h => nomatch h)
 have h1 := h1.mut hC13 (fun g hg => hO.inM g ((fun _ h => h) g hg)) (fun _ _ h => nomatch h)
 have hv4x0 := hv4x0.mut hC13 (fun g hg => hO.inM g ((fun _ h => h) g hg)) (fun g hg e => hO.apart g ((fun _ h => h) g hg) (mem_r (mem_l (e))))
 have hv7x0 := hv7x0.mut hC13 (fun g hg => hO.inM g ((fun _ h => h) g hg)) (fun g hg e => hO.apart g ((fun _ h => h) g hg) (mem_r (mem_r (mem_l (e)))))
 have hv10x0 := hv10x0.mut hC13 (fun g hg => hO.inM g ((fun _ h => h) g hg)) (fun g hg e => hO.apart g ((fun _ h => h) g hg) (mem_l (e)))
 have hC := hC.step hC13 (fun g hg => hO.inN g ((fun _ h => h) g hg))
 have hO := hO.ext hC13
 have hb13 : BoxV w13 g3 71 [(.int .i64 r11.1), (.slice a10x0 n10x0 c10x0)] := hb13
 refine c_nil ?_
 refine wp_ret ?_
 cases hs
 have hO := hO.drop
 have hO := hO.fr1
 have hO := hO.drop
 have hO := hO.fr1
 have hO := hO.drop
 exact ⟨_, g3, a10x0, n10x0, c10x0, f10x0, fr_ovl 12 ⟨rfl, trivial⟩, hb13, hC, hv10x0, hO.top⟩

def k_spec_l8Same (M : Nat → Prop) (w0 : World) (r : Bool) (a : Act) (w : World) : Prop :=
  ∃ (σ : Nat → Value) , a = fr 33 (ovl σ [(4, (.bool r))]) ∧ Chg [] w0 w
def s_spec_l8Same (r_ : List (List Int)) (s_ : List (List Int)) : Option (Bool) :=
  (iter (S := Int) (R := Bool) (fun s20 =>
  (bif ((decide (s20 < (r_.length : Int))) && (decide (s20 < (s_.length : Int)))) then (idx r_ s20).bind fun x32 =>
  (idx s_ s20).bind fun x36 =>
  (s_spec_l1Same x32 x36).bind fun r41 =>
  (bif (!r41) then some (.rt false) else some (.nx (w64 (s20 + 1)))) else some (.br s20))) FU 0).bind fun o24 => after o24 (fun r_ => some r_) (fun s20 =>
  some ((r_.length : Int) == (s_.length : Int)))
set_option maxHeartbeats 4000000 in
theorem c_spec_l8Same {M : Nat → Prop} {w : World} {pa0 : Option Addr} {pn0 pc0 : Nat} {pa1 : Option Addr} {pn1 pc1 : Nat} (r_ : List (List Int)) (s_ : List (List Int)) (h0 : (RT.rs (RT.rs (RT.int .i64))).val M w (.slice pa0 pn0 pc0) r_ ([])) (h1 : (RT.rs (RT.rs (RT.int .i64))).val M w (.slice pa1 pn1 pc1) s_ ([])) (hM : ∀ g, w.heap.size ≤ g → M g) {r : Bool} (hs : s_spec_l8Same r_ s_ = some r) :
    Gives Try.prog 73 [(.slice pa0 pn0 pc0), (.slice pa1 pn1 pc1)] w (fun v w' => v = (.bool r) ∧ Chg [] w w') := by
 refine calls_fr Try.func73 rfl Try.ntmps73 (Nat.le_of_ble_eq_true rfl) ?_
 have hO := Own.start (N := Nw w []) hM Nw.fut
 have hC := Chg.refl [] w
 unfold s_spec_l8Same at hs
 refine wp_mono (Q := KPost (k_spec_l8Same M w r)) ?_ (fun e a w1 h => ?_)
 rotate_left
 ·cases e
  case ret =>
   obtain ⟨σ, rfl, hrest⟩ := h
   exact ret1x Try.results73 (res_tmp rfl) ⟨rfl, hrest⟩
  all_goals exact (h : False).elim
 refine c_seq (c_region ?_)
 refine pl_val (.bool false) (y_assign rfl) ?_
 refine c_nil ?_
 refine c_seq ?_
 refine c_seq (c_region ?_)
 refine pl_val (.int .i64 0) (y_assign rfl) ?_
 refine c_nil ?_
 obtain ⟨o24, hl25, hs⟩ := bind_some hs
 refine wp_block ?_
 refine wp_iter (id := 0) (I := fun s20 a w21 => ∃ (σ : Nat → Value), a = fr 33 (ovl σ [(0, (.slice pa0 pn0 pc0)), (1, (.slice pa1 pn1 pc1)), (5, (.int .i64 s20))]) ∧ Chg [] w w21 ∧ Own (Nw w []) M w21 ([]) ∧ (RT.rs (RT.rs (RT.int .i64))).val M w21 (.slice pa0 pn0 pc0) r_ ([]) ∧ (RT.rs (RT.rs (RT.int .i64))).val M w21 (.slice pa1 pn1 pc1) s_ ([])) (J := fun s20 a w21 => ∃ (σ : Nat → Value), a = fr 33 (ovl σ [(0, (.slice pa0 pn0 pc0)), (1, (.slice pa1 pn1 pc1))]) ∧ Chg [] w w21 ∧ Own (Nw w []) M w21 ([]) ∧ (RT.rs (RT.rs (RT.int .i64))).val M w21 (.slice pa0 pn0 pc0) r_ ([]) ∧ (RT.rs (RT.rs (RT.int .i64))).val M w21 (.slice pa1 pn1 pc1) s_ ([])) (K := (k_spec_l8Same M w)) ?_ FU 0 o24 _ _ ?_ hl25 ?_
 ·rintro s20 o24 a w21 ⟨σ, rfl, hC, hO, h0, h1⟩ hs
  refine c_seq ?_
  refine c_seq ?_
  refine c_mid (I := fun a w27 => ∃ (σ : Nat → Value), a = fr 33 (ovl σ [(0, (.slice pa0 pn0 pc0)), (1, (.slice pa1 pn1 pc1)), (5, (.int .i64 s20)), (15, (.bool ((decide (s20 < (r_.length : Int))) && (decide (s20 < (s_.length : Int))))))]) ∧ Chg [] w21 w27) ?_ ?_
  ·have hMid := Chg.refl [] w21
   refine c_region ?_
   refine pl_val (.int .i64 s20) (y_move rfl) ?_
   refine pl_val (.slice pa0 pn0 pc0) (y_move rfl) ?_
   refine pl_val (.int .i64 (r_.length : Int)) (y_len' Sl41 (rs_len h0) rfl) ?_
   refine pl_val (.bool (decide (s20 < (r_.length : Int)))) (y_lss rfl rfl) ?_
   refine pl_val (.bool (decide (s20 < (r_.length : Int)))) (y_move rfl) ?_
   rcases Bool.eq_false_or_eq_true ((decide (s20 < (r_.length : Int)))) with hc29 | hc29
   ·skip
    refine pl_yes (.int .i64 s20) (tg := 10) (by kernel_rfl) (congrArg Value.bool hc29) (y_move rfl) ?_
    refine pl_yes (.slice pa1 pn1 pc1) (tg := 10) (by kernel_rfl) (congrArg Value.bool hc29) (y_move rfl) ?_
    refine pl_yes (.int .i64 (s_.length : Int)) (tg := 10) (by kernel_rfl) (congrArg Value.bool hc29) (y_len' Sl41 (rs_len h1) rfl) ?_
    refine pl_yes (.bool (decide (s20 < (s_.length : Int)))) (tg := 10) (by kernel_rfl) (congrArg Value.bool hc29) (y_lss rfl rfl) ?_
    refine pl_val (.bool ((decide (s20 < (r_.length : Int))) && (decide (s20 < (s_.length : Int))))) (y_pick_t (congrArg Value.bool hc29) (congrArg Value.bool (by rw [hc29]; rfl))) ?_
    refine c_nil ?_
    exact ⟨_, fr_ovl 33 ⟨rfl, rfl, rfl, rfl, trivial⟩, hMid⟩
   ·skip
    refine pl_not (tg := 10) (by kernel_rfl) (congrArg Value.bool hc29) ?_
    refine pl_not (tg := 10) (by kernel_rfl) (congrArg Value.bool hc29) ?_
    refine pl_not (tg := 10) (by kernel_rfl) (congrArg Value.bool hc29) ?_
    refine pl_not (tg := 10) (by kernel_rfl) (congrArg Value.bool hc29) ?_
    refine pl_val (.bool ((decide (s20 < (r_.length : Int))) && (decide (s20 < (s_.length : Int))))) (y_pick_f (congrArg Value.bool hc29) (congrArg Value.bool (by rw [hc29]; rfl))) ?_
    refine c_nil ?_
    exact ⟨_, fr_ovl 33 ⟨rfl, rfl, rfl, rfl, trivial⟩, hMid⟩
  ·rintro a1 w27 ⟨σ, rfl, hCs26⟩
   have h0 := h0.ext hCs26
   have h1 := h1.ext hCs26
   have hC := hC.ext hCs26
   have hO := hO.ext hCs26
   rcases bif_some hs with ⟨hc30, hs⟩ | ⟨hc30, hs⟩
   ·skip
    refine c_condT (congrArg Value.bool hc30) ?_
    refine wp_skip ?_
    refine c_seq ?_
    refine wp_block ?_
    refine c_seq ?_
    refine x_start [] Mx rfl ?_
    have hCw31 := Chg.drew w27
    generalize World.drew w27 = w31 at hCw31 ⊢
    have h0 := h0.ext hCw31
    have h1 := h1.ext hCw31
    have hC := hC.ext hCw31
    have hO := hO.ext hCw31
    have hS := Chg.refl [] w31
    refine x_p 0 (.slice pa0 pn0 pc0) rfl (by kernel_rfl)  (fun _ => y_move rfl) (fun _ => hS) ?_
    refine x_p 1 (.int .i64 s20) rfl (by kernel_rfl)  (fun _ => y_move rfl) (fun _ => hS) ?_
    obtain ⟨x32, hx32, hs⟩ := bind_some hs
    obtain ⟨b33, o33, hp33, ha33⟩ := rs_idx Sl41 Sz22 h0 hx32
    refine x_p 2 (.pointer (some ⟨b33, o33, none⟩)) rfl (by kernel_rfl)  (fun _ => hp33 _ _ _ _ _ _ _ _ _ rfl rfl) (fun _ => hS) ?_
    obtain ⟨v34, hl34, hv34⟩ := at_load Ag22 Sz22 (fun _ => rfl) ha33
    obtain ⟨a34, n34, c34, rfl⟩ := rs_sl hv34
    refine x_l 3 (.slice a34 n34 c34) rfl (by kernel_rfl)  (fun w' hw' => y_load rfl (hl34 w' hw')) hS ?_
    refine x_p 4 (.slice pa1 pn1 pc1) rfl (by kernel_rfl)  (fun _ => y_move rfl) (fun _ => hS) ?_
    refine x_p 5 (.int .i64 s20) rfl (by kernel_rfl)  (fun _ => y_move rfl) (fun _ => hS) ?_
    obtain ⟨x36, hx36, hs⟩ := bind_some hs
    obtain ⟨b37, o37, hp37, ha37⟩ := rs_idx Sl41 Sz22 h1 hx36
    refine x_p 6 (.pointer (some ⟨b37, o37, none⟩)) rfl (by kernel_rfl)  (fun _ => hp37 _ _ _ _ _ _ _ _ _ rfl rfl) (fun _ => hS) ?_
    obtain ⟨v38, hl38, hv38⟩ := at_load Ag22 Sz22 (fun _ => rfl) ha37
    obtain ⟨a38, n38, c38, rfl⟩ := rs_sl hv38
    refine x_l 7 (.slice a38 n38 c38) rfl (by kernel_rfl)  (fun w' hw' => y_load rfl (hl38 w' hw')) hS ?_
    refine x_one (i := 8) (by kernel_rfl) ?_
    obtain ⟨r41, hr41, hs⟩ := bind_some hs
    refine xk_call (b := false) rfl  Bd86 rfl (c_spec_l1Same (M := M) x32 x36 hv34 hv38 hO.fut hr41) rfl (by rintro _ _ _ ⟨rfl, hC40⟩; exact hS.ext hC40) ?_
    rintro _ w40 ⟨rfl, hC40⟩
    have h0 := h0.ext hC40
    have h1 := h1.ext hC40
    have hv34 := hv34.ext hC40
    have hv38 := hv38.ext hC40
    have hC := hC.ext hC40
    have hO := hO.ext hC40
    have hS := hS.ext hC40
    refine x_p 9 (.bool (!r41)) rfl (by kernel_rfl)  (fun _ => y_not rfl) (fun _ => hS) ?_
    refine x_end (by kernel_rfl) ?_
    clear hS
    rcases bif_some hs with ⟨hc42, hs⟩ | ⟨hc42, hs⟩
    ·skip
     refine c_condT (congrArg Value.bool hc42) ?_
     refine c_seq (c_region ?_)
     refine pl_val (.bool false) (y_assign rfl) ?_
     refine c_nil ?_
     refine wp_ret ?_
     cases hs
     exact ⟨_, fr_ovl 33 ⟨rfl, trivial⟩, hC⟩
    ·skip
     refine c_condF (congrArg Value.bool hc42) ?_
     refine wp_skip ?_
     refine c_region ?_
     refine pl_val (.int .i64 s20) (y_move rfl) ?_
     refine pl_val (.int .i64 (w64 (s20 + 1))) (y_add rfl rfl) ?_
     refine pl_val (.int .i64 (w64 (s20 + 1))) (y_assign rfl) ?_
     refine c_nil ?_
     cases hs
     exact ⟨_, fr_ovl 33 ⟨rfl, rfl, rfl, trivial⟩, hC, hO, h0, h1⟩
   ·skip
    refine c_condF (congrArg Value.bool hc30) ?_
    refine wp_exit ?_
    cases hs
    exact ⟨rfl, _, fr_ovl 33 ⟨rfl, rfl, trivial⟩, hC, hO, h0, h1⟩
 ·skip
  exact ⟨_, fr_ovl 33 ⟨rfl, rfl, rfl, trivial⟩, hC, hO, h0, h1⟩
 ·cases o24 with
  | nx _ => exact True.intro
  | rt r_ =>
   have hs := after_rt hs
   intro a1 w1 hK
   cases hs
   exact hK
  | br s20 =>
   have hs := after_br hs
   rintro a1 w21 ⟨σ, rfl, hC, hO, h0, h1⟩
   refine c_seq (c_region ?_)
   refine pl_val (.slice pa0 pn0 pc0) (y_move rfl) ?_
   refine pl_val (.int .i64 (r_.length : Int)) (y_len' Sl41 (rs_len h0) rfl) ?_
   refine pl_val (.slice pa1 pn1 pc1) (y_move rfl) ?_
   refine pl_val (.int .i64 (s_.length : Int)) (y_len' Sl41 (rs_len h1) rfl) ?_
   refine pl_val (.bool ((r_.length : Int) == (s_.length : Int))) (y_eql rfl rfl) ?_
   refine pl_val (.bool ((r_.length : Int) == (s_.length : Int))) (y_assign rfl) ?_
   refine c_nil ?_
   refine wp_ret ?_
   cases hs
   exact ⟨_, fr_ovl 33 ⟨rfl, trivial⟩, hC⟩

theorem Bd112 : Bodied Try.prog 112 := bodied Try.func112 (by kernel_rfl) rfl

theorem Bd73 : Bodied Try.prog 73 := bodied Try.func73 (by kernel_rfl) rfl

def k_spec_l16Permute (M : Nat → Prop) (w0 : World) (r : Bool) (a : Act) (w : World) : Prop :=
  ∃ (σ : Nat → Value) , a = fr 14 (ovl σ [(4, (.bool r))]) ∧ Chg [] w0 w
def s_spec_l16Permute (p : List Int) (q : List Int) : Option (Bool) :=
  (s_spec_l16Product p q).bind fun r4 =>
  (s_spec_l16Product q p).bind fun r7 =>
  (s_spec_l8Same r4.2 r7.2).bind fun r10 =>
  some r10
set_option maxHeartbeats 4000000 in
theorem c_spec_l16Permute {M : Nat → Prop} {w : World} {pa0 : Option Addr} {pn0 pc0 : Nat} {pa1 : Option Addr} {pn1 pc1 : Nat} (p : List Int) (q : List Int) (h0 : (RT.rs (RT.int .i64)).val M w (.slice pa0 pn0 pc0) p ([])) (h1 : (RT.rs (RT.int .i64)).val M w (.slice pa1 pn1 pc1) q ([])) (hM : ∀ g, w.heap.size ≤ g → M g) {r : Bool} (hs : s_spec_l16Permute p q = some r) :
    Gives Try.prog 91 [(.slice pa0 pn0 pc0), (.slice pa1 pn1 pc1)] w (fun v w' => v = (.bool r) ∧ Chg [] w w') := by
 refine calls_fr Try.func91 rfl Try.ntmps91 (Nat.le_of_ble_eq_true rfl) ?_
 have hO := Own.start (N := Nw w []) hM Nw.fut
 have hC := Chg.refl [] w
 unfold s_spec_l16Permute at hs
 refine wp_mono (Q := KPost (k_spec_l16Permute M w r)) ?_ (fun e a w1 h => ?_)
 rotate_left
 ·cases e
  case ret =>
   obtain ⟨σ, rfl, hrest⟩ := h
   exact ret1x Try.results91 (res_tmp rfl) ⟨rfl, hrest⟩
  all_goals exact (h : False).elim
 refine c_seq (c_region ?_)
 refine pl_val (.bool false) (y_assign rfl) ?_
 refine c_nil ?_
 refine c_seq (c_region ?_)
 refine pl_val (.slice pa0 pn0 pc0) (y_move rfl) ?_
 refine pl_val (.slice pa1 pn1 pc1) (y_move rfl) ?_
 obtain ⟨r4, hr4, hs⟩ := bind_some hs
 refine pl_call Bd112 rfl (c_spec_l16Product (M := M) p q h0 h1 hO.fut hr4) ?_
 rintro _ w3 ⟨a3x0, n3x0, c3x0, f3x0, rfl, hC3, hv3x0, hOc3⟩
 have h0 := h0.ext hC3
 have h1 := h1.ext hC3
 have hC := hC.ext hC3
 have hO := Own.join0 hO hC3 hOc3
 have hO := hO.perm (R := f3x0 ++ ([])) (by simp)
 refine pl_val (.slice a3x0 n3x0 c3x0) (y_field rfl (by kernel_rfl)) ?_
 refine pl_val (.slice pa1 pn1 pc1) (y_move rfl) ?_
 refine pl_val (.slice pa0 pn0 pc0) (y_move rfl) ?_
 obtain ⟨r7, hr7, hs⟩ := bind_some hs
 refine pl_call Bd112 rfl (c_spec_l16Product (M := M) q p h1 h0 hO.fut hr7) ?_
 rintro _ w6 ⟨a6x0, n6x0, c6x0, f6x0, rfl, hC6, hv6x0, hOc6⟩
 have h0 := h0.ext hC6
 have h1 := h1.ext hC6
 have hv3x0 := hv3x0.ext hC6
 have hC := hC.ext hC6
 have hO := Own.join0 hO hC6 hOc6
 have hO := hO.perm (R := f6x0 ++ (f3x0 ++ ([]))) (by simp)
 refine pl_val (.slice a6x0 n6x0 c6x0) (y_field rfl (by kernel_rfl)) ?_
 have hO := hO.fr1
 obtain ⟨r10, hr10, hs⟩ := bind_some hs
 refine pl_call Bd73 rfl (c_spec_l8Same (M := (Less (Less M f3x0) f6x0)) r4.2 r7.2 ((((Frz.os (Frz.os Frz.int))).val hv3x0 Less.sub Less.not).sub Less.sub) (((Frz.os (Frz.os Frz.int))).val (hv6x0.sub Less.sub) Less.sub Less.not) (hO.less).less.fut hr10) ?_
 rintro _ w9 ⟨rfl, hC9⟩
 have h0 := h0.ext hC9
 have h1 := h1.ext hC9
 have hv3x0 := hv3x0.ext hC9
 have hv6x0 := hv6x0.ext hC9
 have hC := hC.ext hC9
 have hO := hO.ext hC9
 refine pl_val (.bool r10) (y_assign rfl) ?_
 refine c_nil ?_
 refine wp_ret ?_
 cases hs
 exact ⟨_, fr_ovl 14 ⟨rfl, trivial⟩, hC⟩

theorem Bd91 : Bodied Try.prog 91 := bodied Try.func91 (by kernel_rfl) rfl

def k_spec_l16Apart (M : Nat → Prop) (w0 : World) (r : Int × Int × Bool) (a : Act) (w : World) : Prop :=
  ∃ (σ : Nat → Value) , a = fr 31 (ovl σ [(2, (.int .i64 r.1)), (3, (.int .i64 r.2.1)), (4, (.bool r.2.2))]) ∧ Chg [] w0 w
def s_spec_l16Apart (all : List (List Int)) : Option (Int × Int × Bool) :=
  (forC (S := Unit) (R := Int × Int × Bool) (fun k56 s54 =>
  (forC (S := Unit) (R := Int × Int × Bool) (fun k85 s83 =>
  (idx all k56).bind fun x101 =>
  (idx all k85).bind fun x105 =>
  (s_spec_l16Permute x101 x105).bind fun r110 =>
  (bif (!r110) then some (.rt (k56, k85, true)) else some (.nx ()))) 0 (all.length : Int) ()).bind fun o87 => after o87 (fun r_ => some (.rt r_)) (fun s83 =>
  some (.nx ()))) 0 (all.length : Int) ()).bind fun o58 => after o58 (fun r_ => some r_) (fun s54 =>
  some (0, 0, false))
set_option maxHeartbeats 4000000 in
theorem c_spec_l16Apart {M : Nat → Prop} {w : World} {pa0 : Option Addr} {pn0 pc0 : Nat} (all : List (List Int)) (h0 : (RT.rs (RT.rs (RT.int .i64))).val M w (.slice pa0 pn0 pc0) all ([])) (hM : ∀ g, w.heap.size ≤ g → M g) {r : Int × Int × Bool} (hs : s_spec_l16Apart all = some r) :
    Gives Try.prog 60 [(.slice pa0 pn0 pc0)] w (fun v w' => v = (.tuple #[(.int .i64 r.1), (.int .i64 r.2.1), (.bool r.2.2)]) ∧ Chg [] w w') := by
 refine calls_fr Try.func60 rfl Try.ntmps60 (Nat.le_of_ble_eq_true rfl) ?_
 have hO := Own.start (N := Nw w []) hM Nw.fut
 have hC := Chg.refl [] w
 unfold s_spec_l16Apart at hs
 refine wp_mono (Q := KPost (k_spec_l16Apart M w r)) ?_ (fun e a w1 h => ?_)
 rotate_left
 ·cases e
  case ret =>
   obtain ⟨σ, rfl, hrest⟩ := h
   exact ret3x Try.results60 (res_tmp rfl) (res_tmp rfl) (res_tmp rfl) ⟨rfl, hrest⟩
  all_goals exact (h : False).elim
 refine c_seq (c_region ?_)
 refine pl_val (.int .i64 0) (y_assign rfl) ?_
 refine pl_val (.int .i64 0) (y_assign rfl) ?_
 refine pl_val (.bool false) (y_assign rfl) ?_
 refine c_nil ?_
 refine c_seq ?_
 refine c_seq (c_region ?_)
 refine pl_val (.int .i64 0) (y_assign rfl) ?_
 refine c_nil ?_
 obtain ⟨o58, hl59, hs⟩ := bind_some hs
 refine wp_block ?_
 refine wp_forC (id := 0) (all.length : Int) (I := fun k56 s54 a w55 => ∃ (σ : Nat → Value), a = fr 31 (ovl σ [(0, (.slice pa0 pn0 pc0)), (5, (.int .i64 k56))]) ∧ Chg [] w w55 ∧ Own (Nw w []) M w55 ([]) ∧ (RT.rs (RT.rs (RT.int .i64))).val M w55 (.slice pa0 pn0 pc0) all ([])) (J := fun s54 a w55 => ∃ (σ : Nat → Value), a = fr 31 (ovl σ []) ∧ Chg [] w w55 ∧ Own (Nw w []) M w55 ([]) ∧ (RT.rs (RT.rs (RT.int .i64))).val M w55 (.slice pa0 pn0 pc0) all ([])) (K := (k_spec_l16Apart M w)) ?_ ?_ 0 () o58 _ _ ?_ hl59 ?_
 ·rintro k56 s54 a w55 ⟨σ, rfl, hC, hO, h0⟩ hlt
  refine c_seq ?_
  refine c_seq (c_region ?_)
  refine pl_val (.int .i64 k56) (y_move rfl) ?_
  refine pl_val (.slice pa0 pn0 pc0) (y_move rfl) ?_
  refine pl_val (.int .i64 (all.length : Int)) (y_len' Sl41 (rs_len h0) rfl) ?_
  refine pl_val (.bool (decide (k56 < (all.length : Int)))) (y_lss rfl rfl) ?_
  refine c_nil ?_
  refine c_condF (congrArg Value.bool (decide_eq_false hlt)) ?_
  refine wp_exit ?_
  exact ⟨rfl, _, fr_ovl 31 trivial, hC, hO, h0⟩
 ·rintro k56 s54 o58 a w55 ⟨σ, rfl, hC, hO, h0⟩ hlt hw hs
  refine c_seq ?_
  refine c_seq (c_region ?_)
  refine pl_val (.int .i64 k56) (y_move rfl) ?_
  refine pl_val (.slice pa0 pn0 pc0) (y_move rfl) ?_
  refine pl_val (.int .i64 (all.length : Int)) (y_len' Sl41 (rs_len h0) rfl) ?_
  refine pl_val (.bool (decide (k56 < (all.length : Int)))) (y_lss rfl rfl) ?_
  refine c_nil ?_
  refine c_condT (congrArg Value.bool (decide_eq_true hlt)) ?_
  refine wp_skip ?_
  refine c_seq ?_
  refine wp_block ?_
  refine c_seq (c_region ?_)
  refine pl_val (.int .i64 0) (y_assign rfl) ?_
  refine c_nil ?_
  obtain ⟨o87, hl88, hs⟩ := bind_some hs
  refine wp_block ?_
  refine wp_forC (id := 2) (all.length : Int) (I := fun k85 s83 a w84 => ∃ (σ : Nat → Value), a = fr 31 (ovl σ [(0, (.slice pa0 pn0 pc0)), (5, (.int .i64 k56)), (6, (.int .i64 k85))]) ∧ Chg [] w w84 ∧ Own (Nw w []) M w84 ([]) ∧ (RT.rs (RT.rs (RT.int .i64))).val M w84 (.slice pa0 pn0 pc0) all ([])) (J := fun s83 a w84 => ∃ (σ : Nat → Value), a = fr 31 (ovl σ [(0, (.slice pa0 pn0 pc0)), (5, (.int .i64 k56))]) ∧ Chg [] w w84 ∧ Own (Nw w []) M w84 ([]) ∧ (RT.rs (RT.rs (RT.int .i64))).val M w84 (.slice pa0 pn0 pc0) all ([])) (K := (k_spec_l16Apart M w)) ?_ ?_ 0 () o87 _ _ ?_ hl88 ?_
  ·rintro k85 s83 a w84 ⟨σ, rfl, hC, hO, h0⟩ hlt
   refine c_seq ?_
   refine c_seq (c_region ?_)
   refine pl_val (.int .i64 k85) (y_move rfl) ?_
   refine pl_val (.slice pa0 pn0 pc0) (y_move rfl) ?_
   refine pl_val (.int .i64 (all.length : Int)) (y_len' Sl41 (rs_len h0) rfl) ?_
   refine pl_val (.bool (decide (k85 < (all.length : Int)))) (y_lss rfl rfl) ?_
   refine c_nil ?_
   refine c_condF (congrArg Value.bool (decide_eq_false hlt)) ?_
   refine wp_exit ?_
   exact ⟨rfl, _, fr_ovl 31 ⟨rfl, rfl, trivial⟩, hC, hO, h0⟩
  ·rintro k85 s83 o87 a w84 ⟨σ, rfl, hC, hO, h0⟩ hlt hw hs
   refine c_seq ?_
   refine c_seq (c_region ?_)
   refine pl_val (.int .i64 k85) (y_move rfl) ?_
   refine pl_val (.slice pa0 pn0 pc0) (y_move rfl) ?_
   refine pl_val (.int .i64 (all.length : Int)) (y_len' Sl41 (rs_len h0) rfl) ?_
   refine pl_val (.bool (decide (k85 < (all.length : Int)))) (y_lss rfl rfl) ?_
   refine c_nil ?_
   refine c_condT (congrArg Value.bool (decide_eq_true hlt)) ?_
   refine wp_skip ?_
   refine c_seq ?_
   refine wp_block ?_
   refine c_seq ?_
   refine x_start [] Mx rfl ?_
   have hCw100 := Chg.drew w84
   generalize World.drew w84 = w100 at hCw100 ⊢
   have h0 := h0.ext hCw100
   have hC := hC.ext hCw100
   have hO := hO.ext hCw100
   have hS := Chg.refl [] w100
   refine x_p 0 (.slice pa0 pn0 pc0) rfl (by kernel_rfl)  (fun _ => y_move rfl) (fun _ => hS) ?_
   refine x_p 1 (.int .i64 k56) rfl (by kernel_rfl)  (fun _ => y_move rfl) (fun _ => hS) ?_
   obtain ⟨x101, hx101, hs⟩ := bind_some hs
   obtain ⟨b102, o102, hp102, ha102⟩ := rs_idx Sl41 Sz22 h0 hx101
   refine x_p 2 (.pointer (some ⟨b102, o102, none⟩)) rfl (by kernel_rfl)  (fun _ => hp102 _ _ _ _ _ _ _ _ _ rfl rfl) (fun _ => hS) ?_
   obtain ⟨v103, hl103, hv103⟩ := at_load Ag22 Sz22 (fun _ => rfl) ha102
   obtain ⟨a103, n103, c103, rfl⟩ := rs_sl hv103
   refine x_l 3 (.slice a103 n103 c103) rfl (by kernel_rfl)  (fun w' hw' => y_load rfl (hl103 w' hw')) hS ?_
   refine x_p 4 (.slice pa0 pn0 pc0) rfl (by kernel_rfl)  (fun _ => y_move rfl) (fun _ => hS) ?_
   refine x_p 5 (.int .i64 k85) rfl (by kernel_rfl)  (fun _ => y_move rfl) (fun _ => hS) ?_
   obtain ⟨x105, hx105, hs⟩ := bind_some hs
   obtain ⟨b106, o106, hp106, ha106⟩ := rs_idx Sl41 Sz22 h0 hx105
   refine x_p 6 (.pointer (some ⟨b106, o106, none⟩)) rfl (by kernel_rfl)  (fun _ => hp106 _ _ _ _ _ _ _ _ _ rfl rfl) (fun _ => hS) ?_
   obtain ⟨v107, hl107, hv107⟩ := at_load Ag22 Sz22 (fun _ => rfl) ha106
   obtain ⟨a107, n107, c107, rfl⟩ := rs_sl hv107
   refine x_l 7 (.slice a107 n107 c107) rfl (by kernel_rfl)  (fun w' hw' => y_load rfl (hl107 w' hw')) hS ?_
   refine x_one (i := 8) (by kernel_rfl) ?_
   obtain ⟨r110, hr110, hs⟩ := bind_some hs
   refine xk_call (b := false) rfl  Bd91 rfl (c_spec_l16Permute (M := M) x101 x105 hv103 hv107 hO.fut hr110) rfl (by rintro _ _ _ ⟨rfl, hC109⟩; exact hS.ext hC109) ?_
   rintro _ w109 ⟨rfl, hC109⟩
   have h0 := h0.ext hC109
   have hv103 := hv103.ext hC109
   have hv107 := hv107.ext hC109
   have hC := hC.ext hC109
   have hO := hO.ext hC109
   have hS := hS.ext hC109
   refine x_p 9 (.bool (!r110)) rfl (by kernel_rfl)  (fun _ => y_not rfl) (fun _ => hS) ?_
   refine x_end (by kernel_rfl) ?_
   clear hS
   rcases bif_some hs with ⟨hc111, hs⟩ | ⟨hc111, hs⟩
   ·skip
    refine c_condT (congrArg Value.bool hc111) ?_
    refine c_seq (c_region ?_)
    refine pl_val (.int .i64 k56) (y_move rfl) ?_
    refine pl_val (.int .i64 k85) (y_move rfl) ?_
    refine pl_val (.int .i64 k56) (y_assign rfl) ?_
    refine pl_val (.int .i64 k85) (y_assign rfl) ?_
    refine pl_val (.bool true) (y_assign rfl) ?_
    refine c_nil ?_
    refine wp_ret ?_
    cases hs
    exact ⟨_, fr_ovl 31 ⟨rfl, rfl, rfl, trivial⟩, hC⟩
   ·skip
    refine c_condF (congrArg Value.bool hc111) ?_
    refine wp_skip ?_
    refine c_region ?_
    refine pl_val (.int .i64 k85) (y_move rfl) ?_
    refine pl_val (.int .i64 (w64 (k85 + 1))) (y_add rfl rfl) ?_
    refine pl_val (.int .i64 (w64 (k85 + 1))) (y_assign rfl) ?_
    refine c_nil ?_
    cases hs
    exact ⟨_, fr_ovl 31 ⟨rfl, rfl, congrArg (Value.int .i64) hw, trivial⟩, hC, hO, h0⟩
  ·skip
   exact ⟨_, fr_ovl 31 ⟨rfl, rfl, rfl, trivial⟩, hC, hO, h0⟩
  ·cases o87 with
   | nx _ => exact True.intro
   | rt r_ =>
    have hs := after_rt hs
    intro a1 w1 hK
    cases hs
    exact hK
   | br s83 =>
    have hs := after_br hs
    rintro a1 w84 ⟨σ, rfl, hC, hO, h0⟩
    refine c_region ?_
    refine pl_val (.int .i64 k56) (y_move rfl) ?_
    refine pl_val (.int .i64 (w64 (k56 + 1))) (y_add rfl rfl) ?_
    refine pl_val (.int .i64 (w64 (k56 + 1))) (y_assign rfl) ?_
    refine c_nil ?_
    cases hs
    exact ⟨_, fr_ovl 31 ⟨rfl, congrArg (Value.int .i64) hw, trivial⟩, hC, hO, h0⟩
 ·skip
  exact ⟨_, fr_ovl 31 ⟨rfl, rfl, trivial⟩, hC, hO, h0⟩
 ·cases o58 with
  | nx _ => exact True.intro
  | rt r_ =>
   have hs := after_rt hs
   intro a1 w1 hK
   cases hs
   exact hK
  | br s54 =>
   have hs := after_br hs
   rintro a1 w55 ⟨σ, rfl, hC, hO, h0⟩
   refine c_seq (c_region ?_)
   refine pl_val (.int .i64 0) (y_assign rfl) ?_
   refine pl_val (.int .i64 0) (y_assign rfl) ?_
   refine pl_val (.bool false) (y_assign rfl) ?_
   refine c_nil ?_
   refine wp_ret ?_
   cases hs
   exact ⟨_, fr_ovl 31 ⟨rfl, rfl, rfl, trivial⟩, hC⟩

theorem Bd49 : Bodied Try.prog 49 := bodied Try.func49 (by kernel_rfl) rfl

theorem Bd60 : Bodied Try.prog 60 := bodied Try.func60 (by kernel_rfl) rfl

end Go.Proofs
