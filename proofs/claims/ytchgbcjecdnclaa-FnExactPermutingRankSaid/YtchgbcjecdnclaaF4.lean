/- What functions of the program compute, as plain functions, and that a call gives just that. Conditions: those named in each theorem. -/
import Derived.Test.YtchgbcjecdnclaaF3
set_option linter.unusedVariables false
namespace Go.Proofs
open Go.G Go.RowKit
set_option maxRecDepth 100000

def k_impl_sameList (M : Nat → Prop) (w0 : World) (r : Bool) (a : Act) (w : World) : Prop :=
  ∃ (σ : Nat → Value) , a = fr 26 (ovl σ [(4, (.bool r))]) ∧ Chg [] w0 w
def s_impl_sameList (a_ : List Int) (b : List Int) : Option (Bool) :=
  (bif ((a_.length : Int) != (b.length : Int)) then some false else (forC (S := Unit) (R := Bool) (fun k11 s9 =>
  (idx a_ k11).bind fun x15 =>
  (idx b k11).bind fun x17 =>
  (bif (x17 != x15) then some (.rt false) else some (.nx ()))) 0 (a_.length : Int) ()).bind fun o13 => after o13 (fun r_ => some r_) (fun s9 =>
  some true))
set_option maxHeartbeats 4000000 in
theorem c_impl_sameList {M : Nat → Prop} {w : World} {pa0 : Option Addr} {pn0 pc0 : Nat} {pa1 : Option Addr} {pn1 pc1 : Nat} (a_ : List Int) (b : List Int) (h0 : (RT.rs (RT.int .i64)).val M w (.slice pa0 pn0 pc0) a_ ([])) (h1 : (RT.rs (RT.int .i64)).val M w (.slice pa1 pn1 pc1) b ([])) (hM : ∀ g, w.heap.size ≤ g → M g) {r : Bool} (hs : s_impl_sameList a_ b = some r) :
    Gives Try.prog 89 [(.slice pa0 pn0 pc0), (.slice pa1 pn1 pc1)] w (fun v w' => v = (.bool r) ∧ Chg [] w w') := by
 refine calls_fr Try.func89 rfl Try.ntmps89 (Nat.le_of_ble_eq_true rfl) ?_
 have hO := Own.start (N := Nw w []) hM Nw.fut
 have hC := Chg.refl [] w
 unfold s_impl_sameList at hs
 refine wp_mono (Q := KPost (k_impl_sameList M w r)) ?_ (fun e a w1 h => ?_)
 rotate_left
 ·cases e
  case ret =>
   obtain ⟨σ, rfl, hrest⟩ := h
   exact ret1x Try.results89 (res_tmp rfl) ⟨rfl, hrest⟩
  all_goals exact (h : False).elim
 refine c_seq (c_region ?_)
 refine pl_val (.bool false) (y_assign rfl) ?_
 refine c_nil ?_
 refine c_seq ?_
 refine c_seq (c_region ?_)
 refine pl_val (.slice pa0 pn0 pc0) (y_move rfl) ?_
 refine pl_val (.int .i64 (a_.length : Int)) (y_len' Sl22 (rs_len h0) rfl) ?_
 refine pl_val (.slice pa1 pn1 pc1) (y_move rfl) ?_
 refine pl_val (.int .i64 (b.length : Int)) (y_len' Sl22 (rs_len h1) rfl) ?_
 refine pl_val (.bool ((a_.length : Int) != (b.length : Int))) (y_neq rfl rfl) ?_
 refine c_nil ?_
 rcases bif_some hs with ⟨hc3, hs⟩ | ⟨hc3, hs⟩
 ·skip
  refine c_condT (congrArg Value.bool hc3) ?_
  refine c_seq (c_region ?_)
  refine pl_val (.bool false) (y_assign rfl) ?_
  refine c_nil ?_
  refine wp_ret ?_
  cases hs
  exact ⟨_, fr_ovl 26 ⟨rfl, trivial⟩, hC⟩
 ·skip
  refine c_condF (congrArg Value.bool hc3) ?_
  refine wp_skip ?_
  refine c_seq ?_
  refine c_seq (c_region ?_)
  refine pl_val (.slice pa0 pn0 pc0) (y_move rfl) ?_
  refine pl_val (.int .i64 (a_.length : Int)) (y_len' Sl22 (rs_len h0) rfl) ?_
  refine pl_val (.int .i64 0) (y_move rfl) ?_
  refine c_nil ?_
  obtain ⟨o13, hl14, hs⟩ := bind_some hs
  refine wp_block ?_
  refine wp_forC (id := 0) (a_.length : Int) (I := fun k11 s9 a w10 => ∃ (σ : Nat → Value), a = fr 26 (ovl σ [(1, (.slice pa1 pn1 pc1)), (12, (.slice pa0 pn0 pc0)), (13, (.int .i64 (a_.length : Int))), (14, (.int .i64 k11))]) ∧ Chg [] w w10 ∧ Own (Nw w []) M w10 ([]) ∧ (RT.rs (RT.int .i64)).val M w10 (.slice pa0 pn0 pc0) a_ ([]) ∧ (RT.rs (RT.int .i64)).val M w10 (.slice pa1 pn1 pc1) b ([])) (J := fun s9 a w10 => ∃ (σ : Nat → Value), a = fr 26 (ovl σ []) ∧ Chg [] w w10 ∧ Own (Nw w []) M w10 ([]) ∧ (RT.rs (RT.int .i64)).val M w10 (.slice pa0 pn0 pc0) a_ ([]) ∧ (RT.rs (RT.int .i64)).val M w10 (.slice pa1 pn1 pc1) b ([])) (K := (k_impl_sameList M w)) ?_ ?_ 0 () o13 _ _ ?_ hl14 ?_
  ·rintro k11 s9 a w10 ⟨σ, rfl, hC, hO, h0, h1⟩ hlt
   refine c_seq (c_region ?_)
   refine pl_val (.bool (decide (k11 < (a_.length : Int)))) (y_lss rfl rfl) ?_
   refine c_nil ?_
   refine c_seq ?_
   refine c_condF (congrArg Value.bool (decide_eq_false hlt)) ?_
   refine wp_exit ?_
   exact ⟨rfl, _, fr_ovl 26 trivial, hC, hO, h0, h1⟩
  ·rintro k11 s9 o13 a w10 ⟨σ, rfl, hC, hO, h0, h1⟩ hlt hw hs
   refine c_seq (c_region ?_)
   refine pl_val (.bool (decide (k11 < (a_.length : Int)))) (y_lss rfl rfl) ?_
   refine c_nil ?_
   refine c_seq ?_
   refine c_condT (congrArg Value.bool (decide_eq_true hlt)) ?_
   refine wp_skip ?_
   refine c_seq ?_
   refine wp_block ?_
   refine c_seq (c_region ?_)
   refine pl_val (.int .i64 k11) (y_move rfl) ?_
   obtain ⟨x15, hx15, hs⟩ := bind_some hs
   obtain ⟨b16, o16, hp16, ha16⟩ := rs_idx Sl22 Sz3 h0 hx15
   refine pl_val (.pointer (some ⟨b16, o16, none⟩)) (hp16 _ _ _ _ _ _ _ _ _ rfl rfl) ?_
   refine pl_val (.int .i64 x15) (y_load rfl ((at_load_int Ag3 Sz3 ha16) _ (Chg.refl _ _))) ?_
   refine pl_val (.int .i64 k11) (y_assign rfl) ?_
   refine pl_val (.int .i64 x15) (y_assign rfl) ?_
   refine c_nil ?_
   refine c_seq (c_region ?_)
   refine pl_val (.slice pa1 pn1 pc1) (y_move rfl) ?_
   refine pl_val (.int .i64 k11) (y_move rfl) ?_
   obtain ⟨x17, hx17, hs⟩ := bind_some hs
   obtain ⟨b18, o18, hp18, ha18⟩ := rs_idx Sl22 Sz3 h1 hx17
   refine pl_val (.pointer (some ⟨b18, o18, none⟩)) (hp18 _ _ _ _ _ _ _ _ _ rfl rfl) ?_
   refine pl_val (.int .i64 x17) (y_load rfl ((at_load_int Ag3 Sz3 ha18) _ (Chg.refl _ _))) ?_
   refine pl_val (.int .i64 x15) (y_move rfl) ?_
   refine pl_val (.bool (x17 != x15)) (y_neq rfl rfl) ?_
   refine c_nil ?_
   rcases bif_some hs with ⟨hc19, hs⟩ | ⟨hc19, hs⟩
   ·skip
    refine c_condT (congrArg Value.bool hc19) ?_
    refine c_seq (c_region ?_)
    refine pl_val (.bool false) (y_assign rfl) ?_
    refine c_nil ?_
    refine wp_ret ?_
    cases hs
    exact ⟨_, fr_ovl 26 ⟨rfl, trivial⟩, hC⟩
   ·skip
    refine c_condF (congrArg Value.bool hc19) ?_
    refine wp_skip ?_
    refine c_region ?_
    refine pl_val (.int .i64 (w64 (k11 + 1))) (y_add rfl rfl) ?_
    refine pl_val (.int .i64 (w64 (k11 + 1))) (y_move rfl) ?_
    refine c_nil ?_
    cases hs
    exact ⟨_, fr_ovl 26 ⟨rfl, rfl, rfl, congrArg (Value.int .i64) hw, trivial⟩, hC, hO, h0, h1⟩
  ·skip
   exact ⟨_, fr_ovl 26 ⟨rfl, rfl, rfl, rfl, trivial⟩, hC, hO, h0, h1⟩
  ·cases o13 with
   | nx _ => exact True.intro
   | rt r_ =>
    have hs := after_rt hs
    intro a1 w1 hK
    cases hs
    exact hK
   | br s9 =>
    have hs := after_br hs
    rintro a1 w10 ⟨σ, rfl, hC, hO, h0, h1⟩
    refine c_seq (c_region ?_)
    refine pl_val (.bool true) (y_assign rfl) ?_
    refine c_nil ?_
    refine wp_ret ?_
    cases hs
    exact ⟨_, fr_ovl 26 ⟨rfl, trivial⟩, hC⟩

theorem Bd89 : Bodied Try.prog 89 := bodied Try.func89 (by kernel_rfl) rfl

def k_impl_different (M : Nat → Prop) (w0 : World) (r : (List (List Int))) (a : Act) (w : World) : Prop :=
  ∃ (σ : Nat → Value) (ra0 : Option Addr) (rn0 rc0 : Nat), a = fr 32 (ovl σ [(2, (.slice ra0 rn0 rc0))]) ∧ Chg [] w0 w ∧ (RT.rs (RT.rs (RT.int .i64))).val (Past M w0 w) w (.slice ra0 rn0 rc0) r []
def s_impl_different (rows : List (List Int)) : Option ((List (List Int))) :=
  (forC (S := (List (List Int))) (R := (List (List Int))) (fun k53 s51 =>
  (idx rows k53).bind fun x63 =>
  ((bif (k53 == 0) then some true else (idx rows (w64 (k53 - 1))).bind fun x72 =>
  (s_impl_sameList x72 x63).bind fun r77 =>
  some (!r77))).bind fun s68 =>
  (bif s68 then (app s51 ([x63])).bind fun y82 =>
  some (.nx y82) else some (.nx s51))) 0 (rows.length : Int) ([])).bind fun o55 => after o55 (fun r_ => some r_) (fun s51 =>
  some s51)
set_option maxHeartbeats 4000000 in
theorem c_impl_different {M : Nat → Prop} {w : World} {pa0 : Option Addr} {pn0 pc0 : Nat} (rows : List (List Int)) (h0 : (RT.rs (RT.rs (RT.int .i64))).val M w (.slice pa0 pn0 pc0) rows ([])) (hM : ∀ g, w.heap.size ≤ g → M g) {r : (List (List Int))} (hs : s_impl_different rows = some r) :
    Gives Try.prog 118 [(.slice pa0 pn0 pc0)] w (fun v w' => ∃ (ra0 : Option Addr) (rn0 rc0 : Nat), v = (.slice ra0 rn0 rc0) ∧ Chg [] w w' ∧ (RT.rs (RT.rs (RT.int .i64))).val (Past M w w') w' (.slice ra0 rn0 rc0) r []) := by
 refine calls_fr Try.func118 rfl Try.ntmps118 (Nat.le_of_ble_eq_true rfl) ?_
 have hO := Own.start (N := Nw w []) hM Nw.fut
 have hC := Chg.refl [] w
 unfold s_impl_different at hs
 refine wp_mono (Q := KPost (k_impl_different M w r)) ?_ (fun e a w1 h => ?_)
 rotate_left
 ·cases e
  case ret =>
   obtain ⟨σ, ra0, rn0, rc0, rfl, hrest⟩ := h
   exact ret1x Try.results118 (res_tmp rfl) ⟨ra0, rn0, rc0, rfl, hrest⟩
  all_goals exact (h : False).elim
 refine c_seq (c_region ?_)
 refine pl_val (.slice none 0 0) (y_assign rfl) ?_
 refine c_nil ?_
 refine c_seq (c_region ?_)
 obtain ⟨w2, g2, ew2, eg2, hC2, hb2⟩ := new_block w [] 22
 refine pl_val (w' := w2) (.slice (some ⟨g2, 0, none⟩) 0 0) (y_bslice rfl (by rw [ew2, eg2]; kernel_rfl)) ?_
 have h0 := h0.ext hC2
 have hC := hC.ext hC2
 have hO := hO.new1 hC2 eg2 hb2.lt
 have hv2 := os_of_box (r := (RT.os 3 (RT.int .i64))) (M := M) (css := []) (fps := []) (xs := ([] : List (List Int))) hb2 trivial (Nat.zero_le _) (List.nodup_cons.2 ⟨(fun h => nomatch h), List.nodup_nil⟩)
 have hv2 : (RT.os 22 (RT.os 3 (RT.int .i64))).val M w2 (.slice (some ⟨g2, 0, none⟩) 0 0) [] [g2] := hv2
 refine pl_val (.slice (some ⟨g2, 0, none⟩) 0 0) (y_assign rfl) ?_
 refine c_nil ?_
 refine c_seq ?_
 refine c_seq (c_region ?_)
 refine pl_val (.slice pa0 pn0 pc0) (y_move rfl) ?_
 refine pl_val (.int .i64 (rows.length : Int)) (y_len' Sl41 (rs_len h0) rfl) ?_
 refine pl_val (.int .i64 0) (y_move rfl) ?_
 refine c_nil ?_
 obtain ⟨M50, f50, hs50, hk50, hO, hv50⟩ := os_inner (Frz.os Frz.int) hv2 hO
 have h0 := h0.sub (M' := M50) hs50
 have hK := hk50
 obtain ⟨o55, hl56, hs⟩ := bind_some hs
 refine wp_block ?_
 refine wp_forC (id := 0) (rows.length : Int) (I := fun k53 s51 a w52 => ∃ (σ : Nat → Value) (M57 : Nat → Prop) (a58 : Option Addr) (n58 : Nat) (c58 : Nat) (f58 : List Nat), a = fr 32 (ovl σ [(0, (.slice pa0 pn0 pc0)), (3, (.slice a58 n58 c58)), (7, (.slice pa0 pn0 pc0)), (8, (.int .i64 (rows.length : Int))), (9, (.int .i64 k53))]) ∧ Chg [] w w52 ∧ Own (Nw w []) M57 w52 (f58 ++ []) ∧ Keeps w M M57 ∧ (RT.rs (RT.rs (RT.int .i64))).val M57 w52 (.slice pa0 pn0 pc0) rows ([]) ∧ (RT.os 22 (RT.rs (RT.int .i64))).val M57 w52 (.slice a58 n58 c58) s51 f58) (J := fun s51 a w52 => ∃ (σ : Nat → Value) (M60 : Nat → Prop) (a61 : Option Addr) (n61 : Nat) (c61 : Nat) (f61 : List Nat), a = fr 32 (ovl σ [(3, (.slice a61 n61 c61))]) ∧ Chg [] w w52 ∧ Own (Nw w []) M60 w52 (f61 ++ []) ∧ Keeps w M M60 ∧ (RT.rs (RT.rs (RT.int .i64))).val M60 w52 (.slice pa0 pn0 pc0) rows ([]) ∧ (RT.os 22 (RT.rs (RT.int .i64))).val M60 w52 (.slice a61 n61 c61) s51 f61) (K := (k_impl_different M w)) ?_ ?_ 0 ([]) o55 _ _ ?_ hl56 ?_
 ·rintro k53 s51 a w52 ⟨σ, M57, a58, n58, c58, f58, rfl, hC, hO, hK, h0, hv58⟩ hlt
  refine c_seq (c_region ?_)
  refine pl_val (.bool (decide (k53 < (rows.length : Int)))) (y_lss rfl rfl) ?_
  refine c_nil ?_
  refine c_seq ?_
  refine c_condF (congrArg Value.bool (decide_eq_false hlt)) ?_
  refine wp_exit ?_
  exact ⟨rfl, _, M57, a58, n58, c58, f58, fr_ovl 32 ⟨rfl, trivial⟩, hC, hO, hK, h0, hv58⟩
 ·rintro k53 s51 o55 a w52 ⟨σ, M57, a58, n58, c58, f58, rfl, hC, hO, hK, h0, hv58⟩ hlt hw hs
  refine c_seq (c_region ?_)
  refine pl_val (.bool (decide (k53 < (rows.length : Int)))) (y_lss rfl rfl) ?_
  refine c_nil ?_
  refine c_seq ?_
  refine c_condT (congrArg Value.bool (decide_eq_true hlt)) ?_
  refine wp_skip ?_
  refine c_seq ?_
  refine wp_block ?_
  refine c_seq (c_region ?_)
  refine pl_val (.int .i64 k53) (y_move rfl) ?_
  obtain ⟨x63, hx63, hs⟩ := bind_some hs
  obtain ⟨b65, o65, hp65, ha65⟩ := rs_idx Sl41 Sz22 h0 hx63
  refine pl_val (.pointer (some ⟨b65, o65, none⟩)) (hp65 _ _ _ _ _ _ _ _ _ rfl rfl) ?_
  obtain ⟨v66, hl66, hv66⟩ := at_load Ag22 Sz22 (fun _ => rfl) ha65
  obtain ⟨a66, n66, c66, rfl⟩ := rs_sl hv66
  refine pl_val (.slice a66 n66 c66) (y_load rfl (hl66 _ (Chg.refl _ _))) ?_
  refine pl_val (.int .i64 k53) (y_assign rfl) ?_
  refine pl_val (.slice a66 n66 c66) (y_assign rfl) ?_
  refine c_nil ?_
  refine c_seq ?_
  obtain ⟨s68, hm70, hs⟩ := bind_some hs
  refine c_mid (I := fun a w69 => ∃ (σ : Nat → Value), a = fr 32 (ovl σ [(0, (.slice pa0 pn0 pc0)), (3, (.slice a58 n58 c58)), (5, (.slice a66 n66 c66)), (7, (.slice pa0 pn0 pc0)), (8, (.int .i64 (rows.length : Int))), (9, (.int .i64 k53)), (25, (.bool s68))]) ∧ Chg [] w52 w69) ?_ ?_
  ·replace hs := hm70
   have hMid := Chg.refl [] w52
   refine c_region ?_
   refine pl_val (.int .i64 k53) (y_move rfl) ?_
   refine pl_val (.bool (k53 == 0)) (y_eql rfl rfl) ?_
   refine pl_val (.bool (k53 == 0)) (y_move rfl) ?_
   rcases bif_some hs with ⟨hc71, hs⟩ | ⟨hc71, hs⟩
   ·skip
    refine pl_not (tg := 16) (by kernel_rfl) (congrArg Value.bool hc71) ?_
    refine pl_not (tg := 16) (by kernel_rfl) (congrArg Value.bool hc71) ?_
    refine pl_not (tg := 16) (by kernel_rfl) (congrArg Value.bool hc71) ?_
    refine pl_not (tg := 16) (by kernel_rfl) (congrArg Value.bool hc71) ?_
    refine pl_not (tg := 16) (by kernel_rfl) (congrArg Value.bool hc71) ?_
    refine pl_not (tg := 16) (by kernel_rfl) (congrArg Value.bool hc71) ?_
    refine pl_not (tg := 16) (by kernel_rfl) (congrArg Value.bool hc71) ?_
    refine pl_not (tg := 16) (by kernel_rfl) (congrArg Value.bool hc71) ?_
    refine pl_val (.bool true) (y_pick_t (congrArg Value.bool hc71) rfl) ?_
    refine c_nil ?_
    cases hs
    exact ⟨_, fr_ovl 32 ⟨rfl, rfl, rfl, rfl, rfl, rfl, rfl, trivial⟩, hMid⟩
   ·skip
    refine pl_yes (.slice pa0 pn0 pc0) (tg := 16) (by kernel_rfl) (congrArg Value.bool hc71) (y_move rfl) ?_
    refine pl_yes (.int .i64 k53) (tg := 16) (by kernel_rfl) (congrArg Value.bool hc71) (y_move rfl) ?_
    refine pl_yes (.int .i64 (w64 (k53 - 1))) (tg := 16) (by kernel_rfl) (congrArg Value.bool hc71) (y_sub rfl rfl) ?_
    obtain ⟨x72, hx72, hs⟩ := bind_some hs
    obtain ⟨b73, o73, hp73, ha73⟩ := rs_idx Sl41 Sz22 h0 hx72
    refine pl_yes (.pointer (some ⟨b73, o73, none⟩)) (tg := 16) (by kernel_rfl) (congrArg Value.bool hc71) (hp73 _ _ _ _ _ _ _ _ _ rfl rfl) ?_
    obtain ⟨v74, hl74, hv74⟩ := at_load Ag22 Sz22 (fun _ => rfl) ha73
    obtain ⟨a74, n74, c74, rfl⟩ := rs_sl hv74
    refine pl_yes (.slice a74 n74 c74) (tg := 16) (by kernel_rfl) (congrArg Value.bool hc71) (y_load rfl (hl74 _ (Chg.refl _ _))) ?_
    refine pl_yes (.slice a66 n66 c66) (tg := 16) (by kernel_rfl) (congrArg Value.bool hc71) (y_move rfl) ?_
    obtain ⟨r77, hr77, hs⟩ := bind_some hs
    refine pl_cally (tg := 16) (by kernel_rfl) (congrArg Value.bool hc71) Bd89 rfl (c_impl_sameList (M := M57) x72 x63 hv74 hv66 hO.fut hr77) ?_
    rintro _ w76 ⟨rfl, hC76⟩
    have h0 := h0.ext hC76
    have hv58 := hv58.ext hC76
    have hv66 := hv66.ext hC76
    have hv74 := hv74.ext hC76
    have hMid := hMid.ext hC76
    have hC := hC.ext hC76
    have hO := hO.ext hC76
    refine pl_yes (.bool (!r77)) (tg := 16) (by kernel_rfl) (congrArg Value.bool hc71) (y_not rfl) ?_
    refine pl_val (.bool (!r77)) (y_pick_f (congrArg Value.bool hc71) rfl) ?_
    refine c_nil ?_
    cases hs
    exact ⟨_, fr_ovl 32 ⟨rfl, rfl, rfl, rfl, rfl, rfl, rfl, trivial⟩, hMid⟩
  ·rintro a1 w69 ⟨σ, rfl, hCs68⟩
   have h0 := h0.ext hCs68
   have hv58 := hv58.ext hCs68
   have hv66 := hv66.ext hCs68
   have hC := hC.ext hCs68
   have hO := hO.ext hCs68
   rcases bif_some hs with ⟨hc78, hs⟩ | ⟨hc78, hs⟩
   ·skip
    refine c_condT (congrArg Value.bool hc78) ?_
    refine c_region ?_
    refine pl_val (.slice a58 n58 c58) (y_move rfl) ?_
    refine pl_val (.slice a66 n66 c66) (y_move rfl) ?_
    obtain ⟨w79, g79, ew79, eg79, hC79, hb79⟩ := new_block w69 [(.slice a66 n66 c66)] 22
    refine pl_val (w' := w79) (.slice (some ⟨g79, 0, none⟩) 1 1) (y_bslice rfl (by rw [ew79, eg79]; kernel_rfl)) ?_
    have h0 := h0.ext hC79
    have hv58 := hv58.ext hC79
    have hv66 := hv66.ext hC79
    have hC := hC.ext hC79
    have hO := hO.new1 hC79 eg79 hb79.lt
    have hv79 := os_of_box (r := (RT.rs (RT.int .i64))) (M := M57) (css := [[(.slice a66 n66 c66)]]) (fps := [([] : List Nat)]) (xs := ([x63] : List (List Int))) hb79 ⟨(rs_unval hv66), trivial⟩ (Nat.le_of_ble_eq_true rfl) (List.nodup_cons.2 ⟨(fun h => nomatch h), List.nodup_nil⟩)
    have hv79 : (RT.os 22 (RT.rs (RT.int .i64))).val M57 w79 (.slice (some ⟨g79, 0, none⟩) 1 1) [x63] [g79] := hv79
    obtain ⟨y82, hy82, hs⟩ := bind_some hs
    have hO := hO.fr1
    obtain ⟨a81, n81, c81, w81, f81, hr81, hC81, hf81, hv81⟩ := app_os Rw41 hy82 hv58 hv79 hO.inM (fun g hg hq => hO.apart g hq (mem_l hg))
    have hG81 := os_block hv58
    refine pl_val (w' := w81) (.slice a81 n81 c81) (y_append rfl rfl (hr81 _)) ?_
    have hO := hO.fr1
    have hO := hO.fr1
    have h0 := h0.mut hC81 (fun g hg => hO.inM g (hG81 g hg)) (fun _ _ h => nomatch h)
    have hv66 := hv66.mut hC81 (fun g hg => hO.inM g (hG81 g hg)) (fun _ _ h => nomatch h)
    have hC := hC.step hC81 (fun g hg => hO.inN g (hG81 g hg))
    have hO := hO.eat hC81 hf81 (os_nodup hv81) hv81.fpl
    refine pl_val (.slice a81 n81 c81) (y_assign rfl) ?_
    refine c_nil ?_
    refine c_region ?_
    refine pl_val (.int .i64 (w64 (k53 + 1))) (y_add rfl rfl) ?_
    refine pl_val (.int .i64 (w64 (k53 + 1))) (y_move rfl) ?_
    refine c_nil ?_
    cases hs
    exact ⟨_, M57, a81, n81, c81, f81, fr_ovl 32 ⟨rfl, rfl, rfl, rfl, congrArg (Value.int .i64) hw, trivial⟩, hC, hO, hK, h0, hv81⟩
   ·skip
    refine c_condF (congrArg Value.bool hc78) ?_
    refine wp_skip ?_
    refine c_region ?_
    refine pl_val (.int .i64 (w64 (k53 + 1))) (y_add rfl rfl) ?_
    refine pl_val (.int .i64 (w64 (k53 + 1))) (y_move rfl) ?_
    refine c_nil ?_
    cases hs
    exact ⟨_, M57, a58, n58, c58, f58, fr_ovl 32 ⟨rfl, rfl, rfl, rfl, congrArg (Value.int .i64) hw, trivial⟩, hC, hO, hK, h0, hv58⟩
 ·skip
  exact ⟨_, M50, (some ⟨g2, 0, none⟩), 0, 0, f50, fr_ovl 32 ⟨rfl, rfl, rfl, rfl, rfl, trivial⟩, hC, hO, hK, h0, hv50⟩
 ·cases o55 with
  | nx _ => exact True.intro
  | rt r_ =>
   have hs := after_rt hs
   intro a1 w1 hK
   cases hs
   exact hK
  | br s51 =>
   have hs := after_br hs
   rintro a1 w52 ⟨σ, M60, a61, n61, c61, f61, rfl, hC, hO, hK, h0, hv61⟩
   refine c_seq (c_region ?_)
   refine pl_val (.slice a61 n61 c61) (y_move rfl) ?_
   refine pl_val (.slice a61 n61 c61) (y_assign rfl) ?_
   refine c_nil ?_
   refine wp_ret ?_
   cases hs
   obtain ⟨M84, eM84, hs84, hk84, hO, hv84⟩ := frz_own (Frz.os (Frz.rs Frz.int)) hv61 hO
   have hK := hK.trans hk84
   exact ⟨_, a61, n61, c61, fr_ovl 32 ⟨rfl, trivial⟩, hC, (Keeps.out hK hv84)⟩

theorem Bd119 : Bodied Try.prog 119 := bodied Try.func119 (by kernel_rfl) rfl

theorem Bd118 : Bodied Try.prog 118 := bodied Try.func118 (by kernel_rfl) rfl

def k_impl_makeRelation (M : Nat → Prop) (w0 : World) (r : (Int × (List (List Int)))) (a : Act) (w : World) : Prop :=
  ∃ (σ : Nat → Value) (rg4 : Nat) (ra0 : Option Addr) (rn0 rc0 : Nat), a = fr 10 (ovl σ [(4, (.pointer (some ⟨rg4, 0, none⟩)))]) ∧ BoxV w rg4 71 [(.int .i64 r.1), (.slice ra0 rn0 rc0)] ∧ Chg [] w0 w ∧ (RT.rs (RT.rs (RT.int .i64))).val (Past M w0 w) w (.slice ra0 rn0 rc0) r.2 []
def s_impl_makeRelation (arity : Int) (tuples : List (List Int)) : Option ((Int × (List (List Int)))) :=
  (s_impl_sortedTuples tuples).bind fun r4 =>
  (s_impl_different r4).bind fun r8 =>
  some (arity, r8)
set_option maxHeartbeats 4000000 in
theorem c_impl_makeRelation {M : Nat → Prop} {w : World} {pa0 : Option Addr} {pn0 pc0 : Nat} (arity : Int) (tuples : List (List Int)) (h0 : (RT.rs (RT.rs (RT.int .i64))).val M w (.slice pa0 pn0 pc0) tuples ([])) (hM : ∀ g, w.heap.size ≤ g → M g) {r : (Int × (List (List Int)))} (hs : s_impl_makeRelation arity tuples = some r) :
    Gives Try.prog 104 [(.int .i64 arity), (.slice pa0 pn0 pc0)] w (fun v w' => ∃ (ra0 : Option Addr) (rn0 rc0 : Nat), v = (.agg #[(.int .i64 r.1), (.slice ra0 rn0 rc0)]) ∧ Chg [] w w' ∧ (RT.rs (RT.rs (RT.int .i64))).val (Past M w w') w' (.slice ra0 rn0 rc0) r.2 []) := by
 refine calls_fr Try.func104 rfl Try.ntmps104 (Nat.le_of_ble_eq_true rfl) ?_
 have hO := Own.start (N := Nw w []) hM Nw.fut
 have hC := Chg.refl [] w
 unfold s_impl_makeRelation at hs
 refine wp_mono (Q := KPost (k_impl_makeRelation M w r)) ?_ (fun e a w1 h => ?_)
 rotate_left
 ·cases e
  case ret =>
   obtain ⟨σ, rg4, ra0, rn0, rc0, rfl, hbrg4, hrest⟩ := h
   exact ret1x Try.results104 (res_cell rfl (box_load Ag71 Sz71 hbrg4 [] _ [] rfl rfl (fun h => nomatch h))) ⟨ra0, rn0, rc0, rfl, hrest⟩
  all_goals exact (h : False).elim
 refine c_seq (c_region ?_)
 obtain ⟨w2, g2, ew2, eg2, hC2, hb2⟩ := new_block w [(.int .i64 0), (.slice none 0 0)] 71
 refine pl_val (w' := w2) (.pointer (some ⟨g2, 0, none⟩)) (y_alloc (by rw [ew2, eg2]; kernel_rfl)) ?_
 have h0 := h0.ext hC2
 have hC := hC.ext hC2
 have hO := hO.new1 hC2 eg2 hb2.lt
 refine c_nil ?_
 refine c_seq (c_region ?_)
 refine pl_val (.int .i64 arity) (y_move rfl) ?_
 refine pl_val (.slice pa0 pn0 pc0) (y_move rfl) ?_
 obtain ⟨r4, hr4, hs⟩ := bind_some hs
 refine pl_call Bd119 rfl (c_impl_sortedTuples (M := M) tuples h0 hO.fut hr4) ?_
 rintro _ w3 ⟨a3x0, n3x0, c3x0, f3x0, rfl, hC3, hv3x0, hOc3⟩
 have h0 := h0.ext hC3
 have hb2 := hb2.chg hC3 (fun h => nomatch h)
 have hC := hC.ext hC3
 have hO := Own.join0 hO hC3 hOc3
 have hO := hO.perm (R := f3x0 ++ (([g2]) ++ ([]))) (by simp)
 obtain ⟨M7, eM7, hs7, hk7, hO, hv7⟩ := frz_own (Frz.os (Frz.os Frz.int)) hv3x0 hO
 have h0 := h0.sub (M' := M7) hs7
 have hK := hk7
 obtain ⟨r8, hr8, hs⟩ := bind_some hs
 refine pl_call Bd118 rfl (c_impl_different (M := M7) r4 hv7 hO.fut hr8) ?_
 rintro _ w6 ⟨a6x0, n6x0, c6x0, rfl, hC6, hv6x0⟩
 have hK := hK.trans (show Keeps w M7 (Past M7 w3 w6) from Keeps.past hC.size)
 have h0 := h0.ext hC6
 have hb2 := hb2.chg hC6 (fun h => nomatch h)
 have hv7 := hv7.ext hC6
 have hC := hC.ext hC6
 have hO := hO.past hC6
 have h0 := h0.sub (M' := (Past M7 w3 w6)) (fun g hg => .inl hg.1)
 have hv7 := hv7.sub (M' := (Past M7 w3 w6)) (fun g hg => .inl hg.1)
 refine pl_val (.agg #[(.int .i64 arity), (.slice a6x0 n6x0 c6x0)]) (y_build rfl (by kernel_rfl)) ?_
 obtain ⟨w10, hst10, hC10, hb10⟩ := box_store (P := Try.prog) hb2 [] [(.int .i64 0), (.slice none 0 0)] [] [(.int .i64 arity), (.slice a6x0 n6x0 c6x0)] rfl rfl (by intro u hu; simp only [List.mem_cons, List.not_mem_nil, or_false] at hu; rcases hu with rfl | rfl <;> rfl)
 refine pl_skip (w' := w10) (ys_store rfl rfl (hst10 _ _ rfl Sz71)) ?_
 have h0 := h0.mut hC10 (fun g hg => hO.inM g ((fun _ h => h) g hg)) (fun _ _ h => nomatch h)
 have hv7 := hv7.mut hC10 (fun g hg => hO.inM g ((fun _ h => h) g hg)) (fun _ _ h => nomatch h)
 have hv6x0 := hv6x0.mut hC10 (fun g hg => hO.inM g ((fun _ h => h) g hg)) (fun _ _ h => nomatch h)
 have hC := hC.step hC10 (fun g hg => hO.inN g ((fun _ h => h) g hg))
 have hO := hO.ext hC10
 have hb10 : BoxV w10 g2 71 [(.int .i64 arity), (.slice a6x0 n6x0 c6x0)] := hb10
 refine c_nil ?_
 refine wp_ret ?_
 cases hs
 exact ⟨_, g2, a6x0, n6x0, c6x0, fr_ovl 10 ⟨rfl, trivial⟩, hb10, hC, (Keeps.out hK hv6x0)⟩

theorem Bd104 : Bodied Try.prog 104 := bodied Try.func104 (by kernel_rfl) rfl

def k_impl_composeRelations (M : Nat → Prop) (w0 : World) (r : (Int × (List (List Int)))) (a : Act) (w : World) : Prop :=
  ∃ (σ : Nat → Value) (rg4 : Nat) (ra0 : Option Addr) (rn0 rc0 : Nat), a = fr 46 (ovl σ [(4, (.pointer (some ⟨rg4, 0, none⟩)))]) ∧ BoxV w rg4 71 [(.int .i64 r.1), (.slice ra0 rn0 rc0)] ∧ Chg [] w0 w ∧ (RT.rs (RT.rs (RT.int .i64))).val (Past M w0 w) w (.slice ra0 rn0 rc0) r.2 []
def s_impl_composeRelations (r_ : Int × (List (List Int))) (s_ : Int × (List (List Int))) : Option ((Int × (List (List Int)))) :=
  (forR (S := (List (List Int))) (R := (Int × (List (List Int)))) (fun _ x80 s77 =>
  (forR (S := (List (List Int))) (R := (Int × (List (List Int)))) (fun _ x121 s118 =>
  (idx x80 1).bind fun x137 =>
  (idx x121 0).bind fun x139 =>
  (bif (x137 == x139) then (idx x80 0).bind fun x143 =>
  (idx x121 1).bind fun x145 =>
  (app s118 ([[x143, x145]])).bind fun y152 =>
  some (.nx y152) else some (.nx s118))) 0 s_.2 s77).bind fun o122 => after o122 (fun r_ => some (.rt r_)) (fun s118 =>
  some (.nx s118))) 0 r_.2 ([])).bind fun o81 => after o81 (fun r_ => some r_) (fun s77 =>
  (s_impl_makeRelation 2 s77).bind fun r156 =>
  some (r156.1, r156.2))
set_option maxHeartbeats 4000000 in
theorem c_impl_composeRelations {M : Nat → Prop} {w : World} {pa0 : Option Addr} {pn0 pc0 : Nat} {pa1 : Option Addr} {pn1 pc1 : Nat} (r_ : Int × (List (List Int))) (s_ : Int × (List (List Int))) (h0 : (RT.rs (RT.rs (RT.int .i64))).val M w (.slice pa0 pn0 pc0) r_.2 ([])) (h1 : (RT.rs (RT.rs (RT.int .i64))).val M w (.slice pa1 pn1 pc1) s_.2 ([])) (hM : ∀ g, w.heap.size ≤ g → M g) {r : (Int × (List (List Int)))} (hs : s_impl_composeRelations r_ s_ = some r) :
    Gives Try.prog 79 [(.agg #[(.int .i64 r_.1), (.slice pa0 pn0 pc0)]), (.agg #[(.int .i64 s_.1), (.slice pa1 pn1 pc1)])] w (fun v w' => ∃ (ra0 : Option Addr) (rn0 rc0 : Nat), v = (.agg #[(.int .i64 r.1), (.slice ra0 rn0 rc0)]) ∧ Chg [] w w' ∧ (RT.rs (RT.rs (RT.int .i64))).val (Past M w w') w' (.slice ra0 rn0 rc0) r.2 []) := by
 refine calls_fr Try.func79 rfl Try.ntmps79 (Nat.le_of_ble_eq_true rfl) ?_
 have hO := Own.start (N := Nw w []) hM Nw.fut
 have hC := Chg.refl [] w
 unfold s_impl_composeRelations at hs
 refine wp_mono (Q := KPost (k_impl_composeRelations M w r)) ?_ (fun e a w1 h => ?_)
 rotate_left
 ·cases e
  case ret =>
   obtain ⟨σ, rg4, ra0, rn0, rc0, rfl, hbrg4, hrest⟩ := h
   exact ret1x Try.results79 (res_cell rfl (box_load Ag71 Sz71 hbrg4 [] _ [] rfl rfl (fun h => nomatch h))) ⟨ra0, rn0, rc0, rfl, hrest⟩
  all_goals exact (h : False).elim
 refine c_seq (c_region ?_)
 obtain ⟨w3, g3, ew3, eg3, hC3, hb3⟩ := new_block w [(.int .i64 r_.1), (.slice pa0 pn0 pc0)] 71
 refine pl_val (w' := w3) (.pointer (some ⟨g3, 0, none⟩)) (y_box rfl (by rw [ew3, eg3]; kernel_rfl)) ?_
 have h0 := h0.ext hC3
 have h1 := h1.ext hC3
 have hC := hC.ext hC3
 have hO := hO.new1 hC3 eg3 hb3.lt
 obtain ⟨w4, g4, ew4, eg4, hC4, hb4⟩ := new_block w3 [(.int .i64 s_.1), (.slice pa1 pn1 pc1)] 71
 refine pl_val (w' := w4) (.pointer (some ⟨g4, 0, none⟩)) (y_box rfl (by rw [ew4, eg4]; kernel_rfl)) ?_
 have h0 := h0.ext hC4
 have h1 := h1.ext hC4
 have hb3 := hb3.chg hC4 (fun h => nomatch h)
 have hC := hC.ext hC4
 have hO := hO.new1 hC4 eg4 hb4.lt
 obtain ⟨w5, g5, ew5, eg5, hC5, hb5⟩ := new_block w4 [(.int .i64 0), (.slice none 0 0)] 71
 refine pl_val (w' := w5) (.pointer (some ⟨g5, 0, none⟩)) (y_alloc (by rw [ew5, eg5]; kernel_rfl)) ?_
 have h0 := h0.ext hC5
 have h1 := h1.ext hC5
 have hb3 := hb3.chg hC5 (fun h => nomatch h)
 have hb4 := hb4.chg hC5 (fun h => nomatch h)
 have hC := hC.ext hC5
 have hO := hO.new1 hC5 eg5 hb5.lt
 refine c_nil ?_
 refine c_seq (c_region ?_)
 obtain ⟨w6, g6, ew6, eg6, hC6, hb6⟩ := new_block w5 [] 22
 refine pl_val (w' := w6) (.slice (some ⟨g6, 0, none⟩) 0 0) (y_bslice rfl (by rw [ew6, eg6]; kernel_rfl)) ?_
 have h0 := h0.ext hC6
 have h1 := h1.ext hC6
 have hb3 := hb3.chg hC6 (fun h => nomatch h)
 have hb4 := hb4.chg hC6 (fun h => nomatch h)
 have hb5 := hb5.chg hC6 (fun h => nomatch h)
 have hC := hC.ext hC6
 have hO := hO.new1 hC6 eg6 hb6.lt
 have hv6 := os_of_box (r := (RT.os 3 (RT.int .i64))) (M := M) (css := []) (fps := []) (xs := ([] : List (List Int))) hb6 trivial (Nat.zero_le _) (List.nodup_cons.2 ⟨(fun h => nomatch h), List.nodup_nil⟩)
 have hv6 : (RT.os 22 (RT.os 3 (RT.int .i64))).val M w6 (.slice (some ⟨g6, 0, none⟩) 0 0) [] [g6] := hv6
 refine pl_val (.slice (some ⟨g6, 0, none⟩) 0 0) (y_assign rfl) ?_
 refine c_nil ?_
 refine c_seq ?_
 refine c_seq (c_region ?_)
 refine pl_val (.pointer (some ⟨g3, 1, none⟩)) (y_faddr rfl Fa71x1) ?_
 refine pl_val (.slice pa0 pn0 pc0) (y_load rfl ((box_load Ag41 Sz41 hb3 [(.int .i64 r_.1)] [(.slice pa0 pn0 pc0)] [] rfl rfl (fun _ => rfl)) _ (Chg.refl _ _))) ?_
 refine pl_val (.int .i64 (r_.2.length : Int)) (y_len' Sl41 (rs_len h0) rfl) ?_
 refine pl_val (.int .i64 0) (y_move rfl) ?_
 refine c_nil ?_
 have hO := hO.fr3
 have hO := hO.drop
 obtain ⟨o81, hl82, hs⟩ := bind_some hs
 refine wp_block ?_
 refine wp_forR (id := 0) (I := fun i_ xs_ s77 a w78 => ∃ k79 : Nat, i_ = (k79 : Int) ∧ List.drop k79 r_.2 = xs_ ∧ (∃ (σ : Nat → Value) (a83 : Option Addr) (n83 : Nat) (c83 : Nat) (f83 : List Nat), a = fr 46 (ovl σ [(3, (.pointer (some ⟨g4, 0, none⟩))), (4, (.pointer (some ⟨g5, 0, none⟩))), (5, (.slice a83 n83 c83)), (12, (.slice pa0 pn0 pc0)), (13, (.int .i64 (r_.2.length : Int))), (14, (.int .i64 (k79 : Int)))]) ∧ Chg [] w w78 ∧ Own (Nw w []) M w78 (f83 ++ (([g5]) ++ (([g4]) ++ []))) ∧ (RT.rs (RT.rs (RT.int .i64))).val M w78 (.slice pa0 pn0 pc0) r_.2 ([]) ∧ (RT.rs (RT.rs (RT.int .i64))).val M w78 (.slice pa1 pn1 pc1) s_.2 ([]) ∧ BoxV w78 g4 71 [(.int .i64 s_.1), (.slice pa1 pn1 pc1)] ∧ BoxV w78 g5 71 [(.int .i64 0), (.slice none 0 0)] ∧ (RT.os 22 (RT.os 3 (RT.int .i64))).val M w78 (.slice a83 n83 c83) s77 f83)) (J := fun s77 a w78 => ∃ (σ : Nat → Value) (a85 : Option Addr) (n85 : Nat) (c85 : Nat) (f85 : List Nat), a = fr 46 (ovl σ [(4, (.pointer (some ⟨g5, 0, none⟩))), (5, (.slice a85 n85 c85))]) ∧ Chg [] w w78 ∧ Own (Nw w []) M w78 (f85 ++ (([g5]) ++ (([g4]) ++ []))) ∧ (RT.rs (RT.rs (RT.int .i64))).val M w78 (.slice pa0 pn0 pc0) r_.2 ([]) ∧ (RT.rs (RT.rs (RT.int .i64))).val M w78 (.slice pa1 pn1 pc1) s_.2 ([]) ∧ BoxV w78 g4 71 [(.int .i64 s_.1), (.slice pa1 pn1 pc1)] ∧ BoxV w78 g5 71 [(.int .i64 0), (.slice none 0 0)] ∧ (RT.os 22 (RT.os 3 (RT.int .i64))).val M w78 (.slice a85 n85 c85) s77 f85) (K := (k_impl_composeRelations M w)) ?_ ?_ r_.2 0 ([]) o81 _ _ ?_ hl82 ?_
 ·rintro _ s77 a w78 ⟨k79, rfl, hd, σ, a83, n83, c83, f83, rfl, hC, hO, h0, h1, hb4, hb5, hv83⟩
  have hlt := drop_nil_ge hd
  refine c_seq (c_region ?_)
  refine pl_val (.bool (decide ((k79 : Int) < (r_.2.length : Int)))) (y_lss rfl rfl) ?_
  refine c_nil ?_
  refine c_seq ?_
  refine c_condF (congrArg Value.bool (decide_eq_false hlt)) ?_
  refine wp_exit ?_
  have hO := hO.fr2
  have hO := hO.fr2
  have hO := hO.fr2
  exact ⟨rfl, _, a83, n83, c83, f83, fr_ovl 46 ⟨rfl, rfl, trivial⟩, hC, hO, h0, h1, hb4, hb5, hv83⟩
 ·rintro _ x80 xs_ s77 o81 a w78 ⟨k79, rfl, hd, σ, a83, n83, c83, f83, rfl, hC, hO, h0, h1, hb4, hb5, hv83⟩ hs
  have hlt := drop_cons_lt hd
  have hxk79 := drop_cons_idx hd
  refine c_seq (c_region ?_)
  refine pl_val (.bool (decide ((k79 : Int) < (r_.2.length : Int)))) (y_lss rfl rfl) ?_
  refine c_nil ?_
  refine c_seq ?_
  refine c_condT (congrArg Value.bool (decide_eq_true hlt)) ?_
  refine wp_skip ?_
  refine c_seq ?_
  refine wp_block ?_
  refine c_seq (c_region ?_)
  obtain ⟨b87, o87, hp87, ha87⟩ := rs_idx Sl41 Sz22 h0 hxk79
  refine pl_val (.pointer (some ⟨b87, o87, none⟩)) (hp87 _ _ _ _ _ _ _ _ _ rfl rfl) ?_
  obtain ⟨v88, hl88, hv88⟩ := at_load Ag22 Sz22 (fun _ => rfl) ha87
  obtain ⟨a88, n88, c88, rfl⟩ := rs_sl hv88
  refine pl_val (.slice a88 n88 c88) (y_load rfl (hl88 _ (Chg.refl _ _))) ?_
  refine pl_val (.slice a88 n88 c88) (y_assign rfl) ?_
  refine c_nil ?_
  refine c_seq (c_region ?_)
  refine pl_val (.pointer (some ⟨g4, 1, none⟩)) (y_faddr rfl Fa71x1) ?_
  refine pl_val (.slice pa1 pn1 pc1) (y_load rfl ((box_load Ag41 Sz41 hb4 [(.int .i64 s_.1)] [(.slice pa1 pn1 pc1)] [] rfl rfl (fun _ => rfl)) _ (Chg.refl _ _))) ?_
  refine pl_val (.int .i64 (s_.2.length : Int)) (y_len' Sl41 (rs_len h1) rfl) ?_
  refine pl_val (.int .i64 0) (y_move rfl) ?_
  refine c_nil ?_
  obtain ⟨o122, hl123, hs⟩ := bind_some hs
  refine wp_block ?_
  refine wp_forR (id := 2) (I := fun i_ xs_ s118 a w119 => ∃ k120 : Nat, i_ = (k120 : Int) ∧ List.drop k120 s_.2 = xs_ ∧ (∃ (σ : Nat → Value) (a124 : Option Addr) (n124 : Nat) (c124 : Nat) (f124 : List Nat), a = fr 46 (ovl σ [(3, (.pointer (some ⟨g4, 0, none⟩))), (4, (.pointer (some ⟨g5, 0, none⟩))), (5, (.slice a124 n124 c124)), (7, (.slice a88 n88 c88)), (12, (.slice pa0 pn0 pc0)), (13, (.int .i64 (r_.2.length : Int))), (14, (.int .i64 (k79 : Int))), (19, (.slice pa1 pn1 pc1)), (20, (.int .i64 (s_.2.length : Int))), (21, (.int .i64 (k120 : Int)))]) ∧ Chg [] w w119 ∧ Own (Nw w []) M w119 (f124 ++ (([g5]) ++ (([g4]) ++ []))) ∧ (RT.rs (RT.rs (RT.int .i64))).val M w119 (.slice pa0 pn0 pc0) r_.2 ([]) ∧ (RT.rs (RT.rs (RT.int .i64))).val M w119 (.slice pa1 pn1 pc1) s_.2 ([]) ∧ BoxV w119 g4 71 [(.int .i64 s_.1), (.slice pa1 pn1 pc1)] ∧ BoxV w119 g5 71 [(.int .i64 0), (.slice none 0 0)] ∧ (RT.rs (RT.int .i64)).val M w119 (.slice a88 n88 c88) x80 ([]) ∧ (RT.os 22 (RT.os 3 (RT.int .i64))).val M w119 (.slice a124 n124 c124) s118 f124)) (J := fun s118 a w119 => ∃ (σ : Nat → Value) (a126 : Option Addr) (n126 : Nat) (c126 : Nat) (f126 : List Nat), a = fr 46 (ovl σ [(3, (.pointer (some ⟨g4, 0, none⟩))), (4, (.pointer (some ⟨g5, 0, none⟩))), (5, (.slice a126 n126 c126)), (12, (.slice pa0 pn0 pc0)), (13, (.int .i64 (r_.2.length : Int))), (14, (.int .i64 (k79 : Int)))]) ∧ Chg [] w w119 ∧ Own (Nw w []) M w119 (f126 ++ (([g5]) ++ (([g4]) ++ []))) ∧ (RT.rs (RT.rs (RT.int .i64))).val M w119 (.slice pa0 pn0 pc0) r_.2 ([]) ∧ (RT.rs (RT.rs (RT.int .i64))).val M w119 (.slice pa1 pn1 pc1) s_.2 ([]) ∧ BoxV w119 g4 71 [(.int .i64 s_.1), (.slice pa1 pn1 pc1)] ∧ BoxV w119 g5 71 [(.int .i64 0), (.slice none 0 0)] ∧ (RT.rs (RT.int .i64)).val M w119 (.slice a88 n88 c88) x80 ([]) ∧ (RT.os 22 (RT.os 3 (RT.int .i64))).val M w119 (.slice a126 n126 c126) s118 f126) (K := (k_impl_composeRelations M w)) ?_ ?_ s_.2 0 s77 o122 _ _ ?_ hl123 ?_
  ·rintro _ s118 a w119 ⟨k120, rfl, hd, σ, a124, n124, c124, f124, rfl, hC, hO, h0, h1, hb4, hb5, hv88, hv124⟩
   have hlt := drop_nil_ge hd
   refine c_seq (c_region ?_)
   refine pl_val (.bool (decide ((k120 : Int) < (s_.2.length : Int)))) (y_lss rfl rfl) ?_
   refine c_nil ?_
   refine c_seq ?_
   refine c_condF (congrArg Value.bool (decide_eq_false hlt)) ?_
   refine wp_exit ?_
   have hO := hO.fr2
   have hO := hO.fr2
   have hO := hO.fr2
   exact ⟨rfl, _, a124, n124, c124, f124, fr_ovl 46 ⟨rfl, rfl, rfl, rfl, rfl, rfl, trivial⟩, hC, hO, h0, h1, hb4, hb5, hv88, hv124⟩
  ·rintro _ x121 xs_ s118 o122 a w119 ⟨k120, rfl, hd, σ, a124, n124, c124, f124, rfl, hC, hO, h0, h1, hb4, hb5, hv88, hv124⟩ hs
   have hlt := drop_cons_lt hd
   have hxk120 := drop_cons_idx hd
   refine c_seq (c_region ?_)
   refine pl_val (.bool (decide ((k120 : Int) < (s_.2.length : Int)))) (y_lss rfl rfl) ?_
   refine c_nil ?_
   refine c_seq ?_
   refine c_condT (congrArg Value.bool (decide_eq_true hlt)) ?_
   refine wp_skip ?_
   refine c_seq ?_
   refine wp_block ?_
   refine c_seq (c_region ?_)
   obtain ⟨b128, o128, hp128, ha128⟩ := rs_idx Sl41 Sz22 h1 hxk120
   refine pl_val (.pointer (some ⟨b128, o128, none⟩)) (hp128 _ _ _ _ _ _ _ _ _ rfl rfl) ?_
   obtain ⟨v129, hl129, hv129⟩ := at_load Ag22 Sz22 (fun _ => rfl) ha128
   obtain ⟨a129, n129, c129, rfl⟩ := rs_sl hv129
   refine pl_val (.slice a129 n129 c129) (y_load rfl (hl129 _ (Chg.refl _ _))) ?_
   refine pl_val (.slice a129 n129 c129) (y_assign rfl) ?_
   refine c_nil ?_
   refine c_seq ?_
   refine x_start [] Mx rfl ?_
   have hCw136 := Chg.drew w119
   generalize World.drew w119 = w136 at hCw136 ⊢
   have h0 := h0.ext hCw136
   have h1 := h1.ext hCw136
   have hb4 := hb4.chg hCw136 (fun h => nomatch h)
   have hb5 := hb5.chg hCw136 (fun h => nomatch h)
   have hv88 := hv88.ext hCw136
   have hv124 := hv124.ext hCw136
   have hv129 := hv129.ext hCw136
   have hC := hC.ext hCw136
   have hO := hO.ext hCw136
   have hS := Chg.refl [] w136
   refine x_p 0 (.slice a88 n88 c88) rfl (by kernel_rfl)  (fun _ => y_move rfl) (fun _ => hS) ?_
   obtain ⟨x137, hx137, hs⟩ := bind_some hs
   obtain ⟨b138, o138, hp138, ha138⟩ := rs_idx Sl22 Sz3 hv88 hx137
   refine x_p 1 (.pointer (some ⟨b138, o138, none⟩)) rfl (by kernel_rfl)  (fun _ => hp138 _ _ _ _ _ _ _ _ _ rfl rfl) (fun _ => hS) ?_
   refine x_l 2 (.int .i64 x137) rfl (by kernel_rfl)  (fun w' hw' => y_load rfl ((at_load_int Ag3 Sz3 ha138) w' hw')) hS ?_
   refine x_p 3 (.slice a129 n129 c129) rfl (by kernel_rfl)  (fun _ => y_move rfl) (fun _ => hS) ?_
   obtain ⟨x139, hx139, hs⟩ := bind_some hs
   obtain ⟨b140, o140, hp140, ha140⟩ := rs_idx Sl22 Sz3 hv129 hx139
   refine x_p 4 (.pointer (some ⟨b140, o140, none⟩)) rfl (by kernel_rfl)  (fun _ => hp140 _ _ _ _ _ _ _ _ _ rfl rfl) (fun _ => hS) ?_
   refine x_l 5 (.int .i64 x139) rfl (by kernel_rfl)  (fun w' hw' => y_load rfl ((at_load_int Ag3 Sz3 ha140) w' hw')) hS ?_
   refine x_p 6 (.bool (x137 == x139)) rfl (by kernel_rfl)  (fun _ => y_eql rfl rfl) (fun _ => hS) ?_
   refine x_end (by kernel_rfl) ?_
   clear hS
   rcases bif_some hs with ⟨hc141, hs⟩ | ⟨hc141, hs⟩
   ·skip
    refine c_condT (congrArg Value.bool hc141) ?_
    refine x_start [9] Mx rfl ?_
    have hCw142 := Chg.drew w136
    generalize World.drew w136 = w142 at hCw142 ⊢
    have h0 := h0.ext hCw142
    have h1 := h1.ext hCw142
    have hb4 := hb4.chg hCw142 (fun h => nomatch h)
    have hb5 := hb5.chg hCw142 (fun h => nomatch h)
    have hv88 := hv88.ext hCw142
    have hv124 := hv124.ext hCw142
    have hv129 := hv129.ext hCw142
    have hC := hC.ext hCw142
    have hO := hO.ext hCw142
    have hS := Chg.refl [] w142
    refine x_p 0 (.slice a124 n124 c124) rfl (by kernel_rfl)  (fun _ => y_move rfl) (fun _ => hS) ?_
    refine x_p 1 (.slice a88 n88 c88) rfl (by kernel_rfl)  (fun _ => y_move rfl) (fun _ => hS) ?_
    obtain ⟨x143, hx143, hs⟩ := bind_some hs
    obtain ⟨b144, o144, hp144, ha144⟩ := rs_idx Sl22 Sz3 hv88 hx143
    refine x_p 2 (.pointer (some ⟨b144, o144, none⟩)) rfl (by kernel_rfl)  (fun _ => hp144 _ _ _ _ _ _ _ _ _ rfl rfl) (fun _ => hS) ?_
    refine x_l 3 (.int .i64 x143) rfl (by kernel_rfl)  (fun w' hw' => y_load rfl ((at_load_int Ag3 Sz3 ha144) w' hw')) hS ?_
    refine x_p 4 (.slice a129 n129 c129) rfl (by kernel_rfl)  (fun _ => y_move rfl) (fun _ => hS) ?_
    obtain ⟨x145, hx145, hs⟩ := bind_some hs
    obtain ⟨b146, o146, hp146, ha146⟩ := rs_idx Sl22 Sz3 hv129 hx145
    refine x_p 5 (.pointer (some ⟨b146, o146, none⟩)) rfl (by kernel_rfl)  (fun _ => hp146 _ _ _ _ _ _ _ _ _ rfl rfl) (fun _ => hS) ?_
    refine x_l 6 (.int .i64 x145) rfl (by kernel_rfl)  (fun w' hw' => y_load rfl ((at_load_int Ag3 Sz3 ha146) w' hw')) hS ?_
    refine x_one (i := 7) (by kernel_rfl) ?_
    obtain ⟨w147, g147, ew147, eg147, hC147, hb147⟩ := new_block w142 [(.int .i64 x143), (.int .i64 x145)] 3
    refine xk_val (w' := w147) (b := false) (.slice (some ⟨g147, 0, none⟩) 2 2) rfl  (y_bslice rfl (by rw [ew147, eg147]; kernel_rfl)) rfl (fun _ => hS.ext hC147) ?_
    have h0 := h0.ext hC147
    have h1 := h1.ext hC147
    have hb4 := hb4.chg hC147 (fun h => nomatch h)
    have hb5 := hb5.chg hC147 (fun h => nomatch h)
    have hv88 := hv88.ext hC147
    have hv124 := hv124.ext hC147
    have hv129 := hv129.ext hC147
    have hC := hC.ext hC147
    have hO := hO.new1 hC147 eg147 hb147.lt
    have hv147 := os_of_box (r := (RT.int .i64)) (M := M) (css := [[(.int .i64 x143)], [(.int .i64 x145)]]) (fps := [([] : List Nat), ([] : List Nat)]) (xs := ([x143, x145] : List Int)) hb147 ⟨⟨rfl, rfl⟩, ⟨⟨rfl, rfl⟩, trivial⟩⟩ (Nat.le_of_ble_eq_true rfl) (List.nodup_cons.2 ⟨(fun h => nomatch h), List.nodup_nil⟩)
    have hv147 : (RT.os 3 (RT.int .i64)).val M w147 (.slice (some ⟨g147, 0, none⟩) 2 2) [x143, x145] [g147] := hv147
    have hS := hS.ext hC147
    refine x_one (i := 8) (by kernel_rfl) ?_
    obtain ⟨w149, g149, ew149, eg149, hC149, hb149⟩ := new_block w147 [(.slice (some ⟨g147, 0, none⟩) 2 2)] 22
    refine xk_val (w' := w149) (b := false) (.slice (some ⟨g149, 0, none⟩) 1 1) rfl  (y_bslice rfl (by rw [ew149, eg149]; kernel_rfl)) rfl (fun _ => hS.ext hC149) ?_
    have h0 := h0.ext hC149
    have h1 := h1.ext hC149
    have hb4 := hb4.chg hC149 (fun h => nomatch h)
    have hb5 := hb5.chg hC149 (fun h => nomatch h)
    have hv88 := hv88.ext hC149
    have hv124 := hv124.ext hC149
    have hv129 := hv129.ext hC149
    have hv147 := hv147.ext hC149
    have hC := hC.ext hC149
    have hO := hO.new1 hC149 eg149 hb149.lt
    have hO := hO.perm (R := (g149 :: ((([g147])) ++ ([]))) ++ (f124 ++ (([g5]) ++ (([g4]) ++ ([]))))) (by simp)
    have hnd149 := hO.nd
    have hv149 := os_of_box (r := (RT.os 3 (RT.int .i64))) (M := M) (css := [[(.slice (some ⟨g147, 0, none⟩) 2 2)]]) (fps := [([g147] : List Nat)]) (xs := ([[x143, x145]] : List (List Int))) hb149 ⟨(os_unval hv147), trivial⟩ (Nat.le_of_ble_eq_true rfl) hnd149
    have hv149 : (RT.os 22 (RT.os 3 (RT.int .i64))).val M w149 (.slice (some ⟨g149, 0, none⟩) 1 1) [[x143, x145]] (g149 :: ((([g147])) ++ ([]))) := hv149
    have hS := hS.ext hC149
    refine x_one (i := 9) (by kernel_rfl) ?_
    obtain ⟨y152, hy152, hs⟩ := bind_some hs
    have hO := hO.fr1
    obtain ⟨a151, n151, c151, w151, f151, hr151, hC151, hf151, hv151⟩ := app_os Rw41 hy152 hv124 hv149 hO.inM (fun g hg hq => hO.apart g hq (mem_l hg))
    have hG151 := os_block hv124
    refine xk_val (w' := w151) (b := true) (.slice a151 n151 c151) rfl  (y_append rfl rfl (hr151 _)) rfl (fun h => nomatch h) ?_
    have hO := hO.fr1
    have hO := hO.fr1
    have h0 := h0.mut hC151 (fun g hg => hO.inM g (hG151 g hg)) (fun _ _ h => nomatch h)
    have h1 := h1.mut hC151 (fun g hg => hO.inM g (hG151 g hg)) (fun _ _ h => nomatch h)
    have hb4 := hb4.chg hC151 (fun hg => hO.apart _ (hG151 _ hg) (mem_r (mem_r (mem_l (List.mem_singleton.2 rfl)))))
    have hb5 := hb5.chg hC151 (fun hg => hO.apart _ (hG151 _ hg) (mem_r (mem_l (List.mem_singleton.2 rfl))))
    have hv88 := hv88.mut hC151 (fun g hg => hO.inM g (hG151 g hg)) (fun _ _ h => nomatch h)
    have hv129 := hv129.mut hC151 (fun g hg => hO.inM g (hG151 g hg)) (fun _ _ h => nomatch h)
    have hC := hC.step hC151 (fun g hg => hO.inN g (hG151 g hg))
    have hO := hO.eat hC151 hf151 (os_nodup hv151) hv151.fpl
    refine x_p 10 (.slice a151 n151 c151) rfl (by kernel_rfl)  (fun _ => y_assign rfl) (fun h => nomatch h) ?_
    refine x_end (by kernel_rfl) ?_
    clear hS
    refine c_region ?_
    refine pl_val (.int .i64 (w64 ((k120 : Int) + 1))) (y_add rfl rfl) ?_
    refine pl_val (.int .i64 (w64 ((k120 : Int) + 1))) (y_move rfl) ?_
    refine c_nil ?_
    cases hs
    have hO := hO.fr2
    have hO := hO.fr2
    have hO := hO.fr2
    exact ⟨_, rfl, drop_cons_next hd, _, a151, n151, c151, f151, fr_ovl 46 ⟨rfl, rfl, rfl, rfl, rfl, rfl, rfl, rfl, rfl, congrArg (Value.int .i64) (w64_succ hlt (Int.natCast_nonneg _) (rs_max h1)), trivial⟩, hC, hO, h0, h1, hb4, hb5, hv88, hv151⟩
   ·skip
    refine c_condF (congrArg Value.bool hc141) ?_
    refine wp_skip ?_
    refine c_region ?_
    refine pl_val (.int .i64 (w64 ((k120 : Int) + 1))) (y_add rfl rfl) ?_
    refine pl_val (.int .i64 (w64 ((k120 : Int) + 1))) (y_move rfl) ?_
    refine c_nil ?_
    cases hs
    have hO := hO.fr2
    have hO := hO.fr2
    have hO := hO.fr2
    exact ⟨_, rfl, drop_cons_next hd, _, a124, n124, c124, f124, fr_ovl 46 ⟨rfl, rfl, rfl, rfl, rfl, rfl, rfl, rfl, rfl, congrArg (Value.int .i64) (w64_succ hlt (Int.natCast_nonneg _) (rs_max h1)), trivial⟩, hC, hO, h0, h1, hb4, hb5, hv88, hv124⟩
  ·skip
   have hO := hO.fr2
   have hO := hO.fr2
   have hO := hO.fr2
   exact ⟨0, rfl, rfl, _, a83, n83, c83, f83, fr_ovl 46 ⟨rfl, rfl, rfl, rfl, rfl, rfl, rfl, rfl, rfl, rfl, trivial⟩, hC, hO, h0, h1, hb4, hb5, hv88, hv83⟩
  ·cases o122 with
   | nx _ => exact True.intro
   | rt r_ =>
    have hs := after_rt hs
    intro a1 w1 hK
    cases hs
    exact hK
   | br s118 =>
    have hs := after_br hs
    rintro a1 w119 ⟨σ, a126, n126, c126, f126, rfl, hC, hO, h0, h1, hb4, hb5, hv88, hv126⟩
    refine c_region ?_
    refine pl_val (.int .i64 (w64 ((k79 : Int) + 1))) (y_add rfl rfl) ?_
    refine pl_val (.int .i64 (w64 ((k79 : Int) + 1))) (y_move rfl) ?_
    refine c_nil ?_
    cases hs
    have hO := hO.fr2
    have hO := hO.fr2
    have hO := hO.fr2
    exact ⟨_, rfl, drop_cons_next hd, _, a126, n126, c126, f126, fr_ovl 46 ⟨rfl, rfl, rfl, rfl, rfl, congrArg (Value.int .i64) (w64_succ hlt (Int.natCast_nonneg _) (rs_max h0)), trivial⟩, hC, hO, h0, h1, hb4, hb5, hv126⟩
 ·skip
  have hO := hO.fr2
  have hO := hO.fr2
  have hO := hO.fr2
  exact ⟨0, rfl, rfl, _, (some ⟨g6, 0, none⟩), 0, 0, ([g6]), fr_ovl 46 ⟨rfl, rfl, rfl, rfl, rfl, rfl, trivial⟩, hC, hO, h0, h1, hb4, hb5, hv6⟩
 ·cases o81 with
  | nx _ => exact True.intro
  | rt r_ =>
   have hs := after_rt hs
   intro a1 w1 hK
   cases hs
   exact hK
  | br s77 =>
   have hs := after_br hs
   rintro a1 w78 ⟨σ, a85, n85, c85, f85, rfl, hC, hO, h0, h1, hb4, hb5, hv85⟩
   refine c_seq (c_region ?_)
   refine pl_val (.slice a85 n85 c85) (y_move rfl) ?_
   obtain ⟨M155, eM155, hs155, hk155, hO, hv155⟩ := frz_own (Frz.os (Frz.os Frz.int)) hv85 hO
   have h0 := h0.sub (M' := M155) hs155
   have h1 := h1.sub (M' := M155) hs155
   have hK := hk155
   obtain ⟨r156, hr156, hs⟩ := bind_some hs
   refine pl_call Bd104 rfl (c_impl_makeRelation (M := M155) 2 s77 hv155 hO.fut hr156) ?_
   rintro _ w154 ⟨a154x0, n154x0, c154x0, rfl, hC154, hv154x0⟩
   have hK := hK.trans (show Keeps w M155 (Past M155 w78 w154) from Keeps.past hC.size)
   have h0 := h0.ext hC154
   have h1 := h1.ext hC154
   have hb4 := hb4.chg hC154 (fun h => nomatch h)
   have hb5 := hb5.chg hC154 (fun h => nomatch h)
   have hv155 := hv155.ext hC154
   have hC := hC.ext hC154
   have hO := hO.past hC154
   have h0 := h0.sub (M' := (Past M155 w78 w154)) (fun g hg => .inl hg.1)
   have h1 := h1.sub (M' := (Past M155 w78 w154)) (fun g hg => .inl hg.1)
   have hv155 := hv155.sub (M' := (Past M155 w78 w154)) (fun g hg => .inl hg.1)
   obtain ⟨w158, hst158, hC158, hb158⟩ := box_store (P := Try.prog) hb5 [] [(.int .i64 0), (.slice none 0 0)] [] [(.int .i64 r156.1), (.slice a154x0 n154x0 c154x0)] rfl rfl (by intro u hu; simp only [List.mem_cons, List.not_mem_nil, or_false] at hu; rcases hu with rfl | rfl <;> rfl)
   refine pl_skip (w' := w158) (ys_store rfl rfl (hst158 _ _ rfl Sz71)) ?_
   have h0 := h0.mut hC158 (fun g hg => hO.inM g ((fun _ h => h) g hg)) (fun _ _ h => nomatch h)
   have h1 := h1.mut hC158 (fun g hg => hO.inM g ((fun _ h => h) g hg)) (fun _ _ h => nomatch h)
   have hb4 := hb4.chg hC158 (fun hg => hO.apart _ ((fun _ h => h) _ hg) (mem_l (List.mem_singleton.2 rfl)))
   have hv155 := hv155.mut hC158 (fun g hg => hO.inM g ((fun _ h => h) g hg)) (fun _ _ h => nomatch h)
   have hv154x0 := hv154x0.mut hC158 (fun g hg => hO.inM g ((fun _ h => h) g hg)) (fun _ _ h => nomatch h)
   have hC := hC.step hC158 (fun g hg => hO.inN g ((fun _ h => h) g hg))
   have hO := hO.ext hC158
   have hb158 : BoxV w158 g5 71 [(.int .i64 r156.1), (.slice a154x0 n154x0 c154x0)] := hb158
   refine c_nil ?_
   refine wp_ret ?_
   cases hs
   exact ⟨_, g5, a154x0, n154x0, c154x0, fr_ovl 46 ⟨rfl, trivial⟩, hb158, hC, (Keeps.out hK hv154x0)⟩

theorem Bd77 : Bodied Try.prog 77 := bodied Try.func77 (by kernel_rfl) rfl

theorem Bd79 : Bodied Try.prog 79 := bodied Try.func79 (by kernel_rfl) rfl

def k_impl_factorsToJoin (M : Nat → Prop) (w0 : World) (r : Int) (a : Act) (w : World) : Prop :=
  ∃ (σ : Nat → Value) , a = fr 34 (ovl σ [(4, (.int .i64 r))]) ∧ Chg [] w0 w
def s_impl_factorsToJoin (p : List Int) (q : List Int) : Option (Int) :=
  (s_impl_join p q).bind fun r4 =>
  (s_impl_relationOfPartition r4).bind fun r7 =>
  (s_impl_relationOfPartition p).bind fun r10 =>
  (iter (S := Int × Int × (List (List Int))) (R := Int) (fun s71 =>
  (bif (decide ((s71.2.2.length : Int) < (r7.2.length : Int))) then (bif ((Int.tmod (w64 (s71.1 + 1)) 2) == 0) then some q else some p).bind fun s84 =>
  (s_impl_relationOfPartition s84).bind fun r92 =>
  (s_impl_composeRelations (s71.2.1, s71.2.2) (r92.1, r92.2)).bind fun r96 =>
  some (.nx (w64 (s71.1 + 1), r96.1, r96.2)) else some (.br (s71.1, s71.2.1, s71.2.2)))) FU (1, r10.1, r10.2)).bind fun o75 => after o75 (fun r_ => some r_) (fun s71 =>
  some s71.1)
set_option maxHeartbeats 4000000 in
theorem c_impl_factorsToJoin {M : Nat → Prop} {w : World} {pa0 : Option Addr} {pn0 pc0 : Nat} {pa1 : Option Addr} {pn1 pc1 : Nat} (p : List Int) (q : List Int) (h0 : (RT.rs (RT.int .i64)).val M w (.slice pa0 pn0 pc0) p ([])) (h1 : (RT.rs (RT.int .i64)).val M w (.slice pa1 pn1 pc1) q ([])) (hM : ∀ g, w.heap.size ≤ g → M g) {r : Int} (hs : s_impl_factorsToJoin p q = some r) :
    Gives Try.prog 47 [(.slice pa0 pn0 pc0), (.slice pa1 pn1 pc1)] w (fun v w' => v = (.int .i64 r) ∧ Chg [] w w') := by
 refine calls_fr Try.func47 rfl Try.ntmps47 (Nat.le_of_ble_eq_true rfl) ?_
 have hO := Own.start (N := Nw w []) hM Nw.fut
 have hC := Chg.refl [] w
 unfold s_impl_factorsToJoin at hs
 refine wp_mono (Q := KPost (k_impl_factorsToJoin M w r)) ?_ (fun e a w1 h => ?_)
 rotate_left
 ·cases e
  case ret =>
   obtain ⟨σ, rfl, hrest⟩ := h
   exact ret1x Try.results47 (res_tmp rfl) ⟨rfl, hrest⟩
  all_goals exact (h : False).elim
 refine c_seq (c_region ?_)
 refine pl_val (.int .i64 0) (y_assign rfl) ?_
 refine c_nil ?_
 refine c_seq (c_region ?_)
 refine pl_val (.slice pa0 pn0 pc0) (y_move rfl) ?_
 refine pl_val (.slice pa1 pn1 pc1) (y_move rfl) ?_
 obtain ⟨r4, hr4, hs⟩ := bind_some hs
 refine pl_call Bd78 rfl (c_impl_join (M := M) p q h0 h1 hO.fut hr4) ?_
 rintro _ w3 ⟨a3x0, n3x0, c3x0, f3x0, rfl, hC3, hv3x0, hOc3⟩
 have h0 := h0.ext hC3
 have h1 := h1.ext hC3
 have hC := hC.ext hC3
 have hO := Own.join0 hO hC3 hOc3
 have hO := hO.perm (R := f3x0 ++ ([])) (by simp)
 obtain ⟨r7, hr7, hs⟩ := bind_some hs
 refine pl_call Bd77 rfl (c_impl_relationOfPartition (M := (Less M f3x0)) r4 (((Frz.os Frz.int)).val hv3x0 Less.sub Less.not) hO.less.fut hr7) ?_
 rintro _ w6 ⟨a6x0, n6x0, c6x0, f6x0, rfl, hC6, hv6x0, hOc6⟩
 have h0 := h0.ext hC6
 have h1 := h1.ext hC6
 have hv3x0 := hv3x0.ext hC6
 have hC := hC.ext hC6
 have hO := Own.join0 hO hC6 hOc6
 have hO := hO.perm (R := f6x0 ++ (f3x0 ++ ([]))) (by simp)
 have hv6x0 := hv6x0.free (M' := M) (Free.os (Free.os Free.int))
 refine pl_val (.slice a6x0 n6x0 c6x0) (y_field rfl (by kernel_rfl)) ?_
 refine pl_val (.int .i64 (r7.2.length : Int)) (y_len' Sl41 (os_len hv6x0) rfl) ?_
 refine pl_val (.int .i64 (r7.2.length : Int)) (y_assign rfl) ?_
 refine c_nil ?_
 refine c_seq (c_region ?_)
 refine pl_val (.slice pa0 pn0 pc0) (y_move rfl) ?_
 obtain ⟨r10, hr10, hs⟩ := bind_some hs
 refine pl_call Bd77 rfl (c_impl_relationOfPartition (M := M) p h0 hO.fut hr10) ?_
 rintro _ w9 ⟨a9x0, n9x0, c9x0, f9x0, rfl, hC9, hv9x0, hOc9⟩
 have h0 := h0.ext hC9
 have h1 := h1.ext hC9
 have hv3x0 := hv3x0.ext hC9
 have hv6x0 := hv6x0.ext hC9
 have hC := hC.ext hC9
 have hO := Own.join0 hO hC9 hOc9
 have hO := hO.perm (R := f9x0 ++ (f6x0 ++ (f3x0 ++ ([])))) (by simp)
 obtain ⟨w12, g12, ew12, eg12, hC12, hb12⟩ := new_block w9 [(.int .i64 0), (.slice none 0 0)] 71
 refine pl_val (w' := w12) (.pointer (some ⟨g12, 0, none⟩)) (y_alloc (by rw [ew12, eg12]; kernel_rfl)) ?_
 have h0 := h0.ext hC12
 have h1 := h1.ext hC12
 have hv3x0 := hv3x0.ext hC12
 have hv6x0 := hv6x0.ext hC12
 have hv9x0 := hv9x0.ext hC12
 have hC := hC.ext hC12
 have hO := hO.new1 hC12 eg12 hb12.lt
 obtain ⟨w13, hst13, hC13, hb13⟩ := box_store (P := Try.prog) hb12 [] [(.int .i64 0), (.slice none 0 0)] [] [(.int .i64 r10.1), (.slice a9x0 n9x0 c9x0)] rfl rfl (by intro u hu; simp only [List.mem_cons, List.not_mem_nil, or_false] at hu; rcases hu with rfl | rfl <;> rfl)
 refine pl_skip (w' := w13) (ys_store rfl rfl (hst13 _ _ rfl Sz71)) ?_
 have h0 := h0.mut hC13 (fun g hg => hO.inM g ((fun _ h => h) g hg)) (fun _ _ h => nomatch h)
 have h1 := h1.mut hC13 (fun g hg => hO.inM g ((fun _ h => h) g hg)) (fun _ _ h => nomatch h)
 have hv3x0 := hv3x0.mut hC13 (fun g hg => hO.inM g ((fun _ h => h) g hg)) (fun g hg e => hO.apart g ((fun _ h => h) g hg) (mem_r (mem_r (mem_l (e)))))
 have hv6x0 := hv6x0.mut hC13 (fun g hg => hO.inM g ((fun _ h => h) g hg)) (fun g hg e => hO.apart g ((fun _ h => h) g hg) (mem_r (mem_l (e))))
 have hv9x0 := hv9x0.mut hC13 (fun g hg => hO.inM g ((fun _ h => h) g hg)) (fun g hg e => hO.apart g ((fun _ h => h) g hg) (mem_l (e)))
 have hC := hC.step hC13 (fun g hg => hO.inN g ((fun _ h => h) g hg))
 have hO := hO.ext hC13
 have hb13 : BoxV w13 g12 71 [(.int .i64 r10.1), (.slice a9x0 n9x0 c9x0)] := hb13
 refine c_nil ?_
 refine c_seq (c_region ?_)
 refine pl_val (.int .i64 1) (y_assign rfl) ?_
 refine c_nil ?_
 refine c_seq ?_
 have hO := hO.fr2
 have hO := hO.drop
 have hO := hO.fr2
 have hO := hO.drop
 have hO := hO.fr1
 obtain ⟨M70, eM70, hs70, hk70, hO, hv70⟩ := frz_own (Frz.os (Frz.os Frz.int)) hv9x0 hO
 have h0 := h0.sub (M' := M70) hs70
 have h1 := h1.sub (M' := M70) hs70
 have hK := hk70
 obtain ⟨o75, hl76, hs⟩ := bind_some hs
 refine wp_block ?_
 refine wp_iter (id := 0) (I := fun s71 a w72 => ∃ (σ : Nat → Value) (M77 : Nat → Prop) (a78 : Option Addr) (n78 : Nat) (c78 : Nat), a = fr 34 (ovl σ [(0, (.slice pa0 pn0 pc0)), (1, (.slice pa1 pn1 pc1)), (5, (.int .i64 (r7.2.length : Int))), (6, (.pointer (some ⟨g12, 0, none⟩))), (7, (.int .i64 s71.1))]) ∧ Chg [] w w72 ∧ Own (Nw w []) M77 w72 (([g12]) ++ []) ∧ Keeps w M M77 ∧ (RT.rs (RT.int .i64)).val M77 w72 (.slice pa0 pn0 pc0) p ([]) ∧ (RT.rs (RT.int .i64)).val M77 w72 (.slice pa1 pn1 pc1) q ([]) ∧ BoxV w72 g12 71 [(.int .i64 s71.2.1), (.slice a78 n78 c78)] ∧ (RT.rs (RT.rs (RT.int .i64))).val M77 w72 (.slice a78 n78 c78) s71.2.2 ([])) (J := fun s71 a w72 => ∃ (σ : Nat → Value) (M80 : Nat → Prop) (a81 : Option Addr) (n81 : Nat) (c81 : Nat), a = fr 34 (ovl σ [(7, (.int .i64 s71.1))]) ∧ Chg [] w w72 ∧ Own (Nw w []) M80 w72 (([g12]) ++ []) ∧ Keeps w M M80 ∧ (RT.rs (RT.int .i64)).val M80 w72 (.slice pa0 pn0 pc0) p ([]) ∧ (RT.rs (RT.int .i64)).val M80 w72 (.slice pa1 pn1 pc1) q ([]) ∧ BoxV w72 g12 71 [(.int .i64 s71.2.1), (.slice a81 n81 c81)] ∧ (RT.rs (RT.rs (RT.int .i64))).val M80 w72 (.slice a81 n81 c81) s71.2.2 ([])) (K := (k_impl_factorsToJoin M w)) ?_ FU (1, r10.1, r10.2) o75 _ _ ?_ hl76 ?_
 ·rintro s71 o75 a w72 ⟨σ, M77, a78, n78, c78, rfl, hC, hO, hK, h0, h1, hb13, hv78⟩ hs
  refine c_seq ?_
  refine c_seq (c_region ?_)
  refine pl_val (.pointer (some ⟨g12, 1, none⟩)) (y_faddr rfl Fa71x1) ?_
  refine pl_val (.slice a78 n78 c78) (y_load rfl ((box_load Ag41 Sz41 hb13 [(.int .i64 s71.2.1)] [(.slice a78 n78 c78)] [] rfl rfl (fun _ => rfl)) _ (Chg.refl _ _))) ?_
  refine pl_val (.int .i64 (s71.2.2.length : Int)) (y_len' Sl41 (rs_len hv78) rfl) ?_
  refine pl_val (.int .i64 (r7.2.length : Int)) (y_move rfl) ?_
  refine pl_val (.bool (decide ((s71.2.2.length : Int) < (r7.2.length : Int)))) (y_lss rfl rfl) ?_
  refine c_nil ?_
  rcases bif_some hs with ⟨hc83, hs⟩ | ⟨hc83, hs⟩
  ·skip
   refine c_condT (congrArg Value.bool hc83) ?_
   refine wp_skip ?_
   refine wp_block ?_
   refine c_seq (c_region ?_)
   refine pl_val (.int .i64 s71.1) (y_move rfl) ?_
   refine pl_val (.int .i64 (w64 (s71.1 + 1))) (y_add rfl rfl) ?_
   refine pl_val (.int .i64 (w64 (s71.1 + 1))) (y_assign rfl) ?_
   refine c_nil ?_
   refine c_seq (c_region ?_)
   refine pl_val (.slice pa0 pn0 pc0) (y_move rfl) ?_
   refine pl_val (.slice pa0 pn0 pc0) (y_assign rfl) ?_
   refine c_nil ?_
   refine c_seq ?_
   refine c_seq (c_region ?_)
   refine pl_val (.int .i64 (w64 (s71.1 + 1))) (y_move rfl) ?_
   refine pl_val (.int .i64 (Int.tmod (w64 (s71.1 + 1)) 2)) (y_rem rfl rfl (by decide)) ?_
   refine pl_val (.bool ((Int.tmod (w64 (s71.1 + 1)) 2) == 0)) (y_eql rfl rfl) ?_
   refine c_nil ?_
   obtain ⟨s84, hm86, hs⟩ := bind_some hs
   refine c_mid (I := fun a w85 => ∃ (σ : Nat → Value) (a87 : Option Addr) (n87 : Nat) (c87 : Nat), a = fr 34 (ovl σ [(0, (.slice pa0 pn0 pc0)), (1, (.slice pa1 pn1 pc1)), (5, (.int .i64 (r7.2.length : Int))), (6, (.pointer (some ⟨g12, 0, none⟩))), (7, (.int .i64 (w64 (s71.1 + 1)))), (8, (.slice a87 n87 c87))]) ∧ Chg [] w w85 ∧ Own (Nw w []) M77 w85 (([g12]) ++ []) ∧ (RT.rs (RT.int .i64)).val M77 w85 (.slice pa0 pn0 pc0) p ([]) ∧ (RT.rs (RT.int .i64)).val M77 w85 (.slice pa1 pn1 pc1) q ([]) ∧ BoxV w85 g12 71 [(.int .i64 s71.2.1), (.slice a78 n78 c78)] ∧ (RT.rs (RT.rs (RT.int .i64))).val M77 w85 (.slice a78 n78 c78) s71.2.2 ([]) ∧ (RT.rs (RT.int .i64)).val M77 w85 (.slice a87 n87 c87) s84 ([])) ?_ ?_
   ·replace hs := hm86
    rcases bif_some hs with ⟨hc89, hs⟩ | ⟨hc89, hs⟩
    ·skip
     refine c_condT (congrArg Value.bool hc89) ?_
     refine c_region ?_
     refine pl_val (.slice pa1 pn1 pc1) (y_move rfl) ?_
     refine pl_val (.slice pa1 pn1 pc1) (y_assign rfl) ?_
     refine c_nil ?_
     cases hs
     exact ⟨_, pa1, pn1, pc1, fr_ovl 34 ⟨rfl, rfl, rfl, rfl, rfl, rfl, trivial⟩, hC, hO, h0, h1, hb13, hv78, h1⟩
    ·skip
     refine c_condF (congrArg Value.bool hc89) ?_
     refine wp_skip ?_
     cases hs
     exact ⟨_, pa0, pn0, pc0, fr_ovl 34 ⟨rfl, rfl, rfl, rfl, rfl, rfl, trivial⟩, hC, hO, h0, h1, hb13, hv78, h0⟩
   ·rintro a1 w85 ⟨σ, a87, n87, c87, rfl, hC, hO, h0, h1, hb13, hv78, hv87⟩
    refine x_start [3, 4] Mx rfl ?_
    have hCw90 := Chg.drew w85
    generalize World.drew w85 = w90 at hCw90 ⊢
    have h0 := h0.ext hCw90
    have h1 := h1.ext hCw90
    have hb13 := hb13.chg hCw90 (fun h => nomatch h)
    have hv78 := hv78.ext hCw90
    have hv87 := hv87.ext hCw90
    have hC := hC.ext hCw90
    have hO := hO.ext hCw90
    have hS := Chg.refl [] w90
    refine x_l 0 (.agg #[(.int .i64 s71.2.1), (.slice a78 n78 c78)]) rfl (by kernel_rfl)  (fun w' hw' => y_load rfl ((box_load Ag71 Sz71 hb13 [] [(.int .i64 s71.2.1), (.slice a78 n78 c78)] [] rfl rfl (fun h => nomatch h)) w' hw')) hS ?_
    refine x_p 1 (.slice a87 n87 c87) rfl (by kernel_rfl)  (fun _ => y_move rfl) (fun _ => hS) ?_
    refine x_one (i := 2) (by kernel_rfl) ?_
    obtain ⟨r92, hr92, hs⟩ := bind_some hs
    refine xk_call (b := false) rfl  Bd77 rfl (c_impl_relationOfPartition (M := M77) s84 hv87 hO.fut hr92) rfl (by rintro _ _ _ ⟨a91x0, n91x0, c91x0, f91x0, rfl, hC91, hv91x0, hOc91⟩; exact hS.ext hC91) ?_
    rintro _ w91 ⟨a91x0, n91x0, c91x0, f91x0, rfl, hC91, hv91x0, hOc91⟩
    have h0 := h0.ext hC91
    have h1 := h1.ext hC91
    have hb13 := hb13.chg hC91 (fun h => nomatch h)
    have hv78 := hv78.ext hC91
    have hv87 := hv87.ext hC91
    have hC := hC.ext hC91
    have hO := Own.join0 hO hC91 hOc91
    have hO := hO.perm (R := f91x0 ++ (([g12]) ++ ([]))) (by simp)
    have hS := hS.ext hC91
    refine x_one (i := 3) (by kernel_rfl) ?_
    obtain ⟨M95, eM95, hs95, hk95, hO, hv95⟩ := frz_own (Frz.os (Frz.os Frz.int)) hv91x0 hO
    have h0 := h0.sub (M' := M95) hs95
    have h1 := h1.sub (M' := M95) hs95
    have hv78 := hv78.sub (M' := M95) hs95
    have hv87 := hv87.sub (M' := M95) hs95
    have hK := hK.trans hk95
    obtain ⟨r96, hr96, hs⟩ := bind_some hs
    refine xk_call (b := true) rfl  Bd79 rfl (c_impl_composeRelations (M := M95) (s71.2.1, s71.2.2) (r92.1, r92.2) hv78 hv95 hO.fut hr96) rfl (fun h => nomatch h) ?_
    rintro _ w94 ⟨a94x0, n94x0, c94x0, rfl, hC94, hv94x0⟩
    have hK := hK.trans (show Keeps w M95 (Past M95 w91 w94) from Keeps.past hC.size)
    have h0 := h0.ext hC94
    have h1 := h1.ext hC94
    have hb13 := hb13.chg hC94 (fun h => nomatch h)
    have hv78 := hv78.ext hC94
    have hv87 := hv87.ext hC94
    have hv95 := hv95.ext hC94
    have hC := hC.ext hC94
    have hO := hO.past hC94
    have h0 := h0.sub (M' := (Past M95 w91 w94)) (fun g hg => .inl hg.1)
    have h1 := h1.sub (M' := (Past M95 w91 w94)) (fun g hg => .inl hg.1)
    have hv78 := hv78.sub (M' := (Past M95 w91 w94)) (fun g hg => .inl hg.1)
    have hv87 := hv87.sub (M' := (Past M95 w91 w94)) (fun g hg => .inl hg.1)
    have hv95 := hv95.sub (M' := (Past M95 w91 w94)) (fun g hg => .inl hg.1)
    refine x_one (i := 4) (by kernel_rfl) ?_
    obtain ⟨w98, hst98, hC98, hb98⟩ := box_store (P := Try.prog) hb13 [] [(.int .i64 s71.2.1), (.slice a78 n78 c78)] [] [(.int .i64 r96.1), (.slice a94x0 n94x0 c94x0)] rfl rfl (by intro u hu; simp only [List.mem_cons, List.not_mem_nil, or_false] at hu; rcases hu with rfl | rfl <;> rfl)
    refine xk_skip (w' := w98) (b := true) rfl (ys_store rfl rfl (hst98 _ _ rfl Sz71)) rfl (fun h => nomatch h) ?_
    have h0 := h0.mut hC98 (fun g hg => hO.inM g ((fun _ h => h) g hg)) (fun _ _ h => nomatch h)
    have h1 := h1.mut hC98 (fun g hg => hO.inM g ((fun _ h => h) g hg)) (fun _ _ h => nomatch h)
    have hv78 := hv78.mut hC98 (fun g hg => hO.inM g ((fun _ h => h) g hg)) (fun _ _ h => nomatch h)
    have hv87 := hv87.mut hC98 (fun g hg => hO.inM g ((fun _ h => h) g hg)) (fun _ _ h => nomatch h)
    have hv95 := hv95.mut hC98 (fun g hg => hO.inM g ((fun _ h => h) g hg)) (fun _ _ h => nomatch h)
    have hv94x0 := hv94x0.mut hC98 (fun g hg => hO.inM g ((fun _ h => h) g hg)) (fun _ _ h => nomatch h)
    have hC := hC.step hC98 (fun g hg => hO.inN g ((fun _ h => h) g hg))
    have hO := hO.ext hC98
    have hb98 : BoxV w98 g12 71 [(.int .i64 r96.1), (.slice a94x0 n94x0 c94x0)] := hb98
    refine x_end (by kernel_rfl) ?_
    clear hS
    cases hs
    exact ⟨_, (Past M95 w91 w94), a94x0, n94x0, c94x0, fr_ovl 34 ⟨rfl, rfl, rfl, rfl, rfl, trivial⟩, hC, hO, hK, h0, h1, hb98, hv94x0⟩
  ·skip
   refine c_condF (congrArg Value.bool hc83) ?_
   refine wp_exit ?_
   cases hs
   exact ⟨rfl, _, M77, a78, n78, c78, fr_ovl 34 ⟨rfl, trivial⟩, hC, hO, hK, h0, h1, hb13, hv78⟩
 ·skip
  exact ⟨_, M70, a9x0, n9x0, c9x0, fr_ovl 34 ⟨rfl, rfl, rfl, rfl, rfl, trivial⟩, hC, hO, hK, h0, h1, hb13, hv70⟩
 ·cases o75 with
  | nx _ => exact True.intro
  | rt r_ =>
   have hs := after_rt hs
   intro a1 w1 hK
   cases hs
   exact hK
  | br s71 =>
   have hs := after_br hs
   rintro a1 w72 ⟨σ, M80, a81, n81, c81, rfl, hC, hO, hK, h0, h1, hb13, hv81⟩
   refine c_seq (c_region ?_)
   refine pl_val (.int .i64 s71.1) (y_move rfl) ?_
   refine pl_val (.int .i64 s71.1) (y_assign rfl) ?_
   refine c_nil ?_
   refine wp_ret ?_
   cases hs
   exact ⟨_, fr_ovl 34 ⟨rfl, trivial⟩, hC⟩

theorem Bd53 : Bodied Try.prog 53 := bodied Try.func53 (by kernel_rfl) rfl

theorem Bd47 : Bodied Try.prog 47 := bodied Try.func47 (by kernel_rfl) rfl

def k_impl_PermutingRank (M : Nat → Prop) (w0 : World) (r : Int × Bool) (a : Act) (w : World) : Prop :=
  ∃ (σ : Nat → Value) , a = fr 38 (ovl σ [(2, (.int .i64 r.1)), (3, (.bool r.2))]) ∧ Chg [] w0 w
def s_impl_PermutingRank (a_ : Int × (List (Int × (List Int)))) : Option (Int × Bool) :=
  (s_impl_fewCongruences (a_.1, a_.2)).bind fun r4 =>
  (bif (!r4.2) then some (0, false) else (forR (S := Int) (R := Int × Bool) (fun _ x29 s26 =>
  (forR (S := Int) (R := Int × Bool) (fun _ x43 s40 =>
  (s_impl_factorsToJoin x29 x43).bind fun r50 =>
  some (.nx (max s40 r50))) 0 r4.1 s26).bind fun o44 => after o44 (fun r_ => some (.rt r_)) (fun s40 =>
  some (.nx s40))) 0 r4.1 0).bind fun o30 => after o30 (fun r_ => some r_) (fun s26 =>
  some (s26, true)))
set_option maxHeartbeats 4000000 in
theorem c_impl_PermutingRank {M : Nat → Prop} {w : World} {pa0 : Option Addr} {pn0 pc0 : Nat} (a_ : Int × (List (Int × (List Int)))) (h0 : (RT.rs (RT.pr (RT.int .i64) (RT.rs (RT.int .i64)))).val M w (.slice pa0 pn0 pc0) a_.2 ([])) (hM : ∀ g, w.heap.size ≤ g → M g) {r : Int × Bool} (hs : s_impl_PermutingRank a_ = some r) :
    Gives Try.prog 41 [(.agg #[(.int .i64 a_.1), (.slice pa0 pn0 pc0)])] w (fun v w' => v = (.tuple #[(.int .i64 r.1), (.bool r.2)]) ∧ Chg [] w w') := by
 refine calls_fr Try.func41 rfl Try.ntmps41 (Nat.le_of_ble_eq_true rfl) ?_
 have hO := Own.start (N := Nw w []) hM Nw.fut
 have hC := Chg.refl [] w
 unfold s_impl_PermutingRank at hs
 refine wp_mono (Q := KPost (k_impl_PermutingRank M w r)) ?_ (fun e a w1 h => ?_)
 rotate_left
 ·cases e
  case ret =>
   obtain ⟨σ, rfl, hrest⟩ := h
   exact ret2x Try.results41 (res_tmp rfl) (res_tmp rfl) ⟨rfl, hrest⟩
  all_goals exact (h : False).elim
 refine c_seq (c_region ?_)
 obtain ⟨w2, g2, ew2, eg2, hC2, hb2⟩ := new_block w [(.int .i64 a_.1), (.slice pa0 pn0 pc0)] 35
 refine pl_val (w' := w2) (.pointer (some ⟨g2, 0, none⟩)) (y_box rfl (by rw [ew2, eg2]; kernel_rfl)) ?_
 have h0 := h0.ext hC2
 have hC := hC.ext hC2
 have hO := hO.new1 hC2 eg2 hb2.lt
 refine pl_val (.int .i64 0) (y_assign rfl) ?_
 refine pl_val (.bool false) (y_assign rfl) ?_
 refine c_nil ?_
 refine c_seq (c_region ?_)
 refine pl_val (.agg #[(.int .i64 a_.1), (.slice pa0 pn0 pc0)]) (y_load rfl ((box_load Ag35 Sz35 hb2 [] [(.int .i64 a_.1), (.slice pa0 pn0 pc0)] [] rfl rfl (fun h => nomatch h)) _ (Chg.refl _ _))) ?_
 obtain ⟨r4, hr4, hs⟩ := bind_some hs
 refine pl_call Bd53 rfl (c_impl_fewCongruences (M := M) (a_.1, a_.2) h0 hO.fut hr4) ?_
 rintro _ w3 ⟨a3x0, n3x0, c3x0, f3x0, rfl, hC3, hv3x0, hOc3⟩
 have h0 := h0.ext hC3
 have hb2 := hb2.chg hC3 (fun h => nomatch h)
 have hC := hC.ext hC3
 have hO := Own.join0 hO hC3 hOc3
 have hO := hO.perm (R := f3x0 ++ (([g2]) ++ ([]))) (by simp)
 refine pl_val (.tuple #[(.slice a3x0 n3x0 c3x0), (.bool r4.2)]) (y_move rfl) ?_
 refine pl_val (.slice a3x0 n3x0 c3x0) (y_extract rfl (by kernel_rfl)) ?_
 refine pl_val (.bool r4.2) (y_extract rfl (by kernel_rfl)) ?_
 refine pl_val (.slice a3x0 n3x0 c3x0) (y_assign rfl) ?_
 refine pl_val (.bool r4.2) (y_assign rfl) ?_
 refine c_nil ?_
 refine c_seq ?_
 refine c_seq (c_region ?_)
 refine pl_val (.bool r4.2) (y_move rfl) ?_
 refine pl_val (.bool (!r4.2)) (y_not rfl) ?_
 refine c_nil ?_
 rcases bif_some hs with ⟨hc6, hs⟩ | ⟨hc6, hs⟩
 ·skip
  refine c_condT (congrArg Value.bool hc6) ?_
  refine c_seq (c_region ?_)
  refine pl_val (.int .i64 0) (y_assign rfl) ?_
  refine pl_val (.bool false) (y_assign rfl) ?_
  refine c_nil ?_
  refine wp_ret ?_
  cases hs
  exact ⟨_, fr_ovl 38 ⟨rfl, rfl, trivial⟩, hC⟩
 ·skip
  refine c_condF (congrArg Value.bool hc6) ?_
  refine wp_skip ?_
  refine c_seq (c_region ?_)
  refine pl_val (.int .i64 0) (y_assign rfl) ?_
  refine c_nil ?_
  refine c_seq ?_
  refine c_seq (c_region ?_)
  refine pl_val (.slice a3x0 n3x0 c3x0) (y_move rfl) ?_
  refine pl_val (.int .i64 (r4.1.length : Int)) (y_len' Sl41 (os_len hv3x0) rfl) ?_
  refine pl_val (.int .i64 0) (y_move rfl) ?_
  refine c_nil ?_
  have hO := hO.fr1
  have hO := hO.drop
  obtain ⟨o30, hl31, hs⟩ := bind_some hs
  refine wp_block ?_
  refine wp_forR (id := 0) (I := fun i_ xs_ s26 a w27 => ∃ k28 : Nat, i_ = (k28 : Int) ∧ List.drop k28 r4.1 = xs_ ∧ (∃ (σ : Nat → Value), a = fr 38 (ovl σ [(4, (.slice a3x0 n3x0 c3x0)), (6, (.int .i64 s26)), (18, (.slice a3x0 n3x0 c3x0)), (19, (.int .i64 (r4.1.length : Int))), (20, (.int .i64 (k28 : Int)))]) ∧ Chg [] w w27 ∧ Own (Nw w []) M w27 (f3x0 ++ []) ∧ (RT.os 22 (RT.os 3 (RT.int .i64))).val M w27 (.slice a3x0 n3x0 c3x0) r4.1 f3x0)) (J := fun s26 a w27 => ∃ (σ : Nat → Value), a = fr 38 (ovl σ [(6, (.int .i64 s26))]) ∧ Chg [] w w27 ∧ Own (Nw w []) M w27 (f3x0 ++ []) ∧ (RT.os 22 (RT.os 3 (RT.int .i64))).val M w27 (.slice a3x0 n3x0 c3x0) r4.1 f3x0) (K := (k_impl_PermutingRank M w)) ?_ ?_ r4.1 0 0 o30 _ _ ?_ hl31 ?_
  ·rintro _ s26 a w27 ⟨k28, rfl, hd, σ, rfl, hC, hO, hv3x0⟩
   have hlt := drop_nil_ge hd
   refine c_seq (c_region ?_)
   refine pl_val (.bool (decide ((k28 : Int) < (r4.1.length : Int)))) (y_lss rfl rfl) ?_
   refine c_nil ?_
   refine c_seq ?_
   refine c_condF (congrArg Value.bool (decide_eq_false hlt)) ?_
   refine wp_exit ?_
   exact ⟨rfl, _, fr_ovl 38 ⟨rfl, trivial⟩, hC, hO, hv3x0⟩
  ·rintro _ x29 xs_ s26 o30 a w27 ⟨k28, rfl, hd, σ, rfl, hC, hO, hv3x0⟩ hs
   have hlt := drop_cons_lt hd
   have hxk28 := drop_cons_idx hd
   refine c_seq (c_region ?_)
   refine pl_val (.bool (decide ((k28 : Int) < (r4.1.length : Int)))) (y_lss rfl rfl) ?_
   refine c_nil ?_
   refine c_seq ?_
   refine c_condT (congrArg Value.bool (decide_eq_true hlt)) ?_
   refine wp_skip ?_
   refine c_seq ?_
   refine wp_block ?_
   refine c_seq (c_region ?_)
   obtain ⟨g32, f32, hg32, hk32, hp32, ha32, hf32⟩ := os_idx Sl41 Sz22 hv3x0 hxk28
   have hb32 := own_row (Frz.os Frz.int) ha32 hf32
   refine pl_val (.pointer (some ⟨g32, 0 + Int.toNat (k28 : Int) * 1, none⟩)) (hp32 _ _ _ _ _ _ _ _ _ rfl rfl) ?_
   obtain ⟨v33, hl33, hrow33, hv33⟩ := at_load1 Ag22 Sz22 rfl rfl hb32
   obtain ⟨a33, n33, c33, rfl⟩ := rs_sl hv33
   refine pl_val (.slice a33 n33 c33) (y_load rfl (hl33 _ (Chg.refl _ _))) ?_
   refine pl_val (.slice a33 n33 c33) (y_assign rfl) ?_
   refine c_nil ?_
   refine c_seq (c_region ?_)
   refine pl_val (.slice a3x0 n3x0 c3x0) (y_move rfl) ?_
   refine pl_val (.int .i64 (r4.1.length : Int)) (y_len' Sl41 (os_len hv3x0) rfl) ?_
   refine pl_val (.int .i64 0) (y_move rfl) ?_
   refine c_nil ?_
   obtain ⟨o44, hl45, hs⟩ := bind_some hs
   refine wp_block ?_
   refine wp_forR (id := 2) (I := fun i_ xs_ s40 a w41 => ∃ k42 : Nat, i_ = (k42 : Int) ∧ List.drop k42 r4.1 = xs_ ∧ (∃ (σ : Nat → Value), a = fr 38 (ovl σ [(4, (.slice a3x0 n3x0 c3x0)), (6, (.int .i64 s40)), (8, (.slice a33 n33 c33)), (18, (.slice a3x0 n3x0 c3x0)), (19, (.int .i64 (r4.1.length : Int))), (20, (.int .i64 (k28 : Int))), (24, (.slice a3x0 n3x0 c3x0)), (25, (.int .i64 (r4.1.length : Int))), (26, (.int .i64 (k42 : Int)))]) ∧ Chg [] w w41 ∧ Own (Nw w []) M w41 (f3x0 ++ []) ∧ (RT.os 22 (RT.os 3 (RT.int .i64))).val M w41 (.slice a3x0 n3x0 c3x0) r4.1 f3x0 ∧ (RT.rs (RT.int .i64)).val (Less M f3x0) w41 (.slice a33 n33 c33) x29 ([]))) (J := fun s40 a w41 => ∃ (σ : Nat → Value), a = fr 38 (ovl σ [(4, (.slice a3x0 n3x0 c3x0)), (6, (.int .i64 s40)), (18, (.slice a3x0 n3x0 c3x0)), (19, (.int .i64 (r4.1.length : Int))), (20, (.int .i64 (k28 : Int)))]) ∧ Chg [] w w41 ∧ Own (Nw w []) M w41 (f3x0 ++ []) ∧ (RT.os 22 (RT.os 3 (RT.int .i64))).val M w41 (.slice a3x0 n3x0 c3x0) r4.1 f3x0 ∧ (RT.rs (RT.int .i64)).val (Less M f3x0) w41 (.slice a33 n33 c33) x29 ([])) (K := (k_impl_PermutingRank M w)) ?_ ?_ r4.1 0 s26 o44 _ _ ?_ hl45 ?_
   ·rintro _ s40 a w41 ⟨k42, rfl, hd, σ, rfl, hC, hO, hv3x0, hv33⟩
    have hlt := drop_nil_ge hd
    refine c_seq (c_region ?_)
    refine pl_val (.bool (decide ((k42 : Int) < (r4.1.length : Int)))) (y_lss rfl rfl) ?_
    refine c_nil ?_
    refine c_seq ?_
    refine c_condF (congrArg Value.bool (decide_eq_false hlt)) ?_
    refine wp_exit ?_
    exact ⟨rfl, _, fr_ovl 38 ⟨rfl, rfl, rfl, rfl, rfl, trivial⟩, hC, hO, hv3x0, hv33⟩
   ·rintro _ x43 xs_ s40 o44 a w41 ⟨k42, rfl, hd, σ, rfl, hC, hO, hv3x0, hv33⟩ hs
    have hlt := drop_cons_lt hd
    have hxk42 := drop_cons_idx hd
    refine c_seq (c_region ?_)
    refine pl_val (.bool (decide ((k42 : Int) < (r4.1.length : Int)))) (y_lss rfl rfl) ?_
    refine c_nil ?_
    refine c_seq ?_
    refine c_condT (congrArg Value.bool (decide_eq_true hlt)) ?_
    refine wp_skip ?_
    refine c_seq ?_
    refine wp_block ?_
    refine c_seq (c_region ?_)
    obtain ⟨g46, f46, hg46, hk46, hp46, ha46, hf46⟩ := os_idx Sl41 Sz22 hv3x0 hxk42
    have hb46 := own_row (Frz.os Frz.int) ha46 hf46
    refine pl_val (.pointer (some ⟨g46, 0 + Int.toNat (k42 : Int) * 1, none⟩)) (hp46 _ _ _ _ _ _ _ _ _ rfl rfl) ?_
    obtain ⟨v47, hl47, hrow47, hv47⟩ := at_load1 Ag22 Sz22 rfl rfl hb46
    obtain ⟨a47, n47, c47, rfl⟩ := rs_sl hv47
    refine pl_val (.slice a47 n47 c47) (y_load rfl (hl47 _ (Chg.refl _ _))) ?_
    refine pl_val (.slice a47 n47 c47) (y_assign rfl) ?_
    refine c_nil ?_
    refine c_region ?_
    refine pl_val (.int .i64 s40) (y_move rfl) ?_
    refine pl_val (.slice a33 n33 c33) (y_move rfl) ?_
    refine pl_val (.slice a47 n47 c47) (y_move rfl) ?_
    obtain ⟨r50, hr50, hs⟩ := bind_some hs
    refine pl_call Bd47 rfl (c_impl_factorsToJoin (M := (Less M f3x0)) x29 x43 hv33 hv47 hO.less.fut hr50) ?_
    rintro _ w49 ⟨rfl, hC49⟩
    have hv3x0 := hv3x0.ext hC49
    have hv33 := hv33.ext hC49
    have hv47 := hv47.ext hC49
    have hrow47 := hrow47.chg hC49 (fun h => nomatch h)
    have hC := hC.ext hC49
    have hO := hO.ext hC49
    refine pl_val (.int .i64 (max s40 r50)) (y_max rfl rfl) ?_
    refine pl_val (.int .i64 (max s40 r50)) (y_assign rfl) ?_
    refine c_nil ?_
    refine c_region ?_
    refine pl_val (.int .i64 (w64 ((k42 : Int) + 1))) (y_add rfl rfl) ?_
    refine pl_val (.int .i64 (w64 ((k42 : Int) + 1))) (y_move rfl) ?_
    refine c_nil ?_
    cases hs
    exact ⟨_, rfl, drop_cons_next hd, _, fr_ovl 38 ⟨rfl, rfl, rfl, rfl, rfl, rfl, rfl, rfl, congrArg (Value.int .i64) (w64_succ hlt (Int.natCast_nonneg _) (os_max hv3x0)), trivial⟩, hC, hO, hv3x0, hv33⟩
   ·skip
    exact ⟨0, rfl, rfl, _, fr_ovl 38 ⟨rfl, rfl, rfl, rfl, rfl, rfl, rfl, rfl, rfl, trivial⟩, hC, hO, hv3x0, hv33⟩
   ·cases o44 with
    | nx _ => exact True.intro
    | rt r_ =>
     have hs := after_rt hs
     intro a1 w1 hK
     cases hs
     exact hK
    | br s40 =>
     have hs := after_br hs
     rintro a1 w41 ⟨σ, rfl, hC, hO, hv3x0, hv33⟩
     refine c_region ?_
     refine pl_val (.int .i64 (w64 ((k28 : Int) + 1))) (y_add rfl rfl) ?_
     refine pl_val (.int .i64 (w64 ((k28 : Int) + 1))) (y_move rfl) ?_
     refine c_nil ?_
     cases hs
     exact ⟨_, rfl, drop_cons_next hd, _, fr_ovl 38 ⟨rfl, rfl, rfl, rfl, congrArg (Value.int .i64) (w64_succ hlt (Int.natCast_nonneg _) (os_max hv3x0)), trivial⟩, hC, hO, hv3x0⟩
  ·skip
   exact ⟨0, rfl, rfl, _, fr_ovl 38 ⟨rfl, rfl, rfl, rfl, rfl, trivial⟩, hC, hO, hv3x0⟩
  ·cases o30 with
   | nx _ => exact True.intro
   | rt r_ =>
    have hs := after_rt hs
    intro a1 w1 hK
    cases hs
    exact hK
   | br s26 =>
    have hs := after_br hs
    rintro a1 w27 ⟨σ, rfl, hC, hO, hv3x0⟩
    refine c_seq (c_region ?_)
    refine pl_val (.int .i64 s26) (y_move rfl) ?_
    refine pl_val (.int .i64 s26) (y_assign rfl) ?_
    refine pl_val (.bool true) (y_assign rfl) ?_
    refine c_nil ?_
    refine wp_ret ?_
    cases hs
    exact ⟨_, fr_ovl 38 ⟨rfl, rfl, trivial⟩, hC⟩

def k_laws_eqIntS (M : Nat → Prop) (w0 : World) (r : Bool) (a : Act) (w : World) : Prop :=
  ∃ (σ : Nat → Value) , a = fr 26 (ovl σ [(4, (.bool r))]) ∧ Chg [] w0 w
def s_laws_eqIntS (a_ : List Int) (b : List Int) : Option (Bool) :=
  (bif ((a_.length : Int) != (b.length : Int)) then some false else (forC (S := Unit) (R := Bool) (fun k12 s10 =>
  (idx a_ k12).bind fun x17 =>
  (idx b k12).bind fun x19 =>
  (bif (x17 != x19) then some (.rt false) else some (.nx ()))) 0 (a_.length : Int) ()).bind fun o14 => after o14 (fun r_ => some r_) (fun s10 =>
  some true))
set_option maxHeartbeats 4000000 in
theorem c_laws_eqIntS {M : Nat → Prop} {w : World} {pa0 : Option Addr} {pn0 pc0 : Nat} {pa1 : Option Addr} {pn1 pc1 : Nat} (a_ : List Int) (b : List Int) (h0 : (RT.rs (RT.int .i64)).val M w (.slice pa0 pn0 pc0) a_ ([])) (h1 : (RT.rs (RT.int .i64)).val M w (.slice pa1 pn1 pc1) b ([])) (hM : ∀ g, w.heap.size ≤ g → M g) {r : Bool} (hs : s_laws_eqIntS a_ b = some r) :
    Gives Try.prog 16 [(.slice pa0 pn0 pc0), (.slice pa1 pn1 pc1)] w (fun v w' => v = (.bool r) ∧ Chg [] w w') := by
 refine calls_fr Try.func16 rfl Try.ntmps16 (Nat.le_of_ble_eq_true rfl) ?_
 have hO := Own.start (N := Nw w []) hM Nw.fut
 have hC := Chg.refl [] w
 unfold s_laws_eqIntS at hs
 refine wp_mono (Q := KPost (k_laws_eqIntS M w r)) ?_ (fun e a w1 h => ?_)
 rotate_left
 ·cases e
  case ret =>
   obtain ⟨σ, rfl, hrest⟩ := h
   exact ret1x Try.results16 (res_tmp rfl) ⟨rfl, hrest⟩
  all_goals exact (h : False).elim
 refine c_seq (c_region ?_)
 refine pl_val (.bool false) (y_assign rfl) ?_
 refine c_nil ?_
 refine c_seq ?_
 refine c_seq (c_region ?_)
 refine pl_val (.slice pa0 pn0 pc0) (y_move rfl) ?_
 refine pl_val (.int .i64 (a_.length : Int)) (y_len' Sl22 (rs_len h0) rfl) ?_
 refine pl_val (.slice pa1 pn1 pc1) (y_move rfl) ?_
 refine pl_val (.int .i64 (b.length : Int)) (y_len' Sl22 (rs_len h1) rfl) ?_
 refine pl_val (.bool ((a_.length : Int) != (b.length : Int))) (y_neq rfl rfl) ?_
 refine c_nil ?_
 rcases bif_some hs with ⟨hc3, hs⟩ | ⟨hc3, hs⟩
 ·skip
  refine c_condT (congrArg Value.bool hc3) ?_
  refine c_seq (c_region ?_)
  refine pl_val (.bool false) (y_assign rfl) ?_
  refine c_nil ?_
  refine wp_ret ?_
  cases hs
  exact ⟨_, fr_ovl 26 ⟨rfl, trivial⟩, hC⟩
 ·skip
  refine c_condF (congrArg Value.bool hc3) ?_
  refine wp_skip ?_
  refine c_seq ?_
  refine c_seq (c_region ?_)
  refine pl_val (.int .i64 0) (y_assign rfl) ?_
  refine c_nil ?_
  obtain ⟨o14, hl15, hs⟩ := bind_some hs
  refine wp_block ?_
  refine wp_forC (id := 0) (a_.length : Int) (I := fun k12 s10 a w11 => ∃ (σ : Nat → Value), a = fr 26 (ovl σ [(0, (.slice pa0 pn0 pc0)), (1, (.slice pa1 pn1 pc1)), (5, (.int .i64 k12))]) ∧ Chg [] w w11 ∧ Own (Nw w []) M w11 ([]) ∧ (RT.rs (RT.int .i64)).val M w11 (.slice pa0 pn0 pc0) a_ ([]) ∧ (RT.rs (RT.int .i64)).val M w11 (.slice pa1 pn1 pc1) b ([])) (J := fun s10 a w11 => ∃ (σ : Nat → Value), a = fr 26 (ovl σ []) ∧ Chg [] w w11 ∧ Own (Nw w []) M w11 ([]) ∧ (RT.rs (RT.int .i64)).val M w11 (.slice pa0 pn0 pc0) a_ ([]) ∧ (RT.rs (RT.int .i64)).val M w11 (.slice pa1 pn1 pc1) b ([])) (K := (k_laws_eqIntS M w)) ?_ ?_ 0 () o14 _ _ ?_ hl15 ?_
  ·rintro k12 s10 a w11 ⟨σ, rfl, hC, hO, h0, h1⟩ hlt
   refine c_seq ?_
   refine c_seq (c_region ?_)
   refine pl_val (.int .i64 k12) (y_move rfl) ?_
   refine pl_val (.slice pa0 pn0 pc0) (y_move rfl) ?_
   refine pl_val (.int .i64 (a_.length : Int)) (y_len' Sl22 (rs_len h0) rfl) ?_
   refine pl_val (.bool (decide (k12 < (a_.length : Int)))) (y_lss rfl rfl) ?_
   refine c_nil ?_
   refine c_condF (congrArg Value.bool (decide_eq_false hlt)) ?_
   refine wp_exit ?_
   exact ⟨rfl, _, fr_ovl 26 trivial, hC, hO, h0, h1⟩
  ·rintro k12 s10 o14 a w11 ⟨σ, rfl, hC, hO, h0, h1⟩ hlt hw hs
   refine c_seq ?_
   refine c_seq (c_region ?_)
   refine pl_val (.int .i64 k12) (y_move rfl) ?_
   refine pl_val (.slice pa0 pn0 pc0) (y_move rfl) ?_
   refine pl_val (.int .i64 (a_.length : Int)) (y_len' Sl22 (rs_len h0) rfl) ?_
   refine pl_val (.bool (decide (k12 < (a_.length : Int)))) (y_lss rfl rfl) ?_
   refine c_nil ?_
   refine c_condT (congrArg Value.bool (decide_eq_true hlt)) ?_
   refine wp_skip ?_
   refine c_seq ?_
   refine wp_block ?_
   refine c_seq ?_
   refine x_start [] Mx rfl ?_
   have hCw16 := Chg.drew w11
   generalize World.drew w11 = w16 at hCw16 ⊢
   have h0 := h0.ext hCw16
   have h1 := h1.ext hCw16
   have hC := hC.ext hCw16
   have hO := hO.ext hCw16
   have hS := Chg.refl [] w16
   refine x_p 0 (.slice pa0 pn0 pc0) rfl (by kernel_rfl)  (fun _ => y_move rfl) (fun _ => hS) ?_
   refine x_p 1 (.int .i64 k12) rfl (by kernel_rfl)  (fun _ => y_move rfl) (fun _ => hS) ?_
   obtain ⟨x17, hx17, hs⟩ := bind_some hs
   obtain ⟨b18, o18, hp18, ha18⟩ := rs_idx Sl22 Sz3 h0 hx17
   refine x_p 2 (.pointer (some ⟨b18, o18, none⟩)) rfl (by kernel_rfl)  (fun _ => hp18 _ _ _ _ _ _ _ _ _ rfl rfl) (fun _ => hS) ?_
   refine x_l 3 (.int .i64 x17) rfl (by kernel_rfl)  (fun w' hw' => y_load rfl ((at_load_int Ag3 Sz3 ha18) w' hw')) hS ?_
   refine x_p 4 (.slice pa1 pn1 pc1) rfl (by kernel_rfl)  (fun _ => y_move rfl) (fun _ => hS) ?_
   refine x_p 5 (.int .i64 k12) rfl (by kernel_rfl)  (fun _ => y_move rfl) (fun _ => hS) ?_
   obtain ⟨x19, hx19, hs⟩ := bind_some hs
   obtain ⟨b20, o20, hp20, ha20⟩ := rs_idx Sl22 Sz3 h1 hx19
   refine x_p 6 (.pointer (some ⟨b20, o20, none⟩)) rfl (by kernel_rfl)  (fun _ => hp20 _ _ _ _ _ _ _ _ _ rfl rfl) (fun _ => hS) ?_
   refine x_l 7 (.int .i64 x19) rfl (by kernel_rfl)  (fun w' hw' => y_load rfl ((at_load_int Ag3 Sz3 ha20) w' hw')) hS ?_
   refine x_p 8 (.bool (x17 != x19)) rfl (by kernel_rfl)  (fun _ => y_neq rfl rfl) (fun _ => hS) ?_
   refine x_end (by kernel_rfl) ?_
   clear hS
   rcases bif_some hs with ⟨hc21, hs⟩ | ⟨hc21, hs⟩
   ·skip
    refine c_condT (congrArg Value.bool hc21) ?_
    refine c_seq (c_region ?_)
    refine pl_val (.bool false) (y_assign rfl) ?_
    refine c_nil ?_
    refine wp_ret ?_
    cases hs
    exact ⟨_, fr_ovl 26 ⟨rfl, trivial⟩, hC⟩
   ·skip
    refine c_condF (congrArg Value.bool hc21) ?_
    refine wp_skip ?_
    refine c_region ?_
    refine pl_val (.int .i64 k12) (y_move rfl) ?_
    refine pl_val (.int .i64 (w64 (k12 + 1))) (y_add rfl rfl) ?_
    refine pl_val (.int .i64 (w64 (k12 + 1))) (y_assign rfl) ?_
    refine c_nil ?_
    cases hs
    exact ⟨_, fr_ovl 26 ⟨rfl, rfl, congrArg (Value.int .i64) hw, trivial⟩, hC, hO, h0, h1⟩
  ·skip
   exact ⟨_, fr_ovl 26 ⟨rfl, rfl, rfl, trivial⟩, hC, hO, h0, h1⟩
  ·cases o14 with
   | nx _ => exact True.intro
   | rt r_ =>
    have hs := after_rt hs
    intro a1 w1 hK
    cases hs
    exact hK
   | br s10 =>
    have hs := after_br hs
    rintro a1 w11 ⟨σ, rfl, hC, hO, h0, h1⟩
    refine c_seq (c_region ?_)
    refine pl_val (.bool true) (y_assign rfl) ?_
    refine c_nil ?_
    refine wp_ret ?_
    cases hs
    exact ⟨_, fr_ovl 26 ⟨rfl, trivial⟩, hC⟩

theorem Bd16 : Bodied Try.prog 16 := bodied Try.func16 (by kernel_rfl) rfl

def k_laws_eqOp (M : Nat → Prop) (w0 : World) (r : Bool) (a : Act) (w : World) : Prop :=
  ∃ (σ : Nat → Value) , a = fr 16 (ovl σ [(4, (.bool r))]) ∧ Chg [] w0 w
def s_laws_eqOp (a_ : Int × (List Int)) (b : Int × (List Int)) : Option (Bool) :=
  (bif (a_.1 != b.1) then some false else (s_laws_eqIntS a_.2 b.2).bind fun r7 =>
  (bif (!r7) then some false else some true))
set_option maxHeartbeats 4000000 in
theorem c_laws_eqOp {M : Nat → Prop} {w : World} {pa0 : Option Addr} {pn0 pc0 : Nat} {pa1 : Option Addr} {pn1 pc1 : Nat} (a_ : Int × (List Int)) (b : Int × (List Int)) (h0 : (RT.rs (RT.int .i64)).val M w (.slice pa0 pn0 pc0) a_.2 ([])) (h1 : (RT.rs (RT.int .i64)).val M w (.slice pa1 pn1 pc1) b.2 ([])) (hM : ∀ g, w.heap.size ≤ g → M g) {r : Bool} (hs : s_laws_eqOp a_ b = some r) :
    Gives Try.prog 85 [(.agg #[(.int .i64 a_.1), (.slice pa0 pn0 pc0)]), (.agg #[(.int .i64 b.1), (.slice pa1 pn1 pc1)])] w (fun v w' => v = (.bool r) ∧ Chg [] w w') := by
 refine calls_fr Try.func85 rfl Try.ntmps85 (Nat.le_of_ble_eq_true rfl) ?_
 have hO := Own.start (N := Nw w []) hM Nw.fut
 have hC := Chg.refl [] w
 unfold s_laws_eqOp at hs
 refine wp_mono (Q := KPost (k_laws_eqOp M w r)) ?_ (fun e a w1 h => ?_)
 rotate_left
 ·cases e
  case ret =>
   obtain ⟨σ, rfl, hrest⟩ := h
   exact ret1x Try.results85 (res_tmp rfl) ⟨rfl, hrest⟩
  all_goals exact (h : False).elim
 refine c_seq (c_region ?_)
 obtain ⟨w3, g3, ew3, eg3, hC3, hb3⟩ := new_block w [(.int .i64 a_.1), (.slice pa0 pn0 pc0)] 81
 refine pl_val (w' := w3) (.pointer (some ⟨g3, 0, none⟩)) (y_box rfl (by rw [ew3, eg3]; kernel_rfl)) ?_
 have h0 := h0.ext hC3
 have h1 := h1.ext hC3
 have hC := hC.ext hC3
 have hO := hO.new1 hC3 eg3 hb3.lt
 obtain ⟨w4, g4, ew4, eg4, hC4, hb4⟩ := new_block w3 [(.int .i64 b.1), (.slice pa1 pn1 pc1)] 81
 refine pl_val (w' := w4) (.pointer (some ⟨g4, 0, none⟩)) (y_box rfl (by rw [ew4, eg4]; kernel_rfl)) ?_
 have h0 := h0.ext hC4
 have h1 := h1.ext hC4
 have hb3 := hb3.chg hC4 (fun h => nomatch h)
 have hC := hC.ext hC4
 have hO := hO.new1 hC4 eg4 hb4.lt
 refine pl_val (.bool false) (y_assign rfl) ?_
 refine c_nil ?_
 refine c_seq ?_
 refine c_seq (c_region ?_)
 refine pl_val (.pointer (some ⟨g3, 0, none⟩)) (y_faddr rfl Fa81x0) ?_
 refine pl_val (.int .i64 a_.1) (y_load rfl ((box_load Ag3 Sz3 hb3 [] [(.int .i64 a_.1)] [(.slice pa0 pn0 pc0)] rfl rfl (fun _ => rfl)) _ (Chg.refl _ _))) ?_
 refine pl_val (.pointer (some ⟨g4, 0, none⟩)) (y_faddr rfl Fa81x0) ?_
 refine pl_val (.int .i64 b.1) (y_load rfl ((box_load Ag3 Sz3 hb4 [] [(.int .i64 b.1)] [(.slice pa1 pn1 pc1)] rfl rfl (fun _ => rfl)) _ (Chg.refl _ _))) ?_
 refine pl_val (.bool (a_.1 != b.1)) (y_neq rfl rfl) ?_
 refine c_nil ?_
 rcases bif_some hs with ⟨hc5, hs⟩ | ⟨hc5, hs⟩
 ·skip
  refine c_condT (congrArg Value.bool hc5) ?_
  refine c_seq (c_region ?_)
  refine pl_val (.bool false) (y_assign rfl) ?_
  refine c_nil ?_
  refine wp_ret ?_
  cases hs
  exact ⟨_, fr_ovl 16 ⟨rfl, trivial⟩, hC⟩
 ·skip
  refine c_condF (congrArg Value.bool hc5) ?_
  refine wp_skip ?_
  refine c_seq ?_
  refine c_seq (c_region ?_)
  refine pl_val (.pointer (some ⟨g3, 1, none⟩)) (y_faddr rfl Fa81x1) ?_
  refine pl_val (.slice pa0 pn0 pc0) (y_load rfl ((box_load Ag22 Sz22 hb3 [(.int .i64 a_.1)] [(.slice pa0 pn0 pc0)] [] rfl rfl (fun _ => rfl)) _ (Chg.refl _ _))) ?_
  refine pl_val (.pointer (some ⟨g4, 1, none⟩)) (y_faddr rfl Fa81x1) ?_
  refine pl_val (.slice pa1 pn1 pc1) (y_load rfl ((box_load Ag22 Sz22 hb4 [(.int .i64 b.1)] [(.slice pa1 pn1 pc1)] [] rfl rfl (fun _ => rfl)) _ (Chg.refl _ _))) ?_
  obtain ⟨r7, hr7, hs⟩ := bind_some hs
  refine pl_call Bd16 rfl (c_laws_eqIntS (M := M) a_.2 b.2 h0 h1 hO.fut hr7) ?_
  rintro _ w6 ⟨rfl, hC6⟩
  have h0 := h0.ext hC6
  have h1 := h1.ext hC6
  have hb3 := hb3.chg hC6 (fun h => nomatch h)
  have hb4 := hb4.chg hC6 (fun h => nomatch h)
  have hC := hC.ext hC6
  have hO := hO.ext hC6
  refine pl_val (.bool (!r7)) (y_not rfl) ?_
  refine c_nil ?_
  rcases bif_some hs with ⟨hc8, hs⟩ | ⟨hc8, hs⟩
  ·skip
   refine c_condT (congrArg Value.bool hc8) ?_
   refine c_seq (c_region ?_)
   refine pl_val (.bool false) (y_assign rfl) ?_
   refine c_nil ?_
   refine wp_ret ?_
   cases hs
   exact ⟨_, fr_ovl 16 ⟨rfl, trivial⟩, hC⟩
  ·skip
   refine c_condF (congrArg Value.bool hc8) ?_
   refine wp_skip ?_
   refine c_seq (c_region ?_)
   refine pl_val (.bool true) (y_assign rfl) ?_
   refine c_nil ?_
   refine wp_ret ?_
   cases hs
   exact ⟨_, fr_ovl 16 ⟨rfl, trivial⟩, hC⟩

theorem Bd85 : Bodied Try.prog 85 := bodied Try.func85 (by kernel_rfl) rfl

def k_laws_eqOpS (M : Nat → Prop) (w0 : World) (r : Bool) (a : Act) (w : World) : Prop :=
  ∃ (σ : Nat → Value) , a = fr 27 (ovl σ [(4, (.bool r))]) ∧ Chg [] w0 w
def s_laws_eqOpS (a_ : List (Int × (List Int))) (b : List (Int × (List Int))) : Option (Bool) :=
  (bif ((a_.length : Int) != (b.length : Int)) then some false else (forC (S := Unit) (R := Bool) (fun k18 s16 =>
  (idx a_ k18).bind fun x23 =>
  (idx b k18).bind fun x27 =>
  (s_laws_eqOp (x23.1, x23.2) (x27.1, x27.2)).bind fun r32 =>
  (bif (!r32) then some (.rt false) else some (.nx ()))) 0 (a_.length : Int) ()).bind fun o20 => after o20 (fun r_ => some r_) (fun s16 =>
  some true))
set_option maxHeartbeats 4000000 in
theorem c_laws_eqOpS {M : Nat → Prop} {w : World} {pa0 : Option Addr} {pn0 pc0 : Nat} {pa1 : Option Addr} {pn1 pc1 : Nat} (a_ : List (Int × (List Int))) (b : List (Int × (List Int))) (h0 : (RT.rs (RT.pr (RT.int .i64) (RT.rs (RT.int .i64)))).val M w (.slice pa0 pn0 pc0) a_ ([])) (h1 : (RT.rs (RT.pr (RT.int .i64) (RT.rs (RT.int .i64)))).val M w (.slice pa1 pn1 pc1) b ([])) (hM : ∀ g, w.heap.size ≤ g → M g) {r : Bool} (hs : s_laws_eqOpS a_ b = some r) :
    Gives Try.prog 55 [(.slice pa0 pn0 pc0), (.slice pa1 pn1 pc1)] w (fun v w' => v = (.bool r) ∧ Chg [] w w') := by
 refine calls_fr Try.func55 rfl Try.ntmps55 (Nat.le_of_ble_eq_true rfl) ?_
 have hO := Own.start (N := Nw w []) hM Nw.fut
 have hC := Chg.refl [] w
 unfold s_laws_eqOpS at hs
 refine wp_mono (Q := KPost (k_laws_eqOpS M w r)) ?_ (fun e a w1 h => ?_)
 rotate_left
 ·cases e
  case ret =>
   obtain ⟨σ, rfl, hrest⟩ := h
   exact ret1x Try.results55 (res_tmp rfl) ⟨rfl, hrest⟩
  all_goals exact (h : False).elim
 refine c_seq (c_region ?_)
 refine pl_val (.bool false) (y_assign rfl) ?_
 refine c_nil ?_
 refine c_seq ?_
 refine c_seq (c_region ?_)
 refine pl_val (.slice pa0 pn0 pc0) (y_move rfl) ?_
 refine pl_val (.int .i64 (a_.length : Int)) (y_len' Sl33 (rs_len h0) rfl) ?_
 refine pl_val (.slice pa1 pn1 pc1) (y_move rfl) ?_
 refine pl_val (.int .i64 (b.length : Int)) (y_len' Sl33 (rs_len h1) rfl) ?_
 refine pl_val (.bool ((a_.length : Int) != (b.length : Int))) (y_neq rfl rfl) ?_
 refine c_nil ?_
 rcases bif_some hs with ⟨hc3, hs⟩ | ⟨hc3, hs⟩
 ·skip
  refine c_condT (congrArg Value.bool hc3) ?_
  refine c_seq (c_region ?_)
  refine pl_val (.bool false) (y_assign rfl) ?_
  refine c_nil ?_
  refine wp_ret ?_
  cases hs
  exact ⟨_, fr_ovl 27 ⟨rfl, trivial⟩, hC⟩
 ·skip
  refine c_condF (congrArg Value.bool hc3) ?_
  refine wp_skip ?_
  refine c_seq ?_
  refine c_seq (c_region ?_)
  refine pl_val (.int .i64 0) (y_assign rfl) ?_
  refine c_nil ?_
  obtain ⟨o20, hl21, hs⟩ := bind_some hs
  refine wp_block ?_
  refine wp_forC (id := 0) (a_.length : Int) (I := fun k18 s16 a w17 => ∃ (σ : Nat → Value), a = fr 27 (ovl σ [(0, (.slice pa0 pn0 pc0)), (1, (.slice pa1 pn1 pc1)), (5, (.int .i64 k18))]) ∧ Chg [] w w17 ∧ Own (Nw w []) M w17 ([]) ∧ (RT.rs (RT.pr (RT.int .i64) (RT.rs (RT.int .i64)))).val M w17 (.slice pa0 pn0 pc0) a_ ([]) ∧ (RT.rs (RT.pr (RT.int .i64) (RT.rs (RT.int .i64)))).val M w17 (.slice pa1 pn1 pc1) b ([])) (J := fun s16 a w17 => ∃ (σ : Nat → Value), a = fr 27 (ovl σ []) ∧ Chg [] w w17 ∧ Own (Nw w []) M w17 ([]) ∧ (RT.rs (RT.pr (RT.int .i64) (RT.rs (RT.int .i64)))).val M w17 (.slice pa0 pn0 pc0) a_ ([]) ∧ (RT.rs (RT.pr (RT.int .i64) (RT.rs (RT.int .i64)))).val M w17 (.slice pa1 pn1 pc1) b ([])) (K := (k_laws_eqOpS M w)) ?_ ?_ 0 () o20 _ _ ?_ hl21 ?_
  ·rintro k18 s16 a w17 ⟨σ, rfl, hC, hO, h0, h1⟩ hlt
   refine c_seq ?_
   refine c_seq (c_region ?_)
   refine pl_val (.int .i64 k18) (y_move rfl) ?_
   refine pl_val (.slice pa0 pn0 pc0) (y_move rfl) ?_
   refine pl_val (.int .i64 (a_.length : Int)) (y_len' Sl33 (rs_len h0) rfl) ?_
   refine pl_val (.bool (decide (k18 < (a_.length : Int)))) (y_lss rfl rfl) ?_
   refine c_nil ?_
   refine c_condF (congrArg Value.bool (decide_eq_false hlt)) ?_
   refine wp_exit ?_
   exact ⟨rfl, _, fr_ovl 27 trivial, hC, hO, h0, h1⟩
  ·rintro k18 s16 o20 a w17 ⟨σ, rfl, hC, hO, h0, h1⟩ hlt hw hs
   refine c_seq ?_
   refine c_seq (c_region ?_)
   refine pl_val (.int .i64 k18) (y_move rfl) ?_
   refine pl_val (.slice pa0 pn0 pc0) (y_move rfl) ?_
   refine pl_val (.int .i64 (a_.length : Int)) (y_len' Sl33 (rs_len h0) rfl) ?_
   refine pl_val (.bool (decide (k18 < (a_.length : Int)))) (y_lss rfl rfl) ?_
   refine c_nil ?_
   refine c_condT (congrArg Value.bool (decide_eq_true hlt)) ?_
   refine wp_skip ?_
   refine c_seq ?_
   refine wp_block ?_
   refine c_seq ?_
   refine x_start [] Mx rfl ?_
   have hCw22 := Chg.drew w17
   generalize World.drew w17 = w22 at hCw22 ⊢
   have h0 := h0.ext hCw22
   have h1 := h1.ext hCw22
   have hC := hC.ext hCw22
   have hO := hO.ext hCw22
   have hS := Chg.refl [] w22
   refine x_p 0 (.slice pa0 pn0 pc0) rfl (by kernel_rfl)  (fun _ => y_move rfl) (fun _ => hS) ?_
   refine x_p 1 (.int .i64 k18) rfl (by kernel_rfl)  (fun _ => y_move rfl) (fun _ => hS) ?_
   obtain ⟨x23, hx23, hs⟩ := bind_some hs
   obtain ⟨b24, o24, hp24, ha24⟩ := rs_idx Sl33 Sz81 h0 hx23
   refine x_p 2 (.pointer (some ⟨b24, o24, none⟩)) rfl (by kernel_rfl)  (fun _ => hp24 _ _ _ _ _ _ _ _ _ rfl rfl) (fun _ => hS) ?_
   obtain ⟨v25, hl25, hv25⟩ := at_load Ag81 Sz81 (by intro h; cases h) ha24
   obtain ⟨cs25, rfl, hr25⟩ := hv25
   obtain ⟨cc25x1, cd25x1, rfl, hh25x1, ht25x1⟩ := pr_open hr25
   obtain rfl := int_rel hh25x1
   obtain ⟨a25x2, n25x2, c25x2, rfl, hv25x2⟩ := rs_rel ht25x1
   refine x_l 3 (.agg #[(.int .i64 x23.1), (.slice a25x2 n25x2 c25x2)]) rfl (by kernel_rfl)  (fun w' hw' => y_load rfl (hl25 w' hw')) hS ?_
   refine x_p 4 (.slice pa1 pn1 pc1) rfl (by kernel_rfl)  (fun _ => y_move rfl) (fun _ => hS) ?_
   refine x_p 5 (.int .i64 k18) rfl (by kernel_rfl)  (fun _ => y_move rfl) (fun _ => hS) ?_
   obtain ⟨x27, hx27, hs⟩ := bind_some hs
   obtain ⟨b28, o28, hp28, ha28⟩ := rs_idx Sl33 Sz81 h1 hx27
   refine x_p 6 (.pointer (some ⟨b28, o28, none⟩)) rfl (by kernel_rfl)  (fun _ => hp28 _ _ _ _ _ _ _ _ _ rfl rfl) (fun _ => hS) ?_
   obtain ⟨v29, hl29, hv29⟩ := at_load Ag81 Sz81 (by intro h; cases h) ha28
   obtain ⟨cs29, rfl, hr29⟩ := hv29
   obtain ⟨cc29x1, cd29x1, rfl, hh29x1, ht29x1⟩ := pr_open hr29
   obtain rfl := int_rel hh29x1
   obtain ⟨a29x2, n29x2, c29x2, rfl, hv29x2⟩ := rs_rel ht29x1
   refine x_l 7 (.agg #[(.int .i64 x27.1), (.slice a29x2 n29x2 c29x2)]) rfl (by kernel_rfl)  (fun w' hw' => y_load rfl (hl29 w' hw')) hS ?_
   refine x_one (i := 8) (by kernel_rfl) ?_
   obtain ⟨r32, hr32, hs⟩ := bind_some hs
   refine xk_call (b := false) rfl  Bd85 rfl (c_laws_eqOp (M := M) (x23.1, x23.2) (x27.1, x27.2) hv25x2 hv29x2 hO.fut hr32) rfl (by rintro _ _ _ ⟨rfl, hC31⟩; exact hS.ext hC31) ?_
   rintro _ w31 ⟨rfl, hC31⟩
   have h0 := h0.ext hC31
   have h1 := h1.ext hC31
   have hv25x2 := hv25x2.ext hC31
   have hv29x2 := hv29x2.ext hC31
   have hC := hC.ext hC31
   have hO := hO.ext hC31
   have hS := hS.ext hC31
   refine x_p 9 (.bool (!r32)) rfl (by kernel_rfl)  (fun _ => y_not rfl) (fun _ => hS) ?_
   refine x_end (by kernel_rfl) ?_
   clear hS
   rcases bif_some hs with ⟨hc33, hs⟩ | ⟨hc33, hs⟩
   ·skip
    refine c_condT (congrArg Value.bool hc33) ?_
    refine c_seq (c_region ?_)
    refine pl_val (.bool false) (y_assign rfl) ?_
    refine c_nil ?_
    refine wp_ret ?_
    cases hs
    exact ⟨_, fr_ovl 27 ⟨rfl, trivial⟩, hC⟩
   ·skip
    refine c_condF (congrArg Value.bool hc33) ?_
    refine wp_skip ?_
    refine c_region ?_
    refine pl_val (.int .i64 k18) (y_move rfl) ?_
    refine pl_val (.int .i64 (w64 (k18 + 1))) (y_add rfl rfl) ?_
    refine pl_val (.int .i64 (w64 (k18 + 1))) (y_assign rfl) ?_
    refine c_nil ?_
    cases hs
    exact ⟨_, fr_ovl 27 ⟨rfl, rfl, congrArg (Value.int .i64) hw, trivial⟩, hC, hO, h0, h1⟩
  ·skip
   exact ⟨_, fr_ovl 27 ⟨rfl, rfl, rfl, trivial⟩, hC, hO, h0, h1⟩
  ·cases o20 with
   | nx _ => exact True.intro
   | rt r_ =>
    have hs := after_rt hs
    intro a1 w1 hK
    cases hs
    exact hK
   | br s16 =>
    have hs := after_br hs
    rintro a1 w17 ⟨σ, rfl, hC, hO, h0, h1⟩
    refine c_seq (c_region ?_)
    refine pl_val (.bool true) (y_assign rfl) ?_
    refine c_nil ?_
    refine wp_ret ?_
    cases hs
    exact ⟨_, fr_ovl 27 ⟨rfl, trivial⟩, hC⟩

theorem Bd55 : Bodied Try.prog 55 := bodied Try.func55 (by kernel_rfl) rfl

def k_laws_eqAlgebra (M : Nat → Prop) (w0 : World) (r : Bool) (a : Act) (w : World) : Prop :=
  ∃ (σ : Nat → Value) , a = fr 16 (ovl σ [(4, (.bool r))]) ∧ Chg [] w0 w
def s_laws_eqAlgebra (a_ : Int × (List (Int × (List Int)))) (b : Int × (List (Int × (List Int)))) : Option (Bool) :=
  (bif (a_.1 != b.1) then some false else (s_laws_eqOpS a_.2 b.2).bind fun r7 =>
  (bif (!r7) then some false else some true))
set_option maxHeartbeats 4000000 in
theorem c_laws_eqAlgebra {M : Nat → Prop} {w : World} {pa0 : Option Addr} {pn0 pc0 : Nat} {pa1 : Option Addr} {pn1 pc1 : Nat} (a_ : Int × (List (Int × (List Int)))) (b : Int × (List (Int × (List Int)))) (h0 : (RT.rs (RT.pr (RT.int .i64) (RT.rs (RT.int .i64)))).val M w (.slice pa0 pn0 pc0) a_.2 ([])) (h1 : (RT.rs (RT.pr (RT.int .i64) (RT.rs (RT.int .i64)))).val M w (.slice pa1 pn1 pc1) b.2 ([])) (hM : ∀ g, w.heap.size ≤ g → M g) {r : Bool} (hs : s_laws_eqAlgebra a_ b = some r) :
    Gives Try.prog 21 [(.agg #[(.int .i64 a_.1), (.slice pa0 pn0 pc0)]), (.agg #[(.int .i64 b.1), (.slice pa1 pn1 pc1)])] w (fun v w' => v = (.bool r) ∧ Chg [] w w') := by
 refine calls_fr Try.func21 rfl Try.ntmps21 (Nat.le_of_ble_eq_true rfl) ?_
 have hO := Own.start (N := Nw w []) hM Nw.fut
 have hC := Chg.refl [] w
 unfold s_laws_eqAlgebra at hs
 refine wp_mono (Q := KPost (k_laws_eqAlgebra M w r)) ?_ (fun e a w1 h => ?_)
 rotate_left
 ·cases e
  case ret =>
   obtain ⟨σ, rfl, hrest⟩ := h
   exact ret1x Try.results21 (res_tmp rfl) ⟨rfl, hrest⟩
  all_goals exact (h : False).elim
 refine c_seq (c_region ?_)
 obtain ⟨w3, g3, ew3, eg3, hC3, hb3⟩ := new_block w [(.int .i64 a_.1), (.slice pa0 pn0 pc0)] 35
 refine pl_val (w' := w3) (.pointer (some ⟨g3, 0, none⟩)) (y_box rfl (by rw [ew3, eg3]; kernel_rfl)) ?_
 have h0 := h0.ext hC3
 have h1 := h1.ext hC3
 have hC := hC.ext hC3
 have hO := hO.new1 hC3 eg3 hb3.lt
 obtain ⟨w4, g4, ew4, eg4, hC4, hb4⟩ := new_block w3 [(.int .i64 b.1), (.slice pa1 pn1 pc1)] 35
 refine pl_val (w' := w4) (.pointer (some ⟨g4, 0, none⟩)) (y_box rfl (by rw [ew4, eg4]; kernel_rfl)) ?_
 have h0 := h0.ext hC4
 have h1 := h1.ext hC4
 have hb3 := hb3.chg hC4 (fun h => nomatch h)
 have hC := hC.ext hC4
 have hO := hO.new1 hC4 eg4 hb4.lt
 refine pl_val (.bool false) (y_assign rfl) ?_
 refine c_nil ?_
 refine c_seq ?_
 refine c_seq (c_region ?_)
 refine pl_val (.pointer (some ⟨g3, 0, none⟩)) (y_faddr rfl Fa35x0) ?_
 refine pl_val (.int .i64 a_.1) (y_load rfl ((box_load Ag3 Sz3 hb3 [] [(.int .i64 a_.1)] [(.slice pa0 pn0 pc0)] rfl rfl (fun _ => rfl)) _ (Chg.refl _ _))) ?_
 refine pl_val (.pointer (some ⟨g4, 0, none⟩)) (y_faddr rfl Fa35x0) ?_
 refine pl_val (.int .i64 b.1) (y_load rfl ((box_load Ag3 Sz3 hb4 [] [(.int .i64 b.1)] [(.slice pa1 pn1 pc1)] rfl rfl (fun _ => rfl)) _ (Chg.refl _ _))) ?_
 refine pl_val (.bool (a_.1 != b.1)) (y_neq rfl rfl) ?_
 refine c_nil ?_
 rcases bif_some hs with ⟨hc5, hs⟩ | ⟨hc5, hs⟩
 ·skip
  refine c_condT (congrArg Value.bool hc5) ?_
  refine c_seq (c_region ?_)
  refine pl_val (.bool false) (y_assign rfl) ?_
  refine c_nil ?_
  refine wp_ret ?_
  cases hs
  exact ⟨_, fr_ovl 16 ⟨rfl, trivial⟩, hC⟩
 ·skip
  refine c_condF (congrArg Value.bool hc5) ?_
  refine wp_skip ?_
  refine c_seq ?_
  refine c_seq (c_region ?_)
  refine pl_val (.pointer (some ⟨g3, 1, none⟩)) (y_faddr rfl Fa35x1) ?_
  refine pl_val (.slice pa0 pn0 pc0) (y_load rfl ((box_load Ag33 Sz33 hb3 [(.int .i64 a_.1)] [(.slice pa0 pn0 pc0)] [] rfl rfl (fun _ => rfl)) _ (Chg.refl _ _))) ?_
  refine pl_val (.pointer (some ⟨g4, 1, none⟩)) (y_faddr rfl Fa35x1) ?_
  refine pl_val (.slice pa1 pn1 pc1) (y_load rfl ((box_load Ag33 Sz33 hb4 [(.int .i64 b.1)] [(.slice pa1 pn1 pc1)] [] rfl rfl (fun _ => rfl)) _ (Chg.refl _ _))) ?_
  obtain ⟨r7, hr7, hs⟩ := bind_some hs
  refine pl_call Bd55 rfl (c_laws_eqOpS (M := M) a_.2 b.2 h0 h1 hO.fut hr7) ?_
  rintro _ w6 ⟨rfl, hC6⟩
  have h0 := h0.ext hC6
  have h1 := h1.ext hC6
  have hb3 := hb3.chg hC6 (fun h => nomatch h)
  have hb4 := hb4.chg hC6 (fun h => nomatch h)
  have hC := hC.ext hC6
  have hO := hO.ext hC6
  refine pl_val (.bool (!r7)) (y_not rfl) ?_
  refine c_nil ?_
  rcases bif_some hs with ⟨hc8, hs⟩ | ⟨hc8, hs⟩
  ·skip
   refine c_condT (congrArg Value.bool hc8) ?_
   refine c_seq (c_region ?_)
   refine pl_val (.bool false) (y_assign rfl) ?_
   refine c_nil ?_
   refine wp_ret ?_
   cases hs
   exact ⟨_, fr_ovl 16 ⟨rfl, trivial⟩, hC⟩
  ·skip
   refine c_condF (congrArg Value.bool hc8) ?_
   refine wp_skip ?_
   refine c_seq (c_region ?_)
   refine pl_val (.bool true) (y_assign rfl) ?_
   refine c_nil ?_
   refine wp_ret ?_
   cases hs
   exact ⟨_, fr_ovl 16 ⟨rfl, trivial⟩, hC⟩

theorem Ag30 : AggT Try.prog 30 true := fun _ => by kernel_rfl

theorem Sz30 : SzT Try.prog 30 2 := ⟨_, rfl, rfl⟩

theorem Bd17 : Bodied Try.prog 17 := bodied Try.func17 (by kernel_rfl) rfl

theorem Bd19 : Bodied Try.prog 19 := bodied Try.func19 (by kernel_rfl) rfl

theorem Bd40 : Bodied Try.prog 40 := bodied Try.func40 (by kernel_rfl) rfl

theorem Bd41 : Bodied Try.prog 41 := bodied Try.func41 (by kernel_rfl) rfl

theorem Bd21 : Bodied Try.prog 21 := bodied Try.func21 (by kernel_rfl) rfl

def k_laws_FnExactPermutingRank (M : Nat → Prop) (w0 : World) (r : Bool) (a : Act) (w : World) : Prop :=
  ∃ (σ : Nat → Value) , a = fr 40 (ovl σ [(2, (.bool r))]) ∧ Chg [] w0 w
def s_laws_FnExactPermutingRank (aA : Int × (List (Int × (List Int)))) : Option (Bool) :=
  (s_laws_szAlgebra (aA.1, aA.2) 1048576).bind fun r4 =>
  (bif (decide (r4 < 0)) then some true else (s_laws_toAlgebra (aA.1, aA.2)).bind fun r7 =>
  (s_spec_PermutingRank (r7.1, r7.2)).bind fun r10 =>
  (s_laws_toAlgebra (aA.1, aA.2)).bind fun r12 =>
  (s_impl_PermutingRank (r12.1, r12.2)).bind fun r17 =>
  (bif ((r17.1 != r10.1) || (!(r17.2 == r10.2))) then some false else (s_laws_toAlgebra (aA.1, aA.2)).bind fun r25 =>
  (s_laws_eqAlgebra (r12.1, r12.2) (r25.1, r25.2)).bind fun r28 =>
  (bif (!r28) then some false else some true)))
set_option maxHeartbeats 4000000 in
theorem c_laws_FnExactPermutingRank {M : Nat → Prop} {w : World} {pa0 : Option Addr} {pn0 pc0 : Nat} (aA : Int × (List (Int × (List Int)))) (h0 : (RT.rs (RT.pr (RT.int .i64) (RT.rs (RT.int .i64)))).val M w (.slice pa0 pn0 pc0) aA.2 ([])) (hM : ∀ g, w.heap.size ≤ g → M g) {r : Bool} (hs : s_laws_FnExactPermutingRank aA = some r) :
    Gives Try.prog 11 [(.agg #[(.int .i64 aA.1), (.slice pa0 pn0 pc0)])] w (fun v w' => v = (.bool r) ∧ Chg [] w w') := by
 refine calls_fr Try.func11 rfl Try.ntmps11 (Nat.le_of_ble_eq_true rfl) ?_
 have hO := Own.start (N := Nw w []) hM Nw.fut
 have hC := Chg.refl [] w
 unfold s_laws_FnExactPermutingRank at hs
 refine wp_mono (Q := KPost (k_laws_FnExactPermutingRank M w r)) ?_ (fun e a w1 h => ?_)
 rotate_left
 ·cases e
  case ret =>
   obtain ⟨σ, rfl, hrest⟩ := h
   exact ret1x Try.results11 (res_tmp rfl) ⟨rfl, hrest⟩
  all_goals exact (h : False).elim
 refine c_seq (c_region ?_)
 obtain ⟨w2, g2, ew2, eg2, hC2, hb2⟩ := new_block w [(.int .i64 aA.1), (.slice pa0 pn0 pc0)] 30
 refine pl_val (w' := w2) (.pointer (some ⟨g2, 0, none⟩)) (y_box rfl (by rw [ew2, eg2]; kernel_rfl)) ?_
 have h0 := h0.ext hC2
 have hC := hC.ext hC2
 have hO := hO.new1 hC2 eg2 hb2.lt
 refine pl_val (.bool false) (y_assign rfl) ?_
 refine c_nil ?_
 refine c_seq (c_region ?_)
 refine pl_val (.int .i64 1048576) (y_assign rfl) ?_
 refine c_nil ?_
 refine c_seq (c_region ?_)
 refine pl_val (.agg #[(.int .i64 aA.1), (.slice pa0 pn0 pc0)]) (y_load rfl ((box_load Ag30 Sz30 hb2 [] [(.int .i64 aA.1), (.slice pa0 pn0 pc0)] [] rfl rfl (fun h => nomatch h)) _ (Chg.refl _ _))) ?_
 refine pl_val (.int .i64 1048576) (y_move rfl) ?_
 obtain ⟨r4, hr4, hs⟩ := bind_some hs
 refine pl_call Bd17 rfl (c_laws_szAlgebra (M := M) (aA.1, aA.2) 1048576 h0 hO.fut hr4) ?_
 rintro _ w3 ⟨rfl, hC3⟩
 have h0 := h0.ext hC3
 have hb2 := hb2.chg hC3 (fun h => nomatch h)
 have hC := hC.ext hC3
 have hO := hO.ext hC3
 refine pl_val (.int .i64 r4) (y_assign rfl) ?_
 refine c_nil ?_
 refine c_seq ?_
 refine c_seq (c_region ?_)
 refine pl_val (.int .i64 r4) (y_move rfl) ?_
 refine pl_val (.bool (decide (r4 < 0))) (y_lss rfl rfl) ?_
 refine c_nil ?_
 rcases bif_some hs with ⟨hc5, hs⟩ | ⟨hc5, hs⟩
 ·skip
  refine c_condT (congrArg Value.bool hc5) ?_
  refine c_seq (c_region ?_)
  refine pl_val (.bool true) (y_assign rfl) ?_
  refine c_nil ?_
  refine wp_ret ?_
  cases hs
  exact ⟨_, fr_ovl 40 ⟨rfl, trivial⟩, hC⟩
 ·skip
  refine c_condF (congrArg Value.bool hc5) ?_
  refine wp_skip ?_
  refine c_seq (c_region ?_)
  refine pl_val (.agg #[(.int .i64 aA.1), (.slice pa0 pn0 pc0)]) (y_load rfl ((box_load Ag30 Sz30 hb2 [] [(.int .i64 aA.1), (.slice pa0 pn0 pc0)] [] rfl rfl (fun h => nomatch h)) _ (Chg.refl _ _))) ?_
  obtain ⟨r7, hr7, hs⟩ := bind_some hs
  refine pl_call Bd19 rfl (c_laws_toAlgebra (M := M) (aA.1, aA.2) h0 hO.fut hr7) ?_
  rintro _ w6 ⟨a6x0, n6x0, c6x0, f6x0, rfl, hC6, hv6x0, hOc6⟩
  have h0 := h0.ext hC6
  have hb2 := hb2.chg hC6 (fun h => nomatch h)
  have hC := hC.ext hC6
  have hO := Own.join0 hO hC6 hOc6
  have hO := hO.perm (R := f6x0 ++ (([g2]) ++ ([]))) (by simp)
  obtain ⟨r10, hr10, hs⟩ := bind_some hs
  refine pl_call Bd40 rfl (c_spec_PermutingRank (M := (Less M f6x0)) (r7.1, r7.2) (((Frz.os (Frz.pr Frz.int (Frz.os Frz.int)))).val hv6x0 Less.sub Less.not) hO.less.fut hr10) ?_
  rintro _ w9 ⟨rfl, hC9⟩
  have h0 := h0.ext hC9
  have hb2 := hb2.chg hC9 (fun h => nomatch h)
  have hv6x0 := hv6x0.ext hC9
  have hC := hC.ext hC9
  have hO := hO.ext hC9
  refine pl_val (.tuple #[(.int .i64 r10.1), (.bool r10.2)]) (y_move rfl) ?_
  refine pl_val (.int .i64 r10.1) (y_extract rfl (by kernel_rfl)) ?_
  refine pl_val (.bool r10.2) (y_extract rfl (by kernel_rfl)) ?_
  refine pl_val (.int .i64 r10.1) (y_assign rfl) ?_
  refine pl_val (.bool r10.2) (y_assign rfl) ?_
  refine c_nil ?_
  refine c_seq (c_region ?_)
  refine pl_val (.agg #[(.int .i64 aA.1), (.slice pa0 pn0 pc0)]) (y_load rfl ((box_load Ag30 Sz30 hb2 [] [(.int .i64 aA.1), (.slice pa0 pn0 pc0)] [] rfl rfl (fun h => nomatch h)) _ (Chg.refl _ _))) ?_
  obtain ⟨r12, hr12, hs⟩ := bind_some hs
  refine pl_call Bd19 rfl (c_laws_toAlgebra (M := M) (aA.1, aA.2) h0 hO.fut hr12) ?_
  rintro _ w11 ⟨a11x0, n11x0, c11x0, f11x0, rfl, hC11, hv11x0, hOc11⟩
  have h0 := h0.ext hC11
  have hb2 := hb2.chg hC11 (fun h => nomatch h)
  have hv6x0 := hv6x0.ext hC11
  have hC := hC.ext hC11
  have hO := Own.join0 hO hC11 hOc11
  have hO := hO.perm (R := f11x0 ++ (f6x0 ++ (([g2]) ++ ([])))) (by simp)
  obtain ⟨w14, g14, ew14, eg14, hC14, hb14⟩ := new_block w11 [(.int .i64 0), (.slice none 0 0)] 35
  refine pl_val (w' := w14) (.pointer (some ⟨g14, 0, none⟩)) (y_alloc (by rw [ew14, eg14]; kernel_rfl)) ?_
  have h0 := h0.ext hC14
  have hb2 := hb2.chg hC14 (fun h => nomatch h)
  have hv6x0 := hv6x0.ext hC14
  have hv11x0 := hv11x0.ext hC14
  have hC := hC.ext hC14
  have hO := hO.new1 hC14 eg14 hb14.lt
  obtain ⟨w15, hst15, hC15, hb15⟩ := box_store (P := Try.prog) hb14 [] [(.int .i64 0), (.slice none 0 0)] [] [(.int .i64 r12.1), (.slice a11x0 n11x0 c11x0)] rfl rfl (by intro u hu; simp only [List.mem_cons, List.not_mem_nil, or_false] at hu; rcases hu with rfl | rfl <;> rfl)
  refine pl_skip (w' := w15) (ys_store rfl rfl (hst15 _ _ rfl Sz35)) ?_
  have h0 := h0.mut hC15 (fun g hg => hO.inM g ((fun _ h => h) g hg)) (fun _ _ h => nomatch h)
  have hb2 := hb2.chg hC15 (fun hg => hO.apart _ ((fun _ h => h) _ hg) (mem_r (mem_r (mem_l (List.mem_singleton.2 rfl)))))
  have hv6x0 := hv6x0.mut hC15 (fun g hg => hO.inM g ((fun _ h => h) g hg)) (fun g hg e => hO.apart g ((fun _ h => h) g hg) (mem_r (mem_l (e))))
  have hv11x0 := hv11x0.mut hC15 (fun g hg => hO.inM g ((fun _ h => h) g hg)) (fun g hg e => hO.apart g ((fun _ h => h) g hg) (mem_l (e)))
  have hC := hC.step hC15 (fun g hg => hO.inN g ((fun _ h => h) g hg))
  have hO := hO.ext hC15
  have hb15 : BoxV w15 g14 35 [(.int .i64 r12.1), (.slice a11x0 n11x0 c11x0)] := hb15
  refine c_nil ?_
  refine c_seq (c_region ?_)
  refine pl_val (.agg #[(.int .i64 r12.1), (.slice a11x0 n11x0 c11x0)]) (y_load rfl ((box_load Ag35 Sz35 hb15 [] [(.int .i64 r12.1), (.slice a11x0 n11x0 c11x0)] [] rfl rfl (fun h => nomatch h)) _ (Chg.refl _ _))) ?_
  have hO := hO.fr1
  obtain ⟨r17, hr17, hs⟩ := bind_some hs
  refine pl_call Bd41 rfl (c_impl_PermutingRank (M := (Less M f11x0)) (r12.1, r12.2) (((Frz.os (Frz.pr Frz.int (Frz.os Frz.int)))).val hv11x0 Less.sub Less.not) hO.less.fut hr17) ?_
  rintro _ w16 ⟨rfl, hC16⟩
  have h0 := h0.ext hC16
  have hb2 := hb2.chg hC16 (fun h => nomatch h)
  have hv6x0 := hv6x0.ext hC16
  have hv11x0 := hv11x0.ext hC16
  have hb15 := hb15.chg hC16 (fun h => nomatch h)
  have hC := hC.ext hC16
  have hO := hO.ext hC16
  refine pl_val (.tuple #[(.int .i64 r17.1), (.bool r17.2)]) (y_move rfl) ?_
  refine pl_val (.int .i64 r17.1) (y_extract rfl (by kernel_rfl)) ?_
  refine pl_val (.bool r17.2) (y_extract rfl (by kernel_rfl)) ?_
  refine pl_val (.int .i64 r17.1) (y_assign rfl) ?_
  refine pl_val (.bool r17.2) (y_assign rfl) ?_
  refine c_nil ?_
  refine c_seq ?_
  refine c_seq ?_
  refine c_mid (I := fun a w19 => ∃ (σ : Nat → Value), a = fr 40 (ovl σ [(1, (.pointer (some ⟨g2, 0, none⟩))), (2, (.bool false)), (6, (.pointer (some ⟨g14, 0, none⟩))), (34, (.bool ((r17.1 != r10.1) || (!(r17.2 == r10.2)))))]) ∧ Chg [] w16 w19) ?_ ?_
  ·have hMid := Chg.refl [] w16
   refine c_region ?_
   refine pl_val (.int .i64 r17.1) (y_move rfl) ?_
   refine pl_val (.int .i64 r10.1) (y_move rfl) ?_
   refine pl_val (.bool (r17.1 != r10.1)) (y_neq rfl rfl) ?_
   refine pl_val (.bool (r17.1 != r10.1)) (y_move rfl) ?_
   rcases Bool.eq_false_or_eq_true ((r17.1 != r10.1)) with hc21 | hc21
   ·skip
    refine pl_not (tg := 30) (by kernel_rfl) (congrArg Value.bool hc21) ?_
    refine pl_not (tg := 30) (by kernel_rfl) (congrArg Value.bool hc21) ?_
    refine pl_not (tg := 30) (by kernel_rfl) (congrArg Value.bool hc21) ?_
    refine pl_val (.bool ((r17.1 != r10.1) || (!(r17.2 == r10.2)))) (y_pick_t (congrArg Value.bool hc21) (congrArg Value.bool (by rw [hc21]; rfl))) ?_
    refine c_nil ?_
    exact ⟨_, fr_ovl 40 ⟨rfl, rfl, rfl, rfl, trivial⟩, hMid⟩
   ·skip
    refine pl_yes (.bool r17.2) (tg := 30) (by kernel_rfl) (congrArg Value.bool hc21) (y_move rfl) ?_
    refine pl_yes (.bool r10.2) (tg := 30) (by kernel_rfl) (congrArg Value.bool hc21) (y_move rfl) ?_
    refine pl_yes (.bool (!(r17.2 == r10.2))) (tg := 30) (by kernel_rfl) (congrArg Value.bool hc21) (y_bneq Try.underlying4 rfl rfl) ?_
    refine pl_val (.bool ((r17.1 != r10.1) || (!(r17.2 == r10.2)))) (y_pick_f (congrArg Value.bool hc21) (congrArg Value.bool (by rw [hc21]; rfl))) ?_
    refine c_nil ?_
    exact ⟨_, fr_ovl 40 ⟨rfl, rfl, rfl, rfl, trivial⟩, hMid⟩
  ·rintro a1 w19 ⟨σ, rfl, hCs18⟩
   have h0 := h0.ext hCs18
   have hb2 := hb2.chg hCs18 (fun h => nomatch h)
   have hv6x0 := hv6x0.ext hCs18
   have hv11x0 := hv11x0.ext hCs18
   have hb15 := hb15.chg hCs18 (fun h => nomatch h)
   have hC := hC.ext hCs18
   have hO := hO.ext hCs18
   rcases bif_some hs with ⟨hc22, hs⟩ | ⟨hc22, hs⟩
   ·skip
    refine c_condT (congrArg Value.bool hc22) ?_
    refine c_seq (c_region ?_)
    refine pl_val (.bool false) (y_assign rfl) ?_
    refine c_nil ?_
    refine wp_ret ?_
    cases hs
    exact ⟨_, fr_ovl 40 ⟨rfl, trivial⟩, hC⟩
   ·skip
    refine c_condF (congrArg Value.bool hc22) ?_
    refine wp_skip ?_
    refine c_seq ?_
    refine c_seq ?_
    refine x_start [] Mx rfl ?_
    have hCw23 := Chg.drew w19
    generalize World.drew w19 = w23 at hCw23 ⊢
    have h0 := h0.ext hCw23
    have hb2 := hb2.chg hCw23 (fun h => nomatch h)
    have hv6x0 := hv6x0.ext hCw23
    have hv11x0 := hv11x0.ext hCw23
    have hb15 := hb15.chg hCw23 (fun h => nomatch h)
    have hC := hC.ext hCw23
    have hO := hO.ext hCw23
    have hS := Chg.refl [] w23
    refine x_l 0 (.agg #[(.int .i64 r12.1), (.slice a11x0 n11x0 c11x0)]) rfl (by kernel_rfl)  (fun w' hw' => y_load rfl ((box_load Ag35 Sz35 hb15 [] [(.int .i64 r12.1), (.slice a11x0 n11x0 c11x0)] [] rfl rfl (fun h => nomatch h)) w' hw')) hS ?_
    refine x_l 1 (.agg #[(.int .i64 aA.1), (.slice pa0 pn0 pc0)]) rfl (by kernel_rfl)  (fun w' hw' => y_load rfl ((box_load Ag30 Sz30 hb2 [] [(.int .i64 aA.1), (.slice pa0 pn0 pc0)] [] rfl rfl (fun h => nomatch h)) w' hw')) hS ?_
    refine x_one (i := 2) (by kernel_rfl) ?_
    obtain ⟨r25, hr25, hs⟩ := bind_some hs
    refine xk_call (b := false) rfl  Bd19 rfl (c_laws_toAlgebra (M := M) (aA.1, aA.2) h0 hO.fut hr25) rfl (by rintro _ _ _ ⟨a24x0, n24x0, c24x0, f24x0, rfl, hC24, hv24x0, hOc24⟩; exact hS.ext hC24) ?_
    rintro _ w24 ⟨a24x0, n24x0, c24x0, f24x0, rfl, hC24, hv24x0, hOc24⟩
    have h0 := h0.ext hC24
    have hb2 := hb2.chg hC24 (fun h => nomatch h)
    have hv6x0 := hv6x0.ext hC24
    have hv11x0 := hv11x0.ext hC24
    have hb15 := hb15.chg hC24 (fun h => nomatch h)
    have hC := hC.ext hC24
    have hO := Own.join0 hO hC24 hOc24
    have hO := hO.perm (R := f24x0 ++ (f11x0 ++ (([g14]) ++ (f6x0 ++ (([g2]) ++ ([])))))) (by simp)
    have hS := hS.ext hC24
    refine x_one (i := 3) (by kernel_rfl) ?_
    have hO := hO.fr1
    obtain ⟨r28, hr28, hs⟩ := bind_some hs
    refine xk_call (b := false) rfl  Bd21 rfl (c_laws_eqAlgebra (M := (Less (Less M f11x0) f24x0)) (r12.1, r12.2) (r25.1, r25.2) ((((Frz.os (Frz.pr Frz.int (Frz.os Frz.int)))).val hv11x0 Less.sub Less.not).sub Less.sub) (((Frz.os (Frz.pr Frz.int (Frz.os Frz.int)))).val (hv24x0.sub Less.sub) Less.sub Less.not) (hO.less).less.fut hr28) rfl (by rintro _ _ _ ⟨rfl, hC27⟩; exact hS.ext hC27) ?_
    rintro _ w27 ⟨rfl, hC27⟩
    have h0 := h0.ext hC27
    have hb2 := hb2.chg hC27 (fun h => nomatch h)
    have hv6x0 := hv6x0.ext hC27
    have hv11x0 := hv11x0.ext hC27
    have hb15 := hb15.chg hC27 (fun h => nomatch h)
    have hv24x0 := hv24x0.ext hC27
    have hC := hC.ext hC27
    have hO := hO.ext hC27
    have hS := hS.ext hC27
    refine x_p 4 (.bool (!r28)) rfl (by kernel_rfl)  (fun _ => y_not rfl) (fun _ => hS) ?_
    refine x_end (by kernel_rfl) ?_
    clear hS
    rcases bif_some hs with ⟨hc29, hs⟩ | ⟨hc29, hs⟩
    ·skip
     refine c_condT (congrArg Value.bool hc29) ?_
     refine c_seq (c_region ?_)
     refine pl_val (.bool false) (y_assign rfl) ?_
     refine c_nil ?_
     refine wp_ret ?_
     cases hs
     exact ⟨_, fr_ovl 40 ⟨rfl, trivial⟩, hC⟩
    ·skip
     refine c_condF (congrArg Value.bool hc29) ?_
     refine wp_skip ?_
     refine c_seq (c_region ?_)
     refine pl_val (.bool true) (y_assign rfl) ?_
     refine c_nil ?_
     refine wp_ret ?_
     cases hs
     exact ⟨_, fr_ovl 40 ⟨rfl, trivial⟩, hC⟩

end Go.Proofs
