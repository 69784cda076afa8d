/- What functions of the program compute, as plain functions, and that a call gives just that. Conditions: those named in each theorem. -/
import Derived.Test.YtchgbcjecdnclaaF3
set_option linter.unusedVariables false
namespace Go.Proofs
open Go.G Go.RowKit
set_option maxRecDepth 100000

def k_impl_unpermuted (M : Nat → Prop) (w0 : World) (r : (List Int) × Bool) (a : Act) (w : World) : Prop :=
  ∃ (σ : Nat → Value) (ra0 : Option Addr) (rn0 rc0 : Nat) (rf0 : List Nat), a = fr 48 (ovl σ [(4, (.slice ra0 rn0 rc0)), (5, (.bool r.2))]) ∧ Chg [] w0 w ∧ (RT.os 3 (RT.int .i64)).val M w (.slice ra0 rn0 rc0) r.1 rf0 ∧ Own (Nw w0 []) (fun _ => True) w (rf0 ++ ([]))
def s_impl_unpermuted (p : List Int) (q : List Int) : Option ((List Int) × Bool) :=
  (s_impl_productTable p q).bind fun r4 =>
  (s_impl_productTable q p).bind fun r7 =>
  (forC (S := Unit) (R := (List Int) × Bool) (fun k51 s49 =>
  (idx r4 k51).bind fun x55 =>
  (forC (S := Unit) (R := (List Int) × Bool) (fun k76 s74 =>
  (idx x55 k76).bind fun x80 =>
  ((bif x80 then (idx r7 k51).bind fun x86 =>
  (idx x86 k76).bind fun x90 =>
  some (!x90) else some false)).bind fun s82 =>
  (bif s82 then some (.rt ([k51, k76], true)) else some (.nx ()))) 0 (x55.length : Int) ()).bind fun o78 => after o78 (fun r_ => some (.rt r_)) (fun s74 =>
  some (.nx ()))) 0 (r4.length : Int) ()).bind fun o53 => after o53 (fun r_ => some r_) (fun s49 =>
  some ([], false))
set_option maxHeartbeats 4000000 in
theorem c_impl_unpermuted {M : Nat → Prop} {w : World} {pa0 : Option Addr} {pn0 pc0 : Nat} {pa1 : Option Addr} {pn1 pc1 : Nat} (p : List Int) (q : List Int) (h0 : (RT.rs (RT.int .i64)).val M w (.slice pa0 pn0 pc0) p ([])) (h1 : (RT.rs (RT.int .i64)).val M w (.slice pa1 pn1 pc1) q ([])) (hM : ∀ g, w.heap.size ≤ g → M g) {r : (List Int) × Bool} (hs : s_impl_unpermuted p q = some r) :
    Gives Try.prog 113 [(.slice pa0 pn0 pc0), (.slice pa1 pn1 pc1)] w (fun v w' => ∃ (ra0 : Option Addr) (rn0 rc0 : Nat) (rf0 : List Nat), v = (.tuple #[(.slice ra0 rn0 rc0), (.bool r.2)]) ∧ Chg [] w w' ∧ (RT.os 3 (RT.int .i64)).val M w' (.slice ra0 rn0 rc0) r.1 rf0 ∧ Own (Nw w []) (fun _ => True) w' (rf0 ++ ([]))) := by
 refine calls_fr Try.func113 rfl Try.ntmps113 (Nat.le_of_ble_eq_true rfl) ?_
 have hO := Own.start (N := Nw w []) hM Nw.fut
 have hC := Chg.refl [] w
 unfold s_impl_unpermuted at hs
 refine wp_mono (Q := KPost (k_impl_unpermuted M w r)) ?_ (fun e a w1 h => ?_)
 rotate_left
 ·cases e
  case ret =>
   obtain ⟨σ, ra0, rn0, rc0, rf0, rfl, hrest⟩ := h
   exact ret2x Try.results113 (res_tmp rfl) (res_tmp rfl) ⟨ra0, rn0, rc0, rf0, rfl, hrest⟩
  all_goals exact (h : False).elim
 refine c_seq (c_region ?_)
 refine pl_val (.slice none 0 0) (y_assign rfl) ?_
 refine pl_val (.bool false) (y_assign rfl) ?_
 refine c_nil ?_
 refine c_seq (c_region ?_)
 refine pl_val (.slice pa0 pn0 pc0) (y_move rfl) ?_
 refine pl_val (.slice pa1 pn1 pc1) (y_move rfl) ?_
 obtain ⟨r4, hr4, hs⟩ := bind_some hs
 refine pl_call Bd130 rfl (c_impl_productTable (M := M) p q h0 h1 hO.fut hr4) ?_
 rintro _ w3 ⟨a3x0, n3x0, c3x0, f3x0, rfl, hC3, hv3x0, hOc3⟩
 have h0 := h0.ext hC3
 have h1 := h1.ext hC3
 have hC := hC.ext hC3
 have hO := Own.join0 hO hC3 hOc3
 have hO := hO.perm (R := f3x0 ++ ([])) (by simp)
 refine pl_val (.slice pa1 pn1 pc1) (y_move rfl) ?_
 refine pl_val (.slice pa0 pn0 pc0) (y_move rfl) ?_
 obtain ⟨r7, hr7, hs⟩ := bind_some hs
 refine pl_call Bd130 rfl (c_impl_productTable (M := M) q p h1 h0 hO.fut hr7) ?_
 rintro _ w6 ⟨a6x0, n6x0, c6x0, f6x0, rfl, hC6, hv6x0, hOc6⟩
 have h0 := h0.ext hC6
 have h1 := h1.ext hC6
 have hv3x0 := hv3x0.ext hC6
 have hC := hC.ext hC6
 have hO := Own.join0 hO hC6 hOc6
 have hO := hO.perm (R := f6x0 ++ (f3x0 ++ ([]))) (by simp)
 refine pl_val (.slice a3x0 n3x0 c3x0) (y_assign rfl) ?_
 refine pl_val (.slice a6x0 n6x0 c6x0) (y_assign rfl) ?_
 refine c_nil ?_
 refine c_seq ?_
 refine c_seq (c_region ?_)
 refine pl_val (.slice a3x0 n3x0 c3x0) (y_move rfl) ?_
 refine pl_val (.int .i64 (r4.length : Int)) (y_len' Sl107 (os_len hv3x0) rfl) ?_
 refine pl_val (.int .i64 0) (y_move rfl) ?_
 refine c_nil ?_
 obtain ⟨o53, hl54, hs⟩ := bind_some hs
 refine wp_block ?_
 refine wp_forC (id := 0) (r4.length : Int) (I := fun k51 s49 a w50 => ∃ (σ : Nat → Value), a = fr 48 (ovl σ [(7, (.slice a6x0 n6x0 c6x0)), (18, (.slice a3x0 n3x0 c3x0)), (19, (.int .i64 (r4.length : Int))), (20, (.int .i64 k51))]) ∧ Chg [] w w50 ∧ Own (Nw w []) M w50 (f6x0 ++ (f3x0 ++ [])) ∧ (RT.os 109 (RT.os 4 RT.bool)).val M w50 (.slice a3x0 n3x0 c3x0) r4 f3x0 ∧ (RT.os 109 (RT.os 4 RT.bool)).val M w50 (.slice a6x0 n6x0 c6x0) r7 f6x0) (J := fun s49 a w50 => ∃ (σ : Nat → Value), a = fr 48 (ovl σ []) ∧ Chg [] w w50 ∧ Own (Nw w []) M w50 (f6x0 ++ (f3x0 ++ [])) ∧ (RT.os 109 (RT.os 4 RT.bool)).val M w50 (.slice a3x0 n3x0 c3x0) r4 f3x0 ∧ (RT.os 109 (RT.os 4 RT.bool)).val M w50 (.slice a6x0 n6x0 c6x0) r7 f6x0) (K := (k_impl_unpermuted M w)) ?_ ?_ 0 () o53 _ _ ?_ hl54 ?_
 ·rintro k51 s49 a w50 ⟨σ, rfl, hC, hO, hv3x0, hv6x0⟩ hlt
  refine c_seq (c_region ?_)
  refine pl_val (.bool (decide (k51 < (r4.length : Int)))) (y_lss rfl rfl) ?_
  refine c_nil ?_
  refine c_seq ?_
  refine c_condF (congrArg Value.bool (decide_eq_false hlt)) ?_
  refine wp_exit ?_
  have hO := hO.fr1
  have hO := hO.fr1
  exact ⟨rfl, _, fr_ovl 48 trivial, hC, hO, hv3x0, hv6x0⟩
 ·rintro k51 s49 o53 a w50 ⟨σ, rfl, hC, hO, hv3x0, hv6x0⟩ hlt hw hs
  refine c_seq (c_region ?_)
  refine pl_val (.bool (decide (k51 < (r4.length : Int)))) (y_lss rfl rfl) ?_
  refine c_nil ?_
  refine c_seq ?_
  refine c_condT (congrArg Value.bool (decide_eq_true hlt)) ?_
  refine wp_skip ?_
  refine c_seq ?_
  refine wp_block ?_
  refine c_seq (c_region ?_)
  refine pl_val (.int .i64 k51) (y_move rfl) ?_
  obtain ⟨x55, hx55, hs⟩ := bind_some hs
  obtain ⟨g56, f56, hg56, hk56, hp56, ha56, hf56⟩ := os_idx Sl107 Sz109 hv3x0 hx55
  have hb56 := own_row (Frz.os Frz.bool) ha56 hf56
  refine pl_val (.pointer (some ⟨g56, 0 + Int.toNat k51 * 1, none⟩)) (hp56 _ _ _ _ _ _ _ _ _ rfl rfl) ?_
  obtain ⟨v57, hl57, hrow57, hv57⟩ := at_load1 Ag109 Sz109 rfl rfl hb56
  obtain ⟨a57, n57, c57, rfl⟩ := rs_sl hv57
  refine pl_val (.slice a57 n57 c57) (y_load rfl (hl57 _ (Chg.refl _ _))) ?_
  refine pl_val (.int .i64 k51) (y_assign rfl) ?_
  refine pl_val (.slice a57 n57 c57) (y_assign rfl) ?_
  refine c_nil ?_
  refine c_seq (c_region ?_)
  refine pl_val (.slice a57 n57 c57) (y_move rfl) ?_
  refine pl_val (.int .i64 (x55.length : Int)) (y_len' Sl109 (rs_len hv57) rfl) ?_
  refine pl_val (.int .i64 0) (y_move rfl) ?_
  refine c_nil ?_
  obtain ⟨o78, hl79, hs⟩ := bind_some hs
  refine wp_block ?_
  refine wp_forC (id := 2) (x55.length : Int) (I := fun k76 s74 a w75 => ∃ (σ : Nat → Value), a = fr 48 (ovl σ [(7, (.slice a6x0 n6x0 c6x0)), (8, (.int .i64 k51)), (18, (.slice a3x0 n3x0 c3x0)), (19, (.int .i64 (r4.length : Int))), (20, (.int .i64 k51)), (25, (.slice a57 n57 c57)), (26, (.int .i64 (x55.length : Int))), (27, (.int .i64 k76))]) ∧ Chg [] w w75 ∧ Own (Nw w []) M w75 (f6x0 ++ (f3x0 ++ [])) ∧ (RT.os 109 (RT.os 4 RT.bool)).val M w75 (.slice a3x0 n3x0 c3x0) r4 f3x0 ∧ (RT.os 109 (RT.os 4 RT.bool)).val M w75 (.slice a6x0 n6x0 c6x0) r7 f6x0 ∧ (RT.rs RT.bool).val (Less M f3x0) w75 (.slice a57 n57 c57) x55 ([])) (J := fun s74 a w75 => ∃ (σ : Nat → Value), a = fr 48 (ovl σ [(7, (.slice a6x0 n6x0 c6x0)), (18, (.slice a3x0 n3x0 c3x0)), (19, (.int .i64 (r4.length : Int))), (20, (.int .i64 k51))]) ∧ Chg [] w w75 ∧ Own (Nw w []) M w75 (f6x0 ++ (f3x0 ++ [])) ∧ (RT.os 109 (RT.os 4 RT.bool)).val M w75 (.slice a3x0 n3x0 c3x0) r4 f3x0 ∧ (RT.os 109 (RT.os 4 RT.bool)).val M w75 (.slice a6x0 n6x0 c6x0) r7 f6x0 ∧ (RT.rs RT.bool).val (Less M f3x0) w75 (.slice a57 n57 c57) x55 ([])) (K := (k_impl_unpermuted M w)) ?_ ?_ 0 () o78 _ _ ?_ hl79 ?_
  ·rintro k76 s74 a w75 ⟨σ, rfl, hC, hO, hv3x0, hv6x0, hv57⟩ hlt
   refine c_seq (c_region ?_)
   refine pl_val (.bool (decide (k76 < (x55.length : Int)))) (y_lss rfl rfl) ?_
   refine c_nil ?_
   refine c_seq ?_
   refine c_condF (congrArg Value.bool (decide_eq_false hlt)) ?_
   refine wp_exit ?_
   have hO := hO.fr1
   have hO := hO.fr1
   exact ⟨rfl, _, fr_ovl 48 ⟨rfl, rfl, rfl, rfl, trivial⟩, hC, hO, hv3x0, hv6x0, hv57⟩
  ·rintro k76 s74 o78 a w75 ⟨σ, rfl, hC, hO, hv3x0, hv6x0, hv57⟩ hlt hw hs
   refine c_seq (c_region ?_)
   refine pl_val (.bool (decide (k76 < (x55.length : Int)))) (y_lss rfl rfl) ?_
   refine c_nil ?_
   refine c_seq ?_
   refine c_condT (congrArg Value.bool (decide_eq_true hlt)) ?_
   refine wp_skip ?_
   refine c_seq ?_
   refine wp_block ?_
   refine c_seq (c_region ?_)
   refine pl_val (.int .i64 k76) (y_move rfl) ?_
   obtain ⟨x80, hx80, hs⟩ := bind_some hs
   obtain ⟨b81, o81, hp81, ha81⟩ := rs_idx Sl109 Sz4 hv57 hx80
   refine pl_val (.pointer (some ⟨b81, o81, none⟩)) (hp81 _ _ _ _ _ _ _ _ _ rfl rfl) ?_
   refine pl_val (.bool x80) (y_load rfl ((at_load_bool Ag4 Sz4 ha81) _ (Chg.refl _ _))) ?_
   refine pl_val (.int .i64 k76) (y_assign rfl) ?_
   refine pl_val (.bool x80) (y_assign rfl) ?_
   refine c_nil ?_
   refine c_seq ?_
   obtain ⟨s82, hm84, hs⟩ := bind_some hs
   refine c_mid (I := fun a w83 => ∃ (σ : Nat → Value), a = fr 48 (ovl σ [(7, (.slice a6x0 n6x0 c6x0)), (8, (.int .i64 k51)), (10, (.int .i64 k76)), (18, (.slice a3x0 n3x0 c3x0)), (19, (.int .i64 (r4.length : Int))), (20, (.int .i64 k51)), (25, (.slice a57 n57 c57)), (26, (.int .i64 (x55.length : Int))), (27, (.int .i64 k76)), (42, (.bool s82))]) ∧ Chg [] w75 w83) ?_ ?_
   ·replace hs := hm84
    have hMid := Chg.refl [] w75
    refine c_region ?_
    refine pl_val (.bool x80) (y_move rfl) ?_
    refine pl_val (.bool x80) (y_move rfl) ?_
    rcases bif_some hs with ⟨hc85, hs⟩ | ⟨hc85, hs⟩
    ·skip
     refine pl_yes (.slice a6x0 n6x0 c6x0) (tg := 33) (by kernel_rfl) (congrArg Value.bool hc85) (y_move rfl) ?_
     refine pl_yes (.int .i64 k51) (tg := 33) (by kernel_rfl) (congrArg Value.bool hc85) (y_move rfl) ?_
     obtain ⟨x86, hx86, hs⟩ := bind_some hs
     obtain ⟨g87, f87, hg87, hk87, hp87, ha87, hf87⟩ := os_idx Sl107 Sz109 hv6x0 hx86
     have hb87 := own_row (Frz.os Frz.bool) ha87 hf87
     refine pl_yes (.pointer (some ⟨g87, 0 + Int.toNat k51 * 1, none⟩)) (tg := 33) (by kernel_rfl) (congrArg Value.bool hc85) (hp87 _ _ _ _ _ _ _ _ _ rfl rfl) ?_
     obtain ⟨v88, hl88, hrow88, hv88⟩ := at_load1 Ag109 Sz109 rfl rfl hb87
     obtain ⟨a88, n88, c88, rfl⟩ := rs_sl hv88
     refine pl_yes (.slice a88 n88 c88) (tg := 33) (by kernel_rfl) (congrArg Value.bool hc85) (y_load rfl (hl88 _ (Chg.refl _ _))) ?_
     refine pl_yes (.int .i64 k76) (tg := 33) (by kernel_rfl) (congrArg Value.bool hc85) (y_move rfl) ?_
     obtain ⟨x90, hx90, hs⟩ := bind_some hs
     obtain ⟨fr91, hrr91, hfr91, _, _⟩ := os_put hg87 hv6x0 hx86 hrow88 rfl hO.inM
     obtain ⟨g91, f91, hg91, hk91, hp91, ha91, hf91⟩ := os_idx Sl109 Sz4 (show (RT.os 4 RT.bool).val M w75 (.slice a88 n88 c88) _ fr91 from ⟨[_], rfl, hrr91⟩) hx90
     refine pl_yes (.pointer (some ⟨g91, 0 + Int.toNat k76 * 1, none⟩)) (tg := 33) (by kernel_rfl) (congrArg Value.bool hc85) (hp91 _ _ _ _ _ _ _ _ _ rfl rfl) ?_
     refine pl_yes (.bool x90) (tg := 33) (by kernel_rfl) (congrArg Value.bool hc85) (y_load rfl ((at_load_bool Ag4 Sz4 ha91) _ (Chg.refl _ _))) ?_
     refine pl_yes (.bool (!x90)) (tg := 33) (by kernel_rfl) (congrArg Value.bool hc85) (y_not rfl) ?_
     refine pl_val (.bool (!x90)) (y_pick_t (congrArg Value.bool hc85) rfl) ?_
     refine c_nil ?_
     cases hs
     exact ⟨_, fr_ovl 48 ⟨rfl, rfl, rfl, rfl, rfl, rfl, rfl, rfl, rfl, rfl, trivial⟩, hMid⟩
    ·skip
     refine pl_not (tg := 33) (by kernel_rfl) (congrArg Value.bool hc85) ?_
     refine pl_not (tg := 33) (by kernel_rfl) (congrArg Value.bool hc85) ?_
     refine pl_not (tg := 33) (by kernel_rfl) (congrArg Value.bool hc85) ?_
     refine pl_not (tg := 33) (by kernel_rfl) (congrArg Value.bool hc85) ?_
     refine pl_not (tg := 33) (by kernel_rfl) (congrArg Value.bool hc85) ?_
     refine pl_not (tg := 33) (by kernel_rfl) (congrArg Value.bool hc85) ?_
     refine pl_not (tg := 33) (by kernel_rfl) (congrArg Value.bool hc85) ?_
     refine pl_not (tg := 33) (by kernel_rfl) (congrArg Value.bool hc85) ?_
     refine pl_val (.bool false) (y_pick_f (congrArg Value.bool hc85) rfl) ?_
     refine c_nil ?_
     cases hs
     exact ⟨_, fr_ovl 48 ⟨rfl, rfl, rfl, rfl, rfl, rfl, rfl, rfl, rfl, rfl, trivial⟩, hMid⟩
   ·rintro a1 w83 ⟨σ, rfl, hCs82⟩
    have hv3x0 := hv3x0.ext hCs82
    have hv6x0 := hv6x0.ext hCs82
    have hv57 := hv57.ext hCs82
    have hC := hC.ext hCs82
    have hO := hO.ext hCs82
    rcases bif_some hs with ⟨hc92, hs⟩ | ⟨hc92, hs⟩
    ·skip
     refine c_condT (congrArg Value.bool hc92) ?_
     refine c_seq (c_region ?_)
     refine pl_val (.int .i64 k51) (y_move rfl) ?_
     refine pl_val (.int .i64 k76) (y_move rfl) ?_
     obtain ⟨w93, g93, ew93, eg93, hC93, hb93⟩ := new_block w83 [(.int .i64 k51), (.int .i64 k76)] 3
     refine pl_val (w' := w93) (.slice (some ⟨g93, 0, none⟩) 2 2) (y_bslice rfl (by rw [ew93, eg93]; kernel_rfl)) ?_
     have hv3x0 := hv3x0.ext hC93
     have hv6x0 := hv6x0.ext hC93
     have hv57 := hv57.ext hC93
     have hC := hC.ext hC93
     have hO := hO.new1 hC93 eg93 hb93.lt
     have hv93 := os_of_box (r := (RT.int .i64)) (M := M) (css := [[(.int .i64 k51)], [(.int .i64 k76)]]) (fps := [([] : List Nat), ([] : List Nat)]) (xs := ([k51, k76] : List Int)) hb93 ⟨⟨rfl, rfl⟩, ⟨⟨rfl, rfl⟩, trivial⟩⟩ (Nat.le_of_ble_eq_true rfl) (List.nodup_cons.2 ⟨(fun h => nomatch h), List.nodup_nil⟩)
     have hv93 : (RT.os 3 (RT.int .i64)).val M w93 (.slice (some ⟨g93, 0, none⟩) 2 2) [k51, k76] [g93] := hv93
     refine pl_val (.slice (some ⟨g93, 0, none⟩) 2 2) (y_assign rfl) ?_
     refine pl_val (.bool true) (y_assign rfl) ?_
     refine c_nil ?_
     refine wp_ret ?_
     cases hs
     have hO := hO.fr1
     have hO := hO.drop
     have hO := hO.fr1
     have hO := hO.drop
     exact ⟨_, (some ⟨g93, 0, none⟩), 2, 2, ([g93]), fr_ovl 48 ⟨rfl, rfl, trivial⟩, hC, hv93, hO.top⟩
    ·skip
     refine c_condF (congrArg Value.bool hc92) ?_
     refine wp_skip ?_
     refine c_region ?_
     refine pl_val (.int .i64 (w64 (k76 + 1))) (y_add rfl rfl) ?_
     refine pl_val (.int .i64 (w64 (k76 + 1))) (y_move rfl) ?_
     refine c_nil ?_
     cases hs
     have hO := hO.fr1
     have hO := hO.fr1
     exact ⟨_, fr_ovl 48 ⟨rfl, rfl, rfl, rfl, rfl, rfl, rfl, congrArg (Value.int .i64) hw, trivial⟩, hC, hO, hv3x0, hv6x0, hv57⟩
  ·skip
   have hO := hO.fr1
   have hO := hO.fr1
   exact ⟨_, fr_ovl 48 ⟨rfl, rfl, rfl, rfl, rfl, rfl, rfl, rfl, trivial⟩, hC, hO, hv3x0, hv6x0, hv57⟩
  ·cases o78 with
   | nx _ => exact True.intro
   | rt r_ =>
    have hs := after_rt hs
    intro a1 w1 hK
    cases hs
    exact hK
   | br s74 =>
    have hs := after_br hs
    rintro a1 w75 ⟨σ, rfl, hC, hO, hv3x0, hv6x0, hv57⟩
    refine c_region ?_
    refine pl_val (.int .i64 (w64 (k51 + 1))) (y_add rfl rfl) ?_
    refine pl_val (.int .i64 (w64 (k51 + 1))) (y_move rfl) ?_
    refine c_nil ?_
    cases hs
    have hO := hO.fr1
    have hO := hO.fr1
    exact ⟨_, fr_ovl 48 ⟨rfl, rfl, rfl, congrArg (Value.int .i64) hw, trivial⟩, hC, hO, hv3x0, hv6x0⟩
 ·skip
  have hO := hO.fr1
  have hO := hO.fr1
  exact ⟨_, fr_ovl 48 ⟨rfl, rfl, rfl, rfl, trivial⟩, hC, hO, hv3x0, hv6x0⟩
 ·cases o53 with
  | nx _ => exact True.intro
  | rt r_ =>
   have hs := after_rt hs
   intro a1 w1 hK
   cases hs
   exact hK
  | br s49 =>
   have hs := after_br hs
   rintro a1 w50 ⟨σ, rfl, hC, hO, hv3x0, hv6x0⟩
   refine c_seq (c_region ?_)
   refine pl_val (.slice none 0 0) (y_assign rfl) ?_
   refine pl_val (.bool false) (y_assign rfl) ?_
   refine c_nil ?_
   refine wp_ret ?_
   cases hs
   have hO := hO.drop
   have hO := hO.drop
   have hO := hO.nil
   exact ⟨_, none, 0, 0, [], fr_ovl 48 ⟨rfl, rfl, trivial⟩, hC, os_nil, hO.top⟩

theorem Bd113 : Bodied Try.prog 113 := bodied Try.func113 (by kernel_rfl) rfl

def k_impl_permute (M : Nat → Prop) (w0 : World) (r : Bool) (a : Act) (w : World) : Prop :=
  ∃ (σ : Nat → Value) , a = fr 15 (ovl σ [(4, (.bool r))]) ∧ Chg [] w0 w
def s_impl_permute (p : List Int) (q : List Int) : Option (Bool) :=
  (s_impl_unpermuted p q).bind fun r4 =>
  some (!r4.2)
set_option maxHeartbeats 4000000 in
theorem c_impl_permute {M : Nat → Prop} {w : World} {pa0 : Option Addr} {pn0 pc0 : Nat} {pa1 : Option Addr} {pn1 pc1 : Nat} (p : List Int) (q : List Int) (h0 : (RT.rs (RT.int .i64)).val M w (.slice pa0 pn0 pc0) p ([])) (h1 : (RT.rs (RT.int .i64)).val M w (.slice pa1 pn1 pc1) q ([])) (hM : ∀ g, w.heap.size ≤ g → M g) {r : Bool} (hs : s_impl_permute p q = some r) :
    Gives Try.prog 92 [(.slice pa0 pn0 pc0), (.slice pa1 pn1 pc1)] w (fun v w' => v = (.bool r) ∧ Chg [] w w') := by
 refine calls_fr Try.func92 rfl Try.ntmps92 (Nat.le_of_ble_eq_true rfl) ?_
 have hO := Own.start (N := Nw w []) hM Nw.fut
 have hC := Chg.refl [] w
 unfold s_impl_permute at hs
 refine wp_mono (Q := KPost (k_impl_permute M w r)) ?_ (fun e a w1 h => ?_)
 rotate_left
 ·cases e
  case ret =>
   obtain ⟨σ, rfl, hrest⟩ := h
   exact ret1x Try.results92 (res_tmp rfl) ⟨rfl, hrest⟩
  all_goals exact (h : False).elim
 refine c_seq (c_region ?_)
 refine pl_val (.bool false) (y_assign rfl) ?_
 refine c_nil ?_
 refine c_seq (c_region ?_)
 refine pl_val (.slice pa0 pn0 pc0) (y_move rfl) ?_
 refine pl_val (.slice pa1 pn1 pc1) (y_move rfl) ?_
 obtain ⟨r4, hr4, hs⟩ := bind_some hs
 refine pl_call Bd113 rfl (c_impl_unpermuted (M := M) p q h0 h1 hO.fut hr4) ?_
 rintro _ w3 ⟨a3x0, n3x0, c3x0, f3x0, rfl, hC3, hv3x0, hOc3⟩
 have h0 := h0.ext hC3
 have h1 := h1.ext hC3
 have hC := hC.ext hC3
 have hO := Own.join0 hO hC3 hOc3
 have hO := hO.perm (R := f3x0 ++ ([])) (by simp)
 refine pl_val (.tuple #[(.slice a3x0 n3x0 c3x0), (.bool r4.2)]) (y_move rfl) ?_
 refine pl_val (.slice a3x0 n3x0 c3x0) (y_extract rfl (by kernel_rfl)) ?_
 refine pl_val (.bool r4.2) (y_extract rfl (by kernel_rfl)) ?_
 refine pl_val (.slice a3x0 n3x0 c3x0) (y_assign rfl) ?_
 refine pl_val (.bool r4.2) (y_assign rfl) ?_
 refine c_nil ?_
 refine c_seq (c_region ?_)
 refine pl_val (.bool r4.2) (y_move rfl) ?_
 refine pl_val (.bool (!r4.2)) (y_not rfl) ?_
 refine pl_val (.bool (!r4.2)) (y_assign rfl) ?_
 refine c_nil ?_
 refine wp_ret ?_
 cases hs
 exact ⟨_, fr_ovl 15 ⟨rfl, trivial⟩, hC⟩

theorem Bd92 : Bodied Try.prog 92 := bodied Try.func92 (by kernel_rfl) rfl

def k_impl_pairApart (M : Nat → Prop) (w0 : World) (r : (List Int) × (List Int) × Bool) (a : Act) (w : World) : Prop :=
  ∃ (σ : Nat → Value) (ra0 : Option Addr) (rn0 rc0 : Nat) (ra1 : Option Addr) (rn1 rc1 : Nat), a = fr 33 (ovl σ [(2, (.slice ra0 rn0 rc0)), (3, (.slice ra1 rn1 rc1)), (4, (.bool r.2.2))]) ∧ Chg [] w0 w ∧ (RT.rs (RT.int .i64)).val (Past M w0 w) w (.slice ra0 rn0 rc0) r.1 [] ∧ (RT.rs (RT.int .i64)).val (Past M w0 w) w (.slice ra1 rn1 rc1) r.2.1 []
def s_impl_pairApart (all : List (List Int)) : Option ((List Int) × (List Int) × Bool) :=
  (forC (S := Unit) (R := (List Int) × (List Int) × Bool) (fun k29 s27 =>
  (idx all k29).bind fun x33 =>
  (slc all (w64 (k29 + 1)) (all.length : Int)).bind fun y38 =>
  (forR (S := Unit) (R := (List Int) × (List Int) × Bool) (fun _ x49 s46 =>
  (s_impl_permute x33 x49).bind fun r56 =>
  (bif (!r56) then some (.rt (x33, x49, true)) else some (.nx ()))) 0 y38 ()).bind fun o50 => after o50 (fun r_ => some (.rt r_)) (fun s46 =>
  some (.nx ()))) 0 (all.length : Int) ()).bind fun o31 => after o31 (fun r_ => some r_) (fun s27 =>
  some ([], [], false))
set_option maxHeartbeats 4000000 in
theorem c_impl_pairApart {M : Nat → Prop} {w : World} {pa0 : Option Addr} {pn0 pc0 : Nat} (all : List (List Int)) (h0 : (RT.rs (RT.rs (RT.int .i64))).val M w (.slice pa0 pn0 pc0) all ([])) (hM : ∀ g, w.heap.size ≤ g → M g) {r : (List Int) × (List Int) × Bool} (hs : s_impl_pairApart all = some r) :
    Gives Try.prog 61 [(.slice pa0 pn0 pc0)] w (fun v w' => ∃ (ra0 : Option Addr) (rn0 rc0 : Nat) (ra1 : Option Addr) (rn1 rc1 : Nat), v = (.tuple #[(.slice ra0 rn0 rc0), (.slice ra1 rn1 rc1), (.bool r.2.2)]) ∧ Chg [] w w' ∧ (RT.rs (RT.int .i64)).val (Past M w w') w' (.slice ra0 rn0 rc0) r.1 [] ∧ (RT.rs (RT.int .i64)).val (Past M w w') w' (.slice ra1 rn1 rc1) r.2.1 []) := by
 refine calls_fr Try.func61 rfl Try.ntmps61 (Nat.le_of_ble_eq_true rfl) ?_
 have hO := Own.start (N := Nw w []) hM Nw.fut
 have hC := Chg.refl [] w
 unfold s_impl_pairApart at hs
 refine wp_mono (Q := KPost (k_impl_pairApart M w r)) ?_ (fun e a w1 h => ?_)
 rotate_left
 ·cases e
  case ret =>
   obtain ⟨σ, ra0, rn0, rc0, ra1, rn1, rc1, rfl, hrest⟩ := h
   exact ret3x Try.results61 (res_tmp rfl) (res_tmp rfl) (res_tmp rfl) ⟨ra0, rn0, rc0, ra1, rn1, rc1, rfl, hrest⟩
  all_goals exact (h : False).elim
 refine c_seq (c_region ?_)
 refine pl_val (.slice none 0 0) (y_assign rfl) ?_
 refine pl_val (.slice none 0 0) (y_assign rfl) ?_
 refine pl_val (.bool false) (y_assign rfl) ?_
 refine c_nil ?_
 refine c_seq ?_
 refine c_seq (c_region ?_)
 refine pl_val (.slice pa0 pn0 pc0) (y_move rfl) ?_
 refine pl_val (.int .i64 (all.length : Int)) (y_len' Sl41 (rs_len h0) rfl) ?_
 refine pl_val (.int .i64 0) (y_move rfl) ?_
 refine c_nil ?_
 obtain ⟨o31, hl32, hs⟩ := bind_some hs
 refine wp_block ?_
 refine wp_forC (id := 0) (all.length : Int) (I := fun k29 s27 a w28 => ∃ (σ : Nat → Value), a = fr 33 (ovl σ [(0, (.slice pa0 pn0 pc0)), (9, (.slice pa0 pn0 pc0)), (10, (.int .i64 (all.length : Int))), (11, (.int .i64 k29))]) ∧ Chg [] w w28 ∧ Own (Nw w []) M w28 ([]) ∧ (RT.rs (RT.rs (RT.int .i64))).val M w28 (.slice pa0 pn0 pc0) all ([])) (J := fun s27 a w28 => ∃ (σ : Nat → Value), a = fr 33 (ovl σ []) ∧ Chg [] w w28 ∧ Own (Nw w []) M w28 ([]) ∧ (RT.rs (RT.rs (RT.int .i64))).val M w28 (.slice pa0 pn0 pc0) all ([])) (K := (k_impl_pairApart M w)) ?_ ?_ 0 () o31 _ _ ?_ hl32 ?_
 ·rintro k29 s27 a w28 ⟨σ, rfl, hC, hO, h0⟩ hlt
  refine c_seq (c_region ?_)
  refine pl_val (.bool (decide (k29 < (all.length : Int)))) (y_lss rfl rfl) ?_
  refine c_nil ?_
  refine c_seq ?_
  refine c_condF (congrArg Value.bool (decide_eq_false hlt)) ?_
  refine wp_exit ?_
  exact ⟨rfl, _, fr_ovl 33 trivial, hC, hO, h0⟩
 ·rintro k29 s27 o31 a w28 ⟨σ, rfl, hC, hO, h0⟩ hlt hw hs
  refine c_seq (c_region ?_)
  refine pl_val (.bool (decide (k29 < (all.length : Int)))) (y_lss rfl rfl) ?_
  refine c_nil ?_
  refine c_seq ?_
  refine c_condT (congrArg Value.bool (decide_eq_true hlt)) ?_
  refine wp_skip ?_
  refine c_seq ?_
  refine wp_block ?_
  refine c_seq (c_region ?_)
  refine pl_val (.int .i64 k29) (y_move rfl) ?_
  obtain ⟨x33, hx33, hs⟩ := bind_some hs
  obtain ⟨b34, o34, hp34, ha34⟩ := rs_idx Sl41 Sz22 h0 hx33
  refine pl_val (.pointer (some ⟨b34, o34, none⟩)) (hp34 _ _ _ _ _ _ _ _ _ rfl rfl) ?_
  obtain ⟨v35, hl35, hv35⟩ := at_load Ag22 Sz22 (fun _ => rfl) ha34
  obtain ⟨a35, n35, c35, rfl⟩ := rs_sl hv35
  refine pl_val (.slice a35 n35 c35) (y_load rfl (hl35 _ (Chg.refl _ _))) ?_
  refine pl_val (.int .i64 k29) (y_assign rfl) ?_
  refine pl_val (.slice a35 n35 c35) (y_assign rfl) ?_
  refine c_nil ?_
  refine c_seq (c_region ?_)
  refine pl_val (.slice pa0 pn0 pc0) (y_move rfl) ?_
  refine pl_val (.int .i64 k29) (y_move rfl) ?_
  refine pl_val (.int .i64 (w64 (k29 + 1))) (y_add rfl rfl) ?_
  obtain ⟨y38, hy38, hs⟩ := bind_some hs
  obtain ⟨a37, n37, c37, hv37, hr37, hq37, hz37⟩ := rs_part Try.underlying41 Sz22 h0 hy38
  refine pl_val (.slice a37 n37 c37) (y_slice rfl rfl rfl (hz37 rfl _)) ?_
  refine pl_val (.int .i64 (y38.length : Int)) (y_len' Sl41 (rs_len hv37) rfl) ?_
  refine pl_val (.int .i64 0) (y_move rfl) ?_
  refine c_nil ?_
  obtain ⟨o50, hl51, hs⟩ := bind_some hs
  refine wp_block ?_
  refine wp_forR (id := 2) (I := fun i_ xs_ s46 a w47 => ∃ k48 : Nat, i_ = (k48 : Int) ∧ List.drop k48 y38 = xs_ ∧ (∃ (σ : Nat → Value), a = fr 33 (ovl σ [(0, (.slice pa0 pn0 pc0)), (6, (.slice a35 n35 c35)), (9, (.slice pa0 pn0 pc0)), (10, (.int .i64 (all.length : Int))), (11, (.int .i64 k29)), (19, (.slice a37 n37 c37)), (20, (.int .i64 (y38.length : Int))), (21, (.int .i64 (k48 : Int)))]) ∧ Chg [] w w47 ∧ Own (Nw w []) M w47 ([]) ∧ (RT.rs (RT.rs (RT.int .i64))).val M w47 (.slice pa0 pn0 pc0) all ([]) ∧ (RT.rs (RT.int .i64)).val M w47 (.slice a35 n35 c35) x33 ([]) ∧ (RT.rs (RT.rs (RT.int .i64))).val M w47 (.slice a37 n37 c37) y38 ([]))) (J := fun s46 a w47 => ∃ (σ : Nat → Value), a = fr 33 (ovl σ [(0, (.slice pa0 pn0 pc0)), (9, (.slice pa0 pn0 pc0)), (10, (.int .i64 (all.length : Int))), (11, (.int .i64 k29))]) ∧ Chg [] w w47 ∧ Own (Nw w []) M w47 ([]) ∧ (RT.rs (RT.rs (RT.int .i64))).val M w47 (.slice pa0 pn0 pc0) all ([]) ∧ (RT.rs (RT.int .i64)).val M w47 (.slice a35 n35 c35) x33 ([]) ∧ (RT.rs (RT.rs (RT.int .i64))).val M w47 (.slice a37 n37 c37) y38 ([])) (K := (k_impl_pairApart M w)) ?_ ?_ y38 0 () o50 _ _ ?_ hl51 ?_
  ·rintro _ s46 a w47 ⟨k48, rfl, hd, σ, rfl, hC, hO, h0, hv35, hv37⟩
   have hlt := drop_nil_ge hd
   refine c_seq (c_region ?_)
   refine pl_val (.bool (decide ((k48 : Int) < (y38.length : Int)))) (y_lss rfl rfl) ?_
   refine c_nil ?_
   refine c_seq ?_
   refine c_condF (congrArg Value.bool (decide_eq_false hlt)) ?_
   refine wp_exit ?_
   exact ⟨rfl, _, fr_ovl 33 ⟨rfl, rfl, rfl, rfl, trivial⟩, hC, hO, h0, hv35, hv37⟩
  ·rintro _ x49 xs_ s46 o50 a w47 ⟨k48, rfl, hd, σ, rfl, hC, hO, h0, hv35, hv37⟩ hs
   have hlt := drop_cons_lt hd
   have hxk48 := drop_cons_idx hd
   refine c_seq (c_region ?_)
   refine pl_val (.bool (decide ((k48 : Int) < (y38.length : Int)))) (y_lss rfl rfl) ?_
   refine c_nil ?_
   refine c_seq ?_
   refine c_condT (congrArg Value.bool (decide_eq_true hlt)) ?_
   refine wp_skip ?_
   refine c_seq ?_
   refine wp_block ?_
   refine c_seq (c_region ?_)
   obtain ⟨b52, o52, hp52, ha52⟩ := rs_idx Sl41 Sz22 hv37 hxk48
   refine pl_val (.pointer (some ⟨b52, o52, none⟩)) (hp52 _ _ _ _ _ _ _ _ _ rfl rfl) ?_
   obtain ⟨v53, hl53, hv53⟩ := at_load Ag22 Sz22 (fun _ => rfl) ha52
   obtain ⟨a53, n53, c53, rfl⟩ := rs_sl hv53
   refine pl_val (.slice a53 n53 c53) (y_load rfl (hl53 _ (Chg.refl _ _))) ?_
   refine pl_val (.slice a53 n53 c53) (y_assign rfl) ?_
   refine c_nil ?_
   refine c_seq (c_region ?_)
   refine pl_val (.slice a35 n35 c35) (y_move rfl) ?_
   refine pl_val (.slice a53 n53 c53) (y_move rfl) ?_
   obtain ⟨r56, hr56, hs⟩ := bind_some hs
   refine pl_call Bd92 rfl (c_impl_permute (M := M) x33 x49 hv35 hv53 hO.fut hr56) ?_
   rintro _ w55 ⟨rfl, hC55⟩
   have h0 := h0.ext hC55
   have hv35 := hv35.ext hC55
   have hv37 := hv37.ext hC55
   have hv53 := hv53.ext hC55
   have hC := hC.ext hC55
   have hO := hO.ext hC55
   refine pl_val (.bool (!r56)) (y_not rfl) ?_
   refine c_nil ?_
   rcases bif_some hs with ⟨hc57, hs⟩ | ⟨hc57, hs⟩
   ·skip
    refine c_condT (congrArg Value.bool hc57) ?_
    refine c_seq (c_region ?_)
    refine pl_val (.slice a35 n35 c35) (y_move rfl) ?_
    refine pl_val (.slice a53 n53 c53) (y_move rfl) ?_
    refine pl_val (.slice a35 n35 c35) (y_assign rfl) ?_
    refine pl_val (.slice a53 n53 c53) (y_assign rfl) ?_
    refine pl_val (.bool true) (y_assign rfl) ?_
    refine c_nil ?_
    refine wp_ret ?_
    cases hs
    exact ⟨_, a35, n35, c35, a53, n53, c53, fr_ovl 33 ⟨rfl, rfl, rfl, trivial⟩, hC, (Keeps.out Keeps.refl hv35), (Keeps.out Keeps.refl hv53)⟩
   ·skip
    refine c_condF (congrArg Value.bool hc57) ?_
    refine wp_skip ?_
    refine c_region ?_
    refine pl_val (.int .i64 (w64 ((k48 : Int) + 1))) (y_add rfl rfl) ?_
    refine pl_val (.int .i64 (w64 ((k48 : Int) + 1))) (y_move rfl) ?_
    refine c_nil ?_
    cases hs
    exact ⟨_, rfl, drop_cons_next hd, _, fr_ovl 33 ⟨rfl, rfl, rfl, rfl, rfl, rfl, rfl, congrArg (Value.int .i64) (w64_succ hlt (Int.natCast_nonneg _) (rs_max hv37)), trivial⟩, hC, hO, h0, hv35, hv37⟩
  ·skip
   exact ⟨0, rfl, rfl, _, fr_ovl 33 ⟨rfl, rfl, rfl, rfl, rfl, rfl, rfl, rfl, trivial⟩, hC, hO, h0, hv35, hv37⟩
  ·cases o50 with
   | nx _ => exact True.intro
   | rt r_ =>
    have hs := after_rt hs
    intro a1 w1 hK
    cases hs
    exact hK
   | br s46 =>
    have hs := after_br hs
    rintro a1 w47 ⟨σ, rfl, hC, hO, h0, hv35, hv37⟩
    refine c_region ?_
    refine pl_val (.int .i64 (w64 (k29 + 1))) (y_add rfl rfl) ?_
    refine pl_val (.int .i64 (w64 (k29 + 1))) (y_move rfl) ?_
    refine c_nil ?_
    cases hs
    exact ⟨_, fr_ovl 33 ⟨rfl, rfl, rfl, congrArg (Value.int .i64) hw, trivial⟩, hC, hO, h0⟩
 ·skip
  exact ⟨_, fr_ovl 33 ⟨rfl, rfl, rfl, rfl, trivial⟩, hC, hO, h0⟩
 ·cases o31 with
  | nx _ => exact True.intro
  | rt r_ =>
   have hs := after_rt hs
   intro a1 w1 hK
   cases hs
   exact hK
  | br s27 =>
   have hs := after_br hs
   rintro a1 w28 ⟨σ, rfl, hC, hO, h0⟩
   refine c_seq (c_region ?_)
   refine pl_val (.slice none 0 0) (y_assign rfl) ?_
   refine pl_val (.slice none 0 0) (y_assign rfl) ?_
   refine pl_val (.bool false) (y_assign rfl) ?_
   refine c_nil ?_
   refine wp_ret ?_
   cases hs
   exact ⟨_, none, 0, 0, none, 0, 0, fr_ovl 33 ⟨rfl, rfl, rfl, trivial⟩, hC, rs_nil, rs_nil⟩

theorem Bd53 : Bodied Try.prog 53 := bodied Try.func53 (by kernel_rfl) rfl

def k_impl_pairApart__take0 (M : Nat → Prop) (w0 : World) (qa0 : Option Addr) (qn0 qc0 : Nat) (qf0 : List Nat) (r : (List Int) × (List Int) × Bool) (a : Act) (w : World) : Prop :=
  ∃ (σ : Nat → Value) (ra0 : Option Addr) (rn0 rc0 : Nat) (rf0 : List Nat) (ra1 : Option Addr) (rn1 rc1 : Nat) (rf1 : List Nat), a = fr 33 (ovl σ [(2, (.slice ra0 rn0 rc0)), (3, (.slice ra1 rn1 rc1)), (4, (.bool r.2.2))]) ∧ Chg (qf0 ++ ([])) w0 w ∧ (RT.os 3 (RT.int .i64)).val M w (.slice ra0 rn0 rc0) r.1 rf0 ∧ (RT.os 3 (RT.int .i64)).val M w (.slice ra1 rn1 rc1) r.2.1 rf1 ∧ Own (Nw w0 (qf0 ++ ([]))) (fun _ => True) w (rf0 ++ (rf1 ++ ([])))
def s_impl_pairApart__take0 (all : List (List Int)) : Option ((List Int) × (List Int) × Bool) :=
  (forC (S := Unit) (R := (List Int) × (List Int) × Bool) (fun k35 s33 =>
  (idx all k35).bind fun x39 =>
  (slc all (w64 (k35 + 1)) (all.length : Int)).bind fun y44 =>
  (forR (S := Unit) (R := (List Int) × (List Int) × Bool) (fun k54 x55 s52 =>
  (s_impl_permute x39 x55).bind fun r62 =>
  (bif (!r62) then (idx (List.map some all) k35).bind fun o66 =>
  (o66).bind fun x67 =>
  (idx (List.set (List.map some all) (Int.toNat k35) none) ((w64 (k35 + 1)) + (k54 : Int))).bind fun o69 =>
  (o69).bind fun x70 =>
  some (.rt (x67, x70, true)) else some (.nx ()))) 0 y44 ()).bind fun o56 => after o56 (fun r_ => some (.rt r_)) (fun s52 =>
  some (.nx ()))) 0 (all.length : Int) ()).bind fun o37 => after o37 (fun r_ => some r_) (fun s33 =>
  some ([], [], false))
set_option maxHeartbeats 4000000 in
theorem c_impl_pairApart__take0 {M : Nat → Prop} {w : World} {pa0 : Option Addr} {pn0 pc0 : Nat} {pf0 : List Nat} (all : List (List Int)) (h0 : (RT.os 22 (RT.os 3 (RT.int .i64))).val M w (.slice pa0 pn0 pc0) all pf0) (hI : Own (Nw w (pf0 ++ ([]))) M w (pf0 ++ ([]))) (hM : ∀ g, w.heap.size ≤ g → M g) {r : (List Int) × (List Int) × Bool} (hs : s_impl_pairApart__take0 all = some r) :
    Gives Try.prog 61 [(.slice pa0 pn0 pc0)] w (fun v w' => ∃ (ra0 : Option Addr) (rn0 rc0 : Nat) (rf0 : List Nat) (ra1 : Option Addr) (rn1 rc1 : Nat) (rf1 : List Nat), v = (.tuple #[(.slice ra0 rn0 rc0), (.slice ra1 rn1 rc1), (.bool r.2.2)]) ∧ Chg (pf0 ++ ([])) w w' ∧ (RT.os 3 (RT.int .i64)).val M w' (.slice ra0 rn0 rc0) r.1 rf0 ∧ (RT.os 3 (RT.int .i64)).val M w' (.slice ra1 rn1 rc1) r.2.1 rf1 ∧ Own (Nw w (pf0 ++ ([]))) (fun _ => True) w' (rf0 ++ (rf1 ++ ([])))) := by
 refine calls_fr Try.func61 rfl Try.ntmps61 (Nat.le_of_ble_eq_true rfl) ?_
 have hO := hI
 have hC := Chg.refl (pf0 ++ ([])) w
 unfold s_impl_pairApart__take0 at hs
 refine wp_mono (Q := KPost (k_impl_pairApart__take0 M w pa0 pn0 pc0 pf0 r)) ?_ (fun e a w1 h => ?_)
 rotate_left
 ·cases e
  case ret =>
   obtain ⟨σ, ra0, rn0, rc0, rf0, ra1, rn1, rc1, rf1, rfl, hrest⟩ := h
   exact ret3x Try.results61 (res_tmp rfl) (res_tmp rfl) (res_tmp rfl) ⟨ra0, rn0, rc0, rf0, ra1, rn1, rc1, rf1, rfl, hrest⟩
  all_goals exact (h : False).elim
 refine c_seq (c_region ?_)
 refine pl_val (.slice none 0 0) (y_assign rfl) ?_
 refine pl_val (.slice none 0 0) (y_assign rfl) ?_
 refine pl_val (.bool false) (y_assign rfl) ?_
 refine c_nil ?_
 refine c_seq ?_
 refine c_seq (c_region ?_)
 refine pl_val (.slice pa0 pn0 pc0) (y_move rfl) ?_
 refine pl_val (.int .i64 (all.length : Int)) (y_len' Sl41 (os_len h0) rfl) ?_
 refine pl_val (.int .i64 0) (y_move rfl) ?_
 refine c_nil ?_
 obtain ⟨o37, hl38, hs⟩ := bind_some hs
 refine wp_block ?_
 refine wp_forC (id := 0) (all.length : Int) (I := fun k35 s33 a w34 => ∃ (σ : Nat → Value), a = fr 33 (ovl σ [(0, (.slice pa0 pn0 pc0)), (9, (.slice pa0 pn0 pc0)), (10, (.int .i64 (all.length : Int))), (11, (.int .i64 k35))]) ∧ Chg (pf0 ++ ([])) w w34 ∧ Own (Nw w (pf0 ++ ([]))) M w34 (pf0 ++ []) ∧ (RT.os 22 (RT.os 3 (RT.int .i64))).val M w34 (.slice pa0 pn0 pc0) all pf0) (J := fun s33 a w34 => ∃ (σ : Nat → Value), a = fr 33 (ovl σ []) ∧ Chg (pf0 ++ ([])) w w34 ∧ Own (Nw w (pf0 ++ ([]))) M w34 (pf0 ++ []) ∧ (RT.os 22 (RT.os 3 (RT.int .i64))).val M w34 (.slice pa0 pn0 pc0) all pf0) (K := (k_impl_pairApart__take0 M w pa0 pn0 pc0 pf0)) ?_ ?_ 0 () o37 _ _ ?_ hl38 ?_
 ·rintro k35 s33 a w34 ⟨σ, rfl, hC, hO, h0⟩ hlt
  refine c_seq (c_region ?_)
  refine pl_val (.bool (decide (k35 < (all.length : Int)))) (y_lss rfl rfl) ?_
  refine c_nil ?_
  refine c_seq ?_
  refine c_condF (congrArg Value.bool (decide_eq_false hlt)) ?_
  refine wp_exit ?_
  exact ⟨rfl, _, fr_ovl 33 trivial, hC, hO, h0⟩
 ·rintro k35 s33 o37 a w34 ⟨σ, rfl, hC, hO, h0⟩ hlt hw hs
  refine c_seq (c_region ?_)
  refine pl_val (.bool (decide (k35 < (all.length : Int)))) (y_lss rfl rfl) ?_
  refine c_nil ?_
  refine c_seq ?_
  refine c_condT (congrArg Value.bool (decide_eq_true hlt)) ?_
  refine wp_skip ?_
  refine c_seq ?_
  refine wp_block ?_
  refine c_seq (c_region ?_)
  refine pl_val (.int .i64 k35) (y_move rfl) ?_
  obtain ⟨x39, hx39, hs⟩ := bind_some hs
  obtain ⟨g40, f40, hg40, hk40, hp40, ha40, hf40⟩ := os_idx Sl41 Sz22 h0 hx39
  have hb40 := own_row (Frz.os Frz.int) ha40 hf40
  refine pl_val (.pointer (some ⟨g40, 0 + Int.toNat k35 * 1, none⟩)) (hp40 _ _ _ _ _ _ _ _ _ rfl rfl) ?_
  obtain ⟨v41, hl41, hrow41, hv41⟩ := at_load1 Ag22 Sz22 rfl rfl hb40
  obtain ⟨a41, n41, c41, rfl⟩ := rs_sl hv41
  refine pl_val (.slice a41 n41 c41) (y_load rfl (hl41 _ (Chg.refl _ _))) ?_
  refine pl_val (.int .i64 k35) (y_assign rfl) ?_
  refine pl_val (.slice a41 n41 c41) (y_assign rfl) ?_
  refine c_nil ?_
  refine c_seq (c_region ?_)
  refine pl_val (.slice pa0 pn0 pc0) (y_move rfl) ?_
  refine pl_val (.int .i64 k35) (y_move rfl) ?_
  refine pl_val (.int .i64 (w64 (k35 + 1))) (y_add rfl rfl) ?_
  obtain ⟨y44, hy44, hs⟩ := bind_some hs
  obtain ⟨a43, n43, c43, hn43, hix43, hr43, hq43, hz43⟩ := os_part Try.underlying41 Sz22 h0 hy44
  have hln43 : LenIs (.slice a43 n43 c43) y44.length := ⟨a43, c43, by rw [hn43]⟩
  have hmx43 := slc_max hy44 (os_max h0)
  refine pl_val (.slice a43 n43 c43) (y_slice rfl rfl rfl (hz43 rfl _)) ?_
  refine pl_val (.int .i64 (y44.length : Int)) (y_len' Sl41 hln43 rfl) ?_
  refine pl_val (.int .i64 0) (y_move rfl) ?_
  refine c_nil ?_
  obtain ⟨o56, hl57, hs⟩ := bind_some hs
  refine wp_block ?_
  refine wp_forR (id := 2) (I := fun i_ xs_ s52 a w53 => ∃ k54 : Nat, i_ = (k54 : Int) ∧ List.drop k54 y44 = xs_ ∧ (∃ (σ : Nat → Value), a = fr 33 (ovl σ [(0, (.slice pa0 pn0 pc0)), (6, (.slice a41 n41 c41)), (9, (.slice pa0 pn0 pc0)), (10, (.int .i64 (all.length : Int))), (11, (.int .i64 k35)), (19, (.slice a43 n43 c43)), (20, (.int .i64 (y44.length : Int))), (21, (.int .i64 (k54 : Int)))]) ∧ Chg (pf0 ++ ([])) w w53 ∧ Own (Nw w (pf0 ++ ([]))) M w53 (pf0 ++ []) ∧ (RT.os 22 (RT.os 3 (RT.int .i64))).val M w53 (.slice pa0 pn0 pc0) all pf0 ∧ (RT.rs (RT.int .i64)).val (Less M pf0) w53 (.slice a41 n41 c41) x39 ([]) ∧ RowAt w53 g40 (0 + Int.toNat k35 * 1) [(.slice a41 n41 c41)])) (J := fun s52 a w53 => ∃ (σ : Nat → Value), a = fr 33 (ovl σ [(0, (.slice pa0 pn0 pc0)), (9, (.slice pa0 pn0 pc0)), (10, (.int .i64 (all.length : Int))), (11, (.int .i64 k35))]) ∧ Chg (pf0 ++ ([])) w w53 ∧ Own (Nw w (pf0 ++ ([]))) M w53 (pf0 ++ []) ∧ (RT.os 22 (RT.os 3 (RT.int .i64))).val M w53 (.slice pa0 pn0 pc0) all pf0 ∧ (RT.rs (RT.int .i64)).val (Less M pf0) w53 (.slice a41 n41 c41) x39 ([]) ∧ RowAt w53 g40 (0 + Int.toNat k35 * 1) [(.slice a41 n41 c41)]) (K := (k_impl_pairApart__take0 M w pa0 pn0 pc0 pf0)) ?_ ?_ y44 0 () o56 _ _ ?_ hl57 ?_
  ·rintro _ s52 a w53 ⟨k54, rfl, hd, σ, rfl, hC, hO, h0, hv41, hrow41⟩
   have hlt := drop_nil_ge hd
   refine c_seq (c_region ?_)
   refine pl_val (.bool (decide ((k54 : Int) < (y44.length : Int)))) (y_lss rfl rfl) ?_
   refine c_nil ?_
   refine c_seq ?_
   refine c_condF (congrArg Value.bool (decide_eq_false hlt)) ?_
   refine wp_exit ?_
   exact ⟨rfl, _, fr_ovl 33 ⟨rfl, rfl, rfl, rfl, trivial⟩, hC, hO, h0, hv41, hrow41⟩
  ·rintro _ x55 xs_ s52 o56 a w53 ⟨k54, rfl, hd, σ, rfl, hC, hO, h0, hv41, hrow41⟩ hs
   have hlt := drop_cons_lt hd
   have hxk54 := drop_cons_idx hd
   refine c_seq (c_region ?_)
   refine pl_val (.bool (decide ((k54 : Int) < (y44.length : Int)))) (y_lss rfl rfl) ?_
   refine c_nil ?_
   refine c_seq ?_
   refine c_condT (congrArg Value.bool (decide_eq_true hlt)) ?_
   refine wp_skip ?_
   refine c_seq ?_
   refine wp_block ?_
   refine c_seq (c_region ?_)
   have hy58 := slc_idx hy44 hxk54
   obtain ⟨g58, f58, hg58, hk58, hp58, ha58, hf58⟩ := os_idx Sl41 Sz22 h0 hy58
   obtain ⟨q58, hgq58, hi58⟩ := hix43 _ _ hxk54
   rw [show q58 = g58 from Option.some.inj (hgq58.symm.trans hg58)] at hi58
   have hb58 := own_row (Frz.os Frz.int) ha58 hf58
   refine pl_val (.pointer (some ⟨g58, 0 + Int.toNat ((w64 (k35 + 1)) + (k54 : Int)) * 1, none⟩)) (hi58 _ _ _ _ _ _ _ _ _ rfl rfl) ?_
   obtain ⟨v59, hl59, hrow59, hv59⟩ := at_load1 Ag22 Sz22 rfl rfl hb58
   obtain ⟨a59, n59, c59, rfl⟩ := rs_sl hv59
   refine pl_val (.slice a59 n59 c59) (y_load rfl (hl59 _ (Chg.refl _ _))) ?_
   refine pl_val (.slice a59 n59 c59) (y_assign rfl) ?_
   refine c_nil ?_
   refine c_seq (c_region ?_)
   refine pl_val (.slice a41 n41 c41) (y_move rfl) ?_
   refine pl_val (.slice a59 n59 c59) (y_move rfl) ?_
   obtain ⟨r62, hr62, hs⟩ := bind_some hs
   refine pl_call Bd92 rfl (c_impl_permute (M := (Less M pf0)) x39 x55 hv41 hv59 hO.less.fut hr62) ?_
   rintro _ w61 ⟨rfl, hC61⟩
   have h0 := h0.ext hC61
   have hv41 := hv41.ext hC61
   have hrow41 := hrow41.chg hC61 (fun h => nomatch h)
   have hv59 := hv59.ext hC61
   have hrow59 := hrow59.chg hC61 (fun h => nomatch h)
   have hC := hC.ext hC61
   have hO := hO.ext hC61
   refine pl_val (.bool (!r62)) (y_not rfl) ?_
   refine c_nil ?_
   rcases bif_some hs with ⟨hc63, hs⟩ | ⟨hc63, hs⟩
   ·skip
    refine c_condT (congrArg Value.bool hc63) ?_
    refine c_seq (c_region ?_)
    refine pl_val (.slice a41 n41 c41) (y_move rfl) ?_
    refine pl_val (.slice a59 n59 c59) (y_move rfl) ?_
    refine pl_val (.slice a41 n41 c41) (y_assign rfl) ?_
    refine pl_val (.slice a59 n59 c59) (y_assign rfl) ?_
    refine pl_val (.bool true) (y_assign rfl) ?_
    refine c_nil ?_
    refine wp_ret ?_
    have h0 := os_hole h0
    obtain ⟨o66, ho66, hs⟩ := bind_some hs
    obtain ⟨x67, hx67, hs⟩ := bind_some hs
    obtain ⟨f65, fp65, hr65, hn65, hp65, hv65⟩ := oh_take (c := [(.slice a41 n41 c41)]) hg40 h0 (ho66.trans (congrArg some hx67)) hrow41 rfl
    have hO := hO.split hp65
    have hw65 : (RT.os 3 (RT.int .i64)).val M w61 (.slice a41 n41 c41) x67 f65 := ⟨[_], rfl, hr65⟩
    obtain ⟨o69, ho69, hs⟩ := bind_some hs
    obtain ⟨x70, hx70, hs⟩ := bind_some hs
    have hO := hO.fr1
    obtain ⟨f68, fp68, hr68, hn68, hp68, hv68⟩ := oh_take (c := [(.slice a59 n59 c59)]) hg58 hv65 (ho69.trans (congrArg some hx70)) hrow59 rfl
    have hO := hO.split hp68
    have hw68 : (RT.os 3 (RT.int .i64)).val M w61 (.slice a59 n59 c59) x70 f68 := ⟨[_], rfl, hr68⟩
    cases hs
    have hO := hO.fr1
    have hO := hO.drop
    have hO := hO.fr1
    exact ⟨_, a41, n41, c41, f65, a59, n59, c59, f68, fr_ovl 33 ⟨rfl, rfl, rfl, trivial⟩, hC, hw65, hw68, hO.top⟩
   ·skip
    refine c_condF (congrArg Value.bool hc63) ?_
    refine wp_skip ?_
    refine c_region ?_
    refine pl_val (.int .i64 (w64 ((k54 : Int) + 1))) (y_add rfl rfl) ?_
    refine pl_val (.int .i64 (w64 ((k54 : Int) + 1))) (y_move rfl) ?_
    refine c_nil ?_
    cases hs
    exact ⟨_, rfl, drop_cons_next hd, _, fr_ovl 33 ⟨rfl, rfl, rfl, rfl, rfl, rfl, rfl, congrArg (Value.int .i64) (w64_succ hlt (Int.natCast_nonneg _) hmx43), trivial⟩, hC, hO, h0, hv41, hrow41⟩
  ·skip
   exact ⟨0, rfl, rfl, _, fr_ovl 33 ⟨rfl, rfl, rfl, rfl, rfl, rfl, rfl, rfl, trivial⟩, hC, hO, h0, hv41, hrow41⟩
  ·cases o56 with
   | nx _ => exact True.intro
   | rt r_ =>
    have hs := after_rt hs
    intro a1 w1 hK
    cases hs
    exact hK
   | br s52 =>
    have hs := after_br hs
    rintro a1 w53 ⟨σ, rfl, hC, hO, h0, hv41, hrow41⟩
    refine c_region ?_
    refine pl_val (.int .i64 (w64 (k35 + 1))) (y_add rfl rfl) ?_
    refine pl_val (.int .i64 (w64 (k35 + 1))) (y_move rfl) ?_
    refine c_nil ?_
    cases hs
    exact ⟨_, fr_ovl 33 ⟨rfl, rfl, rfl, congrArg (Value.int .i64) hw, trivial⟩, hC, hO, h0⟩
 ·skip
  exact ⟨_, fr_ovl 33 ⟨rfl, rfl, rfl, rfl, trivial⟩, hC, hO, h0⟩
 ·cases o37 with
  | nx _ => exact True.intro
  | rt r_ =>
   have hs := after_rt hs
   intro a1 w1 hK
   cases hs
   exact hK
  | br s33 =>
   have hs := after_br hs
   rintro a1 w34 ⟨σ, rfl, hC, hO, h0⟩
   refine c_seq (c_region ?_)
   refine pl_val (.slice none 0 0) (y_assign rfl) ?_
   refine pl_val (.slice none 0 0) (y_assign rfl) ?_
   refine pl_val (.bool false) (y_assign rfl) ?_
   refine c_nil ?_
   refine wp_ret ?_
   cases hs
   have hO := hO.drop
   have hO := hO.nil
   have hO := hO.nil
   exact ⟨_, none, 0, 0, [], none, 0, 0, [], fr_ovl 33 ⟨rfl, rfl, rfl, trivial⟩, hC, os_nil, os_nil, hO.top⟩

theorem Bd61 : Bodied Try.prog 61 := bodied Try.func61 (by kernel_rfl) rfl

def k_impl_FirstPairApart (M : Nat → Prop) (w0 : World) (r : (List Int) × (List Int) × Bool) (a : Act) (w : World) : Prop :=
  ∃ (σ : Nat → Value) (ra0 : Option Addr) (rn0 rc0 : Nat) (rf0 : List Nat) (ra1 : Option Addr) (rn1 rc1 : Nat) (rf1 : List Nat), a = fr 27 (ovl σ [(2, (.slice ra0 rn0 rc0)), (3, (.slice ra1 rn1 rc1)), (4, (.bool r.2.2))]) ∧ Chg [] w0 w ∧ (RT.os 3 (RT.int .i64)).val M w (.slice ra0 rn0 rc0) r.1 rf0 ∧ (RT.os 3 (RT.int .i64)).val M w (.slice ra1 rn1 rc1) r.2.1 rf1 ∧ Own (Nw w0 []) (fun _ => True) w (rf0 ++ (rf1 ++ ([])))
def s_impl_FirstPairApart (a_ : Int × (List (Int × (List Int)))) : Option ((List Int) × (List Int) × Bool) :=
  (s_impl_fewCongruences (a_.1, a_.2)).bind fun r4 =>
  (s_impl_pairApart__take0 r4.1).bind fun r7 =>
  (bif (!r7.2.2) then some ([], [], false) else some (r7.1, r7.2.1, true))
set_option maxHeartbeats 4000000 in
theorem c_impl_FirstPairApart {M : Nat → Prop} {w : World} {pa0 : Option Addr} {pn0 pc0 : Nat} (a_ : Int × (List (Int × (List Int)))) (h0 : (RT.rs (RT.pr (RT.int .i64) (RT.rs (RT.int .i64)))).val M w (.slice pa0 pn0 pc0) a_.2 ([])) (hM : ∀ g, w.heap.size ≤ g → M g) {r : (List Int) × (List Int) × Bool} (hs : s_impl_FirstPairApart a_ = some r) :
    Gives Try.prog 36 [(.agg #[(.int .i64 a_.1), (.slice pa0 pn0 pc0)])] w (fun v w' => ∃ (ra0 : Option Addr) (rn0 rc0 : Nat) (rf0 : List Nat) (ra1 : Option Addr) (rn1 rc1 : Nat) (rf1 : List Nat), v = (.tuple #[(.slice ra0 rn0 rc0), (.slice ra1 rn1 rc1), (.bool r.2.2)]) ∧ Chg [] w w' ∧ (RT.os 3 (RT.int .i64)).val M w' (.slice ra0 rn0 rc0) r.1 rf0 ∧ (RT.os 3 (RT.int .i64)).val M w' (.slice ra1 rn1 rc1) r.2.1 rf1 ∧ Own (Nw w []) (fun _ => True) w' (rf0 ++ (rf1 ++ ([])))) := by
 refine calls_fr Try.func36 rfl Try.ntmps36 (Nat.le_of_ble_eq_true rfl) ?_
 have hO := Own.start (N := Nw w []) hM Nw.fut
 have hC := Chg.refl [] w
 unfold s_impl_FirstPairApart at hs
 refine wp_mono (Q := KPost (k_impl_FirstPairApart M w r)) ?_ (fun e a w1 h => ?_)
 rotate_left
 ·cases e
  case ret =>
   obtain ⟨σ, ra0, rn0, rc0, rf0, ra1, rn1, rc1, rf1, rfl, hrest⟩ := h
   exact ret3x Try.results36 (res_tmp rfl) (res_tmp rfl) (res_tmp rfl) ⟨ra0, rn0, rc0, rf0, ra1, rn1, rc1, rf1, rfl, hrest⟩
  all_goals exact (h : False).elim
 refine c_seq (c_region ?_)
 obtain ⟨w2, g2, ew2, eg2, hC2, hb2⟩ := new_block w [(.int .i64 a_.1), (.slice pa0 pn0 pc0)] 35
 refine pl_val (w' := w2) (.pointer (some ⟨g2, 0, none⟩)) (y_box rfl (by rw [ew2, eg2]; kernel_rfl)) ?_
 have h0 := h0.ext hC2
 have hC := hC.ext hC2
 have hO := hO.new1 hC2 eg2 hb2.lt
 refine pl_val (.slice none 0 0) (y_assign rfl) ?_
 refine pl_val (.slice none 0 0) (y_assign rfl) ?_
 refine pl_val (.bool false) (y_assign rfl) ?_
 refine c_nil ?_
 refine c_seq (c_region ?_)
 refine pl_val (.agg #[(.int .i64 a_.1), (.slice pa0 pn0 pc0)]) (y_load rfl ((box_load Ag35 Sz35 hb2 [] [(.int .i64 a_.1), (.slice pa0 pn0 pc0)] [] rfl rfl (fun h => nomatch h)) _ (Chg.refl _ _))) ?_
 obtain ⟨r4, hr4, hs⟩ := bind_some hs
 refine pl_call Bd53 rfl (c_impl_fewCongruences (M := M) (a_.1, a_.2) h0 hO.fut hr4) ?_
 rintro _ w3 ⟨a3x0, n3x0, c3x0, f3x0, rfl, hC3, hv3x0, hOc3⟩
 have h0 := h0.ext hC3
 have hb2 := hb2.chg hC3 (fun h => nomatch h)
 have hC := hC.ext hC3
 have hO := Own.join0 hO hC3 hOc3
 have hO := hO.perm (R := f3x0 ++ (([g2]) ++ ([]))) (by simp)
 refine pl_val (.tuple #[(.slice a3x0 n3x0 c3x0), (.bool r4.2)]) (y_move rfl) ?_
 refine pl_val (.slice a3x0 n3x0 c3x0) (y_extract rfl (by kernel_rfl)) ?_
 refine pl_val (.bool r4.2) (y_extract rfl (by kernel_rfl)) ?_
 refine pl_val (.slice a3x0 n3x0 c3x0) (y_assign rfl) ?_
 refine pl_val (.bool r4.2) (y_assign rfl) ?_
 refine c_nil ?_
 refine c_seq (c_region ?_)
 refine pl_val (.slice a3x0 n3x0 c3x0) (y_move rfl) ?_
 have hL6 := hO
 have hI6 := Own.lend (F := (f3x0 ++ ([]))) (R := ([g2]) ++ ([])) (Own.perm (hL6) (by simp))
 obtain ⟨r7, hr7, hs⟩ := bind_some hs
 refine pl_call Bd61 rfl (c_impl_pairApart__take0 (M := M) r4.1 hv3x0 hI6 hI6.fut hr7) ?_
 rintro _ w6 ⟨a6x0, n6x0, c6x0, f6x0, a6x1, n6x1, c6x1, f6x1, rfl, hC6, hv6x0, hv6x1, hOc6⟩
 have hO := hO.perm (R := (f3x0 ++ ([])) ++ (([g2]) ++ ([]))) (by simp)
 have hb2 := hb2.chg hC6 (fun hg => hO.apart _ ((fun _ h => h) _ hg) (mem_l (List.mem_singleton.2 rfl)))
 have hC := hC.step hC6 (fun g hg => hO.inN g ((fun _ h => h) g hg))
 have hO := Own.join hO hC6 hOc6
 have hO := hO.perm (R := f6x0 ++ (f6x1 ++ (([g2]) ++ ([])))) (by simp)
 refine pl_val (.tuple #[(.slice a6x0 n6x0 c6x0), (.slice a6x1 n6x1 c6x1), (.bool r7.2.2)]) (y_move rfl) ?_
 refine pl_val (.slice a6x0 n6x0 c6x0) (y_extract rfl (by kernel_rfl)) ?_
 refine pl_val (.slice a6x1 n6x1 c6x1) (y_extract rfl (by kernel_rfl)) ?_
 refine pl_val (.bool r7.2.2) (y_extract rfl (by kernel_rfl)) ?_
 refine pl_val (.slice a6x0 n6x0 c6x0) (y_assign rfl) ?_
 refine pl_val (.slice a6x1 n6x1 c6x1) (y_assign rfl) ?_
 refine pl_val (.bool r7.2.2) (y_assign rfl) ?_
 refine c_nil ?_
 refine c_seq ?_
 refine c_seq (c_region ?_)
 refine pl_val (.bool r7.2.2) (y_move rfl) ?_
 refine pl_val (.bool (!r7.2.2)) (y_not rfl) ?_
 refine c_nil ?_
 rcases bif_some hs with ⟨hc10, hs⟩ | ⟨hc10, hs⟩
 ·skip
  refine c_condT (congrArg Value.bool hc10) ?_
  refine c_seq (c_region ?_)
  obtain ⟨w11, g11, ew11, eg11, hC11, hb11⟩ := new_block w6 [] 3
  refine pl_val (w' := w11) (.slice (some ⟨g11, 0, none⟩) 0 0) (y_bslice rfl (by rw [ew11, eg11]; kernel_rfl)) ?_
  have hb2 := hb2.chg hC11 (fun h => nomatch h)
  have hv6x0 := hv6x0.ext hC11
  have hv6x1 := hv6x1.ext hC11
  have hC := hC.ext hC11
  have hO := hO.new1 hC11 eg11 hb11.lt
  have hv11 := os_of_box (r := (RT.int .i64)) (M := M) (css := []) (fps := []) (xs := ([] : List Int)) hb11 trivial (Nat.zero_le _) (List.nodup_cons.2 ⟨(fun h => nomatch h), List.nodup_nil⟩)
  have hv11 : (RT.os 3 (RT.int .i64)).val M w11 (.slice (some ⟨g11, 0, none⟩) 0 0) [] [g11] := hv11
  obtain ⟨w13, g13, ew13, eg13, hC13, hb13⟩ := new_block w11 [] 3
  refine pl_val (w' := w13) (.slice (some ⟨g13, 0, none⟩) 0 0) (y_bslice rfl (by rw [ew13, eg13]; kernel_rfl)) ?_
  have hb2 := hb2.chg hC13 (fun h => nomatch h)
  have hv6x0 := hv6x0.ext hC13
  have hv6x1 := hv6x1.ext hC13
  have hv11 := hv11.ext hC13
  have hC := hC.ext hC13
  have hO := hO.new1 hC13 eg13 hb13.lt
  have hv13 := os_of_box (r := (RT.int .i64)) (M := M) (css := []) (fps := []) (xs := ([] : List Int)) hb13 trivial (Nat.zero_le _) (List.nodup_cons.2 ⟨(fun h => nomatch h), List.nodup_nil⟩)
  have hv13 : (RT.os 3 (RT.int .i64)).val M w13 (.slice (some ⟨g13, 0, none⟩) 0 0) [] [g13] := hv13
  refine pl_val (.slice (some ⟨g11, 0, none⟩) 0 0) (y_assign rfl) ?_
  refine pl_val (.slice (some ⟨g13, 0, none⟩) 0 0) (y_assign rfl) ?_
  refine pl_val (.bool false) (y_assign rfl) ?_
  refine c_nil ?_
  refine wp_ret ?_
  cases hs
  have hO := hO.fr2
  have hO := hO.drop
  have hO := hO.fr2
  have hO := hO.drop
  have hO := hO.fr2
  have hO := hO.drop
  have hO := hO.fr1
  exact ⟨_, (some ⟨g11, 0, none⟩), 0, 0, ([g11]), (some ⟨g13, 0, none⟩), 0, 0, ([g13]), fr_ovl 27 ⟨rfl, rfl, rfl, trivial⟩, hC, hv11, hv13, hO.top⟩
 ·skip
  refine c_condF (congrArg Value.bool hc10) ?_
  refine wp_skip ?_
  refine c_seq (c_region ?_)
  refine pl_val (.slice a6x0 n6x0 c6x0) (y_move rfl) ?_
  refine pl_val (.slice a6x1 n6x1 c6x1) (y_move rfl) ?_
  refine pl_val (.slice a6x0 n6x0 c6x0) (y_assign rfl) ?_
  refine pl_val (.slice a6x1 n6x1 c6x1) (y_assign rfl) ?_
  refine pl_val (.bool true) (y_assign rfl) ?_
  refine c_nil ?_
  refine wp_ret ?_
  cases hs
  have hO := hO.fr2
  have hO := hO.drop
  have hO := hO.fr1
  have hO := hO.fr1
  exact ⟨_, a6x0, n6x0, c6x0, f6x0, a6x1, n6x1, c6x1, f6x1, fr_ovl 27 ⟨rfl, rfl, rfl, trivial⟩, hC, hv6x0, hv6x1, hO.top⟩

def k_laws_eqIntS (M : Nat → Prop) (w0 : World) (r : Bool) (a : Act) (w : World) : Prop :=
  ∃ (σ : Nat → Value) , a = fr 26 (ovl σ [(4, (.bool r))]) ∧ Chg [] w0 w
def s_laws_eqIntS (a_ : List Int) (b : List Int) : Option (Bool) :=
  (bif ((a_.length : Int) != (b.length : Int)) then some false else (forC (S := Unit) (R := Bool) (fun k12 s10 =>
  (idx a_ k12).bind fun x17 =>
  (idx b k12).bind fun x19 =>
  (bif (x17 != x19) then some (.rt false) else some (.nx ()))) 0 (a_.length : Int) ()).bind fun o14 => after o14 (fun r_ => some r_) (fun s10 =>
  some true))
set_option maxHeartbeats 4000000 in
theorem c_laws_eqIntS {M : Nat → Prop} {w : World} {pa0 : Option Addr} {pn0 pc0 : Nat} {pa1 : Option Addr} {pn1 pc1 : Nat} (a_ : List Int) (b : List Int) (h0 : (RT.rs (RT.int .i64)).val M w (.slice pa0 pn0 pc0) a_ ([])) (h1 : (RT.rs (RT.int .i64)).val M w (.slice pa1 pn1 pc1) b ([])) (hM : ∀ g, w.heap.size ≤ g → M g) {r : Bool} (hs : s_laws_eqIntS a_ b = some r) :
    Gives Try.prog 16 [(.slice pa0 pn0 pc0), (.slice pa1 pn1 pc1)] w (fun v w' => v = (.bool r) ∧ Chg [] w w') := by
 refine calls_fr Try.func16 rfl Try.ntmps16 (Nat.le_of_ble_eq_true rfl) ?_
 have hO := Own.start (N := Nw w []) hM Nw.fut
 have hC := Chg.refl [] w
 unfold s_laws_eqIntS at hs
 refine wp_mono (Q := KPost (k_laws_eqIntS M w r)) ?_ (fun e a w1 h => ?_)
 rotate_left
 ·cases e
  case ret =>
   obtain ⟨σ, rfl, hrest⟩ := h
   exact ret1x Try.results16 (res_tmp rfl) ⟨rfl, hrest⟩
  all_goals exact (h : False).elim
 refine c_seq (c_region ?_)
 refine pl_val (.bool false) (y_assign rfl) ?_
 refine c_nil ?_
 refine c_seq ?_
 refine c_seq (c_region ?_)
 refine pl_val (.slice pa0 pn0 pc0) (y_move rfl) ?_
 refine pl_val (.int .i64 (a_.length : Int)) (y_len' Sl22 (rs_len h0) rfl) ?_
 refine pl_val (.slice pa1 pn1 pc1) (y_move rfl) ?_
 refine pl_val (.int .i64 (b.length : Int)) (y_len' Sl22 (rs_len h1) rfl) ?_
 refine pl_val (.bool ((a_.length : Int) != (b.length : Int))) (y_neq rfl rfl) ?_
 refine c_nil ?_
 rcases bif_some hs with ⟨hc3, hs⟩ | ⟨hc3, hs⟩
 ·skip
  refine c_condT (congrArg Value.bool hc3) ?_
  refine c_seq (c_region ?_)
  refine pl_val (.bool false) (y_assign rfl) ?_
  refine c_nil ?_
  refine wp_ret ?_
  cases hs
  exact ⟨_, fr_ovl 26 ⟨rfl, trivial⟩, hC⟩
 ·skip
  refine c_condF (congrArg Value.bool hc3) ?_
  refine wp_skip ?_
  refine c_seq ?_
  refine c_seq (c_region ?_)
  refine pl_val (.int .i64 0) (y_assign rfl) ?_
  refine c_nil ?_
  obtain ⟨o14, hl15, hs⟩ := bind_some hs
  refine wp_block ?_
  refine wp_forC (id := 0) (a_.length : Int) (I := fun k12 s10 a w11 => ∃ (σ : Nat → Value), a = fr 26 (ovl σ [(0, (.slice pa0 pn0 pc0)), (1, (.slice pa1 pn1 pc1)), (5, (.int .i64 k12))]) ∧ Chg [] w w11 ∧ Own (Nw w []) M w11 ([]) ∧ (RT.rs (RT.int .i64)).val M w11 (.slice pa0 pn0 pc0) a_ ([]) ∧ (RT.rs (RT.int .i64)).val M w11 (.slice pa1 pn1 pc1) b ([])) (J := fun s10 a w11 => ∃ (σ : Nat → Value), a = fr 26 (ovl σ []) ∧ Chg [] w w11 ∧ Own (Nw w []) M w11 ([]) ∧ (RT.rs (RT.int .i64)).val M w11 (.slice pa0 pn0 pc0) a_ ([]) ∧ (RT.rs (RT.int .i64)).val M w11 (.slice pa1 pn1 pc1) b ([])) (K := (k_laws_eqIntS M w)) ?_ ?_ 0 () o14 _ _ ?_ hl15 ?_
  ·rintro k12 s10 a w11 ⟨σ, rfl, hC, hO, h0, h1⟩ hlt
   refine c_seq ?_
   refine c_seq (c_region ?_)
   refine pl_val (.int .i64 k12) (y_move rfl) ?_
   refine pl_val (.slice pa0 pn0 pc0) (y_move rfl) ?_
   refine pl_val (.int .i64 (a_.length : Int)) (y_len' Sl22 (rs_len h0) rfl) ?_
   refine pl_val (.bool (decide (k12 < (a_.length : Int)))) (y_lss rfl rfl) ?_
   refine c_nil ?_
   refine c_condF (congrArg Value.bool (decide_eq_false hlt)) ?_
   refine wp_exit ?_
   exact ⟨rfl, _, fr_ovl 26 trivial, hC, hO, h0, h1⟩
  ·rintro k12 s10 o14 a w11 ⟨σ, rfl, hC, hO, h0, h1⟩ hlt hw hs
   refine c_seq ?_
   refine c_seq (c_region ?_)
   refine pl_val (.int .i64 k12) (y_move rfl) ?_
   refine pl_val (.slice pa0 pn0 pc0) (y_move rfl) ?_
   refine pl_val (.int .i64 (a_.length : Int)) (y_len' Sl22 (rs_len h0) rfl) ?_
   refine pl_val (.bool (decide (k12 < (a_.length : Int)))) (y_lss rfl rfl) ?_
   refine c_nil ?_
   refine c_condT (congrArg Value.bool (decide_eq_true hlt)) ?_
   refine wp_skip ?_
   refine c_seq ?_
   refine wp_block ?_
   refine c_seq ?_
   refine x_start [] Mx rfl ?_
   have hCw16 := Chg.drew w11
   generalize World.drew w11 = w16 at hCw16 ⊢
   have h0 := h0.ext hCw16
   have h1 := h1.ext hCw16
   have hC := hC.ext hCw16
   have hO := hO.ext hCw16
   have hS := Chg.refl [] w16
   refine x_p 0 (.slice pa0 pn0 pc0) rfl (by kernel_rfl)  (fun _ => y_move rfl) (fun _ => hS) ?_
   refine x_p 1 (.int .i64 k12) rfl (by kernel_rfl)  (fun _ => y_move rfl) (fun _ => hS) ?_
   obtain ⟨x17, hx17, hs⟩ := bind_some hs
   obtain ⟨b18, o18, hp18, ha18⟩ := rs_idx Sl22 Sz3 h0 hx17
   refine x_p 2 (.pointer (some ⟨b18, o18, none⟩)) rfl (by kernel_rfl)  (fun _ => hp18 _ _ _ _ _ _ _ _ _ rfl rfl) (fun _ => hS) ?_
   refine x_l 3 (.int .i64 x17) rfl (by kernel_rfl)  (fun w' hw' => y_load rfl ((at_load_int Ag3 Sz3 ha18) w' hw')) hS ?_
   refine x_p 4 (.slice pa1 pn1 pc1) rfl (by kernel_rfl)  (fun _ => y_move rfl) (fun _ => hS) ?_
   refine x_p 5 (.int .i64 k12) rfl (by kernel_rfl)  (fun _ => y_move rfl) (fun _ => hS) ?_
   obtain ⟨x19, hx19, hs⟩ := bind_some hs
   obtain ⟨b20, o20, hp20, ha20⟩ := rs_idx Sl22 Sz3 h1 hx19
   refine x_p 6 (.pointer (some ⟨b20, o20, none⟩)) rfl (by kernel_rfl)  (fun _ => hp20 _ _ _ _ _ _ _ _ _ rfl rfl) (fun _ => hS) ?_
   refine x_l 7 (.int .i64 x19) rfl (by kernel_rfl)  (fun w' hw' => y_load rfl ((at_load_int Ag3 Sz3 ha20) w' hw')) hS ?_
   refine x_p 8 (.bool (x17 != x19)) rfl (by kernel_rfl)  (fun _ => y_neq rfl rfl) (fun _ => hS) ?_
   refine x_end (by kernel_rfl) ?_
   clear hS
   rcases bif_some hs with ⟨hc21, hs⟩ | ⟨hc21, hs⟩
   ·skip
    refine c_condT (congrArg Value.bool hc21) ?_
    refine c_seq (c_region ?_)
    refine pl_val (.bool false) (y_assign rfl) ?_
    refine c_nil ?_
    refine wp_ret ?_
    cases hs
    exact ⟨_, fr_ovl 26 ⟨rfl, trivial⟩, hC⟩
   ·skip
    refine c_condF (congrArg Value.bool hc21) ?_
    refine wp_skip ?_
    refine c_region ?_
    refine pl_val (.int .i64 k12) (y_move rfl) ?_
    refine pl_val (.int .i64 (w64 (k12 + 1))) (y_add rfl rfl) ?_
    refine pl_val (.int .i64 (w64 (k12 + 1))) (y_assign rfl) ?_
    refine c_nil ?_
    cases hs
    exact ⟨_, fr_ovl 26 ⟨rfl, rfl, congrArg (Value.int .i64) hw, trivial⟩, hC, hO, h0, h1⟩
  ·skip
   exact ⟨_, fr_ovl 26 ⟨rfl, rfl, rfl, trivial⟩, hC, hO, h0, h1⟩
  ·cases o14 with
   | nx _ => exact True.intro
   | rt r_ =>
    have hs := after_rt hs
    intro a1 w1 hK
    cases hs
    exact hK
   | br s10 =>
    have hs := after_br hs
    rintro a1 w11 ⟨σ, rfl, hC, hO, h0, h1⟩
    refine c_seq (c_region ?_)
    refine pl_val (.bool true) (y_assign rfl) ?_
    refine c_nil ?_
    refine wp_ret ?_
    cases hs
    exact ⟨_, fr_ovl 26 ⟨rfl, trivial⟩, hC⟩

theorem Bd16 : Bodied Try.prog 16 := bodied Try.func16 (by kernel_rfl) rfl

def k_laws_eqOp (M : Nat → Prop) (w0 : World) (r : Bool) (a : Act) (w : World) : Prop :=
  ∃ (σ : Nat → Value) , a = fr 16 (ovl σ [(4, (.bool r))]) ∧ Chg [] w0 w
def s_laws_eqOp (a_ : Int × (List Int)) (b : Int × (List Int)) : Option (Bool) :=
  (bif (a_.1 != b.1) then some false else (s_laws_eqIntS a_.2 b.2).bind fun r7 =>
  (bif (!r7) then some false else some true))
set_option maxHeartbeats 4000000 in
theorem c_laws_eqOp {M : Nat → Prop} {w : World} {pa0 : Option Addr} {pn0 pc0 : Nat} {pa1 : Option Addr} {pn1 pc1 : Nat} (a_ : Int × (List Int)) (b : Int × (List Int)) (h0 : (RT.rs (RT.int .i64)).val M w (.slice pa0 pn0 pc0) a_.2 ([])) (h1 : (RT.rs (RT.int .i64)).val M w (.slice pa1 pn1 pc1) b.2 ([])) (hM : ∀ g, w.heap.size ≤ g → M g) {r : Bool} (hs : s_laws_eqOp a_ b = some r) :
    Gives Try.prog 85 [(.agg #[(.int .i64 a_.1), (.slice pa0 pn0 pc0)]), (.agg #[(.int .i64 b.1), (.slice pa1 pn1 pc1)])] w (fun v w' => v = (.bool r) ∧ Chg [] w w') := by
 refine calls_fr Try.func85 rfl Try.ntmps85 (Nat.le_of_ble_eq_true rfl) ?_
 have hO := Own.start (N := Nw w []) hM Nw.fut
 have hC := Chg.refl [] w
 unfold s_laws_eqOp at hs
 refine wp_mono (Q := KPost (k_laws_eqOp M w r)) ?_ (fun e a w1 h => ?_)
 rotate_left
 ·cases e
  case ret =>
   obtain ⟨σ, rfl, hrest⟩ := h
   exact ret1x Try.results85 (res_tmp rfl) ⟨rfl, hrest⟩
  all_goals exact (h : False).elim
 refine c_seq (c_region ?_)
 obtain ⟨w3, g3, ew3, eg3, hC3, hb3⟩ := new_block w [(.int .i64 a_.1), (.slice pa0 pn0 pc0)] 81
 refine pl_val (w' := w3) (.pointer (some ⟨g3, 0, none⟩)) (y_box rfl (by rw [ew3, eg3]; kernel_rfl)) ?_
 have h0 := h0.ext hC3
 have h1 := h1.ext hC3
 have hC := hC.ext hC3
 have hO := hO.new1 hC3 eg3 hb3.lt
 obtain ⟨w4, g4, ew4, eg4, hC4, hb4⟩ := new_block w3 [(.int .i64 b.1), (.slice pa1 pn1 pc1)] 81
 refine pl_val (w' := w4) (.pointer (some ⟨g4, 0, none⟩)) (y_box rfl (by rw [ew4, eg4]; kernel_rfl)) ?_
 have h0 := h0.ext hC4
 have h1 := h1.ext hC4
 have hb3 := hb3.chg hC4 (fun h => nomatch h)
 have hC := hC.ext hC4
 have hO := hO.new1 hC4 eg4 hb4.lt
 refine pl_val (.bool false) (y_assign rfl) ?_
 refine c_nil ?_
 refine c_seq ?_
 refine c_seq (c_region ?_)
 refine pl_val (.pointer (some ⟨g3, 0, none⟩)) (y_faddr rfl Fa81x0) ?_
 refine pl_val (.int .i64 a_.1) (y_load rfl ((box_load Ag3 Sz3 hb3 [] [(.int .i64 a_.1)] [(.slice pa0 pn0 pc0)] rfl rfl (fun _ => rfl)) _ (Chg.refl _ _))) ?_
 refine pl_val (.pointer (some ⟨g4, 0, none⟩)) (y_faddr rfl Fa81x0) ?_
 refine pl_val (.int .i64 b.1) (y_load rfl ((box_load Ag3 Sz3 hb4 [] [(.int .i64 b.1)] [(.slice pa1 pn1 pc1)] rfl rfl (fun _ => rfl)) _ (Chg.refl _ _))) ?_
 refine pl_val (.bool (a_.1 != b.1)) (y_neq rfl rfl) ?_
 refine c_nil ?_
 rcases bif_some hs with ⟨hc5, hs⟩ | ⟨hc5, hs⟩
 ·skip
  refine c_condT (congrArg Value.bool hc5) ?_
  refine c_seq (c_region ?_)
  refine pl_val (.bool false) (y_assign rfl) ?_
  refine c_nil ?_
  refine wp_ret ?_
  cases hs
  exact ⟨_, fr_ovl 16 ⟨rfl, trivial⟩, hC⟩
 ·skip
  refine c_condF (congrArg Value.bool hc5) ?_
  refine wp_skip ?_
  refine c_seq ?_
  refine c_seq (c_region ?_)
  refine pl_val (.pointer (some ⟨g3, 1, none⟩)) (y_faddr rfl Fa81x1) ?_
  refine pl_val (.slice pa0 pn0 pc0) (y_load rfl ((box_load Ag22 Sz22 hb3 [(.int .i64 a_.1)] [(.slice pa0 pn0 pc0)] [] rfl rfl (fun _ => rfl)) _ (Chg.refl _ _))) ?_
  refine pl_val (.pointer (some ⟨g4, 1, none⟩)) (y_faddr rfl Fa81x1) ?_
  refine pl_val (.slice pa1 pn1 pc1) (y_load rfl ((box_load Ag22 Sz22 hb4 [(.int .i64 b.1)] [(.slice pa1 pn1 pc1)] [] rfl rfl (fun _ => rfl)) _ (Chg.refl _ _))) ?_
  obtain ⟨r7, hr7, hs⟩ := bind_some hs
  refine pl_call Bd16 rfl (c_laws_eqIntS (M := M) a_.2 b.2 h0 h1 hO.fut hr7) ?_
  rintro _ w6 ⟨rfl, hC6⟩
  have h0 := h0.ext hC6
  have h1 := h1.ext hC6
  have hb3 := hb3.chg hC6 (fun h => nomatch h)
  have hb4 := hb4.chg hC6 (fun h => nomatch h)
  have hC := hC.ext hC6
  have hO := hO.ext hC6
  refine pl_val (.bool (!r7)) (y_not rfl) ?_
  refine c_nil ?_
  rcases bif_some hs with ⟨hc8, hs⟩ | ⟨hc8, hs⟩
  ·skip
   refine c_condT (congrArg Value.bool hc8) ?_
   refine c_seq (c_region ?_)
   refine pl_val (.bool false) (y_assign rfl) ?_
   refine c_nil ?_
   refine wp_ret ?_
   cases hs
   exact ⟨_, fr_ovl 16 ⟨rfl, trivial⟩, hC⟩
  ·skip
   refine c_condF (congrArg Value.bool hc8) ?_
   refine wp_skip ?_
   refine c_seq (c_region ?_)
   refine pl_val (.bool true) (y_assign rfl) ?_
   refine c_nil ?_
   refine wp_ret ?_
   cases hs
   exact ⟨_, fr_ovl 16 ⟨rfl, trivial⟩, hC⟩

theorem Bd85 : Bodied Try.prog 85 := bodied Try.func85 (by kernel_rfl) rfl

def k_laws_eqOpS (M : Nat → Prop) (w0 : World) (r : Bool) (a : Act) (w : World) : Prop :=
  ∃ (σ : Nat → Value) , a = fr 27 (ovl σ [(4, (.bool r))]) ∧ Chg [] w0 w
def s_laws_eqOpS (a_ : List (Int × (List Int))) (b : List (Int × (List Int))) : Option (Bool) :=
  (bif ((a_.length : Int) != (b.length : Int)) then some false else (forC (S := Unit) (R := Bool) (fun k18 s16 =>
  (idx a_ k18).bind fun x23 =>
  (idx b k18).bind fun x27 =>
  (s_laws_eqOp (x23.1, x23.2) (x27.1, x27.2)).bind fun r32 =>
  (bif (!r32) then some (.rt false) else some (.nx ()))) 0 (a_.length : Int) ()).bind fun o20 => after o20 (fun r_ => some r_) (fun s16 =>
  some true))
set_option maxHeartbeats 4000000 in
theorem c_laws_eqOpS {M : Nat → Prop} {w : World} {pa0 : Option Addr} {pn0 pc0 : Nat} {pa1 : Option Addr} {pn1 pc1 : Nat} (a_ : List (Int × (List Int))) (b : List (Int × (List Int))) (h0 : (RT.rs (RT.pr (RT.int .i64) (RT.rs (RT.int .i64)))).val M w (.slice pa0 pn0 pc0) a_ ([])) (h1 : (RT.rs (RT.pr (RT.int .i64) (RT.rs (RT.int .i64)))).val M w (.slice pa1 pn1 pc1) b ([])) (hM : ∀ g, w.heap.size ≤ g → M g) {r : Bool} (hs : s_laws_eqOpS a_ b = some r) :
    Gives Try.prog 55 [(.slice pa0 pn0 pc0), (.slice pa1 pn1 pc1)] w (fun v w' => v = (.bool r) ∧ Chg [] w w') := by
 refine calls_fr Try.func55 rfl Try.ntmps55 (Nat.le_of_ble_eq_true rfl) ?_
 have hO := Own.start (N := Nw w []) hM Nw.fut
 have hC := Chg.refl [] w
 unfold s_laws_eqOpS at hs
 refine wp_mono (Q := KPost (k_laws_eqOpS M w r)) ?_ (fun e a w1 h => ?_)
 rotate_left
 ·cases e
  case ret =>
   obtain ⟨σ, rfl, hrest⟩ := h
   exact ret1x Try.results55 (res_tmp rfl) ⟨rfl, hrest⟩
  all_goals exact (h : False).elim
 refine c_seq (c_region ?_)
 refine pl_val (.bool false) (y_assign rfl) ?_
 refine c_nil ?_
 refine c_seq ?_
 refine c_seq (c_region ?_)
 refine pl_val (.slice pa0 pn0 pc0) (y_move rfl) ?_
 refine pl_val (.int .i64 (a_.length : Int)) (y_len' Sl33 (rs_len h0) rfl) ?_
 refine pl_val (.slice pa1 pn1 pc1) (y_move rfl) ?_
 refine pl_val (.int .i64 (b.length : Int)) (y_len' Sl33 (rs_len h1) rfl) ?_
 refine pl_val (.bool ((a_.length : Int) != (b.length : Int))) (y_neq rfl rfl) ?_
 refine c_nil ?_
 rcases bif_some hs with ⟨hc3, hs⟩ | ⟨hc3, hs⟩
 ·skip
  refine c_condT (congrArg Value.bool hc3) ?_
  refine c_seq (c_region ?_)
  refine pl_val (.bool false) (y_assign rfl) ?_
  refine c_nil ?_
  refine wp_ret ?_
  cases hs
  exact ⟨_, fr_ovl 27 ⟨rfl, trivial⟩, hC⟩
 ·skip
  refine c_condF (congrArg Value.bool hc3) ?_
  refine wp_skip ?_
  refine c_seq ?_
  refine c_seq (c_region ?_)
  refine pl_val (.int .i64 0) (y_assign rfl) ?_
  refine c_nil ?_
  obtain ⟨o20, hl21, hs⟩ := bind_some hs
  refine wp_block ?_
  refine wp_forC (id := 0) (a_.length : Int) (I := fun k18 s16 a w17 => ∃ (σ : Nat → Value), a = fr 27 (ovl σ [(0, (.slice pa0 pn0 pc0)), (1, (.slice pa1 pn1 pc1)), (5, (.int .i64 k18))]) ∧ Chg [] w w17 ∧ Own (Nw w []) M w17 ([]) ∧ (RT.rs (RT.pr (RT.int .i64) (RT.rs (RT.int .i64)))).val M w17 (.slice pa0 pn0 pc0) a_ ([]) ∧ (RT.rs (RT.pr (RT.int .i64) (RT.rs (RT.int .i64)))).val M w17 (.slice pa1 pn1 pc1) b ([])) (J := fun s16 a w17 => ∃ (σ : Nat → Value), a = fr 27 (ovl σ []) ∧ Chg [] w w17 ∧ Own (Nw w []) M w17 ([]) ∧ (RT.rs (RT.pr (RT.int .i64) (RT.rs (RT.int .i64)))).val M w17 (.slice pa0 pn0 pc0) a_ ([]) ∧ (RT.rs (RT.pr (RT.int .i64) (RT.rs (RT.int .i64)))).val M w17 (.slice pa1 pn1 pc1) b ([])) (K := (k_laws_eqOpS M w)) ?_ ?_ 0 () o20 _ _ ?_ hl21 ?_
  ·rintro k18 s16 a w17 ⟨σ, rfl, hC, hO, h0, h1⟩ hlt
   refine c_seq ?_
   refine c_seq (c_region ?_)
   refine pl_val (.int .i64 k18) (y_move rfl) ?_
   refine pl_val (.slice pa0 pn0 pc0) (y_move rfl) ?_
   refine pl_val (.int .i64 (a_.length : Int)) (y_len' Sl33 (rs_len h0) rfl) ?_
   refine pl_val (.bool (decide (k18 < (a_.length : Int)))) (y_lss rfl rfl) ?_
   refine c_nil ?_
   refine c_condF (congrArg Value.bool (decide_eq_false hlt)) ?_
   refine wp_exit ?_
   exact ⟨rfl, _, fr_ovl 27 trivial, hC, hO, h0, h1⟩
  ·rintro k18 s16 o20 a w17 ⟨σ, rfl, hC, hO, h0, h1⟩ hlt hw hs
   refine c_seq ?_
   refine c_seq (c_region ?_)
   refine pl_val (.int .i64 k18) (y_move rfl) ?_
   refine pl_val (.slice pa0 pn0 pc0) (y_move rfl) ?_
   refine pl_val (.int .i64 (a_.length : Int)) (y_len' Sl33 (rs_len h0) rfl) ?_
   refine pl_val (.bool (decide (k18 < (a_.length : Int)))) (y_lss rfl rfl) ?_
   refine c_nil ?_
   refine c_condT (congrArg Value.bool (decide_eq_true hlt)) ?_
   refine wp_skip ?_
   refine c_seq ?_
   refine wp_block ?_
   refine c_seq ?_
   refine x_start [] Mx rfl ?_
   have hCw22 := Chg.drew w17
   generalize World.drew w17 = w22 at hCw22 ⊢
   have h0 := h0.ext hCw22
   have h1 := h1.ext hCw22
   have hC := hC.ext hCw22
   have hO := hO.ext hCw22
   have hS := Chg.refl [] w22
   refine x_p 0 (.slice pa0 pn0 pc0) rfl (by kernel_rfl)  (fun _ => y_move rfl) (fun _ => hS) ?_
   refine x_p 1 (.int .i64 k18) rfl (by kernel_rfl)  (fun _ => y_move rfl) (fun _ => hS) ?_
   obtain ⟨x23, hx23, hs⟩ := bind_some hs
   obtain ⟨b24, o24, hp24, ha24⟩ := rs_idx Sl33 Sz81 h0 hx23
   refine x_p 2 (.pointer (some ⟨b24, o24, none⟩)) rfl (by kernel_rfl)  (fun _ => hp24 _ _ _ _ _ _ _ _ _ rfl rfl) (fun _ => hS) ?_
   obtain ⟨v25, hl25, hv25⟩ := at_load Ag81 Sz81 (by intro h; cases h) ha24
   obtain ⟨cs25, rfl, hr25⟩ := hv25
   obtain ⟨cc25x1, cd25x1, rfl, hh25x1, ht25x1⟩ := pr_open hr25
   obtain rfl := int_rel hh25x1
   obtain ⟨a25x2, n25x2, c25x2, rfl, hv25x2⟩ := rs_rel ht25x1
   refine x_l 3 (.agg #[(.int .i64 x23.1), (.slice a25x2 n25x2 c25x2)]) rfl (by kernel_rfl)  (fun w' hw' => y_load rfl (hl25 w' hw')) hS ?_
   refine x_p 4 (.slice pa1 pn1 pc1) rfl (by kernel_rfl)  (fun _ => y_move rfl) (fun _ => hS) ?_
   refine x_p 5 (.int .i64 k18) rfl (by kernel_rfl)  (fun _ => y_move rfl) (fun _ => hS) ?_
   obtain ⟨x27, hx27, hs⟩ := bind_some hs
   obtain ⟨b28, o28, hp28, ha28⟩ := rs_idx Sl33 Sz81 h1 hx27
   refine x_p 6 (.pointer (some ⟨b28, o28, none⟩)) rfl (by kernel_rfl)  (fun _ => hp28 _ _ _ _ _ _ _ _ _ rfl rfl) (fun _ => hS) ?_
   obtain ⟨v29, hl29, hv29⟩ := at_load Ag81 Sz81 (by intro h; cases h) ha28
   obtain ⟨cs29, rfl, hr29⟩ := hv29
   obtain ⟨cc29x1, cd29x1, rfl, hh29x1, ht29x1⟩ := pr_open hr29
   obtain rfl := int_rel hh29x1
   obtain ⟨a29x2, n29x2, c29x2, rfl, hv29x2⟩ := rs_rel ht29x1
   refine x_l 7 (.agg #[(.int .i64 x27.1), (.slice a29x2 n29x2 c29x2)]) rfl (by kernel_rfl)  (fun w' hw' => y_load rfl (hl29 w' hw')) hS ?_
   refine x_one (i := 8) (by kernel_rfl) ?_
   obtain ⟨r32, hr32, hs⟩ := bind_some hs
   refine xk_call (b := false) rfl  Bd85 rfl (c_laws_eqOp (M := M) (x23.1, x23.2) (x27.1, x27.2) hv25x2 hv29x2 hO.fut hr32) rfl (by rintro _ _ _ ⟨rfl, hC31⟩; exact hS.ext hC31) ?_
   rintro _ w31 ⟨rfl, hC31⟩
   have h0 := h0.ext hC31
   have h1 := h1.ext hC31
   have hv25x2 := hv25x2.ext hC31
   have hv29x2 := hv29x2.ext hC31
   have hC := hC.ext hC31
   have hO := hO.ext hC31
   have hS := hS.ext hC31
   refine x_p 9 (.bool (!r32)) rfl (by kernel_rfl)  (fun _ => y_not rfl) (fun _ => hS) ?_
   refine x_end (by kernel_rfl) ?_
   clear hS
   rcases bif_some hs with ⟨hc33, hs⟩ | ⟨hc33, hs⟩
   ·skip
    refine c_condT (congrArg Value.bool hc33) ?_
    refine c_seq (c_region ?_)
    refine pl_val (.bool false) (y_assign rfl) ?_
    refine c_nil ?_
    refine wp_ret ?_
    cases hs
    exact ⟨_, fr_ovl 27 ⟨rfl, trivial⟩, hC⟩
   ·skip
    refine c_condF (congrArg Value.bool hc33) ?_
    refine wp_skip ?_
    refine c_region ?_
    refine pl_val (.int .i64 k18) (y_move rfl) ?_
    refine pl_val (.int .i64 (w64 (k18 + 1))) (y_add rfl rfl) ?_
    refine pl_val (.int .i64 (w64 (k18 + 1))) (y_assign rfl) ?_
    refine c_nil ?_
    cases hs
    exact ⟨_, fr_ovl 27 ⟨rfl, rfl, congrArg (Value.int .i64) hw, trivial⟩, hC, hO, h0, h1⟩
  ·skip
   exact ⟨_, fr_ovl 27 ⟨rfl, rfl, rfl, trivial⟩, hC, hO, h0, h1⟩
  ·cases o20 with
   | nx _ => exact True.intro
   | rt r_ =>
    have hs := after_rt hs
    intro a1 w1 hK
    cases hs
    exact hK
   | br s16 =>
    have hs := after_br hs
    rintro a1 w17 ⟨σ, rfl, hC, hO, h0, h1⟩
    refine c_seq (c_region ?_)
    refine pl_val (.bool true) (y_assign rfl) ?_
    refine c_nil ?_
    refine wp_ret ?_
    cases hs
    exact ⟨_, fr_ovl 27 ⟨rfl, trivial⟩, hC⟩

theorem Bd55 : Bodied Try.prog 55 := bodied Try.func55 (by kernel_rfl) rfl

def k_laws_eqAlgebra (M : Nat → Prop) (w0 : World) (r : Bool) (a : Act) (w : World) : Prop :=
  ∃ (σ : Nat → Value) , a = fr 16 (ovl σ [(4, (.bool r))]) ∧ Chg [] w0 w
def s_laws_eqAlgebra (a_ : Int × (List (Int × (List Int)))) (b : Int × (List (Int × (List Int)))) : Option (Bool) :=
  (bif (a_.1 != b.1) then some false else (s_laws_eqOpS a_.2 b.2).bind fun r7 =>
  (bif (!r7) then some false else some true))
set_option maxHeartbeats 4000000 in
theorem c_laws_eqAlgebra {M : Nat → Prop} {w : World} {pa0 : Option Addr} {pn0 pc0 : Nat} {pa1 : Option Addr} {pn1 pc1 : Nat} (a_ : Int × (List (Int × (List Int)))) (b : Int × (List (Int × (List Int)))) (h0 : (RT.rs (RT.pr (RT.int .i64) (RT.rs (RT.int .i64)))).val M w (.slice pa0 pn0 pc0) a_.2 ([])) (h1 : (RT.rs (RT.pr (RT.int .i64) (RT.rs (RT.int .i64)))).val M w (.slice pa1 pn1 pc1) b.2 ([])) (hM : ∀ g, w.heap.size ≤ g → M g) {r : Bool} (hs : s_laws_eqAlgebra a_ b = some r) :
    Gives Try.prog 21 [(.agg #[(.int .i64 a_.1), (.slice pa0 pn0 pc0)]), (.agg #[(.int .i64 b.1), (.slice pa1 pn1 pc1)])] w (fun v w' => v = (.bool r) ∧ Chg [] w w') := by
 refine calls_fr Try.func21 rfl Try.ntmps21 (Nat.le_of_ble_eq_true rfl) ?_
 have hO := Own.start (N := Nw w []) hM Nw.fut
 have hC := Chg.refl [] w
 unfold s_laws_eqAlgebra at hs
 refine wp_mono (Q := KPost (k_laws_eqAlgebra M w r)) ?_ (fun e a w1 h => ?_)
 rotate_left
 ·cases e
  case ret =>
   obtain ⟨σ, rfl, hrest⟩ := h
   exact ret1x Try.results21 (res_tmp rfl) ⟨rfl, hrest⟩
  all_goals exact (h : False).elim
 refine c_seq (c_region ?_)
 obtain ⟨w3, g3, ew3, eg3, hC3, hb3⟩ := new_block w [(.int .i64 a_.1), (.slice pa0 pn0 pc0)] 35
 refine pl_val (w' := w3) (.pointer (some ⟨g3, 0, none⟩)) (y_box rfl (by rw [ew3, eg3]; kernel_rfl)) ?_
 have h0 := h0.ext hC3
 have h1 := h1.ext hC3
 have hC := hC.ext hC3
 have hO := hO.new1 hC3 eg3 hb3.lt
 obtain ⟨w4, g4, ew4, eg4, hC4, hb4⟩ := new_block w3 [(.int .i64 b.1), (.slice pa1 pn1 pc1)] 35
 refine pl_val (w' := w4) (.pointer (some ⟨g4, 0, none⟩)) (y_box rfl (by rw [ew4, eg4]; kernel_rfl)) ?_
 have h0 := h0.ext hC4
 have h1 := h1.ext hC4
 have hb3 := hb3.chg hC4 (fun h => nomatch h)
 have hC := hC.ext hC4
 have hO := hO.new1 hC4 eg4 hb4.lt
 refine pl_val (.bool false) (y_assign rfl) ?_
 refine c_nil ?_
 refine c_seq ?_
 refine c_seq (c_region ?_)
 refine pl_val (.pointer (some ⟨g3, 0, none⟩)) (y_faddr rfl Fa35x0) ?_
 refine pl_val (.int .i64 a_.1) (y_load rfl ((box_load Ag3 Sz3 hb3 [] [(.int .i64 a_.1)] [(.slice pa0 pn0 pc0)] rfl rfl (fun _ => rfl)) _ (Chg.refl _ _))) ?_
 refine pl_val (.pointer (some ⟨g4, 0, none⟩)) (y_faddr rfl Fa35x0) ?_
 refine pl_val (.int .i64 b.1) (y_load rfl ((box_load Ag3 Sz3 hb4 [] [(.int .i64 b.1)] [(.slice pa1 pn1 pc1)] rfl rfl (fun _ => rfl)) _ (Chg.refl _ _))) ?_
 refine pl_val (.bool (a_.1 != b.1)) (y_neq rfl rfl) ?_
 refine c_nil ?_
 rcases bif_some hs with ⟨hc5, hs⟩ | ⟨hc5, hs⟩
 ·skip
  refine c_condT (congrArg Value.bool hc5) ?_
  refine c_seq (c_region ?_)
  refine pl_val (.bool false) (y_assign rfl) ?_
  refine c_nil ?_
  refine wp_ret ?_
  cases hs
  exact ⟨_, fr_ovl 16 ⟨rfl, trivial⟩, hC⟩
 ·skip
  refine c_condF (congrArg Value.bool hc5) ?_
  refine wp_skip ?_
  refine c_seq ?_
  refine c_seq (c_region ?_)
  refine pl_val (.pointer (some ⟨g3, 1, none⟩)) (y_faddr rfl Fa35x1) ?_
  refine pl_val (.slice pa0 pn0 pc0) (y_load rfl ((box_load Ag33 Sz33 hb3 [(.int .i64 a_.1)] [(.slice pa0 pn0 pc0)] [] rfl rfl (fun _ => rfl)) _ (Chg.refl _ _))) ?_
  refine pl_val (.pointer (some ⟨g4, 1, none⟩)) (y_faddr rfl Fa35x1) ?_
  refine pl_val (.slice pa1 pn1 pc1) (y_load rfl ((box_load Ag33 Sz33 hb4 [(.int .i64 b.1)] [(.slice pa1 pn1 pc1)] [] rfl rfl (fun _ => rfl)) _ (Chg.refl _ _))) ?_
  obtain ⟨r7, hr7, hs⟩ := bind_some hs
  refine pl_call Bd55 rfl (c_laws_eqOpS (M := M) a_.2 b.2 h0 h1 hO.fut hr7) ?_
  rintro _ w6 ⟨rfl, hC6⟩
  have h0 := h0.ext hC6
  have h1 := h1.ext hC6
  have hb3 := hb3.chg hC6 (fun h => nomatch h)
  have hb4 := hb4.chg hC6 (fun h => nomatch h)
  have hC := hC.ext hC6
  have hO := hO.ext hC6
  refine pl_val (.bool (!r7)) (y_not rfl) ?_
  refine c_nil ?_
  rcases bif_some hs with ⟨hc8, hs⟩ | ⟨hc8, hs⟩
  ·skip
   refine c_condT (congrArg Value.bool hc8) ?_
   refine c_seq (c_region ?_)
   refine pl_val (.bool false) (y_assign rfl) ?_
   refine c_nil ?_
   refine wp_ret ?_
   cases hs
   exact ⟨_, fr_ovl 16 ⟨rfl, trivial⟩, hC⟩
  ·skip
   refine c_condF (congrArg Value.bool hc8) ?_
   refine wp_skip ?_
   refine c_seq (c_region ?_)
   refine pl_val (.bool true) (y_assign rfl) ?_
   refine c_nil ?_
   refine wp_ret ?_
   cases hs
   exact ⟨_, fr_ovl 16 ⟨rfl, trivial⟩, hC⟩

def k_laws_markIntS (M : Nat → Prop) (w0 : World) (qa0 : Option Addr) (qn0 qc0 : Nat) (qf0 : List Nat) (r : Int × (List Int)) (a : Act) (w : World) : Prop :=
  ∃ (σ : Nat → Value) (rfi0 : List Nat), a = fr 19 (ovl σ [(4, (.int .i64 r.1))]) ∧ Chg (qf0 ++ ([])) w0 w ∧ (RT.os 3 (RT.int .i64)).val M w (.slice qa0 qn0 qc0) r.2 rfi0 ∧ Own (Nw w0 (qf0 ++ ([]))) (fun _ => True) w (rfi0 ++ ([]))
def s_laws_markIntS (a_ : List Int) (k : Int) : Option (Int × (List Int)) :=
  (iter (S := Int × Int × (List Int)) (R := Int × (List Int)) (fun s25 =>
  (bif (decide (s25.2.1 < (s25.2.2.length : Int))) then (idx s25.2.2 s25.2.1).bind fun x34 =>
  some (.nx (w64 (s25.1 + 1), w64 (s25.2.1 + 1), List.set s25.2.2 (Int.toNat s25.2.1) s25.1)) else some (.br (s25.1, s25.2.1, s25.2.2)))) FU (k, 0, a_)).bind fun o29 => after o29 (fun r_ => some r_) (fun s25 =>
  some (s25.1, s25.2.2))
set_option maxHeartbeats 4000000 in
theorem c_laws_markIntS {M : Nat → Prop} {w : World} {pa0 : Option Addr} {pn0 pc0 : Nat} {pf0 : List Nat} (a_ : List Int) (k : Int) (h0 : (RT.os 3 (RT.int .i64)).val M w (.slice pa0 pn0 pc0) a_ pf0) (hI : Own (Nw w (pf0 ++ ([]))) M w (pf0 ++ ([]))) (hM : ∀ g, w.heap.size ≤ g → M g) {r : Int × (List Int)} (hs : s_laws_markIntS a_ k = some r) :
    Gives Try.prog 32 [(.slice pa0 pn0 pc0), (.int .i64 k)] w (fun v w' => ∃ (rfi0 : List Nat), v = (.int .i64 r.1) ∧ Chg (pf0 ++ ([])) w w' ∧ (RT.os 3 (RT.int .i64)).val M w' (.slice pa0 pn0 pc0) r.2 rfi0 ∧ Own (Nw w (pf0 ++ ([]))) (fun _ => True) w' (rfi0 ++ ([]))) := by
 refine calls_fr Try.func32 rfl Try.ntmps32 (Nat.le_of_ble_eq_true rfl) ?_
 have hO := hI
 have hC := Chg.refl (pf0 ++ ([])) w
 unfold s_laws_markIntS at hs
 refine wp_mono (Q := KPost (k_laws_markIntS M w pa0 pn0 pc0 pf0 r)) ?_ (fun e a w1 h => ?_)
 rotate_left
 ·cases e
  case ret =>
   obtain ⟨σ, rfi0, rfl, hrest⟩ := h
   exact ret1x Try.results32 (res_tmp rfl) ⟨rfi0, rfl, hrest⟩
  all_goals exact (h : False).elim
 refine c_seq (c_region ?_)
 refine pl_val (.int .i64 0) (y_assign rfl) ?_
 refine c_nil ?_
 refine c_seq ?_
 refine c_seq (c_region ?_)
 refine pl_val (.int .i64 0) (y_assign rfl) ?_
 refine c_nil ?_
 obtain ⟨o29, hl30, hs⟩ := bind_some hs
 refine wp_block ?_
 refine wp_iter (id := 0) (I := fun s25 a w26 => ∃ (σ : Nat → Value) (f31 : List Nat), a = fr 19 (ovl σ [(0, (.slice pa0 pn0 pc0)), (1, (.int .i64 s25.1)), (5, (.int .i64 s25.2.1))]) ∧ Chg (pf0 ++ ([])) w w26 ∧ Own (Nw w (pf0 ++ ([]))) M w26 (f31 ++ []) ∧ (RT.os 3 (RT.int .i64)).val M w26 (.slice pa0 pn0 pc0) s25.2.2 f31) (J := fun s25 a w26 => ∃ (σ : Nat → Value) (f32 : List Nat), a = fr 19 (ovl σ [(1, (.int .i64 s25.1))]) ∧ Chg (pf0 ++ ([])) w w26 ∧ Own (Nw w (pf0 ++ ([]))) M w26 (f32 ++ []) ∧ (RT.os 3 (RT.int .i64)).val M w26 (.slice pa0 pn0 pc0) s25.2.2 f32) (K := (k_laws_markIntS M w pa0 pn0 pc0 pf0)) ?_ FU (k, 0, a_) o29 _ _ ?_ hl30 ?_
 ·rintro s25 o29 a w26 ⟨σ, f31, rfl, hC, hO, hv31⟩ hs
  refine c_seq ?_
  refine c_seq (c_region ?_)
  refine pl_val (.int .i64 s25.2.1) (y_move rfl) ?_
  refine pl_val (.slice pa0 pn0 pc0) (y_move rfl) ?_
  refine pl_val (.int .i64 (s25.2.2.length : Int)) (y_len' Sl22 (os_len hv31) rfl) ?_
  refine pl_val (.bool (decide (s25.2.1 < (s25.2.2.length : Int)))) (y_lss rfl rfl) ?_
  refine c_nil ?_
  rcases bif_some hs with ⟨hc33, hs⟩ | ⟨hc33, hs⟩
  ·skip
   refine c_condT (congrArg Value.bool hc33) ?_
   refine wp_skip ?_
   refine c_seq ?_
   refine wp_block ?_
   refine c_seq (c_region ?_)
   refine pl_val (.slice pa0 pn0 pc0) (y_move rfl) ?_
   refine pl_val (.int .i64 s25.2.1) (y_move rfl) ?_
   refine pl_val (.int .i64 s25.1) (y_move rfl) ?_
   obtain ⟨x34, hx34, hs⟩ := bind_some hs
   obtain ⟨g35, f35, hg35, hk35, hp35, ha35, hf35⟩ := os_idx Sl22 Sz3 hv31 hx34
   refine pl_val (.pointer (some ⟨g35, 0 + Int.toNat s25.2.1 * 1, none⟩)) (hp35 _ _ _ _ _ _ _ _ _ rfl rfl) ?_
   obtain ⟨w36, f36, hst36, hC36, hf36, hv36⟩ := os_store (P := Try.prog) (c' := [(.int .i64 s25.1)]) hg35 hv31 hk35 (fun g hg => hO.inM g (os_block hv31 g (by simpa using hg))) ⟨rfl, rfl⟩ List.nodup_nil (fun _ h => nomatch h) (fun _ h => .inl h)
   have hG36 : ∀ q ∈ [g35], q ∈ f31 := fun q hq => os_block hv31 q (by rw [hg35]; exact hq)
   refine pl_skip (w' := w36) (ys_store rfl rfl (hst36 _ _ rfl Sz3)) ?_
   have hC := hC.step hC36 (fun g hg => hO.inN g (hG36 g hg))
   have hO := hO.grow hC36 (fun q hq => .inl ((hf36 q hq).resolve_right (fun h => nomatch h))) (os_nodup hv36) hv36.fpl
   refine c_nil ?_
   refine c_region ?_
   refine pl_val (.int .i64 s25.1) (y_move rfl) ?_
   refine pl_val (.int .i64 (w64 (s25.1 + 1))) (y_add rfl rfl) ?_
   refine pl_val (.int .i64 (w64 (s25.1 + 1))) (y_assign rfl) ?_
   refine c_nil ?_
   refine c_region ?_
   refine pl_val (.int .i64 s25.2.1) (y_move rfl) ?_
   refine pl_val (.int .i64 (w64 (s25.2.1 + 1))) (y_add rfl rfl) ?_
   refine pl_val (.int .i64 (w64 (s25.2.1 + 1))) (y_assign rfl) ?_
   refine c_nil ?_
   cases hs
   exact ⟨_, f36, fr_ovl 19 ⟨rfl, rfl, rfl, trivial⟩, hC, hO, hv36⟩
  ·skip
   refine c_condF (congrArg Value.bool hc33) ?_
   refine wp_exit ?_
   cases hs
   exact ⟨rfl, _, f31, fr_ovl 19 ⟨rfl, trivial⟩, hC, hO, hv31⟩
 ·skip
  exact ⟨_, pf0, fr_ovl 19 ⟨rfl, rfl, rfl, trivial⟩, hC, hO, h0⟩
 ·cases o29 with
  | nx _ => exact True.intro
  | rt r_ =>
   have hs := after_rt hs
   intro a1 w1 hK
   cases hs
   exact hK
  | br s25 =>
   have hs := after_br hs
   rintro a1 w26 ⟨σ, f32, rfl, hC, hO, hv32⟩
   refine c_seq (c_region ?_)
   refine pl_val (.int .i64 s25.1) (y_move rfl) ?_
   refine pl_val (.int .i64 s25.1) (y_assign rfl) ?_
   refine c_nil ?_
   refine wp_ret ?_
   cases hs
   exact ⟨_, f32, fr_ovl 19 ⟨rfl, trivial⟩, hC, hv32, hO.top⟩

theorem Bd32 : Bodied Try.prog 32 := bodied Try.func32 (by kernel_rfl) rfl

def k_laws_markOpS (M : Nat → Prop) (w0 : World) (qa0 : Option Addr) (qn0 qc0 : Nat) (qf0 : List Nat) (r : Int × (List (Int × (List Int)))) (a : Act) (w : World) : Prop :=
  ∃ (σ : Nat → Value) (rfi0 : List Nat), a = fr 27 (ovl σ [(4, (.int .i64 r.1))]) ∧ Chg (qf0 ++ ([])) w0 w ∧ (RT.os 81 (RT.pr (RT.int .i64) (RT.os 3 (RT.int .i64)))).val M w (.slice qa0 qn0 qc0) r.2 rfi0 ∧ Own (Nw w0 (qf0 ++ ([]))) (fun _ => True) w (rfi0 ++ ([]))
def s_laws_markOpS (a_ : List (Int × (List Int))) (k : Int) : Option (Int × (List (Int × (List Int)))) :=
  (iter (S := Int × Int × (List (Int × (List Int)))) (R := Int × (List (Int × (List Int)))) (fun s57 =>
  (bif (decide (s57.2.1 < (s57.2.2.length : Int))) then (idx s57.2.2 s57.2.1).bind fun x67 =>
  (idx (List.set s57.2.2 (Int.toNat s57.2.1) (s57.1, x67.2)) s57.2.1).bind fun x71 =>
  (s_laws_markIntS x71.2 (w64 (s57.1 + 1))).bind fun r77 =>
  some (.nx (r77.1, w64 (s57.2.1 + 1), List.set (List.set s57.2.2 (Int.toNat s57.2.1) (s57.1, x67.2)) (Int.toNat s57.2.1) (x71.1, r77.2))) else some (.br (s57.1, s57.2.1, s57.2.2)))) FU (k, 0, a_)).bind fun o61 => after o61 (fun r_ => some r_) (fun s57 =>
  some (s57.1, s57.2.2))
set_option maxHeartbeats 4000000 in
theorem c_laws_markOpS {M : Nat → Prop} {w : World} {pa0 : Option Addr} {pn0 pc0 : Nat} {pf0 : List Nat} (a_ : List (Int × (List Int))) (k : Int) (h0 : (RT.os 81 (RT.pr (RT.int .i64) (RT.os 3 (RT.int .i64)))).val M w (.slice pa0 pn0 pc0) a_ pf0) (hI : Own (Nw w (pf0 ++ ([]))) M w (pf0 ++ ([]))) (hM : ∀ g, w.heap.size ≤ g → M g) {r : Int × (List (Int × (List Int)))} (hs : s_laws_markOpS a_ k = some r) :
    Gives Try.prog 67 [(.slice pa0 pn0 pc0), (.int .i64 k)] w (fun v w' => ∃ (rfi0 : List Nat), v = (.int .i64 r.1) ∧ Chg (pf0 ++ ([])) w w' ∧ (RT.os 81 (RT.pr (RT.int .i64) (RT.os 3 (RT.int .i64)))).val M w' (.slice pa0 pn0 pc0) r.2 rfi0 ∧ Own (Nw w (pf0 ++ ([]))) (fun _ => True) w' (rfi0 ++ ([]))) := by
 refine calls_fr Try.func67 rfl Try.ntmps67 (Nat.le_of_ble_eq_true rfl) ?_
 have hO := hI
 have hC := Chg.refl (pf0 ++ ([])) w
 unfold s_laws_markOpS at hs
 refine wp_mono (Q := KPost (k_laws_markOpS M w pa0 pn0 pc0 pf0 r)) ?_ (fun e a w1 h => ?_)
 rotate_left
 ·cases e
  case ret =>
   obtain ⟨σ, rfi0, rfl, hrest⟩ := h
   exact ret1x Try.results67 (res_tmp rfl) ⟨rfi0, rfl, hrest⟩
  all_goals exact (h : False).elim
 refine c_seq (c_region ?_)
 refine pl_val (.int .i64 0) (y_assign rfl) ?_
 refine c_nil ?_
 refine c_seq ?_
 refine c_seq (c_region ?_)
 refine pl_val (.int .i64 0) (y_assign rfl) ?_
 refine c_nil ?_
 obtain ⟨o61, hl62, hs⟩ := bind_some hs
 refine wp_block ?_
 refine wp_iter (id := 0) (I := fun s57 a w58 => ∃ (σ : Nat → Value) (f63 : List Nat), a = fr 27 (ovl σ [(0, (.slice pa0 pn0 pc0)), (1, (.int .i64 s57.1)), (5, (.int .i64 s57.2.1))]) ∧ Chg (pf0 ++ ([])) w w58 ∧ Own (Nw w (pf0 ++ ([]))) M w58 (f63 ++ []) ∧ (RT.os 81 (RT.pr (RT.int .i64) (RT.os 3 (RT.int .i64)))).val M w58 (.slice pa0 pn0 pc0) s57.2.2 f63) (J := fun s57 a w58 => ∃ (σ : Nat → Value) (f65 : List Nat), a = fr 27 (ovl σ [(1, (.int .i64 s57.1))]) ∧ Chg (pf0 ++ ([])) w w58 ∧ Own (Nw w (pf0 ++ ([]))) M w58 (f65 ++ []) ∧ (RT.os 81 (RT.pr (RT.int .i64) (RT.os 3 (RT.int .i64)))).val M w58 (.slice pa0 pn0 pc0) s57.2.2 f65) (K := (k_laws_markOpS M w pa0 pn0 pc0 pf0)) ?_ FU (k, 0, a_) o61 _ _ ?_ hl62 ?_
 ·rintro s57 o61 a w58 ⟨σ, f63, rfl, hC, hO, hv63⟩ hs
  refine c_seq ?_
  refine c_seq (c_region ?_)
  refine pl_val (.int .i64 s57.2.1) (y_move rfl) ?_
  refine pl_val (.slice pa0 pn0 pc0) (y_move rfl) ?_
  refine pl_val (.int .i64 (s57.2.2.length : Int)) (y_len' Sl33 (os_len hv63) rfl) ?_
  refine pl_val (.bool (decide (s57.2.1 < (s57.2.2.length : Int)))) (y_lss rfl rfl) ?_
  refine c_nil ?_
  rcases bif_some hs with ⟨hc66, hs⟩ | ⟨hc66, hs⟩
  ·skip
   refine c_condT (congrArg Value.bool hc66) ?_
   refine wp_skip ?_
   refine c_seq ?_
   refine wp_block ?_
   refine c_seq (c_region ?_)
   refine pl_val (.slice pa0 pn0 pc0) (y_move rfl) ?_
   refine pl_val (.int .i64 s57.2.1) (y_move rfl) ?_
   refine pl_val (.int .i64 s57.1) (y_move rfl) ?_
   obtain ⟨x67, hx67, hs⟩ := bind_some hs
   obtain ⟨g68, f68, hg68, hk68, hp68, ha68, hf68⟩ := os_idx Sl33 Sz81 hv63 hx67
   have hb68 := own_row (Frz.pr Frz.int (Frz.os Frz.int)) ha68 hf68
   refine pl_val (.pointer (some ⟨g68, 0 + Int.toNat s57.2.1 * 2, none⟩)) (hp68 _ _ _ _ _ _ _ _ _ rfl rfl) ?_
   obtain ⟨hq69, _⟩ := pr_at hb68
   refine pl_val (.pointer (some ⟨g68, (0 + Int.toNat s57.2.1 * 2) + 0, none⟩)) (y_faddr rfl Fa81x0) ?_
   obtain ⟨L170, c70, L270, fq70, hL70, hc70, hbx70, hr70, hsf70, hnf70, hgi70, hgn70, hput70⟩ := os_focus hg68 hv63 hx67 hO.inM
   obtain ⟨c70x1, d70x1, f70x1, k70x1, rfl, rfl, hl70x1, ht70x1⟩ := hr70
   obtain ⟨rfl, rfl⟩ := hl70x1
   have hn70x1 := RT.len _ ht70x1
   obtain ⟨w70, hst70, hC70, hb70⟩ := box_store (P := Try.prog) hbx70 (L170) [(Value.int .i64 x67.1)] (d70x1 ++ (L270)) [(Value.int .i64 s57.1)] (by simp) rfl (by intro u hu; rw [List.mem_singleton.1 hu]; rfl)
   have hA70 : (L170).length = ((0 + Int.toNat s57.2.1 * 2) + 0) := by
    simp only [List.length_append, hL70]
    try rfl
   rw [hA70] at hst70
   have hGM70 : ∀ q ∈ [g68], M q ∨ (w58).heap.size ≤ q := fun q hq => .inl (by rw [List.mem_singleton.1 hq]; exact hO.inM _ hgi70)
   obtain ⟨fz70, hv70, hf70⟩ := hput70 w70 [g68] ([(Value.int .i64 s57.1)] ++ d70x1) (s57.1, x67.2) (([] : List Nat) ++ k70x1) hC70 (fun q hq => .inl (List.mem_singleton.1 hq)) (by simpa using hb70) ⟨_, _, _, _, rfl, rfl, ⟨rfl, rfl⟩, (RT.mono _ ht70x1 hC70 hGM70 (fun q hq hq' => hgn70 (by rw [List.mem_singleton.1 hq] at hq'; simp [hq'])) (fun _ h => .inl h))⟩ hnf70 (fun q hq => .inl hq)
   refine pl_skip (w' := w70) (ys_store rfl rfl (hst70 _ _ rfl Sz3)) ?_
   have hG70 : ∀ q ∈ [g68], q ∈ f63 := fun q hq => by rw [List.mem_singleton.1 hq]; exact hgi70
   have hC := hC.step hC70 (fun g hg => hO.inN g (hG70 g hg))
   have hO := hO.grow hC70 hf70 (os_nodup hv70) hv70.fpl
   refine c_nil ?_
   refine c_seq (c_region ?_)
   refine pl_val (.int .i64 s57.1) (y_move rfl) ?_
   refine pl_val (.int .i64 (w64 (s57.1 + 1))) (y_add rfl rfl) ?_
   refine pl_val (.int .i64 (w64 (s57.1 + 1))) (y_assign rfl) ?_
   refine c_nil ?_
   refine c_region ?_
   refine pl_val (.slice pa0 pn0 pc0) (y_move rfl) ?_
   refine pl_val (.int .i64 s57.2.1) (y_move rfl) ?_
   obtain ⟨x71, hx71, hs⟩ := bind_some hs
   obtain ⟨g72, f72, hg72, hk72, hp72, ha72, hf72⟩ := os_idx Sl33 Sz81 hv70 hx71
   have hb72 := own_row (Frz.pr Frz.int (Frz.os Frz.int)) ha72 hf72
   refine pl_val (.pointer (some ⟨g72, 0 + Int.toNat s57.2.1 * 2, none⟩)) (hp72 _ _ _ _ _ _ _ _ _ rfl rfl) ?_
   obtain ⟨_, hq73x0⟩ := pr_at hb72
   refine pl_val (.pointer (some ⟨g72, (0 + Int.toNat s57.2.1 * 2) + 1, none⟩)) (y_faddr rfl Fa81x1) ?_
   obtain ⟨cs74, hrow74, hr74⟩ := at_open hb72
   obtain ⟨cc74x1, cd74x1, rfl, hh74x1, ht74x1⟩ := pr_open hr74
   obtain rfl := int_rel hh74x1
   obtain ⟨a74x2, n74x2, c74x2, rfl, hv74x2⟩ := rs_rel ht74x1
   refine pl_val (.slice a74x2 n74x2 c74x2) (y_load rfl ((part_load (l1 := [(.int .i64 x71.1)]) (c := [(.slice a74x2 n74x2 c74x2)]) (l2 := []) Ag22 Sz22 hrow74 rfl rfl (fun _ => rfl)) _ (Chg.refl _ _))) ?_
   refine pl_val (.int .i64 (w64 (s57.1 + 1))) (y_move rfl) ?_
   obtain ⟨fg76, hrr76, hsf76, hnf76, hput76⟩ := os_put hg72 hv70 hx71 hrow74 rfl hO.inM
   obtain ⟨fa76x1, fb76x1, rfl, hp76x1, hq76x1⟩ := pr_split (c := [(.int .i64 x71.1)]) (d := [(.slice a74x2 n74x2 c74x2)]) hrr76 rfl
   obtain rfl := int_fp hp76x1
   have hg76x0 : (RT.os 3 (RT.int .i64)).val M w70 (.slice a74x2 n74x2 c74x2) x71.2 fb76x1 := ⟨[_], rfl, hq76x1⟩
   have hfs76 : ∀ q ∈ (fb76x1 ++ ([])), q ∈ fz70 := fun q hq => hsf76 q (by simpa using hq)
   have hfn76 : List.Nodup (fb76x1 ++ ([])) := by simpa using hnf76
   have hL76 := hO
   have hI76 := Own.part (X := (fb76x1 ++ ([]))) (hL76) hfs76 hfn76
   obtain ⟨r77, hr77, hs⟩ := bind_some hs
   refine pl_call Bd32 rfl (c_laws_markIntS (M := M) x71.2 (w64 (s57.1 + 1)) hg76x0 hI76 hI76.fut hr77) ?_
   rintro _ w76 ⟨fi76x0, rfl, hC76, hvi76x0, hOc76⟩
   obtain ⟨fq76, hvq76, hsq76⟩ := hput76 w76 (fb76x1 ++ ([])) (x71.1, r77.2) (([] : List Nat) ++ fi76x0) hC76 (fun q hq => by simpa using hq) ⟨_, _, _, _, rfl, rfl, ⟨rfl, rfl⟩, (os_unval hvi76x0)⟩ (by simpa using hOc76.1) (fun q hq => (hOc76.2.1 q (by simpa using hq)).2.2.imp (fun h => by simpa using h) id)
   have hC := hC.step hC76 (fun g hg => hO.inN g (hfs76 g hg))
   have hO := hO.grow hC76 hsq76 (os_nodup hvq76) hvq76.fpl
   refine pl_val (.int .i64 r77.1) (y_assign rfl) ?_
   refine c_nil ?_
   refine c_region ?_
   refine pl_val (.int .i64 s57.2.1) (y_move rfl) ?_
   refine pl_val (.int .i64 (w64 (s57.2.1 + 1))) (y_add rfl rfl) ?_
   refine pl_val (.int .i64 (w64 (s57.2.1 + 1))) (y_assign rfl) ?_
   refine c_nil ?_
   cases hs
   exact ⟨_, fq76, fr_ovl 27 ⟨rfl, rfl, rfl, trivial⟩, hC, hO, hvq76⟩
  ·skip
   refine c_condF (congrArg Value.bool hc66) ?_
   refine wp_exit ?_
   cases hs
   exact ⟨rfl, _, f63, fr_ovl 27 ⟨rfl, trivial⟩, hC, hO, hv63⟩
 ·skip
  exact ⟨_, pf0, fr_ovl 27 ⟨rfl, rfl, rfl, trivial⟩, hC, hO, h0⟩
 ·cases o61 with
  | nx _ => exact True.intro
  | rt r_ =>
   have hs := after_rt hs
   intro a1 w1 hK
   cases hs
   exact hK
  | br s57 =>
   have hs := after_br hs
   rintro a1 w58 ⟨σ, f65, rfl, hC, hO, hv65⟩
   refine c_seq (c_region ?_)
   refine pl_val (.int .i64 s57.1) (y_move rfl) ?_
   refine pl_val (.int .i64 s57.1) (y_assign rfl) ?_
   refine c_nil ?_
   refine wp_ret ?_
   cases hs
   exact ⟨_, f65, fr_ovl 27 ⟨rfl, trivial⟩, hC, hv65, hO.top⟩

theorem Bd67 : Bodied Try.prog 67 := bodied Try.func67 (by kernel_rfl) rfl

def k_laws_markAlgebra (M : Nat → Prop) (w0 : World) (qa0 : Option Addr) (qn0 qc0 : Nat) (qf0 : List Nat) (r : Int × (List (Int × (List Int)))) (a : Act) (w : World) : Prop :=
  ∃ (σ : Nat → Value) (rfi0 : List Nat), a = fr 10 (ovl σ [(4, (.int .i64 r.1))]) ∧ Chg (qf0 ++ ([])) w0 w ∧ (RT.os 81 (RT.pr (RT.int .i64) (RT.os 3 (RT.int .i64)))).val M w (.slice qa0 qn0 qc0) r.2 rfi0 ∧ Own (Nw w0 (qf0 ++ ([]))) (fun _ => True) w (rfi0 ++ ([]))
def s_laws_markAlgebra (a_ : Int × (List (Int × (List Int)))) (k : Int) : Option (Int × (List (Int × (List Int)))) :=
  (s_laws_markOpS a_.2 k).bind fun r4 =>
  some (r4.1, r4.2)
set_option maxHeartbeats 4000000 in
theorem c_laws_markAlgebra {M : Nat → Prop} {w : World} {pa0 : Option Addr} {pn0 pc0 : Nat} {pf0 : List Nat} (a_ : Int × (List (Int × (List Int)))) (k : Int) (h0 : (RT.os 81 (RT.pr (RT.int .i64) (RT.os 3 (RT.int .i64)))).val M w (.slice pa0 pn0 pc0) a_.2 pf0) (hI : Own (Nw w (pf0 ++ ([]))) M w (pf0 ++ ([]))) (hM : ∀ g, w.heap.size ≤ g → M g) {r : Int × (List (Int × (List Int)))} (hs : s_laws_markAlgebra a_ k = some r) :
    Gives Try.prog 31 [(.agg #[(.int .i64 a_.1), (.slice pa0 pn0 pc0)]), (.int .i64 k)] w (fun v w' => ∃ (rfi0 : List Nat), v = (.int .i64 r.1) ∧ Chg (pf0 ++ ([])) w w' ∧ (RT.os 81 (RT.pr (RT.int .i64) (RT.os 3 (RT.int .i64)))).val M w' (.slice pa0 pn0 pc0) r.2 rfi0 ∧ Own (Nw w (pf0 ++ ([]))) (fun _ => True) w' (rfi0 ++ ([]))) := by
 refine calls_fr Try.func31 rfl Try.ntmps31 (Nat.le_of_ble_eq_true rfl) ?_
 have hO := hI
 have hC := Chg.refl (pf0 ++ ([])) w
 unfold s_laws_markAlgebra at hs
 refine wp_mono (Q := KPost (k_laws_markAlgebra M w pa0 pn0 pc0 pf0 r)) ?_ (fun e a w1 h => ?_)
 rotate_left
 ·cases e
  case ret =>
   obtain ⟨σ, rfi0, rfl, hrest⟩ := h
   exact ret1x Try.results31 (res_tmp rfl) ⟨rfi0, rfl, hrest⟩
  all_goals exact (h : False).elim
 refine c_seq (c_region ?_)
 obtain ⟨w2, g2, ew2, eg2, hC2, hb2⟩ := new_block w [(.int .i64 a_.1), (.slice pa0 pn0 pc0)] 35
 refine pl_val (w' := w2) (.pointer (some ⟨g2, 0, none⟩)) (y_box rfl (by rw [ew2, eg2]; kernel_rfl)) ?_
 have h0 := h0.ext hC2
 have hC := hC.ext hC2
 have hO := hO.new1 hC2 eg2 hb2.lt
 refine pl_val (.int .i64 0) (y_assign rfl) ?_
 refine c_nil ?_
 refine c_seq (c_region ?_)
 refine pl_val (.pointer (some ⟨g2, 1, none⟩)) (y_faddr rfl Fa35x1) ?_
 refine pl_val (.slice pa0 pn0 pc0) (y_load rfl ((box_load Ag33 Sz33 hb2 [(.int .i64 a_.1)] [(.slice pa0 pn0 pc0)] [] rfl rfl (fun _ => rfl)) _ (Chg.refl _ _))) ?_
 refine pl_val (.int .i64 k) (y_move rfl) ?_
 have hO := hO.fr1
 have hL3 := hO
 have hI3 := Own.lend (F := (pf0 ++ ([]))) (R := ([g2]) ++ ([])) (Own.perm (hL3) (by simp))
 obtain ⟨r4, hr4, hs⟩ := bind_some hs
 refine pl_call Bd67 rfl (c_laws_markOpS (M := M) a_.2 k h0 hI3 hI3.fut hr4) ?_
 rintro _ w3 ⟨fi3x0, rfl, hC3, hvi3x0, hOc3⟩
 have hO := hO.perm (R := (pf0 ++ ([])) ++ (([g2]) ++ ([]))) (by simp)
 have hb2 := hb2.chg hC3 (fun hg => hO.apart _ ((fun _ h => h) _ hg) (mem_l (List.mem_singleton.2 rfl)))
 have hC := hC.step hC3 (fun g hg => hO.inN g ((fun _ h => h) g hg))
 have hO := Own.join hO hC3 hOc3
 have hO := hO.perm (R := fi3x0 ++ (([g2]) ++ ([]))) (by simp)
 refine pl_val (.int .i64 r4.1) (y_assign rfl) ?_
 refine c_nil ?_
 refine c_seq (c_region ?_)
 refine pl_val (.int .i64 r4.1) (y_move rfl) ?_
 refine pl_val (.int .i64 r4.1) (y_assign rfl) ?_
 refine c_nil ?_
 refine wp_ret ?_
 cases hs
 have hO := hO.fr1
 have hO := hO.drop
 exact ⟨_, fi3x0, fr_ovl 10 ⟨rfl, trivial⟩, hC, hvi3x0, hO.top⟩

def k_laws_heldIntS (M : Nat → Prop) (w0 : World) (r : Int) (a : Act) (w : World) : Prop :=
  ∃ (σ : Nat → Value) , a = fr 21 (ovl σ [(4, (.int .i64 r))]) ∧ Chg [] w0 w
def s_laws_heldIntS (a_ : List Int) (k : Int) : Option (Int) :=
  (forC (S := Int) (R := Int) (fun k7 s5 =>
  (idx a_ k7).bind fun x11 =>
  (bif (x11 != s5) then some (.rt (-1)) else some (.nx (w64 (s5 + 1))))) 0 (a_.length : Int) k).bind fun o9 => after o9 (fun r_ => some r_) (fun s5 =>
  some s5)
set_option maxHeartbeats 4000000 in
theorem c_laws_heldIntS {M : Nat → Prop} {w : World} {pa0 : Option Addr} {pn0 pc0 : Nat} (a_ : List Int) (k : Int) (h0 : (RT.rs (RT.int .i64)).val M w (.slice pa0 pn0 pc0) a_ ([])) (hM : ∀ g, w.heap.size ≤ g → M g) {r : Int} (hs : s_laws_heldIntS a_ k = some r) :
    Gives Try.prog 37 [(.slice pa0 pn0 pc0), (.int .i64 k)] w (fun v w' => v = (.int .i64 r) ∧ Chg [] w w') := by
 refine calls_fr Try.func37 rfl Try.ntmps37 (Nat.le_of_ble_eq_true rfl) ?_
 have hO := Own.start (N := Nw w []) hM Nw.fut
 have hC := Chg.refl [] w
 unfold s_laws_heldIntS at hs
 refine wp_mono (Q := KPost (k_laws_heldIntS M w r)) ?_ (fun e a w1 h => ?_)
 rotate_left
 ·cases e
  case ret =>
   obtain ⟨σ, rfl, hrest⟩ := h
   exact ret1x Try.results37 (res_tmp rfl) ⟨rfl, hrest⟩
  all_goals exact (h : False).elim
 refine c_seq (c_region ?_)
 refine pl_val (.int .i64 0) (y_assign rfl) ?_
 refine c_nil ?_
 refine c_seq ?_
 refine c_seq (c_region ?_)
 refine pl_val (.int .i64 0) (y_assign rfl) ?_
 refine c_nil ?_
 obtain ⟨o9, hl10, hs⟩ := bind_some hs
 refine wp_block ?_
 refine wp_forC (id := 0) (a_.length : Int) (I := fun k7 s5 a w6 => ∃ (σ : Nat → Value), a = fr 21 (ovl σ [(0, (.slice pa0 pn0 pc0)), (1, (.int .i64 s5)), (5, (.int .i64 k7))]) ∧ Chg [] w w6 ∧ Own (Nw w []) M w6 ([]) ∧ (RT.rs (RT.int .i64)).val M w6 (.slice pa0 pn0 pc0) a_ ([])) (J := fun s5 a w6 => ∃ (σ : Nat → Value), a = fr 21 (ovl σ [(1, (.int .i64 s5))]) ∧ Chg [] w w6 ∧ Own (Nw w []) M w6 ([]) ∧ (RT.rs (RT.int .i64)).val M w6 (.slice pa0 pn0 pc0) a_ ([])) (K := (k_laws_heldIntS M w)) ?_ ?_ 0 k o9 _ _ ?_ hl10 ?_
 ·rintro k7 s5 a w6 ⟨σ, rfl, hC, hO, h0⟩ hlt
  refine c_seq ?_
  refine c_seq (c_region ?_)
  refine pl_val (.int .i64 k7) (y_move rfl) ?_
  refine pl_val (.slice pa0 pn0 pc0) (y_move rfl) ?_
  refine pl_val (.int .i64 (a_.length : Int)) (y_len' Sl22 (rs_len h0) rfl) ?_
  refine pl_val (.bool (decide (k7 < (a_.length : Int)))) (y_lss rfl rfl) ?_
  refine c_nil ?_
  refine c_condF (congrArg Value.bool (decide_eq_false hlt)) ?_
  refine wp_exit ?_
  exact ⟨rfl, _, fr_ovl 21 ⟨rfl, trivial⟩, hC, hO, h0⟩
 ·rintro k7 s5 o9 a w6 ⟨σ, rfl, hC, hO, h0⟩ hlt hw hs
  refine c_seq ?_
  refine c_seq (c_region ?_)
  refine pl_val (.int .i64 k7) (y_move rfl) ?_
  refine pl_val (.slice pa0 pn0 pc0) (y_move rfl) ?_
  refine pl_val (.int .i64 (a_.length : Int)) (y_len' Sl22 (rs_len h0) rfl) ?_
  refine pl_val (.bool (decide (k7 < (a_.length : Int)))) (y_lss rfl rfl) ?_
  refine c_nil ?_
  refine c_condT (congrArg Value.bool (decide_eq_true hlt)) ?_
  refine wp_skip ?_
  refine c_seq ?_
  refine wp_block ?_
  refine c_seq ?_
  refine c_seq (c_region ?_)
  refine pl_val (.slice pa0 pn0 pc0) (y_move rfl) ?_
  refine pl_val (.int .i64 k7) (y_move rfl) ?_
  obtain ⟨x11, hx11, hs⟩ := bind_some hs
  obtain ⟨b12, o12, hp12, ha12⟩ := rs_idx Sl22 Sz3 h0 hx11
  refine pl_val (.pointer (some ⟨b12, o12, none⟩)) (hp12 _ _ _ _ _ _ _ _ _ rfl rfl) ?_
  refine pl_val (.int .i64 x11) (y_load rfl ((at_load_int Ag3 Sz3 ha12) _ (Chg.refl _ _))) ?_
  refine pl_val (.int .i64 s5) (y_move rfl) ?_
  refine pl_val (.bool (x11 != s5)) (y_neq rfl rfl) ?_
  refine c_nil ?_
  rcases bif_some hs with ⟨hc13, hs⟩ | ⟨hc13, hs⟩
  ·skip
   refine c_condT (congrArg Value.bool hc13) ?_
   refine c_seq (c_region ?_)
   refine pl_val (.int .i64 (-1)) (y_assign rfl) ?_
   refine c_nil ?_
   refine wp_ret ?_
   cases hs
   exact ⟨_, fr_ovl 21 ⟨rfl, trivial⟩, hC⟩
  ·skip
   refine c_condF (congrArg Value.bool hc13) ?_
   refine wp_skip ?_
   refine c_region ?_
   refine pl_val (.int .i64 s5) (y_move rfl) ?_
   refine pl_val (.int .i64 (w64 (s5 + 1))) (y_add rfl rfl) ?_
   refine pl_val (.int .i64 (w64 (s5 + 1))) (y_assign rfl) ?_
   refine c_nil ?_
   refine c_region ?_
   refine pl_val (.int .i64 k7) (y_move rfl) ?_
   refine pl_val (.int .i64 (w64 (k7 + 1))) (y_add rfl rfl) ?_
   refine pl_val (.int .i64 (w64 (k7 + 1))) (y_assign rfl) ?_
   refine c_nil ?_
   cases hs
   exact ⟨_, fr_ovl 21 ⟨rfl, rfl, congrArg (Value.int .i64) hw, trivial⟩, hC, hO, h0⟩
 ·skip
  exact ⟨_, fr_ovl 21 ⟨rfl, rfl, rfl, trivial⟩, hC, hO, h0⟩
 ·cases o9 with
  | nx _ => exact True.intro
  | rt r_ =>
   have hs := after_rt hs
   intro a1 w1 hK
   cases hs
   exact hK
  | br s5 =>
   have hs := after_br hs
   rintro a1 w6 ⟨σ, rfl, hC, hO, h0⟩
   refine c_seq (c_region ?_)
   refine pl_val (.int .i64 s5) (y_move rfl) ?_
   refine pl_val (.int .i64 s5) (y_assign rfl) ?_
   refine c_nil ?_
   refine wp_ret ?_
   cases hs
   exact ⟨_, fr_ovl 21 ⟨rfl, trivial⟩, hC⟩

theorem Ag30 : AggT Try.prog 30 true := fun _ => by kernel_rfl

theorem Sz30 : SzT Try.prog 30 2 := ⟨_, rfl, rfl⟩

theorem Bd17 : Bodied Try.prog 17 := bodied Try.func17 (by kernel_rfl) rfl

theorem Bd19 : Bodied Try.prog 19 := bodied Try.func19 (by kernel_rfl) rfl

theorem Bd35 : Bodied Try.prog 35 := bodied Try.func35 (by kernel_rfl) rfl

theorem Bd36 : Bodied Try.prog 36 := bodied Try.func36 (by kernel_rfl) rfl

theorem Bd21 : Bodied Try.prog 21 := bodied Try.func21 (by kernel_rfl) rfl

theorem Bd31 : Bodied Try.prog 31 := bodied Try.func31 (by kernel_rfl) rfl

theorem Bd37 : Bodied Try.prog 37 := bodied Try.func37 (by kernel_rfl) rfl

def k_laws_FnExactFirstPairApart (M : Nat → Prop) (w0 : World) (r : Bool) (a : Act) (w : World) : Prop :=
  ∃ (σ : Nat → Value) , a = fr 133 (ovl σ [(2, (.bool r))]) ∧ Chg [] w0 w
def s_laws_FnExactFirstPairApart (aA : Int × (List (Int × (List Int)))) : Option (Bool) :=
  (s_laws_szAlgebra (aA.1, aA.2) 1048576).bind fun r4 =>
  (bif (decide (r4 < 0)) then some true else (s_laws_toAlgebra (aA.1, aA.2)).bind fun r7 =>
  (s_spec_FirstPairApart (r7.1, r7.2)).bind fun r11 =>
  (s_laws_toAlgebra (aA.1, aA.2)).bind fun r15 =>
  (s_impl_FirstPairApart (r15.1, r15.2)).bind fun r20 =>
  ((s_laws_eqIntS r20.1 r11.1).bind fun r27 =>
  (bif (!r27) then some true else (s_laws_eqIntS r20.2.1 r11.2.1).bind fun r30 =>
  (bif (!r30) then some true else some (!(r20.2.2 == r11.2.2))))).bind fun s23 =>
  (bif s23 then some false else (s_laws_toAlgebra (aA.1, aA.2)).bind fun r41 =>
  (s_laws_eqAlgebra (r15.1, r15.2) (r41.1, r41.2)).bind fun r44 =>
  (bif (!r44) then some false else (s_laws_markAlgebra (r15.1, r15.2) 1).bind fun r47 =>
  ((bif (decide (r47.1 < 0)) then some true else (s_laws_eqIntS r20.1 r11.1).bind fun r53 =>
  (bif (!r53) then some true else (s_laws_eqIntS r20.2.1 r11.2.1).bind fun r56 =>
  (bif (!r56) then some true else some (!(r20.2.2 == r11.2.2)))))).bind fun s48 =>
  (bif s48 then some false else (s_laws_markIntS r20.1 1).bind fun r60 =>
  (s_laws_markIntS r20.2.1 r60.1).bind fun r62 =>
  (s_laws_heldIntS r60.2 1).bind fun r64 =>
  (bif (decide (r64 < 0)) then some false else (s_laws_heldIntS r62.2 r64).bind fun r67 =>
  (bif (decide (r67 < 0)) then some false else (bif (r67 != r62.1) then some false else (s_laws_toAlgebra (aA.1, aA.2)).bind fun r71 =>
  (s_impl_FirstPairApart (r71.1, r71.2)).bind fun r74 =>
  ((s_laws_eqIntS r74.1 r11.1).bind fun r81 =>
  (bif (!r81) then some true else (s_laws_eqIntS r74.2.1 r11.2.1).bind fun r84 =>
  (bif (!r84) then some true else some (!(r74.2.2 == r11.2.2))))).bind fun s77 =>
  (bif s77 then some false else (s_laws_heldIntS r60.2 1).bind fun r88 =>
  (bif (decide (r88 < 0)) then some false else (s_laws_heldIntS r62.2 r88).bind fun r91 =>
  (bif (decide (r91 < 0)) then some false else (bif (r91 != r62.1) then some false else some true)))))))))))
set_option maxHeartbeats 4000000 in
theorem c_laws_FnExactFirstPairApart {M : Nat → Prop} {w : World} {pa0 : Option Addr} {pn0 pc0 : Nat} (aA : Int × (List (Int × (List Int)))) (h0 : (RT.rs (RT.pr (RT.int .i64) (RT.rs (RT.int .i64)))).val M w (.slice pa0 pn0 pc0) aA.2 ([])) (hM : ∀ g, w.heap.size ≤ g → M g) {r : Bool} (hs : s_laws_FnExactFirstPairApart aA = some r) :
    Gives Try.prog 9 [(.agg #[(.int .i64 aA.1), (.slice pa0 pn0 pc0)])] w (fun v w' => v = (.bool r) ∧ Chg [] w w') := by
 refine calls_fr Try.func9 rfl Try.ntmps9 (Nat.le_of_ble_eq_true rfl) ?_
 have hO := Own.start (N := Nw w []) hM Nw.fut
 have hC := Chg.refl [] w
 unfold s_laws_FnExactFirstPairApart at hs
 refine wp_mono (Q := KPost (k_laws_FnExactFirstPairApart M w r)) ?_ (fun e a w1 h => ?_)
 rotate_left
 ·cases e
  case ret =>
   obtain ⟨σ, rfl, hrest⟩ := h
   exact ret1x Try.results9 (res_tmp rfl) ⟨rfl, hrest⟩
  all_goals exact (h : False).elim
 refine c_seq (c_region ?_)
 obtain ⟨w2, g2, ew2, eg2, hC2, hb2⟩ := new_block w [(.int .i64 aA.1), (.slice pa0 pn0 pc0)] 30
 refine pl_val (w' := w2) (.pointer (some ⟨g2, 0, none⟩)) (y_box rfl (by rw [ew2, eg2]; kernel_rfl)) ?_
 have h0 := h0.ext hC2
 have hC := hC.ext hC2
 have hO := hO.new1 hC2 eg2 hb2.lt
 refine pl_val (.bool false) (y_assign rfl) ?_
 refine c_nil ?_
 refine c_seq (c_region ?_)
 refine pl_val (.int .i64 1048576) (y_assign rfl) ?_
 refine c_nil ?_
 refine c_seq (c_region ?_)
 refine pl_val (.agg #[(.int .i64 aA.1), (.slice pa0 pn0 pc0)]) (y_load rfl ((box_load Ag30 Sz30 hb2 [] [(.int .i64 aA.1), (.slice pa0 pn0 pc0)] [] rfl rfl (fun h => nomatch h)) _ (Chg.refl _ _))) ?_
 refine pl_val (.int .i64 1048576) (y_move rfl) ?_
 obtain ⟨r4, hr4, hs⟩ := bind_some hs
 refine pl_call Bd17 rfl (c_laws_szAlgebra (M := M) (aA.1, aA.2) 1048576 h0 hO.fut hr4) ?_
 rintro _ w3 ⟨rfl, hC3⟩
 have h0 := h0.ext hC3
 have hb2 := hb2.chg hC3 (fun h => nomatch h)
 have hC := hC.ext hC3
 have hO := hO.ext hC3
 refine pl_val (.int .i64 r4) (y_assign rfl) ?_
 refine c_nil ?_
 refine c_seq ?_
 refine c_seq (c_region ?_)
 refine pl_val (.int .i64 r4) (y_move rfl) ?_
 refine pl_val (.bool (decide (r4 < 0))) (y_lss rfl rfl) ?_
 refine c_nil ?_
 rcases bif_some hs with ⟨hc5, hs⟩ | ⟨hc5, hs⟩
 ·skip
  refine c_condT (congrArg Value.bool hc5) ?_
  refine c_seq (c_region ?_)
  refine pl_val (.bool true) (y_assign rfl) ?_
  refine c_nil ?_
  refine wp_ret ?_
  cases hs
  exact ⟨_, fr_ovl 133 ⟨rfl, trivial⟩, hC⟩
 ·skip
  refine c_condF (congrArg Value.bool hc5) ?_
  refine wp_skip ?_
  refine c_seq (c_region ?_)
  refine pl_val (.agg #[(.int .i64 aA.1), (.slice pa0 pn0 pc0)]) (y_load rfl ((box_load Ag30 Sz30 hb2 [] [(.int .i64 aA.1), (.slice pa0 pn0 pc0)] [] rfl rfl (fun h => nomatch h)) _ (Chg.refl _ _))) ?_
  obtain ⟨r7, hr7, hs⟩ := bind_some hs
  refine pl_call Bd19 rfl (c_laws_toAlgebra (M := M) (aA.1, aA.2) h0 hO.fut hr7) ?_
  rintro _ w6 ⟨a6x0, n6x0, c6x0, f6x0, rfl, hC6, hv6x0, hOc6⟩
  have h0 := h0.ext hC6
  have hb2 := hb2.chg hC6 (fun h => nomatch h)
  have hC := hC.ext hC6
  have hO := Own.join0 hO hC6 hOc6
  have hO := hO.perm (R := f6x0 ++ (([g2]) ++ ([]))) (by simp)
  obtain ⟨M10, eM10, hs10, hk10, hO, hv10⟩ := frz_own (Frz.os (Frz.pr Frz.int (Frz.os Frz.int))) hv6x0 hO
  have h0 := h0.sub (M' := M10) hs10
  have hK := hk10
  obtain ⟨r11, hr11, hs⟩ := bind_some hs
  refine pl_call Bd35 rfl (c_spec_FirstPairApart (M := M10) (r7.1, r7.2) hv10 hO.fut hr11) ?_
  rintro _ w9 ⟨a9x0, n9x0, c9x0, a9x1, n9x1, c9x1, rfl, hC9, hv9x0, hv9x1⟩
  have hK := hK.trans (show Keeps w M10 (Past M10 w6 w9) from Keeps.past hC.size)
  have h0 := h0.ext hC9
  have hb2 := hb2.chg hC9 (fun h => nomatch h)
  have hv10 := hv10.ext hC9
  have hC := hC.ext hC9
  have hO := hO.past hC9
  have h0 := h0.sub (M' := (Past M10 w6 w9)) (fun g hg => .inl hg.1)
  have hv10 := hv10.sub (M' := (Past M10 w6 w9)) (fun g hg => .inl hg.1)
  refine pl_val (.tuple #[(.slice a9x0 n9x0 c9x0), (.slice a9x1 n9x1 c9x1), (.bool r11.2.2)]) (y_move rfl) ?_
  refine pl_val (.slice a9x0 n9x0 c9x0) (y_extract rfl (by kernel_rfl)) ?_
  refine pl_val (.slice a9x1 n9x1 c9x1) (y_extract rfl (by kernel_rfl)) ?_
  refine pl_val (.bool r11.2.2) (y_extract rfl (by kernel_rfl)) ?_
  refine pl_val (.slice a9x0 n9x0 c9x0) (y_assign rfl) ?_
  refine pl_val (.slice a9x1 n9x1 c9x1) (y_assign rfl) ?_
  refine pl_val (.bool r11.2.2) (y_assign rfl) ?_
  refine c_nil ?_
  refine c_seq (c_region ?_)
  refine pl_val (.agg #[(.int .i64 aA.1), (.slice pa0 pn0 pc0)]) (y_load rfl ((box_load Ag30 Sz30 hb2 [] [(.int .i64 aA.1), (.slice pa0 pn0 pc0)] [] rfl rfl (fun h => nomatch h)) _ (Chg.refl _ _))) ?_
  obtain ⟨r15, hr15, hs⟩ := bind_some hs
  refine pl_call Bd19 rfl (c_laws_toAlgebra (M := (Past M10 w6 w9)) (aA.1, aA.2) h0 hO.fut hr15) ?_
  rintro _ w14 ⟨a14x0, n14x0, c14x0, f14x0, rfl, hC14, hv14x0, hOc14⟩
  have h0 := h0.ext hC14
  have hb2 := hb2.chg hC14 (fun h => nomatch h)
  have hv9x0 := hv9x0.ext hC14
  have hv9x1 := hv9x1.ext hC14
  have hC := hC.ext hC14
  have hO := Own.join0 hO hC14 hOc14
  have hO := hO.perm (R := f14x0 ++ (([g2]) ++ ([]))) (by simp)
  obtain ⟨w17, g17, ew17, eg17, hC17, hb17⟩ := new_block w14 [(.int .i64 0), (.slice none 0 0)] 35
  refine pl_val (w' := w17) (.pointer (some ⟨g17, 0, none⟩)) (y_alloc (by rw [ew17, eg17]; kernel_rfl)) ?_
  have h0 := h0.ext hC17
  have hb2 := hb2.chg hC17 (fun h => nomatch h)
  have hv9x0 := hv9x0.ext hC17
  have hv9x1 := hv9x1.ext hC17
  have hv14x0 := hv14x0.ext hC17
  have hC := hC.ext hC17
  have hO := hO.new1 hC17 eg17 hb17.lt
  obtain ⟨w18, hst18, hC18, hb18⟩ := box_store (P := Try.prog) hb17 [] [(.int .i64 0), (.slice none 0 0)] [] [(.int .i64 r15.1), (.slice a14x0 n14x0 c14x0)] rfl rfl (by intro u hu; simp only [List.mem_cons, List.not_mem_nil, or_false] at hu; rcases hu with rfl | rfl <;> rfl)
  refine pl_skip (w' := w18) (ys_store rfl rfl (hst18 _ _ rfl Sz35)) ?_
  have h0 := h0.mut hC18 (fun g hg => hO.inM g ((fun _ h => h) g hg)) (fun _ _ h => nomatch h)
  have hb2 := hb2.chg hC18 (fun hg => hO.apart _ ((fun _ h => h) _ hg) (mem_r (mem_l (List.mem_singleton.2 rfl))))
  have hv9x0 := hv9x0.mut hC18 (fun g hg => hO.inM g ((fun _ h => h) g hg)) (fun _ _ h => nomatch h)
  have hv9x1 := hv9x1.mut hC18 (fun g hg => hO.inM g ((fun _ h => h) g hg)) (fun _ _ h => nomatch h)
  have hv14x0 := hv14x0.mut hC18 (fun g hg => hO.inM g ((fun _ h => h) g hg)) (fun g hg e => hO.apart g ((fun _ h => h) g hg) (mem_l (e)))
  have hC := hC.step hC18 (fun g hg => hO.inN g ((fun _ h => h) g hg))
  have hO := hO.ext hC18
  have hb18 : BoxV w18 g17 35 [(.int .i64 r15.1), (.slice a14x0 n14x0 c14x0)] := hb18
  refine c_nil ?_
  refine c_seq (c_region ?_)
  refine pl_val (.agg #[(.int .i64 r15.1), (.slice a14x0 n14x0 c14x0)]) (y_load rfl ((box_load Ag35 Sz35 hb18 [] [(.int .i64 r15.1), (.slice a14x0 n14x0 c14x0)] [] rfl rfl (fun h => nomatch h)) _ (Chg.refl _ _))) ?_
  have hO := hO.fr1
  obtain ⟨r20, hr20, hs⟩ := bind_some hs
  refine pl_call Bd36 rfl (c_impl_FirstPairApart (M := (Less (Past M10 w6 w9) f14x0)) (r15.1, r15.2) (((Frz.os (Frz.pr Frz.int (Frz.os Frz.int)))).val hv14x0 Less.sub Less.not) hO.less.fut hr20) ?_
  rintro _ w19 ⟨a19x0, n19x0, c19x0, f19x0, a19x1, n19x1, c19x1, f19x1, rfl, hC19, hv19x0, hv19x1, hOc19⟩
  have h0 := h0.ext hC19
  have hb2 := hb2.chg hC19 (fun h => nomatch h)
  have hv9x0 := hv9x0.ext hC19
  have hv9x1 := hv9x1.ext hC19
  have hv14x0 := hv14x0.ext hC19
  have hb18 := hb18.chg hC19 (fun h => nomatch h)
  have hC := hC.ext hC19
  have hO := Own.join0 hO hC19 hOc19
  have hO := hO.perm (R := f19x0 ++ (f19x1 ++ (f14x0 ++ (([g17]) ++ (([g2]) ++ ([])))))) (by simp)
  have hv19x0 := hv19x0.free (M' := (Past M10 w6 w9)) (Free.os Free.int)
  have hv19x1 := hv19x1.free (M' := (Past M10 w6 w9)) (Free.os Free.int)
  refine pl_val (.tuple #[(.slice a19x0 n19x0 c19x0), (.slice a19x1 n19x1 c19x1), (.bool r20.2.2)]) (y_move rfl) ?_
  refine pl_val (.slice a19x0 n19x0 c19x0) (y_extract rfl (by kernel_rfl)) ?_
  refine pl_val (.slice a19x1 n19x1 c19x1) (y_extract rfl (by kernel_rfl)) ?_
  refine pl_val (.bool r20.2.2) (y_extract rfl (by kernel_rfl)) ?_
  refine pl_val (.slice a19x0 n19x0 c19x0) (y_assign rfl) ?_
  refine pl_val (.slice a19x1 n19x1 c19x1) (y_assign rfl) ?_
  refine pl_val (.bool r20.2.2) (y_assign rfl) ?_
  refine c_nil ?_
  refine c_seq ?_
  refine c_seq ?_
  obtain ⟨s23, hm25, hs⟩ := bind_some hs
  refine c_mid (I := fun a w24 => ∃ (σ : Nat → Value), a = fr 133 (ovl σ [(1, (.pointer (some ⟨g2, 0, none⟩))), (2, (.bool false)), (4, (.slice a9x0 n9x0 c9x0)), (5, (.slice a9x1 n9x1 c9x1)), (6, (.bool r11.2.2)), (7, (.pointer (some ⟨g17, 0, none⟩))), (8, (.slice a19x0 n19x0 c19x0)), (9, (.slice a19x1 n19x1 c19x1)), (10, (.bool r20.2.2)), (51, (.bool s23))]) ∧ Chg [] w19 w24) ?_ ?_
  ·replace hs := hm25
   have hMid := Chg.refl [] w19
   refine c_region ?_
   refine pl_val (.slice a19x0 n19x0 c19x0) (y_move rfl) ?_
   refine pl_val (.slice a9x0 n9x0 c9x0) (y_move rfl) ?_
   obtain ⟨r27, hr27, hs⟩ := bind_some hs
   refine pl_call Bd16 rfl (c_laws_eqIntS (M := (Less (Past M10 w6 w9) f19x0)) r20.1 r11.1 (((Frz.os Frz.int)).val hv19x0 Less.sub Less.not) (hv9x0.sub Less.sub) hO.less.fut hr27) ?_
   rintro _ w26 ⟨rfl, hC26⟩
   have h0 := h0.ext hC26
   have hb2 := hb2.chg hC26 (fun h => nomatch h)
   have hv9x0 := hv9x0.ext hC26
   have hv9x1 := hv9x1.ext hC26
   have hv14x0 := hv14x0.ext hC26
   have hb18 := hb18.chg hC26 (fun h => nomatch h)
   have hv19x0 := hv19x0.ext hC26
   have hv19x1 := hv19x1.ext hC26
   have hMid := hMid.ext hC26
   have hC := hC.ext hC26
   have hO := hO.ext hC26
   refine pl_val (.bool (!r27)) (y_not rfl) ?_
   refine pl_val (.bool (!r27)) (y_move rfl) ?_
   rcases bif_some hs with ⟨hc28, hs⟩ | ⟨hc28, hs⟩
   ·skip
    refine pl_not (tg := 41) (by kernel_rfl) (congrArg Value.bool hc28) ?_
    refine pl_not (tg := 41) (by kernel_rfl) (congrArg Value.bool hc28) ?_
    refine pl_not (tg := 41) (by kernel_rfl) (congrArg Value.bool hc28) ?_
    refine pl_not (tg := 41) (by kernel_rfl) (congrArg Value.bool hc28) ?_
    refine pl_val (.bool true) (y_pick_t (congrArg Value.bool hc28) rfl) ?_
    refine pl_val (.bool true) (y_move rfl) ?_
    refine pl_not (tg := 47) (by kernel_rfl) (by rfl) ?_
    refine pl_not (tg := 47) (by kernel_rfl) (by rfl) ?_
    refine pl_not (tg := 47) (by kernel_rfl) (by rfl) ?_
    refine pl_val (.bool true) (y_pick_t (by rfl) rfl) ?_
    refine c_nil ?_
    cases hs
    exact ⟨_, fr_ovl 133 ⟨rfl, rfl, rfl, rfl, rfl, rfl, rfl, rfl, rfl, rfl, trivial⟩, hMid⟩
   ·skip
    refine pl_yes (.slice a19x1 n19x1 c19x1) (tg := 41) (by kernel_rfl) (congrArg Value.bool hc28) (y_move rfl) ?_
    refine pl_yes (.slice a9x1 n9x1 c9x1) (tg := 41) (by kernel_rfl) (congrArg Value.bool hc28) (y_move rfl) ?_
    have hO := hO.fr1
    obtain ⟨r30, hr30, hs⟩ := bind_some hs
    refine pl_cally (tg := 41) (by kernel_rfl) (congrArg Value.bool hc28) Bd16 rfl (c_laws_eqIntS (M := (Less (Past M10 w6 w9) f19x1)) r20.2.1 r11.2.1 (((Frz.os Frz.int)).val hv19x1 Less.sub Less.not) (hv9x1.sub Less.sub) hO.less.fut hr30) ?_
    rintro _ w29 ⟨rfl, hC29⟩
    have h0 := h0.ext hC29
    have hb2 := hb2.chg hC29 (fun h => nomatch h)
    have hv9x0 := hv9x0.ext hC29
    have hv9x1 := hv9x1.ext hC29
    have hv14x0 := hv14x0.ext hC29
    have hb18 := hb18.chg hC29 (fun h => nomatch h)
    have hv19x0 := hv19x0.ext hC29
    have hv19x1 := hv19x1.ext hC29
    have hMid := hMid.ext hC29
    have hC := hC.ext hC29
    have hO := hO.ext hC29
    refine pl_yes (.bool (!r30)) (tg := 41) (by kernel_rfl) (congrArg Value.bool hc28) (y_not rfl) ?_
    refine pl_val (.bool (!r30)) (y_pick_f (congrArg Value.bool hc28) rfl) ?_
    refine pl_val (.bool (!r30)) (y_move rfl) ?_
    rcases bif_some hs with ⟨hc31, hs⟩ | ⟨hc31, hs⟩
    ·skip
     refine pl_not (tg := 47) (by kernel_rfl) (congrArg Value.bool hc31) ?_
     refine pl_not (tg := 47) (by kernel_rfl) (congrArg Value.bool hc31) ?_
     refine pl_not (tg := 47) (by kernel_rfl) (congrArg Value.bool hc31) ?_
     refine pl_val (.bool true) (y_pick_t (congrArg Value.bool hc31) rfl) ?_
     refine c_nil ?_
     cases hs
     exact ⟨_, fr_ovl 133 ⟨rfl, rfl, rfl, rfl, rfl, rfl, rfl, rfl, rfl, rfl, trivial⟩, hMid⟩
    ·skip
     refine pl_yes (.bool r20.2.2) (tg := 47) (by kernel_rfl) (congrArg Value.bool hc31) (y_move rfl) ?_
     refine pl_yes (.bool r11.2.2) (tg := 47) (by kernel_rfl) (congrArg Value.bool hc31) (y_move rfl) ?_
     refine pl_yes (.bool (!(r20.2.2 == r11.2.2))) (tg := 47) (by kernel_rfl) (congrArg Value.bool hc31) (y_bneq Try.underlying4 rfl rfl) ?_
     refine pl_val (.bool (!(r20.2.2 == r11.2.2))) (y_pick_f (congrArg Value.bool hc31) rfl) ?_
     refine c_nil ?_
     cases hs
     exact ⟨_, fr_ovl 133 ⟨rfl, rfl, rfl, rfl, rfl, rfl, rfl, rfl, rfl, rfl, trivial⟩, hMid⟩
  ·rintro a1 w24 ⟨σ, rfl, hCs23⟩
   have h0 := h0.ext hCs23
   have hb2 := hb2.chg hCs23 (fun h => nomatch h)
   have hv9x0 := hv9x0.ext hCs23
   have hv9x1 := hv9x1.ext hCs23
   have hv14x0 := hv14x0.ext hCs23
   have hb18 := hb18.chg hCs23 (fun h => nomatch h)
   have hv19x0 := hv19x0.ext hCs23
   have hv19x1 := hv19x1.ext hCs23
   have hC := hC.ext hCs23
   have hO := hO.ext hCs23
   rcases bif_some hs with ⟨hc32, hs⟩ | ⟨hc32, hs⟩
   ·skip
    refine c_condT (congrArg Value.bool hc32) ?_
    refine c_seq (c_region ?_)
    refine pl_val (.bool false) (y_assign rfl) ?_
    refine c_nil ?_
    refine wp_ret ?_
    cases hs
    exact ⟨_, fr_ovl 133 ⟨rfl, trivial⟩, hC⟩
   ·skip
    refine c_condF (congrArg Value.bool hc32) ?_
    refine wp_skip ?_
    refine c_seq ?_
    refine c_seq ?_
    refine x_start [] Mx rfl ?_
    have hCw39 := Chg.drew w24
    generalize World.drew w24 = w39 at hCw39 ⊢
    have h0 := h0.ext hCw39
    have hb2 := hb2.chg hCw39 (fun h => nomatch h)
    have hv9x0 := hv9x0.ext hCw39
    have hv9x1 := hv9x1.ext hCw39
    have hv14x0 := hv14x0.ext hCw39
    have hb18 := hb18.chg hCw39 (fun h => nomatch h)
    have hv19x0 := hv19x0.ext hCw39
    have hv19x1 := hv19x1.ext hCw39
    have hC := hC.ext hCw39
    have hO := hO.ext hCw39
    have hS := Chg.refl [] w39
    refine x_l 0 (.agg #[(.int .i64 r15.1), (.slice a14x0 n14x0 c14x0)]) rfl (by kernel_rfl)  (fun w' hw' => y_load rfl ((box_load Ag35 Sz35 hb18 [] [(.int .i64 r15.1), (.slice a14x0 n14x0 c14x0)] [] rfl rfl (fun h => nomatch h)) w' hw')) hS ?_
    refine x_l 1 (.agg #[(.int .i64 aA.1), (.slice pa0 pn0 pc0)]) rfl (by kernel_rfl)  (fun w' hw' => y_load rfl ((box_load Ag30 Sz30 hb2 [] [(.int .i64 aA.1), (.slice pa0 pn0 pc0)] [] rfl rfl (fun h => nomatch h)) w' hw')) hS ?_
    refine x_one (i := 2) (by kernel_rfl) ?_
    obtain ⟨r41, hr41, hs⟩ := bind_some hs
    refine xk_call (b := false) rfl  Bd19 rfl (c_laws_toAlgebra (M := (Past M10 w6 w9)) (aA.1, aA.2) h0 hO.fut hr41) rfl (by rintro _ _ _ ⟨a40x0, n40x0, c40x0, f40x0, rfl, hC40, hv40x0, hOc40⟩; exact hS.ext hC40) ?_
    rintro _ w40 ⟨a40x0, n40x0, c40x0, f40x0, rfl, hC40, hv40x0, hOc40⟩
    have h0 := h0.ext hC40
    have hb2 := hb2.chg hC40 (fun h => nomatch h)
    have hv9x0 := hv9x0.ext hC40
    have hv9x1 := hv9x1.ext hC40
    have hv14x0 := hv14x0.ext hC40
    have hb18 := hb18.chg hC40 (fun h => nomatch h)
    have hv19x0 := hv19x0.ext hC40
    have hv19x1 := hv19x1.ext hC40
    have hC := hC.ext hC40
    have hO := Own.join0 hO hC40 hOc40
    have hO := hO.perm (R := f40x0 ++ (f19x0 ++ (f19x1 ++ (f14x0 ++ (([g17]) ++ (([g2]) ++ ([]))))))) (by simp)
    have hS := hS.ext hC40
    refine x_one (i := 3) (by kernel_rfl) ?_
    have hO := hO.fr3
    obtain ⟨r44, hr44, hs⟩ := bind_some hs
    refine xk_call (b := false) rfl  Bd21 rfl (c_laws_eqAlgebra (M := (Less (Less (Past M10 w6 w9) f14x0) f40x0)) (r15.1, r15.2) (r41.1, r41.2) ((((Frz.os (Frz.pr Frz.int (Frz.os Frz.int)))).val hv14x0 Less.sub Less.not).sub Less.sub) (((Frz.os (Frz.pr Frz.int (Frz.os Frz.int)))).val (hv40x0.sub Less.sub) Less.sub Less.not) (hO.less).less.fut hr44) rfl (by rintro _ _ _ ⟨rfl, hC43⟩; exact hS.ext hC43) ?_
    rintro _ w43 ⟨rfl, hC43⟩
    have h0 := h0.ext hC43
    have hb2 := hb2.chg hC43 (fun h => nomatch h)
    have hv9x0 := hv9x0.ext hC43
    have hv9x1 := hv9x1.ext hC43
    have hv14x0 := hv14x0.ext hC43
    have hb18 := hb18.chg hC43 (fun h => nomatch h)
    have hv19x0 := hv19x0.ext hC43
    have hv19x1 := hv19x1.ext hC43
    have hv40x0 := hv40x0.ext hC43
    have hC := hC.ext hC43
    have hO := hO.ext hC43
    have hS := hS.ext hC43
    refine x_p 4 (.bool (!r44)) rfl (by kernel_rfl)  (fun _ => y_not rfl) (fun _ => hS) ?_
    refine x_end (by kernel_rfl) ?_
    clear hS
    rcases bif_some hs with ⟨hc45, hs⟩ | ⟨hc45, hs⟩
    ·skip
     refine c_condT (congrArg Value.bool hc45) ?_
     refine c_seq (c_region ?_)
     refine pl_val (.bool false) (y_assign rfl) ?_
     refine c_nil ?_
     refine wp_ret ?_
     cases hs
     exact ⟨_, fr_ovl 133 ⟨rfl, trivial⟩, hC⟩
    ·skip
     refine c_condF (congrArg Value.bool hc45) ?_
     refine wp_skip ?_
     refine c_seq (c_region ?_)
     refine pl_val (.int .i64 1) (y_assign rfl) ?_
     refine c_nil ?_
     refine c_seq (c_region ?_)
     refine pl_val (.agg #[(.int .i64 r15.1), (.slice a14x0 n14x0 c14x0)]) (y_load rfl ((box_load Ag35 Sz35 hb18 [] [(.int .i64 r15.1), (.slice a14x0 n14x0 c14x0)] [] rfl rfl (fun h => nomatch h)) _ (Chg.refl _ _))) ?_
     refine pl_val (.int .i64 1) (y_move rfl) ?_
     have hL46 := hO
     have hI46 := Own.lend (F := (f14x0 ++ ([]))) (R := f40x0 ++ (f19x0 ++ (f19x1 ++ (([g17]) ++ (([g2]) ++ ([])))))) (Own.perm (hL46) (by simp))
     obtain ⟨r47, hr47, hs⟩ := bind_some hs
     refine pl_call Bd31 rfl (c_laws_markAlgebra (M := (Past M10 w6 w9)) (r15.1, r15.2) 1 hv14x0 hI46 hI46.fut hr47) ?_
     rintro _ w46 ⟨fi46x0, rfl, hC46, hvi46x0, hOc46⟩
     have hO := hO.perm (R := (f14x0 ++ ([])) ++ (f40x0 ++ (f19x0 ++ (f19x1 ++ (([g17]) ++ (([g2]) ++ ([]))))))) (by simp)
     have h0 := h0.mut hC46 (fun g hg => hO.inM g ((fun _ h => h) g hg)) (fun _ _ h => nomatch h)
     have hb2 := hb2.chg hC46 (fun hg => hO.apart _ ((fun _ h => h) _ hg) (mem_r (mem_r (mem_r (mem_r (mem_l (List.mem_singleton.2 rfl)))))))
     have hv9x0 := hv9x0.mut hC46 (fun g hg => hO.inM g ((fun _ h => h) g hg)) (fun _ _ h => nomatch h)
     have hv9x1 := hv9x1.mut hC46 (fun g hg => hO.inM g ((fun _ h => h) g hg)) (fun _ _ h => nomatch h)
     have hb18 := hb18.chg hC46 (fun hg => hO.apart _ ((fun _ h => h) _ hg) (mem_r (mem_r (mem_r (mem_l (List.mem_singleton.2 rfl))))))
     have hv19x0 := hv19x0.mut hC46 (fun g hg => hO.inM g ((fun _ h => h) g hg)) (fun g hg e => hO.apart g ((fun _ h => h) g hg) (mem_r (mem_l (e))))
     have hv19x1 := hv19x1.mut hC46 (fun g hg => hO.inM g ((fun _ h => h) g hg)) (fun g hg e => hO.apart g ((fun _ h => h) g hg) (mem_r (mem_r (mem_l (e)))))
     have hv40x0 := hv40x0.mut hC46 (fun g hg => hO.inM g ((fun _ h => h) g hg)) (fun g hg e => hO.apart g ((fun _ h => h) g hg) (mem_l (e)))
     have hC := hC.step hC46 (fun g hg => hO.inN g ((fun _ h => h) g hg))
     have hO := Own.join hO hC46 hOc46
     have hO := hO.perm (R := fi46x0 ++ (f40x0 ++ (f19x0 ++ (f19x1 ++ (([g17]) ++ (([g2]) ++ ([]))))))) (by simp)
     refine pl_val (.int .i64 r47.1) (y_assign rfl) ?_
     refine c_nil ?_
     refine c_seq ?_
     refine c_seq ?_
     obtain ⟨s48, hm50, hs⟩ := bind_some hs
     refine c_mid (I := fun a w49 => ∃ (σ : Nat → Value), a = fr 133 (ovl σ [(1, (.pointer (some ⟨g2, 0, none⟩))), (2, (.bool false)), (4, (.slice a9x0 n9x0 c9x0)), (5, (.slice a9x1 n9x1 c9x1)), (6, (.bool r11.2.2)), (8, (.slice a19x0 n19x0 c19x0)), (9, (.slice a19x1 n19x1 c19x1)), (78, (.bool s48))]) ∧ Chg [] w46 w49) ?_ ?_
     ·replace hs := hm50
      have hMid := Chg.refl [] w46
      refine c_region ?_
      refine pl_val (.int .i64 r47.1) (y_move rfl) ?_
      refine pl_val (.bool (decide (r47.1 < 0))) (y_lss rfl rfl) ?_
      refine pl_val (.bool (decide (r47.1 < 0))) (y_move rfl) ?_
      rcases bif_some hs with ⟨hc51, hs⟩ | ⟨hc51, hs⟩
      ·skip
       refine pl_not (tg := 62) (by kernel_rfl) (congrArg Value.bool hc51) ?_
       refine pl_not (tg := 62) (by kernel_rfl) (congrArg Value.bool hc51) ?_
       refine pl_not (tg := 62) (by kernel_rfl) (congrArg Value.bool hc51) ?_
       refine pl_not (tg := 62) (by kernel_rfl) (congrArg Value.bool hc51) ?_
       refine pl_val (.bool true) (y_pick_t (congrArg Value.bool hc51) rfl) ?_
       refine pl_val (.bool true) (y_move rfl) ?_
       refine pl_not (tg := 68) (by kernel_rfl) (by rfl) ?_
       refine pl_not (tg := 68) (by kernel_rfl) (by rfl) ?_
       refine pl_not (tg := 68) (by kernel_rfl) (by rfl) ?_
       refine pl_not (tg := 68) (by kernel_rfl) (by rfl) ?_
       refine pl_val (.bool true) (y_pick_t (by rfl) rfl) ?_
       refine pl_val (.bool true) (y_move rfl) ?_
       refine pl_not (tg := 74) (by kernel_rfl) (by rfl) ?_
       refine pl_not (tg := 74) (by kernel_rfl) (by rfl) ?_
       refine pl_not (tg := 74) (by kernel_rfl) (by rfl) ?_
       refine pl_val (.bool true) (y_pick_t (by rfl) rfl) ?_
       refine c_nil ?_
       cases hs
       exact ⟨_, fr_ovl 133 ⟨rfl, rfl, rfl, rfl, rfl, rfl, rfl, rfl, trivial⟩, hMid⟩
      ·skip
       refine pl_yes (.slice a19x0 n19x0 c19x0) (tg := 62) (by kernel_rfl) (congrArg Value.bool hc51) (y_move rfl) ?_
       refine pl_yes (.slice a9x0 n9x0 c9x0) (tg := 62) (by kernel_rfl) (congrArg Value.bool hc51) (y_move rfl) ?_
       have hO := hO.fr2
       obtain ⟨r53, hr53, hs⟩ := bind_some hs
       refine pl_cally (tg := 62) (by kernel_rfl) (congrArg Value.bool hc51) Bd16 rfl (c_laws_eqIntS (M := (Less (Past M10 w6 w9) f19x0)) r20.1 r11.1 (((Frz.os Frz.int)).val hv19x0 Less.sub Less.not) (hv9x0.sub Less.sub) hO.less.fut hr53) ?_
       rintro _ w52 ⟨rfl, hC52⟩
       have h0 := h0.ext hC52
       have hb2 := hb2.chg hC52 (fun h => nomatch h)
       have hv9x0 := hv9x0.ext hC52
       have hv9x1 := hv9x1.ext hC52
       have hvi46x0 := hvi46x0.ext hC52
       have hb18 := hb18.chg hC52 (fun h => nomatch h)
       have hv19x0 := hv19x0.ext hC52
       have hv19x1 := hv19x1.ext hC52
       have hv40x0 := hv40x0.ext hC52
       have hMid := hMid.ext hC52
       have hC := hC.ext hC52
       have hO := hO.ext hC52
       refine pl_yes (.bool (!r53)) (tg := 62) (by kernel_rfl) (congrArg Value.bool hc51) (y_not rfl) ?_
       refine pl_val (.bool (!r53)) (y_pick_f (congrArg Value.bool hc51) rfl) ?_
       refine pl_val (.bool (!r53)) (y_move rfl) ?_
       rcases bif_some hs with ⟨hc54, hs⟩ | ⟨hc54, hs⟩
       ·skip
        refine pl_not (tg := 68) (by kernel_rfl) (congrArg Value.bool hc54) ?_
        refine pl_not (tg := 68) (by kernel_rfl) (congrArg Value.bool hc54) ?_
        refine pl_not (tg := 68) (by kernel_rfl) (congrArg Value.bool hc54) ?_
        refine pl_not (tg := 68) (by kernel_rfl) (congrArg Value.bool hc54) ?_
        refine pl_val (.bool true) (y_pick_t (congrArg Value.bool hc54) rfl) ?_
        refine pl_val (.bool true) (y_move rfl) ?_
        refine pl_not (tg := 74) (by kernel_rfl) (by rfl) ?_
        refine pl_not (tg := 74) (by kernel_rfl) (by rfl) ?_
        refine pl_not (tg := 74) (by kernel_rfl) (by rfl) ?_
        refine pl_val (.bool true) (y_pick_t (by rfl) rfl) ?_
        refine c_nil ?_
        cases hs
        exact ⟨_, fr_ovl 133 ⟨rfl, rfl, rfl, rfl, rfl, rfl, rfl, rfl, trivial⟩, hMid⟩
       ·skip
        refine pl_yes (.slice a19x1 n19x1 c19x1) (tg := 68) (by kernel_rfl) (congrArg Value.bool hc54) (y_move rfl) ?_
        refine pl_yes (.slice a9x1 n9x1 c9x1) (tg := 68) (by kernel_rfl) (congrArg Value.bool hc54) (y_move rfl) ?_
        have hO := hO.fr3
        obtain ⟨r56, hr56, hs⟩ := bind_some hs
        refine pl_cally (tg := 68) (by kernel_rfl) (congrArg Value.bool hc54) Bd16 rfl (c_laws_eqIntS (M := (Less (Past M10 w6 w9) f19x1)) r20.2.1 r11.2.1 (((Frz.os Frz.int)).val hv19x1 Less.sub Less.not) (hv9x1.sub Less.sub) hO.less.fut hr56) ?_
        rintro _ w55 ⟨rfl, hC55⟩
        have h0 := h0.ext hC55
        have hb2 := hb2.chg hC55 (fun h => nomatch h)
        have hv9x0 := hv9x0.ext hC55
        have hv9x1 := hv9x1.ext hC55
        have hvi46x0 := hvi46x0.ext hC55
        have hb18 := hb18.chg hC55 (fun h => nomatch h)
        have hv19x0 := hv19x0.ext hC55
        have hv19x1 := hv19x1.ext hC55
        have hv40x0 := hv40x0.ext hC55
        have hMid := hMid.ext hC55
        have hC := hC.ext hC55
        have hO := hO.ext hC55
        refine pl_yes (.bool (!r56)) (tg := 68) (by kernel_rfl) (congrArg Value.bool hc54) (y_not rfl) ?_
        refine pl_val (.bool (!r56)) (y_pick_f (congrArg Value.bool hc54) rfl) ?_
        refine pl_val (.bool (!r56)) (y_move rfl) ?_
        rcases bif_some hs with ⟨hc57, hs⟩ | ⟨hc57, hs⟩
        ·skip
         refine pl_not (tg := 74) (by kernel_rfl) (congrArg Value.bool hc57) ?_
         refine pl_not (tg := 74) (by kernel_rfl) (congrArg Value.bool hc57) ?_
         refine pl_not (tg := 74) (by kernel_rfl) (congrArg Value.bool hc57) ?_
         refine pl_val (.bool true) (y_pick_t (congrArg Value.bool hc57) rfl) ?_
         refine c_nil ?_
         cases hs
         exact ⟨_, fr_ovl 133 ⟨rfl, rfl, rfl, rfl, rfl, rfl, rfl, rfl, trivial⟩, hMid⟩
        ·skip
         refine pl_yes (.bool r20.2.2) (tg := 74) (by kernel_rfl) (congrArg Value.bool hc57) (y_move rfl) ?_
         refine pl_yes (.bool r11.2.2) (tg := 74) (by kernel_rfl) (congrArg Value.bool hc57) (y_move rfl) ?_
         refine pl_yes (.bool (!(r20.2.2 == r11.2.2))) (tg := 74) (by kernel_rfl) (congrArg Value.bool hc57) (y_bneq Try.underlying4 rfl rfl) ?_
         refine pl_val (.bool (!(r20.2.2 == r11.2.2))) (y_pick_f (congrArg Value.bool hc57) rfl) ?_
         refine c_nil ?_
         cases hs
         exact ⟨_, fr_ovl 133 ⟨rfl, rfl, rfl, rfl, rfl, rfl, rfl, rfl, trivial⟩, hMid⟩
     ·rintro a1 w49 ⟨σ, rfl, hCs48⟩
      have h0 := h0.ext hCs48
      have hb2 := hb2.chg hCs48 (fun h => nomatch h)
      have hv9x0 := hv9x0.ext hCs48
      have hv9x1 := hv9x1.ext hCs48
      have hvi46x0 := hvi46x0.ext hCs48
      have hb18 := hb18.chg hCs48 (fun h => nomatch h)
      have hv19x0 := hv19x0.ext hCs48
      have hv19x1 := hv19x1.ext hCs48
      have hv40x0 := hv40x0.ext hCs48
      have hC := hC.ext hCs48
      have hO := hO.ext hCs48
      rcases bif_some hs with ⟨hc58, hs⟩ | ⟨hc58, hs⟩
      ·skip
       refine c_condT (congrArg Value.bool hc58) ?_
       refine c_seq (c_region ?_)
       refine pl_val (.bool false) (y_assign rfl) ?_
       refine c_nil ?_
       refine wp_ret ?_
       cases hs
       exact ⟨_, fr_ovl 133 ⟨rfl, trivial⟩, hC⟩
      ·skip
       refine c_condF (congrArg Value.bool hc58) ?_
       refine wp_skip ?_
       refine c_seq (c_region ?_)
       refine pl_val (.int .i64 1) (y_assign rfl) ?_
       refine c_nil ?_
       refine c_seq (c_region ?_)
       refine pl_val (.slice a19x0 n19x0 c19x0) (y_move rfl) ?_
       refine pl_val (.int .i64 1) (y_move rfl) ?_
       have hO := hO.fr2
       have hL59 := hO
       have hI59 := Own.lend (F := (f19x0 ++ ([]))) (R := fi46x0 ++ (f40x0 ++ (f19x1 ++ (([g17]) ++ (([g2]) ++ ([])))))) (Own.perm (hL59) (by simp))
       obtain ⟨r60, hr60, hs⟩ := bind_some hs
       refine pl_call Bd32 rfl (c_laws_markIntS (M := (Past M10 w6 w9)) r20.1 1 hv19x0 hI59 hI59.fut hr60) ?_
       rintro _ w59 ⟨fi59x0, rfl, hC59, hvi59x0, hOc59⟩
       have hO := hO.perm (R := (f19x0 ++ ([])) ++ (fi46x0 ++ (f40x0 ++ (f19x1 ++ (([g17]) ++ (([g2]) ++ ([]))))))) (by simp)
       have h0 := h0.mut hC59 (fun g hg => hO.inM g ((fun _ h => h) g hg)) (fun _ _ h => nomatch h)
       have hb2 := hb2.chg hC59 (fun hg => hO.apart _ ((fun _ h => h) _ hg) (mem_r (mem_r (mem_r (mem_r (mem_l (List.mem_singleton.2 rfl)))))))
       have hv9x0 := hv9x0.mut hC59 (fun g hg => hO.inM g ((fun _ h => h) g hg)) (fun _ _ h => nomatch h)
       have hv9x1 := hv9x1.mut hC59 (fun g hg => hO.inM g ((fun _ h => h) g hg)) (fun _ _ h => nomatch h)
       have hvi46x0 := hvi46x0.mut hC59 (fun g hg => hO.inM g ((fun _ h => h) g hg)) (fun g hg e => hO.apart g ((fun _ h => h) g hg) (mem_l (e)))
       have hb18 := hb18.chg hC59 (fun hg => hO.apart _ ((fun _ h => h) _ hg) (mem_r (mem_r (mem_r (mem_l (List.mem_singleton.2 rfl))))))
       have hv19x1 := hv19x1.mut hC59 (fun g hg => hO.inM g ((fun _ h => h) g hg)) (fun g hg e => hO.apart g ((fun _ h => h) g hg) (mem_r (mem_r (mem_l (e)))))
       have hv40x0 := hv40x0.mut hC59 (fun g hg => hO.inM g ((fun _ h => h) g hg)) (fun g hg e => hO.apart g ((fun _ h => h) g hg) (mem_r (mem_l (e))))
       have hC := hC.step hC59 (fun g hg => hO.inN g ((fun _ h => h) g hg))
       have hO := Own.join hO hC59 hOc59
       have hO := hO.perm (R := fi59x0 ++ (fi46x0 ++ (f40x0 ++ (f19x1 ++ (([g17]) ++ (([g2]) ++ ([]))))))) (by simp)
       refine pl_val (.int .i64 r60.1) (y_assign rfl) ?_
       refine c_nil ?_
       refine c_seq (c_region ?_)
       refine pl_val (.slice a19x1 n19x1 c19x1) (y_move rfl) ?_
       refine pl_val (.int .i64 r60.1) (y_move rfl) ?_
       have hO := hO.fr3
       have hL61 := hO
       have hI61 := Own.lend (F := (f19x1 ++ ([]))) (R := fi59x0 ++ (fi46x0 ++ (f40x0 ++ (([g17]) ++ (([g2]) ++ ([])))))) (Own.perm (hL61) (by simp))
       obtain ⟨r62, hr62, hs⟩ := bind_some hs
       refine pl_call Bd32 rfl (c_laws_markIntS (M := (Past M10 w6 w9)) r20.2.1 r60.1 hv19x1 hI61 hI61.fut hr62) ?_
       rintro _ w61 ⟨fi61x0, rfl, hC61, hvi61x0, hOc61⟩
       have hO := hO.perm (R := (f19x1 ++ ([])) ++ (fi59x0 ++ (fi46x0 ++ (f40x0 ++ (([g17]) ++ (([g2]) ++ ([]))))))) (by simp)
       have h0 := h0.mut hC61 (fun g hg => hO.inM g ((fun _ h => h) g hg)) (fun _ _ h => nomatch h)
       have hb2 := hb2.chg hC61 (fun hg => hO.apart _ ((fun _ h => h) _ hg) (mem_r (mem_r (mem_r (mem_r (mem_l (List.mem_singleton.2 rfl)))))))
       have hv9x0 := hv9x0.mut hC61 (fun g hg => hO.inM g ((fun _ h => h) g hg)) (fun _ _ h => nomatch h)
       have hv9x1 := hv9x1.mut hC61 (fun g hg => hO.inM g ((fun _ h => h) g hg)) (fun _ _ h => nomatch h)
       have hvi46x0 := hvi46x0.mut hC61 (fun g hg => hO.inM g ((fun _ h => h) g hg)) (fun g hg e => hO.apart g ((fun _ h => h) g hg) (mem_r (mem_l (e))))
       have hb18 := hb18.chg hC61 (fun hg => hO.apart _ ((fun _ h => h) _ hg) (mem_r (mem_r (mem_r (mem_l (List.mem_singleton.2 rfl))))))
       have hvi59x0 := hvi59x0.mut hC61 (fun g hg => hO.inM g ((fun _ h => h) g hg)) (fun g hg e => hO.apart g ((fun _ h => h) g hg) (mem_l (e)))
       have hv40x0 := hv40x0.mut hC61 (fun g hg => hO.inM g ((fun _ h => h) g hg)) (fun g hg e => hO.apart g ((fun _ h => h) g hg) (mem_r (mem_r (mem_l (e)))))
       have hC := hC.step hC61 (fun g hg => hO.inN g ((fun _ h => h) g hg))
       have hO := Own.join hO hC61 hOc61
       have hO := hO.perm (R := fi61x0 ++ (fi59x0 ++ (fi46x0 ++ (f40x0 ++ (([g17]) ++ (([g2]) ++ ([]))))))) (by simp)
       refine pl_val (.int .i64 r62.1) (y_assign rfl) ?_
       refine c_nil ?_
       refine c_seq (c_region ?_)
       refine pl_val (.int .i64 1) (y_assign rfl) ?_
       refine c_nil ?_
       refine c_seq (c_region ?_)
       refine pl_val (.slice a19x0 n19x0 c19x0) (y_move rfl) ?_
       refine pl_val (.int .i64 1) (y_move rfl) ?_
       have hO := hO.fr1
       obtain ⟨r64, hr64, hs⟩ := bind_some hs
       refine pl_call Bd37 rfl (c_laws_heldIntS (M := (Less (Past M10 w6 w9) fi59x0)) r60.2 1 (((Frz.os Frz.int)).val hvi59x0 Less.sub Less.not) hO.less.fut hr64) ?_
       rintro _ w63 ⟨rfl, hC63⟩
       have h0 := h0.ext hC63
       have hb2 := hb2.chg hC63 (fun h => nomatch h)
       have hv9x0 := hv9x0.ext hC63
       have hv9x1 := hv9x1.ext hC63
       have hvi46x0 := hvi46x0.ext hC63
       have hb18 := hb18.chg hC63 (fun h => nomatch h)
       have hvi59x0 := hvi59x0.ext hC63
       have hvi61x0 := hvi61x0.ext hC63
       have hv40x0 := hv40x0.ext hC63
       have hC := hC.ext hC63
       have hO := hO.ext hC63
       refine pl_val (.int .i64 r64) (y_assign rfl) ?_
       refine c_nil ?_
       refine c_seq ?_
       refine c_seq (c_region ?_)
       refine pl_val (.int .i64 r64) (y_move rfl) ?_
       refine pl_val (.bool (decide (r64 < 0))) (y_lss rfl rfl) ?_
       refine c_nil ?_
       rcases bif_some hs with ⟨hc65, hs⟩ | ⟨hc65, hs⟩
       ·skip
        refine c_condT (congrArg Value.bool hc65) ?_
        refine c_seq (c_region ?_)
        refine pl_val (.bool false) (y_assign rfl) ?_
        refine c_nil ?_
        refine wp_ret ?_
        cases hs
        exact ⟨_, fr_ovl 133 ⟨rfl, trivial⟩, hC⟩
       ·skip
        refine c_condF (congrArg Value.bool hc65) ?_
        refine wp_skip ?_
        refine c_seq (c_region ?_)
        refine pl_val (.slice a19x1 n19x1 c19x1) (y_move rfl) ?_
        refine pl_val (.int .i64 r64) (y_move rfl) ?_
        have hO := hO.fr1
        obtain ⟨r67, hr67, hs⟩ := bind_some hs
        refine pl_call Bd37 rfl (c_laws_heldIntS (M := (Less (Past M10 w6 w9) fi61x0)) r62.2 r64 (((Frz.os Frz.int)).val hvi61x0 Less.sub Less.not) hO.less.fut hr67) ?_
        rintro _ w66 ⟨rfl, hC66⟩
        have h0 := h0.ext hC66
        have hb2 := hb2.chg hC66 (fun h => nomatch h)
        have hv9x0 := hv9x0.ext hC66
        have hv9x1 := hv9x1.ext hC66
        have hvi46x0 := hvi46x0.ext hC66
        have hb18 := hb18.chg hC66 (fun h => nomatch h)
        have hvi59x0 := hvi59x0.ext hC66
        have hvi61x0 := hvi61x0.ext hC66
        have hv40x0 := hv40x0.ext hC66
        have hC := hC.ext hC66
        have hO := hO.ext hC66
        refine pl_val (.int .i64 r67) (y_assign rfl) ?_
        refine c_nil ?_
        refine c_seq ?_
        refine c_seq (c_region ?_)
        refine pl_val (.int .i64 r67) (y_move rfl) ?_
        refine pl_val (.bool (decide (r67 < 0))) (y_lss rfl rfl) ?_
        refine c_nil ?_
        rcases bif_some hs with ⟨hc68, hs⟩ | ⟨hc68, hs⟩
        ·skip
         refine c_condT (congrArg Value.bool hc68) ?_
         refine c_seq (c_region ?_)
         refine pl_val (.bool false) (y_assign rfl) ?_
         refine c_nil ?_
         refine wp_ret ?_
         cases hs
         exact ⟨_, fr_ovl 133 ⟨rfl, trivial⟩, hC⟩
        ·skip
         refine c_condF (congrArg Value.bool hc68) ?_
         refine wp_skip ?_
         refine c_seq ?_
         refine c_seq (c_region ?_)
         refine pl_val (.int .i64 r67) (y_move rfl) ?_
         refine pl_val (.int .i64 r62.1) (y_move rfl) ?_
         refine pl_val (.bool (r67 != r62.1)) (y_neq rfl rfl) ?_
         refine c_nil ?_
         rcases bif_some hs with ⟨hc69, hs⟩ | ⟨hc69, hs⟩
         ·skip
          refine c_condT (congrArg Value.bool hc69) ?_
          refine c_seq (c_region ?_)
          refine pl_val (.bool false) (y_assign rfl) ?_
          refine c_nil ?_
          refine wp_ret ?_
          cases hs
          exact ⟨_, fr_ovl 133 ⟨rfl, trivial⟩, hC⟩
         ·skip
          refine c_condF (congrArg Value.bool hc69) ?_
          refine wp_skip ?_
          refine c_seq (c_region ?_)
          refine pl_val (.agg #[(.int .i64 aA.1), (.slice pa0 pn0 pc0)]) (y_load rfl ((box_load Ag30 Sz30 hb2 [] [(.int .i64 aA.1), (.slice pa0 pn0 pc0)] [] rfl rfl (fun h => nomatch h)) _ (Chg.refl _ _))) ?_
          obtain ⟨r71, hr71, hs⟩ := bind_some hs
          refine pl_call Bd19 rfl (c_laws_toAlgebra (M := (Past M10 w6 w9)) (aA.1, aA.2) h0 hO.fut hr71) ?_
          rintro _ w70 ⟨a70x0, n70x0, c70x0, f70x0, rfl, hC70, hv70x0, hOc70⟩
          have h0 := h0.ext hC70
          have hb2 := hb2.chg hC70 (fun h => nomatch h)
          have hv9x0 := hv9x0.ext hC70
          have hv9x1 := hv9x1.ext hC70
          have hvi46x0 := hvi46x0.ext hC70
          have hb18 := hb18.chg hC70 (fun h => nomatch h)
          have hvi59x0 := hvi59x0.ext hC70
          have hvi61x0 := hvi61x0.ext hC70
          have hv40x0 := hv40x0.ext hC70
          have hC := hC.ext hC70
          have hO := Own.join0 hO hC70 hOc70
          have hO := hO.perm (R := f70x0 ++ (fi61x0 ++ (fi59x0 ++ (fi46x0 ++ (f40x0 ++ (([g17]) ++ (([g2]) ++ ([])))))))) (by simp)
          obtain ⟨r74, hr74, hs⟩ := bind_some hs
          refine pl_call Bd36 rfl (c_impl_FirstPairApart (M := (Less (Past M10 w6 w9) f70x0)) (r71.1, r71.2) (((Frz.os (Frz.pr Frz.int (Frz.os Frz.int)))).val hv70x0 Less.sub Less.not) hO.less.fut hr74) ?_
          rintro _ w73 ⟨a73x0, n73x0, c73x0, f73x0, a73x1, n73x1, c73x1, f73x1, rfl, hC73, hv73x0, hv73x1, hOc73⟩
          have h0 := h0.ext hC73
          have hb2 := hb2.chg hC73 (fun h => nomatch h)
          have hv9x0 := hv9x0.ext hC73
          have hv9x1 := hv9x1.ext hC73
          have hvi46x0 := hvi46x0.ext hC73
          have hb18 := hb18.chg hC73 (fun h => nomatch h)
          have hvi59x0 := hvi59x0.ext hC73
          have hvi61x0 := hvi61x0.ext hC73
          have hv40x0 := hv40x0.ext hC73
          have hv70x0 := hv70x0.ext hC73
          have hC := hC.ext hC73
          have hO := Own.join0 hO hC73 hOc73
          have hO := hO.perm (R := f73x0 ++ (f73x1 ++ (f70x0 ++ (fi61x0 ++ (fi59x0 ++ (fi46x0 ++ (f40x0 ++ (([g17]) ++ (([g2]) ++ ([])))))))))) (by simp)
          have hv73x0 := hv73x0.free (M' := (Past M10 w6 w9)) (Free.os Free.int)
          have hv73x1 := hv73x1.free (M' := (Past M10 w6 w9)) (Free.os Free.int)
          refine pl_val (.tuple #[(.slice a73x0 n73x0 c73x0), (.slice a73x1 n73x1 c73x1), (.bool r74.2.2)]) (y_move rfl) ?_
          refine pl_val (.slice a73x0 n73x0 c73x0) (y_extract rfl (by kernel_rfl)) ?_
          refine pl_val (.slice a73x1 n73x1 c73x1) (y_extract rfl (by kernel_rfl)) ?_
          refine pl_val (.bool r74.2.2) (y_extract rfl (by kernel_rfl)) ?_
          refine pl_val (.slice a73x0 n73x0 c73x0) (y_assign rfl) ?_
          refine pl_val (.slice a73x1 n73x1 c73x1) (y_assign rfl) ?_
          refine pl_val (.bool r74.2.2) (y_assign rfl) ?_
          refine c_nil ?_
          refine c_seq ?_
          refine c_seq ?_
          obtain ⟨s77, hm79, hs⟩ := bind_some hs
          refine c_mid (I := fun a w78 => ∃ (σ : Nat → Value), a = fr 133 (ovl σ [(2, (.bool false)), (8, (.slice a19x0 n19x0 c19x0)), (9, (.slice a19x1 n19x1 c19x1)), (12, (.int .i64 r62.1)), (13, (.int .i64 r67)), (119, (.bool s77))]) ∧ Chg [] w73 w78) ?_ ?_
          ·replace hs := hm79
           have hMid := Chg.refl [] w73
           refine c_region ?_
           refine pl_val (.slice a73x0 n73x0 c73x0) (y_move rfl) ?_
           refine pl_val (.slice a9x0 n9x0 c9x0) (y_move rfl) ?_
           obtain ⟨r81, hr81, hs⟩ := bind_some hs
           refine pl_call Bd16 rfl (c_laws_eqIntS (M := (Less (Past M10 w6 w9) f73x0)) r74.1 r11.1 (((Frz.os Frz.int)).val hv73x0 Less.sub Less.not) (hv9x0.sub Less.sub) hO.less.fut hr81) ?_
           rintro _ w80 ⟨rfl, hC80⟩
           have hb2 := hb2.chg hC80 (fun h => nomatch h)
           have hv9x0 := hv9x0.ext hC80
           have hv9x1 := hv9x1.ext hC80
           have hvi46x0 := hvi46x0.ext hC80
           have hb18 := hb18.chg hC80 (fun h => nomatch h)
           have hvi59x0 := hvi59x0.ext hC80
           have hvi61x0 := hvi61x0.ext hC80
           have hv40x0 := hv40x0.ext hC80
           have hv70x0 := hv70x0.ext hC80
           have hv73x0 := hv73x0.ext hC80
           have hv73x1 := hv73x1.ext hC80
           have hMid := hMid.ext hC80
           have hC := hC.ext hC80
           have hO := hO.ext hC80
           refine pl_val (.bool (!r81)) (y_not rfl) ?_
           refine pl_val (.bool (!r81)) (y_move rfl) ?_
           rcases bif_some hs with ⟨hc82, hs⟩ | ⟨hc82, hs⟩
           ·skip
            refine pl_not (tg := 109) (by kernel_rfl) (congrArg Value.bool hc82) ?_
            refine pl_not (tg := 109) (by kernel_rfl) (congrArg Value.bool hc82) ?_
            refine pl_not (tg := 109) (by kernel_rfl) (congrArg Value.bool hc82) ?_
            refine pl_not (tg := 109) (by kernel_rfl) (congrArg Value.bool hc82) ?_
            refine pl_val (.bool true) (y_pick_t (congrArg Value.bool hc82) rfl) ?_
            refine pl_val (.bool true) (y_move rfl) ?_
            refine pl_not (tg := 115) (by kernel_rfl) (by rfl) ?_
            refine pl_not (tg := 115) (by kernel_rfl) (by rfl) ?_
            refine pl_not (tg := 115) (by kernel_rfl) (by rfl) ?_
            refine pl_val (.bool true) (y_pick_t (by rfl) rfl) ?_
            refine c_nil ?_
            cases hs
            exact ⟨_, fr_ovl 133 ⟨rfl, rfl, rfl, rfl, rfl, rfl, trivial⟩, hMid⟩
           ·skip
            refine pl_yes (.slice a73x1 n73x1 c73x1) (tg := 109) (by kernel_rfl) (congrArg Value.bool hc82) (y_move rfl) ?_
            refine pl_yes (.slice a9x1 n9x1 c9x1) (tg := 109) (by kernel_rfl) (congrArg Value.bool hc82) (y_move rfl) ?_
            have hO := hO.fr1
            obtain ⟨r84, hr84, hs⟩ := bind_some hs
            refine pl_cally (tg := 109) (by kernel_rfl) (congrArg Value.bool hc82) Bd16 rfl (c_laws_eqIntS (M := (Less (Past M10 w6 w9) f73x1)) r74.2.1 r11.2.1 (((Frz.os Frz.int)).val hv73x1 Less.sub Less.not) (hv9x1.sub Less.sub) hO.less.fut hr84) ?_
            rintro _ w83 ⟨rfl, hC83⟩
            have hb2 := hb2.chg hC83 (fun h => nomatch h)
            have hv9x0 := hv9x0.ext hC83
            have hv9x1 := hv9x1.ext hC83
            have hvi46x0 := hvi46x0.ext hC83
            have hb18 := hb18.chg hC83 (fun h => nomatch h)
            have hvi59x0 := hvi59x0.ext hC83
            have hvi61x0 := hvi61x0.ext hC83
            have hv40x0 := hv40x0.ext hC83
            have hv70x0 := hv70x0.ext hC83
            have hv73x0 := hv73x0.ext hC83
            have hv73x1 := hv73x1.ext hC83
            have hMid := hMid.ext hC83
            have hC := hC.ext hC83
            have hO := hO.ext hC83
            refine pl_yes (.bool (!r84)) (tg := 109) (by kernel_rfl) (congrArg Value.bool hc82) (y_not rfl) ?_
            refine pl_val (.bool (!r84)) (y_pick_f (congrArg Value.bool hc82) rfl) ?_
            refine pl_val (.bool (!r84)) (y_move rfl) ?_
            rcases bif_some hs with ⟨hc85, hs⟩ | ⟨hc85, hs⟩
            ·skip
             refine pl_not (tg := 115) (by kernel_rfl) (congrArg Value.bool hc85) ?_
             refine pl_not (tg := 115) (by kernel_rfl) (congrArg Value.bool hc85) ?_
             refine pl_not (tg := 115) (by kernel_rfl) (congrArg Value.bool hc85) ?_
             refine pl_val (.bool true) (y_pick_t (congrArg Value.bool hc85) rfl) ?_
             refine c_nil ?_
             cases hs
             exact ⟨_, fr_ovl 133 ⟨rfl, rfl, rfl, rfl, rfl, rfl, trivial⟩, hMid⟩
            ·skip
             refine pl_yes (.bool r74.2.2) (tg := 115) (by kernel_rfl) (congrArg Value.bool hc85) (y_move rfl) ?_
             refine pl_yes (.bool r11.2.2) (tg := 115) (by kernel_rfl) (congrArg Value.bool hc85) (y_move rfl) ?_
             refine pl_yes (.bool (!(r74.2.2 == r11.2.2))) (tg := 115) (by kernel_rfl) (congrArg Value.bool hc85) (y_bneq Try.underlying4 rfl rfl) ?_
             refine pl_val (.bool (!(r74.2.2 == r11.2.2))) (y_pick_f (congrArg Value.bool hc85) rfl) ?_
             refine c_nil ?_
             cases hs
             exact ⟨_, fr_ovl 133 ⟨rfl, rfl, rfl, rfl, rfl, rfl, trivial⟩, hMid⟩
          ·rintro a1 w78 ⟨σ, rfl, hCs77⟩
           have hb2 := hb2.chg hCs77 (fun h => nomatch h)
           have hvi46x0 := hvi46x0.ext hCs77
           have hb18 := hb18.chg hCs77 (fun h => nomatch h)
           have hvi59x0 := hvi59x0.ext hCs77
           have hvi61x0 := hvi61x0.ext hCs77
           have hv40x0 := hv40x0.ext hCs77
           have hv70x0 := hv70x0.ext hCs77
           have hv73x0 := hv73x0.ext hCs77
           have hv73x1 := hv73x1.ext hCs77
           have hC := hC.ext hCs77
           have hO := hO.ext hCs77
           rcases bif_some hs with ⟨hc86, hs⟩ | ⟨hc86, hs⟩
           ·skip
            refine c_condT (congrArg Value.bool hc86) ?_
            refine c_seq (c_region ?_)
            refine pl_val (.bool false) (y_assign rfl) ?_
            refine c_nil ?_
            refine wp_ret ?_
            cases hs
            exact ⟨_, fr_ovl 133 ⟨rfl, trivial⟩, hC⟩
           ·skip
            refine c_condF (congrArg Value.bool hc86) ?_
            refine wp_skip ?_
            refine c_seq (c_region ?_)
            refine pl_val (.int .i64 1) (y_assign rfl) ?_
            refine c_nil ?_
            refine c_seq (c_region ?_)
            refine pl_val (.slice a19x0 n19x0 c19x0) (y_move rfl) ?_
            refine pl_val (.int .i64 1) (y_move rfl) ?_
            have hO := hO.fr4
            obtain ⟨r88, hr88, hs⟩ := bind_some hs
            refine pl_call Bd37 rfl (c_laws_heldIntS (M := (Less (Past M10 w6 w9) fi59x0)) r60.2 1 (((Frz.os Frz.int)).val hvi59x0 Less.sub Less.not) hO.less.fut hr88) ?_
            rintro _ w87 ⟨rfl, hC87⟩
            have hb2 := hb2.chg hC87 (fun h => nomatch h)
            have hvi46x0 := hvi46x0.ext hC87
            have hb18 := hb18.chg hC87 (fun h => nomatch h)
            have hvi59x0 := hvi59x0.ext hC87
            have hvi61x0 := hvi61x0.ext hC87
            have hv40x0 := hv40x0.ext hC87
            have hv70x0 := hv70x0.ext hC87
            have hv73x0 := hv73x0.ext hC87
            have hv73x1 := hv73x1.ext hC87
            have hC := hC.ext hC87
            have hO := hO.ext hC87
            refine pl_val (.int .i64 r88) (y_assign rfl) ?_
            refine c_nil ?_
            refine c_seq ?_
            refine c_seq (c_region ?_)
            refine pl_val (.int .i64 r88) (y_move rfl) ?_
            refine pl_val (.bool (decide (r88 < 0))) (y_lss rfl rfl) ?_
            refine c_nil ?_
            rcases bif_some hs with ⟨hc89, hs⟩ | ⟨hc89, hs⟩
            ·skip
             refine c_condT (congrArg Value.bool hc89) ?_
             refine c_seq (c_region ?_)
             refine pl_val (.bool false) (y_assign rfl) ?_
             refine c_nil ?_
             refine wp_ret ?_
             cases hs
             exact ⟨_, fr_ovl 133 ⟨rfl, trivial⟩, hC⟩
            ·skip
             refine c_condF (congrArg Value.bool hc89) ?_
             refine wp_skip ?_
             refine c_seq (c_region ?_)
             refine pl_val (.slice a19x1 n19x1 c19x1) (y_move rfl) ?_
             refine pl_val (.int .i64 r88) (y_move rfl) ?_
             have hO := hO.fr4
             obtain ⟨r91, hr91, hs⟩ := bind_some hs
             refine pl_call Bd37 rfl (c_laws_heldIntS (M := (Less (Past M10 w6 w9) fi61x0)) r62.2 r88 (((Frz.os Frz.int)).val hvi61x0 Less.sub Less.not) hO.less.fut hr91) ?_
             rintro _ w90 ⟨rfl, hC90⟩
             have hb2 := hb2.chg hC90 (fun h => nomatch h)
             have hvi46x0 := hvi46x0.ext hC90
             have hb18 := hb18.chg hC90 (fun h => nomatch h)
             have hvi59x0 := hvi59x0.ext hC90
             have hvi61x0 := hvi61x0.ext hC90
             have hv40x0 := hv40x0.ext hC90
             have hv70x0 := hv70x0.ext hC90
             have hv73x0 := hv73x0.ext hC90
             have hv73x1 := hv73x1.ext hC90
             have hC := hC.ext hC90
             have hO := hO.ext hC90
             refine pl_val (.int .i64 r91) (y_assign rfl) ?_
             refine c_nil ?_
             refine c_seq ?_
             refine c_seq (c_region ?_)
             refine pl_val (.int .i64 r91) (y_move rfl) ?_
             refine pl_val (.bool (decide (r91 < 0))) (y_lss rfl rfl) ?_
             refine c_nil ?_
             rcases bif_some hs with ⟨hc92, hs⟩ | ⟨hc92, hs⟩
             ·skip
              refine c_condT (congrArg Value.bool hc92) ?_
              refine c_seq (c_region ?_)
              refine pl_val (.bool false) (y_assign rfl) ?_
              refine c_nil ?_
              refine wp_ret ?_
              cases hs
              exact ⟨_, fr_ovl 133 ⟨rfl, trivial⟩, hC⟩
             ·skip
              refine c_condF (congrArg Value.bool hc92) ?_
              refine wp_skip ?_
              refine c_seq ?_
              refine c_seq (c_region ?_)
              refine pl_val (.int .i64 r91) (y_move rfl) ?_
              refine pl_val (.int .i64 r62.1) (y_move rfl) ?_
              refine pl_val (.bool (r91 != r62.1)) (y_neq rfl rfl) ?_
              refine c_nil ?_
              rcases bif_some hs with ⟨hc93, hs⟩ | ⟨hc93, hs⟩
              ·skip
               refine c_condT (congrArg Value.bool hc93) ?_
               refine c_seq (c_region ?_)
               refine pl_val (.bool false) (y_assign rfl) ?_
               refine c_nil ?_
               refine wp_ret ?_
               cases hs
               exact ⟨_, fr_ovl 133 ⟨rfl, trivial⟩, hC⟩
              ·skip
               refine c_condF (congrArg Value.bool hc93) ?_
               refine wp_skip ?_
               refine c_seq (c_region ?_)
               refine pl_val (.bool true) (y_assign rfl) ?_
               refine c_nil ?_
               refine wp_ret ?_
               cases hs
               exact ⟨_, fr_ovl 133 ⟨rfl, trivial⟩, hC⟩

end Go.Proofs
