/- What functions of the program compute, as plain functions, and that a call gives just that. Conditions: those named in each theorem. -/
import Derived.Test.YtchgbcjecdnclaaGreatF3
set_option linter.unusedVariables false
namespace Go.Proofs
open Go.G Go.RowKit
set_option maxRecDepth 100000

def k_impl_unpermuted (M : Nat → Prop) (w0 : World) (r : (List Int) × Bool) (a : Act) (w : World) : Prop :=
  ∃ (σ : Nat → Value) (ra0 : Option Addr) (rn0 rc0 : Nat) (rf0 : List Nat), a = fr 48 (ovl σ [(4, (.slice ra0 rn0 rc0)), (5, (.bool r.2))]) ∧ Chg [] w0 w ∧ (RT.os 3 (RT.int .i64)).val M w (.slice ra0 rn0 rc0) r.1 rf0 ∧ Own (Nw w0 []) (fun _ => True) w (rf0 ++ ([]))
def s_impl_unpermuted (p : List Int) (q : List Int) : Option ((List Int) × Bool) :=
  (s_impl_productTable p q).bind fun r4 =>
  (s_impl_productTable q p).bind fun r7 =>
  (forC (S := Unit) (R := (List Int) × Bool) (fun k51 s49 =>
  (idx r4 k51).bind fun x55 =>
  (forC (S := Unit) (R := (List Int) × Bool) (fun k76 s74 =>
  (idx x55 k76).bind fun x80 =>
  ((bif x80 then (idx r7 k51).bind fun x86 =>
  (idx x86 k76).bind fun x90 =>
  some (!x90) else some false)).bind fun s82 =>
  (bif s82 then some (.rt ([k51, k76], true)) else some (.nx ()))) 0 (x55.length : Int) ()).bind fun o78 => after o78 (fun r_ => some (.rt r_)) (fun s74 =>
  some (.nx ()))) 0 (r4.length : Int) ()).bind fun o53 => after o53 (fun r_ => some r_) (fun s49 =>
  some ([], false))
set_option maxHeartbeats 4000000 in
theorem c_impl_unpermuted {M : Nat → Prop} {w : World} {pa0 : Option Addr} {pn0 pc0 : Nat} {pa1 : Option Addr} {pn1 pc1 : Nat} (p : List Int) (q : List Int) (h0 : (RT.rs (RT.int .i64)).val M w (.slice pa0 pn0 pc0) p ([])) (h1 : (RT.rs (RT.int .i64)).val M w (.slice pa1 pn1 pc1) q ([])) (hM : ∀ g, w.heap.size ≤ g → M g) {r : (List Int) × Bool} (hs : s_impl_unpermuted p q = some r) :
    Gives Tryz.prog 56 [(.slice pa0 pn0 pc0), (.slice pa1 pn1 pc1)] w (fun v w' => ∃ (ra0 : Option Addr) (rn0 rc0 : Nat) (rf0 : List Nat), v = (.tuple #[(.slice ra0 rn0 rc0), (.bool r.2)]) ∧ Chg [] w w' ∧ (RT.os 3 (RT.int .i64)).val M w' (.slice ra0 rn0 rc0) r.1 rf0 ∧ Own (Nw w []) (fun _ => True) w' (rf0 ++ ([]))) := by
 refine calls_fr Tryz.func56 rfl Tryz.ntmps56 (Nat.le_of_ble_eq_true rfl) ?_
 have hO := Own.start (N := Nw w []) hM Nw.fut
 have hC := Chg.refl [] w
 unfold s_impl_unpermuted at hs
 refine wp_mono (Q := KPost (k_impl_unpermuted M w r)) ?_ (fun e a w1 h => ?_)
 rotate_left
 ·cases e
  case ret =>
   obtain ⟨σ, ra0, rn0, rc0, rf0, rfl, hrest⟩ := h
   exact ret2x Tryz.results56 (res_tmp rfl) (res_tmp rfl) ⟨ra0, rn0, rc0, rf0, rfl, hrest⟩
  all_goals exact (h : False).elim
 refine c_seq (c_region ?_)
 refine pl_val (.slice none 0 0) (y_assign rfl) ?_
 refine pl_val (.bool false) (y_assign rfl) ?_
 refine c_nil ?_
 refine c_seq (c_region ?_)
 refine pl_val (.slice pa0 pn0 pc0) (y_move rfl) ?_
 refine pl_val (.slice pa1 pn1 pc1) (y_move rfl) ?_
 obtain ⟨r4, hr4, hs⟩ := bind_some hs
 refine pl_call Bd76 rfl (c_impl_productTable (M := M) p q h0 h1 hO.fut hr4) ?_
 rintro _ w3 ⟨a3x0, n3x0, c3x0, f3x0, rfl, hC3, hv3x0, hOc3⟩
 have h0 := h0.ext hC3
 have h1 := h1.ext hC3
 have hC := hC.ext hC3
 have hO := Own.join0 hO hC3 hOc3
 have hO := hO.perm (R := f3x0 ++ ([])) (by simp)
 refine pl_val (.slice pa1 pn1 pc1) (y_move rfl) ?_
 refine pl_val (.slice pa0 pn0 pc0) (y_move rfl) ?_
 obtain ⟨r7, hr7, hs⟩ := bind_some hs
 refine pl_call Bd76 rfl (c_impl_productTable (M := M) q p h1 h0 hO.fut hr7) ?_
 rintro _ w6 ⟨a6x0, n6x0, c6x0, f6x0, rfl, hC6, hv6x0, hOc6⟩
 have h0 := h0.ext hC6
 have h1 := h1.ext hC6
 have hv3x0 := hv3x0.ext hC6
 have hC := hC.ext hC6
 have hO := Own.join0 hO hC6 hOc6
 have hO := hO.perm (R := f6x0 ++ (f3x0 ++ ([]))) (by simp)
 refine pl_val (.slice a3x0 n3x0 c3x0) (y_assign rfl) ?_
 refine pl_val (.slice a6x0 n6x0 c6x0) (y_assign rfl) ?_
 refine c_nil ?_
 refine c_seq ?_
 refine c_seq (c_region ?_)
 refine pl_val (.slice a3x0 n3x0 c3x0) (y_move rfl) ?_
 refine pl_val (.int .i64 (r4.length : Int)) (y_len' Sl85 (os_len hv3x0) rfl) ?_
 refine pl_val (.int .i64 0) (y_move rfl) ?_
 refine c_nil ?_
 obtain ⟨o53, hl54, hs⟩ := bind_some hs
 refine wp_block ?_
 refine wp_forC (id := 0) (r4.length : Int) (I := fun k51 s49 a w50 => ∃ (σ : Nat → Value), a = fr 48 (ovl σ [(7, (.slice a6x0 n6x0 c6x0)), (18, (.slice a3x0 n3x0 c3x0)), (19, (.int .i64 (r4.length : Int))), (20, (.int .i64 k51))]) ∧ Chg [] w w50 ∧ Own (Nw w []) M w50 (f6x0 ++ (f3x0 ++ [])) ∧ (RT.os 87 (RT.os 4 RT.bool)).val M w50 (.slice a3x0 n3x0 c3x0) r4 f3x0 ∧ (RT.os 87 (RT.os 4 RT.bool)).val M w50 (.slice a6x0 n6x0 c6x0) r7 f6x0) (J := fun s49 a w50 => ∃ (σ : Nat → Value), a = fr 48 (ovl σ []) ∧ Chg [] w w50 ∧ Own (Nw w []) M w50 (f6x0 ++ (f3x0 ++ [])) ∧ (RT.os 87 (RT.os 4 RT.bool)).val M w50 (.slice a3x0 n3x0 c3x0) r4 f3x0 ∧ (RT.os 87 (RT.os 4 RT.bool)).val M w50 (.slice a6x0 n6x0 c6x0) r7 f6x0) (K := (k_impl_unpermuted M w)) ?_ ?_ 0 () o53 _ _ ?_ hl54 ?_
 ·rintro k51 s49 a w50 ⟨σ, rfl, hC, hO, hv3x0, hv6x0⟩ hlt
  refine c_seq (c_region ?_)
  refine pl_val (.bool (decide (k51 < (r4.length : Int)))) (y_lss rfl rfl) ?_
  refine c_nil ?_
  refine c_seq ?_
  refine c_condF (congrArg Value.bool (decide_eq_false hlt)) ?_
  refine wp_exit ?_
  have hO := hO.fr1
  have hO := hO.fr1
  exact ⟨rfl, _, fr_ovl 48 trivial, hC, hO, hv3x0, hv6x0⟩
 ·rintro k51 s49 o53 a w50 ⟨σ, rfl, hC, hO, hv3x0, hv6x0⟩ hlt hw hs
  refine c_seq (c_region ?_)
  refine pl_val (.bool (decide (k51 < (r4.length : Int)))) (y_lss rfl rfl) ?_
  refine c_nil ?_
  refine c_seq ?_
  refine c_condT (congrArg Value.bool (decide_eq_true hlt)) ?_
  refine wp_skip ?_
  refine c_seq ?_
  refine wp_block ?_
  refine c_seq (c_region ?_)
  refine pl_val (.int .i64 k51) (y_move rfl) ?_
  obtain ⟨x55, hx55, hs⟩ := bind_some hs
  obtain ⟨g56, f56, hg56, hk56, hp56, ha56, hf56⟩ := os_idx Sl85 Sz87 hv3x0 hx55
  have hb56 := own_row (Frz.os Frz.bool) ha56 hf56
  refine pl_val (.pointer (some ⟨g56, 0 + Int.toNat k51 * 1, none⟩)) (hp56 _ _ _ _ _ _ _ _ _ rfl rfl) ?_
  obtain ⟨v57, hl57, hrow57, hv57⟩ := at_load1 Ag87 Sz87 rfl rfl hb56
  obtain ⟨a57, n57, c57, rfl⟩ := rs_sl hv57
  refine pl_val (.slice a57 n57 c57) (y_load rfl (hl57 _ (Chg.refl _ _))) ?_
  refine pl_val (.int .i64 k51) (y_assign rfl) ?_
  refine pl_val (.slice a57 n57 c57) (y_assign rfl) ?_
  refine c_nil ?_
  refine c_seq (c_region ?_)
  refine pl_val (.slice a57 n57 c57) (y_move rfl) ?_
  refine pl_val (.int .i64 (x55.length : Int)) (y_len' Sl87 (rs_len hv57) rfl) ?_
  refine pl_val (.int .i64 0) (y_move rfl) ?_
  refine c_nil ?_
  obtain ⟨o78, hl79, hs⟩ := bind_some hs
  refine wp_block ?_
  refine wp_forC (id := 2) (x55.length : Int) (I := fun k76 s74 a w75 => ∃ (σ : Nat → Value), a = fr 48 (ovl σ [(7, (.slice a6x0 n6x0 c6x0)), (8, (.int .i64 k51)), (18, (.slice a3x0 n3x0 c3x0)), (19, (.int .i64 (r4.length : Int))), (20, (.int .i64 k51)), (25, (.slice a57 n57 c57)), (26, (.int .i64 (x55.length : Int))), (27, (.int .i64 k76))]) ∧ Chg [] w w75 ∧ Own (Nw w []) M w75 (f6x0 ++ (f3x0 ++ [])) ∧ (RT.os 87 (RT.os 4 RT.bool)).val M w75 (.slice a3x0 n3x0 c3x0) r4 f3x0 ∧ (RT.os 87 (RT.os 4 RT.bool)).val M w75 (.slice a6x0 n6x0 c6x0) r7 f6x0 ∧ (RT.rs RT.bool).val (Less M f3x0) w75 (.slice a57 n57 c57) x55 ([])) (J := fun s74 a w75 => ∃ (σ : Nat → Value), a = fr 48 (ovl σ [(7, (.slice a6x0 n6x0 c6x0)), (18, (.slice a3x0 n3x0 c3x0)), (19, (.int .i64 (r4.length : Int))), (20, (.int .i64 k51))]) ∧ Chg [] w w75 ∧ Own (Nw w []) M w75 (f6x0 ++ (f3x0 ++ [])) ∧ (RT.os 87 (RT.os 4 RT.bool)).val M w75 (.slice a3x0 n3x0 c3x0) r4 f3x0 ∧ (RT.os 87 (RT.os 4 RT.bool)).val M w75 (.slice a6x0 n6x0 c6x0) r7 f6x0 ∧ (RT.rs RT.bool).val (Less M f3x0) w75 (.slice a57 n57 c57) x55 ([])) (K := (k_impl_unpermuted M w)) ?_ ?_ 0 () o78 _ _ ?_ hl79 ?_
  ·rintro k76 s74 a w75 ⟨σ, rfl, hC, hO, hv3x0, hv6x0, hv57⟩ hlt
   refine c_seq (c_region ?_)
   refine pl_val (.bool (decide (k76 < (x55.length : Int)))) (y_lss rfl rfl) ?_
   refine c_nil ?_
   refine c_seq ?_
   refine c_condF (congrArg Value.bool (decide_eq_false hlt)) ?_
   refine wp_exit ?_
   have hO := hO.fr1
   have hO := hO.fr1
   exact ⟨rfl, _, fr_ovl 48 ⟨rfl, rfl, rfl, rfl, trivial⟩, hC, hO, hv3x0, hv6x0, hv57⟩
  ·rintro k76 s74 o78 a w75 ⟨σ, rfl, hC, hO, hv3x0, hv6x0, hv57⟩ hlt hw hs
   refine c_seq (c_region ?_)
   refine pl_val (.bool (decide (k76 < (x55.length : Int)))) (y_lss rfl rfl) ?_
   refine c_nil ?_
   refine c_seq ?_
   refine c_condT (congrArg Value.bool (decide_eq_true hlt)) ?_
   refine wp_skip ?_
   refine c_seq ?_
   refine wp_block ?_
   refine c_seq (c_region ?_)
   refine pl_val (.int .i64 k76) (y_move rfl) ?_
   obtain ⟨x80, hx80, hs⟩ := bind_some hs
   obtain ⟨b81, o81, hp81, ha81⟩ := rs_idx Sl87 Sz4 hv57 hx80
   refine pl_val (.pointer (some ⟨b81, o81, none⟩)) (hp81 _ _ _ _ _ _ _ _ _ rfl rfl) ?_
   refine pl_val (.bool x80) (y_load rfl ((at_load_bool Ag4 Sz4 ha81) _ (Chg.refl _ _))) ?_
   refine pl_val (.int .i64 k76) (y_assign rfl) ?_
   refine pl_val (.bool x80) (y_assign rfl) ?_
   refine c_nil ?_
   refine c_seq ?_
   obtain ⟨s82, hm84, hs⟩ := bind_some hs
   refine c_mid (I := fun a w83 => ∃ (σ : Nat → Value), a = fr 48 (ovl σ [(7, (.slice a6x0 n6x0 c6x0)), (8, (.int .i64 k51)), (10, (.int .i64 k76)), (18, (.slice a3x0 n3x0 c3x0)), (19, (.int .i64 (r4.length : Int))), (20, (.int .i64 k51)), (25, (.slice a57 n57 c57)), (26, (.int .i64 (x55.length : Int))), (27, (.int .i64 k76)), (42, (.bool s82))]) ∧ Chg [] w75 w83) ?_ ?_
   ·replace hs := hm84
    have hMid := Chg.refl [] w75
    refine c_region ?_
    refine pl_val (.bool x80) (y_move rfl) ?_
    refine pl_val (.bool x80) (y_move rfl) ?_
    rcases bif_some hs with ⟨hc85, hs⟩ | ⟨hc85, hs⟩
    ·skip
     refine pl_yes (.slice a6x0 n6x0 c6x0) (tg := 33) (by kernel_rfl) (congrArg Value.bool hc85) (y_move rfl) ?_
     refine pl_yes (.int .i64 k51) (tg := 33) (by kernel_rfl) (congrArg Value.bool hc85) (y_move rfl) ?_
     obtain ⟨x86, hx86, hs⟩ := bind_some hs
     obtain ⟨g87, f87, hg87, hk87, hp87, ha87, hf87⟩ := os_idx Sl85 Sz87 hv6x0 hx86
     have hb87 := own_row (Frz.os Frz.bool) ha87 hf87
     refine pl_yes (.pointer (some ⟨g87, 0 + Int.toNat k51 * 1, none⟩)) (tg := 33) (by kernel_rfl) (congrArg Value.bool hc85) (hp87 _ _ _ _ _ _ _ _ _ rfl rfl) ?_
     obtain ⟨v88, hl88, hrow88, hv88⟩ := at_load1 Ag87 Sz87 rfl rfl hb87
     obtain ⟨a88, n88, c88, rfl⟩ := rs_sl hv88
     refine pl_yes (.slice a88 n88 c88) (tg := 33) (by kernel_rfl) (congrArg Value.bool hc85) (y_load rfl (hl88 _ (Chg.refl _ _))) ?_
     refine pl_yes (.int .i64 k76) (tg := 33) (by kernel_rfl) (congrArg Value.bool hc85) (y_move rfl) ?_
     obtain ⟨x90, hx90, hs⟩ := bind_some hs
     obtain ⟨fr91, hrr91, hfr91, _, _⟩ := os_put hg87 hv6x0 hx86 hrow88 rfl hO.inM
     obtain ⟨g91, f91, hg91, hk91, hp91, ha91, hf91⟩ := os_idx Sl87 Sz4 (show (RT.os 4 RT.bool).val M w75 (.slice a88 n88 c88) _ fr91 from ⟨[_], rfl, hrr91⟩) hx90
     refine pl_yes (.pointer (some ⟨g91, 0 + Int.toNat k76 * 1, none⟩)) (tg := 33) (by kernel_rfl) (congrArg Value.bool hc85) (hp91 _ _ _ _ _ _ _ _ _ rfl rfl) ?_
     refine pl_yes (.bool x90) (tg := 33) (by kernel_rfl) (congrArg Value.bool hc85) (y_load rfl ((at_load_bool Ag4 Sz4 ha91) _ (Chg.refl _ _))) ?_
     refine pl_yes (.bool (!x90)) (tg := 33) (by kernel_rfl) (congrArg Value.bool hc85) (y_not rfl) ?_
     refine pl_val (.bool (!x90)) (y_pick_t (congrArg Value.bool hc85) rfl) ?_
     refine c_nil ?_
     cases hs
     exact ⟨_, fr_ovl 48 ⟨rfl, rfl, rfl, rfl, rfl, rfl, rfl, rfl, rfl, rfl, trivial⟩, hMid⟩
    ·skip
     refine pl_not (tg := 33) (by kernel_rfl) (congrArg Value.bool hc85) ?_
     refine pl_not (tg := 33) (by kernel_rfl) (congrArg Value.bool hc85) ?_
     refine pl_not (tg := 33) (by kernel_rfl) (congrArg Value.bool hc85) ?_
     refine pl_not (tg := 33) (by kernel_rfl) (congrArg Value.bool hc85) ?_
     refine pl_not (tg := 33) (by kernel_rfl) (congrArg Value.bool hc85) ?_
     refine pl_not (tg := 33) (by kernel_rfl) (congrArg Value.bool hc85) ?_
     refine pl_not (tg := 33) (by kernel_rfl) (congrArg Value.bool hc85) ?_
     refine pl_not (tg := 33) (by kernel_rfl) (congrArg Value.bool hc85) ?_
     refine pl_val (.bool false) (y_pick_f (congrArg Value.bool hc85) rfl) ?_
     refine c_nil ?_
     cases hs
     exact ⟨_, fr_ovl 48 ⟨rfl, rfl, rfl, rfl, rfl, rfl, rfl, rfl, rfl, rfl, trivial⟩, hMid⟩
   ·rintro a1 w83 ⟨σ, rfl, hCs82⟩
    have hv3x0 := hv3x0.ext hCs82
    have hv6x0 := hv6x0.ext hCs82
    have hv57 := hv57.ext hCs82
    have hC := hC.ext hCs82
    have hO := hO.ext hCs82
    rcases bif_some hs with ⟨hc92, hs⟩ | ⟨hc92, hs⟩
    ·skip
     refine c_condT (congrArg Value.bool hc92) ?_
     refine c_seq (c_region ?_)
     refine pl_val (.int .i64 k51) (y_move rfl) ?_
     refine pl_val (.int .i64 k76) (y_move rfl) ?_
     obtain ⟨w93, g93, ew93, eg93, hC93, hb93⟩ := new_block w83 [(.int .i64 k51), (.int .i64 k76)] 3
     refine pl_val (w' := w93) (.slice (some ⟨g93, 0, none⟩) 2 2) (y_bslice rfl (by rw [ew93, eg93]; kernel_rfl)) ?_
     have hv3x0 := hv3x0.ext hC93
     have hv6x0 := hv6x0.ext hC93
     have hv57 := hv57.ext hC93
     have hC := hC.ext hC93
     have hO := hO.new1 hC93 eg93 hb93.lt
     have hv93 := os_of_box (r := (RT.int .i64)) (M := M) (css := [[(.int .i64 k51)], [(.int .i64 k76)]]) (fps := [([] : List Nat), ([] : List Nat)]) (xs := ([k51, k76] : List Int)) hb93 ⟨⟨rfl, rfl⟩, ⟨⟨rfl, rfl⟩, trivial⟩⟩ (Nat.le_of_ble_eq_true rfl) (List.nodup_cons.2 ⟨(fun h => nomatch h), List.nodup_nil⟩)
     have hv93 : (RT.os 3 (RT.int .i64)).val M w93 (.slice (some ⟨g93, 0, none⟩) 2 2) [k51, k76] [g93] := hv93
     refine pl_val (.slice (some ⟨g93, 0, none⟩) 2 2) (y_assign rfl) ?_
     refine pl_val (.bool true) (y_assign rfl) ?_
     refine c_nil ?_
     refine wp_ret ?_
     cases hs
     have hO := hO.fr1
     have hO := hO.drop
     have hO := hO.fr1
     have hO := hO.drop
     exact ⟨_, (some ⟨g93, 0, none⟩), 2, 2, ([g93]), fr_ovl 48 ⟨rfl, rfl, trivial⟩, hC, hv93, hO.top⟩
    ·skip
     refine c_condF (congrArg Value.bool hc92) ?_
     refine wp_skip ?_
     refine c_region ?_
     refine pl_val (.int .i64 (w64 (k76 + 1))) (y_add rfl rfl) ?_
     refine pl_val (.int .i64 (w64 (k76 + 1))) (y_move rfl) ?_
     refine c_nil ?_
     cases hs
     have hO := hO.fr1
     have hO := hO.fr1
     exact ⟨_, fr_ovl 48 ⟨rfl, rfl, rfl, rfl, rfl, rfl, rfl, congrArg (Value.int .i64) hw, trivial⟩, hC, hO, hv3x0, hv6x0, hv57⟩
  ·skip
   have hO := hO.fr1
   have hO := hO.fr1
   exact ⟨_, fr_ovl 48 ⟨rfl, rfl, rfl, rfl, rfl, rfl, rfl, rfl, trivial⟩, hC, hO, hv3x0, hv6x0, hv57⟩
  ·cases o78 with
   | nx _ => exact True.intro
   | rt r_ =>
    have hs := after_rt hs
    intro a1 w1 hK
    cases hs
    exact hK
   | br s74 =>
    have hs := after_br hs
    rintro a1 w75 ⟨σ, rfl, hC, hO, hv3x0, hv6x0, hv57⟩
    refine c_region ?_
    refine pl_val (.int .i64 (w64 (k51 + 1))) (y_add rfl rfl) ?_
    refine pl_val (.int .i64 (w64 (k51 + 1))) (y_move rfl) ?_
    refine c_nil ?_
    cases hs
    have hO := hO.fr1
    have hO := hO.fr1
    exact ⟨_, fr_ovl 48 ⟨rfl, rfl, rfl, congrArg (Value.int .i64) hw, trivial⟩, hC, hO, hv3x0, hv6x0⟩
 ·skip
  have hO := hO.fr1
  have hO := hO.fr1
  exact ⟨_, fr_ovl 48 ⟨rfl, rfl, rfl, rfl, trivial⟩, hC, hO, hv3x0, hv6x0⟩
 ·cases o53 with
  | nx _ => exact True.intro
  | rt r_ =>
   have hs := after_rt hs
   intro a1 w1 hK
   cases hs
   exact hK
  | br s49 =>
   have hs := after_br hs
   rintro a1 w50 ⟨σ, rfl, hC, hO, hv3x0, hv6x0⟩
   refine c_seq (c_region ?_)
   refine pl_val (.slice none 0 0) (y_assign rfl) ?_
   refine pl_val (.bool false) (y_assign rfl) ?_
   refine c_nil ?_
   refine wp_ret ?_
   cases hs
   have hO := hO.drop
   have hO := hO.drop
   have hO := hO.nil
   exact ⟨_, none, 0, 0, [], fr_ovl 48 ⟨rfl, rfl, trivial⟩, hC, os_nil, hO.top⟩

theorem Bd56 : Bodied Tryz.prog 56 := bodied Tryz.func56 (by kernel_rfl) rfl

def k_impl_permute (M : Nat → Prop) (w0 : World) (r : Bool) (a : Act) (w : World) : Prop :=
  ∃ (σ : Nat → Value) , a = fr 15 (ovl σ [(4, (.bool r))]) ∧ Chg [] w0 w
def s_impl_permute (p : List Int) (q : List Int) : Option (Bool) :=
  (s_impl_unpermuted p q).bind fun r4 =>
  some (!r4.2)
set_option maxHeartbeats 4000000 in
theorem c_impl_permute {M : Nat → Prop} {w : World} {pa0 : Option Addr} {pn0 pc0 : Nat} {pa1 : Option Addr} {pn1 pc1 : Nat} (p : List Int) (q : List Int) (h0 : (RT.rs (RT.int .i64)).val M w (.slice pa0 pn0 pc0) p ([])) (h1 : (RT.rs (RT.int .i64)).val M w (.slice pa1 pn1 pc1) q ([])) (hM : ∀ g, w.heap.size ≤ g → M g) {r : Bool} (hs : s_impl_permute p q = some r) :
    Gives Tryz.prog 29 [(.slice pa0 pn0 pc0), (.slice pa1 pn1 pc1)] w (fun v w' => v = (.bool r) ∧ Chg [] w w') := by
 refine calls_fr Tryz.func29 rfl Tryz.ntmps29 (Nat.le_of_ble_eq_true rfl) ?_
 have hO := Own.start (N := Nw w []) hM Nw.fut
 have hC := Chg.refl [] w
 unfold s_impl_permute at hs
 refine wp_mono (Q := KPost (k_impl_permute M w r)) ?_ (fun e a w1 h => ?_)
 rotate_left
 ·cases e
  case ret =>
   obtain ⟨σ, rfl, hrest⟩ := h
   exact ret1x Tryz.results29 (res_tmp rfl) ⟨rfl, hrest⟩
  all_goals exact (h : False).elim
 refine c_seq (c_region ?_)
 refine pl_val (.bool false) (y_assign rfl) ?_
 refine c_nil ?_
 refine c_seq (c_region ?_)
 refine pl_val (.slice pa0 pn0 pc0) (y_move rfl) ?_
 refine pl_val (.slice pa1 pn1 pc1) (y_move rfl) ?_
 obtain ⟨r4, hr4, hs⟩ := bind_some hs
 refine pl_call Bd56 rfl (c_impl_unpermuted (M := M) p q h0 h1 hO.fut hr4) ?_
 rintro _ w3 ⟨a3x0, n3x0, c3x0, f3x0, rfl, hC3, hv3x0, hOc3⟩
 have h0 := h0.ext hC3
 have h1 := h1.ext hC3
 have hC := hC.ext hC3
 have hO := Own.join0 hO hC3 hOc3
 have hO := hO.perm (R := f3x0 ++ ([])) (by simp)
 refine pl_val (.tuple #[(.slice a3x0 n3x0 c3x0), (.bool r4.2)]) (y_move rfl) ?_
 refine pl_val (.slice a3x0 n3x0 c3x0) (y_extract rfl (by kernel_rfl)) ?_
 refine pl_val (.bool r4.2) (y_extract rfl (by kernel_rfl)) ?_
 refine pl_val (.slice a3x0 n3x0 c3x0) (y_assign rfl) ?_
 refine pl_val (.bool r4.2) (y_assign rfl) ?_
 refine c_nil ?_
 refine c_seq (c_region ?_)
 refine pl_val (.bool r4.2) (y_move rfl) ?_
 refine pl_val (.bool (!r4.2)) (y_not rfl) ?_
 refine pl_val (.bool (!r4.2)) (y_assign rfl) ?_
 refine c_nil ?_
 refine wp_ret ?_
 cases hs
 exact ⟨_, fr_ovl 15 ⟨rfl, trivial⟩, hC⟩

theorem Bd29 : Bodied Tryz.prog 29 := bodied Tryz.func29 (by kernel_rfl) rfl

def k_impl_pairApart (M : Nat → Prop) (w0 : World) (r : (List Int) × (List Int) × Bool) (a : Act) (w : World) : Prop :=
  ∃ (σ : Nat → Value) (ra0 : Option Addr) (rn0 rc0 : Nat) (ra1 : Option Addr) (rn1 rc1 : Nat), a = fr 33 (ovl σ [(2, (.slice ra0 rn0 rc0)), (3, (.slice ra1 rn1 rc1)), (4, (.bool r.2.2))]) ∧ Chg [] w0 w ∧ (RT.rs (RT.int .i64)).val (Past M w0 w) w (.slice ra0 rn0 rc0) r.1 [] ∧ (RT.rs (RT.int .i64)).val (Past M w0 w) w (.slice ra1 rn1 rc1) r.2.1 []
def s_impl_pairApart (all : List (List Int)) : Option ((List Int) × (List Int) × Bool) :=
  (forC (S := Unit) (R := (List Int) × (List Int) × Bool) (fun k29 s27 =>
  (idx all k29).bind fun x33 =>
  (slc all (w64 (k29 + 1)) (all.length : Int)).bind fun y38 =>
  (forR (S := Unit) (R := (List Int) × (List Int) × Bool) (fun _ x49 s46 =>
  (s_impl_permute x33 x49).bind fun r56 =>
  (bif (!r56) then some (.rt (x33, x49, true)) else some (.nx ()))) 0 y38 ()).bind fun o50 => after o50 (fun r_ => some (.rt r_)) (fun s46 =>
  some (.nx ()))) 0 (all.length : Int) ()).bind fun o31 => after o31 (fun r_ => some r_) (fun s27 =>
  some ([], [], false))
set_option maxHeartbeats 4000000 in
theorem c_impl_pairApart {M : Nat → Prop} {w : World} {pa0 : Option Addr} {pn0 pc0 : Nat} (all : List (List Int)) (h0 : (RT.rs (RT.rs (RT.int .i64))).val M w (.slice pa0 pn0 pc0) all ([])) (hM : ∀ g, w.heap.size ≤ g → M g) {r : (List Int) × (List Int) × Bool} (hs : s_impl_pairApart all = some r) :
    Gives Tryz.prog 39 [(.slice pa0 pn0 pc0)] w (fun v w' => ∃ (ra0 : Option Addr) (rn0 rc0 : Nat) (ra1 : Option Addr) (rn1 rc1 : Nat), v = (.tuple #[(.slice ra0 rn0 rc0), (.slice ra1 rn1 rc1), (.bool r.2.2)]) ∧ Chg [] w w' ∧ (RT.rs (RT.int .i64)).val (Past M w w') w' (.slice ra0 rn0 rc0) r.1 [] ∧ (RT.rs (RT.int .i64)).val (Past M w w') w' (.slice ra1 rn1 rc1) r.2.1 []) := by
 refine calls_fr Tryz.func39 rfl Tryz.ntmps39 (Nat.le_of_ble_eq_true rfl) ?_
 have hO := Own.start (N := Nw w []) hM Nw.fut
 have hC := Chg.refl [] w
 unfold s_impl_pairApart at hs
 refine wp_mono (Q := KPost (k_impl_pairApart M w r)) ?_ (fun e a w1 h => ?_)
 rotate_left
 ·cases e
  case ret =>
   obtain ⟨σ, ra0, rn0, rc0, ra1, rn1, rc1, rfl, hrest⟩ := h
   exact ret3x Tryz.results39 (res_tmp rfl) (res_tmp rfl) (res_tmp rfl) ⟨ra0, rn0, rc0, ra1, rn1, rc1, rfl, hrest⟩
  all_goals exact (h : False).elim
 refine c_seq (c_region ?_)
 refine pl_val (.slice none 0 0) (y_assign rfl) ?_
 refine pl_val (.slice none 0 0) (y_assign rfl) ?_
 refine pl_val (.bool false) (y_assign rfl) ?_
 refine c_nil ?_
 refine c_seq ?_
 refine c_seq (c_region ?_)
 refine pl_val (.slice pa0 pn0 pc0) (y_move rfl) ?_
 refine pl_val (.int .i64 (all.length : Int)) (y_len' Sl43 (rs_len h0) rfl) ?_
 refine pl_val (.int .i64 0) (y_move rfl) ?_
 refine c_nil ?_
 obtain ⟨o31, hl32, hs⟩ := bind_some hs
 refine wp_block ?_
 refine wp_forC (id := 0) (all.length : Int) (I := fun k29 s27 a w28 => ∃ (σ : Nat → Value), a = fr 33 (ovl σ [(0, (.slice pa0 pn0 pc0)), (9, (.slice pa0 pn0 pc0)), (10, (.int .i64 (all.length : Int))), (11, (.int .i64 k29))]) ∧ Chg [] w w28 ∧ Own (Nw w []) M w28 ([]) ∧ (RT.rs (RT.rs (RT.int .i64))).val M w28 (.slice pa0 pn0 pc0) all ([])) (J := fun s27 a w28 => ∃ (σ : Nat → Value), a = fr 33 (ovl σ []) ∧ Chg [] w w28 ∧ Own (Nw w []) M w28 ([]) ∧ (RT.rs (RT.rs (RT.int .i64))).val M w28 (.slice pa0 pn0 pc0) all ([])) (K := (k_impl_pairApart M w)) ?_ ?_ 0 () o31 _ _ ?_ hl32 ?_
 ·rintro k29 s27 a w28 ⟨σ, rfl, hC, hO, h0⟩ hlt
  refine c_seq (c_region ?_)
  refine pl_val (.bool (decide (k29 < (all.length : Int)))) (y_lss rfl rfl) ?_
  refine c_nil ?_
  refine c_seq ?_
  refine c_condF (congrArg Value.bool (decide_eq_false hlt)) ?_
  refine wp_exit ?_
  exact ⟨rfl, _, fr_ovl 33 trivial, hC, hO, h0⟩
 ·rintro k29 s27 o31 a w28 ⟨σ, rfl, hC, hO, h0⟩ hlt hw hs
  refine c_seq (c_region ?_)
  refine pl_val (.bool (decide (k29 < (all.length : Int)))) (y_lss rfl rfl) ?_
  refine c_nil ?_
  refine c_seq ?_
  refine c_condT (congrArg Value.bool (decide_eq_true hlt)) ?_
  refine wp_skip ?_
  refine c_seq ?_
  refine wp_block ?_
  refine c_seq (c_region ?_)
  refine pl_val (.int .i64 k29) (y_move rfl) ?_
  obtain ⟨x33, hx33, hs⟩ := bind_some hs
  obtain ⟨b34, o34, hp34, ha34⟩ := rs_idx Sl43 Sz47 h0 hx33
  refine pl_val (.pointer (some ⟨b34, o34, none⟩)) (hp34 _ _ _ _ _ _ _ _ _ rfl rfl) ?_
  obtain ⟨v35, hl35, hv35⟩ := at_load Ag47 Sz47 (fun _ => rfl) ha34
  obtain ⟨a35, n35, c35, rfl⟩ := rs_sl hv35
  refine pl_val (.slice a35 n35 c35) (y_load rfl (hl35 _ (Chg.refl _ _))) ?_
  refine pl_val (.int .i64 k29) (y_assign rfl) ?_
  refine pl_val (.slice a35 n35 c35) (y_assign rfl) ?_
  refine c_nil ?_
  refine c_seq (c_region ?_)
  refine pl_val (.slice pa0 pn0 pc0) (y_move rfl) ?_
  refine pl_val (.int .i64 k29) (y_move rfl) ?_
  refine pl_val (.int .i64 (w64 (k29 + 1))) (y_add rfl rfl) ?_
  obtain ⟨y38, hy38, hs⟩ := bind_some hs
  obtain ⟨a37, n37, c37, hv37, hr37, hq37, hz37⟩ := rs_part Tryz.underlying43 Sz47 h0 hy38
  refine pl_val (.slice a37 n37 c37) (y_slice rfl rfl rfl (hz37 rfl _)) ?_
  refine pl_val (.int .i64 (y38.length : Int)) (y_len' Sl43 (rs_len hv37) rfl) ?_
  refine pl_val (.int .i64 0) (y_move rfl) ?_
  refine c_nil ?_
  obtain ⟨o50, hl51, hs⟩ := bind_some hs
  refine wp_block ?_
  refine wp_forR (id := 2) (I := fun i_ xs_ s46 a w47 => ∃ k48 : Nat, i_ = (k48 : Int) ∧ List.drop k48 y38 = xs_ ∧ (∃ (σ : Nat → Value), a = fr 33 (ovl σ [(0, (.slice pa0 pn0 pc0)), (6, (.slice a35 n35 c35)), (9, (.slice pa0 pn0 pc0)), (10, (.int .i64 (all.length : Int))), (11, (.int .i64 k29)), (19, (.slice a37 n37 c37)), (20, (.int .i64 (y38.length : Int))), (21, (.int .i64 (k48 : Int)))]) ∧ Chg [] w w47 ∧ Own (Nw w []) M w47 ([]) ∧ (RT.rs (RT.rs (RT.int .i64))).val M w47 (.slice pa0 pn0 pc0) all ([]) ∧ (RT.rs (RT.int .i64)).val M w47 (.slice a35 n35 c35) x33 ([]) ∧ (RT.rs (RT.rs (RT.int .i64))).val M w47 (.slice a37 n37 c37) y38 ([]))) (J := fun s46 a w47 => ∃ (σ : Nat → Value), a = fr 33 (ovl σ [(0, (.slice pa0 pn0 pc0)), (9, (.slice pa0 pn0 pc0)), (10, (.int .i64 (all.length : Int))), (11, (.int .i64 k29))]) ∧ Chg [] w w47 ∧ Own (Nw w []) M w47 ([]) ∧ (RT.rs (RT.rs (RT.int .i64))).val M w47 (.slice pa0 pn0 pc0) all ([]) ∧ (RT.rs (RT.int .i64)).val M w47 (.slice a35 n35 c35) x33 ([]) ∧ (RT.rs (RT.rs (RT.int .i64))).val M w47 (.slice a37 n37 c37) y38 ([])) (K := (k_impl_pairApart M w)) ?_ ?_ y38 0 () o50 _ _ ?_ hl51 ?_
  ·rintro _ s46 a w47 ⟨k48, rfl, hd, σ, rfl, hC, hO, h0, hv35, hv37⟩
   have hlt := drop_nil_ge hd
   refine c_seq (c_region ?_)
   refine pl_val (.bool (decide ((k48 : Int) < (y38.length : Int)))) (y_lss rfl rfl) ?_
   refine c_nil ?_
   refine c_seq ?_
   refine c_condF (congrArg Value.bool (decide_eq_false hlt)) ?_
   refine wp_exit ?_
   exact ⟨rfl, _, fr_ovl 33 ⟨rfl, rfl, rfl, rfl, trivial⟩, hC, hO, h0, hv35, hv37⟩
  ·rintro _ x49 xs_ s46 o50 a w47 ⟨k48, rfl, hd, σ, rfl, hC, hO, h0, hv35, hv37⟩ hs
   have hlt := drop_cons_lt hd
   have hxk48 := drop_cons_idx hd
   refine c_seq (c_region ?_)
   refine pl_val (.bool (decide ((k48 : Int) < (y38.length : Int)))) (y_lss rfl rfl) ?_
   refine c_nil ?_
   refine c_seq ?_
   refine c_condT (congrArg Value.bool (decide_eq_true hlt)) ?_
   refine wp_skip ?_
   refine c_seq ?_
   refine wp_block ?_
   refine c_seq (c_region ?_)
   obtain ⟨b52, o52, hp52, ha52⟩ := rs_idx Sl43 Sz47 hv37 hxk48
   refine pl_val (.pointer (some ⟨b52, o52, none⟩)) (hp52 _ _ _ _ _ _ _ _ _ rfl rfl) ?_
   obtain ⟨v53, hl53, hv53⟩ := at_load Ag47 Sz47 (fun _ => rfl) ha52
   obtain ⟨a53, n53, c53, rfl⟩ := rs_sl hv53
   refine pl_val (.slice a53 n53 c53) (y_load rfl (hl53 _ (Chg.refl _ _))) ?_
   refine pl_val (.slice a53 n53 c53) (y_assign rfl) ?_
   refine c_nil ?_
   refine c_seq (c_region ?_)
   refine pl_val (.slice a35 n35 c35) (y_move rfl) ?_
   refine pl_val (.slice a53 n53 c53) (y_move rfl) ?_
   obtain ⟨r56, hr56, hs⟩ := bind_some hs
   refine pl_call Bd29 rfl (c_impl_permute (M := M) x33 x49 hv35 hv53 hO.fut hr56) ?_
   rintro _ w55 ⟨rfl, hC55⟩
   have h0 := h0.ext hC55
   have hv35 := hv35.ext hC55
   have hv37 := hv37.ext hC55
   have hv53 := hv53.ext hC55
   have hC := hC.ext hC55
   have hO := hO.ext hC55
   refine pl_val (.bool (!r56)) (y_not rfl) ?_
   refine c_nil ?_
   rcases bif_some hs with ⟨hc57, hs⟩ | ⟨hc57, hs⟩
   ·skip
    refine c_condT (congrArg Value.bool hc57) ?_
    refine c_seq (c_region ?_)
    refine pl_val (.slice a35 n35 c35) (y_move rfl) ?_
    refine pl_val (.slice a53 n53 c53) (y_move rfl) ?_
    refine pl_val (.slice a35 n35 c35) (y_assign rfl) ?_
    refine pl_val (.slice a53 n53 c53) (y_assign rfl) ?_
    refine pl_val (.bool true) (y_assign rfl) ?_
    refine c_nil ?_
    refine wp_ret ?_
    cases hs
    exact ⟨_, a35, n35, c35, a53, n53, c53, fr_ovl 33 ⟨rfl, rfl, rfl, trivial⟩, hC, (Keeps.out Keeps.refl hv35), (Keeps.out Keeps.refl hv53)⟩
   ·skip
    refine c_condF (congrArg Value.bool hc57) ?_
    refine wp_skip ?_
    refine c_region ?_
    refine pl_val (.int .i64 (w64 ((k48 : Int) + 1))) (y_add rfl rfl) ?_
    refine pl_val (.int .i64 (w64 ((k48 : Int) + 1))) (y_move rfl) ?_
    refine c_nil ?_
    cases hs
    exact ⟨_, rfl, drop_cons_next hd, _, fr_ovl 33 ⟨rfl, rfl, rfl, rfl, rfl, rfl, rfl, congrArg (Value.int .i64) (w64_succ hlt (Int.natCast_nonneg _) (rs_max hv37)), trivial⟩, hC, hO, h0, hv35, hv37⟩
  ·skip
   exact ⟨0, rfl, rfl, _, fr_ovl 33 ⟨rfl, rfl, rfl, rfl, rfl, rfl, rfl, rfl, trivial⟩, hC, hO, h0, hv35, hv37⟩
  ·cases o50 with
   | nx _ => exact True.intro
   | rt r_ =>
    have hs := after_rt hs
    intro a1 w1 hK
    cases hs
    exact hK
   | br s46 =>
    have hs := after_br hs
    rintro a1 w47 ⟨σ, rfl, hC, hO, h0, hv35, hv37⟩
    refine c_region ?_
    refine pl_val (.int .i64 (w64 (k29 + 1))) (y_add rfl rfl) ?_
    refine pl_val (.int .i64 (w64 (k29 + 1))) (y_move rfl) ?_
    refine c_nil ?_
    cases hs
    exact ⟨_, fr_ovl 33 ⟨rfl, rfl, rfl, congrArg (Value.int .i64) hw, trivial⟩, hC, hO, h0⟩
 ·skip
  exact ⟨_, fr_ovl 33 ⟨rfl, rfl, rfl, rfl, trivial⟩, hC, hO, h0⟩
 ·cases o31 with
  | nx _ => exact True.intro
  | rt r_ =>
   have hs := after_rt hs
   intro a1 w1 hK
   cases hs
   exact hK
  | br s27 =>
   have hs := after_br hs
   rintro a1 w28 ⟨σ, rfl, hC, hO, h0⟩
   refine c_seq (c_region ?_)
   refine pl_val (.slice none 0 0) (y_assign rfl) ?_
   refine pl_val (.slice none 0 0) (y_assign rfl) ?_
   refine pl_val (.bool false) (y_assign rfl) ?_
   refine c_nil ?_
   refine wp_ret ?_
   cases hs
   exact ⟨_, none, 0, 0, none, 0, 0, fr_ovl 33 ⟨rfl, rfl, rfl, trivial⟩, hC, rs_nil, rs_nil⟩

theorem Bd27 : Bodied Tryz.prog 27 := bodied Tryz.func27 (by kernel_rfl) rfl

theorem Bd39 : Bodied Tryz.prog 39 := bodied Tryz.func39 (by kernel_rfl) rfl

def k_impl_ArePermutable (M : Nat → Prop) (w0 : World) (r : Bool × Bool) (a : Act) (w : World) : Prop :=
  ∃ (σ : Nat → Value) , a = fr 24 (ovl σ [(2, (.bool r.1)), (3, (.bool r.2))]) ∧ Chg [] w0 w
def s_impl_ArePermutable (a_ : Int × (List (Int × (List Int)))) : Option (Bool × Bool) :=
  (s_impl_fewCongruences (a_.1, a_.2)).bind fun r4 =>
  (bif (!r4.2) then some (false, false) else (s_impl_pairApart r4.1).bind fun r9 =>
  some ((!r9.2.2), true))
set_option maxHeartbeats 4000000 in
theorem c_impl_ArePermutable {M : Nat → Prop} {w : World} {pa0 : Option Addr} {pn0 pc0 : Nat} (a_ : Int × (List (Int × (List Int)))) (h0 : (RT.rs (RT.pr (RT.int .i64) (RT.rs (RT.int .i64)))).val M w (.slice pa0 pn0 pc0) a_.2 ([])) (hM : ∀ g, w.heap.size ≤ g → M g) {r : Bool × Bool} (hs : s_impl_ArePermutable a_ = some r) :
    Gives Tryz.prog 20 [(.agg #[(.int .i64 a_.1), (.slice pa0 pn0 pc0)])] w (fun v w' => v = (.tuple #[(.bool r.1), (.bool r.2)]) ∧ Chg [] w w') := by
 refine calls_fr Tryz.func20 rfl Tryz.ntmps20 (Nat.le_of_ble_eq_true rfl) ?_
 have hO := Own.start (N := Nw w []) hM Nw.fut
 have hC := Chg.refl [] w
 unfold s_impl_ArePermutable at hs
 refine wp_mono (Q := KPost (k_impl_ArePermutable M w r)) ?_ (fun e a w1 h => ?_)
 rotate_left
 ·cases e
  case ret =>
   obtain ⟨σ, rfl, hrest⟩ := h
   exact ret2x Tryz.results20 (res_tmp rfl) (res_tmp rfl) ⟨rfl, hrest⟩
  all_goals exact (h : False).elim
 refine c_seq (c_region ?_)
 obtain ⟨w2, g2, ew2, eg2, hC2, hb2⟩ := new_block w [(.int .i64 a_.1), (.slice pa0 pn0 pc0)] 30
 refine pl_val (w' := w2) (.pointer (some ⟨g2, 0, none⟩)) (y_box rfl (by rw [ew2, eg2]; kernel_rfl)) ?_
 have h0 := h0.ext hC2
 have hC := hC.ext hC2
 have hO := hO.new1 hC2 eg2 hb2.lt
 refine pl_val (.bool false) (y_assign rfl) ?_
 refine pl_val (.bool false) (y_assign rfl) ?_
 refine c_nil ?_
 refine c_seq (c_region ?_)
 refine pl_val (.agg #[(.int .i64 a_.1), (.slice pa0 pn0 pc0)]) (y_load rfl ((box_load Ag30 Sz30 hb2 [] [(.int .i64 a_.1), (.slice pa0 pn0 pc0)] [] rfl rfl (fun h => nomatch h)) _ (Chg.refl _ _))) ?_
 obtain ⟨r4, hr4, hs⟩ := bind_some hs
 refine pl_call Bd27 rfl (c_impl_fewCongruences (M := M) (a_.1, a_.2) h0 hO.fut hr4) ?_
 rintro _ w3 ⟨a3x0, n3x0, c3x0, f3x0, rfl, hC3, hv3x0, hOc3⟩
 have h0 := h0.ext hC3
 have hb2 := hb2.chg hC3 (fun h => nomatch h)
 have hC := hC.ext hC3
 have hO := Own.join0 hO hC3 hOc3
 have hO := hO.perm (R := f3x0 ++ (([g2]) ++ ([]))) (by simp)
 refine pl_val (.tuple #[(.slice a3x0 n3x0 c3x0), (.bool r4.2)]) (y_move rfl) ?_
 refine pl_val (.slice a3x0 n3x0 c3x0) (y_extract rfl (by kernel_rfl)) ?_
 refine pl_val (.bool r4.2) (y_extract rfl (by kernel_rfl)) ?_
 refine pl_val (.slice a3x0 n3x0 c3x0) (y_assign rfl) ?_
 refine pl_val (.bool r4.2) (y_assign rfl) ?_
 refine c_nil ?_
 refine c_seq ?_
 refine c_seq (c_region ?_)
 refine pl_val (.bool r4.2) (y_move rfl) ?_
 refine pl_val (.bool (!r4.2)) (y_not rfl) ?_
 refine c_nil ?_
 rcases bif_some hs with ⟨hc6, hs⟩ | ⟨hc6, hs⟩
 ·skip
  refine c_condT (congrArg Value.bool hc6) ?_
  refine c_seq (c_region ?_)
  refine pl_val (.bool false) (y_assign rfl) ?_
  refine pl_val (.bool false) (y_assign rfl) ?_
  refine c_nil ?_
  refine wp_ret ?_
  cases hs
  exact ⟨_, fr_ovl 24 ⟨rfl, rfl, trivial⟩, hC⟩
 ·skip
  refine c_condF (congrArg Value.bool hc6) ?_
  refine wp_skip ?_
  refine c_seq (c_region ?_)
  refine pl_val (.slice a3x0 n3x0 c3x0) (y_move rfl) ?_
  obtain ⟨M8, eM8, hs8, hk8, hO, hv8⟩ := frz_own (Frz.os (Frz.os Frz.int)) hv3x0 hO
  have hK := hk8
  obtain ⟨r9, hr9, hs⟩ := bind_some hs
  refine pl_call Bd39 rfl (c_impl_pairApart (M := M8) r4.1 hv8 hO.fut hr9) ?_
  rintro _ w7 ⟨a7x0, n7x0, c7x0, a7x1, n7x1, c7x1, rfl, hC7, hv7x0, hv7x1⟩
  have hK := hK.trans (show Keeps w M8 (Past M8 w3 w7) from Keeps.past hC.size)
  have hb2 := hb2.chg hC7 (fun h => nomatch h)
  have hv8 := hv8.ext hC7
  have hC := hC.ext hC7
  have hO := hO.past hC7
  have hv8 := hv8.sub (M' := (Past M8 w3 w7)) (fun g hg => .inl hg.1)
  refine pl_val (.tuple #[(.slice a7x0 n7x0 c7x0), (.slice a7x1 n7x1 c7x1), (.bool r9.2.2)]) (y_move rfl) ?_
  refine pl_val (.slice a7x0 n7x0 c7x0) (y_extract rfl (by kernel_rfl)) ?_
  refine pl_val (.slice a7x1 n7x1 c7x1) (y_extract rfl (by kernel_rfl)) ?_
  refine pl_val (.bool r9.2.2) (y_extract rfl (by kernel_rfl)) ?_
  refine pl_val (.slice a7x0 n7x0 c7x0) (y_assign rfl) ?_
  refine pl_val (.slice a7x1 n7x1 c7x1) (y_assign rfl) ?_
  refine pl_val (.bool r9.2.2) (y_assign rfl) ?_
  refine c_nil ?_
  refine c_seq (c_region ?_)
  refine pl_val (.bool r9.2.2) (y_move rfl) ?_
  refine pl_val (.bool (!r9.2.2)) (y_not rfl) ?_
  refine pl_val (.bool (!r9.2.2)) (y_assign rfl) ?_
  refine pl_val (.bool true) (y_assign rfl) ?_
  refine c_nil ?_
  refine wp_ret ?_
  cases hs
  exact ⟨_, fr_ovl 24 ⟨rfl, rfl, trivial⟩, hC⟩

def k_impl_cloneRows (M : Nat → Prop) (w0 : World) (r : (List (List Int))) (a : Act) (w : World) : Prop :=
  ∃ (σ : Nat → Value) (ra0 : Option Addr) (rn0 rc0 : Nat) (rf0 : List Nat), a = fr 20 (ovl σ [(2, (.slice ra0 rn0 rc0))]) ∧ Chg [] w0 w ∧ (RT.os 47 (RT.os 3 (RT.int .i64))).val M w (.slice ra0 rn0 rc0) r rf0 ∧ Own (Nw w0 []) (fun _ => True) w (rf0 ++ ([]))
def s_impl_cloneRows (rows : List (List Int)) : Option ((List (List Int))) :=
  (forR (S := (List (List Int))) (R := (List (List Int))) (fun _ x20 s17 =>
  (s_impl_clone x20).bind fun r31 =>
  (app s17 ([r31])).bind fun y36 =>
  some (.nx y36)) 0 rows ([])).bind fun o21 => after o21 (fun r_ => some r_) (fun s17 =>
  some s17)
set_option maxHeartbeats 4000000 in
theorem c_impl_cloneRows {M : Nat → Prop} {w : World} {pa0 : Option Addr} {pn0 pc0 : Nat} (rows : List (List Int)) (h0 : (RT.rs (RT.rs (RT.int .i64))).val M w (.slice pa0 pn0 pc0) rows ([])) (hM : ∀ g, w.heap.size ≤ g → M g) {r : (List (List Int))} (hs : s_impl_cloneRows rows = some r) :
    Gives Tryz.prog 30 [(.slice pa0 pn0 pc0)] w (fun v w' => ∃ (ra0 : Option Addr) (rn0 rc0 : Nat) (rf0 : List Nat), v = (.slice ra0 rn0 rc0) ∧ Chg [] w w' ∧ (RT.os 47 (RT.os 3 (RT.int .i64))).val M w' (.slice ra0 rn0 rc0) r rf0 ∧ Own (Nw w []) (fun _ => True) w' (rf0 ++ ([]))) := by
 refine calls_fr Tryz.func30 rfl Tryz.ntmps30 (Nat.le_of_ble_eq_true rfl) ?_
 have hO := Own.start (N := Nw w []) hM Nw.fut
 have hC := Chg.refl [] w
 unfold s_impl_cloneRows at hs
 refine wp_mono (Q := KPost (k_impl_cloneRows M w r)) ?_ (fun e a w1 h => ?_)
 rotate_left
 ·cases e
  case ret =>
   obtain ⟨σ, ra0, rn0, rc0, rf0, rfl, hrest⟩ := h
   exact ret1x Tryz.results30 (res_tmp rfl) ⟨ra0, rn0, rc0, rf0, rfl, hrest⟩
  all_goals exact (h : False).elim
 refine c_seq (c_region ?_)
 refine pl_val (.slice none 0 0) (y_assign rfl) ?_
 refine c_nil ?_
 refine c_seq (c_region ?_)
 obtain ⟨w2, g2, ew2, eg2, hC2, hb2⟩ := new_block w [] 47
 refine pl_val (w' := w2) (.slice (some ⟨g2, 0, none⟩) 0 0) (y_bslice rfl (by rw [ew2, eg2]; kernel_rfl)) ?_
 have h0 := h0.ext hC2
 have hC := hC.ext hC2
 have hO := hO.new1 hC2 eg2 hb2.lt
 have hv2 := os_of_box (r := (RT.os 3 (RT.int .i64))) (M := M) (css := []) (fps := []) (xs := ([] : List (List Int))) hb2 trivial (Nat.zero_le _) (List.nodup_cons.2 ⟨(fun h => nomatch h), List.nodup_nil⟩)
 have hv2 : (RT.os 47 (RT.os 3 (RT.int .i64))).val M w2 (.slice (some ⟨g2, 0, none⟩) 0 0) [] [g2] := hv2
 refine pl_val (.slice (some ⟨g2, 0, none⟩) 0 0) (y_assign rfl) ?_
 refine c_nil ?_
 refine c_seq ?_
 refine c_seq (c_region ?_)
 refine pl_val (.slice pa0 pn0 pc0) (y_move rfl) ?_
 refine pl_val (.int .i64 (rows.length : Int)) (y_len' Sl43 (rs_len h0) rfl) ?_
 refine pl_val (.int .i64 0) (y_move rfl) ?_
 refine c_nil ?_
 obtain ⟨o21, hl22, hs⟩ := bind_some hs
 refine wp_block ?_
 refine wp_forR (id := 0) (I := fun i_ xs_ s17 a w18 => ∃ k19 : Nat, i_ = (k19 : Int) ∧ List.drop k19 rows = xs_ ∧ (∃ (σ : Nat → Value) (a23 : Option Addr) (n23 : Nat) (c23 : Nat) (f23 : List Nat), a = fr 20 (ovl σ [(3, (.slice a23 n23 c23)), (7, (.slice pa0 pn0 pc0)), (8, (.int .i64 (rows.length : Int))), (9, (.int .i64 (k19 : Int)))]) ∧ Chg [] w w18 ∧ Own (Nw w []) M w18 (f23 ++ []) ∧ (RT.rs (RT.rs (RT.int .i64))).val M w18 (.slice pa0 pn0 pc0) rows ([]) ∧ (RT.os 47 (RT.os 3 (RT.int .i64))).val M w18 (.slice a23 n23 c23) s17 f23)) (J := fun s17 a w18 => ∃ (σ : Nat → Value) (a25 : Option Addr) (n25 : Nat) (c25 : Nat) (f25 : List Nat), a = fr 20 (ovl σ [(3, (.slice a25 n25 c25))]) ∧ Chg [] w w18 ∧ Own (Nw w []) M w18 (f25 ++ []) ∧ (RT.rs (RT.rs (RT.int .i64))).val M w18 (.slice pa0 pn0 pc0) rows ([]) ∧ (RT.os 47 (RT.os 3 (RT.int .i64))).val M w18 (.slice a25 n25 c25) s17 f25) (K := (k_impl_cloneRows M w)) ?_ ?_ rows 0 ([]) o21 _ _ ?_ hl22 ?_
 ·rintro _ s17 a w18 ⟨k19, rfl, hd, σ, a23, n23, c23, f23, rfl, hC, hO, h0, hv23⟩
  have hlt := drop_nil_ge hd
  refine c_seq (c_region ?_)
  refine pl_val (.bool (decide ((k19 : Int) < (rows.length : Int)))) (y_lss rfl rfl) ?_
  refine c_nil ?_
  refine c_seq ?_
  refine c_condF (congrArg Value.bool (decide_eq_false hlt)) ?_
  refine wp_exit ?_
  exact ⟨rfl, _, a23, n23, c23, f23, fr_ovl 20 ⟨rfl, trivial⟩, hC, hO, h0, hv23⟩
 ·rintro _ x20 xs_ s17 o21 a w18 ⟨k19, rfl, hd, σ, a23, n23, c23, f23, rfl, hC, hO, h0, hv23⟩ hs
  have hlt := drop_cons_lt hd
  have hxk19 := drop_cons_idx hd
  refine c_seq (c_region ?_)
  refine pl_val (.bool (decide ((k19 : Int) < (rows.length : Int)))) (y_lss rfl rfl) ?_
  refine c_nil ?_
  refine c_seq ?_
  refine c_condT (congrArg Value.bool (decide_eq_true hlt)) ?_
  refine wp_skip ?_
  refine c_seq ?_
  refine wp_block ?_
  refine c_seq (c_region ?_)
  obtain ⟨b27, o27, hp27, ha27⟩ := rs_idx Sl43 Sz47 h0 hxk19
  refine pl_val (.pointer (some ⟨b27, o27, none⟩)) (hp27 _ _ _ _ _ _ _ _ _ rfl rfl) ?_
  obtain ⟨v28, hl28, hv28⟩ := at_load Ag47 Sz47 (fun _ => rfl) ha27
  obtain ⟨a28, n28, c28, rfl⟩ := rs_sl hv28
  refine pl_val (.slice a28 n28 c28) (y_load rfl (hl28 _ (Chg.refl _ _))) ?_
  refine pl_val (.slice a28 n28 c28) (y_assign rfl) ?_
  refine c_nil ?_
  refine c_region ?_
  refine pl_val (.slice a23 n23 c23) (y_move rfl) ?_
  refine pl_val (.slice a28 n28 c28) (y_move rfl) ?_
  obtain ⟨r31, hr31, hs⟩ := bind_some hs
  refine pl_call Bd57 rfl (c_impl_clone (M := M) x20 hv28 hO.fut hr31) ?_
  rintro _ w30 ⟨a30x0, n30x0, c30x0, f30x0, rfl, hC30, hv30x0, hOc30⟩
  have h0 := h0.ext hC30
  have hv23 := hv23.ext hC30
  have hv28 := hv28.ext hC30
  have hC := hC.ext hC30
  have hO := Own.join0 hO hC30 hOc30
  have hO := hO.perm (R := f30x0 ++ (f23 ++ ([]))) (by simp)
  obtain ⟨w33, g33, ew33, eg33, hC33, hb33⟩ := new_block w30 [(.slice a30x0 n30x0 c30x0)] 47
  refine pl_val (w' := w33) (.slice (some ⟨g33, 0, none⟩) 1 1) (y_bslice rfl (by rw [ew33, eg33]; kernel_rfl)) ?_
  have h0 := h0.ext hC33
  have hv23 := hv23.ext hC33
  have hv28 := hv28.ext hC33
  have hv30x0 := hv30x0.ext hC33
  have hC := hC.ext hC33
  have hO := hO.new1 hC33 eg33 hb33.lt
  have hO := hO.perm (R := (g33 :: ((f30x0) ++ ([]))) ++ (f23 ++ ([]))) (by simp)
  have hnd33 := hO.nd
  have hv33 := os_of_box (r := (RT.os 3 (RT.int .i64))) (M := M) (css := [[(.slice a30x0 n30x0 c30x0)]]) (fps := [(f30x0 : List Nat)]) (xs := ([r31] : List (List Int))) hb33 ⟨(os_unval hv30x0), trivial⟩ (Nat.le_of_ble_eq_true rfl) hnd33
  have hv33 : (RT.os 47 (RT.os 3 (RT.int .i64))).val M w33 (.slice (some ⟨g33, 0, none⟩) 1 1) [r31] (g33 :: ((f30x0) ++ ([]))) := hv33
  obtain ⟨y36, hy36, hs⟩ := bind_some hs
  have hO := hO.fr1
  obtain ⟨a35, n35, c35, w35, f35, hr35, hC35, hf35, hv35⟩ := app_os Rw43 hy36 hv23 hv33 hO.inM (fun g hg hq => hO.apart g hq (mem_l hg))
  have hG35 := os_block hv23
  refine pl_val (w' := w35) (.slice a35 n35 c35) (y_append rfl rfl (hr35 _)) ?_
  have hO := hO.fr1
  have hO := hO.fr1
  have h0 := h0.mut hC35 (fun g hg => hO.inM g (hG35 g hg)) (fun _ _ h => nomatch h)
  have hv28 := hv28.mut hC35 (fun g hg => hO.inM g (hG35 g hg)) (fun _ _ h => nomatch h)
  have hC := hC.step hC35 (fun g hg => hO.inN g (hG35 g hg))
  have hO := hO.eat hC35 hf35 (os_nodup hv35) hv35.fpl
  refine pl_val (.slice a35 n35 c35) (y_assign rfl) ?_
  refine c_nil ?_
  refine c_region ?_
  refine pl_val (.int .i64 (w64 ((k19 : Int) + 1))) (y_add rfl rfl) ?_
  refine pl_val (.int .i64 (w64 ((k19 : Int) + 1))) (y_move rfl) ?_
  refine c_nil ?_
  cases hs
  exact ⟨_, rfl, drop_cons_next hd, _, a35, n35, c35, f35, fr_ovl 20 ⟨rfl, rfl, rfl, congrArg (Value.int .i64) (w64_succ hlt (Int.natCast_nonneg _) (rs_max h0)), trivial⟩, hC, hO, h0, hv35⟩
 ·skip
  exact ⟨0, rfl, rfl, _, (some ⟨g2, 0, none⟩), 0, 0, ([g2]), fr_ovl 20 ⟨rfl, rfl, rfl, rfl, trivial⟩, hC, hO, h0, hv2⟩
 ·cases o21 with
  | nx _ => exact True.intro
  | rt r_ =>
   have hs := after_rt hs
   intro a1 w1 hK
   cases hs
   exact hK
  | br s17 =>
   have hs := after_br hs
   rintro a1 w18 ⟨σ, a25, n25, c25, f25, rfl, hC, hO, h0, hv25⟩
   refine c_seq (c_region ?_)
   refine pl_val (.slice a25 n25 c25) (y_move rfl) ?_
   refine pl_val (.slice a25 n25 c25) (y_assign rfl) ?_
   refine c_nil ?_
   refine wp_ret ?_
   cases hs
   exact ⟨_, a25, n25, c25, f25, fr_ovl 20 ⟨rfl, trivial⟩, hC, hv25, hO.top⟩

def k_impl_kernelOf (M : Nat → Prop) (w0 : World) (r : (List Int)) (a : Act) (w : World) : Prop :=
  ∃ (σ : Nat → Value) (ra0 : Option Addr) (rn0 rc0 : Nat) (rf0 : List Nat), a = fr 36 (ovl σ [(2, (.slice ra0 rn0 rc0))]) ∧ Chg [] w0 w ∧ (RT.os 3 (RT.int .i64)).val M w (.slice ra0 rn0 rc0) r rf0 ∧ Own (Nw w0 []) (fun _ => True) w (rf0 ++ ([]))
def s_impl_kernelOf (list : List Int) : Option ((List Int)) :=
  (mks (list.length : Int) (0 : Int)).bind fun y3 =>
  (forC (S := (List Int)) (R := (List Int)) (fun k153 s151 =>
  (idx s151 k153).bind fun x159 =>
  (iter (S := (List Int)) (R := (List Int)) (fun s203 =>
  (idx s203 k153).bind fun x219 =>
  (idx list x219).bind fun x221 =>
  (idx list k153).bind fun x223 =>
  (bif (x221 != x223) then (idx s203 k153).bind fun x226 =>
  (idx s203 k153).bind fun x228 =>
  some (.nx (List.set s203 (Int.toNat k153) (w64 (x226 + 1)))) else some (.br s203))) FU (List.set s151 (Int.toNat k153) 0)).bind fun o207 => after o207 (fun r_ => some (.rt r_)) (fun s203 =>
  some (.nx s203))) 0 (list.length : Int) y3).bind fun o155 => after o155 (fun r_ => some r_) (fun s151 =>
  some s151)
set_option maxHeartbeats 4000000 in
theorem c_impl_kernelOf {M : Nat → Prop} {w : World} {pa0 : Option Addr} {pn0 pc0 : Nat} (list : List Int) (h0 : (RT.rs (RT.int .i64)).val M w (.slice pa0 pn0 pc0) list ([])) (hM : ∀ g, w.heap.size ≤ g → M g) {r : (List Int)} (hs : s_impl_kernelOf list = some r) :
    Gives Tryz.prog 74 [(.slice pa0 pn0 pc0)] w (fun v w' => ∃ (ra0 : Option Addr) (rn0 rc0 : Nat) (rf0 : List Nat), v = (.slice ra0 rn0 rc0) ∧ Chg [] w w' ∧ (RT.os 3 (RT.int .i64)).val M w' (.slice ra0 rn0 rc0) r rf0 ∧ Own (Nw w []) (fun _ => True) w' (rf0 ++ ([]))) := by
 refine calls_fr Tryz.func74 rfl Tryz.ntmps74 (Nat.le_of_ble_eq_true rfl) ?_
 have hO := Own.start (N := Nw w []) hM Nw.fut
 have hC := Chg.refl [] w
 unfold s_impl_kernelOf at hs
 refine wp_mono (Q := KPost (k_impl_kernelOf M w r)) ?_ (fun e a w1 h => ?_)
 rotate_left
 ·cases e
  case ret =>
   obtain ⟨σ, ra0, rn0, rc0, rf0, rfl, hrest⟩ := h
   exact ret1x Tryz.results74 (res_tmp rfl) ⟨ra0, rn0, rc0, rf0, rfl, hrest⟩
  all_goals exact (h : False).elim
 refine c_seq (c_region ?_)
 refine pl_val (.slice none 0 0) (y_assign rfl) ?_
 refine c_nil ?_
 refine c_seq (c_region ?_)
 refine pl_val (.slice pa0 pn0 pc0) (y_move rfl) ?_
 refine pl_val (.int .i64 (list.length : Int)) (y_len' Sl47 (rs_len h0) rfl) ?_
 obtain ⟨y3, hy3, hs⟩ := bind_some hs
 obtain ⟨a2, n2, c2, w2, f2, hm2, hC2, hfr2, hv2⟩ := mk_os (M := M) (w := w) (r := (RT.int .i64)) Rw47 hy3 (fun _ _ => ⟨rfl, rfl⟩)
 refine pl_val (w' := w2) (.slice a2 n2 c2) (y_make rfl rfl hm2) ?_
 have h0 := h0.ext hC2
 have hC := hC.ext hC2
 have hO := hO.new hC2 hfr2 (os_nodup hv2) hv2.fpl
 refine pl_val (.slice a2 n2 c2) (y_assign rfl) ?_
 refine c_nil ?_
 refine c_seq ?_
 refine c_seq (c_region ?_)
 refine pl_val (.slice pa0 pn0 pc0) (y_move rfl) ?_
 refine pl_val (.int .i64 (list.length : Int)) (y_len' Sl47 (rs_len h0) rfl) ?_
 refine pl_val (.int .i64 0) (y_move rfl) ?_
 refine c_nil ?_
 obtain ⟨o155, hl156, hs⟩ := bind_some hs
 refine wp_block ?_
 refine wp_forC (id := 0) (list.length : Int) (I := fun k153 s151 a w152 => ∃ (σ : Nat → Value) (f157 : List Nat), a = fr 36 (ovl σ [(0, (.slice pa0 pn0 pc0)), (3, (.slice a2 n2 c2)), (9, (.int .i64 (list.length : Int))), (10, (.int .i64 k153))]) ∧ Chg [] w w152 ∧ Own (Nw w []) M w152 (f157 ++ []) ∧ (RT.rs (RT.int .i64)).val M w152 (.slice pa0 pn0 pc0) list ([]) ∧ (RT.os 3 (RT.int .i64)).val M w152 (.slice a2 n2 c2) s151 f157) (J := fun s151 a w152 => ∃ (σ : Nat → Value) (f158 : List Nat), a = fr 36 (ovl σ [(3, (.slice a2 n2 c2))]) ∧ Chg [] w w152 ∧ Own (Nw w []) M w152 (f158 ++ []) ∧ (RT.rs (RT.int .i64)).val M w152 (.slice pa0 pn0 pc0) list ([]) ∧ (RT.os 3 (RT.int .i64)).val M w152 (.slice a2 n2 c2) s151 f158) (K := (k_impl_kernelOf M w)) ?_ ?_ 0 y3 o155 _ _ ?_ hl156 ?_
 ·rintro k153 s151 a w152 ⟨σ, f157, rfl, hC, hO, h0, hv157⟩ hlt
  refine c_seq (c_region ?_)
  refine pl_val (.bool (decide (k153 < (list.length : Int)))) (y_lss rfl rfl) ?_
  refine c_nil ?_
  refine c_seq ?_
  refine c_condF (congrArg Value.bool (decide_eq_false hlt)) ?_
  refine wp_exit ?_
  exact ⟨rfl, _, f157, fr_ovl 36 ⟨rfl, trivial⟩, hC, hO, h0, hv157⟩
 ·rintro k153 s151 o155 a w152 ⟨σ, f157, rfl, hC, hO, h0, hv157⟩ hlt hw hs
  refine c_seq (c_region ?_)
  refine pl_val (.bool (decide (k153 < (list.length : Int)))) (y_lss rfl rfl) ?_
  refine c_nil ?_
  refine c_seq ?_
  refine c_condT (congrArg Value.bool (decide_eq_true hlt)) ?_
  refine wp_skip ?_
  refine c_seq ?_
  refine wp_block ?_
  refine c_seq (c_region ?_)
  refine pl_val (.int .i64 k153) (y_move rfl) ?_
  refine pl_val (.int .i64 k153) (y_assign rfl) ?_
  refine c_nil ?_
  refine c_seq (c_region ?_)
  refine pl_val (.slice a2 n2 c2) (y_move rfl) ?_
  refine pl_val (.int .i64 k153) (y_move rfl) ?_
  obtain ⟨x159, hx159, hs⟩ := bind_some hs
  obtain ⟨g160, f160, hg160, hk160, hp160, ha160, hf160⟩ := os_idx Sl47 Sz3 hv157 hx159
  refine pl_val (.pointer (some ⟨g160, 0 + Int.toNat k153 * 1, none⟩)) (hp160 _ _ _ _ _ _ _ _ _ rfl rfl) ?_
  obtain ⟨w161, f161, hst161, hC161, hf161, hv161⟩ := os_store (P := Tryz.prog) (c' := [(.int .i64 0)]) hg160 hv157 hk160 (fun g hg => hO.inM g (os_block hv157 g (by simpa using hg))) ⟨rfl, rfl⟩ List.nodup_nil (fun _ h => nomatch h) (fun _ h => .inl h)
  have hG161 : ∀ q ∈ [g160], q ∈ f157 := fun q hq => os_block hv157 q (by rw [hg160]; exact hq)
  refine pl_skip (w' := w161) (ys_store rfl rfl (hst161 _ _ rfl Sz3)) ?_
  have h0 := h0.mut hC161 (fun g hg => hO.inM g (hG161 g hg)) (fun _ _ h => nomatch h)
  have hC := hC.step hC161 (fun g hg => hO.inN g (hG161 g hg))
  have hO := hO.grow hC161 (fun q hq => .inl ((hf161 q hq).resolve_right (fun h => nomatch h))) (os_nodup hv161) hv161.fpl
  refine c_nil ?_
  obtain ⟨o207, hl208, hs⟩ := bind_some hs
  refine wp_block ?_
  refine wp_iter (id := 2) (I := fun s203 a w204 => ∃ (σ : Nat → Value) (f209 : List Nat), a = fr 36 (ovl σ [(0, (.slice pa0 pn0 pc0)), (3, (.slice a2 n2 c2)), (4, (.int .i64 k153)), (9, (.int .i64 (list.length : Int))), (10, (.int .i64 k153))]) ∧ Chg [] w w204 ∧ Own (Nw w []) M w204 (f209 ++ []) ∧ (RT.rs (RT.int .i64)).val M w204 (.slice pa0 pn0 pc0) list ([]) ∧ (RT.os 3 (RT.int .i64)).val M w204 (.slice a2 n2 c2) s203 f209) (J := fun s203 a w204 => ∃ (σ : Nat → Value) (f210 : List Nat), a = fr 36 (ovl σ [(0, (.slice pa0 pn0 pc0)), (3, (.slice a2 n2 c2)), (9, (.int .i64 (list.length : Int))), (10, (.int .i64 k153))]) ∧ Chg [] w w204 ∧ Own (Nw w []) M w204 (f210 ++ []) ∧ (RT.rs (RT.int .i64)).val M w204 (.slice pa0 pn0 pc0) list ([]) ∧ (RT.os 3 (RT.int .i64)).val M w204 (.slice a2 n2 c2) s203 f210) (K := (k_impl_kernelOf M w)) ?_ FU (List.set s151 (Int.toNat k153) 0) o207 _ _ ?_ hl208 ?_
  ·rintro s203 o207 a w204 ⟨σ, f209, rfl, hC, hO, h0, hv209⟩ hs
   refine c_seq ?_
   refine c_seq ?_
   refine x_start [] Mx rfl ?_
   have hCw218 := Chg.drew w204
   generalize World.drew w204 = w218 at hCw218 ⊢
   have h0 := h0.ext hCw218
   have hv209 := hv209.ext hCw218
   have hC := hC.ext hCw218
   have hO := hO.ext hCw218
   have hS := Chg.refl [] w218
   refine x_p 0 (.slice pa0 pn0 pc0) rfl (by kernel_rfl)  (fun _ => y_move rfl) (fun _ => hS) ?_
   refine x_p 1 (.slice a2 n2 c2) rfl (by kernel_rfl)  (fun _ => y_move rfl) (fun _ => hS) ?_
   refine x_p 2 (.int .i64 k153) rfl (by kernel_rfl)  (fun _ => y_move rfl) (fun _ => hS) ?_
   obtain ⟨x219, hx219, hs⟩ := bind_some hs
   obtain ⟨g220, f220, hg220, hk220, hp220, ha220, hf220⟩ := os_idx Sl47 Sz3 hv209 hx219
   refine x_p 3 (.pointer (some ⟨g220, 0 + Int.toNat k153 * 1, none⟩)) rfl (by kernel_rfl)  (fun _ => hp220 _ _ _ _ _ _ _ _ _ rfl rfl) (fun _ => hS) ?_
   refine x_l 4 (.int .i64 x219) rfl (by kernel_rfl)  (fun w' hw' => y_load rfl ((at_load_int Ag3 Sz3 ha220) w' hw')) hS ?_
   obtain ⟨x221, hx221, hs⟩ := bind_some hs
   obtain ⟨b222, o222, hp222, ha222⟩ := rs_idx Sl47 Sz3 h0 hx221
   refine x_p 5 (.pointer (some ⟨b222, o222, none⟩)) rfl (by kernel_rfl)  (fun _ => hp222 _ _ _ _ _ _ _ _ _ rfl rfl) (fun _ => hS) ?_
   refine x_l 6 (.int .i64 x221) rfl (by kernel_rfl)  (fun w' hw' => y_load rfl ((at_load_int Ag3 Sz3 ha222) w' hw')) hS ?_
   refine x_p 7 (.slice pa0 pn0 pc0) rfl (by kernel_rfl)  (fun _ => y_move rfl) (fun _ => hS) ?_
   refine x_p 8 (.int .i64 k153) rfl (by kernel_rfl)  (fun _ => y_move rfl) (fun _ => hS) ?_
   obtain ⟨x223, hx223, hs⟩ := bind_some hs
   obtain ⟨b224, o224, hp224, ha224⟩ := rs_idx Sl47 Sz3 h0 hx223
   refine x_p 9 (.pointer (some ⟨b224, o224, none⟩)) rfl (by kernel_rfl)  (fun _ => hp224 _ _ _ _ _ _ _ _ _ rfl rfl) (fun _ => hS) ?_
   refine x_l 10 (.int .i64 x223) rfl (by kernel_rfl)  (fun w' hw' => y_load rfl ((at_load_int Ag3 Sz3 ha224) w' hw')) hS ?_
   refine x_p 11 (.bool (x221 != x223)) rfl (by kernel_rfl)  (fun _ => y_neq rfl rfl) (fun _ => hS) ?_
   refine x_end (by kernel_rfl) ?_
   clear hS
   rcases bif_some hs with ⟨hc225, hs⟩ | ⟨hc225, hs⟩
   ·skip
    refine c_condT (congrArg Value.bool hc225) ?_
    refine wp_skip ?_
    refine wp_block ?_
    refine c_region ?_
    refine pl_val (.slice a2 n2 c2) (y_move rfl) ?_
    refine pl_val (.int .i64 k153) (y_move rfl) ?_
    obtain ⟨x226, hx226, hs⟩ := bind_some hs
    obtain ⟨g227, f227, hg227, hk227, hp227, ha227, hf227⟩ := os_idx Sl47 Sz3 hv209 hx226
    refine pl_val (.pointer (some ⟨g227, 0 + Int.toNat k153 * 1, none⟩)) (hp227 _ _ _ _ _ _ _ _ _ rfl rfl) ?_
    refine pl_val (.int .i64 x226) (y_load rfl ((at_load_int Ag3 Sz3 ha227) _ (Chg.refl _ _))) ?_
    refine pl_val (.int .i64 (w64 (x226 + 1))) (y_add rfl rfl) ?_
    obtain ⟨x228, hx228, hs⟩ := bind_some hs
    obtain ⟨g229, f229, hg229, hk229, hp229, ha229, hf229⟩ := os_idx Sl47 Sz3 hv209 hx228
    refine pl_val (.pointer (some ⟨g229, 0 + Int.toNat k153 * 1, none⟩)) (hp229 _ _ _ _ _ _ _ _ _ rfl rfl) ?_
    obtain ⟨w230, f230, hst230, hC230, hf230, hv230⟩ := os_store (P := Tryz.prog) (c' := [(.int .i64 (w64 (x226 + 1)))]) hg229 hv209 hk229 (fun g hg => hO.inM g (os_block hv209 g (by simpa using hg))) ⟨rfl, rfl⟩ List.nodup_nil (fun _ h => nomatch h) (fun _ h => .inl h)
    have hG230 : ∀ q ∈ [g229], q ∈ f209 := fun q hq => os_block hv209 q (by rw [hg229]; exact hq)
    refine pl_skip (w' := w230) (ys_store rfl rfl (hst230 _ _ rfl Sz3)) ?_
    have h0 := h0.mut hC230 (fun g hg => hO.inM g (hG230 g hg)) (fun _ _ h => nomatch h)
    have hC := hC.step hC230 (fun g hg => hO.inN g (hG230 g hg))
    have hO := hO.grow hC230 (fun q hq => .inl ((hf230 q hq).resolve_right (fun h => nomatch h))) (os_nodup hv230) hv230.fpl
    refine c_nil ?_
    cases hs
    exact ⟨_, f230, fr_ovl 36 ⟨rfl, rfl, rfl, rfl, rfl, trivial⟩, hC, hO, h0, hv230⟩
   ·skip
    refine c_condF (congrArg Value.bool hc225) ?_
    refine wp_exit ?_
    cases hs
    exact ⟨rfl, _, f209, fr_ovl 36 ⟨rfl, rfl, rfl, rfl, trivial⟩, hC, hO, h0, hv209⟩
  ·skip
   exact ⟨_, f161, fr_ovl 36 ⟨rfl, rfl, rfl, rfl, rfl, trivial⟩, hC, hO, h0, hv161⟩
  ·cases o207 with
   | nx _ => exact True.intro
   | rt r_ =>
    have hs := after_rt hs
    intro a1 w1 hK
    cases hs
    exact hK
   | br s203 =>
    have hs := after_br hs
    rintro a1 w204 ⟨σ, f210, rfl, hC, hO, h0, hv210⟩
    refine c_region ?_
    refine pl_val (.int .i64 (w64 (k153 + 1))) (y_add rfl rfl) ?_
    refine pl_val (.int .i64 (w64 (k153 + 1))) (y_move rfl) ?_
    refine c_nil ?_
    cases hs
    exact ⟨_, f210, fr_ovl 36 ⟨rfl, rfl, rfl, congrArg (Value.int .i64) hw, trivial⟩, hC, hO, h0, hv210⟩
 ·skip
  exact ⟨_, f2, fr_ovl 36 ⟨rfl, rfl, rfl, rfl, trivial⟩, hC, hO, h0, hv2⟩
 ·cases o155 with
  | nx _ => exact True.intro
  | rt r_ =>
   have hs := after_rt hs
   intro a1 w1 hK
   cases hs
   exact hK
  | br s151 =>
   have hs := after_br hs
   rintro a1 w152 ⟨σ, f158, rfl, hC, hO, h0, hv158⟩
   refine c_seq (c_region ?_)
   refine pl_val (.slice a2 n2 c2) (y_move rfl) ?_
   refine pl_val (.slice a2 n2 c2) (y_assign rfl) ?_
   refine c_nil ?_
   refine wp_ret ?_
   cases hs
   exact ⟨_, a2, n2, c2, f158, fr_ovl 36 ⟨rfl, trivial⟩, hC, hv158, hO.top⟩

theorem Bd74 : Bodied Tryz.prog 74 := bodied Tryz.func74 (by kernel_rfl) rfl

def k_impl_meet (M : Nat → Prop) (w0 : World) (r : (List Int)) (a : Act) (w : World) : Prop :=
  ∃ (σ : Nat → Value) (ra0 : Option Addr) (rn0 rc0 : Nat) (rf0 : List Nat), a = fr 33 (ovl σ [(4, (.slice ra0 rn0 rc0))]) ∧ Chg [] w0 w ∧ (RT.os 3 (RT.int .i64)).val M w (.slice ra0 rn0 rc0) r rf0 ∧ Own (Nw w0 []) (fun _ => True) w (rf0 ++ ([]))
def s_impl_meet (p : List Int) (q : List Int) : Option ((List Int)) :=
  (mks (p.length : Int) (0 : Int)).bind fun y4 =>
  (forC (S := (List Int)) (R := (List Int)) (fun k25 s23 =>
  (idx p k25).bind fun x32 =>
  (idx q k25).bind fun x34 =>
  (idx s23 k25).bind fun x36 =>
  some (.nx (List.set s23 (Int.toNat k25) (w64 ((w64 (x32 * (p.length : Int))) + x34))))) 0 (p.length : Int) y4).bind fun o27 => after o27 (fun r_ => some r_) (fun s23 =>
  (s_impl_kernelOf s23).bind fun r40 =>
  some r40)
set_option maxHeartbeats 4000000 in
theorem c_impl_meet {M : Nat → Prop} {w : World} {pa0 : Option Addr} {pn0 pc0 : Nat} {pa1 : Option Addr} {pn1 pc1 : Nat} (p : List Int) (q : List Int) (h0 : (RT.rs (RT.int .i64)).val M w (.slice pa0 pn0 pc0) p ([])) (h1 : (RT.rs (RT.int .i64)).val M w (.slice pa1 pn1 pc1) q ([])) (hM : ∀ g, w.heap.size ≤ g → M g) {r : (List Int)} (hs : s_impl_meet p q = some r) :
    Gives Tryz.prog 54 [(.slice pa0 pn0 pc0), (.slice pa1 pn1 pc1)] w (fun v w' => ∃ (ra0 : Option Addr) (rn0 rc0 : Nat) (rf0 : List Nat), v = (.slice ra0 rn0 rc0) ∧ Chg [] w w' ∧ (RT.os 3 (RT.int .i64)).val M w' (.slice ra0 rn0 rc0) r rf0 ∧ Own (Nw w []) (fun _ => True) w' (rf0 ++ ([]))) := by
 refine calls_fr Tryz.func54 rfl Tryz.ntmps54 (Nat.le_of_ble_eq_true rfl) ?_
 have hO := Own.start (N := Nw w []) hM Nw.fut
 have hC := Chg.refl [] w
 unfold s_impl_meet at hs
 refine wp_mono (Q := KPost (k_impl_meet M w r)) ?_ (fun e a w1 h => ?_)
 rotate_left
 ·cases e
  case ret =>
   obtain ⟨σ, ra0, rn0, rc0, rf0, rfl, hrest⟩ := h
   exact ret1x Tryz.results54 (res_tmp rfl) ⟨ra0, rn0, rc0, rf0, rfl, hrest⟩
  all_goals exact (h : False).elim
 refine c_seq (c_region ?_)
 refine pl_val (.slice none 0 0) (y_assign rfl) ?_
 refine c_nil ?_
 refine c_seq (c_region ?_)
 refine pl_val (.slice pa0 pn0 pc0) (y_move rfl) ?_
 refine pl_val (.int .i64 (p.length : Int)) (y_len' Sl47 (rs_len h0) rfl) ?_
 obtain ⟨y4, hy4, hs⟩ := bind_some hs
 obtain ⟨a3, n3, c3, w3, f3, hm3, hC3, hfr3, hv3⟩ := mk_os (M := M) (w := w) (r := (RT.int .i64)) Rw47 hy4 (fun _ _ => ⟨rfl, rfl⟩)
 refine pl_val (w' := w3) (.slice a3 n3 c3) (y_make rfl rfl hm3) ?_
 have h0 := h0.ext hC3
 have h1 := h1.ext hC3
 have hC := hC.ext hC3
 have hO := hO.new hC3 hfr3 (os_nodup hv3) hv3.fpl
 refine pl_val (.slice a3 n3 c3) (y_assign rfl) ?_
 refine c_nil ?_
 refine c_seq ?_
 refine c_seq (c_region ?_)
 refine pl_val (.slice pa0 pn0 pc0) (y_move rfl) ?_
 refine pl_val (.int .i64 (p.length : Int)) (y_len' Sl47 (rs_len h0) rfl) ?_
 refine pl_val (.int .i64 0) (y_move rfl) ?_
 refine c_nil ?_
 obtain ⟨o27, hl28, hs⟩ := bind_some hs
 refine wp_block ?_
 refine wp_forC (id := 0) (p.length : Int) (I := fun k25 s23 a w24 => ∃ (σ : Nat → Value) (f29 : List Nat), a = fr 33 (ovl σ [(0, (.slice pa0 pn0 pc0)), (1, (.slice pa1 pn1 pc1)), (5, (.slice a3 n3 c3)), (11, (.int .i64 (p.length : Int))), (12, (.int .i64 k25))]) ∧ Chg [] w w24 ∧ Own (Nw w []) M w24 (f29 ++ []) ∧ (RT.rs (RT.int .i64)).val M w24 (.slice pa0 pn0 pc0) p ([]) ∧ (RT.rs (RT.int .i64)).val M w24 (.slice pa1 pn1 pc1) q ([]) ∧ (RT.os 3 (RT.int .i64)).val M w24 (.slice a3 n3 c3) s23 f29) (J := fun s23 a w24 => ∃ (σ : Nat → Value) (f30 : List Nat), a = fr 33 (ovl σ [(5, (.slice a3 n3 c3))]) ∧ Chg [] w w24 ∧ Own (Nw w []) M w24 (f30 ++ []) ∧ (RT.rs (RT.int .i64)).val M w24 (.slice pa0 pn0 pc0) p ([]) ∧ (RT.rs (RT.int .i64)).val M w24 (.slice pa1 pn1 pc1) q ([]) ∧ (RT.os 3 (RT.int .i64)).val M w24 (.slice a3 n3 c3) s23 f30) (K := (k_impl_meet M w)) ?_ ?_ 0 y4 o27 _ _ ?_ hl28 ?_
 ·rintro k25 s23 a w24 ⟨σ, f29, rfl, hC, hO, h0, h1, hv29⟩ hlt
  refine c_seq (c_region ?_)
  refine pl_val (.bool (decide (k25 < (p.length : Int)))) (y_lss rfl rfl) ?_
  refine c_nil ?_
  refine c_seq ?_
  refine c_condF (congrArg Value.bool (decide_eq_false hlt)) ?_
  refine wp_exit ?_
  exact ⟨rfl, _, f29, fr_ovl 33 ⟨rfl, trivial⟩, hC, hO, h0, h1, hv29⟩
 ·rintro k25 s23 o27 a w24 ⟨σ, f29, rfl, hC, hO, h0, h1, hv29⟩ hlt hw hs
  refine c_seq (c_region ?_)
  refine pl_val (.bool (decide (k25 < (p.length : Int)))) (y_lss rfl rfl) ?_
  refine c_nil ?_
  refine c_seq ?_
  refine c_condT (congrArg Value.bool (decide_eq_true hlt)) ?_
  refine wp_skip ?_
  refine c_seq ?_
  refine wp_block ?_
  refine c_seq (c_region ?_)
  refine pl_val (.int .i64 k25) (y_move rfl) ?_
  refine pl_val (.int .i64 k25) (y_assign rfl) ?_
  refine c_nil ?_
  refine x_start [15] Mx rfl ?_
  have hCw31 := Chg.drew w24
  generalize World.drew w24 = w31 at hCw31 ⊢
  have h0 := h0.ext hCw31
  have h1 := h1.ext hCw31
  have hv29 := hv29.ext hCw31
  have hC := hC.ext hCw31
  have hO := hO.ext hCw31
  have hS := Chg.refl [] w31
  refine x_p 0 (.slice a3 n3 c3) rfl (by kernel_rfl)  (fun _ => y_move rfl) (fun _ => hS) ?_
  refine x_p 1 (.int .i64 k25) rfl (by kernel_rfl)  (fun _ => y_move rfl) (fun _ => hS) ?_
  refine x_p 2 (.slice pa0 pn0 pc0) rfl (by kernel_rfl)  (fun _ => y_move rfl) (fun _ => hS) ?_
  refine x_p 3 (.int .i64 k25) rfl (by kernel_rfl)  (fun _ => y_move rfl) (fun _ => hS) ?_
  obtain ⟨x32, hx32, hs⟩ := bind_some hs
  obtain ⟨b33, o33, hp33, ha33⟩ := rs_idx Sl47 Sz3 h0 hx32
  refine x_p 4 (.pointer (some ⟨b33, o33, none⟩)) rfl (by kernel_rfl)  (fun _ => hp33 _ _ _ _ _ _ _ _ _ rfl rfl) (fun _ => hS) ?_
  refine x_l 5 (.int .i64 x32) rfl (by kernel_rfl)  (fun w' hw' => y_load rfl ((at_load_int Ag3 Sz3 ha33) w' hw')) hS ?_
  refine x_p 6 (.slice pa0 pn0 pc0) rfl (by kernel_rfl)  (fun _ => y_move rfl) (fun _ => hS) ?_
  refine x_p 7 (.int .i64 (p.length : Int)) rfl (by kernel_rfl)  (fun _ => y_len' Sl47 (rs_len h0) rfl) (fun _ => hS) ?_
  refine x_p 8 (.int .i64 (w64 (x32 * (p.length : Int)))) rfl (by kernel_rfl)  (fun _ => y_mul rfl rfl) (fun _ => hS) ?_
  refine x_p 9 (.slice pa1 pn1 pc1) rfl (by kernel_rfl)  (fun _ => y_move rfl) (fun _ => hS) ?_
  refine x_p 10 (.int .i64 k25) rfl (by kernel_rfl)  (fun _ => y_move rfl) (fun _ => hS) ?_
  obtain ⟨x34, hx34, hs⟩ := bind_some hs
  obtain ⟨b35, o35, hp35, ha35⟩ := rs_idx Sl47 Sz3 h1 hx34
  refine x_p 11 (.pointer (some ⟨b35, o35, none⟩)) rfl (by kernel_rfl)  (fun _ => hp35 _ _ _ _ _ _ _ _ _ rfl rfl) (fun _ => hS) ?_
  refine x_l 12 (.int .i64 x34) rfl (by kernel_rfl)  (fun w' hw' => y_load rfl ((at_load_int Ag3 Sz3 ha35) w' hw')) hS ?_
  refine x_p 13 (.int .i64 (w64 ((w64 (x32 * (p.length : Int))) + x34))) rfl (by kernel_rfl)  (fun _ => y_add rfl rfl) (fun _ => hS) ?_
  obtain ⟨x36, hx36, hs⟩ := bind_some hs
  obtain ⟨g37, f37, hg37, hk37, hp37, ha37, hf37⟩ := os_idx Sl47 Sz3 hv29 hx36
  refine x_p 14 (.pointer (some ⟨g37, 0 + Int.toNat k25 * 1, none⟩)) rfl (by kernel_rfl)  (fun _ => hp37 _ _ _ _ _ _ _ _ _ rfl rfl) (fun _ => hS) ?_
  refine x_one (i := 15) (by kernel_rfl) ?_
  obtain ⟨w38, f38, hst38, hC38, hf38, hv38⟩ := os_store (P := Tryz.prog) (c' := [(.int .i64 (w64 ((w64 (x32 * (p.length : Int))) + x34)))]) hg37 hv29 hk37 (fun g hg => hO.inM g (os_block hv29 g (by simpa using hg))) ⟨rfl, rfl⟩ List.nodup_nil (fun _ h => nomatch h) (fun _ h => .inl h)
  have hG38 : ∀ q ∈ [g37], q ∈ f29 := fun q hq => os_block hv29 q (by rw [hg37]; exact hq)
  refine xk_skip (w' := w38) (b := true) rfl (ys_store rfl rfl (hst38 _ _ rfl Sz3)) rfl (fun h => nomatch h) ?_
  have h0 := h0.mut hC38 (fun g hg => hO.inM g (hG38 g hg)) (fun _ _ h => nomatch h)
  have h1 := h1.mut hC38 (fun g hg => hO.inM g (hG38 g hg)) (fun _ _ h => nomatch h)
  have hC := hC.step hC38 (fun g hg => hO.inN g (hG38 g hg))
  have hO := hO.grow hC38 (fun q hq => .inl ((hf38 q hq).resolve_right (fun h => nomatch h))) (os_nodup hv38) hv38.fpl
  refine x_end (by kernel_rfl) ?_
  clear hS
  refine c_region ?_
  refine pl_val (.int .i64 (w64 (k25 + 1))) (y_add rfl rfl) ?_
  refine pl_val (.int .i64 (w64 (k25 + 1))) (y_move rfl) ?_
  refine c_nil ?_
  cases hs
  exact ⟨_, f38, fr_ovl 33 ⟨rfl, rfl, rfl, rfl, congrArg (Value.int .i64) hw, trivial⟩, hC, hO, h0, h1, hv38⟩
 ·skip
  exact ⟨_, f3, fr_ovl 33 ⟨rfl, rfl, rfl, rfl, rfl, trivial⟩, hC, hO, h0, h1, hv3⟩
 ·cases o27 with
  | nx _ => exact True.intro
  | rt r_ =>
   have hs := after_rt hs
   intro a1 w1 hK
   cases hs
   exact hK
  | br s23 =>
   have hs := after_br hs
   rintro a1 w24 ⟨σ, f30, rfl, hC, hO, h0, h1, hv30⟩
   refine c_seq (c_region ?_)
   refine pl_val (.slice a3 n3 c3) (y_move rfl) ?_
   obtain ⟨r40, hr40, hs⟩ := bind_some hs
   refine pl_call Bd74 rfl (c_impl_kernelOf (M := (Less M f30)) s23 (((Frz.os Frz.int)).val hv30 Less.sub Less.not) hO.less.fut hr40) ?_
   rintro _ w39 ⟨a39x0, n39x0, c39x0, f39x0, rfl, hC39, hv39x0, hOc39⟩
   have h0 := h0.ext hC39
   have h1 := h1.ext hC39
   have hv30 := hv30.ext hC39
   have hC := hC.ext hC39
   have hO := Own.join0 hO hC39 hOc39
   have hO := hO.perm (R := f39x0 ++ (f30 ++ ([]))) (by simp)
   have hv39x0 := hv39x0.free (M' := M) (Free.os Free.int)
   refine pl_val (.slice a39x0 n39x0 c39x0) (y_assign rfl) ?_
   refine c_nil ?_
   refine wp_ret ?_
   cases hs
   have hO := hO.fr1
   have hO := hO.drop
   exact ⟨_, a39x0, n39x0, c39x0, f39x0, fr_ovl 33 ⟨rfl, trivial⟩, hC, hv39x0, hO.top⟩

def k_impl_sameList (M : Nat → Prop) (w0 : World) (r : Bool) (a : Act) (w : World) : Prop :=
  ∃ (σ : Nat → Value) , a = fr 26 (ovl σ [(4, (.bool r))]) ∧ Chg [] w0 w
def s_impl_sameList (a_ : List Int) (b : List Int) : Option (Bool) :=
  (bif ((a_.length : Int) != (b.length : Int)) then some false else (forC (S := Unit) (R := Bool) (fun k11 s9 =>
  (idx a_ k11).bind fun x15 =>
  (idx b k11).bind fun x17 =>
  (bif (x17 != x15) then some (.rt false) else some (.nx ()))) 0 (a_.length : Int) ()).bind fun o13 => after o13 (fun r_ => some r_) (fun s9 =>
  some true))
set_option maxHeartbeats 4000000 in
theorem c_impl_sameList {M : Nat → Prop} {w : World} {pa0 : Option Addr} {pn0 pc0 : Nat} {pa1 : Option Addr} {pn1 pc1 : Nat} (a_ : List Int) (b : List Int) (h0 : (RT.rs (RT.int .i64)).val M w (.slice pa0 pn0 pc0) a_ ([])) (h1 : (RT.rs (RT.int .i64)).val M w (.slice pa1 pn1 pc1) b ([])) (hM : ∀ g, w.heap.size ≤ g → M g) {r : Bool} (hs : s_impl_sameList a_ b = some r) :
    Gives Tryz.prog 64 [(.slice pa0 pn0 pc0), (.slice pa1 pn1 pc1)] w (fun v w' => v = (.bool r) ∧ Chg [] w w') := by
 refine calls_fr Tryz.func64 rfl Tryz.ntmps64 (Nat.le_of_ble_eq_true rfl) ?_
 have hO := Own.start (N := Nw w []) hM Nw.fut
 have hC := Chg.refl [] w
 unfold s_impl_sameList at hs
 refine wp_mono (Q := KPost (k_impl_sameList M w r)) ?_ (fun e a w1 h => ?_)
 rotate_left
 ·cases e
  case ret =>
   obtain ⟨σ, rfl, hrest⟩ := h
   exact ret1x Tryz.results64 (res_tmp rfl) ⟨rfl, hrest⟩
  all_goals exact (h : False).elim
 refine c_seq (c_region ?_)
 refine pl_val (.bool false) (y_assign rfl) ?_
 refine c_nil ?_
 refine c_seq ?_
 refine c_seq (c_region ?_)
 refine pl_val (.slice pa0 pn0 pc0) (y_move rfl) ?_
 refine pl_val (.int .i64 (a_.length : Int)) (y_len' Sl47 (rs_len h0) rfl) ?_
 refine pl_val (.slice pa1 pn1 pc1) (y_move rfl) ?_
 refine pl_val (.int .i64 (b.length : Int)) (y_len' Sl47 (rs_len h1) rfl) ?_
 refine pl_val (.bool ((a_.length : Int) != (b.length : Int))) (y_neq rfl rfl) ?_
 refine c_nil ?_
 rcases bif_some hs with ⟨hc3, hs⟩ | ⟨hc3, hs⟩
 ·skip
  refine c_condT (congrArg Value.bool hc3) ?_
  refine c_seq (c_region ?_)
  refine pl_val (.bool false) (y_assign rfl) ?_
  refine c_nil ?_
  refine wp_ret ?_
  cases hs
  exact ⟨_, fr_ovl 26 ⟨rfl, trivial⟩, hC⟩
 ·skip
  refine c_condF (congrArg Value.bool hc3) ?_
  refine wp_skip ?_
  refine c_seq ?_
  refine c_seq (c_region ?_)
  refine pl_val (.slice pa0 pn0 pc0) (y_move rfl) ?_
  refine pl_val (.int .i64 (a_.length : Int)) (y_len' Sl47 (rs_len h0) rfl) ?_
  refine pl_val (.int .i64 0) (y_move rfl) ?_
  refine c_nil ?_
  obtain ⟨o13, hl14, hs⟩ := bind_some hs
  refine wp_block ?_
  refine wp_forC (id := 0) (a_.length : Int) (I := fun k11 s9 a w10 => ∃ (σ : Nat → Value), a = fr 26 (ovl σ [(1, (.slice pa1 pn1 pc1)), (12, (.slice pa0 pn0 pc0)), (13, (.int .i64 (a_.length : Int))), (14, (.int .i64 k11))]) ∧ Chg [] w w10 ∧ Own (Nw w []) M w10 ([]) ∧ (RT.rs (RT.int .i64)).val M w10 (.slice pa0 pn0 pc0) a_ ([]) ∧ (RT.rs (RT.int .i64)).val M w10 (.slice pa1 pn1 pc1) b ([])) (J := fun s9 a w10 => ∃ (σ : Nat → Value), a = fr 26 (ovl σ []) ∧ Chg [] w w10 ∧ Own (Nw w []) M w10 ([]) ∧ (RT.rs (RT.int .i64)).val M w10 (.slice pa0 pn0 pc0) a_ ([]) ∧ (RT.rs (RT.int .i64)).val M w10 (.slice pa1 pn1 pc1) b ([])) (K := (k_impl_sameList M w)) ?_ ?_ 0 () o13 _ _ ?_ hl14 ?_
  ·rintro k11 s9 a w10 ⟨σ, rfl, hC, hO, h0, h1⟩ hlt
   refine c_seq (c_region ?_)
   refine pl_val (.bool (decide (k11 < (a_.length : Int)))) (y_lss rfl rfl) ?_
   refine c_nil ?_
   refine c_seq ?_
   refine c_condF (congrArg Value.bool (decide_eq_false hlt)) ?_
   refine wp_exit ?_
   exact ⟨rfl, _, fr_ovl 26 trivial, hC, hO, h0, h1⟩
  ·rintro k11 s9 o13 a w10 ⟨σ, rfl, hC, hO, h0, h1⟩ hlt hw hs
   refine c_seq (c_region ?_)
   refine pl_val (.bool (decide (k11 < (a_.length : Int)))) (y_lss rfl rfl) ?_
   refine c_nil ?_
   refine c_seq ?_
   refine c_condT (congrArg Value.bool (decide_eq_true hlt)) ?_
   refine wp_skip ?_
   refine c_seq ?_
   refine wp_block ?_
   refine c_seq (c_region ?_)
   refine pl_val (.int .i64 k11) (y_move rfl) ?_
   obtain ⟨x15, hx15, hs⟩ := bind_some hs
   obtain ⟨b16, o16, hp16, ha16⟩ := rs_idx Sl47 Sz3 h0 hx15
   refine pl_val (.pointer (some ⟨b16, o16, none⟩)) (hp16 _ _ _ _ _ _ _ _ _ rfl rfl) ?_
   refine pl_val (.int .i64 x15) (y_load rfl ((at_load_int Ag3 Sz3 ha16) _ (Chg.refl _ _))) ?_
   refine pl_val (.int .i64 k11) (y_assign rfl) ?_
   refine pl_val (.int .i64 x15) (y_assign rfl) ?_
   refine c_nil ?_
   refine c_seq (c_region ?_)
   refine pl_val (.slice pa1 pn1 pc1) (y_move rfl) ?_
   refine pl_val (.int .i64 k11) (y_move rfl) ?_
   obtain ⟨x17, hx17, hs⟩ := bind_some hs
   obtain ⟨b18, o18, hp18, ha18⟩ := rs_idx Sl47 Sz3 h1 hx17
   refine pl_val (.pointer (some ⟨b18, o18, none⟩)) (hp18 _ _ _ _ _ _ _ _ _ rfl rfl) ?_
   refine pl_val (.int .i64 x17) (y_load rfl ((at_load_int Ag3 Sz3 ha18) _ (Chg.refl _ _))) ?_
   refine pl_val (.int .i64 x15) (y_move rfl) ?_
   refine pl_val (.bool (x17 != x15)) (y_neq rfl rfl) ?_
   refine c_nil ?_
   rcases bif_some hs with ⟨hc19, hs⟩ | ⟨hc19, hs⟩
   ·skip
    refine c_condT (congrArg Value.bool hc19) ?_
    refine c_seq (c_region ?_)
    refine pl_val (.bool false) (y_assign rfl) ?_
    refine c_nil ?_
    refine wp_ret ?_
    cases hs
    exact ⟨_, fr_ovl 26 ⟨rfl, trivial⟩, hC⟩
   ·skip
    refine c_condF (congrArg Value.bool hc19) ?_
    refine wp_skip ?_
    refine c_region ?_
    refine pl_val (.int .i64 (w64 (k11 + 1))) (y_add rfl rfl) ?_
    refine pl_val (.int .i64 (w64 (k11 + 1))) (y_move rfl) ?_
    refine c_nil ?_
    cases hs
    exact ⟨_, fr_ovl 26 ⟨rfl, rfl, rfl, congrArg (Value.int .i64) hw, trivial⟩, hC, hO, h0, h1⟩
  ·skip
   exact ⟨_, fr_ovl 26 ⟨rfl, rfl, rfl, rfl, trivial⟩, hC, hO, h0, h1⟩
  ·cases o13 with
   | nx _ => exact True.intro
   | rt r_ =>
    have hs := after_rt hs
    intro a1 w1 hK
    cases hs
    exact hK
   | br s9 =>
    have hs := after_br hs
    rintro a1 w10 ⟨σ, rfl, hC, hO, h0, h1⟩
    refine c_seq (c_region ?_)
    refine pl_val (.bool true) (y_assign rfl) ?_
    refine c_nil ?_
    refine wp_ret ?_
    cases hs
    exact ⟨_, fr_ovl 26 ⟨rfl, trivial⟩, hC⟩

theorem Bd54 : Bodied Tryz.prog 54 := bodied Tryz.func54 (by kernel_rfl) rfl

theorem Bd64 : Bodied Tryz.prog 64 := bodied Tryz.func64 (by kernel_rfl) rfl

def k_impl_isDistributiveTriple (M : Nat → Prop) (w0 : World) (r : Bool) (a : Act) (w : World) : Prop :=
  ∃ (σ : Nat → Value) , a = fr 20 (ovl σ [(6, (.bool r))]) ∧ Chg [] w0 w
def s_impl_isDistributiveTriple (p : List Int) (q : List Int) (r_ : List Int) : Option (Bool) :=
  (s_impl_join q r_).bind fun r5 =>
  (s_impl_meet p r5).bind fun r8 =>
  (s_impl_meet p q).bind fun r11 =>
  (s_impl_meet p r_).bind fun r14 =>
  (s_impl_join r11 r14).bind fun r17 =>
  (s_impl_sameList r8 r17).bind fun r20 =>
  some r20
set_option maxHeartbeats 4000000 in
theorem c_impl_isDistributiveTriple {M : Nat → Prop} {w : World} {pa0 : Option Addr} {pn0 pc0 : Nat} {pa1 : Option Addr} {pn1 pc1 : Nat} {pa2 : Option Addr} {pn2 pc2 : Nat} (p : List Int) (q : List Int) (r_ : List Int) (h0 : (RT.rs (RT.int .i64)).val M w (.slice pa0 pn0 pc0) p ([])) (h1 : (RT.rs (RT.int .i64)).val M w (.slice pa1 pn1 pc1) q ([])) (h2 : (RT.rs (RT.int .i64)).val M w (.slice pa2 pn2 pc2) r_ ([])) (hM : ∀ g, w.heap.size ≤ g → M g) {r : Bool} (hs : s_impl_isDistributiveTriple p q r_ = some r) :
    Gives Tryz.prog 41 [(.slice pa0 pn0 pc0), (.slice pa1 pn1 pc1), (.slice pa2 pn2 pc2)] w (fun v w' => v = (.bool r) ∧ Chg [] w w') := by
 refine calls_fr Tryz.func41 rfl Tryz.ntmps41 (Nat.le_of_ble_eq_true rfl) ?_
 have hO := Own.start (N := Nw w []) hM Nw.fut
 have hC := Chg.refl [] w
 unfold s_impl_isDistributiveTriple at hs
 refine wp_mono (Q := KPost (k_impl_isDistributiveTriple M w r)) ?_ (fun e a w1 h => ?_)
 rotate_left
 ·cases e
  case ret =>
   obtain ⟨σ, rfl, hrest⟩ := h
   exact ret1x Tryz.results41 (res_tmp rfl) ⟨rfl, hrest⟩
  all_goals exact (h : False).elim
 refine c_seq (c_region ?_)
 refine pl_val (.bool false) (y_assign rfl) ?_
 refine c_nil ?_
 refine c_seq (c_region ?_)
 refine pl_val (.slice pa0 pn0 pc0) (y_move rfl) ?_
 refine pl_val (.slice pa1 pn1 pc1) (y_move rfl) ?_
 refine pl_val (.slice pa2 pn2 pc2) (y_move rfl) ?_
 obtain ⟨r5, hr5, hs⟩ := bind_some hs
 refine pl_call Bd55 rfl (c_impl_join (M := M) q r_ h1 h2 hO.fut hr5) ?_
 rintro _ w4 ⟨a4x0, n4x0, c4x0, f4x0, rfl, hC4, hv4x0, hOc4⟩
 have h0 := h0.ext hC4
 have h1 := h1.ext hC4
 have h2 := h2.ext hC4
 have hC := hC.ext hC4
 have hO := Own.join0 hO hC4 hOc4
 have hO := hO.perm (R := f4x0 ++ ([])) (by simp)
 obtain ⟨r8, hr8, hs⟩ := bind_some hs
 refine pl_call Bd54 rfl (c_impl_meet (M := (Less M f4x0)) p r5 (h0.sub Less.sub) (((Frz.os Frz.int)).val hv4x0 Less.sub Less.not) hO.less.fut hr8) ?_
 rintro _ w7 ⟨a7x0, n7x0, c7x0, f7x0, rfl, hC7, hv7x0, hOc7⟩
 have h0 := h0.ext hC7
 have h1 := h1.ext hC7
 have h2 := h2.ext hC7
 have hv4x0 := hv4x0.ext hC7
 have hC := hC.ext hC7
 have hO := Own.join0 hO hC7 hOc7
 have hO := hO.perm (R := f7x0 ++ (f4x0 ++ ([]))) (by simp)
 have hv7x0 := hv7x0.free (M' := M) (Free.os Free.int)
 refine pl_val (.slice pa0 pn0 pc0) (y_move rfl) ?_
 refine pl_val (.slice pa1 pn1 pc1) (y_move rfl) ?_
 obtain ⟨r11, hr11, hs⟩ := bind_some hs
 refine pl_call Bd54 rfl (c_impl_meet (M := M) p q h0 h1 hO.fut hr11) ?_
 rintro _ w10 ⟨a10x0, n10x0, c10x0, f10x0, rfl, hC10, hv10x0, hOc10⟩
 have h0 := h0.ext hC10
 have h1 := h1.ext hC10
 have h2 := h2.ext hC10
 have hv4x0 := hv4x0.ext hC10
 have hv7x0 := hv7x0.ext hC10
 have hC := hC.ext hC10
 have hO := Own.join0 hO hC10 hOc10
 have hO := hO.perm (R := f10x0 ++ (f7x0 ++ (f4x0 ++ ([])))) (by simp)
 refine pl_val (.slice pa0 pn0 pc0) (y_move rfl) ?_
 refine pl_val (.slice pa2 pn2 pc2) (y_move rfl) ?_
 obtain ⟨r14, hr14, hs⟩ := bind_some hs
 refine pl_call Bd54 rfl (c_impl_meet (M := M) p r_ h0 h2 hO.fut hr14) ?_
 rintro _ w13 ⟨a13x0, n13x0, c13x0, f13x0, rfl, hC13, hv13x0, hOc13⟩
 have h0 := h0.ext hC13
 have h1 := h1.ext hC13
 have h2 := h2.ext hC13
 have hv4x0 := hv4x0.ext hC13
 have hv7x0 := hv7x0.ext hC13
 have hv10x0 := hv10x0.ext hC13
 have hC := hC.ext hC13
 have hO := Own.join0 hO hC13 hOc13
 have hO := hO.perm (R := f13x0 ++ (f10x0 ++ (f7x0 ++ (f4x0 ++ ([]))))) (by simp)
 have hO := hO.fr1
 obtain ⟨r17, hr17, hs⟩ := bind_some hs
 refine pl_call Bd55 rfl (c_impl_join (M := (Less (Less M f10x0) f13x0)) r11 r14 ((((Frz.os Frz.int)).val hv10x0 Less.sub Less.not).sub Less.sub) (((Frz.os Frz.int)).val (hv13x0.sub Less.sub) Less.sub Less.not) (hO.less).less.fut hr17) ?_
 rintro _ w16 ⟨a16x0, n16x0, c16x0, f16x0, rfl, hC16, hv16x0, hOc16⟩
 have h0 := h0.ext hC16
 have h1 := h1.ext hC16
 have h2 := h2.ext hC16
 have hv4x0 := hv4x0.ext hC16
 have hv7x0 := hv7x0.ext hC16
 have hv10x0 := hv10x0.ext hC16
 have hv13x0 := hv13x0.ext hC16
 have hC := hC.ext hC16
 have hO := Own.join0 hO hC16 hOc16
 have hO := hO.perm (R := f16x0 ++ (f10x0 ++ (f13x0 ++ (f7x0 ++ (f4x0 ++ ([])))))) (by simp)
 have hv16x0 := hv16x0.free (M' := M) (Free.os Free.int)
 have hO := hO.fr3
 obtain ⟨r20, hr20, hs⟩ := bind_some hs
 refine pl_call Bd64 rfl (c_impl_sameList (M := (Less (Less M f7x0) f16x0)) r8 r17 ((((Frz.os Frz.int)).val hv7x0 Less.sub Less.not).sub Less.sub) (((Frz.os Frz.int)).val (hv16x0.sub Less.sub) Less.sub Less.not) (hO.less).less.fut hr20) ?_
 rintro _ w19 ⟨rfl, hC19⟩
 have h0 := h0.ext hC19
 have h1 := h1.ext hC19
 have h2 := h2.ext hC19
 have hv4x0 := hv4x0.ext hC19
 have hv7x0 := hv7x0.ext hC19
 have hv10x0 := hv10x0.ext hC19
 have hv13x0 := hv13x0.ext hC19
 have hv16x0 := hv16x0.ext hC19
 have hC := hC.ext hC19
 have hO := hO.ext hC19
 refine pl_val (.bool r20) (y_assign rfl) ?_
 refine c_nil ?_
 refine wp_ret ?_
 cases hs
 exact ⟨_, fr_ovl 20 ⟨rfl, trivial⟩, hC⟩

theorem Bd41 : Bodied Tryz.prog 41 := bodied Tryz.func41 (by kernel_rfl) rfl

theorem Bd30 : Bodied Tryz.prog 30 := bodied Tryz.func30 (by kernel_rfl) rfl

def k_impl_badTriple__impl_isDistributiveTriple (M : Nat → Prop) (w0 : World) (r : (List (List Int))) (a : Act) (w : World) : Prop :=
  ∃ (σ : Nat → Value) (ra0 : Option Addr) (rn0 rc0 : Nat) (rf0 : List Nat), a = fr 43 (ovl σ [(4, (.slice ra0 rn0 rc0))]) ∧ Chg [] w0 w ∧ (RT.os 47 (RT.os 3 (RT.int .i64))).val M w (.slice ra0 rn0 rc0) r rf0 ∧ Option.isNone ra0 = List.isEmpty r ∧ Own (Nw w0 []) (fun _ => True) w (rf0 ++ ([]))
def s_impl_badTriple__impl_isDistributiveTriple (all : List (List Int)) : Option ((List (List Int))) :=
  (forR (S := Unit) (R := (List (List Int))) (fun _ x79 s76 =>
  (forR (S := Unit) (R := (List (List Int))) (fun _ x120 s117 =>
  (forR (S := Unit) (R := (List (List Int))) (fun _ x140 s137 =>
  (s_impl_isDistributiveTriple x79 x120 x140).bind fun r147 =>
  (bif (!r147) then (s_impl_cloneRows ([x79, x120, x140])).bind fun r152 =>
  (nne r152).bind fun u154 =>
  some (.rt r152) else some (.nx ()))) 0 all ()).bind fun o141 => after o141 (fun r_ => some (.rt r_)) (fun s137 =>
  some (.nx ()))) 0 all ()).bind fun o121 => after o121 (fun r_ => some (.rt r_)) (fun s117 =>
  some (.nx ()))) 0 all ()).bind fun o80 => after o80 (fun r_ => some r_) (fun s76 =>
  some ([]))
set_option maxHeartbeats 4000000 in
theorem c_impl_badTriple__impl_isDistributiveTriple {M : Nat → Prop} {w : World} {pa0 : Option Addr} {pn0 pc0 : Nat} (all : List (List Int)) (h0 : (RT.rs (RT.rs (RT.int .i64))).val M w (.slice pa0 pn0 pc0) all ([])) (hM : ∀ g, w.heap.size ≤ g → M g) {r : (List (List Int))} (hs : s_impl_badTriple__impl_isDistributiveTriple all = some r) :
    Gives Tryz.prog 40 [(.slice pa0 pn0 pc0), (.func (.func 41) #[] #[])] w (fun v w' => ∃ (ra0 : Option Addr) (rn0 rc0 : Nat) (rf0 : List Nat), v = (.slice ra0 rn0 rc0) ∧ Chg [] w w' ∧ (RT.os 47 (RT.os 3 (RT.int .i64))).val M w' (.slice ra0 rn0 rc0) r rf0 ∧ Option.isNone ra0 = List.isEmpty r ∧ Own (Nw w []) (fun _ => True) w' (rf0 ++ ([]))) := by
 refine calls_fr Tryz.func40 rfl Tryz.ntmps40 (Nat.le_of_ble_eq_true rfl) ?_
 have hO := Own.start (N := Nw w []) hM Nw.fut
 have hC := Chg.refl [] w
 unfold s_impl_badTriple__impl_isDistributiveTriple at hs
 refine wp_mono (Q := KPost (k_impl_badTriple__impl_isDistributiveTriple M w r)) ?_ (fun e a w1 h => ?_)
 rotate_left
 ·cases e
  case ret =>
   obtain ⟨σ, ra0, rn0, rc0, rf0, rfl, hrest⟩ := h
   exact ret1x Tryz.results40 (res_tmp rfl) ⟨ra0, rn0, rc0, rf0, rfl, hrest⟩
  all_goals exact (h : False).elim
 refine c_seq (c_region ?_)
 refine pl_val (.slice none 0 0) (y_assign rfl) ?_
 refine c_nil ?_
 refine c_seq ?_
 refine c_seq (c_region ?_)
 refine pl_val (.slice pa0 pn0 pc0) (y_move rfl) ?_
 refine pl_val (.int .i64 (all.length : Int)) (y_len' Sl43 (rs_len h0) rfl) ?_
 refine pl_val (.int .i64 0) (y_move rfl) ?_
 refine c_nil ?_
 obtain ⟨o80, hl81, hs⟩ := bind_some hs
 refine wp_block ?_
 refine wp_forR (id := 0) (I := fun i_ xs_ s76 a w77 => ∃ k78 : Nat, i_ = (k78 : Int) ∧ List.drop k78 all = xs_ ∧ (∃ (σ : Nat → Value), a = fr 43 (ovl σ [(0, (.slice pa0 pn0 pc0)), (1, (.func (.func 41) #[] #[])), (11, (.slice pa0 pn0 pc0)), (12, (.int .i64 (all.length : Int))), (13, (.int .i64 (k78 : Int)))]) ∧ Chg [] w w77 ∧ Own (Nw w []) M w77 ([]) ∧ (RT.rs (RT.rs (RT.int .i64))).val M w77 (.slice pa0 pn0 pc0) all ([]))) (J := fun s76 a w77 => ∃ (σ : Nat → Value), a = fr 43 (ovl σ []) ∧ Chg [] w w77 ∧ Own (Nw w []) M w77 ([]) ∧ (RT.rs (RT.rs (RT.int .i64))).val M w77 (.slice pa0 pn0 pc0) all ([])) (K := (k_impl_badTriple__impl_isDistributiveTriple M w)) ?_ ?_ all 0 () o80 _ _ ?_ hl81 ?_
 ·rintro _ s76 a w77 ⟨k78, rfl, hd, σ, rfl, hC, hO, h0⟩
  have hlt := drop_nil_ge hd
  refine c_seq (c_region ?_)
  refine pl_val (.bool (decide ((k78 : Int) < (all.length : Int)))) (y_lss rfl rfl) ?_
  refine c_nil ?_
  refine c_seq ?_
  refine c_condF (congrArg Value.bool (decide_eq_false hlt)) ?_
  refine wp_exit ?_
  exact ⟨rfl, _, fr_ovl 43 trivial, hC, hO, h0⟩
 ·rintro _ x79 xs_ s76 o80 a w77 ⟨k78, rfl, hd, σ, rfl, hC, hO, h0⟩ hs
  have hlt := drop_cons_lt hd
  have hxk78 := drop_cons_idx hd
  refine c_seq (c_region ?_)
  refine pl_val (.bool (decide ((k78 : Int) < (all.length : Int)))) (y_lss rfl rfl) ?_
  refine c_nil ?_
  refine c_seq ?_
  refine c_condT (congrArg Value.bool (decide_eq_true hlt)) ?_
  refine wp_skip ?_
  refine c_seq ?_
  refine wp_block ?_
  refine c_seq (c_region ?_)
  obtain ⟨b82, o82, hp82, ha82⟩ := rs_idx Sl43 Sz47 h0 hxk78
  refine pl_val (.pointer (some ⟨b82, o82, none⟩)) (hp82 _ _ _ _ _ _ _ _ _ rfl rfl) ?_
  obtain ⟨v83, hl83, hv83⟩ := at_load Ag47 Sz47 (fun _ => rfl) ha82
  obtain ⟨a83, n83, c83, rfl⟩ := rs_sl hv83
  refine pl_val (.slice a83 n83 c83) (y_load rfl (hl83 _ (Chg.refl _ _))) ?_
  refine pl_val (.slice a83 n83 c83) (y_assign rfl) ?_
  refine c_nil ?_
  refine c_seq (c_region ?_)
  refine pl_val (.slice pa0 pn0 pc0) (y_move rfl) ?_
  refine pl_val (.int .i64 (all.length : Int)) (y_len' Sl43 (rs_len h0) rfl) ?_
  refine pl_val (.int .i64 0) (y_move rfl) ?_
  refine c_nil ?_
  obtain ⟨o121, hl122, hs⟩ := bind_some hs
  refine wp_block ?_
  refine wp_forR (id := 2) (I := fun i_ xs_ s117 a w118 => ∃ k119 : Nat, i_ = (k119 : Int) ∧ List.drop k119 all = xs_ ∧ (∃ (σ : Nat → Value), a = fr 43 (ovl σ [(0, (.slice pa0 pn0 pc0)), (1, (.func (.func 41) #[] #[])), (6, (.slice a83 n83 c83)), (11, (.slice pa0 pn0 pc0)), (12, (.int .i64 (all.length : Int))), (13, (.int .i64 (k78 : Int))), (17, (.slice pa0 pn0 pc0)), (18, (.int .i64 (all.length : Int))), (19, (.int .i64 (k119 : Int)))]) ∧ Chg [] w w118 ∧ Own (Nw w []) M w118 ([]) ∧ (RT.rs (RT.rs (RT.int .i64))).val M w118 (.slice pa0 pn0 pc0) all ([]) ∧ (RT.rs (RT.int .i64)).val M w118 (.slice a83 n83 c83) x79 ([]))) (J := fun s117 a w118 => ∃ (σ : Nat → Value), a = fr 43 (ovl σ [(0, (.slice pa0 pn0 pc0)), (1, (.func (.func 41) #[] #[])), (11, (.slice pa0 pn0 pc0)), (12, (.int .i64 (all.length : Int))), (13, (.int .i64 (k78 : Int)))]) ∧ Chg [] w w118 ∧ Own (Nw w []) M w118 ([]) ∧ (RT.rs (RT.rs (RT.int .i64))).val M w118 (.slice pa0 pn0 pc0) all ([]) ∧ (RT.rs (RT.int .i64)).val M w118 (.slice a83 n83 c83) x79 ([])) (K := (k_impl_badTriple__impl_isDistributiveTriple M w)) ?_ ?_ all 0 () o121 _ _ ?_ hl122 ?_
  ·rintro _ s117 a w118 ⟨k119, rfl, hd, σ, rfl, hC, hO, h0, hv83⟩
   have hlt := drop_nil_ge hd
   refine c_seq (c_region ?_)
   refine pl_val (.bool (decide ((k119 : Int) < (all.length : Int)))) (y_lss rfl rfl) ?_
   refine c_nil ?_
   refine c_seq ?_
   refine c_condF (congrArg Value.bool (decide_eq_false hlt)) ?_
   refine wp_exit ?_
   exact ⟨rfl, _, fr_ovl 43 ⟨rfl, rfl, rfl, rfl, rfl, trivial⟩, hC, hO, h0, hv83⟩
  ·rintro _ x120 xs_ s117 o121 a w118 ⟨k119, rfl, hd, σ, rfl, hC, hO, h0, hv83⟩ hs
   have hlt := drop_cons_lt hd
   have hxk119 := drop_cons_idx hd
   refine c_seq (c_region ?_)
   refine pl_val (.bool (decide ((k119 : Int) < (all.length : Int)))) (y_lss rfl rfl) ?_
   refine c_nil ?_
   refine c_seq ?_
   refine c_condT (congrArg Value.bool (decide_eq_true hlt)) ?_
   refine wp_skip ?_
   refine c_seq ?_
   refine wp_block ?_
   refine c_seq (c_region ?_)
   obtain ⟨b123, o123, hp123, ha123⟩ := rs_idx Sl43 Sz47 h0 hxk119
   refine pl_val (.pointer (some ⟨b123, o123, none⟩)) (hp123 _ _ _ _ _ _ _ _ _ rfl rfl) ?_
   obtain ⟨v124, hl124, hv124⟩ := at_load Ag47 Sz47 (fun _ => rfl) ha123
   obtain ⟨a124, n124, c124, rfl⟩ := rs_sl hv124
   refine pl_val (.slice a124 n124 c124) (y_load rfl (hl124 _ (Chg.refl _ _))) ?_
   refine pl_val (.slice a124 n124 c124) (y_assign rfl) ?_
   refine c_nil ?_
   refine c_seq (c_region ?_)
   refine pl_val (.slice pa0 pn0 pc0) (y_move rfl) ?_
   refine pl_val (.int .i64 (all.length : Int)) (y_len' Sl43 (rs_len h0) rfl) ?_
   refine pl_val (.int .i64 0) (y_move rfl) ?_
   refine c_nil ?_
   obtain ⟨o141, hl142, hs⟩ := bind_some hs
   refine wp_block ?_
   refine wp_forR (id := 4) (I := fun i_ xs_ s137 a w138 => ∃ k139 : Nat, i_ = (k139 : Int) ∧ List.drop k139 all = xs_ ∧ (∃ (σ : Nat → Value), a = fr 43 (ovl σ [(0, (.slice pa0 pn0 pc0)), (1, (.func (.func 41) #[] #[])), (6, (.slice a83 n83 c83)), (8, (.slice a124 n124 c124)), (11, (.slice pa0 pn0 pc0)), (12, (.int .i64 (all.length : Int))), (13, (.int .i64 (k78 : Int))), (17, (.slice pa0 pn0 pc0)), (18, (.int .i64 (all.length : Int))), (19, (.int .i64 (k119 : Int))), (23, (.slice pa0 pn0 pc0)), (24, (.int .i64 (all.length : Int))), (25, (.int .i64 (k139 : Int)))]) ∧ Chg [] w w138 ∧ Own (Nw w []) M w138 ([]) ∧ (RT.rs (RT.rs (RT.int .i64))).val M w138 (.slice pa0 pn0 pc0) all ([]) ∧ (RT.rs (RT.int .i64)).val M w138 (.slice a83 n83 c83) x79 ([]) ∧ (RT.rs (RT.int .i64)).val M w138 (.slice a124 n124 c124) x120 ([]))) (J := fun s137 a w138 => ∃ (σ : Nat → Value), a = fr 43 (ovl σ [(0, (.slice pa0 pn0 pc0)), (1, (.func (.func 41) #[] #[])), (6, (.slice a83 n83 c83)), (11, (.slice pa0 pn0 pc0)), (12, (.int .i64 (all.length : Int))), (13, (.int .i64 (k78 : Int))), (17, (.slice pa0 pn0 pc0)), (18, (.int .i64 (all.length : Int))), (19, (.int .i64 (k119 : Int)))]) ∧ Chg [] w w138 ∧ Own (Nw w []) M w138 ([]) ∧ (RT.rs (RT.rs (RT.int .i64))).val M w138 (.slice pa0 pn0 pc0) all ([]) ∧ (RT.rs (RT.int .i64)).val M w138 (.slice a83 n83 c83) x79 ([]) ∧ (RT.rs (RT.int .i64)).val M w138 (.slice a124 n124 c124) x120 ([])) (K := (k_impl_badTriple__impl_isDistributiveTriple M w)) ?_ ?_ all 0 () o141 _ _ ?_ hl142 ?_
   ·rintro _ s137 a w138 ⟨k139, rfl, hd, σ, rfl, hC, hO, h0, hv83, hv124⟩
    have hlt := drop_nil_ge hd
    refine c_seq (c_region ?_)
    refine pl_val (.bool (decide ((k139 : Int) < (all.length : Int)))) (y_lss rfl rfl) ?_
    refine c_nil ?_
    refine c_seq ?_
    refine c_condF (congrArg Value.bool (decide_eq_false hlt)) ?_
    refine wp_exit ?_
    exact ⟨rfl, _, fr_ovl 43 ⟨rfl, rfl, rfl, rfl, rfl, rfl, rfl, rfl, rfl, trivial⟩, hC, hO, h0, hv83, hv124⟩
   ·rintro _ x140 xs_ s137 o141 a w138 ⟨k139, rfl, hd, σ, rfl, hC, hO, h0, hv83, hv124⟩ hs
    have hlt := drop_cons_lt hd
    have hxk139 := drop_cons_idx hd
    refine c_seq (c_region ?_)
    refine pl_val (.bool (decide ((k139 : Int) < (all.length : Int)))) (y_lss rfl rfl) ?_
    refine c_nil ?_
    refine c_seq ?_
    refine c_condT (congrArg Value.bool (decide_eq_true hlt)) ?_
    refine wp_skip ?_
    refine c_seq ?_
    refine wp_block ?_
    refine c_seq (c_region ?_)
    obtain ⟨b143, o143, hp143, ha143⟩ := rs_idx Sl43 Sz47 h0 hxk139
    refine pl_val (.pointer (some ⟨b143, o143, none⟩)) (hp143 _ _ _ _ _ _ _ _ _ rfl rfl) ?_
    obtain ⟨v144, hl144, hv144⟩ := at_load Ag47 Sz47 (fun _ => rfl) ha143
    obtain ⟨a144, n144, c144, rfl⟩ := rs_sl hv144
    refine pl_val (.slice a144 n144 c144) (y_load rfl (hl144 _ (Chg.refl _ _))) ?_
    refine pl_val (.slice a144 n144 c144) (y_assign rfl) ?_
    refine c_nil ?_
    refine c_seq (c_region ?_)
    refine pl_val (.func (.func 41) #[] #[]) (y_move rfl) ?_
    refine pl_val (.slice a83 n83 c83) (y_move rfl) ?_
    refine pl_val (.slice a124 n124 c124) (y_move rfl) ?_
    refine pl_val (.slice a144 n144 c144) (y_move rfl) ?_
    obtain ⟨r147, hr147, hs⟩ := bind_some hs
    refine pl_callv (h := rfl) Bd41 rfl (c_impl_isDistributiveTriple (M := M) x79 x120 x140 hv83 hv124 hv144 hO.fut hr147) ?_
    rintro _ w146 ⟨rfl, hC146⟩
    have h0 := h0.ext hC146
    have hv83 := hv83.ext hC146
    have hv124 := hv124.ext hC146
    have hv144 := hv144.ext hC146
    have hC := hC.ext hC146
    have hO := hO.ext hC146
    refine pl_val (.bool (!r147)) (y_not rfl) ?_
    refine c_nil ?_
    rcases bif_some hs with ⟨hc148, hs⟩ | ⟨hc148, hs⟩
    ·skip
     refine c_condT (congrArg Value.bool hc148) ?_
     refine c_seq (c_region ?_)
     refine pl_val (.slice a83 n83 c83) (y_move rfl) ?_
     refine pl_val (.slice a124 n124 c124) (y_move rfl) ?_
     refine pl_val (.slice a144 n144 c144) (y_move rfl) ?_
     obtain ⟨w149, g149, ew149, eg149, hC149, hb149⟩ := new_block w146 [(.slice a83 n83 c83), (.slice a124 n124 c124), (.slice a144 n144 c144)] 47
     refine pl_val (w' := w149) (.slice (some ⟨g149, 0, none⟩) 3 3) (y_bslice rfl (by rw [ew149, eg149]; kernel_rfl)) ?_
     have h0 := h0.ext hC149
     have hv83 := hv83.ext hC149
     have hv124 := hv124.ext hC149
     have hv144 := hv144.ext hC149
     have hC := hC.ext hC149
     have hO := hO.new1 hC149 eg149 hb149.lt
     have hv149 := os_of_box (r := (RT.rs (RT.int .i64))) (M := M) (css := [[(.slice a83 n83 c83)], [(.slice a124 n124 c124)], [(.slice a144 n144 c144)]]) (fps := [([] : List Nat), ([] : List Nat), ([] : List Nat)]) (xs := ([x79, x120, x140] : List (List Int))) hb149 ⟨(rs_unval hv83), ⟨(rs_unval hv124), ⟨(rs_unval hv144), trivial⟩⟩⟩ (Nat.le_of_ble_eq_true rfl) (List.nodup_cons.2 ⟨(fun h => nomatch h), List.nodup_nil⟩)
     have hv149 : (RT.os 47 (RT.rs (RT.int .i64))).val M w149 (.slice (some ⟨g149, 0, none⟩) 3 3) [x79, x120, x140] [g149] := hv149
     obtain ⟨r152, hr152, hs⟩ := bind_some hs
     refine pl_call Bd30 rfl (c_impl_cloneRows (M := (Less M ([g149]))) ([x79, x120, x140]) (((Frz.os (Frz.rs Frz.int))).val hv149 Less.sub Less.not) hO.less.fut hr152) ?_
     rintro _ w151 ⟨a151x0, n151x0, c151x0, f151x0, rfl, hC151, hv151x0, hOc151⟩
     have h0 := h0.ext hC151
     have hv83 := hv83.ext hC151
     have hv124 := hv124.ext hC151
     have hv144 := hv144.ext hC151
     have hv149 := hv149.ext hC151
     have hC := hC.ext hC151
     have hO := Own.join0 hO hC151 hOc151
     have hO := hO.perm (R := f151x0 ++ (([g149]) ++ ([]))) (by simp)
     have hv151x0 := hv151x0.free (M' := M) (Free.os (Free.os Free.int))
     refine pl_val (.slice a151x0 n151x0 c151x0) (y_assign rfl) ?_
     refine c_nil ?_
     refine wp_ret ?_
     obtain ⟨u154, hu154, hs⟩ := bind_some hs
     cases hs
     have hO := hO.fr1
     have hO := hO.drop
     exact ⟨_, a151x0, n151x0, c151x0, f151x0, fr_ovl 43 ⟨rfl, trivial⟩, hC, hv151x0, (os_nn hv151x0 hu154), hO.top⟩
    ·skip
     refine c_condF (congrArg Value.bool hc148) ?_
     refine wp_skip ?_
     refine c_region ?_
     refine pl_val (.int .i64 (w64 ((k139 : Int) + 1))) (y_add rfl rfl) ?_
     refine pl_val (.int .i64 (w64 ((k139 : Int) + 1))) (y_move rfl) ?_
     refine c_nil ?_
     cases hs
     exact ⟨_, rfl, drop_cons_next hd, _, fr_ovl 43 ⟨rfl, rfl, rfl, rfl, rfl, rfl, rfl, rfl, rfl, rfl, rfl, rfl, congrArg (Value.int .i64) (w64_succ hlt (Int.natCast_nonneg _) (rs_max h0)), trivial⟩, hC, hO, h0, hv83, hv124⟩
   ·skip
    exact ⟨0, rfl, rfl, _, fr_ovl 43 ⟨rfl, rfl, rfl, rfl, rfl, rfl, rfl, rfl, rfl, rfl, rfl, rfl, rfl, trivial⟩, hC, hO, h0, hv83, hv124⟩
   ·cases o141 with
    | nx _ => exact True.intro
    | rt r_ =>
     have hs := after_rt hs
     intro a1 w1 hK
     cases hs
     exact hK
    | br s137 =>
     have hs := after_br hs
     rintro a1 w138 ⟨σ, rfl, hC, hO, h0, hv83, hv124⟩
     refine c_region ?_
     refine pl_val (.int .i64 (w64 ((k119 : Int) + 1))) (y_add rfl rfl) ?_
     refine pl_val (.int .i64 (w64 ((k119 : Int) + 1))) (y_move rfl) ?_
     refine c_nil ?_
     cases hs
     exact ⟨_, rfl, drop_cons_next hd, _, fr_ovl 43 ⟨rfl, rfl, rfl, rfl, rfl, rfl, rfl, rfl, congrArg (Value.int .i64) (w64_succ hlt (Int.natCast_nonneg _) (rs_max h0)), trivial⟩, hC, hO, h0, hv83⟩
  ·skip
   exact ⟨0, rfl, rfl, _, fr_ovl 43 ⟨rfl, rfl, rfl, rfl, rfl, rfl, rfl, rfl, rfl, trivial⟩, hC, hO, h0, hv83⟩
  ·cases o121 with
   | nx _ => exact True.intro
   | rt r_ =>
    have hs := after_rt hs
    intro a1 w1 hK
    cases hs
    exact hK
   | br s117 =>
    have hs := after_br hs
    rintro a1 w118 ⟨σ, rfl, hC, hO, h0, hv83⟩
    refine c_region ?_
    refine pl_val (.int .i64 (w64 ((k78 : Int) + 1))) (y_add rfl rfl) ?_
    refine pl_val (.int .i64 (w64 ((k78 : Int) + 1))) (y_move rfl) ?_
    refine c_nil ?_
    cases hs
    exact ⟨_, rfl, drop_cons_next hd, _, fr_ovl 43 ⟨rfl, rfl, rfl, rfl, congrArg (Value.int .i64) (w64_succ hlt (Int.natCast_nonneg _) (rs_max h0)), trivial⟩, hC, hO, h0⟩
 ·skip
  exact ⟨0, rfl, rfl, _, fr_ovl 43 ⟨rfl, rfl, rfl, rfl, rfl, trivial⟩, hC, hO, h0⟩
 ·cases o80 with
  | nx _ => exact True.intro
  | rt r_ =>
   have hs := after_rt hs
   intro a1 w1 hK
   cases hs
   exact hK
  | br s76 =>
   have hs := after_br hs
   rintro a1 w77 ⟨σ, rfl, hC, hO, h0⟩
   refine c_seq (c_region ?_)
   refine pl_val (.slice none 0 0) (y_assign rfl) ?_
   refine c_nil ?_
   refine wp_ret ?_
   cases hs
   have hO := hO.nil
   exact ⟨_, none, 0, 0, [], fr_ovl 43 ⟨rfl, trivial⟩, hC, os_nil, rfl, hO.top⟩

theorem Bd40 : Bodied Tryz.prog 40 := bodied Tryz.func40 (by kernel_rfl) rfl

def k_impl_AreDistributive (M : Nat → Prop) (w0 : World) (r : Bool × Bool) (a : Act) (w : World) : Prop :=
  ∃ (σ : Nat → Value) , a = fr 18 (ovl σ [(2, (.bool r.1)), (3, (.bool r.2))]) ∧ Chg [] w0 w
def s_impl_AreDistributive (a_ : Int × (List (Int × (List Int)))) : Option (Bool × Bool) :=
  (s_impl_fewCongruences (a_.1, a_.2)).bind fun r4 =>
  (bif r4.2 then (s_impl_badTriple__impl_isDistributiveTriple r4.1).bind fun r8 =>
  some ((List.isEmpty r8), r4.2) else some (false, r4.2))
set_option maxHeartbeats 4000000 in
theorem c_impl_AreDistributive {M : Nat → Prop} {w : World} {pa0 : Option Addr} {pn0 pc0 : Nat} (a_ : Int × (List (Int × (List Int)))) (h0 : (RT.rs (RT.pr (RT.int .i64) (RT.rs (RT.int .i64)))).val M w (.slice pa0 pn0 pc0) a_.2 ([])) (hM : ∀ g, w.heap.size ≤ g → M g) {r : Bool × Bool} (hs : s_impl_AreDistributive a_ = some r) :
    Gives Tryz.prog 21 [(.agg #[(.int .i64 a_.1), (.slice pa0 pn0 pc0)])] w (fun v w' => v = (.tuple #[(.bool r.1), (.bool r.2)]) ∧ Chg [] w w') := by
 refine calls_fr Tryz.func21 rfl Tryz.ntmps21 (Nat.le_of_ble_eq_true rfl) ?_
 have hO := Own.start (N := Nw w []) hM Nw.fut
 have hC := Chg.refl [] w
 unfold s_impl_AreDistributive at hs
 refine wp_mono (Q := KPost (k_impl_AreDistributive M w r)) ?_ (fun e a w1 h => ?_)
 rotate_left
 ·cases e
  case ret =>
   obtain ⟨σ, rfl, hrest⟩ := h
   exact ret2x Tryz.results21 (res_tmp rfl) (res_tmp rfl) ⟨rfl, hrest⟩
  all_goals exact (h : False).elim
 refine c_seq (c_region ?_)
 obtain ⟨w2, g2, ew2, eg2, hC2, hb2⟩ := new_block w [(.int .i64 a_.1), (.slice pa0 pn0 pc0)] 30
 refine pl_val (w' := w2) (.pointer (some ⟨g2, 0, none⟩)) (y_box rfl (by rw [ew2, eg2]; kernel_rfl)) ?_
 have h0 := h0.ext hC2
 have hC := hC.ext hC2
 have hO := hO.new1 hC2 eg2 hb2.lt
 refine pl_val (.bool false) (y_assign rfl) ?_
 refine pl_val (.bool false) (y_assign rfl) ?_
 refine c_nil ?_
 refine c_seq (c_region ?_)
 refine pl_val (.agg #[(.int .i64 a_.1), (.slice pa0 pn0 pc0)]) (y_load rfl ((box_load Ag30 Sz30 hb2 [] [(.int .i64 a_.1), (.slice pa0 pn0 pc0)] [] rfl rfl (fun h => nomatch h)) _ (Chg.refl _ _))) ?_
 obtain ⟨r4, hr4, hs⟩ := bind_some hs
 refine pl_call Bd27 rfl (c_impl_fewCongruences (M := M) (a_.1, a_.2) h0 hO.fut hr4) ?_
 rintro _ w3 ⟨a3x0, n3x0, c3x0, f3x0, rfl, hC3, hv3x0, hOc3⟩
 have h0 := h0.ext hC3
 have hb2 := hb2.chg hC3 (fun h => nomatch h)
 have hC := hC.ext hC3
 have hO := Own.join0 hO hC3 hOc3
 have hO := hO.perm (R := f3x0 ++ (([g2]) ++ ([]))) (by simp)
 refine pl_val (.tuple #[(.slice a3x0 n3x0 c3x0), (.bool r4.2)]) (y_move rfl) ?_
 refine pl_val (.slice a3x0 n3x0 c3x0) (y_extract rfl (by kernel_rfl)) ?_
 refine pl_val (.bool r4.2) (y_extract rfl (by kernel_rfl)) ?_
 refine pl_val (.slice a3x0 n3x0 c3x0) (y_assign rfl) ?_
 refine pl_val (.bool r4.2) (y_assign rfl) ?_
 refine c_nil ?_
 refine c_seq (c_region ?_)
 refine pl_val (.bool r4.2) (y_move rfl) ?_
 refine pl_val (.bool r4.2) (y_move rfl) ?_
 rcases bif_some hs with ⟨hc6, hs⟩ | ⟨hc6, hs⟩
 ·skip
  refine pl_yes (.slice a3x0 n3x0 c3x0) (tg := 12) (by kernel_rfl) (congrArg Value.bool hc6) (y_move rfl) ?_
  obtain ⟨r8, hr8, hs⟩ := bind_some hs
  refine pl_cally (tg := 12) (by kernel_rfl) (congrArg Value.bool hc6) Bd40 rfl (c_impl_badTriple__impl_isDistributiveTriple (M := (Less M f3x0)) r4.1 (((Frz.os (Frz.os Frz.int))).val hv3x0 Less.sub Less.not) hO.less.fut hr8) ?_
  rintro _ w7 ⟨a7x0, n7x0, c7x0, f7x0, rfl, hC7, hv7x0, hz7x0, hOc7⟩
  have hb2 := hb2.chg hC7 (fun h => nomatch h)
  have hv3x0 := hv3x0.ext hC7
  have hC := hC.ext hC7
  have hO := Own.join0 hO hC7 hOc7
  have hO := hO.perm (R := f7x0 ++ (f3x0 ++ (([g2]) ++ ([])))) (by simp)
  have hv7x0 := hv7x0.free (M' := M) (Free.os (Free.os Free.int))
  refine pl_yes (.bool (List.isEmpty r8)) (tg := 12) (by kernel_rfl) (congrArg Value.bool hc6) (y_nil Tryz.underlying43 rfl rfl hz7x0) ?_
  refine pl_val (.bool (List.isEmpty r8)) (y_pick_t (congrArg Value.bool hc6) rfl) ?_
  refine pl_val (.bool r4.2) (y_move rfl) ?_
  refine pl_val (.bool (List.isEmpty r8)) (y_assign rfl) ?_
  refine pl_val (.bool r4.2) (y_assign rfl) ?_
  refine c_nil ?_
  refine wp_ret ?_
  cases hs
  exact ⟨_, fr_ovl 18 ⟨rfl, rfl, trivial⟩, hC⟩
 ·skip
  refine pl_not (tg := 12) (by kernel_rfl) (congrArg Value.bool hc6) ?_
  refine pl_not (tg := 12) (by kernel_rfl) (congrArg Value.bool hc6) ?_
  refine pl_not (tg := 12) (by kernel_rfl) (congrArg Value.bool hc6) ?_
  refine pl_val (.bool false) (y_pick_f (congrArg Value.bool hc6) rfl) ?_
  refine pl_val (.bool r4.2) (y_move rfl) ?_
  refine pl_val (.bool false) (y_assign rfl) ?_
  refine pl_val (.bool r4.2) (y_assign rfl) ?_
  refine c_nil ?_
  refine wp_ret ?_
  cases hs
  exact ⟨_, fr_ovl 18 ⟨rfl, rfl, trivial⟩, hC⟩

theorem Bd20 : Bodied Tryz.prog 20 := bodied Tryz.func20 (by kernel_rfl) rfl

theorem Bd21 : Bodied Tryz.prog 21 := bodied Tryz.func21 (by kernel_rfl) rfl

def k_impl_IsArithmetical (M : Nat → Prop) (w0 : World) (r : Bool × Bool) (a : Act) (w : World) : Prop :=
  ∃ (σ : Nat → Value) , a = fr 24 (ovl σ [(2, (.bool r.1)), (3, (.bool r.2))]) ∧ Chg [] w0 w
def s_impl_IsArithmetical (a_ : Int × (List (Int × (List Int)))) : Option (Bool × Bool) :=
  (s_impl_ArePermutable (a_.1, a_.2)).bind fun r4 =>
  (bif (!r4.2) then some (false, false) else (s_impl_AreDistributive (a_.1, a_.2)).bind fun r7 =>
  (bif r4.1 then some (r7.1, true) else some (false, true)))
set_option maxHeartbeats 4000000 in
theorem c_impl_IsArithmetical {M : Nat → Prop} {w : World} {pa0 : Option Addr} {pn0 pc0 : Nat} (a_ : Int × (List (Int × (List Int)))) (h0 : (RT.rs (RT.pr (RT.int .i64) (RT.rs (RT.int .i64)))).val M w (.slice pa0 pn0 pc0) a_.2 ([])) (hM : ∀ g, w.heap.size ≤ g → M g) {r : Bool × Bool} (hs : s_impl_IsArithmetical a_ = some r) :
    Gives Tryz.prog 8 [(.agg #[(.int .i64 a_.1), (.slice pa0 pn0 pc0)])] w (fun v w' => v = (.tuple #[(.bool r.1), (.bool r.2)]) ∧ Chg [] w w') := by
 refine calls_fr Tryz.func8 rfl Tryz.ntmps8 (Nat.le_of_ble_eq_true rfl) ?_
 have hO := Own.start (N := Nw w []) hM Nw.fut
 have hC := Chg.refl [] w
 unfold s_impl_IsArithmetical at hs
 refine wp_mono (Q := KPost (k_impl_IsArithmetical M w r)) ?_ (fun e a w1 h => ?_)
 rotate_left
 ·cases e
  case ret =>
   obtain ⟨σ, rfl, hrest⟩ := h
   exact ret2x Tryz.results8 (res_tmp rfl) (res_tmp rfl) ⟨rfl, hrest⟩
  all_goals exact (h : False).elim
 refine c_seq (c_region ?_)
 obtain ⟨w2, g2, ew2, eg2, hC2, hb2⟩ := new_block w [(.int .i64 a_.1), (.slice pa0 pn0 pc0)] 30
 refine pl_val (w' := w2) (.pointer (some ⟨g2, 0, none⟩)) (y_box rfl (by rw [ew2, eg2]; kernel_rfl)) ?_
 have h0 := h0.ext hC2
 have hC := hC.ext hC2
 have hO := hO.new1 hC2 eg2 hb2.lt
 refine pl_val (.bool false) (y_assign rfl) ?_
 refine pl_val (.bool false) (y_assign rfl) ?_
 refine c_nil ?_
 refine c_seq (c_region ?_)
 refine pl_val (.agg #[(.int .i64 a_.1), (.slice pa0 pn0 pc0)]) (y_load rfl ((box_load Ag30 Sz30 hb2 [] [(.int .i64 a_.1), (.slice pa0 pn0 pc0)] [] rfl rfl (fun h => nomatch h)) _ (Chg.refl _ _))) ?_
 obtain ⟨r4, hr4, hs⟩ := bind_some hs
 refine pl_call Bd20 rfl (c_impl_ArePermutable (M := M) (a_.1, a_.2) h0 hO.fut hr4) ?_
 rintro _ w3 ⟨rfl, hC3⟩
 have h0 := h0.ext hC3
 have hb2 := hb2.chg hC3 (fun h => nomatch h)
 have hC := hC.ext hC3
 have hO := hO.ext hC3
 refine pl_val (.tuple #[(.bool r4.1), (.bool r4.2)]) (y_move rfl) ?_
 refine pl_val (.bool r4.1) (y_extract rfl (by kernel_rfl)) ?_
 refine pl_val (.bool r4.2) (y_extract rfl (by kernel_rfl)) ?_
 refine pl_val (.bool r4.1) (y_assign rfl) ?_
 refine pl_val (.bool r4.2) (y_assign rfl) ?_
 refine c_nil ?_
 refine c_seq ?_
 refine c_seq (c_region ?_)
 refine pl_val (.bool r4.2) (y_move rfl) ?_
 refine pl_val (.bool (!r4.2)) (y_not rfl) ?_
 refine c_nil ?_
 rcases bif_some hs with ⟨hc5, hs⟩ | ⟨hc5, hs⟩
 ·skip
  refine c_condT (congrArg Value.bool hc5) ?_
  refine c_seq (c_region ?_)
  refine pl_val (.bool false) (y_assign rfl) ?_
  refine pl_val (.bool false) (y_assign rfl) ?_
  refine c_nil ?_
  refine wp_ret ?_
  cases hs
  exact ⟨_, fr_ovl 24 ⟨rfl, rfl, trivial⟩, hC⟩
 ·skip
  refine c_condF (congrArg Value.bool hc5) ?_
  refine wp_skip ?_
  refine c_seq (c_region ?_)
  refine pl_val (.agg #[(.int .i64 a_.1), (.slice pa0 pn0 pc0)]) (y_load rfl ((box_load Ag30 Sz30 hb2 [] [(.int .i64 a_.1), (.slice pa0 pn0 pc0)] [] rfl rfl (fun h => nomatch h)) _ (Chg.refl _ _))) ?_
  obtain ⟨r7, hr7, hs⟩ := bind_some hs
  refine pl_call Bd21 rfl (c_impl_AreDistributive (M := M) (a_.1, a_.2) h0 hO.fut hr7) ?_
  rintro _ w6 ⟨rfl, hC6⟩
  have h0 := h0.ext hC6
  have hb2 := hb2.chg hC6 (fun h => nomatch h)
  have hC := hC.ext hC6
  have hO := hO.ext hC6
  refine pl_val (.tuple #[(.bool r7.1), (.bool r7.2)]) (y_move rfl) ?_
  refine pl_val (.bool r7.1) (y_extract rfl (by kernel_rfl)) ?_
  refine pl_val (.bool r7.2) (y_extract rfl (by kernel_rfl)) ?_
  refine pl_val (.bool r7.1) (y_assign rfl) ?_
  refine pl_val (.bool r7.2) (y_assign rfl) ?_
  refine c_nil ?_
  refine c_seq (c_region ?_)
  refine pl_val (.bool r4.1) (y_move rfl) ?_
  refine pl_val (.bool r4.1) (y_move rfl) ?_
  rcases bif_some hs with ⟨hc8, hs⟩ | ⟨hc8, hs⟩
  ·skip
   refine pl_yes (.bool r7.1) (tg := 21) (by kernel_rfl) (congrArg Value.bool hc8) (y_move rfl) ?_
   refine pl_val (.bool r7.1) (y_pick_t (congrArg Value.bool hc8) rfl) ?_
   refine pl_val (.bool r7.1) (y_assign rfl) ?_
   refine pl_val (.bool true) (y_assign rfl) ?_
   refine c_nil ?_
   refine wp_ret ?_
   cases hs
   exact ⟨_, fr_ovl 24 ⟨rfl, rfl, trivial⟩, hC⟩
  ·skip
   refine pl_not (tg := 21) (by kernel_rfl) (congrArg Value.bool hc8) ?_
   refine pl_val (.bool false) (y_pick_f (congrArg Value.bool hc8) rfl) ?_
   refine pl_val (.bool false) (y_assign rfl) ?_
   refine pl_val (.bool true) (y_assign rfl) ?_
   refine c_nil ?_
   refine wp_ret ?_
   cases hs
   exact ⟨_, fr_ovl 24 ⟨rfl, rfl, trivial⟩, hC⟩

def k_laws_eqIntS (M : Nat → Prop) (w0 : World) (r : Bool) (a : Act) (w : World) : Prop :=
  ∃ (σ : Nat → Value) , a = fr 26 (ovl σ [(4, (.bool r))]) ∧ Chg [] w0 w
def s_laws_eqIntS (a_ : List Int) (b : List Int) : Option (Bool) :=
  (bif ((a_.length : Int) != (b.length : Int)) then some false else (forC (S := Unit) (R := Bool) (fun k12 s10 =>
  (idx a_ k12).bind fun x17 =>
  (idx b k12).bind fun x19 =>
  (bif (x17 != x19) then some (.rt false) else some (.nx ()))) 0 (a_.length : Int) ()).bind fun o14 => after o14 (fun r_ => some r_) (fun s10 =>
  some true))
set_option maxHeartbeats 4000000 in
theorem c_laws_eqIntS {M : Nat → Prop} {w : World} {pa0 : Option Addr} {pn0 pc0 : Nat} {pa1 : Option Addr} {pn1 pc1 : Nat} (a_ : List Int) (b : List Int) (h0 : (RT.rs (RT.int .i64)).val M w (.slice pa0 pn0 pc0) a_ ([])) (h1 : (RT.rs (RT.int .i64)).val M w (.slice pa1 pn1 pc1) b ([])) (hM : ∀ g, w.heap.size ≤ g → M g) {r : Bool} (hs : s_laws_eqIntS a_ b = some r) :
    Gives Tryz.prog 58 [(.slice pa0 pn0 pc0), (.slice pa1 pn1 pc1)] w (fun v w' => v = (.bool r) ∧ Chg [] w w') := by
 refine calls_fr Tryz.func58 rfl Tryz.ntmps58 (Nat.le_of_ble_eq_true rfl) ?_
 have hO := Own.start (N := Nw w []) hM Nw.fut
 have hC := Chg.refl [] w
 unfold s_laws_eqIntS at hs
 refine wp_mono (Q := KPost (k_laws_eqIntS M w r)) ?_ (fun e a w1 h => ?_)
 rotate_left
 ·cases e
  case ret =>
   obtain ⟨σ, rfl, hrest⟩ := h
   exact ret1x Tryz.results58 (res_tmp rfl) ⟨rfl, hrest⟩
  all_goals exact (h : False).elim
 refine c_seq (c_region ?_)
 refine pl_val (.bool false) (y_assign rfl) ?_
 refine c_nil ?_
 refine c_seq ?_
 refine c_seq (c_region ?_)
 refine pl_val (.slice pa0 pn0 pc0) (y_move rfl) ?_
 refine pl_val (.int .i64 (a_.length : Int)) (y_len' Sl47 (rs_len h0) rfl) ?_
 refine pl_val (.slice pa1 pn1 pc1) (y_move rfl) ?_
 refine pl_val (.int .i64 (b.length : Int)) (y_len' Sl47 (rs_len h1) rfl) ?_
 refine pl_val (.bool ((a_.length : Int) != (b.length : Int))) (y_neq rfl rfl) ?_
 refine c_nil ?_
 rcases bif_some hs with ⟨hc3, hs⟩ | ⟨hc3, hs⟩
 ·skip
  refine c_condT (congrArg Value.bool hc3) ?_
  refine c_seq (c_region ?_)
  refine pl_val (.bool false) (y_assign rfl) ?_
  refine c_nil ?_
  refine wp_ret ?_
  cases hs
  exact ⟨_, fr_ovl 26 ⟨rfl, trivial⟩, hC⟩
 ·skip
  refine c_condF (congrArg Value.bool hc3) ?_
  refine wp_skip ?_
  refine c_seq ?_
  refine c_seq (c_region ?_)
  refine pl_val (.int .i64 0) (y_assign rfl) ?_
  refine c_nil ?_
  obtain ⟨o14, hl15, hs⟩ := bind_some hs
  refine wp_block ?_
  refine wp_forC (id := 0) (a_.length : Int) (I := fun k12 s10 a w11 => ∃ (σ : Nat → Value), a = fr 26 (ovl σ [(0, (.slice pa0 pn0 pc0)), (1, (.slice pa1 pn1 pc1)), (5, (.int .i64 k12))]) ∧ Chg [] w w11 ∧ Own (Nw w []) M w11 ([]) ∧ (RT.rs (RT.int .i64)).val M w11 (.slice pa0 pn0 pc0) a_ ([]) ∧ (RT.rs (RT.int .i64)).val M w11 (.slice pa1 pn1 pc1) b ([])) (J := fun s10 a w11 => ∃ (σ : Nat → Value), a = fr 26 (ovl σ []) ∧ Chg [] w w11 ∧ Own (Nw w []) M w11 ([]) ∧ (RT.rs (RT.int .i64)).val M w11 (.slice pa0 pn0 pc0) a_ ([]) ∧ (RT.rs (RT.int .i64)).val M w11 (.slice pa1 pn1 pc1) b ([])) (K := (k_laws_eqIntS M w)) ?_ ?_ 0 () o14 _ _ ?_ hl15 ?_
  ·rintro k12 s10 a w11 ⟨σ, rfl, hC, hO, h0, h1⟩ hlt
   refine c_seq ?_
   refine c_seq (c_region ?_)
   refine pl_val (.int .i64 k12) (y_move rfl) ?_
   refine pl_val (.slice pa0 pn0 pc0) (y_move rfl) ?_
   refine pl_val (.int .i64 (a_.length : Int)) (y_len' Sl47 (rs_len h0) rfl) ?_
   refine pl_val (.bool (decide (k12 < (a_.length : Int)))) (y_lss rfl rfl) ?_
   refine c_nil ?_
   refine c_condF (congrArg Value.bool (decide_eq_false hlt)) ?_
   refine wp_exit ?_
   exact ⟨rfl, _, fr_ovl 26 trivial, hC, hO, h0, h1⟩
  ·rintro k12 s10 o14 a w11 ⟨σ, rfl, hC, hO, h0, h1⟩ hlt hw hs
   refine c_seq ?_
   refine c_seq (c_region ?_)
   refine pl_val (.int .i64 k12) (y_move rfl) ?_
   refine pl_val (.slice pa0 pn0 pc0) (y_move rfl) ?_
   refine pl_val (.int .i64 (a_.length : Int)) (y_len' Sl47 (rs_len h0) rfl) ?_
   refine pl_val (.bool (decide (k12 < (a_.length : Int)))) (y_lss rfl rfl) ?_
   refine c_nil ?_
   refine c_condT (congrArg Value.bool (decide_eq_true hlt)) ?_
   refine wp_skip ?_
   refine c_seq ?_
   refine wp_block ?_
   refine c_seq ?_
   refine x_start [] Mx rfl ?_
   have hCw16 := Chg.drew w11
   generalize World.drew w11 = w16 at hCw16 ⊢
   have h0 := h0.ext hCw16
   have h1 := h1.ext hCw16
   have hC := hC.ext hCw16
   have hO := hO.ext hCw16
   have hS := Chg.refl [] w16
   refine x_p 0 (.slice pa0 pn0 pc0) rfl (by kernel_rfl)  (fun _ => y_move rfl) (fun _ => hS) ?_
   refine x_p 1 (.int .i64 k12) rfl (by kernel_rfl)  (fun _ => y_move rfl) (fun _ => hS) ?_
   obtain ⟨x17, hx17, hs⟩ := bind_some hs
   obtain ⟨b18, o18, hp18, ha18⟩ := rs_idx Sl47 Sz3 h0 hx17
   refine x_p 2 (.pointer (some ⟨b18, o18, none⟩)) rfl (by kernel_rfl)  (fun _ => hp18 _ _ _ _ _ _ _ _ _ rfl rfl) (fun _ => hS) ?_
   refine x_l 3 (.int .i64 x17) rfl (by kernel_rfl)  (fun w' hw' => y_load rfl ((at_load_int Ag3 Sz3 ha18) w' hw')) hS ?_
   refine x_p 4 (.slice pa1 pn1 pc1) rfl (by kernel_rfl)  (fun _ => y_move rfl) (fun _ => hS) ?_
   refine x_p 5 (.int .i64 k12) rfl (by kernel_rfl)  (fun _ => y_move rfl) (fun _ => hS) ?_
   obtain ⟨x19, hx19, hs⟩ := bind_some hs
   obtain ⟨b20, o20, hp20, ha20⟩ := rs_idx Sl47 Sz3 h1 hx19
   refine x_p 6 (.pointer (some ⟨b20, o20, none⟩)) rfl (by kernel_rfl)  (fun _ => hp20 _ _ _ _ _ _ _ _ _ rfl rfl) (fun _ => hS) ?_
   refine x_l 7 (.int .i64 x19) rfl (by kernel_rfl)  (fun w' hw' => y_load rfl ((at_load_int Ag3 Sz3 ha20) w' hw')) hS ?_
   refine x_p 8 (.bool (x17 != x19)) rfl (by kernel_rfl)  (fun _ => y_neq rfl rfl) (fun _ => hS) ?_
   refine x_end (by kernel_rfl) ?_
   clear hS
   rcases bif_some hs with ⟨hc21, hs⟩ | ⟨hc21, hs⟩
   ·skip
    refine c_condT (congrArg Value.bool hc21) ?_
    refine c_seq (c_region ?_)
    refine pl_val (.bool false) (y_assign rfl) ?_
    refine c_nil ?_
    refine wp_ret ?_
    cases hs
    exact ⟨_, fr_ovl 26 ⟨rfl, trivial⟩, hC⟩
   ·skip
    refine c_condF (congrArg Value.bool hc21) ?_
    refine wp_skip ?_
    refine c_region ?_
    refine pl_val (.int .i64 k12) (y_move rfl) ?_
    refine pl_val (.int .i64 (w64 (k12 + 1))) (y_add rfl rfl) ?_
    refine pl_val (.int .i64 (w64 (k12 + 1))) (y_assign rfl) ?_
    refine c_nil ?_
    cases hs
    exact ⟨_, fr_ovl 26 ⟨rfl, rfl, congrArg (Value.int .i64) hw, trivial⟩, hC, hO, h0, h1⟩
  ·skip
   exact ⟨_, fr_ovl 26 ⟨rfl, rfl, rfl, trivial⟩, hC, hO, h0, h1⟩
  ·cases o14 with
   | nx _ => exact True.intro
   | rt r_ =>
    have hs := after_rt hs
    intro a1 w1 hK
    cases hs
    exact hK
   | br s10 =>
    have hs := after_br hs
    rintro a1 w11 ⟨σ, rfl, hC, hO, h0, h1⟩
    refine c_seq (c_region ?_)
    refine pl_val (.bool true) (y_assign rfl) ?_
    refine c_nil ?_
    refine wp_ret ?_
    cases hs
    exact ⟨_, fr_ovl 26 ⟨rfl, trivial⟩, hC⟩

theorem Bd58 : Bodied Tryz.prog 58 := bodied Tryz.func58 (by kernel_rfl) rfl

def k_laws_eqOp (M : Nat → Prop) (w0 : World) (r : Bool) (a : Act) (w : World) : Prop :=
  ∃ (σ : Nat → Value) , a = fr 16 (ovl σ [(4, (.bool r))]) ∧ Chg [] w0 w
def s_laws_eqOp (a_ : Int × (List Int)) (b : Int × (List Int)) : Option (Bool) :=
  (bif (a_.1 != b.1) then some false else (s_laws_eqIntS a_.2 b.2).bind fun r7 =>
  (bif (!r7) then some false else some true))
set_option maxHeartbeats 4000000 in
theorem c_laws_eqOp {M : Nat → Prop} {w : World} {pa0 : Option Addr} {pn0 pc0 : Nat} {pa1 : Option Addr} {pn1 pc1 : Nat} (a_ : Int × (List Int)) (b : Int × (List Int)) (h0 : (RT.rs (RT.int .i64)).val M w (.slice pa0 pn0 pc0) a_.2 ([])) (h1 : (RT.rs (RT.int .i64)).val M w (.slice pa1 pn1 pc1) b.2 ([])) (hM : ∀ g, w.heap.size ≤ g → M g) {r : Bool} (hs : s_laws_eqOp a_ b = some r) :
    Gives Tryz.prog 42 [(.agg #[(.int .i64 a_.1), (.slice pa0 pn0 pc0)]), (.agg #[(.int .i64 b.1), (.slice pa1 pn1 pc1)])] w (fun v w' => v = (.bool r) ∧ Chg [] w w') := by
 refine calls_fr Tryz.func42 rfl Tryz.ntmps42 (Nat.le_of_ble_eq_true rfl) ?_
 have hO := Own.start (N := Nw w []) hM Nw.fut
 have hC := Chg.refl [] w
 unfold s_laws_eqOp at hs
 refine wp_mono (Q := KPost (k_laws_eqOp M w r)) ?_ (fun e a w1 h => ?_)
 rotate_left
 ·cases e
  case ret =>
   obtain ⟨σ, rfl, hrest⟩ := h
   exact ret1x Tryz.results42 (res_tmp rfl) ⟨rfl, hrest⟩
  all_goals exact (h : False).elim
 refine c_seq (c_region ?_)
 obtain ⟨w3, g3, ew3, eg3, hC3, hb3⟩ := new_block w [(.int .i64 a_.1), (.slice pa0 pn0 pc0)] 60
 refine pl_val (w' := w3) (.pointer (some ⟨g3, 0, none⟩)) (y_box rfl (by rw [ew3, eg3]; kernel_rfl)) ?_
 have h0 := h0.ext hC3
 have h1 := h1.ext hC3
 have hC := hC.ext hC3
 have hO := hO.new1 hC3 eg3 hb3.lt
 obtain ⟨w4, g4, ew4, eg4, hC4, hb4⟩ := new_block w3 [(.int .i64 b.1), (.slice pa1 pn1 pc1)] 60
 refine pl_val (w' := w4) (.pointer (some ⟨g4, 0, none⟩)) (y_box rfl (by rw [ew4, eg4]; kernel_rfl)) ?_
 have h0 := h0.ext hC4
 have h1 := h1.ext hC4
 have hb3 := hb3.chg hC4 (fun h => nomatch h)
 have hC := hC.ext hC4
 have hO := hO.new1 hC4 eg4 hb4.lt
 refine pl_val (.bool false) (y_assign rfl) ?_
 refine c_nil ?_
 refine c_seq ?_
 refine c_seq (c_region ?_)
 refine pl_val (.pointer (some ⟨g3, 0, none⟩)) (y_faddr rfl Fa60x0) ?_
 refine pl_val (.int .i64 a_.1) (y_load rfl ((box_load Ag3 Sz3 hb3 [] [(.int .i64 a_.1)] [(.slice pa0 pn0 pc0)] rfl rfl (fun _ => rfl)) _ (Chg.refl _ _))) ?_
 refine pl_val (.pointer (some ⟨g4, 0, none⟩)) (y_faddr rfl Fa60x0) ?_
 refine pl_val (.int .i64 b.1) (y_load rfl ((box_load Ag3 Sz3 hb4 [] [(.int .i64 b.1)] [(.slice pa1 pn1 pc1)] rfl rfl (fun _ => rfl)) _ (Chg.refl _ _))) ?_
 refine pl_val (.bool (a_.1 != b.1)) (y_neq rfl rfl) ?_
 refine c_nil ?_
 rcases bif_some hs with ⟨hc5, hs⟩ | ⟨hc5, hs⟩
 ·skip
  refine c_condT (congrArg Value.bool hc5) ?_
  refine c_seq (c_region ?_)
  refine pl_val (.bool false) (y_assign rfl) ?_
  refine c_nil ?_
  refine wp_ret ?_
  cases hs
  exact ⟨_, fr_ovl 16 ⟨rfl, trivial⟩, hC⟩
 ·skip
  refine c_condF (congrArg Value.bool hc5) ?_
  refine wp_skip ?_
  refine c_seq ?_
  refine c_seq (c_region ?_)
  refine pl_val (.pointer (some ⟨g3, 1, none⟩)) (y_faddr rfl Fa60x1) ?_
  refine pl_val (.slice pa0 pn0 pc0) (y_load rfl ((box_load Ag47 Sz47 hb3 [(.int .i64 a_.1)] [(.slice pa0 pn0 pc0)] [] rfl rfl (fun _ => rfl)) _ (Chg.refl _ _))) ?_
  refine pl_val (.pointer (some ⟨g4, 1, none⟩)) (y_faddr rfl Fa60x1) ?_
  refine pl_val (.slice pa1 pn1 pc1) (y_load rfl ((box_load Ag47 Sz47 hb4 [(.int .i64 b.1)] [(.slice pa1 pn1 pc1)] [] rfl rfl (fun _ => rfl)) _ (Chg.refl _ _))) ?_
  obtain ⟨r7, hr7, hs⟩ := bind_some hs
  refine pl_call Bd58 rfl (c_laws_eqIntS (M := M) a_.2 b.2 h0 h1 hO.fut hr7) ?_
  rintro _ w6 ⟨rfl, hC6⟩
  have h0 := h0.ext hC6
  have h1 := h1.ext hC6
  have hb3 := hb3.chg hC6 (fun h => nomatch h)
  have hb4 := hb4.chg hC6 (fun h => nomatch h)
  have hC := hC.ext hC6
  have hO := hO.ext hC6
  refine pl_val (.bool (!r7)) (y_not rfl) ?_
  refine c_nil ?_
  rcases bif_some hs with ⟨hc8, hs⟩ | ⟨hc8, hs⟩
  ·skip
   refine c_condT (congrArg Value.bool hc8) ?_
   refine c_seq (c_region ?_)
   refine pl_val (.bool false) (y_assign rfl) ?_
   refine c_nil ?_
   refine wp_ret ?_
   cases hs
   exact ⟨_, fr_ovl 16 ⟨rfl, trivial⟩, hC⟩
  ·skip
   refine c_condF (congrArg Value.bool hc8) ?_
   refine wp_skip ?_
   refine c_seq (c_region ?_)
   refine pl_val (.bool true) (y_assign rfl) ?_
   refine c_nil ?_
   refine wp_ret ?_
   cases hs
   exact ⟨_, fr_ovl 16 ⟨rfl, trivial⟩, hC⟩

theorem Bd42 : Bodied Tryz.prog 42 := bodied Tryz.func42 (by kernel_rfl) rfl

def k_laws_eqOpS (M : Nat → Prop) (w0 : World) (r : Bool) (a : Act) (w : World) : Prop :=
  ∃ (σ : Nat → Value) , a = fr 27 (ovl σ [(4, (.bool r))]) ∧ Chg [] w0 w
def s_laws_eqOpS (a_ : List (Int × (List Int))) (b : List (Int × (List Int))) : Option (Bool) :=
  (bif ((a_.length : Int) != (b.length : Int)) then some false else (forC (S := Unit) (R := Bool) (fun k18 s16 =>
  (idx a_ k18).bind fun x23 =>
  (idx b k18).bind fun x27 =>
  (s_laws_eqOp (x23.1, x23.2) (x27.1, x27.2)).bind fun r32 =>
  (bif (!r32) then some (.rt false) else some (.nx ()))) 0 (a_.length : Int) ()).bind fun o20 => after o20 (fun r_ => some r_) (fun s16 =>
  some true))
set_option maxHeartbeats 4000000 in
theorem c_laws_eqOpS {M : Nat → Prop} {w : World} {pa0 : Option Addr} {pn0 pc0 : Nat} {pa1 : Option Addr} {pn1 pc1 : Nat} (a_ : List (Int × (List Int))) (b : List (Int × (List Int))) (h0 : (RT.rs (RT.pr (RT.int .i64) (RT.rs (RT.int .i64)))).val M w (.slice pa0 pn0 pc0) a_ ([])) (h1 : (RT.rs (RT.pr (RT.int .i64) (RT.rs (RT.int .i64)))).val M w (.slice pa1 pn1 pc1) b ([])) (hM : ∀ g, w.heap.size ≤ g → M g) {r : Bool} (hs : s_laws_eqOpS a_ b = some r) :
    Gives Tryz.prog 22 [(.slice pa0 pn0 pc0), (.slice pa1 pn1 pc1)] w (fun v w' => v = (.bool r) ∧ Chg [] w w') := by
 refine calls_fr Tryz.func22 rfl Tryz.ntmps22 (Nat.le_of_ble_eq_true rfl) ?_
 have hO := Own.start (N := Nw w []) hM Nw.fut
 have hC := Chg.refl [] w
 unfold s_laws_eqOpS at hs
 refine wp_mono (Q := KPost (k_laws_eqOpS M w r)) ?_ (fun e a w1 h => ?_)
 rotate_left
 ·cases e
  case ret =>
   obtain ⟨σ, rfl, hrest⟩ := h
   exact ret1x Tryz.results22 (res_tmp rfl) ⟨rfl, hrest⟩
  all_goals exact (h : False).elim
 refine c_seq (c_region ?_)
 refine pl_val (.bool false) (y_assign rfl) ?_
 refine c_nil ?_
 refine c_seq ?_
 refine c_seq (c_region ?_)
 refine pl_val (.slice pa0 pn0 pc0) (y_move rfl) ?_
 refine pl_val (.int .i64 (a_.length : Int)) (y_len' Sl28 (rs_len h0) rfl) ?_
 refine pl_val (.slice pa1 pn1 pc1) (y_move rfl) ?_
 refine pl_val (.int .i64 (b.length : Int)) (y_len' Sl28 (rs_len h1) rfl) ?_
 refine pl_val (.bool ((a_.length : Int) != (b.length : Int))) (y_neq rfl rfl) ?_
 refine c_nil ?_
 rcases bif_some hs with ⟨hc3, hs⟩ | ⟨hc3, hs⟩
 ·skip
  refine c_condT (congrArg Value.bool hc3) ?_
  refine c_seq (c_region ?_)
  refine pl_val (.bool false) (y_assign rfl) ?_
  refine c_nil ?_
  refine wp_ret ?_
  cases hs
  exact ⟨_, fr_ovl 27 ⟨rfl, trivial⟩, hC⟩
 ·skip
  refine c_condF (congrArg Value.bool hc3) ?_
  refine wp_skip ?_
  refine c_seq ?_
  refine c_seq (c_region ?_)
  refine pl_val (.int .i64 0) (y_assign rfl) ?_
  refine c_nil ?_
  obtain ⟨o20, hl21, hs⟩ := bind_some hs
  refine wp_block ?_
  refine wp_forC (id := 0) (a_.length : Int) (I := fun k18 s16 a w17 => ∃ (σ : Nat → Value), a = fr 27 (ovl σ [(0, (.slice pa0 pn0 pc0)), (1, (.slice pa1 pn1 pc1)), (5, (.int .i64 k18))]) ∧ Chg [] w w17 ∧ Own (Nw w []) M w17 ([]) ∧ (RT.rs (RT.pr (RT.int .i64) (RT.rs (RT.int .i64)))).val M w17 (.slice pa0 pn0 pc0) a_ ([]) ∧ (RT.rs (RT.pr (RT.int .i64) (RT.rs (RT.int .i64)))).val M w17 (.slice pa1 pn1 pc1) b ([])) (J := fun s16 a w17 => ∃ (σ : Nat → Value), a = fr 27 (ovl σ []) ∧ Chg [] w w17 ∧ Own (Nw w []) M w17 ([]) ∧ (RT.rs (RT.pr (RT.int .i64) (RT.rs (RT.int .i64)))).val M w17 (.slice pa0 pn0 pc0) a_ ([]) ∧ (RT.rs (RT.pr (RT.int .i64) (RT.rs (RT.int .i64)))).val M w17 (.slice pa1 pn1 pc1) b ([])) (K := (k_laws_eqOpS M w)) ?_ ?_ 0 () o20 _ _ ?_ hl21 ?_
  ·rintro k18 s16 a w17 ⟨σ, rfl, hC, hO, h0, h1⟩ hlt
   refine c_seq ?_
   refine c_seq (c_region ?_)
   refine pl_val (.int .i64 k18) (y_move rfl) ?_
   refine pl_val (.slice pa0 pn0 pc0) (y_move rfl) ?_
   refine pl_val (.int .i64 (a_.length : Int)) (y_len' Sl28 (rs_len h0) rfl) ?_
   refine pl_val (.bool (decide (k18 < (a_.length : Int)))) (y_lss rfl rfl) ?_
   refine c_nil ?_
   refine c_condF (congrArg Value.bool (decide_eq_false hlt)) ?_
   refine wp_exit ?_
   exact ⟨rfl, _, fr_ovl 27 trivial, hC, hO, h0, h1⟩
  ·rintro k18 s16 o20 a w17 ⟨σ, rfl, hC, hO, h0, h1⟩ hlt hw hs
   refine c_seq ?_
   refine c_seq (c_region ?_)
   refine pl_val (.int .i64 k18) (y_move rfl) ?_
   refine pl_val (.slice pa0 pn0 pc0) (y_move rfl) ?_
   refine pl_val (.int .i64 (a_.length : Int)) (y_len' Sl28 (rs_len h0) rfl) ?_
   refine pl_val (.bool (decide (k18 < (a_.length : Int)))) (y_lss rfl rfl) ?_
   refine c_nil ?_
   refine c_condT (congrArg Value.bool (decide_eq_true hlt)) ?_
   refine wp_skip ?_
   refine c_seq ?_
   refine wp_block ?_
   refine c_seq ?_
   refine x_start [] Mx rfl ?_
   have hCw22 := Chg.drew w17
   generalize World.drew w17 = w22 at hCw22 ⊢
   have h0 := h0.ext hCw22
   have h1 := h1.ext hCw22
   have hC := hC.ext hCw22
   have hO := hO.ext hCw22
   have hS := Chg.refl [] w22
   refine x_p 0 (.slice pa0 pn0 pc0) rfl (by kernel_rfl)  (fun _ => y_move rfl) (fun _ => hS) ?_
   refine x_p 1 (.int .i64 k18) rfl (by kernel_rfl)  (fun _ => y_move rfl) (fun _ => hS) ?_
   obtain ⟨x23, hx23, hs⟩ := bind_some hs
   obtain ⟨b24, o24, hp24, ha24⟩ := rs_idx Sl28 Sz60 h0 hx23
   refine x_p 2 (.pointer (some ⟨b24, o24, none⟩)) rfl (by kernel_rfl)  (fun _ => hp24 _ _ _ _ _ _ _ _ _ rfl rfl) (fun _ => hS) ?_
   obtain ⟨v25, hl25, hv25⟩ := at_load Ag60 Sz60 (by intro h; cases h) ha24
   obtain ⟨cs25, rfl, hr25⟩ := hv25
   obtain ⟨cc25x1, cd25x1, rfl, hh25x1, ht25x1⟩ := pr_open hr25
   obtain rfl := int_rel hh25x1
   obtain ⟨a25x2, n25x2, c25x2, rfl, hv25x2⟩ := rs_rel ht25x1
   refine x_l 3 (.agg #[(.int .i64 x23.1), (.slice a25x2 n25x2 c25x2)]) rfl (by kernel_rfl)  (fun w' hw' => y_load rfl (hl25 w' hw')) hS ?_
   refine x_p 4 (.slice pa1 pn1 pc1) rfl (by kernel_rfl)  (fun _ => y_move rfl) (fun _ => hS) ?_
   refine x_p 5 (.int .i64 k18) rfl (by kernel_rfl)  (fun _ => y_move rfl) (fun _ => hS) ?_
   obtain ⟨x27, hx27, hs⟩ := bind_some hs
   obtain ⟨b28, o28, hp28, ha28⟩ := rs_idx Sl28 Sz60 h1 hx27
   refine x_p 6 (.pointer (some ⟨b28, o28, none⟩)) rfl (by kernel_rfl)  (fun _ => hp28 _ _ _ _ _ _ _ _ _ rfl rfl) (fun _ => hS) ?_
   obtain ⟨v29, hl29, hv29⟩ := at_load Ag60 Sz60 (by intro h; cases h) ha28
   obtain ⟨cs29, rfl, hr29⟩ := hv29
   obtain ⟨cc29x1, cd29x1, rfl, hh29x1, ht29x1⟩ := pr_open hr29
   obtain rfl := int_rel hh29x1
   obtain ⟨a29x2, n29x2, c29x2, rfl, hv29x2⟩ := rs_rel ht29x1
   refine x_l 7 (.agg #[(.int .i64 x27.1), (.slice a29x2 n29x2 c29x2)]) rfl (by kernel_rfl)  (fun w' hw' => y_load rfl (hl29 w' hw')) hS ?_
   refine x_one (i := 8) (by kernel_rfl) ?_
   obtain ⟨r32, hr32, hs⟩ := bind_some hs
   refine xk_call (b := false) rfl  Bd42 rfl (c_laws_eqOp (M := M) (x23.1, x23.2) (x27.1, x27.2) hv25x2 hv29x2 hO.fut hr32) rfl (by rintro _ _ _ ⟨rfl, hC31⟩; exact hS.ext hC31) ?_
   rintro _ w31 ⟨rfl, hC31⟩
   have h0 := h0.ext hC31
   have h1 := h1.ext hC31
   have hv25x2 := hv25x2.ext hC31
   have hv29x2 := hv29x2.ext hC31
   have hC := hC.ext hC31
   have hO := hO.ext hC31
   have hS := hS.ext hC31
   refine x_p 9 (.bool (!r32)) rfl (by kernel_rfl)  (fun _ => y_not rfl) (fun _ => hS) ?_
   refine x_end (by kernel_rfl) ?_
   clear hS
   rcases bif_some hs with ⟨hc33, hs⟩ | ⟨hc33, hs⟩
   ·skip
    refine c_condT (congrArg Value.bool hc33) ?_
    refine c_seq (c_region ?_)
    refine pl_val (.bool false) (y_assign rfl) ?_
    refine c_nil ?_
    refine wp_ret ?_
    cases hs
    exact ⟨_, fr_ovl 27 ⟨rfl, trivial⟩, hC⟩
   ·skip
    refine c_condF (congrArg Value.bool hc33) ?_
    refine wp_skip ?_
    refine c_region ?_
    refine pl_val (.int .i64 k18) (y_move rfl) ?_
    refine pl_val (.int .i64 (w64 (k18 + 1))) (y_add rfl rfl) ?_
    refine pl_val (.int .i64 (w64 (k18 + 1))) (y_assign rfl) ?_
    refine c_nil ?_
    cases hs
    exact ⟨_, fr_ovl 27 ⟨rfl, rfl, congrArg (Value.int .i64) hw, trivial⟩, hC, hO, h0, h1⟩
  ·skip
   exact ⟨_, fr_ovl 27 ⟨rfl, rfl, rfl, trivial⟩, hC, hO, h0, h1⟩
  ·cases o20 with
   | nx _ => exact True.intro
   | rt r_ =>
    have hs := after_rt hs
    intro a1 w1 hK
    cases hs
    exact hK
   | br s16 =>
    have hs := after_br hs
    rintro a1 w17 ⟨σ, rfl, hC, hO, h0, h1⟩
    refine c_seq (c_region ?_)
    refine pl_val (.bool true) (y_assign rfl) ?_
    refine c_nil ?_
    refine wp_ret ?_
    cases hs
    exact ⟨_, fr_ovl 27 ⟨rfl, trivial⟩, hC⟩

theorem Bd22 : Bodied Tryz.prog 22 := bodied Tryz.func22 (by kernel_rfl) rfl

def k_laws_eqAlgebra (M : Nat → Prop) (w0 : World) (r : Bool) (a : Act) (w : World) : Prop :=
  ∃ (σ : Nat → Value) , a = fr 16 (ovl σ [(4, (.bool r))]) ∧ Chg [] w0 w
def s_laws_eqAlgebra (a_ : Int × (List (Int × (List Int)))) (b : Int × (List (Int × (List Int)))) : Option (Bool) :=
  (bif (a_.1 != b.1) then some false else (s_laws_eqOpS a_.2 b.2).bind fun r7 =>
  (bif (!r7) then some false else some true))
set_option maxHeartbeats 4000000 in
theorem c_laws_eqAlgebra {M : Nat → Prop} {w : World} {pa0 : Option Addr} {pn0 pc0 : Nat} {pa1 : Option Addr} {pn1 pc1 : Nat} (a_ : Int × (List (Int × (List Int)))) (b : Int × (List (Int × (List Int)))) (h0 : (RT.rs (RT.pr (RT.int .i64) (RT.rs (RT.int .i64)))).val M w (.slice pa0 pn0 pc0) a_.2 ([])) (h1 : (RT.rs (RT.pr (RT.int .i64) (RT.rs (RT.int .i64)))).val M w (.slice pa1 pn1 pc1) b.2 ([])) (hM : ∀ g, w.heap.size ≤ g → M g) {r : Bool} (hs : s_laws_eqAlgebra a_ b = some r) :
    Gives Tryz.prog 9 [(.agg #[(.int .i64 a_.1), (.slice pa0 pn0 pc0)]), (.agg #[(.int .i64 b.1), (.slice pa1 pn1 pc1)])] w (fun v w' => v = (.bool r) ∧ Chg [] w w') := by
 refine calls_fr Tryz.func9 rfl Tryz.ntmps9 (Nat.le_of_ble_eq_true rfl) ?_
 have hO := Own.start (N := Nw w []) hM Nw.fut
 have hC := Chg.refl [] w
 unfold s_laws_eqAlgebra at hs
 refine wp_mono (Q := KPost (k_laws_eqAlgebra M w r)) ?_ (fun e a w1 h => ?_)
 rotate_left
 ·cases e
  case ret =>
   obtain ⟨σ, rfl, hrest⟩ := h
   exact ret1x Tryz.results9 (res_tmp rfl) ⟨rfl, hrest⟩
  all_goals exact (h : False).elim
 refine c_seq (c_region ?_)
 obtain ⟨w3, g3, ew3, eg3, hC3, hb3⟩ := new_block w [(.int .i64 a_.1), (.slice pa0 pn0 pc0)] 30
 refine pl_val (w' := w3) (.pointer (some ⟨g3, 0, none⟩)) (y_box rfl (by rw [ew3, eg3]; kernel_rfl)) ?_
 have h0 := h0.ext hC3
 have h1 := h1.ext hC3
 have hC := hC.ext hC3
 have hO := hO.new1 hC3 eg3 hb3.lt
 obtain ⟨w4, g4, ew4, eg4, hC4, hb4⟩ := new_block w3 [(.int .i64 b.1), (.slice pa1 pn1 pc1)] 30
 refine pl_val (w' := w4) (.pointer (some ⟨g4, 0, none⟩)) (y_box rfl (by rw [ew4, eg4]; kernel_rfl)) ?_
 have h0 := h0.ext hC4
 have h1 := h1.ext hC4
 have hb3 := hb3.chg hC4 (fun h => nomatch h)
 have hC := hC.ext hC4
 have hO := hO.new1 hC4 eg4 hb4.lt
 refine pl_val (.bool false) (y_assign rfl) ?_
 refine c_nil ?_
 refine c_seq ?_
 refine c_seq (c_region ?_)
 refine pl_val (.pointer (some ⟨g3, 0, none⟩)) (y_faddr rfl Fa30x0) ?_
 refine pl_val (.int .i64 a_.1) (y_load rfl ((box_load Ag3 Sz3 hb3 [] [(.int .i64 a_.1)] [(.slice pa0 pn0 pc0)] rfl rfl (fun _ => rfl)) _ (Chg.refl _ _))) ?_
 refine pl_val (.pointer (some ⟨g4, 0, none⟩)) (y_faddr rfl Fa30x0) ?_
 refine pl_val (.int .i64 b.1) (y_load rfl ((box_load Ag3 Sz3 hb4 [] [(.int .i64 b.1)] [(.slice pa1 pn1 pc1)] rfl rfl (fun _ => rfl)) _ (Chg.refl _ _))) ?_
 refine pl_val (.bool (a_.1 != b.1)) (y_neq rfl rfl) ?_
 refine c_nil ?_
 rcases bif_some hs with ⟨hc5, hs⟩ | ⟨hc5, hs⟩
 ·skip
  refine c_condT (congrArg Value.bool hc5) ?_
  refine c_seq (c_region ?_)
  refine pl_val (.bool false) (y_assign rfl) ?_
  refine c_nil ?_
  refine wp_ret ?_
  cases hs
  exact ⟨_, fr_ovl 16 ⟨rfl, trivial⟩, hC⟩
 ·skip
  refine c_condF (congrArg Value.bool hc5) ?_
  refine wp_skip ?_
  refine c_seq ?_
  refine c_seq (c_region ?_)
  refine pl_val (.pointer (some ⟨g3, 1, none⟩)) (y_faddr rfl Fa30x1) ?_
  refine pl_val (.slice pa0 pn0 pc0) (y_load rfl ((box_load Ag28 Sz28 hb3 [(.int .i64 a_.1)] [(.slice pa0 pn0 pc0)] [] rfl rfl (fun _ => rfl)) _ (Chg.refl _ _))) ?_
  refine pl_val (.pointer (some ⟨g4, 1, none⟩)) (y_faddr rfl Fa30x1) ?_
  refine pl_val (.slice pa1 pn1 pc1) (y_load rfl ((box_load Ag28 Sz28 hb4 [(.int .i64 b.1)] [(.slice pa1 pn1 pc1)] [] rfl rfl (fun _ => rfl)) _ (Chg.refl _ _))) ?_
  obtain ⟨r7, hr7, hs⟩ := bind_some hs
  refine pl_call Bd22 rfl (c_laws_eqOpS (M := M) a_.2 b.2 h0 h1 hO.fut hr7) ?_
  rintro _ w6 ⟨rfl, hC6⟩
  have h0 := h0.ext hC6
  have h1 := h1.ext hC6
  have hb3 := hb3.chg hC6 (fun h => nomatch h)
  have hb4 := hb4.chg hC6 (fun h => nomatch h)
  have hC := hC.ext hC6
  have hO := hO.ext hC6
  refine pl_val (.bool (!r7)) (y_not rfl) ?_
  refine c_nil ?_
  rcases bif_some hs with ⟨hc8, hs⟩ | ⟨hc8, hs⟩
  ·skip
   refine c_condT (congrArg Value.bool hc8) ?_
   refine c_seq (c_region ?_)
   refine pl_val (.bool false) (y_assign rfl) ?_
   refine c_nil ?_
   refine wp_ret ?_
   cases hs
   exact ⟨_, fr_ovl 16 ⟨rfl, trivial⟩, hC⟩
  ·skip
   refine c_condF (congrArg Value.bool hc8) ?_
   refine wp_skip ?_
   refine c_seq (c_region ?_)
   refine pl_val (.bool true) (y_assign rfl) ?_
   refine c_nil ?_
   refine wp_ret ?_
   cases hs
   exact ⟨_, fr_ovl 16 ⟨rfl, trivial⟩, hC⟩

theorem Ag24 : AggT Tryz.prog 24 true := fun _ => by kernel_rfl

theorem Sz24 : SzT Tryz.prog 24 2 := ⟨_, rfl, rfl⟩

theorem Bd5 : Bodied Tryz.prog 5 := bodied Tryz.func5 (by kernel_rfl) rfl

theorem Bd7 : Bodied Tryz.prog 7 := bodied Tryz.func7 (by kernel_rfl) rfl

theorem Bd6 : Bodied Tryz.prog 6 := bodied Tryz.func6 (by kernel_rfl) rfl

theorem Bd8 : Bodied Tryz.prog 8 := bodied Tryz.func8 (by kernel_rfl) rfl

theorem Bd9 : Bodied Tryz.prog 9 := bodied Tryz.func9 (by kernel_rfl) rfl

def k_laws_FnExactIsArithmetical (M : Nat → Prop) (w0 : World) (r : Bool) (a : Act) (w : World) : Prop :=
  ∃ (σ : Nat → Value) , a = fr 40 (ovl σ [(2, (.bool r))]) ∧ Chg [] w0 w
def s_laws_FnExactIsArithmetical (aA : Int × (List (Int × (List Int)))) : Option (Bool) :=
  (s_laws_szAlgebra (aA.1, aA.2) 1048576).bind fun r4 =>
  (bif (decide (r4 < 0)) then some true else (s_laws_toAlgebra (aA.1, aA.2)).bind fun r7 =>
  (s_spec_IsArithmetical (r7.1, r7.2)).bind fun r10 =>
  (s_laws_toAlgebra (aA.1, aA.2)).bind fun r12 =>
  (s_impl_IsArithmetical (r12.1, r12.2)).bind fun r17 =>
  (bif ((!(r17.1 == r10.1)) || (!(r17.2 == r10.2))) then some false else (s_laws_toAlgebra (aA.1, aA.2)).bind fun r25 =>
  (s_laws_eqAlgebra (r12.1, r12.2) (r25.1, r25.2)).bind fun r28 =>
  (bif (!r28) then some false else some true)))
set_option maxHeartbeats 4000000 in
theorem c_laws_FnExactIsArithmetical {M : Nat → Prop} {w : World} {pa0 : Option Addr} {pn0 pc0 : Nat} (aA : Int × (List (Int × (List Int)))) (h0 : (RT.rs (RT.pr (RT.int .i64) (RT.rs (RT.int .i64)))).val M w (.slice pa0 pn0 pc0) aA.2 ([])) (hM : ∀ g, w.heap.size ≤ g → M g) {r : Bool} (hs : s_laws_FnExactIsArithmetical aA = some r) :
    Gives Tryz.prog 3 [(.agg #[(.int .i64 aA.1), (.slice pa0 pn0 pc0)])] w (fun v w' => v = (.bool r) ∧ Chg [] w w') := by
 refine calls_fr Tryz.func3 rfl Tryz.ntmps3 (Nat.le_of_ble_eq_true rfl) ?_
 have hO := Own.start (N := Nw w []) hM Nw.fut
 have hC := Chg.refl [] w
 unfold s_laws_FnExactIsArithmetical at hs
 refine wp_mono (Q := KPost (k_laws_FnExactIsArithmetical M w r)) ?_ (fun e a w1 h => ?_)
 rotate_left
 ·cases e
  case ret =>
   obtain ⟨σ, rfl, hrest⟩ := h
   exact ret1x Tryz.results3 (res_tmp rfl) ⟨rfl, hrest⟩
  all_goals exact (h : False).elim
 refine c_seq (c_region ?_)
 obtain ⟨w2, g2, ew2, eg2, hC2, hb2⟩ := new_block w [(.int .i64 aA.1), (.slice pa0 pn0 pc0)] 24
 refine pl_val (w' := w2) (.pointer (some ⟨g2, 0, none⟩)) (y_box rfl (by rw [ew2, eg2]; kernel_rfl)) ?_
 have h0 := h0.ext hC2
 have hC := hC.ext hC2
 have hO := hO.new1 hC2 eg2 hb2.lt
 refine pl_val (.bool false) (y_assign rfl) ?_
 refine c_nil ?_
 refine c_seq (c_region ?_)
 refine pl_val (.int .i64 1048576) (y_assign rfl) ?_
 refine c_nil ?_
 refine c_seq (c_region ?_)
 refine pl_val (.agg #[(.int .i64 aA.1), (.slice pa0 pn0 pc0)]) (y_load rfl ((box_load Ag24 Sz24 hb2 [] [(.int .i64 aA.1), (.slice pa0 pn0 pc0)] [] rfl rfl (fun h => nomatch h)) _ (Chg.refl _ _))) ?_
 refine pl_val (.int .i64 1048576) (y_move rfl) ?_
 obtain ⟨r4, hr4, hs⟩ := bind_some hs
 refine pl_call Bd5 rfl (c_laws_szAlgebra (M := M) (aA.1, aA.2) 1048576 h0 hO.fut hr4) ?_
 rintro _ w3 ⟨rfl, hC3⟩
 have h0 := h0.ext hC3
 have hb2 := hb2.chg hC3 (fun h => nomatch h)
 have hC := hC.ext hC3
 have hO := hO.ext hC3
 refine pl_val (.int .i64 r4) (y_assign rfl) ?_
 refine c_nil ?_
 refine c_seq ?_
 refine c_seq (c_region ?_)
 refine pl_val (.int .i64 r4) (y_move rfl) ?_
 refine pl_val (.bool (decide (r4 < 0))) (y_lss rfl rfl) ?_
 refine c_nil ?_
 rcases bif_some hs with ⟨hc5, hs⟩ | ⟨hc5, hs⟩
 ·skip
  refine c_condT (congrArg Value.bool hc5) ?_
  refine c_seq (c_region ?_)
  refine pl_val (.bool true) (y_assign rfl) ?_
  refine c_nil ?_
  refine wp_ret ?_
  cases hs
  exact ⟨_, fr_ovl 40 ⟨rfl, trivial⟩, hC⟩
 ·skip
  refine c_condF (congrArg Value.bool hc5) ?_
  refine wp_skip ?_
  refine c_seq (c_region ?_)
  refine pl_val (.agg #[(.int .i64 aA.1), (.slice pa0 pn0 pc0)]) (y_load rfl ((box_load Ag24 Sz24 hb2 [] [(.int .i64 aA.1), (.slice pa0 pn0 pc0)] [] rfl rfl (fun h => nomatch h)) _ (Chg.refl _ _))) ?_
  obtain ⟨r7, hr7, hs⟩ := bind_some hs
  refine pl_call Bd7 rfl (c_laws_toAlgebra (M := M) (aA.1, aA.2) h0 hO.fut hr7) ?_
  rintro _ w6 ⟨a6x0, n6x0, c6x0, f6x0, rfl, hC6, hv6x0, hOc6⟩
  have h0 := h0.ext hC6
  have hb2 := hb2.chg hC6 (fun h => nomatch h)
  have hC := hC.ext hC6
  have hO := Own.join0 hO hC6 hOc6
  have hO := hO.perm (R := f6x0 ++ (([g2]) ++ ([]))) (by simp)
  obtain ⟨r10, hr10, hs⟩ := bind_some hs
  refine pl_call Bd6 rfl (c_spec_IsArithmetical (M := (Less M f6x0)) (r7.1, r7.2) (((Frz.os (Frz.pr Frz.int (Frz.os Frz.int)))).val hv6x0 Less.sub Less.not) hO.less.fut hr10) ?_
  rintro _ w9 ⟨rfl, hC9⟩
  have h0 := h0.ext hC9
  have hb2 := hb2.chg hC9 (fun h => nomatch h)
  have hv6x0 := hv6x0.ext hC9
  have hC := hC.ext hC9
  have hO := hO.ext hC9
  refine pl_val (.tuple #[(.bool r10.1), (.bool r10.2)]) (y_move rfl) ?_
  refine pl_val (.bool r10.1) (y_extract rfl (by kernel_rfl)) ?_
  refine pl_val (.bool r10.2) (y_extract rfl (by kernel_rfl)) ?_
  refine pl_val (.bool r10.1) (y_assign rfl) ?_
  refine pl_val (.bool r10.2) (y_assign rfl) ?_
  refine c_nil ?_
  refine c_seq (c_region ?_)
  refine pl_val (.agg #[(.int .i64 aA.1), (.slice pa0 pn0 pc0)]) (y_load rfl ((box_load Ag24 Sz24 hb2 [] [(.int .i64 aA.1), (.slice pa0 pn0 pc0)] [] rfl rfl (fun h => nomatch h)) _ (Chg.refl _ _))) ?_
  obtain ⟨r12, hr12, hs⟩ := bind_some hs
  refine pl_call Bd7 rfl (c_laws_toAlgebra (M := M) (aA.1, aA.2) h0 hO.fut hr12) ?_
  rintro _ w11 ⟨a11x0, n11x0, c11x0, f11x0, rfl, hC11, hv11x0, hOc11⟩
  have h0 := h0.ext hC11
  have hb2 := hb2.chg hC11 (fun h => nomatch h)
  have hv6x0 := hv6x0.ext hC11
  have hC := hC.ext hC11
  have hO := Own.join0 hO hC11 hOc11
  have hO := hO.perm (R := f11x0 ++ (f6x0 ++ (([g2]) ++ ([])))) (by simp)
  obtain ⟨w14, g14, ew14, eg14, hC14, hb14⟩ := new_block w11 [(.int .i64 0), (.slice none 0 0)] 30
  refine pl_val (w' := w14) (.pointer (some ⟨g14, 0, none⟩)) (y_alloc (by rw [ew14, eg14]; kernel_rfl)) ?_
  have h0 := h0.ext hC14
  have hb2 := hb2.chg hC14 (fun h => nomatch h)
  have hv6x0 := hv6x0.ext hC14
  have hv11x0 := hv11x0.ext hC14
  have hC := hC.ext hC14
  have hO := hO.new1 hC14 eg14 hb14.lt
  obtain ⟨w15, hst15, hC15, hb15⟩ := box_store (P := Tryz.prog) hb14 [] [(.int .i64 0), (.slice none 0 0)] [] [(.int .i64 r12.1), (.slice a11x0 n11x0 c11x0)] rfl rfl (by intro u hu; simp only [List.mem_cons, List.not_mem_nil, or_false] at hu; rcases hu with rfl | rfl <;> rfl)
  refine pl_skip (w' := w15) (ys_store rfl rfl (hst15 _ _ rfl Sz30)) ?_
  have h0 := h0.mut hC15 (fun g hg => hO.inM g ((fun _ h => h) g hg)) (fun _ _ h => nomatch h)
  have hb2 := hb2.chg hC15 (fun hg => hO.apart _ ((fun _ h => h) _ hg) (mem_r (mem_r (mem_l (List.mem_singleton.2 rfl)))))
  have hv6x0 := hv6x0.mut hC15 (fun g hg => hO.inM g ((fun _ h => h) g hg)) (fun g hg e => hO.apart g ((fun _ h => h) g hg) (mem_r (mem_l (e))))
  have hv11x0 := hv11x0.mut hC15 (fun g hg => hO.inM g ((fun _ h => h) g hg)) (fun g hg e => hO.apart g ((fun _ h => h) g hg) (mem_l (e)))
  have hC := hC.step hC15 (fun g hg => hO.inN g ((fun _ h => h) g hg))
  have hO := hO.ext hC15
  have hb15 : BoxV w15 g14 30 [(.int .i64 r12.1), (.slice a11x0 n11x0 c11x0)] := hb15
  refine c_nil ?_
  refine c_seq (c_region ?_)
  refine pl_val (.agg #[(.int .i64 r12.1), (.slice a11x0 n11x0 c11x0)]) (y_load rfl ((box_load Ag30 Sz30 hb15 [] [(.int .i64 r12.1), (.slice a11x0 n11x0 c11x0)] [] rfl rfl (fun h => nomatch h)) _ (Chg.refl _ _))) ?_
  have hO := hO.fr1
  obtain ⟨r17, hr17, hs⟩ := bind_some hs
  refine pl_call Bd8 rfl (c_impl_IsArithmetical (M := (Less M f11x0)) (r12.1, r12.2) (((Frz.os (Frz.pr Frz.int (Frz.os Frz.int)))).val hv11x0 Less.sub Less.not) hO.less.fut hr17) ?_
  rintro _ w16 ⟨rfl, hC16⟩
  have h0 := h0.ext hC16
  have hb2 := hb2.chg hC16 (fun h => nomatch h)
  have hv6x0 := hv6x0.ext hC16
  have hv11x0 := hv11x0.ext hC16
  have hb15 := hb15.chg hC16 (fun h => nomatch h)
  have hC := hC.ext hC16
  have hO := hO.ext hC16
  refine pl_val (.tuple #[(.bool r17.1), (.bool r17.2)]) (y_move rfl) ?_
  refine pl_val (.bool r17.1) (y_extract rfl (by kernel_rfl)) ?_
  refine pl_val (.bool r17.2) (y_extract rfl (by kernel_rfl)) ?_
  refine pl_val (.bool r17.1) (y_assign rfl) ?_
  refine pl_val (.bool r17.2) (y_assign rfl) ?_
  refine c_nil ?_
  refine c_seq ?_
  refine c_seq ?_
  refine c_mid (I := fun a w19 => ∃ (σ : Nat → Value), a = fr 40 (ovl σ [(1, (.pointer (some ⟨g2, 0, none⟩))), (2, (.bool false)), (6, (.pointer (some ⟨g14, 0, none⟩))), (34, (.bool ((!(r17.1 == r10.1)) || (!(r17.2 == r10.2)))))]) ∧ Chg [] w16 w19) ?_ ?_
  ·have hMid := Chg.refl [] w16
   refine c_region ?_
   refine pl_val (.bool r17.1) (y_move rfl) ?_
   refine pl_val (.bool r10.1) (y_move rfl) ?_
   refine pl_val (.bool (!(r17.1 == r10.1))) (y_bneq Tryz.underlying4 rfl rfl) ?_
   refine pl_val (.bool (!(r17.1 == r10.1))) (y_move rfl) ?_
   rcases Bool.eq_false_or_eq_true ((!(r17.1 == r10.1))) with hc21 | hc21
   ·skip
    refine pl_not (tg := 30) (by kernel_rfl) (congrArg Value.bool hc21) ?_
    refine pl_not (tg := 30) (by kernel_rfl) (congrArg Value.bool hc21) ?_
    refine pl_not (tg := 30) (by kernel_rfl) (congrArg Value.bool hc21) ?_
    refine pl_val (.bool ((!(r17.1 == r10.1)) || (!(r17.2 == r10.2)))) (y_pick_t (congrArg Value.bool hc21) (congrArg Value.bool (by rw [hc21]; rfl))) ?_
    refine c_nil ?_
    exact ⟨_, fr_ovl 40 ⟨rfl, rfl, rfl, rfl, trivial⟩, hMid⟩
   ·skip
    refine pl_yes (.bool r17.2) (tg := 30) (by kernel_rfl) (congrArg Value.bool hc21) (y_move rfl) ?_
    refine pl_yes (.bool r10.2) (tg := 30) (by kernel_rfl) (congrArg Value.bool hc21) (y_move rfl) ?_
    refine pl_yes (.bool (!(r17.2 == r10.2))) (tg := 30) (by kernel_rfl) (congrArg Value.bool hc21) (y_bneq Tryz.underlying4 rfl rfl) ?_
    refine pl_val (.bool ((!(r17.1 == r10.1)) || (!(r17.2 == r10.2)))) (y_pick_f (congrArg Value.bool hc21) (congrArg Value.bool (by rw [hc21]; rfl))) ?_
    refine c_nil ?_
    exact ⟨_, fr_ovl 40 ⟨rfl, rfl, rfl, rfl, trivial⟩, hMid⟩
  ·rintro a1 w19 ⟨σ, rfl, hCs18⟩
   have h0 := h0.ext hCs18
   have hb2 := hb2.chg hCs18 (fun h => nomatch h)
   have hv6x0 := hv6x0.ext hCs18
   have hv11x0 := hv11x0.ext hCs18
   have hb15 := hb15.chg hCs18 (fun h => nomatch h)
   have hC := hC.ext hCs18
   have hO := hO.ext hCs18
   rcases bif_some hs with ⟨hc22, hs⟩ | ⟨hc22, hs⟩
   ·skip
    refine c_condT (congrArg Value.bool hc22) ?_
    refine c_seq (c_region ?_)
    refine pl_val (.bool false) (y_assign rfl) ?_
    refine c_nil ?_
    refine wp_ret ?_
    cases hs
    exact ⟨_, fr_ovl 40 ⟨rfl, trivial⟩, hC⟩
   ·skip
    refine c_condF (congrArg Value.bool hc22) ?_
    refine wp_skip ?_
    refine c_seq ?_
    refine c_seq ?_
    refine x_start [] Mx rfl ?_
    have hCw23 := Chg.drew w19
    generalize World.drew w19 = w23 at hCw23 ⊢
    have h0 := h0.ext hCw23
    have hb2 := hb2.chg hCw23 (fun h => nomatch h)
    have hv6x0 := hv6x0.ext hCw23
    have hv11x0 := hv11x0.ext hCw23
    have hb15 := hb15.chg hCw23 (fun h => nomatch h)
    have hC := hC.ext hCw23
    have hO := hO.ext hCw23
    have hS := Chg.refl [] w23
    refine x_l 0 (.agg #[(.int .i64 r12.1), (.slice a11x0 n11x0 c11x0)]) rfl (by kernel_rfl)  (fun w' hw' => y_load rfl ((box_load Ag30 Sz30 hb15 [] [(.int .i64 r12.1), (.slice a11x0 n11x0 c11x0)] [] rfl rfl (fun h => nomatch h)) w' hw')) hS ?_
    refine x_l 1 (.agg #[(.int .i64 aA.1), (.slice pa0 pn0 pc0)]) rfl (by kernel_rfl)  (fun w' hw' => y_load rfl ((box_load Ag24 Sz24 hb2 [] [(.int .i64 aA.1), (.slice pa0 pn0 pc0)] [] rfl rfl (fun h => nomatch h)) w' hw')) hS ?_
    refine x_one (i := 2) (by kernel_rfl) ?_
    obtain ⟨r25, hr25, hs⟩ := bind_some hs
    refine xk_call (b := false) rfl  Bd7 rfl (c_laws_toAlgebra (M := M) (aA.1, aA.2) h0 hO.fut hr25) rfl (by rintro _ _ _ ⟨a24x0, n24x0, c24x0, f24x0, rfl, hC24, hv24x0, hOc24⟩; exact hS.ext hC24) ?_
    rintro _ w24 ⟨a24x0, n24x0, c24x0, f24x0, rfl, hC24, hv24x0, hOc24⟩
    have h0 := h0.ext hC24
    have hb2 := hb2.chg hC24 (fun h => nomatch h)
    have hv6x0 := hv6x0.ext hC24
    have hv11x0 := hv11x0.ext hC24
    have hb15 := hb15.chg hC24 (fun h => nomatch h)
    have hC := hC.ext hC24
    have hO := Own.join0 hO hC24 hOc24
    have hO := hO.perm (R := f24x0 ++ (f11x0 ++ (([g14]) ++ (f6x0 ++ (([g2]) ++ ([])))))) (by simp)
    have hS := hS.ext hC24
    refine x_one (i := 3) (by kernel_rfl) ?_
    have hO := hO.fr1
    obtain ⟨r28, hr28, hs⟩ := bind_some hs
    refine xk_call (b := false) rfl  Bd9 rfl (c_laws_eqAlgebra (M := (Less (Less M f11x0) f24x0)) (r12.1, r12.2) (r25.1, r25.2) ((((Frz.os (Frz.pr Frz.int (Frz.os Frz.int)))).val hv11x0 Less.sub Less.not).sub Less.sub) (((Frz.os (Frz.pr Frz.int (Frz.os Frz.int)))).val (hv24x0.sub Less.sub) Less.sub Less.not) (hO.less).less.fut hr28) rfl (by rintro _ _ _ ⟨rfl, hC27⟩; exact hS.ext hC27) ?_
    rintro _ w27 ⟨rfl, hC27⟩
    have h0 := h0.ext hC27
    have hb2 := hb2.chg hC27 (fun h => nomatch h)
    have hv6x0 := hv6x0.ext hC27
    have hv11x0 := hv11x0.ext hC27
    have hb15 := hb15.chg hC27 (fun h => nomatch h)
    have hv24x0 := hv24x0.ext hC27
    have hC := hC.ext hC27
    have hO := hO.ext hC27
    have hS := hS.ext hC27
    refine x_p 4 (.bool (!r28)) rfl (by kernel_rfl)  (fun _ => y_not rfl) (fun _ => hS) ?_
    refine x_end (by kernel_rfl) ?_
    clear hS
    rcases bif_some hs with ⟨hc29, hs⟩ | ⟨hc29, hs⟩
    ·skip
     refine c_condT (congrArg Value.bool hc29) ?_
     refine c_seq (c_region ?_)
     refine pl_val (.bool false) (y_assign rfl) ?_
     refine c_nil ?_
     refine wp_ret ?_
     cases hs
     exact ⟨_, fr_ovl 40 ⟨rfl, trivial⟩, hC⟩
    ·skip
     refine c_condF (congrArg Value.bool hc29) ?_
     refine wp_skip ?_
     refine c_seq (c_region ?_)
     refine pl_val (.bool true) (y_assign rfl) ?_
     refine c_nil ?_
     refine wp_ret ?_
     cases hs
     exact ⟨_, fr_ovl 40 ⟨rfl, trivial⟩, hC⟩

end Go.Proofs
