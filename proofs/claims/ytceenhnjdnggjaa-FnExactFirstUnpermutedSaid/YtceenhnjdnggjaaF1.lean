/- What functions of the program compute, as plain functions, and that a call gives just that. Conditions: those named in each theorem. -/
import Derived.Test.YtceenhnjdnggjaaF0
set_option linter.unusedVariables false
namespace Go.Proofs
open Go.G Go.RowKit
set_option maxRecDepth 100000

def k_impl_unpermuted (M : Nat → Prop) (w0 : World) (r : (List Int) × Bool) (a : Act) (w : World) : Prop :=
  ∃ (σ : Nat → Value) (ra0 : Option Addr) (rn0 rc0 : Nat) (rf0 : List Nat), a = fr 48 (ovl σ [(4, (.slice ra0 rn0 rc0)), (5, (.bool r.2))]) ∧ Chg [] w0 w ∧ (RT.os 3 (RT.int .i64)).val M w (.slice ra0 rn0 rc0) r.1 rf0 ∧ Own (Nw w0 []) (fun _ => True) w (rf0 ++ ([]))
def s_impl_unpermuted (p : List Int) (q : List Int) : Option ((List Int) × Bool) :=
  (s_impl_productTable p q).bind fun r4 =>
  (s_impl_productTable q p).bind fun r7 =>
  (forC (S := Unit) (R := (List Int) × Bool) (fun k51 s49 =>
  (idx r4 k51).bind fun x55 =>
  (forC (S := Unit) (R := (List Int) × Bool) (fun k76 s74 =>
  (idx x55 k76).bind fun x80 =>
  ((bif x80 then (idx r7 k51).bind fun x86 =>
  (idx x86 k76).bind fun x90 =>
  some (!x90) else some false)).bind fun s82 =>
  (bif s82 then some (.rt ([k51, k76], true)) else some (.nx ()))) 0 (x55.length : Int) ()).bind fun o78 => after o78 (fun r_ => some (.rt r_)) (fun s74 =>
  some (.nx ()))) 0 (r4.length : Int) ()).bind fun o53 => after o53 (fun r_ => some r_) (fun s49 =>
  some ([], false))
set_option maxHeartbeats 4000000 in
theorem c_impl_unpermuted {M : Nat → Prop} {w : World} {pa0 : Option Addr} {pn0 pc0 : Nat} {pa1 : Option Addr} {pn1 pc1 : Nat} (p : List Int) (q : List Int) (h0 : (RT.rs (RT.int .i64)).val M w (.slice pa0 pn0 pc0) p ([])) (h1 : (RT.rs (RT.int .i64)).val M w (.slice pa1 pn1 pc1) q ([])) (hM : ∀ g, w.heap.size ≤ g → M g) {r : (List Int) × Bool} (hs : s_impl_unpermuted p q = some r) :
    Gives Try.prog 79 [(.slice pa0 pn0 pc0), (.slice pa1 pn1 pc1)] w (fun v w' => ∃ (ra0 : Option Addr) (rn0 rc0 : Nat) (rf0 : List Nat), v = (.tuple #[(.slice ra0 rn0 rc0), (.bool r.2)]) ∧ Chg [] w w' ∧ (RT.os 3 (RT.int .i64)).val M w' (.slice ra0 rn0 rc0) r.1 rf0 ∧ Own (Nw w []) (fun _ => True) w' (rf0 ++ ([]))) := by
  refine calls_fr Try.func79 rfl Try.ntmps79 (Nat.le_of_ble_eq_true rfl) ?_
  have hO := Own.start (N := Nw w []) hM Nw.fut
  have hC := Chg.refl [] w
  unfold s_impl_unpermuted at hs
  refine wp_mono (Q := KPost (k_impl_unpermuted M w r)) ?_ (fun e a w1 h => ?_)
  rotate_left
  · cases e
    case ret =>
      obtain ⟨σ, ra0, rn0, rc0, rf0, rfl, hrest⟩ := h
      exact ret2x Try.results79 (res_tmp rfl) (res_tmp rfl) ⟨ra0, rn0, rc0, rf0, rfl, hrest⟩
    all_goals exact (h : False).elim
  refine c_seq ?_
  refine c_region ?_
  refine pl_val (.slice none 0 0) (y_assign rfl) ?_
  refine pl_val (.bool false) (y_assign rfl) ?_
  refine c_nil ?_
  refine c_seq ?_
  refine c_region ?_
  refine pl_val (.slice pa0 pn0 pc0) (y_move rfl) ?_
  refine pl_val (.slice pa1 pn1 pc1) (y_move rfl) ?_
  obtain ⟨r4, hr4, hs⟩ := bind_some hs
  refine pl_call Bd81 rfl (c_impl_productTable (M := M) p q h0 h1 hO.fut hr4) ?_
  rintro _ w3 ⟨a3x0, n3x0, c3x0, f3x0, rfl, hC3, hv3x0, hOc3⟩
  have h0 := h0.ext hC3
  have h1 := h1.ext hC3
  have hC := hC.ext hC3
  have hO := Own.join0 hO hC3 hOc3
  have hO := hO.perm (R := f3x0 ++ ([])) (by simp)
  refine pl_val (.slice pa1 pn1 pc1) (y_move rfl) ?_
  refine pl_val (.slice pa0 pn0 pc0) (y_move rfl) ?_
  obtain ⟨r7, hr7, hs⟩ := bind_some hs
  refine pl_call Bd81 rfl (c_impl_productTable (M := M) q p h1 h0 hO.fut hr7) ?_
  rintro _ w6 ⟨a6x0, n6x0, c6x0, f6x0, rfl, hC6, hv6x0, hOc6⟩
  have h0 := h0.ext hC6
  have h1 := h1.ext hC6
  have hv3x0 := hv3x0.ext hC6
  have hC := hC.ext hC6
  have hO := Own.join0 hO hC6 hOc6
  have hO := hO.perm (R := f6x0 ++ (f3x0 ++ ([]))) (by simp)
  refine pl_val (.slice a3x0 n3x0 c3x0) (y_assign rfl) ?_
  refine pl_val (.slice a6x0 n6x0 c6x0) (y_assign rfl) ?_
  refine c_nil ?_
  refine c_seq ?_
  refine c_seq ?_
  refine c_region ?_
  refine pl_val (.slice a3x0 n3x0 c3x0) (y_move rfl) ?_
  refine pl_val (.int .i64 (r4.length : Int)) (y_len' Sl100 (os_len hv3x0) rfl) ?_
  refine pl_val (.int .i64 0) (y_move rfl) ?_
  refine c_nil ?_
  obtain ⟨o53, hl54, hs⟩ := bind_some hs
  refine wp_block ?_
  refine wp_forC (id := 0) (r4.length : Int) (I := fun k51 s49 a w50 => ∃ (σ : Nat → Value), a = fr 48 (ovl σ [(7, (.slice a6x0 n6x0 c6x0)), (18, (.slice a3x0 n3x0 c3x0)), (19, (.int .i64 (r4.length : Int))), (20, (.int .i64 k51))]) ∧ Chg [] w w50 ∧ Own (Nw w []) M w50 (f6x0 ++ (f3x0 ++ [])) ∧ (RT.os 57 (RT.os 4 RT.bool)).val M w50 (.slice a3x0 n3x0 c3x0) r4 f3x0 ∧ (RT.os 57 (RT.os 4 RT.bool)).val M w50 (.slice a6x0 n6x0 c6x0) r7 f6x0) (J := fun s49 a w50 => ∃ (σ : Nat → Value), a = fr 48 (ovl σ []) ∧ Chg [] w w50 ∧ Own (Nw w []) M w50 (f6x0 ++ (f3x0 ++ [])) ∧ (RT.os 57 (RT.os 4 RT.bool)).val M w50 (.slice a3x0 n3x0 c3x0) r4 f3x0 ∧ (RT.os 57 (RT.os 4 RT.bool)).val M w50 (.slice a6x0 n6x0 c6x0) r7 f6x0) (K := (k_impl_unpermuted M w)) ?_ ?_ 0 () o53 _ _ ?_ hl54 ?_
  · rintro k51 s49 a w50 ⟨σ, rfl, hC, hO, hv3x0, hv6x0⟩ hlt
    refine c_seq ?_
    refine c_region ?_
    refine pl_val (.bool (decide (k51 < (r4.length : Int)))) (y_lss rfl rfl) ?_
    refine c_nil ?_
    refine c_seq ?_
    refine c_condF (congrArg Value.bool (decide_eq_false hlt)) ?_
    refine wp_exit ?_
    have hO := hO.fr1
    have hO := hO.fr1
    exact ⟨rfl, _, fr_ovl 48 trivial, hC, hO, hv3x0, hv6x0⟩
  · rintro k51 s49 o53 a w50 ⟨σ, rfl, hC, hO, hv3x0, hv6x0⟩ hlt hw hs
    refine c_seq ?_
    refine c_region ?_
    refine pl_val (.bool (decide (k51 < (r4.length : Int)))) (y_lss rfl rfl) ?_
    refine c_nil ?_
    refine c_seq ?_
    refine c_condT (congrArg Value.bool (decide_eq_true hlt)) ?_
    refine wp_skip ?_
    refine c_seq ?_
    refine wp_block ?_
    refine c_seq ?_
    refine c_region ?_
    refine pl_val (.int .i64 k51) (y_move rfl) ?_
    obtain ⟨x55, hx55, hs⟩ := bind_some hs
    obtain ⟨g56, f56, hg56, hk56, hp56, ha56, hf56⟩ := os_idx Sl100 Sz57 hv3x0 hx55
    have hb56 := own_row (Frz.os Frz.bool) ha56 hf56
    refine pl_val (.pointer (some ⟨g56, 0 + Int.toNat k51 * 1, none⟩)) (hp56 _ _ _ _ _ _ _ _ _ rfl rfl) ?_
    obtain ⟨v57, hl57, hrow57, hv57⟩ := at_load1 Ag57 Sz57 rfl rfl hb56
    obtain ⟨a57, n57, c57, rfl⟩ := rs_sl hv57
    refine pl_val (.slice a57 n57 c57) (y_load rfl (hl57 _ (Chg.refl _ _))) ?_
    refine pl_val (.int .i64 k51) (y_assign rfl) ?_
    refine pl_val (.slice a57 n57 c57) (y_assign rfl) ?_
    refine c_nil ?_
    refine c_seq ?_
    refine c_region ?_
    refine pl_val (.slice a57 n57 c57) (y_move rfl) ?_
    refine pl_val (.int .i64 (x55.length : Int)) (y_len' Sl57 (rs_len hv57) rfl) ?_
    refine pl_val (.int .i64 0) (y_move rfl) ?_
    refine c_nil ?_
    obtain ⟨o78, hl79, hs⟩ := bind_some hs
    refine wp_block ?_
    refine wp_forC (id := 2) (x55.length : Int) (I := fun k76 s74 a w75 => ∃ (σ : Nat → Value), a = fr 48 (ovl σ [(7, (.slice a6x0 n6x0 c6x0)), (8, (.int .i64 k51)), (18, (.slice a3x0 n3x0 c3x0)), (19, (.int .i64 (r4.length : Int))), (20, (.int .i64 k51)), (25, (.slice a57 n57 c57)), (26, (.int .i64 (x55.length : Int))), (27, (.int .i64 k76))]) ∧ Chg [] w w75 ∧ Own (Nw w []) M w75 (f6x0 ++ (f3x0 ++ [])) ∧ (RT.os 57 (RT.os 4 RT.bool)).val M w75 (.slice a3x0 n3x0 c3x0) r4 f3x0 ∧ (RT.os 57 (RT.os 4 RT.bool)).val M w75 (.slice a6x0 n6x0 c6x0) r7 f6x0 ∧ (RT.rs RT.bool).val (Less M f3x0) w75 (.slice a57 n57 c57) x55 ([])) (J := fun s74 a w75 => ∃ (σ : Nat → Value), a = fr 48 (ovl σ [(7, (.slice a6x0 n6x0 c6x0)), (18, (.slice a3x0 n3x0 c3x0)), (19, (.int .i64 (r4.length : Int))), (20, (.int .i64 k51))]) ∧ Chg [] w w75 ∧ Own (Nw w []) M w75 (f6x0 ++ (f3x0 ++ [])) ∧ (RT.os 57 (RT.os 4 RT.bool)).val M w75 (.slice a3x0 n3x0 c3x0) r4 f3x0 ∧ (RT.os 57 (RT.os 4 RT.bool)).val M w75 (.slice a6x0 n6x0 c6x0) r7 f6x0 ∧ (RT.rs RT.bool).val (Less M f3x0) w75 (.slice a57 n57 c57) x55 ([])) (K := (k_impl_unpermuted M w)) ?_ ?_ 0 () o78 _ _ ?_ hl79 ?_
    · rintro k76 s74 a w75 ⟨σ, rfl, hC, hO, hv3x0, hv6x0, hv57⟩ hlt
      refine c_seq ?_
      refine c_region ?_
      refine pl_val (.bool (decide (k76 < (x55.length : Int)))) (y_lss rfl rfl) ?_
      refine c_nil ?_
      refine c_seq ?_
      refine c_condF (congrArg Value.bool (decide_eq_false hlt)) ?_
      refine wp_exit ?_
      have hO := hO.fr1
      have hO := hO.fr1
      exact ⟨rfl, _, fr_ovl 48 ⟨rfl, rfl, rfl, rfl, trivial⟩, hC, hO, hv3x0, hv6x0, hv57⟩
    · rintro k76 s74 o78 a w75 ⟨σ, rfl, hC, hO, hv3x0, hv6x0, hv57⟩ hlt hw hs
      refine c_seq ?_
      refine c_region ?_
      refine pl_val (.bool (decide (k76 < (x55.length : Int)))) (y_lss rfl rfl) ?_
      refine c_nil ?_
      refine c_seq ?_
      refine c_condT (congrArg Value.bool (decide_eq_true hlt)) ?_
      refine wp_skip ?_
      refine c_seq ?_
      refine wp_block ?_
      refine c_seq ?_
      refine c_region ?_
      refine pl_val (.int .i64 k76) (y_move rfl) ?_
      obtain ⟨x80, hx80, hs⟩ := bind_some hs
      obtain ⟨b81, o81, hp81, ha81⟩ := rs_idx Sl57 Sz4 hv57 hx80
      refine pl_val (.pointer (some ⟨b81, o81, none⟩)) (hp81 _ _ _ _ _ _ _ _ _ rfl rfl) ?_
      refine pl_val (.bool x80) (y_load rfl ((at_load_bool Ag4 Sz4 ha81) _ (Chg.refl _ _))) ?_
      refine pl_val (.int .i64 k76) (y_assign rfl) ?_
      refine pl_val (.bool x80) (y_assign rfl) ?_
      refine c_nil ?_
      refine c_seq ?_
      obtain ⟨s82, hm84, hs⟩ := bind_some hs
      refine c_mid (I := fun a w83 => ∃ (σ : Nat → Value), a = fr 48 (ovl σ [(7, (.slice a6x0 n6x0 c6x0)), (8, (.int .i64 k51)), (10, (.int .i64 k76)), (18, (.slice a3x0 n3x0 c3x0)), (19, (.int .i64 (r4.length : Int))), (20, (.int .i64 k51)), (25, (.slice a57 n57 c57)), (26, (.int .i64 (x55.length : Int))), (27, (.int .i64 k76)), (42, (.bool s82))]) ∧ Chg [] w75 w83) ?_ ?_
      · replace hs := hm84
        have hMid := Chg.refl [] w75
        refine c_region ?_
        refine pl_val (.bool x80) (y_move rfl) ?_
        refine pl_val (.bool x80) (y_move rfl) ?_
        rcases bif_some hs with ⟨hc85, hs⟩ | ⟨hc85, hs⟩
        · skip
          refine pl_yes (.slice a6x0 n6x0 c6x0) (tg := 33) (by kernel_rfl) (congrArg Value.bool hc85) (y_move rfl) ?_
          refine pl_yes (.int .i64 k51) (tg := 33) (by kernel_rfl) (congrArg Value.bool hc85) (y_move rfl) ?_
          obtain ⟨x86, hx86, hs⟩ := bind_some hs
          obtain ⟨g87, f87, hg87, hk87, hp87, ha87, hf87⟩ := os_idx Sl100 Sz57 hv6x0 hx86
          have hb87 := own_row (Frz.os Frz.bool) ha87 hf87
          refine pl_yes (.pointer (some ⟨g87, 0 + Int.toNat k51 * 1, none⟩)) (tg := 33) (by kernel_rfl) (congrArg Value.bool hc85) (hp87 _ _ _ _ _ _ _ _ _ rfl rfl) ?_
          obtain ⟨v88, hl88, hrow88, hv88⟩ := at_load1 Ag57 Sz57 rfl rfl hb87
          obtain ⟨a88, n88, c88, rfl⟩ := rs_sl hv88
          refine pl_yes (.slice a88 n88 c88) (tg := 33) (by kernel_rfl) (congrArg Value.bool hc85) (y_load rfl (hl88 _ (Chg.refl _ _))) ?_
          refine pl_yes (.int .i64 k76) (tg := 33) (by kernel_rfl) (congrArg Value.bool hc85) (y_move rfl) ?_
          obtain ⟨x90, hx90, hs⟩ := bind_some hs
          obtain ⟨fr91, hrr91, hfr91, _, _⟩ := os_put hg87 hv6x0 hx86 hrow88 rfl hO.inM
          obtain ⟨g91, f91, hg91, hk91, hp91, ha91, hf91⟩ := os_idx Sl57 Sz4 (show (RT.os 4 RT.bool).val M w75 (.slice a88 n88 c88) _ fr91 from ⟨[_], rfl, hrr91⟩) hx90
          refine pl_yes (.pointer (some ⟨g91, 0 + Int.toNat k76 * 1, none⟩)) (tg := 33) (by kernel_rfl) (congrArg Value.bool hc85) (hp91 _ _ _ _ _ _ _ _ _ rfl rfl) ?_
          refine pl_yes (.bool x90) (tg := 33) (by kernel_rfl) (congrArg Value.bool hc85) (y_load rfl ((at_load_bool Ag4 Sz4 ha91) _ (Chg.refl _ _))) ?_
          refine pl_yes (.bool (!x90)) (tg := 33) (by kernel_rfl) (congrArg Value.bool hc85) (y_not rfl) ?_
          refine pl_val (.bool (!x90)) (y_pick_t (congrArg Value.bool hc85) rfl) ?_
          refine c_nil ?_
          cases hs
          exact ⟨_, fr_ovl 48 ⟨rfl, rfl, rfl, rfl, rfl, rfl, rfl, rfl, rfl, rfl, trivial⟩, hMid⟩
        · skip
          refine pl_not (tg := 33) (by kernel_rfl) (congrArg Value.bool hc85) ?_
          refine pl_not (tg := 33) (by kernel_rfl) (congrArg Value.bool hc85) ?_
          refine pl_not (tg := 33) (by kernel_rfl) (congrArg Value.bool hc85) ?_
          refine pl_not (tg := 33) (by kernel_rfl) (congrArg Value.bool hc85) ?_
          refine pl_not (tg := 33) (by kernel_rfl) (congrArg Value.bool hc85) ?_
          refine pl_not (tg := 33) (by kernel_rfl) (congrArg Value.bool hc85) ?_
          refine pl_not (tg := 33) (by kernel_rfl) (congrArg Value.bool hc85) ?_
          refine pl_not (tg := 33) (by kernel_rfl) (congrArg Value.bool hc85) ?_
          refine pl_val (.bool false) (y_pick_f (congrArg Value.bool hc85) rfl) ?_
          refine c_nil ?_
          cases hs
          exact ⟨_, fr_ovl 48 ⟨rfl, rfl, rfl, rfl, rfl, rfl, rfl, rfl, rfl, rfl, trivial⟩, hMid⟩
      · rintro a1 w83 ⟨σ, rfl, hCs82⟩
        have hv3x0 := hv3x0.ext hCs82
        have hv6x0 := hv6x0.ext hCs82
        have hv57 := hv57.ext hCs82
        have hC := hC.ext hCs82
        have hO := hO.ext hCs82
        rcases bif_some hs with ⟨hc92, hs⟩ | ⟨hc92, hs⟩
        · skip
          refine c_condT (congrArg Value.bool hc92) ?_
          refine c_seq ?_
          refine c_region ?_
          refine pl_val (.int .i64 k51) (y_move rfl) ?_
          refine pl_val (.int .i64 k76) (y_move rfl) ?_
          obtain ⟨w93, g93, ew93, eg93, hC93, hb93⟩ := new_block w83 [(.int .i64 k51), (.int .i64 k76)] 3
          refine pl_val (w' := w93) (.slice (some ⟨g93, 0, none⟩) 2 2) (y_bslice rfl (by rw [ew93, eg93]; kernel_rfl)) ?_
          have hv3x0 := hv3x0.ext hC93
          have hv6x0 := hv6x0.ext hC93
          have hv57 := hv57.ext hC93
          have hC := hC.ext hC93
          have hO := hO.new (X' := [g93]) hC93 (fun q hq => by rw [List.mem_singleton.1 hq, eg93]; exact Nat.le_refl _) (List.nodup_cons.2 ⟨(fun h => nomatch h), List.nodup_nil⟩) (fun q hq => by rw [List.mem_singleton.1 hq]; exact hb93.lt)
          have hv93 := os_of_box (r := (RT.int .i64)) (M := M) (css := [[(.int .i64 k51)], [(.int .i64 k76)]]) (fps := [([] : List Nat), ([] : List Nat)]) (xs := ([k51, k76] : List Int)) hb93 ⟨⟨rfl, rfl⟩, ⟨⟨rfl, rfl⟩, trivial⟩⟩ (Nat.le_of_ble_eq_true rfl) (List.nodup_cons.2 ⟨(fun h => nomatch h), List.nodup_nil⟩)
          have hv93 : (RT.os 3 (RT.int .i64)).val M w93 (.slice (some ⟨g93, 0, none⟩) 2 2) [k51, k76] [g93] := hv93
          refine pl_val (.slice (some ⟨g93, 0, none⟩) 2 2) (y_assign rfl) ?_
          refine pl_val (.bool true) (y_assign rfl) ?_
          refine c_nil ?_
          refine wp_ret ?_
          cases hs
          have hO := hO.fr1
          have hO := hO.drop
          have hO := hO.fr1
          have hO := hO.drop
          exact ⟨_, (some ⟨g93, 0, none⟩), 2, 2, ([g93]), fr_ovl 48 ⟨rfl, rfl, trivial⟩, hC, hv93, hO.top⟩
        · skip
          refine c_condF (congrArg Value.bool hc92) ?_
          refine wp_skip ?_
          refine c_region ?_
          refine pl_val (.int .i64 (w64 (k76 + 1))) (y_add rfl rfl) ?_
          refine pl_val (.int .i64 (w64 (k76 + 1))) (y_move rfl) ?_
          refine c_nil ?_
          cases hs
          have hO := hO.fr1
          have hO := hO.fr1
          exact ⟨_, fr_ovl 48 ⟨rfl, rfl, rfl, rfl, rfl, rfl, rfl, congrArg (Value.int .i64) hw, trivial⟩, hC, hO, hv3x0, hv6x0, hv57⟩
    · skip
      have hO := hO.fr1
      have hO := hO.fr1
      exact ⟨_, fr_ovl 48 ⟨rfl, rfl, rfl, rfl, rfl, rfl, rfl, rfl, trivial⟩, hC, hO, hv3x0, hv6x0, hv57⟩
    · cases o78 with
      | nx _ => exact True.intro
      | rt r_ =>
        have hs := after_rt hs
        intro a1 w1 hK
        cases hs
        exact hK
      | br s74 =>
        have hs := after_br hs
        rintro a1 w75 ⟨σ, rfl, hC, hO, hv3x0, hv6x0, hv57⟩
        refine c_region ?_
        refine pl_val (.int .i64 (w64 (k51 + 1))) (y_add rfl rfl) ?_
        refine pl_val (.int .i64 (w64 (k51 + 1))) (y_move rfl) ?_
        refine c_nil ?_
        cases hs
        have hO := hO.fr1
        have hO := hO.fr1
        exact ⟨_, fr_ovl 48 ⟨rfl, rfl, rfl, congrArg (Value.int .i64) hw, trivial⟩, hC, hO, hv3x0, hv6x0⟩
  · skip
    have hO := hO.fr1
    have hO := hO.fr1
    exact ⟨_, fr_ovl 48 ⟨rfl, rfl, rfl, rfl, trivial⟩, hC, hO, hv3x0, hv6x0⟩
  · cases o53 with
    | nx _ => exact True.intro
    | rt r_ =>
      have hs := after_rt hs
      intro a1 w1 hK
      cases hs
      exact hK
    | br s49 =>
      have hs := after_br hs
      rintro a1 w50 ⟨σ, rfl, hC, hO, hv3x0, hv6x0⟩
      refine c_seq ?_
      refine c_region ?_
      refine pl_val (.slice none 0 0) (y_assign rfl) ?_
      refine pl_val (.bool false) (y_assign rfl) ?_
      refine c_nil ?_
      refine wp_ret ?_
      cases hs
      have hO := hO.drop
      have hO := hO.drop
      have hO := hO.nil
      exact ⟨_, none, 0, 0, [], fr_ovl 48 ⟨rfl, rfl, trivial⟩, hC, os_nil, hO.top⟩

theorem Bd78 : Bodied Try.prog 78 := bodied Try.func78 (by kernel_rfl) rfl

theorem Bd79 : Bodied Try.prog 79 := bodied Try.func79 (by kernel_rfl) rfl

def k_impl_FirstUnpermuted (M : Nat → Prop) (w0 : World) (r : (List Int) × Bool) (a : Act) (w : World) : Prop :=
  ∃ (σ : Nat → Value) (ra0 : Option Addr) (rn0 rc0 : Nat) (rf0 : List Nat), a = fr 26 (ovl σ [(6, (.slice ra0 rn0 rc0)), (7, (.bool r.2))]) ∧ Chg [] w0 w ∧ (RT.os 3 (RT.int .i64)).val M w (.slice ra0 rn0 rc0) r.1 rf0 ∧ Own (Nw w0 []) (fun _ => True) w (rf0 ++ ([]))
def s_impl_FirstUnpermuted (n : Int) (p : List Int) (q : List Int) : Option ((List Int) × Bool) :=
  (s_impl_arePartitions n p q).bind fun r4 =>
  (bif (!r4) then some ([], false) else (s_impl_unpermuted p q).bind fun r9 =>
  (bif (!r9.2) then some ([], false) else some (r9.1, true)))
set_option maxHeartbeats 4000000 in
theorem c_impl_FirstUnpermuted {M : Nat → Prop} {w : World} {pa0 : Option Addr} {pn0 pc0 : Nat} {pa1 : Option Addr} {pn1 pc1 : Nat} (n : Int) (p : List Int) (q : List Int) (h0 : (RT.rs (RT.int .i64)).val M w (.slice pa0 pn0 pc0) p ([])) (h1 : (RT.rs (RT.int .i64)).val M w (.slice pa1 pn1 pc1) q ([])) (hM : ∀ g, w.heap.size ≤ g → M g) {r : (List Int) × Bool} (hs : s_impl_FirstUnpermuted n p q = some r) :
    Gives Try.prog 17 [(.int .i64 n), (.slice pa0 pn0 pc0), (.slice pa1 pn1 pc1)] w (fun v w' => ∃ (ra0 : Option Addr) (rn0 rc0 : Nat) (rf0 : List Nat), v = (.tuple #[(.slice ra0 rn0 rc0), (.bool r.2)]) ∧ Chg [] w w' ∧ (RT.os 3 (RT.int .i64)).val M w' (.slice ra0 rn0 rc0) r.1 rf0 ∧ Own (Nw w []) (fun _ => True) w' (rf0 ++ ([]))) := by
  refine calls_fr Try.func17 rfl Try.ntmps17 (Nat.le_of_ble_eq_true rfl) ?_
  have hO := Own.start (N := Nw w []) hM Nw.fut
  have hC := Chg.refl [] w
  unfold s_impl_FirstUnpermuted at hs
  refine wp_mono (Q := KPost (k_impl_FirstUnpermuted M w r)) ?_ (fun e a w1 h => ?_)
  rotate_left
  · cases e
    case ret =>
      obtain ⟨σ, ra0, rn0, rc0, rf0, rfl, hrest⟩ := h
      exact ret2x Try.results17 (res_tmp rfl) (res_tmp rfl) ⟨ra0, rn0, rc0, rf0, rfl, hrest⟩
    all_goals exact (h : False).elim
  refine c_seq ?_
  refine c_region ?_
  refine pl_val (.slice none 0 0) (y_assign rfl) ?_
  refine pl_val (.bool false) (y_assign rfl) ?_
  refine c_nil ?_
  refine c_seq ?_
  refine c_seq ?_
  refine c_region ?_
  refine pl_val (.int .i64 n) (y_move rfl) ?_
  refine pl_val (.slice pa0 pn0 pc0) (y_move rfl) ?_
  refine pl_val (.slice pa1 pn1 pc1) (y_move rfl) ?_
  obtain ⟨r4, hr4, hs⟩ := bind_some hs
  refine pl_call Bd78 rfl (c_impl_arePartitions (M := M) n p q h0 h1 hO.fut hr4) ?_
  rintro _ w3 ⟨rfl, hC3⟩
  have h0 := h0.ext hC3
  have h1 := h1.ext hC3
  have hC := hC.ext hC3
  have hO := hO.ext hC3
  refine pl_val (.bool (!r4)) (y_not rfl) ?_
  refine c_nil ?_
  rcases bif_some hs with ⟨hc5, hs⟩ | ⟨hc5, hs⟩
  · skip
    refine c_condT (congrArg Value.bool hc5) ?_
    refine c_seq ?_
    refine c_region ?_
    obtain ⟨w6, g6, ew6, eg6, hC6, hb6⟩ := new_block w3 [] 3
    refine pl_val (w' := w6) (.slice (some ⟨g6, 0, none⟩) 0 0) (y_bslice rfl (by rw [ew6, eg6]; kernel_rfl)) ?_
    have h0 := h0.ext hC6
    have h1 := h1.ext hC6
    have hC := hC.ext hC6
    have hO := hO.new (X' := [g6]) hC6 (fun q hq => by rw [List.mem_singleton.1 hq, eg6]; exact Nat.le_refl _) (List.nodup_cons.2 ⟨(fun h => nomatch h), List.nodup_nil⟩) (fun q hq => by rw [List.mem_singleton.1 hq]; exact hb6.lt)
    have hv6 := os_of_box (r := (RT.int .i64)) (M := M) (css := []) (fps := []) (xs := ([] : List Int)) hb6 trivial (Nat.zero_le _) (List.nodup_cons.2 ⟨(fun h => nomatch h), List.nodup_nil⟩)
    have hv6 : (RT.os 3 (RT.int .i64)).val M w6 (.slice (some ⟨g6, 0, none⟩) 0 0) [] [g6] := hv6
    refine pl_val (.slice (some ⟨g6, 0, none⟩) 0 0) (y_assign rfl) ?_
    refine pl_val (.bool false) (y_assign rfl) ?_
    refine c_nil ?_
    refine wp_ret ?_
    cases hs
    exact ⟨_, (some ⟨g6, 0, none⟩), 0, 0, ([g6]), fr_ovl 26 ⟨rfl, rfl, trivial⟩, hC, hv6, hO.top⟩
  · skip
    refine c_condF (congrArg Value.bool hc5) ?_
    refine wp_skip ?_
    refine c_seq ?_
    refine c_region ?_
    refine pl_val (.slice pa0 pn0 pc0) (y_move rfl) ?_
    refine pl_val (.slice pa1 pn1 pc1) (y_move rfl) ?_
    obtain ⟨r9, hr9, hs⟩ := bind_some hs
    refine pl_call Bd79 rfl (c_impl_unpermuted (M := M) p q h0 h1 hO.fut hr9) ?_
    rintro _ w8 ⟨a8x0, n8x0, c8x0, f8x0, rfl, hC8, hv8x0, hOc8⟩
    have h0 := h0.ext hC8
    have h1 := h1.ext hC8
    have hC := hC.ext hC8
    have hO := Own.join0 hO hC8 hOc8
    have hO := hO.perm (R := f8x0 ++ ([])) (by simp)
    refine pl_val (.tuple #[(.slice a8x0 n8x0 c8x0), (.bool r9.2)]) (y_move rfl) ?_
    refine pl_val (.slice a8x0 n8x0 c8x0) (y_extract rfl (by kernel_rfl)) ?_
    refine pl_val (.bool r9.2) (y_extract rfl (by kernel_rfl)) ?_
    refine pl_val (.slice a8x0 n8x0 c8x0) (y_assign rfl) ?_
    refine pl_val (.bool r9.2) (y_assign rfl) ?_
    refine c_nil ?_
    refine c_seq ?_
    refine c_seq ?_
    refine c_region ?_
    refine pl_val (.bool r9.2) (y_move rfl) ?_
    refine pl_val (.bool (!r9.2)) (y_not rfl) ?_
    refine c_nil ?_
    rcases bif_some hs with ⟨hc11, hs⟩ | ⟨hc11, hs⟩
    · skip
      refine c_condT (congrArg Value.bool hc11) ?_
      refine c_seq ?_
      refine c_region ?_
      obtain ⟨w12, g12, ew12, eg12, hC12, hb12⟩ := new_block w8 [] 3
      refine pl_val (w' := w12) (.slice (some ⟨g12, 0, none⟩) 0 0) (y_bslice rfl (by rw [ew12, eg12]; kernel_rfl)) ?_
      have hv8x0 := hv8x0.ext hC12
      have hC := hC.ext hC12
      have hO := hO.new (X' := [g12]) hC12 (fun q hq => by rw [List.mem_singleton.1 hq, eg12]; exact Nat.le_refl _) (List.nodup_cons.2 ⟨(fun h => nomatch h), List.nodup_nil⟩) (fun q hq => by rw [List.mem_singleton.1 hq]; exact hb12.lt)
      have hv12 := os_of_box (r := (RT.int .i64)) (M := M) (css := []) (fps := []) (xs := ([] : List Int)) hb12 trivial (Nat.zero_le _) (List.nodup_cons.2 ⟨(fun h => nomatch h), List.nodup_nil⟩)
      have hv12 : (RT.os 3 (RT.int .i64)).val M w12 (.slice (some ⟨g12, 0, none⟩) 0 0) [] [g12] := hv12
      refine pl_val (.slice (some ⟨g12, 0, none⟩) 0 0) (y_assign rfl) ?_
      refine pl_val (.bool false) (y_assign rfl) ?_
      refine c_nil ?_
      refine wp_ret ?_
      cases hs
      have hO := hO.fr1
      have hO := hO.drop
      exact ⟨_, (some ⟨g12, 0, none⟩), 0, 0, ([g12]), fr_ovl 26 ⟨rfl, rfl, trivial⟩, hC, hv12, hO.top⟩
    · skip
      refine c_condF (congrArg Value.bool hc11) ?_
      refine wp_skip ?_
      refine c_seq ?_
      refine c_region ?_
      refine pl_val (.slice a8x0 n8x0 c8x0) (y_move rfl) ?_
      refine pl_val (.slice a8x0 n8x0 c8x0) (y_assign rfl) ?_
      refine pl_val (.bool true) (y_assign rfl) ?_
      refine c_nil ?_
      refine wp_ret ?_
      cases hs
      exact ⟨_, a8x0, n8x0, c8x0, f8x0, fr_ovl 26 ⟨rfl, rfl, trivial⟩, hC, hv8x0, hO.top⟩

def k_laws_eqIntS (M : Nat → Prop) (w0 : World) (r : Bool) (a : Act) (w : World) : Prop :=
  ∃ (σ : Nat → Value) , a = fr 26 (ovl σ [(4, (.bool r))]) ∧ Chg [] w0 w
def s_laws_eqIntS (a_ : List Int) (b : List Int) : Option (Bool) :=
  (bif ((a_.length : Int) != (b.length : Int)) then some false else (forC (S := Unit) (R := Bool) (fun k12 s10 =>
  (idx a_ k12).bind fun x17 =>
  (idx b k12).bind fun x19 =>
  (bif (x17 != x19) then some (.rt false) else some (.nx ()))) 0 (a_.length : Int) ()).bind fun o14 => after o14 (fun r_ => some r_) (fun s10 =>
  some true))
set_option maxHeartbeats 4000000 in
theorem c_laws_eqIntS {M : Nat → Prop} {w : World} {pa0 : Option Addr} {pn0 pc0 : Nat} {pa1 : Option Addr} {pn1 pc1 : Nat} (a_ : List Int) (b : List Int) (h0 : (RT.rs (RT.int .i64)).val M w (.slice pa0 pn0 pc0) a_ ([])) (h1 : (RT.rs (RT.int .i64)).val M w (.slice pa1 pn1 pc1) b ([])) (hM : ∀ g, w.heap.size ≤ g → M g) {r : Bool} (hs : s_laws_eqIntS a_ b = some r) :
    Gives Try.prog 18 [(.slice pa0 pn0 pc0), (.slice pa1 pn1 pc1)] w (fun v w' => v = (.bool r) ∧ Chg [] w w') := by
  refine calls_fr Try.func18 rfl Try.ntmps18 (Nat.le_of_ble_eq_true rfl) ?_
  have hO := Own.start (N := Nw w []) hM Nw.fut
  have hC := Chg.refl [] w
  unfold s_laws_eqIntS at hs
  refine wp_mono (Q := KPost (k_laws_eqIntS M w r)) ?_ (fun e a w1 h => ?_)
  rotate_left
  · cases e
    case ret =>
      obtain ⟨σ, rfl, hrest⟩ := h
      exact ret1x Try.results18 (res_tmp rfl) ⟨rfl, hrest⟩
    all_goals exact (h : False).elim
  refine c_seq ?_
  refine c_region ?_
  refine pl_val (.bool false) (y_assign rfl) ?_
  refine c_nil ?_
  refine c_seq ?_
  refine c_seq ?_
  refine c_region ?_
  refine pl_val (.slice pa0 pn0 pc0) (y_move rfl) ?_
  refine pl_val (.int .i64 (a_.length : Int)) (y_len' Sl22 (rs_len h0) rfl) ?_
  refine pl_val (.slice pa1 pn1 pc1) (y_move rfl) ?_
  refine pl_val (.int .i64 (b.length : Int)) (y_len' Sl22 (rs_len h1) rfl) ?_
  refine pl_val (.bool ((a_.length : Int) != (b.length : Int))) (y_neq rfl rfl) ?_
  refine c_nil ?_
  rcases bif_some hs with ⟨hc3, hs⟩ | ⟨hc3, hs⟩
  · skip
    refine c_condT (congrArg Value.bool hc3) ?_
    refine c_seq ?_
    refine c_region ?_
    refine pl_val (.bool false) (y_assign rfl) ?_
    refine c_nil ?_
    refine wp_ret ?_
    cases hs
    exact ⟨_, fr_ovl 26 ⟨rfl, trivial⟩, hC⟩
  · skip
    refine c_condF (congrArg Value.bool hc3) ?_
    refine wp_skip ?_
    refine c_seq ?_
    refine c_seq ?_
    refine c_region ?_
    refine pl_val (.int .i64 0) (y_assign rfl) ?_
    refine c_nil ?_
    obtain ⟨o14, hl15, hs⟩ := bind_some hs
    refine wp_block ?_
    refine wp_forC (id := 0) (a_.length : Int) (I := fun k12 s10 a w11 => ∃ (σ : Nat → Value), a = fr 26 (ovl σ [(0, (.slice pa0 pn0 pc0)), (1, (.slice pa1 pn1 pc1)), (5, (.int .i64 k12))]) ∧ Chg [] w w11 ∧ Own (Nw w []) M w11 ([]) ∧ (RT.rs (RT.int .i64)).val M w11 (.slice pa0 pn0 pc0) a_ ([]) ∧ (RT.rs (RT.int .i64)).val M w11 (.slice pa1 pn1 pc1) b ([])) (J := fun s10 a w11 => ∃ (σ : Nat → Value), a = fr 26 (ovl σ []) ∧ Chg [] w w11 ∧ Own (Nw w []) M w11 ([]) ∧ (RT.rs (RT.int .i64)).val M w11 (.slice pa0 pn0 pc0) a_ ([]) ∧ (RT.rs (RT.int .i64)).val M w11 (.slice pa1 pn1 pc1) b ([])) (K := (k_laws_eqIntS M w)) ?_ ?_ 0 () o14 _ _ ?_ hl15 ?_
    · rintro k12 s10 a w11 ⟨σ, rfl, hC, hO, h0, h1⟩ hlt
      refine c_seq ?_
      refine c_seq ?_
      refine c_region ?_
      refine pl_val (.int .i64 k12) (y_move rfl) ?_
      refine pl_val (.slice pa0 pn0 pc0) (y_move rfl) ?_
      refine pl_val (.int .i64 (a_.length : Int)) (y_len' Sl22 (rs_len h0) rfl) ?_
      refine pl_val (.bool (decide (k12 < (a_.length : Int)))) (y_lss rfl rfl) ?_
      refine c_nil ?_
      refine c_condF (congrArg Value.bool (decide_eq_false hlt)) ?_
      refine wp_exit ?_
      exact ⟨rfl, _, fr_ovl 26 trivial, hC, hO, h0, h1⟩
    · rintro k12 s10 o14 a w11 ⟨σ, rfl, hC, hO, h0, h1⟩ hlt hw hs
      refine c_seq ?_
      refine c_seq ?_
      refine c_region ?_
      refine pl_val (.int .i64 k12) (y_move rfl) ?_
      refine pl_val (.slice pa0 pn0 pc0) (y_move rfl) ?_
      refine pl_val (.int .i64 (a_.length : Int)) (y_len' Sl22 (rs_len h0) rfl) ?_
      refine pl_val (.bool (decide (k12 < (a_.length : Int)))) (y_lss rfl rfl) ?_
      refine c_nil ?_
      refine c_condT (congrArg Value.bool (decide_eq_true hlt)) ?_
      refine wp_skip ?_
      refine c_seq ?_
      refine wp_block ?_
      refine c_seq ?_
      refine x_start [] Mx rfl ?_
      have hCw16 := Chg.drew w11
      generalize World.drew w11 = w16 at hCw16 ⊢
      have h0 := h0.ext hCw16
      have h1 := h1.ext hCw16
      have hC := hC.ext hCw16
      have hO := hO.ext hCw16
      have hS := Chg.refl [] w16
      refine x_p 0 (.slice pa0 pn0 pc0) rfl (by kernel_rfl)  (fun _ => y_move rfl) (fun _ => hS) ?_
      refine x_p 1 (.int .i64 k12) rfl (by kernel_rfl)  (fun _ => y_move rfl) (fun _ => hS) ?_
      obtain ⟨x17, hx17, hs⟩ := bind_some hs
      obtain ⟨b18, o18, hp18, ha18⟩ := rs_idx Sl22 Sz3 h0 hx17
      refine x_p 2 (.pointer (some ⟨b18, o18, none⟩)) rfl (by kernel_rfl)  (fun _ => hp18 _ _ _ _ _ _ _ _ _ rfl rfl) (fun _ => hS) ?_
      refine x_l 3 (.int .i64 x17) rfl (by kernel_rfl)  (fun w' hw' => y_load rfl ((at_load_int Ag3 Sz3 ha18) w' hw')) hS ?_
      refine x_p 4 (.slice pa1 pn1 pc1) rfl (by kernel_rfl)  (fun _ => y_move rfl) (fun _ => hS) ?_
      refine x_p 5 (.int .i64 k12) rfl (by kernel_rfl)  (fun _ => y_move rfl) (fun _ => hS) ?_
      obtain ⟨x19, hx19, hs⟩ := bind_some hs
      obtain ⟨b20, o20, hp20, ha20⟩ := rs_idx Sl22 Sz3 h1 hx19
      refine x_p 6 (.pointer (some ⟨b20, o20, none⟩)) rfl (by kernel_rfl)  (fun _ => hp20 _ _ _ _ _ _ _ _ _ rfl rfl) (fun _ => hS) ?_
      refine x_l 7 (.int .i64 x19) rfl (by kernel_rfl)  (fun w' hw' => y_load rfl ((at_load_int Ag3 Sz3 ha20) w' hw')) hS ?_
      refine x_p 8 (.bool (x17 != x19)) rfl (by kernel_rfl)  (fun _ => y_neq rfl rfl) (fun _ => hS) ?_
      refine x_end (by kernel_rfl) ?_
      clear hS
      rcases bif_some hs with ⟨hc21, hs⟩ | ⟨hc21, hs⟩
      · skip
        refine c_condT (congrArg Value.bool hc21) ?_
        refine c_seq ?_
        refine c_region ?_
        refine pl_val (.bool false) (y_assign rfl) ?_
        refine c_nil ?_
        refine wp_ret ?_
        cases hs
        exact ⟨_, fr_ovl 26 ⟨rfl, trivial⟩, hC⟩
      · skip
        refine c_condF (congrArg Value.bool hc21) ?_
        refine wp_skip ?_
        refine c_region ?_
        refine pl_val (.int .i64 k12) (y_move rfl) ?_
        refine pl_val (.int .i64 (w64 (k12 + 1))) (y_add rfl rfl) ?_
        refine pl_val (.int .i64 (w64 (k12 + 1))) (y_assign rfl) ?_
        refine c_nil ?_
        cases hs
        exact ⟨_, fr_ovl 26 ⟨rfl, rfl, congrArg (Value.int .i64) hw, trivial⟩, hC, hO, h0, h1⟩
    · skip
      exact ⟨_, fr_ovl 26 ⟨rfl, rfl, rfl, trivial⟩, hC, hO, h0, h1⟩
    · cases o14 with
      | nx _ => exact True.intro
      | rt r_ =>
        have hs := after_rt hs
        intro a1 w1 hK
        cases hs
        exact hK
      | br s10 =>
        have hs := after_br hs
        rintro a1 w11 ⟨σ, rfl, hC, hO, h0, h1⟩
        refine c_seq ?_
        refine c_region ?_
        refine pl_val (.bool true) (y_assign rfl) ?_
        refine c_nil ?_
        refine wp_ret ?_
        cases hs
        exact ⟨_, fr_ovl 26 ⟨rfl, trivial⟩, hC⟩

def k_laws_markIntS (M : Nat → Prop) (w0 : World) (qa0 : Option Addr) (qn0 qc0 : Nat) (qf0 : List Nat) (r : Int × (List Int)) (a : Act) (w : World) : Prop :=
  ∃ (σ : Nat → Value) (rfi0 : List Nat), a = fr 19 (ovl σ [(4, (.int .i64 r.1))]) ∧ Chg (qf0 ++ ([])) w0 w ∧ (RT.os 3 (RT.int .i64)).val M w (.slice qa0 qn0 qc0) r.2 rfi0 ∧ Own (Nw w0 (qf0 ++ ([]))) (fun _ => True) w (rfi0 ++ ([]))
def s_laws_markIntS (a_ : List Int) (k : Int) : Option (Int × (List Int)) :=
  (iter (S := Int × Int × (List Int)) (R := Int × (List Int)) (fun s25 =>
  (bif (decide (s25.2.1 < (s25.2.2.length : Int))) then (idx s25.2.2 s25.2.1).bind fun x34 =>
  some (.nx (w64 (s25.1 + 1), w64 (s25.2.1 + 1), List.set s25.2.2 (Int.toNat s25.2.1) s25.1)) else some (.br (s25.1, s25.2.1, s25.2.2)))) FU (k, 0, a_)).bind fun o29 => after o29 (fun r_ => some r_) (fun s25 =>
  some (s25.1, s25.2.2))
set_option maxHeartbeats 4000000 in
theorem c_laws_markIntS {M : Nat → Prop} {w : World} {pa0 : Option Addr} {pn0 pc0 : Nat} {pf0 : List Nat} (a_ : List Int) (k : Int) (h0 : (RT.os 3 (RT.int .i64)).val M w (.slice pa0 pn0 pc0) a_ pf0) (hI : Own (Nw w (pf0 ++ ([]))) M w (pf0 ++ ([]))) (hM : ∀ g, w.heap.size ≤ g → M g) {r : Int × (List Int)} (hs : s_laws_markIntS a_ k = some r) :
    Gives Try.prog 19 [(.slice pa0 pn0 pc0), (.int .i64 k)] w (fun v w' => ∃ (rfi0 : List Nat), v = (.int .i64 r.1) ∧ Chg (pf0 ++ ([])) w w' ∧ (RT.os 3 (RT.int .i64)).val M w' (.slice pa0 pn0 pc0) r.2 rfi0 ∧ Own (Nw w (pf0 ++ ([]))) (fun _ => True) w' (rfi0 ++ ([]))) := by
  refine calls_fr Try.func19 rfl Try.ntmps19 (Nat.le_of_ble_eq_true rfl) ?_
  have hO := hI
  have hC := Chg.refl (pf0 ++ ([])) w
  unfold s_laws_markIntS at hs
  refine wp_mono (Q := KPost (k_laws_markIntS M w pa0 pn0 pc0 pf0 r)) ?_ (fun e a w1 h => ?_)
  rotate_left
  · cases e
    case ret =>
      obtain ⟨σ, rfi0, rfl, hrest⟩ := h
      exact ret1x Try.results19 (res_tmp rfl) ⟨rfi0, rfl, hrest⟩
    all_goals exact (h : False).elim
  refine c_seq ?_
  refine c_region ?_
  refine pl_val (.int .i64 0) (y_assign rfl) ?_
  refine c_nil ?_
  refine c_seq ?_
  refine c_seq ?_
  refine c_region ?_
  refine pl_val (.int .i64 0) (y_assign rfl) ?_
  refine c_nil ?_
  obtain ⟨o29, hl30, hs⟩ := bind_some hs
  refine wp_block ?_
  refine wp_iter (id := 0) (I := fun s25 a w26 => ∃ (σ : Nat → Value) (f31 : List Nat), a = fr 19 (ovl σ [(0, (.slice pa0 pn0 pc0)), (1, (.int .i64 s25.1)), (5, (.int .i64 s25.2.1))]) ∧ Chg (pf0 ++ ([])) w w26 ∧ Own (Nw w (pf0 ++ ([]))) M w26 (f31 ++ []) ∧ (RT.os 3 (RT.int .i64)).val M w26 (.slice pa0 pn0 pc0) s25.2.2 f31) (J := fun s25 a w26 => ∃ (σ : Nat → Value) (f32 : List Nat), a = fr 19 (ovl σ [(1, (.int .i64 s25.1))]) ∧ Chg (pf0 ++ ([])) w w26 ∧ Own (Nw w (pf0 ++ ([]))) M w26 (f32 ++ []) ∧ (RT.os 3 (RT.int .i64)).val M w26 (.slice pa0 pn0 pc0) s25.2.2 f32) (K := (k_laws_markIntS M w pa0 pn0 pc0 pf0)) ?_ FU (k, 0, a_) o29 _ _ ?_ hl30 ?_
  · rintro s25 o29 a w26 ⟨σ, f31, rfl, hC, hO, hv31⟩ hs
    refine c_seq ?_
    refine c_seq ?_
    refine c_region ?_
    refine pl_val (.int .i64 s25.2.1) (y_move rfl) ?_
    refine pl_val (.slice pa0 pn0 pc0) (y_move rfl) ?_
    refine pl_val (.int .i64 (s25.2.2.length : Int)) (y_len' Sl22 (os_len hv31) rfl) ?_
    refine pl_val (.bool (decide (s25.2.1 < (s25.2.2.length : Int)))) (y_lss rfl rfl) ?_
    refine c_nil ?_
    rcases bif_some hs with ⟨hc33, hs⟩ | ⟨hc33, hs⟩
    · skip
      refine c_condT (congrArg Value.bool hc33) ?_
      refine wp_skip ?_
      refine c_seq ?_
      refine wp_block ?_
      refine c_seq ?_
      refine c_region ?_
      refine pl_val (.slice pa0 pn0 pc0) (y_move rfl) ?_
      refine pl_val (.int .i64 s25.2.1) (y_move rfl) ?_
      refine pl_val (.int .i64 s25.1) (y_move rfl) ?_
      obtain ⟨x34, hx34, hs⟩ := bind_some hs
      obtain ⟨g35, f35, hg35, hk35, hp35, ha35, hf35⟩ := os_idx Sl22 Sz3 hv31 hx34
      refine pl_val (.pointer (some ⟨g35, 0 + Int.toNat s25.2.1 * 1, none⟩)) (hp35 _ _ _ _ _ _ _ _ _ rfl rfl) ?_
      obtain ⟨w36, f36, hst36, hC36, hf36, hv36⟩ := os_store (P := Try.prog) (c' := [(.int .i64 s25.1)]) hg35 hv31 hk35 (fun g hg => hO.inM g (os_block hv31 g (by simpa using hg))) ⟨rfl, rfl⟩ List.nodup_nil (fun _ h => nomatch h) (fun _ h => .inl h)
      have hG36 : ∀ q ∈ [g35], q ∈ f31 := fun q hq => os_block hv31 q (by rw [hg35]; exact hq)
      refine pl_skip (w' := w36) (ys_store rfl rfl (hst36 _ _ rfl Sz3)) ?_
      have hC := hC.step hC36 (fun g hg => hO.inN g (hG36 g hg))
      have hO := hO.grow hC36 (fun q hq => .inl ((hf36 q hq).resolve_right (fun h => nomatch h))) (os_nodup hv36) hv36.fpl
      refine c_nil ?_
      refine c_region ?_
      refine pl_val (.int .i64 s25.1) (y_move rfl) ?_
      refine pl_val (.int .i64 (w64 (s25.1 + 1))) (y_add rfl rfl) ?_
      refine pl_val (.int .i64 (w64 (s25.1 + 1))) (y_assign rfl) ?_
      refine c_nil ?_
      refine c_region ?_
      refine pl_val (.int .i64 s25.2.1) (y_move rfl) ?_
      refine pl_val (.int .i64 (w64 (s25.2.1 + 1))) (y_add rfl rfl) ?_
      refine pl_val (.int .i64 (w64 (s25.2.1 + 1))) (y_assign rfl) ?_
      refine c_nil ?_
      cases hs
      exact ⟨_, f36, fr_ovl 19 ⟨rfl, rfl, rfl, trivial⟩, hC, hO, hv36⟩
    · skip
      refine c_condF (congrArg Value.bool hc33) ?_
      refine wp_exit ?_
      cases hs
      exact ⟨rfl, _, f31, fr_ovl 19 ⟨rfl, trivial⟩, hC, hO, hv31⟩
  · skip
    exact ⟨_, pf0, fr_ovl 19 ⟨rfl, rfl, rfl, trivial⟩, hC, hO, h0⟩
  · cases o29 with
    | nx _ => exact True.intro
    | rt r_ =>
      have hs := after_rt hs
      intro a1 w1 hK
      cases hs
      exact hK
    | br s25 =>
      have hs := after_br hs
      rintro a1 w26 ⟨σ, f32, rfl, hC, hO, hv32⟩
      refine c_seq ?_
      refine c_region ?_
      refine pl_val (.int .i64 s25.1) (y_move rfl) ?_
      refine pl_val (.int .i64 s25.1) (y_assign rfl) ?_
      refine c_nil ?_
      refine wp_ret ?_
      cases hs
      exact ⟨_, f32, fr_ovl 19 ⟨rfl, trivial⟩, hC, hv32, hO.top⟩

def k_laws_heldIntS (M : Nat → Prop) (w0 : World) (r : Int) (a : Act) (w : World) : Prop :=
  ∃ (σ : Nat → Value) , a = fr 21 (ovl σ [(4, (.int .i64 r))]) ∧ Chg [] w0 w
def s_laws_heldIntS (a_ : List Int) (k : Int) : Option (Int) :=
  (forC (S := Int) (R := Int) (fun k7 s5 =>
  (idx a_ k7).bind fun x11 =>
  (bif (x11 != s5) then some (.rt (-1)) else some (.nx (w64 (s5 + 1))))) 0 (a_.length : Int) k).bind fun o9 => after o9 (fun r_ => some r_) (fun s5 =>
  some s5)
set_option maxHeartbeats 4000000 in
theorem c_laws_heldIntS {M : Nat → Prop} {w : World} {pa0 : Option Addr} {pn0 pc0 : Nat} (a_ : List Int) (k : Int) (h0 : (RT.rs (RT.int .i64)).val M w (.slice pa0 pn0 pc0) a_ ([])) (hM : ∀ g, w.heap.size ≤ g → M g) {r : Int} (hs : s_laws_heldIntS a_ k = some r) :
    Gives Try.prog 20 [(.slice pa0 pn0 pc0), (.int .i64 k)] w (fun v w' => v = (.int .i64 r) ∧ Chg [] w w') := by
  refine calls_fr Try.func20 rfl Try.ntmps20 (Nat.le_of_ble_eq_true rfl) ?_
  have hO := Own.start (N := Nw w []) hM Nw.fut
  have hC := Chg.refl [] w
  unfold s_laws_heldIntS at hs
  refine wp_mono (Q := KPost (k_laws_heldIntS M w r)) ?_ (fun e a w1 h => ?_)
  rotate_left
  · cases e
    case ret =>
      obtain ⟨σ, rfl, hrest⟩ := h
      exact ret1x Try.results20 (res_tmp rfl) ⟨rfl, hrest⟩
    all_goals exact (h : False).elim
  refine c_seq ?_
  refine c_region ?_
  refine pl_val (.int .i64 0) (y_assign rfl) ?_
  refine c_nil ?_
  refine c_seq ?_
  refine c_seq ?_
  refine c_region ?_
  refine pl_val (.int .i64 0) (y_assign rfl) ?_
  refine c_nil ?_
  obtain ⟨o9, hl10, hs⟩ := bind_some hs
  refine wp_block ?_
  refine wp_forC (id := 0) (a_.length : Int) (I := fun k7 s5 a w6 => ∃ (σ : Nat → Value), a = fr 21 (ovl σ [(0, (.slice pa0 pn0 pc0)), (1, (.int .i64 s5)), (5, (.int .i64 k7))]) ∧ Chg [] w w6 ∧ Own (Nw w []) M w6 ([]) ∧ (RT.rs (RT.int .i64)).val M w6 (.slice pa0 pn0 pc0) a_ ([])) (J := fun s5 a w6 => ∃ (σ : Nat → Value), a = fr 21 (ovl σ [(1, (.int .i64 s5))]) ∧ Chg [] w w6 ∧ Own (Nw w []) M w6 ([]) ∧ (RT.rs (RT.int .i64)).val M w6 (.slice pa0 pn0 pc0) a_ ([])) (K := (k_laws_heldIntS M w)) ?_ ?_ 0 k o9 _ _ ?_ hl10 ?_
  · rintro k7 s5 a w6 ⟨σ, rfl, hC, hO, h0⟩ hlt
    refine c_seq ?_
    refine c_seq ?_
    refine c_region ?_
    refine pl_val (.int .i64 k7) (y_move rfl) ?_
    refine pl_val (.slice pa0 pn0 pc0) (y_move rfl) ?_
    refine pl_val (.int .i64 (a_.length : Int)) (y_len' Sl22 (rs_len h0) rfl) ?_
    refine pl_val (.bool (decide (k7 < (a_.length : Int)))) (y_lss rfl rfl) ?_
    refine c_nil ?_
    refine c_condF (congrArg Value.bool (decide_eq_false hlt)) ?_
    refine wp_exit ?_
    exact ⟨rfl, _, fr_ovl 21 ⟨rfl, trivial⟩, hC, hO, h0⟩
  · rintro k7 s5 o9 a w6 ⟨σ, rfl, hC, hO, h0⟩ hlt hw hs
    refine c_seq ?_
    refine c_seq ?_
    refine c_region ?_
    refine pl_val (.int .i64 k7) (y_move rfl) ?_
    refine pl_val (.slice pa0 pn0 pc0) (y_move rfl) ?_
    refine pl_val (.int .i64 (a_.length : Int)) (y_len' Sl22 (rs_len h0) rfl) ?_
    refine pl_val (.bool (decide (k7 < (a_.length : Int)))) (y_lss rfl rfl) ?_
    refine c_nil ?_
    refine c_condT (congrArg Value.bool (decide_eq_true hlt)) ?_
    refine wp_skip ?_
    refine c_seq ?_
    refine wp_block ?_
    refine c_seq ?_
    refine c_seq ?_
    refine c_region ?_
    refine pl_val (.slice pa0 pn0 pc0) (y_move rfl) ?_
    refine pl_val (.int .i64 k7) (y_move rfl) ?_
    obtain ⟨x11, hx11, hs⟩ := bind_some hs
    obtain ⟨b12, o12, hp12, ha12⟩ := rs_idx Sl22 Sz3 h0 hx11
    refine pl_val (.pointer (some ⟨b12, o12, none⟩)) (hp12 _ _ _ _ _ _ _ _ _ rfl rfl) ?_
    refine pl_val (.int .i64 x11) (y_load rfl ((at_load_int Ag3 Sz3 ha12) _ (Chg.refl _ _))) ?_
    refine pl_val (.int .i64 s5) (y_move rfl) ?_
    refine pl_val (.bool (x11 != s5)) (y_neq rfl rfl) ?_
    refine c_nil ?_
    rcases bif_some hs with ⟨hc13, hs⟩ | ⟨hc13, hs⟩
    · skip
      refine c_condT (congrArg Value.bool hc13) ?_
      refine c_seq ?_
      refine c_region ?_
      refine pl_val (.int .i64 (-1)) (y_assign rfl) ?_
      refine c_nil ?_
      refine wp_ret ?_
      cases hs
      exact ⟨_, fr_ovl 21 ⟨rfl, trivial⟩, hC⟩
    · skip
      refine c_condF (congrArg Value.bool hc13) ?_
      refine wp_skip ?_
      refine c_region ?_
      refine pl_val (.int .i64 s5) (y_move rfl) ?_
      refine pl_val (.int .i64 (w64 (s5 + 1))) (y_add rfl rfl) ?_
      refine pl_val (.int .i64 (w64 (s5 + 1))) (y_assign rfl) ?_
      refine c_nil ?_
      refine c_region ?_
      refine pl_val (.int .i64 k7) (y_move rfl) ?_
      refine pl_val (.int .i64 (w64 (k7 + 1))) (y_add rfl rfl) ?_
      refine pl_val (.int .i64 (w64 (k7 + 1))) (y_assign rfl) ?_
      refine c_nil ?_
      cases hs
      exact ⟨_, fr_ovl 21 ⟨rfl, rfl, congrArg (Value.int .i64) hw, trivial⟩, hC, hO, h0⟩
  · skip
    exact ⟨_, fr_ovl 21 ⟨rfl, rfl, rfl, trivial⟩, hC, hO, h0⟩
  · cases o9 with
    | nx _ => exact True.intro
    | rt r_ =>
      have hs := after_rt hs
      intro a1 w1 hK
      cases hs
      exact hK
    | br s5 =>
      have hs := after_br hs
      rintro a1 w6 ⟨σ, rfl, hC, hO, h0⟩
      refine c_seq ?_
      refine c_region ?_
      refine pl_val (.int .i64 s5) (y_move rfl) ?_
      refine pl_val (.int .i64 s5) (y_assign rfl) ?_
      refine c_nil ?_
      refine wp_ret ?_
      cases hs
      exact ⟨_, fr_ovl 21 ⟨rfl, trivial⟩, hC⟩

theorem Bd16 : Bodied Try.prog 16 := bodied Try.func16 (by kernel_rfl) rfl

theorem Bd15 : Bodied Try.prog 15 := bodied Try.func15 (by kernel_rfl) rfl

theorem Bd17 : Bodied Try.prog 17 := bodied Try.func17 (by kernel_rfl) rfl

theorem Bd18 : Bodied Try.prog 18 := bodied Try.func18 (by kernel_rfl) rfl

theorem Bd19 : Bodied Try.prog 19 := bodied Try.func19 (by kernel_rfl) rfl

theorem Bd20 : Bodied Try.prog 20 := bodied Try.func20 (by kernel_rfl) rfl

def k_laws_FnExactFirstUnpermuted (M : Nat → Prop) (w0 : World) (r : Bool) (a : Act) (w : World) : Prop :=
  ∃ (σ : Nat → Value) , a = fr 119 (ovl σ [(6, (.bool r))]) ∧ Chg [] w0 w
def s_laws_FnExactFirstUnpermuted (aN : Int) (aP : List Int) (aQ : List Int) : Option (Bool) :=
  (bif (decide (1048576 < (aP.length : Int))) then some true else (bif (decide (1048576 < (aQ.length : Int))) then some true else (s_laws_toIntS aP).bind fun r6 =>
  (s_laws_toIntS aQ).bind fun r9 =>
  (s_spec_FirstUnpermuted aN r6 r9).bind fun r14 =>
  (s_laws_toIntS aP).bind fun r17 =>
  (s_laws_toIntS aQ).bind fun r20 =>
  (s_impl_FirstUnpermuted aN r17 r20).bind fun r23 =>
  ((s_laws_eqIntS r23.1 r14.1).bind fun r29 =>
  (bif (!r29) then some true else some (!(r23.2 == r14.2)))).bind fun s25 =>
  (bif s25 then some false else (s_laws_toIntS aP).bind fun r33 =>
  (s_laws_eqIntS r17 r33).bind fun r36 =>
  (bif (!r36) then some false else (s_laws_toIntS aQ).bind fun r39 =>
  (s_laws_eqIntS r20 r39).bind fun r42 =>
  (bif (!r42) then some false else (s_laws_markIntS r17 1).bind fun r45 =>
  (s_laws_markIntS r20 r45.1).bind fun r47 =>
  ((bif (decide (r47.1 < 0)) then some true else (s_laws_eqIntS r23.1 r14.1).bind fun r53 =>
  (bif (!r53) then some true else some (!(r23.2 == r14.2))))).bind fun s48 =>
  (bif s48 then some false else (s_laws_markIntS r23.1 1).bind fun r57 =>
  (s_laws_heldIntS r57.2 1).bind fun r59 =>
  (bif (decide (r59 < 0)) then some false else (bif (r59 != r57.1) then some false else (s_laws_toIntS aP).bind fun r63 =>
  (s_laws_toIntS aQ).bind fun r66 =>
  (s_impl_FirstUnpermuted aN r63 r66).bind fun r69 =>
  ((s_laws_eqIntS r69.1 r14.1).bind fun r75 =>
  (bif (!r75) then some true else some (!(r69.2 == r14.2)))).bind fun s71 =>
  (bif s71 then some false else (s_laws_heldIntS r57.2 1).bind fun r79 =>
  (bif (decide (r79 < 0)) then some false else (bif (r79 != r57.1) then some false else some true)))))))))))
set_option maxHeartbeats 4000000 in
theorem c_laws_FnExactFirstUnpermuted {M : Nat → Prop} {w : World} {pa0 : Option Addr} {pn0 pc0 : Nat} {pa1 : Option Addr} {pn1 pc1 : Nat} (aN : Int) (aP : List Int) (aQ : List Int) (h0 : (RT.rs (RT.int .i64)).val M w (.slice pa0 pn0 pc0) aP ([])) (h1 : (RT.rs (RT.int .i64)).val M w (.slice pa1 pn1 pc1) aQ ([])) (hM : ∀ g, w.heap.size ≤ g → M g) {r : Bool} (hs : s_laws_FnExactFirstUnpermuted aN aP aQ = some r) :
    Gives Try.prog 3 [(.int .i64 aN), (.slice pa0 pn0 pc0), (.slice pa1 pn1 pc1)] w (fun v w' => v = (.bool r) ∧ Chg [] w w') := by
  refine calls_fr Try.func3 rfl Try.ntmps3 (Nat.le_of_ble_eq_true rfl) ?_
  have hO := Own.start (N := Nw w []) hM Nw.fut
  have hC := Chg.refl [] w
  unfold s_laws_FnExactFirstUnpermuted at hs
  refine wp_mono (Q := KPost (k_laws_FnExactFirstUnpermuted M w r)) ?_ (fun e a w1 h => ?_)
  rotate_left
  · cases e
    case ret =>
      obtain ⟨σ, rfl, hrest⟩ := h
      exact ret1x Try.results3 (res_tmp rfl) ⟨rfl, hrest⟩
    all_goals exact (h : False).elim
  refine c_seq ?_
  refine c_region ?_
  refine pl_val (.bool false) (y_assign rfl) ?_
  refine c_nil ?_
  refine c_seq ?_
  refine c_seq ?_
  refine c_region ?_
  refine pl_val (.slice pa0 pn0 pc0) (y_move rfl) ?_
  refine pl_val (.int .i64 (aP.length : Int)) (y_len' Sl22 (rs_len h0) rfl) ?_
  refine pl_val (.bool (decide (1048576 < (aP.length : Int)))) (y_gtr rfl rfl) ?_
  refine c_nil ?_
  rcases bif_some hs with ⟨hc3, hs⟩ | ⟨hc3, hs⟩
  · skip
    refine c_condT (congrArg Value.bool hc3) ?_
    refine c_seq ?_
    refine c_region ?_
    refine pl_val (.bool true) (y_assign rfl) ?_
    refine c_nil ?_
    refine wp_ret ?_
    cases hs
    exact ⟨_, fr_ovl 119 ⟨rfl, trivial⟩, hC⟩
  · skip
    refine c_condF (congrArg Value.bool hc3) ?_
    refine wp_skip ?_
    refine c_seq ?_
    refine c_seq ?_
    refine c_region ?_
    refine pl_val (.slice pa1 pn1 pc1) (y_move rfl) ?_
    refine pl_val (.int .i64 (aQ.length : Int)) (y_len' Sl22 (rs_len h1) rfl) ?_
    refine pl_val (.bool (decide (1048576 < (aQ.length : Int)))) (y_gtr rfl rfl) ?_
    refine c_nil ?_
    rcases bif_some hs with ⟨hc4, hs⟩ | ⟨hc4, hs⟩
    · skip
      refine c_condT (congrArg Value.bool hc4) ?_
      refine c_seq ?_
      refine c_region ?_
      refine pl_val (.bool true) (y_assign rfl) ?_
      refine c_nil ?_
      refine wp_ret ?_
      cases hs
      exact ⟨_, fr_ovl 119 ⟨rfl, trivial⟩, hC⟩
    · skip
      refine c_condF (congrArg Value.bool hc4) ?_
      refine wp_skip ?_
      refine c_seq ?_
      refine c_region ?_
      refine pl_val (.int .i64 aN) (y_move rfl) ?_
      refine pl_val (.slice pa0 pn0 pc0) (y_move rfl) ?_
      obtain ⟨r6, hr6, hs⟩ := bind_some hs
      refine pl_call Bd16 rfl (c_laws_toIntS (M := M) aP h0 hO.fut hr6) ?_
      rintro _ w5 ⟨a5x0, n5x0, c5x0, f5x0, rfl, hC5, hv5x0, hOc5⟩
      have h0 := h0.ext hC5
      have h1 := h1.ext hC5
      have hC := hC.ext hC5
      have hO := Own.join0 hO hC5 hOc5
      have hO := hO.perm (R := f5x0 ++ ([])) (by simp)
      refine pl_val (.slice pa1 pn1 pc1) (y_move rfl) ?_
      obtain ⟨r9, hr9, hs⟩ := bind_some hs
      refine pl_call Bd16 rfl (c_laws_toIntS (M := M) aQ h1 hO.fut hr9) ?_
      rintro _ w8 ⟨a8x0, n8x0, c8x0, f8x0, rfl, hC8, hv8x0, hOc8⟩
      have h0 := h0.ext hC8
      have h1 := h1.ext hC8
      have hv5x0 := hv5x0.ext hC8
      have hC := hC.ext hC8
      have hO := Own.join0 hO hC8 hOc8
      have hO := hO.perm (R := f8x0 ++ (f5x0 ++ ([]))) (by simp)
      have hO := hO.fr1
      obtain ⟨M12, eM12, hs12, hk12, hO, hv12⟩ := frz_own (Frz.os Frz.int) hv5x0 hO
      have h0 := h0.sub (M' := M12) hs12
      have h1 := h1.sub (M' := M12) hs12
      have hv8x0 := hv8x0.sub (M' := M12) hs12
      have hK := hk12
      obtain ⟨M13, eM13, hs13, hk13, hO, hv13⟩ := frz_own (Frz.os Frz.int) hv8x0 hO
      have h0 := h0.sub (M' := M13) hs13
      have h1 := h1.sub (M' := M13) hs13
      have hv12 := hv12.sub (M' := M13) hs13
      have hK := hK.trans hk13
      obtain ⟨r14, hr14, hs⟩ := bind_some hs
      refine pl_call Bd15 rfl (c_spec_FirstUnpermuted (M := M13) aN r6 r9 hv12 hv13 hO.fut hr14) ?_
      rintro _ w11 ⟨a11x0, n11x0, c11x0, rfl, hC11, hv11x0⟩
      have hK := hK.trans (show Keeps w M13 (Past M13 w8 w11) from Keeps.past hC.size)
      have h0 := h0.ext hC11
      have h1 := h1.ext hC11
      have hv12 := hv12.ext hC11
      have hv13 := hv13.ext hC11
      have hC := hC.ext hC11
      have hO := hO.past hC11
      have h0 := h0.sub (M' := (Past M13 w8 w11)) (fun g hg => .inl hg.1)
      have h1 := h1.sub (M' := (Past M13 w8 w11)) (fun g hg => .inl hg.1)
      have hv12 := hv12.sub (M' := (Past M13 w8 w11)) (fun g hg => .inl hg.1)
      have hv13 := hv13.sub (M' := (Past M13 w8 w11)) (fun g hg => .inl hg.1)
      refine pl_val (.tuple #[(.slice a11x0 n11x0 c11x0), (.bool r14.2)]) (y_move rfl) ?_
      refine pl_val (.slice a11x0 n11x0 c11x0) (y_extract rfl (by kernel_rfl)) ?_
      refine pl_val (.bool r14.2) (y_extract rfl (by kernel_rfl)) ?_
      refine pl_val (.slice a11x0 n11x0 c11x0) (y_assign rfl) ?_
      refine pl_val (.bool r14.2) (y_assign rfl) ?_
      refine c_nil ?_
      refine c_seq ?_
      refine c_region ?_
      refine pl_val (.slice pa0 pn0 pc0) (y_move rfl) ?_
      obtain ⟨r17, hr17, hs⟩ := bind_some hs
      refine pl_call Bd16 rfl (c_laws_toIntS (M := (Past M13 w8 w11)) aP h0 hO.fut hr17) ?_
      rintro _ w16 ⟨a16x0, n16x0, c16x0, f16x0, rfl, hC16, hv16x0, hOc16⟩
      have h0 := h0.ext hC16
      have h1 := h1.ext hC16
      have hv11x0 := hv11x0.ext hC16
      have hC := hC.ext hC16
      have hO := Own.join0 hO hC16 hOc16
      have hO := hO.perm (R := f16x0 ++ ([])) (by simp)
      refine pl_val (.slice a16x0 n16x0 c16x0) (y_assign rfl) ?_
      refine c_nil ?_
      refine c_seq ?_
      refine c_region ?_
      refine pl_val (.slice pa1 pn1 pc1) (y_move rfl) ?_
      obtain ⟨r20, hr20, hs⟩ := bind_some hs
      refine pl_call Bd16 rfl (c_laws_toIntS (M := (Past M13 w8 w11)) aQ h1 hO.fut hr20) ?_
      rintro _ w19 ⟨a19x0, n19x0, c19x0, f19x0, rfl, hC19, hv19x0, hOc19⟩
      have h0 := h0.ext hC19
      have h1 := h1.ext hC19
      have hv11x0 := hv11x0.ext hC19
      have hv16x0 := hv16x0.ext hC19
      have hC := hC.ext hC19
      have hO := Own.join0 hO hC19 hOc19
      have hO := hO.perm (R := f19x0 ++ (f16x0 ++ ([]))) (by simp)
      refine pl_val (.slice a19x0 n19x0 c19x0) (y_assign rfl) ?_
      refine c_nil ?_
      refine c_seq ?_
      refine c_region ?_
      refine pl_val (.int .i64 aN) (y_move rfl) ?_
      refine pl_val (.slice a16x0 n16x0 c16x0) (y_move rfl) ?_
      refine pl_val (.slice a19x0 n19x0 c19x0) (y_move rfl) ?_
      have hO := hO.fr1
      obtain ⟨r23, hr23, hs⟩ := bind_some hs
      refine pl_call Bd17 rfl (c_impl_FirstUnpermuted (M := (Less (Less (Past M13 w8 w11) f16x0) f19x0)) aN r17 r20 ((((Frz.os Frz.int)).val hv16x0 Less.sub Less.not).sub Less.sub) (((Frz.os Frz.int)).val (hv19x0.sub Less.sub) Less.sub Less.not) (hO.less).less.fut hr23) ?_
      rintro _ w22 ⟨a22x0, n22x0, c22x0, f22x0, rfl, hC22, hv22x0, hOc22⟩
      have h0 := h0.ext hC22
      have h1 := h1.ext hC22
      have hv11x0 := hv11x0.ext hC22
      have hv16x0 := hv16x0.ext hC22
      have hv19x0 := hv19x0.ext hC22
      have hC := hC.ext hC22
      have hO := Own.join0 hO hC22 hOc22
      have hO := hO.perm (R := f22x0 ++ (f16x0 ++ (f19x0 ++ ([])))) (by simp)
      have hv22x0 := hv22x0.free (M' := (Past M13 w8 w11)) (Free.os Free.int)
      refine pl_val (.tuple #[(.slice a22x0 n22x0 c22x0), (.bool r23.2)]) (y_move rfl) ?_
      refine pl_val (.slice a22x0 n22x0 c22x0) (y_extract rfl (by kernel_rfl)) ?_
      refine pl_val (.bool r23.2) (y_extract rfl (by kernel_rfl)) ?_
      refine pl_val (.slice a22x0 n22x0 c22x0) (y_assign rfl) ?_
      refine pl_val (.bool r23.2) (y_assign rfl) ?_
      refine c_nil ?_
      refine c_seq ?_
      refine c_seq ?_
      obtain ⟨s25, hm27, hs⟩ := bind_some hs
      refine c_mid (I := fun a w26 => ∃ (σ : Nat → Value), a = fr 119 (ovl σ [(0, (.int .i64 aN)), (1, (.slice pa0 pn0 pc0)), (2, (.slice pa1 pn1 pc1)), (6, (.bool false)), (7, (.slice a11x0 n11x0 c11x0)), (8, (.bool r14.2)), (9, (.slice a16x0 n16x0 c16x0)), (10, (.slice a19x0 n19x0 c19x0)), (11, (.slice a22x0 n22x0 c22x0)), (12, (.bool r23.2)), (52, (.bool s25))]) ∧ Chg [] w22 w26) ?_ ?_
      · replace hs := hm27
        have hMid := Chg.refl [] w22
        refine c_region ?_
        refine pl_val (.slice a22x0 n22x0 c22x0) (y_move rfl) ?_
        refine pl_val (.slice a11x0 n11x0 c11x0) (y_move rfl) ?_
        obtain ⟨r29, hr29, hs⟩ := bind_some hs
        refine pl_call Bd18 rfl (c_laws_eqIntS (M := (Less (Past M13 w8 w11) f22x0)) r23.1 r14.1 (((Frz.os Frz.int)).val hv22x0 Less.sub Less.not) (hv11x0.sub Less.sub) hO.less.fut hr29) ?_
        rintro _ w28 ⟨rfl, hC28⟩
        have h0 := h0.ext hC28
        have h1 := h1.ext hC28
        have hv11x0 := hv11x0.ext hC28
        have hv16x0 := hv16x0.ext hC28
        have hv19x0 := hv19x0.ext hC28
        have hv22x0 := hv22x0.ext hC28
        have hMid := hMid.ext hC28
        have hC := hC.ext hC28
        have hO := hO.ext hC28
        refine pl_val (.bool (!r29)) (y_not rfl) ?_
        refine pl_val (.bool (!r29)) (y_move rfl) ?_
        rcases bif_some hs with ⟨hc30, hs⟩ | ⟨hc30, hs⟩
        · skip
          refine pl_not (tg := 48) (by kernel_rfl) (congrArg Value.bool hc30) ?_
          refine pl_not (tg := 48) (by kernel_rfl) (congrArg Value.bool hc30) ?_
          refine pl_not (tg := 48) (by kernel_rfl) (congrArg Value.bool hc30) ?_
          refine pl_val (.bool true) (y_pick_t (congrArg Value.bool hc30) rfl) ?_
          refine c_nil ?_
          cases hs
          exact ⟨_, fr_ovl 119 ⟨rfl, rfl, rfl, rfl, rfl, rfl, rfl, rfl, rfl, rfl, rfl, trivial⟩, hMid⟩
        · skip
          refine pl_yes (.bool r23.2) (tg := 48) (by kernel_rfl) (congrArg Value.bool hc30) (y_move rfl) ?_
          refine pl_yes (.bool r14.2) (tg := 48) (by kernel_rfl) (congrArg Value.bool hc30) (y_move rfl) ?_
          refine pl_yes (.bool (!(r23.2 == r14.2))) (tg := 48) (by kernel_rfl) (congrArg Value.bool hc30) (y_bneq Try.underlying4 rfl rfl) ?_
          refine pl_val (.bool (!(r23.2 == r14.2))) (y_pick_f (congrArg Value.bool hc30) rfl) ?_
          refine c_nil ?_
          cases hs
          exact ⟨_, fr_ovl 119 ⟨rfl, rfl, rfl, rfl, rfl, rfl, rfl, rfl, rfl, rfl, rfl, trivial⟩, hMid⟩
      · rintro a1 w26 ⟨σ, rfl, hCs25⟩
        have h0 := h0.ext hCs25
        have h1 := h1.ext hCs25
        have hv11x0 := hv11x0.ext hCs25
        have hv16x0 := hv16x0.ext hCs25
        have hv19x0 := hv19x0.ext hCs25
        have hv22x0 := hv22x0.ext hCs25
        have hC := hC.ext hCs25
        have hO := hO.ext hCs25
        rcases bif_some hs with ⟨hc31, hs⟩ | ⟨hc31, hs⟩
        · skip
          refine c_condT (congrArg Value.bool hc31) ?_
          refine c_seq ?_
          refine c_region ?_
          refine pl_val (.bool false) (y_assign rfl) ?_
          refine c_nil ?_
          refine wp_ret ?_
          cases hs
          exact ⟨_, fr_ovl 119 ⟨rfl, trivial⟩, hC⟩
        · skip
          refine c_condF (congrArg Value.bool hc31) ?_
          refine wp_skip ?_
          refine c_seq ?_
          refine c_seq ?_
          refine c_region ?_
          refine pl_val (.slice a16x0 n16x0 c16x0) (y_move rfl) ?_
          refine pl_val (.slice pa0 pn0 pc0) (y_move rfl) ?_
          obtain ⟨r33, hr33, hs⟩ := bind_some hs
          refine pl_call Bd16 rfl (c_laws_toIntS (M := (Past M13 w8 w11)) aP h0 hO.fut hr33) ?_
          rintro _ w32 ⟨a32x0, n32x0, c32x0, f32x0, rfl, hC32, hv32x0, hOc32⟩
          have h0 := h0.ext hC32
          have h1 := h1.ext hC32
          have hv11x0 := hv11x0.ext hC32
          have hv16x0 := hv16x0.ext hC32
          have hv19x0 := hv19x0.ext hC32
          have hv22x0 := hv22x0.ext hC32
          have hC := hC.ext hC32
          have hO := Own.join0 hO hC32 hOc32
          have hO := hO.perm (R := f32x0 ++ (f22x0 ++ (f16x0 ++ (f19x0 ++ ([]))))) (by simp)
          have hO := hO.fr2
          obtain ⟨r36, hr36, hs⟩ := bind_some hs
          refine pl_call Bd18 rfl (c_laws_eqIntS (M := (Less (Less (Past M13 w8 w11) f16x0) f32x0)) r17 r33 ((((Frz.os Frz.int)).val hv16x0 Less.sub Less.not).sub Less.sub) (((Frz.os Frz.int)).val (hv32x0.sub Less.sub) Less.sub Less.not) (hO.less).less.fut hr36) ?_
          rintro _ w35 ⟨rfl, hC35⟩
          have h0 := h0.ext hC35
          have h1 := h1.ext hC35
          have hv11x0 := hv11x0.ext hC35
          have hv16x0 := hv16x0.ext hC35
          have hv19x0 := hv19x0.ext hC35
          have hv22x0 := hv22x0.ext hC35
          have hv32x0 := hv32x0.ext hC35
          have hC := hC.ext hC35
          have hO := hO.ext hC35
          refine pl_val (.bool (!r36)) (y_not rfl) ?_
          refine c_nil ?_
          rcases bif_some hs with ⟨hc37, hs⟩ | ⟨hc37, hs⟩
          · skip
            refine c_condT (congrArg Value.bool hc37) ?_
            refine c_seq ?_
            refine c_region ?_
            refine pl_val (.bool false) (y_assign rfl) ?_
            refine c_nil ?_
            refine wp_ret ?_
            cases hs
            exact ⟨_, fr_ovl 119 ⟨rfl, trivial⟩, hC⟩
          · skip
            refine c_condF (congrArg Value.bool hc37) ?_
            refine wp_skip ?_
            refine c_seq ?_
            refine c_seq ?_
            refine c_region ?_
            refine pl_val (.slice a19x0 n19x0 c19x0) (y_move rfl) ?_
            refine pl_val (.slice pa1 pn1 pc1) (y_move rfl) ?_
            obtain ⟨r39, hr39, hs⟩ := bind_some hs
            refine pl_call Bd16 rfl (c_laws_toIntS (M := (Past M13 w8 w11)) aQ h1 hO.fut hr39) ?_
            rintro _ w38 ⟨a38x0, n38x0, c38x0, f38x0, rfl, hC38, hv38x0, hOc38⟩
            have h0 := h0.ext hC38
            have h1 := h1.ext hC38
            have hv11x0 := hv11x0.ext hC38
            have hv16x0 := hv16x0.ext hC38
            have hv19x0 := hv19x0.ext hC38
            have hv22x0 := hv22x0.ext hC38
            have hv32x0 := hv32x0.ext hC38
            have hC := hC.ext hC38
            have hO := Own.join0 hO hC38 hOc38
            have hO := hO.perm (R := f38x0 ++ (f16x0 ++ (f32x0 ++ (f22x0 ++ (f19x0 ++ ([])))))) (by simp)
            have hO := hO.fr4
            obtain ⟨r42, hr42, hs⟩ := bind_some hs
            refine pl_call Bd18 rfl (c_laws_eqIntS (M := (Less (Less (Past M13 w8 w11) f19x0) f38x0)) r20 r39 ((((Frz.os Frz.int)).val hv19x0 Less.sub Less.not).sub Less.sub) (((Frz.os Frz.int)).val (hv38x0.sub Less.sub) Less.sub Less.not) (hO.less).less.fut hr42) ?_
            rintro _ w41 ⟨rfl, hC41⟩
            have h0 := h0.ext hC41
            have h1 := h1.ext hC41
            have hv11x0 := hv11x0.ext hC41
            have hv16x0 := hv16x0.ext hC41
            have hv19x0 := hv19x0.ext hC41
            have hv22x0 := hv22x0.ext hC41
            have hv32x0 := hv32x0.ext hC41
            have hv38x0 := hv38x0.ext hC41
            have hC := hC.ext hC41
            have hO := hO.ext hC41
            refine pl_val (.bool (!r42)) (y_not rfl) ?_
            refine c_nil ?_
            rcases bif_some hs with ⟨hc43, hs⟩ | ⟨hc43, hs⟩
            · skip
              refine c_condT (congrArg Value.bool hc43) ?_
              refine c_seq ?_
              refine c_region ?_
              refine pl_val (.bool false) (y_assign rfl) ?_
              refine c_nil ?_
              refine wp_ret ?_
              cases hs
              exact ⟨_, fr_ovl 119 ⟨rfl, trivial⟩, hC⟩
            · skip
              refine c_condF (congrArg Value.bool hc43) ?_
              refine wp_skip ?_
              refine c_seq ?_
              refine c_region ?_
              refine pl_val (.int .i64 1) (y_assign rfl) ?_
              refine c_nil ?_
              refine c_seq ?_
              refine c_region ?_
              refine pl_val (.slice a16x0 n16x0 c16x0) (y_move rfl) ?_
              refine pl_val (.int .i64 1) (y_move rfl) ?_
              have hO := hO.fr2
              have hL44 := hO
              have hI44 := Own.lend (F := (f16x0 ++ ([]))) (R := f19x0 ++ (f38x0 ++ (f32x0 ++ (f22x0 ++ ([]))))) (Own.perm (hL44) (by simp))
              obtain ⟨r45, hr45, hs⟩ := bind_some hs
              refine pl_call Bd19 rfl (c_laws_markIntS (M := (Past M13 w8 w11)) r17 1 hv16x0 hI44 hI44.fut hr45) ?_
              rintro _ w44 ⟨fi44x0, rfl, hC44, hvi44x0, hOc44⟩
              have hO := hO.perm (R := (f16x0 ++ ([])) ++ (f19x0 ++ (f38x0 ++ (f32x0 ++ (f22x0 ++ ([])))))) (by simp)
              have h0 := h0.mut hC44 (fun g hg => hO.inM g ((fun _ h => h) g hg)) (fun _ _ h => nomatch h)
              have h1 := h1.mut hC44 (fun g hg => hO.inM g ((fun _ h => h) g hg)) (fun _ _ h => nomatch h)
              have hv11x0 := hv11x0.mut hC44 (fun g hg => hO.inM g ((fun _ h => h) g hg)) (fun _ _ h => nomatch h)
              have hv19x0 := hv19x0.mut hC44 (fun g hg => hO.inM g ((fun _ h => h) g hg)) (fun g hg e => hO.apart g ((fun _ h => h) g hg) (mem_l (e)))
              have hv22x0 := hv22x0.mut hC44 (fun g hg => hO.inM g ((fun _ h => h) g hg)) (fun g hg e => hO.apart g ((fun _ h => h) g hg) (mem_r (mem_r (mem_r (mem_l (e))))))
              have hv32x0 := hv32x0.mut hC44 (fun g hg => hO.inM g ((fun _ h => h) g hg)) (fun g hg e => hO.apart g ((fun _ h => h) g hg) (mem_r (mem_r (mem_l (e)))))
              have hv38x0 := hv38x0.mut hC44 (fun g hg => hO.inM g ((fun _ h => h) g hg)) (fun g hg e => hO.apart g ((fun _ h => h) g hg) (mem_r (mem_l (e))))
              have hC := hC.step hC44 (fun g hg => hO.inN g ((fun _ h => h) g hg))
              have hO := Own.join hO hC44 hOc44
              have hO := hO.perm (R := fi44x0 ++ (f19x0 ++ (f38x0 ++ (f32x0 ++ (f22x0 ++ ([])))))) (by simp)
              refine pl_val (.int .i64 r45.1) (y_assign rfl) ?_
              refine c_nil ?_
              refine c_seq ?_
              refine c_region ?_
              refine pl_val (.slice a19x0 n19x0 c19x0) (y_move rfl) ?_
              refine pl_val (.int .i64 r45.1) (y_move rfl) ?_
              have hO := hO.fr1
              have hL46 := hO
              have hI46 := Own.lend (F := (f19x0 ++ ([]))) (R := fi44x0 ++ (f38x0 ++ (f32x0 ++ (f22x0 ++ ([]))))) (Own.perm (hL46) (by simp))
              obtain ⟨r47, hr47, hs⟩ := bind_some hs
              refine pl_call Bd19 rfl (c_laws_markIntS (M := (Past M13 w8 w11)) r20 r45.1 hv19x0 hI46 hI46.fut hr47) ?_
              rintro _ w46 ⟨fi46x0, rfl, hC46, hvi46x0, hOc46⟩
              have hO := hO.perm (R := (f19x0 ++ ([])) ++ (fi44x0 ++ (f38x0 ++ (f32x0 ++ (f22x0 ++ ([])))))) (by simp)
              have h0 := h0.mut hC46 (fun g hg => hO.inM g ((fun _ h => h) g hg)) (fun _ _ h => nomatch h)
              have h1 := h1.mut hC46 (fun g hg => hO.inM g ((fun _ h => h) g hg)) (fun _ _ h => nomatch h)
              have hv11x0 := hv11x0.mut hC46 (fun g hg => hO.inM g ((fun _ h => h) g hg)) (fun _ _ h => nomatch h)
              have hvi44x0 := hvi44x0.mut hC46 (fun g hg => hO.inM g ((fun _ h => h) g hg)) (fun g hg e => hO.apart g ((fun _ h => h) g hg) (mem_l (e)))
              have hv22x0 := hv22x0.mut hC46 (fun g hg => hO.inM g ((fun _ h => h) g hg)) (fun g hg e => hO.apart g ((fun _ h => h) g hg) (mem_r (mem_r (mem_r (mem_l (e))))))
              have hv32x0 := hv32x0.mut hC46 (fun g hg => hO.inM g ((fun _ h => h) g hg)) (fun g hg e => hO.apart g ((fun _ h => h) g hg) (mem_r (mem_r (mem_l (e)))))
              have hv38x0 := hv38x0.mut hC46 (fun g hg => hO.inM g ((fun _ h => h) g hg)) (fun g hg e => hO.apart g ((fun _ h => h) g hg) (mem_r (mem_l (e))))
              have hC := hC.step hC46 (fun g hg => hO.inN g ((fun _ h => h) g hg))
              have hO := Own.join hO hC46 hOc46
              have hO := hO.perm (R := fi46x0 ++ (fi44x0 ++ (f38x0 ++ (f32x0 ++ (f22x0 ++ ([])))))) (by simp)
              refine pl_val (.int .i64 r47.1) (y_assign rfl) ?_
              refine c_nil ?_
              refine c_seq ?_
              refine c_seq ?_
              obtain ⟨s48, hm50, hs⟩ := bind_some hs
              refine c_mid (I := fun a w49 => ∃ (σ : Nat → Value), a = fr 119 (ovl σ [(0, (.int .i64 aN)), (1, (.slice pa0 pn0 pc0)), (2, (.slice pa1 pn1 pc1)), (6, (.bool false)), (7, (.slice a11x0 n11x0 c11x0)), (8, (.bool r14.2)), (11, (.slice a22x0 n22x0 c22x0)), (81, (.bool s48))]) ∧ Chg [] w46 w49) ?_ ?_
              · replace hs := hm50
                have hMid := Chg.refl [] w46
                refine c_region ?_
                refine pl_val (.int .i64 r47.1) (y_move rfl) ?_
                refine pl_val (.bool (decide (r47.1 < 0))) (y_lss rfl rfl) ?_
                refine pl_val (.bool (decide (r47.1 < 0))) (y_move rfl) ?_
                rcases bif_some hs with ⟨hc51, hs⟩ | ⟨hc51, hs⟩
                · skip
                  refine pl_not (tg := 71) (by kernel_rfl) (congrArg Value.bool hc51) ?_
                  refine pl_not (tg := 71) (by kernel_rfl) (congrArg Value.bool hc51) ?_
                  refine pl_not (tg := 71) (by kernel_rfl) (congrArg Value.bool hc51) ?_
                  refine pl_not (tg := 71) (by kernel_rfl) (congrArg Value.bool hc51) ?_
                  refine pl_val (.bool true) (y_pick_t (congrArg Value.bool hc51) rfl) ?_
                  refine pl_val (.bool true) (y_move rfl) ?_
                  refine pl_not (tg := 77) (by kernel_rfl) (by rfl) ?_
                  refine pl_not (tg := 77) (by kernel_rfl) (by rfl) ?_
                  refine pl_not (tg := 77) (by kernel_rfl) (by rfl) ?_
                  refine pl_val (.bool true) (y_pick_t (by rfl) rfl) ?_
                  refine c_nil ?_
                  cases hs
                  exact ⟨_, fr_ovl 119 ⟨rfl, rfl, rfl, rfl, rfl, rfl, rfl, rfl, trivial⟩, hMid⟩
                · skip
                  refine pl_yes (.slice a22x0 n22x0 c22x0) (tg := 71) (by kernel_rfl) (congrArg Value.bool hc51) (y_move rfl) ?_
                  refine pl_yes (.slice a11x0 n11x0 c11x0) (tg := 71) (by kernel_rfl) (congrArg Value.bool hc51) (y_move rfl) ?_
                  have hO := hO.fr4
                  obtain ⟨r53, hr53, hs⟩ := bind_some hs
                  refine pl_cally (tg := 71) (by kernel_rfl) (congrArg Value.bool hc51) Bd18 rfl (c_laws_eqIntS (M := (Less (Past M13 w8 w11) f22x0)) r23.1 r14.1 (((Frz.os Frz.int)).val hv22x0 Less.sub Less.not) (hv11x0.sub Less.sub) hO.less.fut hr53) ?_
                  rintro _ w52 ⟨rfl, hC52⟩
                  have h0 := h0.ext hC52
                  have h1 := h1.ext hC52
                  have hv11x0 := hv11x0.ext hC52
                  have hvi44x0 := hvi44x0.ext hC52
                  have hvi46x0 := hvi46x0.ext hC52
                  have hv22x0 := hv22x0.ext hC52
                  have hv32x0 := hv32x0.ext hC52
                  have hv38x0 := hv38x0.ext hC52
                  have hMid := hMid.ext hC52
                  have hC := hC.ext hC52
                  have hO := hO.ext hC52
                  refine pl_yes (.bool (!r53)) (tg := 71) (by kernel_rfl) (congrArg Value.bool hc51) (y_not rfl) ?_
                  refine pl_val (.bool (!r53)) (y_pick_f (congrArg Value.bool hc51) rfl) ?_
                  refine pl_val (.bool (!r53)) (y_move rfl) ?_
                  rcases bif_some hs with ⟨hc54, hs⟩ | ⟨hc54, hs⟩
                  · skip
                    refine pl_not (tg := 77) (by kernel_rfl) (congrArg Value.bool hc54) ?_
                    refine pl_not (tg := 77) (by kernel_rfl) (congrArg Value.bool hc54) ?_
                    refine pl_not (tg := 77) (by kernel_rfl) (congrArg Value.bool hc54) ?_
                    refine pl_val (.bool true) (y_pick_t (congrArg Value.bool hc54) rfl) ?_
                    refine c_nil ?_
                    cases hs
                    exact ⟨_, fr_ovl 119 ⟨rfl, rfl, rfl, rfl, rfl, rfl, rfl, rfl, trivial⟩, hMid⟩
                  · skip
                    refine pl_yes (.bool r23.2) (tg := 77) (by kernel_rfl) (congrArg Value.bool hc54) (y_move rfl) ?_
                    refine pl_yes (.bool r14.2) (tg := 77) (by kernel_rfl) (congrArg Value.bool hc54) (y_move rfl) ?_
                    refine pl_yes (.bool (!(r23.2 == r14.2))) (tg := 77) (by kernel_rfl) (congrArg Value.bool hc54) (y_bneq Try.underlying4 rfl rfl) ?_
                    refine pl_val (.bool (!(r23.2 == r14.2))) (y_pick_f (congrArg Value.bool hc54) rfl) ?_
                    refine c_nil ?_
                    cases hs
                    exact ⟨_, fr_ovl 119 ⟨rfl, rfl, rfl, rfl, rfl, rfl, rfl, rfl, trivial⟩, hMid⟩
              · rintro a1 w49 ⟨σ, rfl, hCs48⟩
                have h0 := h0.ext hCs48
                have h1 := h1.ext hCs48
                have hv11x0 := hv11x0.ext hCs48
                have hvi44x0 := hvi44x0.ext hCs48
                have hvi46x0 := hvi46x0.ext hCs48
                have hv22x0 := hv22x0.ext hCs48
                have hv32x0 := hv32x0.ext hCs48
                have hv38x0 := hv38x0.ext hCs48
                have hC := hC.ext hCs48
                have hO := hO.ext hCs48
                rcases bif_some hs with ⟨hc55, hs⟩ | ⟨hc55, hs⟩
                · skip
                  refine c_condT (congrArg Value.bool hc55) ?_
                  refine c_seq ?_
                  refine c_region ?_
                  refine pl_val (.bool false) (y_assign rfl) ?_
                  refine c_nil ?_
                  refine wp_ret ?_
                  cases hs
                  exact ⟨_, fr_ovl 119 ⟨rfl, trivial⟩, hC⟩
                · skip
                  refine c_condF (congrArg Value.bool hc55) ?_
                  refine wp_skip ?_
                  refine c_seq ?_
                  refine c_region ?_
                  refine pl_val (.int .i64 1) (y_assign rfl) ?_
                  refine c_nil ?_
                  refine c_seq ?_
                  refine c_region ?_
                  refine pl_val (.slice a22x0 n22x0 c22x0) (y_move rfl) ?_
                  refine pl_val (.int .i64 1) (y_move rfl) ?_
                  have hO := hO.fr4
                  have hL56 := hO
                  have hI56 := Own.lend (F := (f22x0 ++ ([]))) (R := fi46x0 ++ (fi44x0 ++ (f38x0 ++ (f32x0 ++ ([]))))) (Own.perm (hL56) (by simp))
                  obtain ⟨r57, hr57, hs⟩ := bind_some hs
                  refine pl_call Bd19 rfl (c_laws_markIntS (M := (Past M13 w8 w11)) r23.1 1 hv22x0 hI56 hI56.fut hr57) ?_
                  rintro _ w56 ⟨fi56x0, rfl, hC56, hvi56x0, hOc56⟩
                  have hO := hO.perm (R := (f22x0 ++ ([])) ++ (fi46x0 ++ (fi44x0 ++ (f38x0 ++ (f32x0 ++ ([])))))) (by simp)
                  have h0 := h0.mut hC56 (fun g hg => hO.inM g ((fun _ h => h) g hg)) (fun _ _ h => nomatch h)
                  have h1 := h1.mut hC56 (fun g hg => hO.inM g ((fun _ h => h) g hg)) (fun _ _ h => nomatch h)
                  have hv11x0 := hv11x0.mut hC56 (fun g hg => hO.inM g ((fun _ h => h) g hg)) (fun _ _ h => nomatch h)
                  have hvi44x0 := hvi44x0.mut hC56 (fun g hg => hO.inM g ((fun _ h => h) g hg)) (fun g hg e => hO.apart g ((fun _ h => h) g hg) (mem_r (mem_l (e))))
                  have hvi46x0 := hvi46x0.mut hC56 (fun g hg => hO.inM g ((fun _ h => h) g hg)) (fun g hg e => hO.apart g ((fun _ h => h) g hg) (mem_l (e)))
                  have hv32x0 := hv32x0.mut hC56 (fun g hg => hO.inM g ((fun _ h => h) g hg)) (fun g hg e => hO.apart g ((fun _ h => h) g hg) (mem_r (mem_r (mem_r (mem_l (e))))))
                  have hv38x0 := hv38x0.mut hC56 (fun g hg => hO.inM g ((fun _ h => h) g hg)) (fun g hg e => hO.apart g ((fun _ h => h) g hg) (mem_r (mem_r (mem_l (e)))))
                  have hC := hC.step hC56 (fun g hg => hO.inN g ((fun _ h => h) g hg))
                  have hO := Own.join hO hC56 hOc56
                  have hO := hO.perm (R := fi56x0 ++ (fi46x0 ++ (fi44x0 ++ (f38x0 ++ (f32x0 ++ ([])))))) (by simp)
                  refine pl_val (.int .i64 r57.1) (y_assign rfl) ?_
                  refine c_nil ?_
                  refine c_seq ?_
                  refine c_region ?_
                  refine pl_val (.int .i64 1) (y_assign rfl) ?_
                  refine c_nil ?_
                  refine c_seq ?_
                  refine c_region ?_
                  refine pl_val (.slice a22x0 n22x0 c22x0) (y_move rfl) ?_
                  refine pl_val (.int .i64 1) (y_move rfl) ?_
                  obtain ⟨r59, hr59, hs⟩ := bind_some hs
                  refine pl_call Bd20 rfl (c_laws_heldIntS (M := (Less (Past M13 w8 w11) fi56x0)) r57.2 1 (((Frz.os Frz.int)).val hvi56x0 Less.sub Less.not) hO.less.fut hr59) ?_
                  rintro _ w58 ⟨rfl, hC58⟩
                  have h0 := h0.ext hC58
                  have h1 := h1.ext hC58
                  have hv11x0 := hv11x0.ext hC58
                  have hvi44x0 := hvi44x0.ext hC58
                  have hvi46x0 := hvi46x0.ext hC58
                  have hvi56x0 := hvi56x0.ext hC58
                  have hv32x0 := hv32x0.ext hC58
                  have hv38x0 := hv38x0.ext hC58
                  have hC := hC.ext hC58
                  have hO := hO.ext hC58
                  refine pl_val (.int .i64 r59) (y_assign rfl) ?_
                  refine c_nil ?_
                  refine c_seq ?_
                  refine c_seq ?_
                  refine c_region ?_
                  refine pl_val (.int .i64 r59) (y_move rfl) ?_
                  refine pl_val (.bool (decide (r59 < 0))) (y_lss rfl rfl) ?_
                  refine c_nil ?_
                  rcases bif_some hs with ⟨hc60, hs⟩ | ⟨hc60, hs⟩
                  · skip
                    refine c_condT (congrArg Value.bool hc60) ?_
                    refine c_seq ?_
                    refine c_region ?_
                    refine pl_val (.bool false) (y_assign rfl) ?_
                    refine c_nil ?_
                    refine wp_ret ?_
                    cases hs
                    exact ⟨_, fr_ovl 119 ⟨rfl, trivial⟩, hC⟩
                  · skip
                    refine c_condF (congrArg Value.bool hc60) ?_
                    refine wp_skip ?_
                    refine c_seq ?_
                    refine c_seq ?_
                    refine c_region ?_
                    refine pl_val (.int .i64 r59) (y_move rfl) ?_
                    refine pl_val (.int .i64 r57.1) (y_move rfl) ?_
                    refine pl_val (.bool (r59 != r57.1)) (y_neq rfl rfl) ?_
                    refine c_nil ?_
                    rcases bif_some hs with ⟨hc61, hs⟩ | ⟨hc61, hs⟩
                    · skip
                      refine c_condT (congrArg Value.bool hc61) ?_
                      refine c_seq ?_
                      refine c_region ?_
                      refine pl_val (.bool false) (y_assign rfl) ?_
                      refine c_nil ?_
                      refine wp_ret ?_
                      cases hs
                      exact ⟨_, fr_ovl 119 ⟨rfl, trivial⟩, hC⟩
                    · skip
                      refine c_condF (congrArg Value.bool hc61) ?_
                      refine wp_skip ?_
                      refine c_seq ?_
                      refine c_region ?_
                      refine pl_val (.int .i64 aN) (y_move rfl) ?_
                      refine pl_val (.slice pa0 pn0 pc0) (y_move rfl) ?_
                      obtain ⟨r63, hr63, hs⟩ := bind_some hs
                      refine pl_call Bd16 rfl (c_laws_toIntS (M := (Past M13 w8 w11)) aP h0 hO.fut hr63) ?_
                      rintro _ w62 ⟨a62x0, n62x0, c62x0, f62x0, rfl, hC62, hv62x0, hOc62⟩
                      have h0 := h0.ext hC62
                      have h1 := h1.ext hC62
                      have hv11x0 := hv11x0.ext hC62
                      have hvi44x0 := hvi44x0.ext hC62
                      have hvi46x0 := hvi46x0.ext hC62
                      have hvi56x0 := hvi56x0.ext hC62
                      have hv32x0 := hv32x0.ext hC62
                      have hv38x0 := hv38x0.ext hC62
                      have hC := hC.ext hC62
                      have hO := Own.join0 hO hC62 hOc62
                      have hO := hO.perm (R := f62x0 ++ (fi56x0 ++ (fi46x0 ++ (fi44x0 ++ (f38x0 ++ (f32x0 ++ ([]))))))) (by simp)
                      refine pl_val (.slice pa1 pn1 pc1) (y_move rfl) ?_
                      obtain ⟨r66, hr66, hs⟩ := bind_some hs
                      refine pl_call Bd16 rfl (c_laws_toIntS (M := (Past M13 w8 w11)) aQ h1 hO.fut hr66) ?_
                      rintro _ w65 ⟨a65x0, n65x0, c65x0, f65x0, rfl, hC65, hv65x0, hOc65⟩
                      have h0 := h0.ext hC65
                      have h1 := h1.ext hC65
                      have hv11x0 := hv11x0.ext hC65
                      have hvi44x0 := hvi44x0.ext hC65
                      have hvi46x0 := hvi46x0.ext hC65
                      have hvi56x0 := hvi56x0.ext hC65
                      have hv32x0 := hv32x0.ext hC65
                      have hv38x0 := hv38x0.ext hC65
                      have hv62x0 := hv62x0.ext hC65
                      have hC := hC.ext hC65
                      have hO := Own.join0 hO hC65 hOc65
                      have hO := hO.perm (R := f65x0 ++ (f62x0 ++ (fi56x0 ++ (fi46x0 ++ (fi44x0 ++ (f38x0 ++ (f32x0 ++ ([])))))))) (by simp)
                      have hO := hO.fr1
                      obtain ⟨r69, hr69, hs⟩ := bind_some hs
                      refine pl_call Bd17 rfl (c_impl_FirstUnpermuted (M := (Less (Less (Past M13 w8 w11) f62x0) f65x0)) aN r63 r66 ((((Frz.os Frz.int)).val hv62x0 Less.sub Less.not).sub Less.sub) (((Frz.os Frz.int)).val (hv65x0.sub Less.sub) Less.sub Less.not) (hO.less).less.fut hr69) ?_
                      rintro _ w68 ⟨a68x0, n68x0, c68x0, f68x0, rfl, hC68, hv68x0, hOc68⟩
                      have h0 := h0.ext hC68
                      have h1 := h1.ext hC68
                      have hv11x0 := hv11x0.ext hC68
                      have hvi44x0 := hvi44x0.ext hC68
                      have hvi46x0 := hvi46x0.ext hC68
                      have hvi56x0 := hvi56x0.ext hC68
                      have hv32x0 := hv32x0.ext hC68
                      have hv38x0 := hv38x0.ext hC68
                      have hv62x0 := hv62x0.ext hC68
                      have hv65x0 := hv65x0.ext hC68
                      have hC := hC.ext hC68
                      have hO := Own.join0 hO hC68 hOc68
                      have hO := hO.perm (R := f68x0 ++ (f62x0 ++ (f65x0 ++ (fi56x0 ++ (fi46x0 ++ (fi44x0 ++ (f38x0 ++ (f32x0 ++ ([]))))))))) (by simp)
                      have hv68x0 := hv68x0.free (M' := (Past M13 w8 w11)) (Free.os Free.int)
                      refine pl_val (.tuple #[(.slice a68x0 n68x0 c68x0), (.bool r69.2)]) (y_move rfl) ?_
                      refine pl_val (.slice a68x0 n68x0 c68x0) (y_extract rfl (by kernel_rfl)) ?_
                      refine pl_val (.bool r69.2) (y_extract rfl (by kernel_rfl)) ?_
                      refine pl_val (.slice a68x0 n68x0 c68x0) (y_assign rfl) ?_
                      refine pl_val (.bool r69.2) (y_assign rfl) ?_
                      refine c_nil ?_
                      refine c_seq ?_
                      refine c_seq ?_
                      obtain ⟨s71, hm73, hs⟩ := bind_some hs
                      refine c_mid (I := fun a w72 => ∃ (σ : Nat → Value), a = fr 119 (ovl σ [(6, (.bool false)), (11, (.slice a22x0 n22x0 c22x0)), (14, (.int .i64 r57.1)), (15, (.int .i64 r59)), (110, (.bool s71))]) ∧ Chg [] w68 w72) ?_ ?_
                      · replace hs := hm73
                        have hMid := Chg.refl [] w68
                        refine c_region ?_
                        refine pl_val (.slice a68x0 n68x0 c68x0) (y_move rfl) ?_
                        refine pl_val (.slice a11x0 n11x0 c11x0) (y_move rfl) ?_
                        obtain ⟨r75, hr75, hs⟩ := bind_some hs
                        refine pl_call Bd18 rfl (c_laws_eqIntS (M := (Less (Past M13 w8 w11) f68x0)) r69.1 r14.1 (((Frz.os Frz.int)).val hv68x0 Less.sub Less.not) (hv11x0.sub Less.sub) hO.less.fut hr75) ?_
                        rintro _ w74 ⟨rfl, hC74⟩
                        have hv11x0 := hv11x0.ext hC74
                        have hvi44x0 := hvi44x0.ext hC74
                        have hvi46x0 := hvi46x0.ext hC74
                        have hvi56x0 := hvi56x0.ext hC74
                        have hv32x0 := hv32x0.ext hC74
                        have hv38x0 := hv38x0.ext hC74
                        have hv62x0 := hv62x0.ext hC74
                        have hv65x0 := hv65x0.ext hC74
                        have hv68x0 := hv68x0.ext hC74
                        have hMid := hMid.ext hC74
                        have hC := hC.ext hC74
                        have hO := hO.ext hC74
                        refine pl_val (.bool (!r75)) (y_not rfl) ?_
                        refine pl_val (.bool (!r75)) (y_move rfl) ?_
                        rcases bif_some hs with ⟨hc76, hs⟩ | ⟨hc76, hs⟩
                        · skip
                          refine pl_not (tg := 106) (by kernel_rfl) (congrArg Value.bool hc76) ?_
                          refine pl_not (tg := 106) (by kernel_rfl) (congrArg Value.bool hc76) ?_
                          refine pl_not (tg := 106) (by kernel_rfl) (congrArg Value.bool hc76) ?_
                          refine pl_val (.bool true) (y_pick_t (congrArg Value.bool hc76) rfl) ?_
                          refine c_nil ?_
                          cases hs
                          exact ⟨_, fr_ovl 119 ⟨rfl, rfl, rfl, rfl, rfl, trivial⟩, hMid⟩
                        · skip
                          refine pl_yes (.bool r69.2) (tg := 106) (by kernel_rfl) (congrArg Value.bool hc76) (y_move rfl) ?_
                          refine pl_yes (.bool r14.2) (tg := 106) (by kernel_rfl) (congrArg Value.bool hc76) (y_move rfl) ?_
                          refine pl_yes (.bool (!(r69.2 == r14.2))) (tg := 106) (by kernel_rfl) (congrArg Value.bool hc76) (y_bneq Try.underlying4 rfl rfl) ?_
                          refine pl_val (.bool (!(r69.2 == r14.2))) (y_pick_f (congrArg Value.bool hc76) rfl) ?_
                          refine c_nil ?_
                          cases hs
                          exact ⟨_, fr_ovl 119 ⟨rfl, rfl, rfl, rfl, rfl, trivial⟩, hMid⟩
                      · rintro a1 w72 ⟨σ, rfl, hCs71⟩
                        have hvi44x0 := hvi44x0.ext hCs71
                        have hvi46x0 := hvi46x0.ext hCs71
                        have hvi56x0 := hvi56x0.ext hCs71
                        have hv32x0 := hv32x0.ext hCs71
                        have hv38x0 := hv38x0.ext hCs71
                        have hv62x0 := hv62x0.ext hCs71
                        have hv65x0 := hv65x0.ext hCs71
                        have hv68x0 := hv68x0.ext hCs71
                        have hC := hC.ext hCs71
                        have hO := hO.ext hCs71
                        rcases bif_some hs with ⟨hc77, hs⟩ | ⟨hc77, hs⟩
                        · skip
                          refine c_condT (congrArg Value.bool hc77) ?_
                          refine c_seq ?_
                          refine c_region ?_
                          refine pl_val (.bool false) (y_assign rfl) ?_
                          refine c_nil ?_
                          refine wp_ret ?_
                          cases hs
                          exact ⟨_, fr_ovl 119 ⟨rfl, trivial⟩, hC⟩
                        · skip
                          refine c_condF (congrArg Value.bool hc77) ?_
                          refine wp_skip ?_
                          refine c_seq ?_
                          refine c_region ?_
                          refine pl_val (.int .i64 1) (y_assign rfl) ?_
                          refine c_nil ?_
                          refine c_seq ?_
                          refine c_region ?_
                          refine pl_val (.slice a22x0 n22x0 c22x0) (y_move rfl) ?_
                          refine pl_val (.int .i64 1) (y_move rfl) ?_
                          have hO := hO.fr3
                          obtain ⟨r79, hr79, hs⟩ := bind_some hs
                          refine pl_call Bd20 rfl (c_laws_heldIntS (M := (Less (Past M13 w8 w11) fi56x0)) r57.2 1 (((Frz.os Frz.int)).val hvi56x0 Less.sub Less.not) hO.less.fut hr79) ?_
                          rintro _ w78 ⟨rfl, hC78⟩
                          have hvi44x0 := hvi44x0.ext hC78
                          have hvi46x0 := hvi46x0.ext hC78
                          have hvi56x0 := hvi56x0.ext hC78
                          have hv32x0 := hv32x0.ext hC78
                          have hv38x0 := hv38x0.ext hC78
                          have hv62x0 := hv62x0.ext hC78
                          have hv65x0 := hv65x0.ext hC78
                          have hv68x0 := hv68x0.ext hC78
                          have hC := hC.ext hC78
                          have hO := hO.ext hC78
                          refine pl_val (.int .i64 r79) (y_assign rfl) ?_
                          refine c_nil ?_
                          refine c_seq ?_
                          refine c_seq ?_
                          refine c_region ?_
                          refine pl_val (.int .i64 r79) (y_move rfl) ?_
                          refine pl_val (.bool (decide (r79 < 0))) (y_lss rfl rfl) ?_
                          refine c_nil ?_
                          rcases bif_some hs with ⟨hc80, hs⟩ | ⟨hc80, hs⟩
                          · skip
                            refine c_condT (congrArg Value.bool hc80) ?_
                            refine c_seq ?_
                            refine c_region ?_
                            refine pl_val (.bool false) (y_assign rfl) ?_
                            refine c_nil ?_
                            refine wp_ret ?_
                            cases hs
                            exact ⟨_, fr_ovl 119 ⟨rfl, trivial⟩, hC⟩
                          · skip
                            refine c_condF (congrArg Value.bool hc80) ?_
                            refine wp_skip ?_
                            refine c_seq ?_
                            refine c_seq ?_
                            refine c_region ?_
                            refine pl_val (.int .i64 r79) (y_move rfl) ?_
                            refine pl_val (.int .i64 r57.1) (y_move rfl) ?_
                            refine pl_val (.bool (r79 != r57.1)) (y_neq rfl rfl) ?_
                            refine c_nil ?_
                            rcases bif_some hs with ⟨hc81, hs⟩ | ⟨hc81, hs⟩
                            · skip
                              refine c_condT (congrArg Value.bool hc81) ?_
                              refine c_seq ?_
                              refine c_region ?_
                              refine pl_val (.bool false) (y_assign rfl) ?_
                              refine c_nil ?_
                              refine wp_ret ?_
                              cases hs
                              exact ⟨_, fr_ovl 119 ⟨rfl, trivial⟩, hC⟩
                            · skip
                              refine c_condF (congrArg Value.bool hc81) ?_
                              refine wp_skip ?_
                              refine c_seq ?_
                              refine c_region ?_
                              refine pl_val (.bool true) (y_assign rfl) ?_
                              refine c_nil ?_
                              refine wp_ret ?_
                              cases hs
                              exact ⟨_, fr_ovl 119 ⟨rfl, trivial⟩, hC⟩

end Go.Proofs
