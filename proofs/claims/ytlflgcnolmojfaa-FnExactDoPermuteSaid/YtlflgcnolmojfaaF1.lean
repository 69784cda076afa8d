/- What functions of the program compute, as plain functions, and that a call gives just that. Conditions: those named in each theorem. -/
import Derived.Test.YtlflgcnolmojfaaF0
set_option linter.unusedVariables false
namespace Go.Proofs
open Go.G Go.RowKit
set_option maxRecDepth 100000

def k_impl_unpermuted (M : Nat → Prop) (w0 : World) (r : (List Int) × Bool) (a : Act) (w : World) : Prop :=
  ∃ (σ : Nat → Value) (ra0 : Option Addr) (rn0 rc0 : Nat) (rf0 : List Nat), a = fr 48 (ovl σ [(4, (.slice ra0 rn0 rc0)), (5, (.bool r.2))]) ∧ Chg [] w0 w ∧ (RT.os 3 (RT.int .i64)).val M w (.slice ra0 rn0 rc0) r.1 rf0 ∧ Own (Nw w0 []) (fun _ => True) w (rf0 ++ ([]))
def s_impl_unpermuted (p : List Int) (q : List Int) : Option ((List Int) × Bool) :=
  (s_impl_productTable p q).bind fun r4 =>
  (s_impl_productTable q p).bind fun r7 =>
  (forC (S := Unit) (R := (List Int) × Bool) (fun k51 s49 =>
  (idx r4 k51).bind fun x55 =>
  (forC (S := Unit) (R := (List Int) × Bool) (fun k76 s74 =>
  (idx x55 k76).bind fun x80 =>
  ((bif x80 then (idx r7 k51).bind fun x86 =>
  (idx x86 k76).bind fun x90 =>
  some (!x90) else some false)).bind fun s82 =>
  (bif s82 then some (.rt ([k51, k76], true)) else some (.nx ()))) 0 (x55.length : Int) ()).bind fun o78 => after o78 (fun r_ => some (.rt r_)) (fun s74 =>
  some (.nx ()))) 0 (r4.length : Int) ()).bind fun o53 => after o53 (fun r_ => some r_) (fun s49 =>
  some ([], false))
set_option maxHeartbeats 4000000 in
theorem c_impl_unpermuted {M : Nat → Prop} {w : World} {pa0 : Option Addr} {pn0 pc0 : Nat} {pa1 : Option Addr} {pn1 pc1 : Nat} (p : List Int) (q : List Int) (h0 : (RT.rs (RT.int .i64)).val M w (.slice pa0 pn0 pc0) p ([])) (h1 : (RT.rs (RT.int .i64)).val M w (.slice pa1 pn1 pc1) q ([])) (hM : ∀ g, w.heap.size ≤ g → M g) {r : (List Int) × Bool} (hs : s_impl_unpermuted p q = some r) :
    Gives Try.prog 66 [(.slice pa0 pn0 pc0), (.slice pa1 pn1 pc1)] w (fun v w' => ∃ (ra0 : Option Addr) (rn0 rc0 : Nat) (rf0 : List Nat), v = (.tuple #[(.slice ra0 rn0 rc0), (.bool r.2)]) ∧ Chg [] w w' ∧ (RT.os 3 (RT.int .i64)).val M w' (.slice ra0 rn0 rc0) r.1 rf0 ∧ Own (Nw w []) (fun _ => True) w' (rf0 ++ ([]))) := by
  refine calls_fr Try.func66 rfl Try.ntmps66 (Nat.le_of_ble_eq_true rfl) ?_
  have hO := Own.start (N := Nw w []) hM Nw.fut
  have hC := Chg.refl [] w
  unfold s_impl_unpermuted at hs
  refine wp_mono (Q := KPost (k_impl_unpermuted M w r)) ?_ (fun e a w1 h => ?_)
  rotate_left
  · cases e
    case ret =>
      obtain ⟨σ, ra0, rn0, rc0, rf0, rfl, hrest⟩ := h
      exact ret2x Try.results66 (res_tmp rfl) (res_tmp rfl) ⟨ra0, rn0, rc0, rf0, rfl, hrest⟩
    all_goals exact (h : False).elim
  refine c_seq ?_
  refine c_region ?_
  refine pl_val (.slice none 0 0) (y_assign rfl) ?_
  refine pl_val (.bool false) (y_assign rfl) ?_
  refine c_nil ?_
  refine c_seq ?_
  refine c_region ?_
  refine pl_val (.slice pa0 pn0 pc0) (y_move rfl) ?_
  refine pl_val (.slice pa1 pn1 pc1) (y_move rfl) ?_
  obtain ⟨r4, hr4, hs⟩ := bind_some hs
  refine pl_call Bd71 rfl (c_impl_productTable (M := M) p q h0 h1 hO.fut hr4) ?_
  rintro _ w3 ⟨a3x0, n3x0, c3x0, f3x0, rfl, hC3, hv3x0, hOc3⟩
  have h0 := h0.ext hC3
  have h1 := h1.ext hC3
  have hC := hC.ext hC3
  have hO := Own.join0 hO hC3 hOc3
  have hO := hO.perm (R := f3x0 ++ ([])) (by simp)
  refine pl_val (.slice pa1 pn1 pc1) (y_move rfl) ?_
  refine pl_val (.slice pa0 pn0 pc0) (y_move rfl) ?_
  obtain ⟨r7, hr7, hs⟩ := bind_some hs
  refine pl_call Bd71 rfl (c_impl_productTable (M := M) q p h1 h0 hO.fut hr7) ?_
  rintro _ w6 ⟨a6x0, n6x0, c6x0, f6x0, rfl, hC6, hv6x0, hOc6⟩
  have h0 := h0.ext hC6
  have h1 := h1.ext hC6
  have hv3x0 := hv3x0.ext hC6
  have hC := hC.ext hC6
  have hO := Own.join0 hO hC6 hOc6
  have hO := hO.perm (R := f6x0 ++ (f3x0 ++ ([]))) (by simp)
  refine pl_val (.slice a3x0 n3x0 c3x0) (y_assign rfl) ?_
  refine pl_val (.slice a6x0 n6x0 c6x0) (y_assign rfl) ?_
  refine c_nil ?_
  refine c_seq ?_
  refine c_seq ?_
  refine c_region ?_
  refine pl_val (.slice a3x0 n3x0 c3x0) (y_move rfl) ?_
  refine pl_val (.int .i64 (r4.length : Int)) (y_len' Sl68 (os_len hv3x0) rfl) ?_
  refine pl_val (.int .i64 0) (y_move rfl) ?_
  refine c_nil ?_
  obtain ⟨o53, hl54, hs⟩ := bind_some hs
  refine wp_block ?_
  refine wp_forC (id := 0) (r4.length : Int) (I := fun k51 s49 a w50 => ∃ (σ : Nat → Value), a = fr 48 (ovl σ [(7, (.slice a6x0 n6x0 c6x0)), (18, (.slice a3x0 n3x0 c3x0)), (19, (.int .i64 (r4.length : Int))), (20, (.int .i64 k51))]) ∧ Chg [] w w50 ∧ Own (Nw w []) M w50 (f6x0 ++ (f3x0 ++ [])) ∧ (RT.os 70 (RT.os 4 RT.bool)).val M w50 (.slice a3x0 n3x0 c3x0) r4 f3x0 ∧ (RT.os 70 (RT.os 4 RT.bool)).val M w50 (.slice a6x0 n6x0 c6x0) r7 f6x0) (J := fun s49 a w50 => ∃ (σ : Nat → Value), a = fr 48 (ovl σ []) ∧ Chg [] w w50 ∧ Own (Nw w []) M w50 (f6x0 ++ (f3x0 ++ [])) ∧ (RT.os 70 (RT.os 4 RT.bool)).val M w50 (.slice a3x0 n3x0 c3x0) r4 f3x0 ∧ (RT.os 70 (RT.os 4 RT.bool)).val M w50 (.slice a6x0 n6x0 c6x0) r7 f6x0) (K := (k_impl_unpermuted M w)) ?_ ?_ 0 () o53 _ _ ?_ hl54 ?_
  · rintro k51 s49 a w50 ⟨σ, rfl, hC, hO, hv3x0, hv6x0⟩ hlt
    refine c_seq ?_
    refine c_region ?_
    refine pl_val (.bool (decide (k51 < (r4.length : Int)))) (y_lss rfl rfl) ?_
    refine c_nil ?_
    refine c_seq ?_
    refine c_condF (congrArg Value.bool (decide_eq_false hlt)) ?_
    refine wp_exit ?_
    have hO := hO.fr1
    have hO := hO.fr1
    exact ⟨rfl, _, fr_ovl 48 trivial, hC, hO, hv3x0, hv6x0⟩
  · rintro k51 s49 o53 a w50 ⟨σ, rfl, hC, hO, hv3x0, hv6x0⟩ hlt hw hs
    refine c_seq ?_
    refine c_region ?_
    refine pl_val (.bool (decide (k51 < (r4.length : Int)))) (y_lss rfl rfl) ?_
    refine c_nil ?_
    refine c_seq ?_
    refine c_condT (congrArg Value.bool (decide_eq_true hlt)) ?_
    refine wp_skip ?_
    refine c_seq ?_
    refine wp_block ?_
    refine c_seq ?_
    refine c_region ?_
    refine pl_val (.int .i64 k51) (y_move rfl) ?_
    obtain ⟨x55, hx55, hs⟩ := bind_some hs
    obtain ⟨g56, f56, hg56, hk56, hp56, ha56, hf56⟩ := os_idx Sl68 Sz70 hv3x0 hx55
    have hb56 := own_row (Frz.os Frz.bool) ha56 hf56
    refine pl_val (.pointer (some ⟨g56, 0 + Int.toNat k51 * 1, none⟩)) (hp56 _ _ _ _ _ _ _ _ _ rfl rfl) ?_
    obtain ⟨v57, hl57, hrow57, hv57⟩ := at_load1 Ag70 Sz70 rfl rfl hb56
    obtain ⟨a57, n57, c57, rfl⟩ := rs_sl hv57
    refine pl_val (.slice a57 n57 c57) (y_load rfl (hl57 _ (Chg.refl _ _))) ?_
    refine pl_val (.int .i64 k51) (y_assign rfl) ?_
    refine pl_val (.slice a57 n57 c57) (y_assign rfl) ?_
    refine c_nil ?_
    refine c_seq ?_
    refine c_region ?_
    refine pl_val (.slice a57 n57 c57) (y_move rfl) ?_
    refine pl_val (.int .i64 (x55.length : Int)) (y_len' Sl70 (rs_len hv57) rfl) ?_
    refine pl_val (.int .i64 0) (y_move rfl) ?_
    refine c_nil ?_
    obtain ⟨o78, hl79, hs⟩ := bind_some hs
    refine wp_block ?_
    refine wp_forC (id := 2) (x55.length : Int) (I := fun k76 s74 a w75 => ∃ (σ : Nat → Value), a = fr 48 (ovl σ [(7, (.slice a6x0 n6x0 c6x0)), (8, (.int .i64 k51)), (18, (.slice a3x0 n3x0 c3x0)), (19, (.int .i64 (r4.length : Int))), (20, (.int .i64 k51)), (25, (.slice a57 n57 c57)), (26, (.int .i64 (x55.length : Int))), (27, (.int .i64 k76))]) ∧ Chg [] w w75 ∧ Own (Nw w []) M w75 (f6x0 ++ (f3x0 ++ [])) ∧ (RT.os 70 (RT.os 4 RT.bool)).val M w75 (.slice a3x0 n3x0 c3x0) r4 f3x0 ∧ (RT.os 70 (RT.os 4 RT.bool)).val M w75 (.slice a6x0 n6x0 c6x0) r7 f6x0 ∧ (RT.rs RT.bool).val (Less M f3x0) w75 (.slice a57 n57 c57) x55 ([])) (J := fun s74 a w75 => ∃ (σ : Nat → Value), a = fr 48 (ovl σ [(7, (.slice a6x0 n6x0 c6x0)), (18, (.slice a3x0 n3x0 c3x0)), (19, (.int .i64 (r4.length : Int))), (20, (.int .i64 k51))]) ∧ Chg [] w w75 ∧ Own (Nw w []) M w75 (f6x0 ++ (f3x0 ++ [])) ∧ (RT.os 70 (RT.os 4 RT.bool)).val M w75 (.slice a3x0 n3x0 c3x0) r4 f3x0 ∧ (RT.os 70 (RT.os 4 RT.bool)).val M w75 (.slice a6x0 n6x0 c6x0) r7 f6x0 ∧ (RT.rs RT.bool).val (Less M f3x0) w75 (.slice a57 n57 c57) x55 ([])) (K := (k_impl_unpermuted M w)) ?_ ?_ 0 () o78 _ _ ?_ hl79 ?_
    · rintro k76 s74 a w75 ⟨σ, rfl, hC, hO, hv3x0, hv6x0, hv57⟩ hlt
      refine c_seq ?_
      refine c_region ?_
      refine pl_val (.bool (decide (k76 < (x55.length : Int)))) (y_lss rfl rfl) ?_
      refine c_nil ?_
      refine c_seq ?_
      refine c_condF (congrArg Value.bool (decide_eq_false hlt)) ?_
      refine wp_exit ?_
      have hO := hO.fr1
      have hO := hO.fr1
      exact ⟨rfl, _, fr_ovl 48 ⟨rfl, rfl, rfl, rfl, trivial⟩, hC, hO, hv3x0, hv6x0, hv57⟩
    · rintro k76 s74 o78 a w75 ⟨σ, rfl, hC, hO, hv3x0, hv6x0, hv57⟩ hlt hw hs
      refine c_seq ?_
      refine c_region ?_
      refine pl_val (.bool (decide (k76 < (x55.length : Int)))) (y_lss rfl rfl) ?_
      refine c_nil ?_
      refine c_seq ?_
      refine c_condT (congrArg Value.bool (decide_eq_true hlt)) ?_
      refine wp_skip ?_
      refine c_seq ?_
      refine wp_block ?_
      refine c_seq ?_
      refine c_region ?_
      refine pl_val (.int .i64 k76) (y_move rfl) ?_
      obtain ⟨x80, hx80, hs⟩ := bind_some hs
      obtain ⟨b81, o81, hp81, ha81⟩ := rs_idx Sl70 Sz4 hv57 hx80
      refine pl_val (.pointer (some ⟨b81, o81, none⟩)) (hp81 _ _ _ _ _ _ _ _ _ rfl rfl) ?_
      refine pl_val (.bool x80) (y_load rfl ((at_load_bool Ag4 Sz4 ha81) _ (Chg.refl _ _))) ?_
      refine pl_val (.int .i64 k76) (y_assign rfl) ?_
      refine pl_val (.bool x80) (y_assign rfl) ?_
      refine c_nil ?_
      refine c_seq ?_
      obtain ⟨s82, hm84, hs⟩ := bind_some hs
      refine c_mid (I := fun a w83 => ∃ (σ : Nat → Value), a = fr 48 (ovl σ [(7, (.slice a6x0 n6x0 c6x0)), (8, (.int .i64 k51)), (10, (.int .i64 k76)), (18, (.slice a3x0 n3x0 c3x0)), (19, (.int .i64 (r4.length : Int))), (20, (.int .i64 k51)), (25, (.slice a57 n57 c57)), (26, (.int .i64 (x55.length : Int))), (27, (.int .i64 k76)), (42, (.bool s82))]) ∧ Chg [] w75 w83) ?_ ?_
      · replace hs := hm84
        have hMid := Chg.refl [] w75
        refine c_region ?_
        refine pl_val (.bool x80) (y_move rfl) ?_
        refine pl_val (.bool x80) (y_move rfl) ?_
        rcases bif_some hs with ⟨hc85, hs⟩ | ⟨hc85, hs⟩
        · skip
          refine pl_yes (.slice a6x0 n6x0 c6x0) (tg := 33) (by kernel_rfl) (congrArg Value.bool hc85) (y_move rfl) ?_
          refine pl_yes (.int .i64 k51) (tg := 33) (by kernel_rfl) (congrArg Value.bool hc85) (y_move rfl) ?_
          obtain ⟨x86, hx86, hs⟩ := bind_some hs
          obtain ⟨g87, f87, hg87, hk87, hp87, ha87, hf87⟩ := os_idx Sl68 Sz70 hv6x0 hx86
          have hb87 := own_row (Frz.os Frz.bool) ha87 hf87
          refine pl_yes (.pointer (some ⟨g87, 0 + Int.toNat k51 * 1, none⟩)) (tg := 33) (by kernel_rfl) (congrArg Value.bool hc85) (hp87 _ _ _ _ _ _ _ _ _ rfl rfl) ?_
          obtain ⟨v88, hl88, hrow88, hv88⟩ := at_load1 Ag70 Sz70 rfl rfl hb87
          obtain ⟨a88, n88, c88, rfl⟩ := rs_sl hv88
          refine pl_yes (.slice a88 n88 c88) (tg := 33) (by kernel_rfl) (congrArg Value.bool hc85) (y_load rfl (hl88 _ (Chg.refl _ _))) ?_
          refine pl_yes (.int .i64 k76) (tg := 33) (by kernel_rfl) (congrArg Value.bool hc85) (y_move rfl) ?_
          obtain ⟨x90, hx90, hs⟩ := bind_some hs
          obtain ⟨fr91, hrr91, hfr91, _, _⟩ := os_put hg87 hv6x0 hx86 hrow88 rfl hO.inM
          obtain ⟨g91, f91, hg91, hk91, hp91, ha91, hf91⟩ := os_idx Sl70 Sz4 (show (RT.os 4 RT.bool).val M w75 (.slice a88 n88 c88) _ fr91 from ⟨[_], rfl, hrr91⟩) hx90
          refine pl_yes (.pointer (some ⟨g91, 0 + Int.toNat k76 * 1, none⟩)) (tg := 33) (by kernel_rfl) (congrArg Value.bool hc85) (hp91 _ _ _ _ _ _ _ _ _ rfl rfl) ?_
          refine pl_yes (.bool x90) (tg := 33) (by kernel_rfl) (congrArg Value.bool hc85) (y_load rfl ((at_load_bool Ag4 Sz4 ha91) _ (Chg.refl _ _))) ?_
          refine pl_yes (.bool (!x90)) (tg := 33) (by kernel_rfl) (congrArg Value.bool hc85) (y_not rfl) ?_
          refine pl_val (.bool (!x90)) (y_pick_t (congrArg Value.bool hc85) rfl) ?_
          refine c_nil ?_
          cases hs
          exact ⟨_, fr_ovl 48 ⟨rfl, rfl, rfl, rfl, rfl, rfl, rfl, rfl, rfl, rfl, trivial⟩, hMid⟩
        · skip
          refine pl_not (tg := 33) (by kernel_rfl) (congrArg Value.bool hc85) ?_
          refine pl_not (tg := 33) (by kernel_rfl) (congrArg Value.bool hc85) ?_
          refine pl_not (tg := 33) (by kernel_rfl) (congrArg Value.bool hc85) ?_
          refine pl_not (tg := 33) (by kernel_rfl) (congrArg Value.bool hc85) ?_
          refine pl_not (tg := 33) (by kernel_rfl) (congrArg Value.bool hc85) ?_
          refine pl_not (tg := 33) (by kernel_rfl) (congrArg Value.bool hc85) ?_
          refine pl_not (tg := 33) (by kernel_rfl) (congrArg Value.bool hc85) ?_
          refine pl_not (tg := 33) (by kernel_rfl) (congrArg Value.bool hc85) ?_
          refine pl_val (.bool false) (y_pick_f (congrArg Value.bool hc85) rfl) ?_
          refine c_nil ?_
          cases hs
          exact ⟨_, fr_ovl 48 ⟨rfl, rfl, rfl, rfl, rfl, rfl, rfl, rfl, rfl, rfl, trivial⟩, hMid⟩
      · rintro a1 w83 ⟨σ, rfl, hCs82⟩
        have hv3x0 := hv3x0.ext hCs82
        have hv6x0 := hv6x0.ext hCs82
        have hv57 := hv57.ext hCs82
        have hC := hC.ext hCs82
        have hO := hO.ext hCs82
        rcases bif_some hs with ⟨hc92, hs⟩ | ⟨hc92, hs⟩
        · skip
          refine c_condT (congrArg Value.bool hc92) ?_
          refine c_seq ?_
          refine c_region ?_
          refine pl_val (.int .i64 k51) (y_move rfl) ?_
          refine pl_val (.int .i64 k76) (y_move rfl) ?_
          obtain ⟨w93, g93, ew93, eg93, hC93, hb93⟩ := new_block w83 [(.int .i64 k51), (.int .i64 k76)] 3
          refine pl_val (w' := w93) (.slice (some ⟨g93, 0, none⟩) 2 2) (y_bslice rfl (by rw [ew93, eg93]; kernel_rfl)) ?_
          have hv3x0 := hv3x0.ext hC93
          have hv6x0 := hv6x0.ext hC93
          have hv57 := hv57.ext hC93
          have hC := hC.ext hC93
          have hO := hO.new (X' := [g93]) hC93 (fun q hq => by rw [List.mem_singleton.1 hq, eg93]; exact Nat.le_refl _) (List.nodup_cons.2 ⟨(fun h => nomatch h), List.nodup_nil⟩) (fun q hq => by rw [List.mem_singleton.1 hq]; exact hb93.lt)
          have hv93 := os_of_box (r := (RT.int .i64)) (M := M) (css := [[(.int .i64 k51)], [(.int .i64 k76)]]) (fps := [([] : List Nat), ([] : List Nat)]) (xs := ([k51, k76] : List Int)) hb93 ⟨⟨rfl, rfl⟩, ⟨⟨rfl, rfl⟩, trivial⟩⟩ (Nat.le_of_ble_eq_true rfl) (List.nodup_cons.2 ⟨(fun h => nomatch h), List.nodup_nil⟩)
          have hv93 : (RT.os 3 (RT.int .i64)).val M w93 (.slice (some ⟨g93, 0, none⟩) 2 2) [k51, k76] [g93] := hv93
          refine pl_val (.slice (some ⟨g93, 0, none⟩) 2 2) (y_assign rfl) ?_
          refine pl_val (.bool true) (y_assign rfl) ?_
          refine c_nil ?_
          refine wp_ret ?_
          cases hs
          have hO := hO.fr1
          have hO := hO.drop
          have hO := hO.fr1
          have hO := hO.drop
          exact ⟨_, (some ⟨g93, 0, none⟩), 2, 2, ([g93]), fr_ovl 48 ⟨rfl, rfl, trivial⟩, hC, hv93, hO.top⟩
        · skip
          refine c_condF (congrArg Value.bool hc92) ?_
          refine wp_skip ?_
          refine c_region ?_
          refine pl_val (.int .i64 (w64 (k76 + 1))) (y_add rfl rfl) ?_
          refine pl_val (.int .i64 (w64 (k76 + 1))) (y_move rfl) ?_
          refine c_nil ?_
          cases hs
          have hO := hO.fr1
          have hO := hO.fr1
          exact ⟨_, fr_ovl 48 ⟨rfl, rfl, rfl, rfl, rfl, rfl, rfl, congrArg (Value.int .i64) hw, trivial⟩, hC, hO, hv3x0, hv6x0, hv57⟩
    · skip
      have hO := hO.fr1
      have hO := hO.fr1
      exact ⟨_, fr_ovl 48 ⟨rfl, rfl, rfl, rfl, rfl, rfl, rfl, rfl, trivial⟩, hC, hO, hv3x0, hv6x0, hv57⟩
    · cases o78 with
      | nx _ => exact True.intro
      | rt r_ =>
        have hs := after_rt hs
        intro a1 w1 hK
        cases hs
        exact hK
      | br s74 =>
        have hs := after_br hs
        rintro a1 w75 ⟨σ, rfl, hC, hO, hv3x0, hv6x0, hv57⟩
        refine c_region ?_
        refine pl_val (.int .i64 (w64 (k51 + 1))) (y_add rfl rfl) ?_
        refine pl_val (.int .i64 (w64 (k51 + 1))) (y_move rfl) ?_
        refine c_nil ?_
        cases hs
        have hO := hO.fr1
        have hO := hO.fr1
        exact ⟨_, fr_ovl 48 ⟨rfl, rfl, rfl, congrArg (Value.int .i64) hw, trivial⟩, hC, hO, hv3x0, hv6x0⟩
  · skip
    have hO := hO.fr1
    have hO := hO.fr1
    exact ⟨_, fr_ovl 48 ⟨rfl, rfl, rfl, rfl, trivial⟩, hC, hO, hv3x0, hv6x0⟩
  · cases o53 with
    | nx _ => exact True.intro
    | rt r_ =>
      have hs := after_rt hs
      intro a1 w1 hK
      cases hs
      exact hK
    | br s49 =>
      have hs := after_br hs
      rintro a1 w50 ⟨σ, rfl, hC, hO, hv3x0, hv6x0⟩
      refine c_seq ?_
      refine c_region ?_
      refine pl_val (.slice none 0 0) (y_assign rfl) ?_
      refine pl_val (.bool false) (y_assign rfl) ?_
      refine c_nil ?_
      refine wp_ret ?_
      cases hs
      have hO := hO.drop
      have hO := hO.drop
      have hO := hO.nil
      exact ⟨_, none, 0, 0, [], fr_ovl 48 ⟨rfl, rfl, trivial⟩, hC, os_nil, hO.top⟩

theorem Bd66 : Bodied Try.prog 66 := bodied Try.func66 (by kernel_rfl) rfl

def k_impl_permute (M : Nat → Prop) (w0 : World) (r : Bool) (a : Act) (w : World) : Prop :=
  ∃ (σ : Nat → Value) , a = fr 15 (ovl σ [(4, (.bool r))]) ∧ Chg [] w0 w
def s_impl_permute (p : List Int) (q : List Int) : Option (Bool) :=
  (s_impl_unpermuted p q).bind fun r4 =>
  some (!r4.2)
set_option maxHeartbeats 4000000 in
theorem c_impl_permute {M : Nat → Prop} {w : World} {pa0 : Option Addr} {pn0 pc0 : Nat} {pa1 : Option Addr} {pn1 pc1 : Nat} (p : List Int) (q : List Int) (h0 : (RT.rs (RT.int .i64)).val M w (.slice pa0 pn0 pc0) p ([])) (h1 : (RT.rs (RT.int .i64)).val M w (.slice pa1 pn1 pc1) q ([])) (hM : ∀ g, w.heap.size ≤ g → M g) {r : Bool} (hs : s_impl_permute p q = some r) :
    Gives Try.prog 51 [(.slice pa0 pn0 pc0), (.slice pa1 pn1 pc1)] w (fun v w' => v = (.bool r) ∧ Chg [] w w') := by
  refine calls_fr Try.func51 rfl Try.ntmps51 (Nat.le_of_ble_eq_true rfl) ?_
  have hO := Own.start (N := Nw w []) hM Nw.fut
  have hC := Chg.refl [] w
  unfold s_impl_permute at hs
  refine wp_mono (Q := KPost (k_impl_permute M w r)) ?_ (fun e a w1 h => ?_)
  rotate_left
  · cases e
    case ret =>
      obtain ⟨σ, rfl, hrest⟩ := h
      exact ret1x Try.results51 (res_tmp rfl) ⟨rfl, hrest⟩
    all_goals exact (h : False).elim
  refine c_seq ?_
  refine c_region ?_
  refine pl_val (.bool false) (y_assign rfl) ?_
  refine c_nil ?_
  refine c_seq ?_
  refine c_region ?_
  refine pl_val (.slice pa0 pn0 pc0) (y_move rfl) ?_
  refine pl_val (.slice pa1 pn1 pc1) (y_move rfl) ?_
  obtain ⟨r4, hr4, hs⟩ := bind_some hs
  refine pl_call Bd66 rfl (c_impl_unpermuted (M := M) p q h0 h1 hO.fut hr4) ?_
  rintro _ w3 ⟨a3x0, n3x0, c3x0, f3x0, rfl, hC3, hv3x0, hOc3⟩
  have h0 := h0.ext hC3
  have h1 := h1.ext hC3
  have hC := hC.ext hC3
  have hO := Own.join0 hO hC3 hOc3
  have hO := hO.perm (R := f3x0 ++ ([])) (by simp)
  refine pl_val (.tuple #[(.slice a3x0 n3x0 c3x0), (.bool r4.2)]) (y_move rfl) ?_
  refine pl_val (.slice a3x0 n3x0 c3x0) (y_extract rfl (by kernel_rfl)) ?_
  refine pl_val (.bool r4.2) (y_extract rfl (by kernel_rfl)) ?_
  refine pl_val (.slice a3x0 n3x0 c3x0) (y_assign rfl) ?_
  refine pl_val (.bool r4.2) (y_assign rfl) ?_
  refine c_nil ?_
  refine c_seq ?_
  refine c_region ?_
  refine pl_val (.bool r4.2) (y_move rfl) ?_
  refine pl_val (.bool (!r4.2)) (y_not rfl) ?_
  refine pl_val (.bool (!r4.2)) (y_assign rfl) ?_
  refine c_nil ?_
  refine wp_ret ?_
  cases hs
  exact ⟨_, fr_ovl 15 ⟨rfl, trivial⟩, hC⟩

theorem Bd50 : Bodied Try.prog 50 := bodied Try.func50 (by kernel_rfl) rfl

theorem Bd51 : Bodied Try.prog 51 := bodied Try.func51 (by kernel_rfl) rfl

def k_impl_DoPermute (M : Nat → Prop) (w0 : World) (r : Bool × Bool) (a : Act) (w : World) : Prop :=
  ∃ (σ : Nat → Value) , a = fr 16 (ovl σ [(6, (.bool r.1)), (7, (.bool r.2))]) ∧ Chg [] w0 w
def s_impl_DoPermute (n : Int) (p : List Int) (q : List Int) : Option (Bool × Bool) :=
  (s_impl_arePartitions n p q).bind fun r4 =>
  (bif (!r4) then some (false, false) else (s_impl_permute p q).bind fun r7 =>
  some (r7, true))
set_option maxHeartbeats 4000000 in
theorem c_impl_DoPermute {M : Nat → Prop} {w : World} {pa0 : Option Addr} {pn0 pc0 : Nat} {pa1 : Option Addr} {pn1 pc1 : Nat} (n : Int) (p : List Int) (q : List Int) (h0 : (RT.rs (RT.int .i64)).val M w (.slice pa0 pn0 pc0) p ([])) (h1 : (RT.rs (RT.int .i64)).val M w (.slice pa1 pn1 pc1) q ([])) (hM : ∀ g, w.heap.size ≤ g → M g) {r : Bool × Bool} (hs : s_impl_DoPermute n p q = some r) :
    Gives Try.prog 25 [(.int .i64 n), (.slice pa0 pn0 pc0), (.slice pa1 pn1 pc1)] w (fun v w' => v = (.tuple #[(.bool r.1), (.bool r.2)]) ∧ Chg [] w w') := by
  refine calls_fr Try.func25 rfl Try.ntmps25 (Nat.le_of_ble_eq_true rfl) ?_
  have hO := Own.start (N := Nw w []) hM Nw.fut
  have hC := Chg.refl [] w
  unfold s_impl_DoPermute at hs
  refine wp_mono (Q := KPost (k_impl_DoPermute M w r)) ?_ (fun e a w1 h => ?_)
  rotate_left
  · cases e
    case ret =>
      obtain ⟨σ, rfl, hrest⟩ := h
      exact ret2x Try.results25 (res_tmp rfl) (res_tmp rfl) ⟨rfl, hrest⟩
    all_goals exact (h : False).elim
  refine c_seq ?_
  refine c_region ?_
  refine pl_val (.bool false) (y_assign rfl) ?_
  refine pl_val (.bool false) (y_assign rfl) ?_
  refine c_nil ?_
  refine c_seq ?_
  refine c_seq ?_
  refine c_region ?_
  refine pl_val (.int .i64 n) (y_move rfl) ?_
  refine pl_val (.slice pa0 pn0 pc0) (y_move rfl) ?_
  refine pl_val (.slice pa1 pn1 pc1) (y_move rfl) ?_
  obtain ⟨r4, hr4, hs⟩ := bind_some hs
  refine pl_call Bd50 rfl (c_impl_arePartitions (M := M) n p q h0 h1 hO.fut hr4) ?_
  rintro _ w3 ⟨rfl, hC3⟩
  have h0 := h0.ext hC3
  have h1 := h1.ext hC3
  have hC := hC.ext hC3
  have hO := hO.ext hC3
  refine pl_val (.bool (!r4)) (y_not rfl) ?_
  refine c_nil ?_
  rcases bif_some hs with ⟨hc5, hs⟩ | ⟨hc5, hs⟩
  · skip
    refine c_condT (congrArg Value.bool hc5) ?_
    refine c_seq ?_
    refine c_region ?_
    refine pl_val (.bool false) (y_assign rfl) ?_
    refine pl_val (.bool false) (y_assign rfl) ?_
    refine c_nil ?_
    refine wp_ret ?_
    cases hs
    exact ⟨_, fr_ovl 16 ⟨rfl, rfl, trivial⟩, hC⟩
  · skip
    refine c_condF (congrArg Value.bool hc5) ?_
    refine wp_skip ?_
    refine c_seq ?_
    refine c_region ?_
    refine pl_val (.slice pa0 pn0 pc0) (y_move rfl) ?_
    refine pl_val (.slice pa1 pn1 pc1) (y_move rfl) ?_
    obtain ⟨r7, hr7, hs⟩ := bind_some hs
    refine pl_call Bd51 rfl (c_impl_permute (M := M) p q h0 h1 hO.fut hr7) ?_
    rintro _ w6 ⟨rfl, hC6⟩
    have h0 := h0.ext hC6
    have h1 := h1.ext hC6
    have hC := hC.ext hC6
    have hO := hO.ext hC6
    refine pl_val (.bool r7) (y_assign rfl) ?_
    refine pl_val (.bool true) (y_assign rfl) ?_
    refine c_nil ?_
    refine wp_ret ?_
    cases hs
    exact ⟨_, fr_ovl 16 ⟨rfl, rfl, trivial⟩, hC⟩

def k_laws_eqIntS (M : Nat → Prop) (w0 : World) (r : Bool) (a : Act) (w : World) : Prop :=
  ∃ (σ : Nat → Value) , a = fr 26 (ovl σ [(4, (.bool r))]) ∧ Chg [] w0 w
def s_laws_eqIntS (a_ : List Int) (b : List Int) : Option (Bool) :=
  (bif ((a_.length : Int) != (b.length : Int)) then some false else (forC (S := Unit) (R := Bool) (fun k12 s10 =>
  (idx a_ k12).bind fun x17 =>
  (idx b k12).bind fun x19 =>
  (bif (x17 != x19) then some (.rt false) else some (.nx ()))) 0 (a_.length : Int) ()).bind fun o14 => after o14 (fun r_ => some r_) (fun s10 =>
  some true))
set_option maxHeartbeats 4000000 in
theorem c_laws_eqIntS {M : Nat → Prop} {w : World} {pa0 : Option Addr} {pn0 pc0 : Nat} {pa1 : Option Addr} {pn1 pc1 : Nat} (a_ : List Int) (b : List Int) (h0 : (RT.rs (RT.int .i64)).val M w (.slice pa0 pn0 pc0) a_ ([])) (h1 : (RT.rs (RT.int .i64)).val M w (.slice pa1 pn1 pc1) b ([])) (hM : ∀ g, w.heap.size ≤ g → M g) {r : Bool} (hs : s_laws_eqIntS a_ b = some r) :
    Gives Try.prog 26 [(.slice pa0 pn0 pc0), (.slice pa1 pn1 pc1)] w (fun v w' => v = (.bool r) ∧ Chg [] w w') := by
  refine calls_fr Try.func26 rfl Try.ntmps26 (Nat.le_of_ble_eq_true rfl) ?_
  have hO := Own.start (N := Nw w []) hM Nw.fut
  have hC := Chg.refl [] w
  unfold s_laws_eqIntS at hs
  refine wp_mono (Q := KPost (k_laws_eqIntS M w r)) ?_ (fun e a w1 h => ?_)
  rotate_left
  · cases e
    case ret =>
      obtain ⟨σ, rfl, hrest⟩ := h
      exact ret1x Try.results26 (res_tmp rfl) ⟨rfl, hrest⟩
    all_goals exact (h : False).elim
  refine c_seq ?_
  refine c_region ?_
  refine pl_val (.bool false) (y_assign rfl) ?_
  refine c_nil ?_
  refine c_seq ?_
  refine c_seq ?_
  refine c_region ?_
  refine pl_val (.slice pa0 pn0 pc0) (y_move rfl) ?_
  refine pl_val (.int .i64 (a_.length : Int)) (y_len' Sl22 (rs_len h0) rfl) ?_
  refine pl_val (.slice pa1 pn1 pc1) (y_move rfl) ?_
  refine pl_val (.int .i64 (b.length : Int)) (y_len' Sl22 (rs_len h1) rfl) ?_
  refine pl_val (.bool ((a_.length : Int) != (b.length : Int))) (y_neq rfl rfl) ?_
  refine c_nil ?_
  rcases bif_some hs with ⟨hc3, hs⟩ | ⟨hc3, hs⟩
  · skip
    refine c_condT (congrArg Value.bool hc3) ?_
    refine c_seq ?_
    refine c_region ?_
    refine pl_val (.bool false) (y_assign rfl) ?_
    refine c_nil ?_
    refine wp_ret ?_
    cases hs
    exact ⟨_, fr_ovl 26 ⟨rfl, trivial⟩, hC⟩
  · skip
    refine c_condF (congrArg Value.bool hc3) ?_
    refine wp_skip ?_
    refine c_seq ?_
    refine c_seq ?_
    refine c_region ?_
    refine pl_val (.int .i64 0) (y_assign rfl) ?_
    refine c_nil ?_
    obtain ⟨o14, hl15, hs⟩ := bind_some hs
    refine wp_block ?_
    refine wp_forC (id := 0) (a_.length : Int) (I := fun k12 s10 a w11 => ∃ (σ : Nat → Value), a = fr 26 (ovl σ [(0, (.slice pa0 pn0 pc0)), (1, (.slice pa1 pn1 pc1)), (5, (.int .i64 k12))]) ∧ Chg [] w w11 ∧ Own (Nw w []) M w11 ([]) ∧ (RT.rs (RT.int .i64)).val M w11 (.slice pa0 pn0 pc0) a_ ([]) ∧ (RT.rs (RT.int .i64)).val M w11 (.slice pa1 pn1 pc1) b ([])) (J := fun s10 a w11 => ∃ (σ : Nat → Value), a = fr 26 (ovl σ []) ∧ Chg [] w w11 ∧ Own (Nw w []) M w11 ([]) ∧ (RT.rs (RT.int .i64)).val M w11 (.slice pa0 pn0 pc0) a_ ([]) ∧ (RT.rs (RT.int .i64)).val M w11 (.slice pa1 pn1 pc1) b ([])) (K := (k_laws_eqIntS M w)) ?_ ?_ 0 () o14 _ _ ?_ hl15 ?_
    · rintro k12 s10 a w11 ⟨σ, rfl, hC, hO, h0, h1⟩ hlt
      refine c_seq ?_
      refine c_seq ?_
      refine c_region ?_
      refine pl_val (.int .i64 k12) (y_move rfl) ?_
      refine pl_val (.slice pa0 pn0 pc0) (y_move rfl) ?_
      refine pl_val (.int .i64 (a_.length : Int)) (y_len' Sl22 (rs_len h0) rfl) ?_
      refine pl_val (.bool (decide (k12 < (a_.length : Int)))) (y_lss rfl rfl) ?_
      refine c_nil ?_
      refine c_condF (congrArg Value.bool (decide_eq_false hlt)) ?_
      refine wp_exit ?_
      exact ⟨rfl, _, fr_ovl 26 trivial, hC, hO, h0, h1⟩
    · rintro k12 s10 o14 a w11 ⟨σ, rfl, hC, hO, h0, h1⟩ hlt hw hs
      refine c_seq ?_
      refine c_seq ?_
      refine c_region ?_
      refine pl_val (.int .i64 k12) (y_move rfl) ?_
      refine pl_val (.slice pa0 pn0 pc0) (y_move rfl) ?_
      refine pl_val (.int .i64 (a_.length : Int)) (y_len' Sl22 (rs_len h0) rfl) ?_
      refine pl_val (.bool (decide (k12 < (a_.length : Int)))) (y_lss rfl rfl) ?_
      refine c_nil ?_
      refine c_condT (congrArg Value.bool (decide_eq_true hlt)) ?_
      refine wp_skip ?_
      refine c_seq ?_
      refine wp_block ?_
      refine c_seq ?_
      refine x_start [] Mx rfl ?_
      have hCw16 := Chg.drew w11
      generalize World.drew w11 = w16 at hCw16 ⊢
      have h0 := h0.ext hCw16
      have h1 := h1.ext hCw16
      have hC := hC.ext hCw16
      have hO := hO.ext hCw16
      have hS := Chg.refl [] w16
      refine x_p 0 (.slice pa0 pn0 pc0) rfl (by kernel_rfl)  (fun _ => y_move rfl) (fun _ => hS) ?_
      refine x_p 1 (.int .i64 k12) rfl (by kernel_rfl)  (fun _ => y_move rfl) (fun _ => hS) ?_
      obtain ⟨x17, hx17, hs⟩ := bind_some hs
      obtain ⟨b18, o18, hp18, ha18⟩ := rs_idx Sl22 Sz3 h0 hx17
      refine x_p 2 (.pointer (some ⟨b18, o18, none⟩)) rfl (by kernel_rfl)  (fun _ => hp18 _ _ _ _ _ _ _ _ _ rfl rfl) (fun _ => hS) ?_
      refine x_l 3 (.int .i64 x17) rfl (by kernel_rfl)  (fun w' hw' => y_load rfl ((at_load_int Ag3 Sz3 ha18) w' hw')) hS ?_
      refine x_p 4 (.slice pa1 pn1 pc1) rfl (by kernel_rfl)  (fun _ => y_move rfl) (fun _ => hS) ?_
      refine x_p 5 (.int .i64 k12) rfl (by kernel_rfl)  (fun _ => y_move rfl) (fun _ => hS) ?_
      obtain ⟨x19, hx19, hs⟩ := bind_some hs
      obtain ⟨b20, o20, hp20, ha20⟩ := rs_idx Sl22 Sz3 h1 hx19
      refine x_p 6 (.pointer (some ⟨b20, o20, none⟩)) rfl (by kernel_rfl)  (fun _ => hp20 _ _ _ _ _ _ _ _ _ rfl rfl) (fun _ => hS) ?_
      refine x_l 7 (.int .i64 x19) rfl (by kernel_rfl)  (fun w' hw' => y_load rfl ((at_load_int Ag3 Sz3 ha20) w' hw')) hS ?_
      refine x_p 8 (.bool (x17 != x19)) rfl (by kernel_rfl)  (fun _ => y_neq rfl rfl) (fun _ => hS) ?_
      refine x_end (by kernel_rfl) ?_
      clear hS
      rcases bif_some hs with ⟨hc21, hs⟩ | ⟨hc21, hs⟩
      · skip
        refine c_condT (congrArg Value.bool hc21) ?_
        refine c_seq ?_
        refine c_region ?_
        refine pl_val (.bool false) (y_assign rfl) ?_
        refine c_nil ?_
        refine wp_ret ?_
        cases hs
        exact ⟨_, fr_ovl 26 ⟨rfl, trivial⟩, hC⟩
      · skip
        refine c_condF (congrArg Value.bool hc21) ?_
        refine wp_skip ?_
        refine c_region ?_
        refine pl_val (.int .i64 k12) (y_move rfl) ?_
        refine pl_val (.int .i64 (w64 (k12 + 1))) (y_add rfl rfl) ?_
        refine pl_val (.int .i64 (w64 (k12 + 1))) (y_assign rfl) ?_
        refine c_nil ?_
        cases hs
        exact ⟨_, fr_ovl 26 ⟨rfl, rfl, congrArg (Value.int .i64) hw, trivial⟩, hC, hO, h0, h1⟩
    · skip
      exact ⟨_, fr_ovl 26 ⟨rfl, rfl, rfl, trivial⟩, hC, hO, h0, h1⟩
    · cases o14 with
      | nx _ => exact True.intro
      | rt r_ =>
        have hs := after_rt hs
        intro a1 w1 hK
        cases hs
        exact hK
      | br s10 =>
        have hs := after_br hs
        rintro a1 w11 ⟨σ, rfl, hC, hO, h0, h1⟩
        refine c_seq ?_
        refine c_region ?_
        refine pl_val (.bool true) (y_assign rfl) ?_
        refine c_nil ?_
        refine wp_ret ?_
        cases hs
        exact ⟨_, fr_ovl 26 ⟨rfl, trivial⟩, hC⟩

theorem Bd24 : Bodied Try.prog 24 := bodied Try.func24 (by kernel_rfl) rfl

theorem Bd23 : Bodied Try.prog 23 := bodied Try.func23 (by kernel_rfl) rfl

theorem Bd25 : Bodied Try.prog 25 := bodied Try.func25 (by kernel_rfl) rfl

theorem Bd26 : Bodied Try.prog 26 := bodied Try.func26 (by kernel_rfl) rfl

def k_laws_FnExactDoPermute (M : Nat → Prop) (w0 : World) (r : Bool) (a : Act) (w : World) : Prop :=
  ∃ (σ : Nat → Value) , a = fr 57 (ovl σ [(6, (.bool r))]) ∧ Chg [] w0 w
def s_laws_FnExactDoPermute (aN : Int) (aP : List Int) (aQ : List Int) : Option (Bool) :=
  (bif (decide (1048576 < (aP.length : Int))) then some true else (bif (decide (1048576 < (aQ.length : Int))) then some true else (s_laws_toIntS aP).bind fun r6 =>
  (s_laws_toIntS aQ).bind fun r9 =>
  (s_spec_DoPermute aN r6 r9).bind fun r12 =>
  (s_laws_toIntS aP).bind fun r14 =>
  (s_laws_toIntS aQ).bind fun r17 =>
  (s_impl_DoPermute aN r14 r17).bind fun r20 =>
  (bif ((!(r20.1 == r12.1)) || (!(r20.2 == r12.2))) then some false else (s_laws_toIntS aP).bind fun r27 =>
  (s_laws_eqIntS r14 r27).bind fun r30 =>
  (bif (!r30) then some false else (s_laws_toIntS aQ).bind fun r33 =>
  (s_laws_eqIntS r17 r33).bind fun r36 =>
  (bif (!r36) then some false else some true)))))
set_option maxHeartbeats 4000000 in
theorem c_laws_FnExactDoPermute {M : Nat → Prop} {w : World} {pa0 : Option Addr} {pn0 pc0 : Nat} {pa1 : Option Addr} {pn1 pc1 : Nat} (aN : Int) (aP : List Int) (aQ : List Int) (h0 : (RT.rs (RT.int .i64)).val M w (.slice pa0 pn0 pc0) aP ([])) (h1 : (RT.rs (RT.int .i64)).val M w (.slice pa1 pn1 pc1) aQ ([])) (hM : ∀ g, w.heap.size ≤ g → M g) {r : Bool} (hs : s_laws_FnExactDoPermute aN aP aQ = some r) :
    Gives Try.prog 7 [(.int .i64 aN), (.slice pa0 pn0 pc0), (.slice pa1 pn1 pc1)] w (fun v w' => v = (.bool r) ∧ Chg [] w w') := by
  refine calls_fr Try.func7 rfl Try.ntmps7 (Nat.le_of_ble_eq_true rfl) ?_
  have hO := Own.start (N := Nw w []) hM Nw.fut
  have hC := Chg.refl [] w
  unfold s_laws_FnExactDoPermute at hs
  refine wp_mono (Q := KPost (k_laws_FnExactDoPermute M w r)) ?_ (fun e a w1 h => ?_)
  rotate_left
  · cases e
    case ret =>
      obtain ⟨σ, rfl, hrest⟩ := h
      exact ret1x Try.results7 (res_tmp rfl) ⟨rfl, hrest⟩
    all_goals exact (h : False).elim
  refine c_seq ?_
  refine c_region ?_
  refine pl_val (.bool false) (y_assign rfl) ?_
  refine c_nil ?_
  refine c_seq ?_
  refine c_seq ?_
  refine c_region ?_
  refine pl_val (.slice pa0 pn0 pc0) (y_move rfl) ?_
  refine pl_val (.int .i64 (aP.length : Int)) (y_len' Sl22 (rs_len h0) rfl) ?_
  refine pl_val (.bool (decide (1048576 < (aP.length : Int)))) (y_gtr rfl rfl) ?_
  refine c_nil ?_
  rcases bif_some hs with ⟨hc3, hs⟩ | ⟨hc3, hs⟩
  · skip
    refine c_condT (congrArg Value.bool hc3) ?_
    refine c_seq ?_
    refine c_region ?_
    refine pl_val (.bool true) (y_assign rfl) ?_
    refine c_nil ?_
    refine wp_ret ?_
    cases hs
    exact ⟨_, fr_ovl 57 ⟨rfl, trivial⟩, hC⟩
  · skip
    refine c_condF (congrArg Value.bool hc3) ?_
    refine wp_skip ?_
    refine c_seq ?_
    refine c_seq ?_
    refine c_region ?_
    refine pl_val (.slice pa1 pn1 pc1) (y_move rfl) ?_
    refine pl_val (.int .i64 (aQ.length : Int)) (y_len' Sl22 (rs_len h1) rfl) ?_
    refine pl_val (.bool (decide (1048576 < (aQ.length : Int)))) (y_gtr rfl rfl) ?_
    refine c_nil ?_
    rcases bif_some hs with ⟨hc4, hs⟩ | ⟨hc4, hs⟩
    · skip
      refine c_condT (congrArg Value.bool hc4) ?_
      refine c_seq ?_
      refine c_region ?_
      refine pl_val (.bool true) (y_assign rfl) ?_
      refine c_nil ?_
      refine wp_ret ?_
      cases hs
      exact ⟨_, fr_ovl 57 ⟨rfl, trivial⟩, hC⟩
    · skip
      refine c_condF (congrArg Value.bool hc4) ?_
      refine wp_skip ?_
      refine c_seq ?_
      refine c_region ?_
      refine pl_val (.int .i64 aN) (y_move rfl) ?_
      refine pl_val (.slice pa0 pn0 pc0) (y_move rfl) ?_
      obtain ⟨r6, hr6, hs⟩ := bind_some hs
      refine pl_call Bd24 rfl (c_laws_toIntS (M := M) aP h0 hO.fut hr6) ?_
      rintro _ w5 ⟨a5x0, n5x0, c5x0, f5x0, rfl, hC5, hv5x0, hOc5⟩
      have h0 := h0.ext hC5
      have h1 := h1.ext hC5
      have hC := hC.ext hC5
      have hO := Own.join0 hO hC5 hOc5
      have hO := hO.perm (R := f5x0 ++ ([])) (by simp)
      refine pl_val (.slice pa1 pn1 pc1) (y_move rfl) ?_
      obtain ⟨r9, hr9, hs⟩ := bind_some hs
      refine pl_call Bd24 rfl (c_laws_toIntS (M := M) aQ h1 hO.fut hr9) ?_
      rintro _ w8 ⟨a8x0, n8x0, c8x0, f8x0, rfl, hC8, hv8x0, hOc8⟩
      have h0 := h0.ext hC8
      have h1 := h1.ext hC8
      have hv5x0 := hv5x0.ext hC8
      have hC := hC.ext hC8
      have hO := Own.join0 hO hC8 hOc8
      have hO := hO.perm (R := f8x0 ++ (f5x0 ++ ([]))) (by simp)
      have hO := hO.fr1
      obtain ⟨r12, hr12, hs⟩ := bind_some hs
      refine pl_call Bd23 rfl (c_spec_DoPermute (M := (Less (Less M f5x0) f8x0)) aN r6 r9 ((((Frz.os Frz.int)).val hv5x0 Less.sub Less.not).sub Less.sub) (((Frz.os Frz.int)).val (hv8x0.sub Less.sub) Less.sub Less.not) (hO.less).less.fut hr12) ?_
      rintro _ w11 ⟨rfl, hC11⟩
      have h0 := h0.ext hC11
      have h1 := h1.ext hC11
      have hv5x0 := hv5x0.ext hC11
      have hv8x0 := hv8x0.ext hC11
      have hC := hC.ext hC11
      have hO := hO.ext hC11
      refine pl_val (.tuple #[(.bool r12.1), (.bool r12.2)]) (y_move rfl) ?_
      refine pl_val (.bool r12.1) (y_extract rfl (by kernel_rfl)) ?_
      refine pl_val (.bool r12.2) (y_extract rfl (by kernel_rfl)) ?_
      refine pl_val (.bool r12.1) (y_assign rfl) ?_
      refine pl_val (.bool r12.2) (y_assign rfl) ?_
      refine c_nil ?_
      refine c_seq ?_
      refine c_region ?_
      refine pl_val (.slice pa0 pn0 pc0) (y_move rfl) ?_
      obtain ⟨r14, hr14, hs⟩ := bind_some hs
      refine pl_call Bd24 rfl (c_laws_toIntS (M := M) aP h0 hO.fut hr14) ?_
      rintro _ w13 ⟨a13x0, n13x0, c13x0, f13x0, rfl, hC13, hv13x0, hOc13⟩
      have h0 := h0.ext hC13
      have h1 := h1.ext hC13
      have hv5x0 := hv5x0.ext hC13
      have hv8x0 := hv8x0.ext hC13
      have hC := hC.ext hC13
      have hO := Own.join0 hO hC13 hOc13
      have hO := hO.perm (R := f13x0 ++ (f5x0 ++ (f8x0 ++ ([])))) (by simp)
      refine pl_val (.slice a13x0 n13x0 c13x0) (y_assign rfl) ?_
      refine c_nil ?_
      refine c_seq ?_
      refine c_region ?_
      refine pl_val (.slice pa1 pn1 pc1) (y_move rfl) ?_
      obtain ⟨r17, hr17, hs⟩ := bind_some hs
      refine pl_call Bd24 rfl (c_laws_toIntS (M := M) aQ h1 hO.fut hr17) ?_
      rintro _ w16 ⟨a16x0, n16x0, c16x0, f16x0, rfl, hC16, hv16x0, hOc16⟩
      have h0 := h0.ext hC16
      have h1 := h1.ext hC16
      have hv5x0 := hv5x0.ext hC16
      have hv8x0 := hv8x0.ext hC16
      have hv13x0 := hv13x0.ext hC16
      have hC := hC.ext hC16
      have hO := Own.join0 hO hC16 hOc16
      have hO := hO.perm (R := f16x0 ++ (f13x0 ++ (f5x0 ++ (f8x0 ++ ([]))))) (by simp)
      refine pl_val (.slice a16x0 n16x0 c16x0) (y_assign rfl) ?_
      refine c_nil ?_
      refine c_seq ?_
      refine c_region ?_
      refine pl_val (.int .i64 aN) (y_move rfl) ?_
      refine pl_val (.slice a13x0 n13x0 c13x0) (y_move rfl) ?_
      refine pl_val (.slice a16x0 n16x0 c16x0) (y_move rfl) ?_
      have hO := hO.fr1
      obtain ⟨r20, hr20, hs⟩ := bind_some hs
      refine pl_call Bd25 rfl (c_impl_DoPermute (M := (Less (Less M f13x0) f16x0)) aN r14 r17 ((((Frz.os Frz.int)).val hv13x0 Less.sub Less.not).sub Less.sub) (((Frz.os Frz.int)).val (hv16x0.sub Less.sub) Less.sub Less.not) (hO.less).less.fut hr20) ?_
      rintro _ w19 ⟨rfl, hC19⟩
      have h0 := h0.ext hC19
      have h1 := h1.ext hC19
      have hv5x0 := hv5x0.ext hC19
      have hv8x0 := hv8x0.ext hC19
      have hv13x0 := hv13x0.ext hC19
      have hv16x0 := hv16x0.ext hC19
      have hC := hC.ext hC19
      have hO := hO.ext hC19
      refine pl_val (.tuple #[(.bool r20.1), (.bool r20.2)]) (y_move rfl) ?_
      refine pl_val (.bool r20.1) (y_extract rfl (by kernel_rfl)) ?_
      refine pl_val (.bool r20.2) (y_extract rfl (by kernel_rfl)) ?_
      refine pl_val (.bool r20.1) (y_assign rfl) ?_
      refine pl_val (.bool r20.2) (y_assign rfl) ?_
      refine c_nil ?_
      refine c_seq ?_
      refine c_seq ?_
      refine c_mid (I := fun a w22 => ∃ (σ : Nat → Value), a = fr 57 (ovl σ [(1, (.slice pa0 pn0 pc0)), (2, (.slice pa1 pn1 pc1)), (6, (.bool false)), (9, (.slice a13x0 n13x0 c13x0)), (10, (.slice a16x0 n16x0 c16x0)), (46, (.bool ((!(r20.1 == r12.1)) || (!(r20.2 == r12.2)))))]) ∧ Chg [] w19 w22) ?_ ?_
      · have hMid := Chg.refl [] w19
        refine c_region ?_
        refine pl_val (.bool r20.1) (y_move rfl) ?_
        refine pl_val (.bool r12.1) (y_move rfl) ?_
        refine pl_val (.bool (!(r20.1 == r12.1))) (y_bneq Try.underlying4 rfl rfl) ?_
        refine pl_val (.bool (!(r20.1 == r12.1))) (y_move rfl) ?_
        rcases Bool.eq_false_or_eq_true ((!(r20.1 == r12.1))) with hc24 | hc24
        · skip
          refine pl_not (tg := 42) (by kernel_rfl) (congrArg Value.bool hc24) ?_
          refine pl_not (tg := 42) (by kernel_rfl) (congrArg Value.bool hc24) ?_
          refine pl_not (tg := 42) (by kernel_rfl) (congrArg Value.bool hc24) ?_
          refine pl_val (.bool ((!(r20.1 == r12.1)) || (!(r20.2 == r12.2)))) (y_pick_t (congrArg Value.bool hc24) (congrArg Value.bool (by rw [hc24]; rfl))) ?_
          refine c_nil ?_
          exact ⟨_, fr_ovl 57 ⟨rfl, rfl, rfl, rfl, rfl, rfl, trivial⟩, hMid⟩
        · skip
          refine pl_yes (.bool r20.2) (tg := 42) (by kernel_rfl) (congrArg Value.bool hc24) (y_move rfl) ?_
          refine pl_yes (.bool r12.2) (tg := 42) (by kernel_rfl) (congrArg Value.bool hc24) (y_move rfl) ?_
          refine pl_yes (.bool (!(r20.2 == r12.2))) (tg := 42) (by kernel_rfl) (congrArg Value.bool hc24) (y_bneq Try.underlying4 rfl rfl) ?_
          refine pl_val (.bool ((!(r20.1 == r12.1)) || (!(r20.2 == r12.2)))) (y_pick_f (congrArg Value.bool hc24) (congrArg Value.bool (by rw [hc24]; rfl))) ?_
          refine c_nil ?_
          exact ⟨_, fr_ovl 57 ⟨rfl, rfl, rfl, rfl, rfl, rfl, trivial⟩, hMid⟩
      · rintro a1 w22 ⟨σ, rfl, hCs21⟩
        have h0 := h0.ext hCs21
        have h1 := h1.ext hCs21
        have hv5x0 := hv5x0.ext hCs21
        have hv8x0 := hv8x0.ext hCs21
        have hv13x0 := hv13x0.ext hCs21
        have hv16x0 := hv16x0.ext hCs21
        have hC := hC.ext hCs21
        have hO := hO.ext hCs21
        rcases bif_some hs with ⟨hc25, hs⟩ | ⟨hc25, hs⟩
        · skip
          refine c_condT (congrArg Value.bool hc25) ?_
          refine c_seq ?_
          refine c_region ?_
          refine pl_val (.bool false) (y_assign rfl) ?_
          refine c_nil ?_
          refine wp_ret ?_
          cases hs
          exact ⟨_, fr_ovl 57 ⟨rfl, trivial⟩, hC⟩
        · skip
          refine c_condF (congrArg Value.bool hc25) ?_
          refine wp_skip ?_
          refine c_seq ?_
          refine c_seq ?_
          refine c_region ?_
          refine pl_val (.slice a13x0 n13x0 c13x0) (y_move rfl) ?_
          refine pl_val (.slice pa0 pn0 pc0) (y_move rfl) ?_
          obtain ⟨r27, hr27, hs⟩ := bind_some hs
          refine pl_call Bd24 rfl (c_laws_toIntS (M := M) aP h0 hO.fut hr27) ?_
          rintro _ w26 ⟨a26x0, n26x0, c26x0, f26x0, rfl, hC26, hv26x0, hOc26⟩
          have h0 := h0.ext hC26
          have h1 := h1.ext hC26
          have hv5x0 := hv5x0.ext hC26
          have hv8x0 := hv8x0.ext hC26
          have hv13x0 := hv13x0.ext hC26
          have hv16x0 := hv16x0.ext hC26
          have hC := hC.ext hC26
          have hO := Own.join0 hO hC26 hOc26
          have hO := hO.perm (R := f26x0 ++ (f13x0 ++ (f16x0 ++ (f5x0 ++ (f8x0 ++ ([])))))) (by simp)
          have hO := hO.fr1
          obtain ⟨r30, hr30, hs⟩ := bind_some hs
          refine pl_call Bd26 rfl (c_laws_eqIntS (M := (Less (Less M f13x0) f26x0)) r14 r27 ((((Frz.os Frz.int)).val hv13x0 Less.sub Less.not).sub Less.sub) (((Frz.os Frz.int)).val (hv26x0.sub Less.sub) Less.sub Less.not) (hO.less).less.fut hr30) ?_
          rintro _ w29 ⟨rfl, hC29⟩
          have h0 := h0.ext hC29
          have h1 := h1.ext hC29
          have hv5x0 := hv5x0.ext hC29
          have hv8x0 := hv8x0.ext hC29
          have hv13x0 := hv13x0.ext hC29
          have hv16x0 := hv16x0.ext hC29
          have hv26x0 := hv26x0.ext hC29
          have hC := hC.ext hC29
          have hO := hO.ext hC29
          refine pl_val (.bool (!r30)) (y_not rfl) ?_
          refine c_nil ?_
          rcases bif_some hs with ⟨hc31, hs⟩ | ⟨hc31, hs⟩
          · skip
            refine c_condT (congrArg Value.bool hc31) ?_
            refine c_seq ?_
            refine c_region ?_
            refine pl_val (.bool false) (y_assign rfl) ?_
            refine c_nil ?_
            refine wp_ret ?_
            cases hs
            exact ⟨_, fr_ovl 57 ⟨rfl, trivial⟩, hC⟩
          · skip
            refine c_condF (congrArg Value.bool hc31) ?_
            refine wp_skip ?_
            refine c_seq ?_
            refine c_seq ?_
            refine c_region ?_
            refine pl_val (.slice a16x0 n16x0 c16x0) (y_move rfl) ?_
            refine pl_val (.slice pa1 pn1 pc1) (y_move rfl) ?_
            obtain ⟨r33, hr33, hs⟩ := bind_some hs
            refine pl_call Bd24 rfl (c_laws_toIntS (M := M) aQ h1 hO.fut hr33) ?_
            rintro _ w32 ⟨a32x0, n32x0, c32x0, f32x0, rfl, hC32, hv32x0, hOc32⟩
            have h1 := h1.ext hC32
            have hv5x0 := hv5x0.ext hC32
            have hv8x0 := hv8x0.ext hC32
            have hv13x0 := hv13x0.ext hC32
            have hv16x0 := hv16x0.ext hC32
            have hv26x0 := hv26x0.ext hC32
            have hC := hC.ext hC32
            have hO := Own.join0 hO hC32 hOc32
            have hO := hO.perm (R := f32x0 ++ (f13x0 ++ (f26x0 ++ (f16x0 ++ (f5x0 ++ (f8x0 ++ ([]))))))) (by simp)
            have hO := hO.fr3
            obtain ⟨r36, hr36, hs⟩ := bind_some hs
            refine pl_call Bd26 rfl (c_laws_eqIntS (M := (Less (Less M f16x0) f32x0)) r17 r33 ((((Frz.os Frz.int)).val hv16x0 Less.sub Less.not).sub Less.sub) (((Frz.os Frz.int)).val (hv32x0.sub Less.sub) Less.sub Less.not) (hO.less).less.fut hr36) ?_
            rintro _ w35 ⟨rfl, hC35⟩
            have h1 := h1.ext hC35
            have hv5x0 := hv5x0.ext hC35
            have hv8x0 := hv8x0.ext hC35
            have hv13x0 := hv13x0.ext hC35
            have hv16x0 := hv16x0.ext hC35
            have hv26x0 := hv26x0.ext hC35
            have hv32x0 := hv32x0.ext hC35
            have hC := hC.ext hC35
            have hO := hO.ext hC35
            refine pl_val (.bool (!r36)) (y_not rfl) ?_
            refine c_nil ?_
            rcases bif_some hs with ⟨hc37, hs⟩ | ⟨hc37, hs⟩
            · skip
              refine c_condT (congrArg Value.bool hc37) ?_
              refine c_seq ?_
              refine c_region ?_
              refine pl_val (.bool false) (y_assign rfl) ?_
              refine c_nil ?_
              refine wp_ret ?_
              cases hs
              exact ⟨_, fr_ovl 57 ⟨rfl, trivial⟩, hC⟩
            · skip
              refine c_condF (congrArg Value.bool hc37) ?_
              refine wp_skip ?_
              refine c_seq ?_
              refine c_region ?_
              refine pl_val (.bool true) (y_assign rfl) ?_
              refine c_nil ?_
              refine wp_ret ?_
              cases hs
              exact ⟨_, fr_ovl 57 ⟨rfl, trivial⟩, hC⟩

end Go.Proofs
