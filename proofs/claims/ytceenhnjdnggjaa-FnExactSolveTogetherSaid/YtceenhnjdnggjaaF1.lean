/- What functions of the program compute, as plain functions, and that a call gives just that. Conditions: those named in each theorem. -/
import Derived.Test.YtceenhnjdnggjaaF0
set_option linter.unusedVariables false
namespace Go.Proofs
open Go.G Go.RowKit
set_option maxRecDepth 100000

def k_spec_l6Is (M : Nat → Prop) (w0 : World) (r : Bool) (a : Act) (w : World) : Prop :=
  ∃ (σ : Nat → Value) , a = fr 16 (ovl σ [(4, (.bool r))]) ∧ Chg [] w0 w
def s_spec_l6Is (a_ : Int × (List (Int × (List Int)))) (p : List Int) : Option (Bool) :=
  (s_spec_l6Partition a_.1 p).bind fun r5 =>
  (bif r5 then (s_spec_l6Push (a_.1, a_.2) p).bind fun r8 =>
  (s_spec_l1Same r8 p).bind fun r11 =>
  some r11 else some false)
set_option maxHeartbeats 4000000 in
theorem c_spec_l6Is {M : Nat → Prop} {w : World} {pa0 : Option Addr} {pn0 pc0 : Nat} {pa1 : Option Addr} {pn1 pc1 : Nat} (a_ : Int × (List (Int × (List Int)))) (p : List Int) (h0 : (RT.rs (RT.pr (RT.int .i64) (RT.rs (RT.int .i64)))).val M w (.slice pa0 pn0 pc0) a_.2 ([])) (h1 : (RT.rs (RT.int .i64)).val M w (.slice pa1 pn1 pc1) p ([])) (hM : ∀ g, w.heap.size ≤ g → M g) {r : Bool} (hs : s_spec_l6Is a_ p = some r) :
    Gives Try.prog 111 [(.agg #[(.int .i64 a_.1), (.slice pa0 pn0 pc0)]), (.slice pa1 pn1 pc1)] w (fun v w' => v = (.bool r) ∧ Chg [] w w') := by
  refine calls_fr Try.func111 rfl Try.ntmps111 (Nat.le_of_ble_eq_true rfl) ?_
  have hO := Own.start (N := Nw w []) hM Nw.fut
  have hC := Chg.refl [] w
  unfold s_spec_l6Is at hs
  refine wp_mono (Q := KPost (k_spec_l6Is M w r)) ?_ (fun e a w1 h => ?_)
  rotate_left
  · cases e
    case ret =>
      obtain ⟨σ, rfl, hrest⟩ := h
      exact ret1x Try.results111 (res_tmp rfl) ⟨rfl, hrest⟩
    all_goals exact (h : False).elim
  refine c_seq ?_
  refine c_region ?_
  obtain ⟨w3, g3, ew3, eg3, hC3, hb3⟩ := new_block w [(.int .i64 a_.1), (.slice pa0 pn0 pc0)] 62
  refine pl_val (w' := w3) (.pointer (some ⟨g3, 0, none⟩)) (y_box rfl (by rw [ew3, eg3]; kernel_rfl)) ?_
  have h0 := h0.ext hC3
  have h1 := h1.ext hC3
  have hC := hC.ext hC3
  have hO := hO.new (X' := [g3]) hC3 (fun q hq => by rw [List.mem_singleton.1 hq, eg3]; exact Nat.le_refl _) (List.nodup_cons.2 ⟨(fun h => nomatch h), List.nodup_nil⟩) (fun q hq => by rw [List.mem_singleton.1 hq]; exact hb3.lt)
  refine pl_val (.bool false) (y_assign rfl) ?_
  refine c_nil ?_
  refine c_seq ?_
  refine c_region ?_
  refine pl_val (.pointer (some ⟨g3, 0, none⟩)) (y_faddr rfl Fa62x0) ?_
  refine pl_val (.int .i64 a_.1) (y_load rfl ((box_load Ag3 Sz3 hb3 [] [(.int .i64 a_.1)] [(.slice pa0 pn0 pc0)] rfl rfl (fun _ => rfl)) _ (Chg.refl _ _))) ?_
  refine pl_val (.slice pa1 pn1 pc1) (y_move rfl) ?_
  obtain ⟨r5, hr5, hs⟩ := bind_some hs
  refine pl_call Bd110 rfl (c_spec_l6Partition (M := M) a_.1 p h1 hO.fut hr5) ?_
  rintro _ w4 ⟨rfl, hC4⟩
  have h0 := h0.ext hC4
  have h1 := h1.ext hC4
  have hb3 := hb3.chg hC4 (fun h => nomatch h)
  have hC := hC.ext hC4
  have hO := hO.ext hC4
  refine pl_val (.bool r5) (y_move rfl) ?_
  rcases bif_some hs with ⟨hc6, hs⟩ | ⟨hc6, hs⟩
  · skip
    refine pl_yes (.agg #[(.int .i64 a_.1), (.slice pa0 pn0 pc0)]) (tg := 9) (by kernel_rfl) (congrArg Value.bool hc6) (y_load rfl ((box_load Ag62 Sz62 hb3 [] [(.int .i64 a_.1), (.slice pa0 pn0 pc0)] [] rfl rfl (fun h => nomatch h)) _ (Chg.refl _ _))) ?_
    refine pl_yes (.slice pa1 pn1 pc1) (tg := 9) (by kernel_rfl) (congrArg Value.bool hc6) (y_move rfl) ?_
    obtain ⟨r8, hr8, hs⟩ := bind_some hs
    refine pl_cally (tg := 9) (by kernel_rfl) (congrArg Value.bool hc6) Bd159 rfl (c_spec_l6Push (M := M) (a_.1, a_.2) p h0 h1 hO.fut hr8) ?_
    rintro _ w7 ⟨a7x0, n7x0, c7x0, f7x0, rfl, hC7, hv7x0, hOc7⟩
    have h0 := h0.ext hC7
    have h1 := h1.ext hC7
    have hb3 := hb3.chg hC7 (fun h => nomatch h)
    have hC := hC.ext hC7
    have hO := Own.join0 hO hC7 hOc7
    have hO := hO.perm (R := f7x0 ++ (([g3]) ++ ([]))) (by simp)
    refine pl_yes (.slice pa1 pn1 pc1) (tg := 9) (by kernel_rfl) (congrArg Value.bool hc6) (y_move rfl) ?_
    obtain ⟨r11, hr11, hs⟩ := bind_some hs
    refine pl_cally (tg := 9) (by kernel_rfl) (congrArg Value.bool hc6) Bd130 rfl (c_spec_l1Same (M := (Less M f7x0)) r8 p (((Frz.os Frz.int)).val hv7x0 Less.sub Less.not) (h1.sub Less.sub) hO.less.fut hr11) ?_
    rintro _ w10 ⟨rfl, hC10⟩
    have h0 := h0.ext hC10
    have h1 := h1.ext hC10
    have hb3 := hb3.chg hC10 (fun h => nomatch h)
    have hv7x0 := hv7x0.ext hC10
    have hC := hC.ext hC10
    have hO := hO.ext hC10
    refine pl_val (.bool r11) (y_pick_t (congrArg Value.bool hc6) rfl) ?_
    refine pl_val (.bool r11) (y_assign rfl) ?_
    refine c_nil ?_
    refine wp_ret ?_
    cases hs
    exact ⟨_, fr_ovl 16 ⟨rfl, trivial⟩, hC⟩
  · skip
    refine pl_not (tg := 9) (by kernel_rfl) (congrArg Value.bool hc6) ?_
    refine pl_not (tg := 9) (by kernel_rfl) (congrArg Value.bool hc6) ?_
    refine pl_not (tg := 9) (by kernel_rfl) (congrArg Value.bool hc6) ?_
    refine pl_not (tg := 9) (by kernel_rfl) (congrArg Value.bool hc6) ?_
    refine pl_not (tg := 9) (by kernel_rfl) (congrArg Value.bool hc6) ?_
    refine pl_val (.bool false) (y_pick_f (congrArg Value.bool hc6) rfl) ?_
    refine pl_val (.bool false) (y_assign rfl) ?_
    refine c_nil ?_
    refine wp_ret ?_
    cases hs
    exact ⟨_, fr_ovl 16 ⟨rfl, trivial⟩, hC⟩

theorem Bd94 : Bodied Try.prog 94 := bodied Try.func94 (by kernel_rfl) rfl

theorem Bd109 : Bodied Try.prog 109 := bodied Try.func109 (by kernel_rfl) rfl

theorem Bd111 : Bodied Try.prog 111 := bodied Try.func111 (by kernel_rfl) rfl

def k_spec_SolveTogether (M : Nat → Prop) (w0 : World) (r : Int × Bool) (a : Act) (w : World) : Prop :=
  ∃ (σ : Nat → Value) , a = fr 92 (ovl σ [(6, (.int .i64 r.1)), (7, (.bool r.2))]) ∧ Chg [] w0 w
def s_spec_SolveTogether (a_ : Int × (List (Int × (List Int)))) (congruences : List (List Int)) (elements : List Int) : Option (Int × Bool) :=
  ((s_spec_l2Good (a_.1, a_.2)).bind fun r9 =>
  (bif (!r9) then some true else (bif (decide (8 < (congruences.length : Int))) then some true else (bif ((elements.length : Int) != (congruences.length : Int)) then some true else (s_spec_l2Elements a_.1 elements).bind fun r14 =>
  some (!r14))))).bind fun s5 =>
  (bif s5 then some (0, false) else (forC (S := Unit) (R := Int × Bool) (fun k40 s38 =>
  ((idx congruences k40).bind fun x48 =>
  (s_spec_l6Partition a_.1 x48).bind fun r53 =>
  (bif (!r53) then some true else (idx congruences k40).bind fun x55 =>
  (s_spec_l6Is (a_.1, a_.2) x55).bind fun r60 =>
  some (!r60))).bind fun s44 =>
  (bif s44 then some (.rt (0, false)) else some (.nx ()))) 0 (congruences.length : Int) ()).bind fun o42 => after o42 (fun r_ => some r_) (fun s38 =>
  (forC (S := Unit) (R := Int × Bool) (fun k107 s105 =>
  (forC (S := Bool) (R := Int × Bool) (fun k129 s127 =>
  (bif s127 then (idx congruences k129).bind fun x135 =>
  (idx x135 k107).bind fun x139 =>
  (idx congruences k129).bind fun x141 =>
  (idx elements k129).bind fun x145 =>
  (idx x141 x145).bind fun x147 =>
  some (.nx (x139 == x147)) else some (.nx false))) 0 (elements.length : Int) true).bind fun o131 => after o131 (fun r_ => some (.rt r_)) (fun s127 =>
  (bif s127 then some (.rt (k107, true)) else some (.nx ())))) 0 a_.1 ()).bind fun o109 => after o109 (fun r_ => some r_) (fun s105 =>
  some (0, false))))
set_option maxHeartbeats 4000000 in
theorem c_spec_SolveTogether {M : Nat → Prop} {w : World} {pa0 : Option Addr} {pn0 pc0 : Nat} {pa1 : Option Addr} {pn1 pc1 : Nat} {pa2 : Option Addr} {pn2 pc2 : Nat} (a_ : Int × (List (Int × (List Int)))) (congruences : List (List Int)) (elements : List Int) (h0 : (RT.rs (RT.pr (RT.int .i64) (RT.rs (RT.int .i64)))).val M w (.slice pa0 pn0 pc0) a_.2 ([])) (h1 : (RT.rs (RT.rs (RT.int .i64))).val M w (.slice pa1 pn1 pc1) congruences ([])) (h2 : (RT.rs (RT.int .i64)).val M w (.slice pa2 pn2 pc2) elements ([])) (hM : ∀ g, w.heap.size ≤ g → M g) {r : Int × Bool} (hs : s_spec_SolveTogether a_ congruences elements = some r) :
    Gives Try.prog 49 [(.agg #[(.int .i64 a_.1), (.slice pa0 pn0 pc0)]), (.slice pa1 pn1 pc1), (.slice pa2 pn2 pc2)] w (fun v w' => v = (.tuple #[(.int .i64 r.1), (.bool r.2)]) ∧ Chg [] w w') := by
  refine calls_fr Try.func49 rfl Try.ntmps49 (Nat.le_of_ble_eq_true rfl) ?_
  have hO := Own.start (N := Nw w []) hM Nw.fut
  have hC := Chg.refl [] w
  unfold s_spec_SolveTogether at hs
  refine wp_mono (Q := KPost (k_spec_SolveTogether M w r)) ?_ (fun e a w1 h => ?_)
  rotate_left
  · cases e
    case ret =>
      obtain ⟨σ, rfl, hrest⟩ := h
      exact ret2x Try.results49 (res_tmp rfl) (res_tmp rfl) ⟨rfl, hrest⟩
    all_goals exact (h : False).elim
  refine c_seq ?_
  refine c_region ?_
  obtain ⟨w4, g4, ew4, eg4, hC4, hb4⟩ := new_block w [(.int .i64 a_.1), (.slice pa0 pn0 pc0)] 62
  refine pl_val (w' := w4) (.pointer (some ⟨g4, 0, none⟩)) (y_box rfl (by rw [ew4, eg4]; kernel_rfl)) ?_
  have h0 := h0.ext hC4
  have h1 := h1.ext hC4
  have h2 := h2.ext hC4
  have hC := hC.ext hC4
  have hO := hO.new (X' := [g4]) hC4 (fun q hq => by rw [List.mem_singleton.1 hq, eg4]; exact Nat.le_refl _) (List.nodup_cons.2 ⟨(fun h => nomatch h), List.nodup_nil⟩) (fun q hq => by rw [List.mem_singleton.1 hq]; exact hb4.lt)
  refine pl_val (.int .i64 0) (y_assign rfl) ?_
  refine pl_val (.bool false) (y_assign rfl) ?_
  refine c_nil ?_
  refine c_seq ?_
  refine c_seq ?_
  obtain ⟨s5, hm7, hs⟩ := bind_some hs
  refine c_mid (I := fun a w6 => ∃ (σ : Nat → Value), a = fr 92 (ovl σ [(1, (.slice pa1 pn1 pc1)), (2, (.slice pa2 pn2 pc2)), (3, (.pointer (some ⟨g4, 0, none⟩))), (6, (.int .i64 0)), (7, (.bool false)), (33, (.bool s5))]) ∧ Chg [] w4 w6) ?_ ?_
  · replace hs := hm7
    have hMid := Chg.refl [] w4
    refine c_region ?_
    refine pl_val (.agg #[(.int .i64 a_.1), (.slice pa0 pn0 pc0)]) (y_load rfl ((box_load Ag62 Sz62 hb4 [] [(.int .i64 a_.1), (.slice pa0 pn0 pc0)] [] rfl rfl (fun h => nomatch h)) _ (Chg.refl _ _))) ?_
    obtain ⟨r9, hr9, hs⟩ := bind_some hs
    refine pl_call Bd94 rfl (c_spec_l2Good (M := M) (a_.1, a_.2) h0 hO.fut hr9) ?_
    rintro _ w8 ⟨rfl, hC8⟩
    have h0 := h0.ext hC8
    have h1 := h1.ext hC8
    have h2 := h2.ext hC8
    have hb4 := hb4.chg hC8 (fun h => nomatch h)
    have hMid := hMid.ext hC8
    have hC := hC.ext hC8
    have hO := hO.ext hC8
    refine pl_val (.bool (!r9)) (y_not rfl) ?_
    refine pl_val (.bool (!r9)) (y_move rfl) ?_
    rcases bif_some hs with ⟨hc10, hs⟩ | ⟨hc10, hs⟩
    · skip
      refine pl_not (tg := 15) (by kernel_rfl) (congrArg Value.bool hc10) ?_
      refine pl_not (tg := 15) (by kernel_rfl) (congrArg Value.bool hc10) ?_
      refine pl_not (tg := 15) (by kernel_rfl) (congrArg Value.bool hc10) ?_
      refine pl_val (.bool true) (y_pick_t (congrArg Value.bool hc10) rfl) ?_
      refine pl_val (.bool true) (y_move rfl) ?_
      refine pl_not (tg := 20) (by kernel_rfl) (by rfl) ?_
      refine pl_not (tg := 20) (by kernel_rfl) (by rfl) ?_
      refine pl_not (tg := 20) (by kernel_rfl) (by rfl) ?_
      refine pl_not (tg := 20) (by kernel_rfl) (by rfl) ?_
      refine pl_not (tg := 20) (by kernel_rfl) (by rfl) ?_
      refine pl_val (.bool true) (y_pick_t (by rfl) rfl) ?_
      refine pl_val (.bool true) (y_move rfl) ?_
      refine pl_not (tg := 27) (by kernel_rfl) (by rfl) ?_
      refine pl_not (tg := 27) (by kernel_rfl) (by rfl) ?_
      refine pl_not (tg := 27) (by kernel_rfl) (by rfl) ?_
      refine pl_not (tg := 27) (by kernel_rfl) (by rfl) ?_
      refine pl_not (tg := 27) (by kernel_rfl) (by rfl) ?_
      refine pl_val (.bool true) (y_pick_t (by rfl) rfl) ?_
      refine c_nil ?_
      cases hs
      exact ⟨_, fr_ovl 92 ⟨rfl, rfl, rfl, rfl, rfl, rfl, trivial⟩, hMid⟩
    · skip
      refine pl_yes (.slice pa1 pn1 pc1) (tg := 15) (by kernel_rfl) (congrArg Value.bool hc10) (y_move rfl) ?_
      refine pl_yes (.int .i64 (congruences.length : Int)) (tg := 15) (by kernel_rfl) (congrArg Value.bool hc10) (y_len' Sl29 (rs_len h1) rfl) ?_
      refine pl_yes (.bool (decide (8 < (congruences.length : Int)))) (tg := 15) (by kernel_rfl) (congrArg Value.bool hc10) (y_gtr rfl rfl) ?_
      refine pl_val (.bool (decide (8 < (congruences.length : Int)))) (y_pick_f (congrArg Value.bool hc10) rfl) ?_
      refine pl_val (.bool (decide (8 < (congruences.length : Int)))) (y_move rfl) ?_
      rcases bif_some hs with ⟨hc11, hs⟩ | ⟨hc11, hs⟩
      · skip
        refine pl_not (tg := 20) (by kernel_rfl) (congrArg Value.bool hc11) ?_
        refine pl_not (tg := 20) (by kernel_rfl) (congrArg Value.bool hc11) ?_
        refine pl_not (tg := 20) (by kernel_rfl) (congrArg Value.bool hc11) ?_
        refine pl_not (tg := 20) (by kernel_rfl) (congrArg Value.bool hc11) ?_
        refine pl_not (tg := 20) (by kernel_rfl) (congrArg Value.bool hc11) ?_
        refine pl_val (.bool true) (y_pick_t (congrArg Value.bool hc11) rfl) ?_
        refine pl_val (.bool true) (y_move rfl) ?_
        refine pl_not (tg := 27) (by kernel_rfl) (by rfl) ?_
        refine pl_not (tg := 27) (by kernel_rfl) (by rfl) ?_
        refine pl_not (tg := 27) (by kernel_rfl) (by rfl) ?_
        refine pl_not (tg := 27) (by kernel_rfl) (by rfl) ?_
        refine pl_not (tg := 27) (by kernel_rfl) (by rfl) ?_
        refine pl_val (.bool true) (y_pick_t (by rfl) rfl) ?_
        refine c_nil ?_
        cases hs
        exact ⟨_, fr_ovl 92 ⟨rfl, rfl, rfl, rfl, rfl, rfl, trivial⟩, hMid⟩
      · skip
        refine pl_yes (.slice pa2 pn2 pc2) (tg := 20) (by kernel_rfl) (congrArg Value.bool hc11) (y_move rfl) ?_
        refine pl_yes (.int .i64 (elements.length : Int)) (tg := 20) (by kernel_rfl) (congrArg Value.bool hc11) (y_len' Sl22 (rs_len h2) rfl) ?_
        refine pl_yes (.slice pa1 pn1 pc1) (tg := 20) (by kernel_rfl) (congrArg Value.bool hc11) (y_move rfl) ?_
        refine pl_yes (.int .i64 (congruences.length : Int)) (tg := 20) (by kernel_rfl) (congrArg Value.bool hc11) (y_len' Sl29 (rs_len h1) rfl) ?_
        refine pl_yes (.bool ((elements.length : Int) != (congruences.length : Int))) (tg := 20) (by kernel_rfl) (congrArg Value.bool hc11) (y_neq rfl rfl) ?_
        refine pl_val (.bool ((elements.length : Int) != (congruences.length : Int))) (y_pick_f (congrArg Value.bool hc11) rfl) ?_
        refine pl_val (.bool ((elements.length : Int) != (congruences.length : Int))) (y_move rfl) ?_
        rcases bif_some hs with ⟨hc12, hs⟩ | ⟨hc12, hs⟩
        · skip
          refine pl_not (tg := 27) (by kernel_rfl) (congrArg Value.bool hc12) ?_
          refine pl_not (tg := 27) (by kernel_rfl) (congrArg Value.bool hc12) ?_
          refine pl_not (tg := 27) (by kernel_rfl) (congrArg Value.bool hc12) ?_
          refine pl_not (tg := 27) (by kernel_rfl) (congrArg Value.bool hc12) ?_
          refine pl_not (tg := 27) (by kernel_rfl) (congrArg Value.bool hc12) ?_
          refine pl_val (.bool true) (y_pick_t (congrArg Value.bool hc12) rfl) ?_
          refine c_nil ?_
          cases hs
          exact ⟨_, fr_ovl 92 ⟨rfl, rfl, rfl, rfl, rfl, rfl, trivial⟩, hMid⟩
        · skip
          refine pl_yes (.pointer (some ⟨g4, 0, none⟩)) (tg := 27) (by kernel_rfl) (congrArg Value.bool hc12) (y_faddr rfl Fa62x0) ?_
          refine pl_yes (.int .i64 a_.1) (tg := 27) (by kernel_rfl) (congrArg Value.bool hc12) (y_load rfl ((box_load Ag3 Sz3 hb4 [] [(.int .i64 a_.1)] [(.slice pa0 pn0 pc0)] rfl rfl (fun _ => rfl)) _ (Chg.refl _ _))) ?_
          refine pl_yes (.slice pa2 pn2 pc2) (tg := 27) (by kernel_rfl) (congrArg Value.bool hc12) (y_move rfl) ?_
          obtain ⟨r14, hr14, hs⟩ := bind_some hs
          refine pl_cally (tg := 27) (by kernel_rfl) (congrArg Value.bool hc12) Bd109 rfl (c_spec_l2Elements (M := M) a_.1 elements h2 hO.fut hr14) ?_
          rintro _ w13 ⟨rfl, hC13⟩
          have h0 := h0.ext hC13
          have h1 := h1.ext hC13
          have h2 := h2.ext hC13
          have hb4 := hb4.chg hC13 (fun h => nomatch h)
          have hMid := hMid.ext hC13
          have hC := hC.ext hC13
          have hO := hO.ext hC13
          refine pl_yes (.bool (!r14)) (tg := 27) (by kernel_rfl) (congrArg Value.bool hc12) (y_not rfl) ?_
          refine pl_val (.bool (!r14)) (y_pick_f (congrArg Value.bool hc12) rfl) ?_
          refine c_nil ?_
          cases hs
          exact ⟨_, fr_ovl 92 ⟨rfl, rfl, rfl, rfl, rfl, rfl, trivial⟩, hMid⟩
  · rintro a1 w6 ⟨σ, rfl, hCs5⟩
    have h0 := h0.ext hCs5
    have h1 := h1.ext hCs5
    have h2 := h2.ext hCs5
    have hb4 := hb4.chg hCs5 (fun h => nomatch h)
    have hC := hC.ext hCs5
    have hO := hO.ext hCs5
    rcases bif_some hs with ⟨hc15, hs⟩ | ⟨hc15, hs⟩
    · skip
      refine c_condT (congrArg Value.bool hc15) ?_
      refine c_seq ?_
      refine c_region ?_
      refine pl_val (.int .i64 0) (y_assign rfl) ?_
      refine pl_val (.bool false) (y_assign rfl) ?_
      refine c_nil ?_
      refine wp_ret ?_
      cases hs
      exact ⟨_, fr_ovl 92 ⟨rfl, rfl, trivial⟩, hC⟩
    · skip
      refine c_condF (congrArg Value.bool hc15) ?_
      refine wp_skip ?_
      refine c_seq ?_
      refine c_seq ?_
      refine c_region ?_
      refine pl_val (.int .i64 0) (y_assign rfl) ?_
      refine c_nil ?_
      obtain ⟨o42, hl43, hs⟩ := bind_some hs
      refine wp_block ?_
      refine wp_forC (id := 0) (congruences.length : Int) (I := fun k40 s38 a w39 => ∃ (σ : Nat → Value), a = fr 92 (ovl σ [(1, (.slice pa1 pn1 pc1)), (2, (.slice pa2 pn2 pc2)), (3, (.pointer (some ⟨g4, 0, none⟩))), (8, (.int .i64 k40))]) ∧ Chg [] w w39 ∧ Own (Nw w []) M w39 (([g4]) ++ []) ∧ (RT.rs (RT.pr (RT.int .i64) (RT.rs (RT.int .i64)))).val M w39 (.slice pa0 pn0 pc0) a_.2 ([]) ∧ (RT.rs (RT.rs (RT.int .i64))).val M w39 (.slice pa1 pn1 pc1) congruences ([]) ∧ (RT.rs (RT.int .i64)).val M w39 (.slice pa2 pn2 pc2) elements ([]) ∧ BoxV w39 g4 62 [(.int .i64 a_.1), (.slice pa0 pn0 pc0)]) (J := fun s38 a w39 => ∃ (σ : Nat → Value), a = fr 92 (ovl σ [(1, (.slice pa1 pn1 pc1)), (2, (.slice pa2 pn2 pc2)), (3, (.pointer (some ⟨g4, 0, none⟩)))]) ∧ Chg [] w w39 ∧ Own (Nw w []) M w39 (([g4]) ++ []) ∧ (RT.rs (RT.pr (RT.int .i64) (RT.rs (RT.int .i64)))).val M w39 (.slice pa0 pn0 pc0) a_.2 ([]) ∧ (RT.rs (RT.rs (RT.int .i64))).val M w39 (.slice pa1 pn1 pc1) congruences ([]) ∧ (RT.rs (RT.int .i64)).val M w39 (.slice pa2 pn2 pc2) elements ([]) ∧ BoxV w39 g4 62 [(.int .i64 a_.1), (.slice pa0 pn0 pc0)]) (K := (k_spec_SolveTogether M w)) ?_ ?_ 0 () o42 _ _ ?_ hl43 ?_
      · rintro k40 s38 a w39 ⟨σ, rfl, hC, hO, h0, h1, h2, hb4⟩ hlt
        refine c_seq ?_
        refine c_seq ?_
        refine c_region ?_
        refine pl_val (.int .i64 k40) (y_move rfl) ?_
        refine pl_val (.slice pa1 pn1 pc1) (y_move rfl) ?_
        refine pl_val (.int .i64 (congruences.length : Int)) (y_len' Sl29 (rs_len h1) rfl) ?_
        refine pl_val (.bool (decide (k40 < (congruences.length : Int)))) (y_lss rfl rfl) ?_
        refine c_nil ?_
        refine c_condF (congrArg Value.bool (decide_eq_false hlt)) ?_
        refine wp_exit ?_
        exact ⟨rfl, _, fr_ovl 92 ⟨rfl, rfl, rfl, trivial⟩, hC, hO, h0, h1, h2, hb4⟩
      · rintro k40 s38 o42 a w39 ⟨σ, rfl, hC, hO, h0, h1, h2, hb4⟩ hlt hw hs
        refine c_seq ?_
        refine c_seq ?_
        refine c_region ?_
        refine pl_val (.int .i64 k40) (y_move rfl) ?_
        refine pl_val (.slice pa1 pn1 pc1) (y_move rfl) ?_
        refine pl_val (.int .i64 (congruences.length : Int)) (y_len' Sl29 (rs_len h1) rfl) ?_
        refine pl_val (.bool (decide (k40 < (congruences.length : Int)))) (y_lss rfl rfl) ?_
        refine c_nil ?_
        refine c_condT (congrArg Value.bool (decide_eq_true hlt)) ?_
        refine wp_skip ?_
        refine c_seq ?_
        refine wp_block ?_
        refine c_seq ?_
        obtain ⟨s44, hm46, hs⟩ := bind_some hs
        refine c_mid (I := fun a w45 => ∃ (σ : Nat → Value), a = fr 92 (ovl σ [(1, (.slice pa1 pn1 pc1)), (2, (.slice pa2 pn2 pc2)), (3, (.pointer (some ⟨g4, 0, none⟩))), (8, (.int .i64 k40)), (56, (.bool s44))]) ∧ Chg [] w39 w45) ?_ ?_
        · replace hs := hm46
          have hMid := Chg.refl [] w39
          refine x_start [] Mx rfl ?_
          have hCw47 := Chg.drew w39
          generalize World.drew w39 = w47 at hCw47 ⊢
          have h0 := h0.ext hCw47
          have h1 := h1.ext hCw47
          have h2 := h2.ext hCw47
          have hb4 := hb4.chg hCw47 (fun h => nomatch h)
          have hMid := hMid.ext hCw47
          have hC := hC.ext hCw47
          have hO := hO.ext hCw47
          have hS := Chg.refl [] w47
          refine x_p 0 (.pointer (some ⟨g4, 0, none⟩)) rfl (by kernel_rfl)  (fun _ => y_faddr rfl Fa62x0) (fun _ => hS) ?_
          refine x_l 1 (.int .i64 a_.1) rfl (by kernel_rfl)  (fun w' hw' => y_load rfl ((box_load Ag3 Sz3 hb4 [] [(.int .i64 a_.1)] [(.slice pa0 pn0 pc0)] rfl rfl (fun _ => rfl)) w' hw')) hS ?_
          refine x_p 2 (.slice pa1 pn1 pc1) rfl (by kernel_rfl)  (fun _ => y_move rfl) (fun _ => hS) ?_
          refine x_p 3 (.int .i64 k40) rfl (by kernel_rfl)  (fun _ => y_move rfl) (fun _ => hS) ?_
          obtain ⟨x48, hx48, hs⟩ := bind_some hs
          obtain ⟨b49, o49, hp49, ha49⟩ := rs_idx Sl29 Sz22 h1 hx48
          refine x_p 4 (.pointer (some ⟨b49, o49, none⟩)) rfl (by kernel_rfl)  (fun _ => hp49 _ _ _ _ _ _ _ _ _ rfl rfl) (fun _ => hS) ?_
          obtain ⟨v50, hl50, hv50⟩ := at_load Ag22 Sz22 (fun _ => rfl) ha49
          obtain ⟨a50, n50, c50, rfl⟩ := rs_sl hv50
          refine x_l 5 (.slice a50 n50 c50) rfl (by kernel_rfl)  (fun w' hw' => y_load rfl (hl50 w' hw')) hS ?_
          refine x_one (i := 6) (by kernel_rfl) ?_
          obtain ⟨r53, hr53, hs⟩ := bind_some hs
          refine xk_call (b := false) rfl  Bd110 rfl (c_spec_l6Partition (M := M) a_.1 x48 hv50 hO.fut hr53) rfl (by rintro _ _ _ ⟨rfl, hC52⟩; exact hS.ext hC52) ?_
          rintro _ w52 ⟨rfl, hC52⟩
          have h0 := h0.ext hC52
          have h1 := h1.ext hC52
          have h2 := h2.ext hC52
          have hb4 := hb4.chg hC52 (fun h => nomatch h)
          have hv50 := hv50.ext hC52
          have hMid := hMid.ext hC52
          have hC := hC.ext hC52
          have hO := hO.ext hC52
          have hS := hS.ext hC52
          refine x_p 7 (.bool (!r53)) rfl (by kernel_rfl)  (fun _ => y_not rfl) (fun _ => hS) ?_
          refine x_p 8 (.bool (!r53)) rfl (by kernel_rfl)  (fun _ => y_move rfl) (fun _ => hS) ?_
          rcases bif_some hs with ⟨hc54, hs⟩ | ⟨hc54, hs⟩
          · skip
            refine x_pn 9 rfl (by kernel_rfl) (tg := 48) (by kernel_rfl) (congrArg Value.bool hc54) (fun _ => hS) ?_
            refine x_pn 10 rfl (by kernel_rfl) (tg := 48) (by kernel_rfl) (congrArg Value.bool hc54) (fun _ => hS) ?_
            refine x_pn 11 rfl (by kernel_rfl) (tg := 48) (by kernel_rfl) (congrArg Value.bool hc54) (fun _ => hS) ?_
            refine x_pn 12 rfl (by kernel_rfl) (tg := 48) (by kernel_rfl) (congrArg Value.bool hc54) (fun _ => hS) ?_
            refine x_pn 13 rfl (by kernel_rfl) (tg := 48) (by kernel_rfl) (congrArg Value.bool hc54) (fun _ => hS) ?_
            refine x_pn 14 rfl (by kernel_rfl) (tg := 48) (by kernel_rfl) (congrArg Value.bool hc54) (fun _ => hS) ?_
            refine x_pn 15 rfl (by kernel_rfl) (tg := 48) (by kernel_rfl) (congrArg Value.bool hc54) (fun _ => hS) ?_
            refine x_p 16 (.bool true) rfl (by kernel_rfl)  (fun _ => y_pick_t (congrArg Value.bool hc54) rfl) (fun _ => hS) ?_
            refine x_end (by kernel_rfl) ?_
            clear hS
            cases hs
            exact ⟨_, fr_ovl 92 ⟨rfl, rfl, rfl, rfl, rfl, trivial⟩, hMid⟩
          · skip
            refine x_py 10 (.slice pa1 pn1 pc1) rfl (by kernel_rfl) (tg := 48) (by kernel_rfl) (congrArg Value.bool hc54) (fun _ => y_move rfl) (fun _ => hS) ?_
            refine x_py 11 (.int .i64 k40) rfl (by kernel_rfl) (tg := 48) (by kernel_rfl) (congrArg Value.bool hc54) (fun _ => y_move rfl) (fun _ => hS) ?_
            obtain ⟨x55, hx55, hs⟩ := bind_some hs
            obtain ⟨b56, o56, hp56, ha56⟩ := rs_idx Sl29 Sz22 h1 hx55
            refine x_py 12 (.pointer (some ⟨b56, o56, none⟩)) rfl (by kernel_rfl) (tg := 48) (by kernel_rfl) (congrArg Value.bool hc54) (fun _ => hp56 _ _ _ _ _ _ _ _ _ rfl rfl) (fun _ => hS) ?_
            refine x_two (i := 9) (j := 13) (by kernel_rfl) ?_ ?_
            · skip
              refine xk_valy (b := false) (.agg #[(.int .i64 a_.1), (.slice pa0 pn0 pc0)]) rfl (tg := 48) (by kernel_rfl) (congrArg Value.bool hc54) (y_load rfl ((box_load Ag62 Sz62 hb4 [] [(.int .i64 a_.1), (.slice pa0 pn0 pc0)] [] rfl rfl (fun h => nomatch h)) _ (Chg.refl _ _))) rfl (fun _ => hS) ?_
              refine x_one (i := 13) (by kernel_rfl) ?_
              obtain ⟨v57, hl57, hv57⟩ := at_load Ag22 Sz22 (fun _ => rfl) ha56
              obtain ⟨a57, n57, c57, rfl⟩ := rs_sl hv57
              refine xk_valy (b := false) (.slice a57 n57 c57) rfl (tg := 48) (by kernel_rfl) (congrArg Value.bool hc54) (y_load rfl (hl57 _ (Chg.refl _ _))) rfl (fun _ => hS) ?_
              refine x_one (i := 14) (by kernel_rfl) ?_
              obtain ⟨r60, hr60, hs⟩ := bind_some hs
              refine xk_cally (b := false) rfl (tg := 48) (by kernel_rfl) (congrArg Value.bool hc54) Bd111 rfl (c_spec_l6Is (M := M) (a_.1, a_.2) x55 h0 hv57 hO.fut hr60) rfl (by rintro _ _ _ ⟨rfl, hC59⟩; exact hS.ext hC59) ?_
              rintro _ w59 ⟨rfl, hC59⟩
              have h0 := h0.ext hC59
              have h1 := h1.ext hC59
              have h2 := h2.ext hC59
              have hb4 := hb4.chg hC59 (fun h => nomatch h)
              have hv50 := hv50.ext hC59
              have hv57 := hv57.ext hC59
              have hMid := hMid.ext hC59
              have hC := hC.ext hC59
              have hO := hO.ext hC59
              have hS := hS.ext hC59
              refine x_py 15 (.bool (!r60)) rfl (by kernel_rfl) (tg := 48) (by kernel_rfl) (congrArg Value.bool hc54) (fun _ => y_not rfl) (fun _ => hS) ?_
              refine x_p 16 (.bool (!r60)) rfl (by kernel_rfl)  (fun _ => y_pick_f (congrArg Value.bool hc54) rfl) (fun _ => hS) ?_
              refine x_end (by kernel_rfl) ?_
              clear hS
              cases hs
              exact ⟨_, fr_ovl 92 ⟨rfl, rfl, rfl, rfl, rfl, trivial⟩, hMid⟩
            · skip
              obtain ⟨v61, hl61, hv61⟩ := at_load Ag22 Sz22 (fun _ => rfl) ha56
              obtain ⟨a61, n61, c61, rfl⟩ := rs_sl hv61
              refine xk_valy (b := false) (.slice a61 n61 c61) rfl (tg := 48) (by kernel_rfl) (congrArg Value.bool hc54) (y_load rfl (hl61 _ (Chg.refl _ _))) rfl (fun _ => hS) ?_
              refine x_one (i := 9) (by kernel_rfl) ?_
              refine xk_valy (b := false) (.agg #[(.int .i64 a_.1), (.slice pa0 pn0 pc0)]) rfl (tg := 48) (by kernel_rfl) (congrArg Value.bool hc54) (y_load rfl ((box_load Ag62 Sz62 hb4 [] [(.int .i64 a_.1), (.slice pa0 pn0 pc0)] [] rfl rfl (fun h => nomatch h)) _ (Chg.refl _ _))) rfl (fun _ => hS) ?_
              refine x_one (i := 14) (by kernel_rfl) ?_
              obtain ⟨r60, hr60, hs⟩ := bind_some hs
              refine xk_cally (b := false) rfl (tg := 48) (by kernel_rfl) (congrArg Value.bool hc54) Bd111 rfl (c_spec_l6Is (M := M) (a_.1, a_.2) x55 h0 hv61 hO.fut hr60) rfl (by rintro _ _ _ ⟨rfl, hC63⟩; exact hS.ext hC63) ?_
              rintro _ w63 ⟨rfl, hC63⟩
              have h0 := h0.ext hC63
              have h1 := h1.ext hC63
              have h2 := h2.ext hC63
              have hb4 := hb4.chg hC63 (fun h => nomatch h)
              have hv50 := hv50.ext hC63
              have hv61 := hv61.ext hC63
              have hMid := hMid.ext hC63
              have hC := hC.ext hC63
              have hO := hO.ext hC63
              have hS := hS.ext hC63
              refine x_py 15 (.bool (!r60)) rfl (by kernel_rfl) (tg := 48) (by kernel_rfl) (congrArg Value.bool hc54) (fun _ => y_not rfl) (fun _ => hS) ?_
              refine x_p 16 (.bool (!r60)) rfl (by kernel_rfl)  (fun _ => y_pick_f (congrArg Value.bool hc54) rfl) (fun _ => hS) ?_
              refine x_end (by kernel_rfl) ?_
              clear hS
              cases hs
              exact ⟨_, fr_ovl 92 ⟨rfl, rfl, rfl, rfl, rfl, trivial⟩, hMid⟩
        · rintro a1 w45 ⟨σ, rfl, hCs44⟩
          have h0 := h0.ext hCs44
          have h1 := h1.ext hCs44
          have h2 := h2.ext hCs44
          have hb4 := hb4.chg hCs44 (fun h => nomatch h)
          have hC := hC.ext hCs44
          have hO := hO.ext hCs44
          rcases bif_some hs with ⟨hc65, hs⟩ | ⟨hc65, hs⟩
          · skip
            refine c_condT (congrArg Value.bool hc65) ?_
            refine c_seq ?_
            refine c_region ?_
            refine pl_val (.int .i64 0) (y_assign rfl) ?_
            refine pl_val (.bool false) (y_assign rfl) ?_
            refine c_nil ?_
            refine wp_ret ?_
            cases hs
            exact ⟨_, fr_ovl 92 ⟨rfl, rfl, trivial⟩, hC⟩
          · skip
            refine c_condF (congrArg Value.bool hc65) ?_
            refine wp_skip ?_
            refine c_region ?_
            refine pl_val (.int .i64 k40) (y_move rfl) ?_
            refine pl_val (.int .i64 (w64 (k40 + 1))) (y_add rfl rfl) ?_
            refine pl_val (.int .i64 (w64 (k40 + 1))) (y_assign rfl) ?_
            refine c_nil ?_
            cases hs
            exact ⟨_, fr_ovl 92 ⟨rfl, rfl, rfl, congrArg (Value.int .i64) hw, trivial⟩, hC, hO, h0, h1, h2, hb4⟩
      · skip
        exact ⟨_, fr_ovl 92 ⟨rfl, rfl, rfl, rfl, trivial⟩, hC, hO, h0, h1, h2, hb4⟩
      · cases o42 with
        | nx _ => exact True.intro
        | rt r_ =>
          have hs := after_rt hs
          intro a1 w1 hK
          cases hs
          exact hK
        | br s38 =>
          have hs := after_br hs
          rintro a1 w39 ⟨σ, rfl, hC, hO, h0, h1, h2, hb4⟩
          refine c_seq ?_
          refine c_seq ?_
          refine c_region ?_
          refine pl_val (.int .i64 0) (y_assign rfl) ?_
          refine c_nil ?_
          obtain ⟨o109, hl110, hs⟩ := bind_some hs
          refine wp_block ?_
          refine wp_forC (id := 2) a_.1 (I := fun k107 s105 a w106 => ∃ (σ : Nat → Value), a = fr 92 (ovl σ [(1, (.slice pa1 pn1 pc1)), (2, (.slice pa2 pn2 pc2)), (3, (.pointer (some ⟨g4, 0, none⟩))), (9, (.int .i64 k107))]) ∧ Chg [] w w106 ∧ Own (Nw w []) M w106 (([g4]) ++ []) ∧ (RT.rs (RT.pr (RT.int .i64) (RT.rs (RT.int .i64)))).val M w106 (.slice pa0 pn0 pc0) a_.2 ([]) ∧ (RT.rs (RT.rs (RT.int .i64))).val M w106 (.slice pa1 pn1 pc1) congruences ([]) ∧ (RT.rs (RT.int .i64)).val M w106 (.slice pa2 pn2 pc2) elements ([]) ∧ BoxV w106 g4 62 [(.int .i64 a_.1), (.slice pa0 pn0 pc0)]) (J := fun s105 a w106 => ∃ (σ : Nat → Value), a = fr 92 (ovl σ []) ∧ Chg [] w w106 ∧ Own (Nw w []) M w106 (([g4]) ++ []) ∧ (RT.rs (RT.pr (RT.int .i64) (RT.rs (RT.int .i64)))).val M w106 (.slice pa0 pn0 pc0) a_.2 ([]) ∧ (RT.rs (RT.rs (RT.int .i64))).val M w106 (.slice pa1 pn1 pc1) congruences ([]) ∧ (RT.rs (RT.int .i64)).val M w106 (.slice pa2 pn2 pc2) elements ([]) ∧ BoxV w106 g4 62 [(.int .i64 a_.1), (.slice pa0 pn0 pc0)]) (K := (k_spec_SolveTogether M w)) ?_ ?_ 0 () o109 _ _ ?_ hl110 ?_
          · rintro k107 s105 a w106 ⟨σ, rfl, hC, hO, h0, h1, h2, hb4⟩ hlt
            refine c_seq ?_
            refine c_seq ?_
            refine c_region ?_
            refine pl_val (.int .i64 k107) (y_move rfl) ?_
            refine pl_val (.pointer (some ⟨g4, 0, none⟩)) (y_faddr rfl Fa62x0) ?_
            refine pl_val (.int .i64 a_.1) (y_load rfl ((box_load Ag3 Sz3 hb4 [] [(.int .i64 a_.1)] [(.slice pa0 pn0 pc0)] rfl rfl (fun _ => rfl)) _ (Chg.refl _ _))) ?_
            refine pl_val (.bool (decide (k107 < a_.1))) (y_lss rfl rfl) ?_
            refine c_nil ?_
            refine c_condF (congrArg Value.bool (decide_eq_false hlt)) ?_
            refine wp_exit ?_
            exact ⟨rfl, _, fr_ovl 92 trivial, hC, hO, h0, h1, h2, hb4⟩
          · rintro k107 s105 o109 a w106 ⟨σ, rfl, hC, hO, h0, h1, h2, hb4⟩ hlt hw hs
            refine c_seq ?_
            refine c_seq ?_
            refine c_region ?_
            refine pl_val (.int .i64 k107) (y_move rfl) ?_
            refine pl_val (.pointer (some ⟨g4, 0, none⟩)) (y_faddr rfl Fa62x0) ?_
            refine pl_val (.int .i64 a_.1) (y_load rfl ((box_load Ag3 Sz3 hb4 [] [(.int .i64 a_.1)] [(.slice pa0 pn0 pc0)] rfl rfl (fun _ => rfl)) _ (Chg.refl _ _))) ?_
            refine pl_val (.bool (decide (k107 < a_.1))) (y_lss rfl rfl) ?_
            refine c_nil ?_
            refine c_condT (congrArg Value.bool (decide_eq_true hlt)) ?_
            refine wp_skip ?_
            refine c_seq ?_
            refine wp_block ?_
            refine c_seq ?_
            refine c_region ?_
            refine pl_val (.bool true) (y_assign rfl) ?_
            refine c_nil ?_
            refine c_seq ?_
            refine c_seq ?_
            refine c_region ?_
            refine pl_val (.int .i64 0) (y_assign rfl) ?_
            refine c_nil ?_
            obtain ⟨o131, hl132, hs⟩ := bind_some hs
            refine wp_block ?_
            refine wp_forC (id := 4) (elements.length : Int) (I := fun k129 s127 a w128 => ∃ (σ : Nat → Value), a = fr 92 (ovl σ [(1, (.slice pa1 pn1 pc1)), (2, (.slice pa2 pn2 pc2)), (3, (.pointer (some ⟨g4, 0, none⟩))), (9, (.int .i64 k107)), (10, (.bool s127)), (11, (.int .i64 k129))]) ∧ Chg [] w w128 ∧ Own (Nw w []) M w128 (([g4]) ++ []) ∧ (RT.rs (RT.pr (RT.int .i64) (RT.rs (RT.int .i64)))).val M w128 (.slice pa0 pn0 pc0) a_.2 ([]) ∧ (RT.rs (RT.rs (RT.int .i64))).val M w128 (.slice pa1 pn1 pc1) congruences ([]) ∧ (RT.rs (RT.int .i64)).val M w128 (.slice pa2 pn2 pc2) elements ([]) ∧ BoxV w128 g4 62 [(.int .i64 a_.1), (.slice pa0 pn0 pc0)]) (J := fun s127 a w128 => ∃ (σ : Nat → Value), a = fr 92 (ovl σ [(1, (.slice pa1 pn1 pc1)), (2, (.slice pa2 pn2 pc2)), (3, (.pointer (some ⟨g4, 0, none⟩))), (9, (.int .i64 k107)), (10, (.bool s127))]) ∧ Chg [] w w128 ∧ Own (Nw w []) M w128 (([g4]) ++ []) ∧ (RT.rs (RT.pr (RT.int .i64) (RT.rs (RT.int .i64)))).val M w128 (.slice pa0 pn0 pc0) a_.2 ([]) ∧ (RT.rs (RT.rs (RT.int .i64))).val M w128 (.slice pa1 pn1 pc1) congruences ([]) ∧ (RT.rs (RT.int .i64)).val M w128 (.slice pa2 pn2 pc2) elements ([]) ∧ BoxV w128 g4 62 [(.int .i64 a_.1), (.slice pa0 pn0 pc0)]) (K := (k_spec_SolveTogether M w)) ?_ ?_ 0 true o131 _ _ ?_ hl132 ?_
            · rintro k129 s127 a w128 ⟨σ, rfl, hC, hO, h0, h1, h2, hb4⟩ hlt
              refine c_seq ?_
              refine c_seq ?_
              refine c_region ?_
              refine pl_val (.int .i64 k129) (y_move rfl) ?_
              refine pl_val (.slice pa2 pn2 pc2) (y_move rfl) ?_
              refine pl_val (.int .i64 (elements.length : Int)) (y_len' Sl22 (rs_len h2) rfl) ?_
              refine pl_val (.bool (decide (k129 < (elements.length : Int)))) (y_lss rfl rfl) ?_
              refine c_nil ?_
              refine c_condF (congrArg Value.bool (decide_eq_false hlt)) ?_
              refine wp_exit ?_
              exact ⟨rfl, _, fr_ovl 92 ⟨rfl, rfl, rfl, rfl, rfl, trivial⟩, hC, hO, h0, h1, h2, hb4⟩
            · rintro k129 s127 o131 a w128 ⟨σ, rfl, hC, hO, h0, h1, h2, hb4⟩ hlt hw hs
              refine c_seq ?_
              refine c_seq ?_
              refine c_region ?_
              refine pl_val (.int .i64 k129) (y_move rfl) ?_
              refine pl_val (.slice pa2 pn2 pc2) (y_move rfl) ?_
              refine pl_val (.int .i64 (elements.length : Int)) (y_len' Sl22 (rs_len h2) rfl) ?_
              refine pl_val (.bool (decide (k129 < (elements.length : Int)))) (y_lss rfl rfl) ?_
              refine c_nil ?_
              refine c_condT (congrArg Value.bool (decide_eq_true hlt)) ?_
              refine wp_skip ?_
              refine c_seq ?_
              refine wp_block ?_
              refine x_start [] Mx rfl ?_
              have hCw133 := Chg.drew w128
              generalize World.drew w128 = w133 at hCw133 ⊢
              have h0 := h0.ext hCw133
              have h1 := h1.ext hCw133
              have h2 := h2.ext hCw133
              have hb4 := hb4.chg hCw133 (fun h => nomatch h)
              have hC := hC.ext hCw133
              have hO := hO.ext hCw133
              have hS := Chg.refl [] w133
              refine x_p 0 (.bool s127) rfl (by kernel_rfl)  (fun _ => y_move rfl) (fun _ => hS) ?_
              refine x_p 1 (.bool s127) rfl (by kernel_rfl)  (fun _ => y_move rfl) (fun _ => hS) ?_
              rcases bif_some hs with ⟨hc134, hs⟩ | ⟨hc134, hs⟩
              · skip
                refine x_py 2 (.slice pa1 pn1 pc1) rfl (by kernel_rfl) (tg := 70) (by kernel_rfl) (congrArg Value.bool hc134) (fun _ => y_move rfl) (fun _ => hS) ?_
                refine x_py 3 (.int .i64 k129) rfl (by kernel_rfl) (tg := 70) (by kernel_rfl) (congrArg Value.bool hc134) (fun _ => y_move rfl) (fun _ => hS) ?_
                obtain ⟨x135, hx135, hs⟩ := bind_some hs
                obtain ⟨b136, o136, hp136, ha136⟩ := rs_idx Sl29 Sz22 h1 hx135
                refine x_py 4 (.pointer (some ⟨b136, o136, none⟩)) rfl (by kernel_rfl) (tg := 70) (by kernel_rfl) (congrArg Value.bool hc134) (fun _ => hp136 _ _ _ _ _ _ _ _ _ rfl rfl) (fun _ => hS) ?_
                obtain ⟨v137, hl137, hv137⟩ := at_load Ag22 Sz22 (fun _ => rfl) ha136
                obtain ⟨a137, n137, c137, rfl⟩ := rs_sl hv137
                refine x_ly 5 (.slice a137 n137 c137) rfl (by kernel_rfl) (tg := 70) (by kernel_rfl) (congrArg Value.bool hc134) (fun w' hw' => y_load rfl (hl137 w' hw')) hS ?_
                refine x_py 6 (.int .i64 k107) rfl (by kernel_rfl) (tg := 70) (by kernel_rfl) (congrArg Value.bool hc134) (fun _ => y_move rfl) (fun _ => hS) ?_
                obtain ⟨x139, hx139, hs⟩ := bind_some hs
                obtain ⟨b140, o140, hp140, ha140⟩ := rs_idx Sl22 Sz3 hv137 hx139
                refine x_py 7 (.pointer (some ⟨b140, o140, none⟩)) rfl (by kernel_rfl) (tg := 70) (by kernel_rfl) (congrArg Value.bool hc134) (fun _ => hp140 _ _ _ _ _ _ _ _ _ rfl rfl) (fun _ => hS) ?_
                refine x_ly 8 (.int .i64 x139) rfl (by kernel_rfl) (tg := 70) (by kernel_rfl) (congrArg Value.bool hc134) (fun w' hw' => y_load rfl ((at_load_int Ag3 Sz3 ha140) w' hw')) hS ?_
                refine x_py 9 (.slice pa1 pn1 pc1) rfl (by kernel_rfl) (tg := 70) (by kernel_rfl) (congrArg Value.bool hc134) (fun _ => y_move rfl) (fun _ => hS) ?_
                refine x_py 10 (.int .i64 k129) rfl (by kernel_rfl) (tg := 70) (by kernel_rfl) (congrArg Value.bool hc134) (fun _ => y_move rfl) (fun _ => hS) ?_
                obtain ⟨x141, hx141, hs⟩ := bind_some hs
                obtain ⟨b142, o142, hp142, ha142⟩ := rs_idx Sl29 Sz22 h1 hx141
                refine x_py 11 (.pointer (some ⟨b142, o142, none⟩)) rfl (by kernel_rfl) (tg := 70) (by kernel_rfl) (congrArg Value.bool hc134) (fun _ => hp142 _ _ _ _ _ _ _ _ _ rfl rfl) (fun _ => hS) ?_
                obtain ⟨v143, hl143, hv143⟩ := at_load Ag22 Sz22 (fun _ => rfl) ha142
                obtain ⟨a143, n143, c143, rfl⟩ := rs_sl hv143
                refine x_ly 12 (.slice a143 n143 c143) rfl (by kernel_rfl) (tg := 70) (by kernel_rfl) (congrArg Value.bool hc134) (fun w' hw' => y_load rfl (hl143 w' hw')) hS ?_
                refine x_py 13 (.slice pa2 pn2 pc2) rfl (by kernel_rfl) (tg := 70) (by kernel_rfl) (congrArg Value.bool hc134) (fun _ => y_move rfl) (fun _ => hS) ?_
                refine x_py 14 (.int .i64 k129) rfl (by kernel_rfl) (tg := 70) (by kernel_rfl) (congrArg Value.bool hc134) (fun _ => y_move rfl) (fun _ => hS) ?_
                obtain ⟨x145, hx145, hs⟩ := bind_some hs
                obtain ⟨b146, o146, hp146, ha146⟩ := rs_idx Sl22 Sz3 h2 hx145
                refine x_py 15 (.pointer (some ⟨b146, o146, none⟩)) rfl (by kernel_rfl) (tg := 70) (by kernel_rfl) (congrArg Value.bool hc134) (fun _ => hp146 _ _ _ _ _ _ _ _ _ rfl rfl) (fun _ => hS) ?_
                refine x_ly 16 (.int .i64 x145) rfl (by kernel_rfl) (tg := 70) (by kernel_rfl) (congrArg Value.bool hc134) (fun w' hw' => y_load rfl ((at_load_int Ag3 Sz3 ha146) w' hw')) hS ?_
                obtain ⟨x147, hx147, hs⟩ := bind_some hs
                obtain ⟨b148, o148, hp148, ha148⟩ := rs_idx Sl22 Sz3 hv143 hx147
                refine x_py 17 (.pointer (some ⟨b148, o148, none⟩)) rfl (by kernel_rfl) (tg := 70) (by kernel_rfl) (congrArg Value.bool hc134) (fun _ => hp148 _ _ _ _ _ _ _ _ _ rfl rfl) (fun _ => hS) ?_
                refine x_ly 18 (.int .i64 x147) rfl (by kernel_rfl) (tg := 70) (by kernel_rfl) (congrArg Value.bool hc134) (fun w' hw' => y_load rfl ((at_load_int Ag3 Sz3 ha148) w' hw')) hS ?_
                refine x_py 19 (.bool (x139 == x147)) rfl (by kernel_rfl) (tg := 70) (by kernel_rfl) (congrArg Value.bool hc134) (fun _ => y_eql rfl rfl) (fun _ => hS) ?_
                refine x_p 20 (.bool (x139 == x147)) rfl (by kernel_rfl)  (fun _ => y_pick_t (congrArg Value.bool hc134) rfl) (fun _ => hS) ?_
                refine x_p 21 (.bool (x139 == x147)) rfl (by kernel_rfl)  (fun _ => y_assign rfl) (fun _ => hS) ?_
                refine x_end (by kernel_rfl) ?_
                clear hS
                refine c_region ?_
                refine pl_val (.int .i64 k129) (y_move rfl) ?_
                refine pl_val (.int .i64 (w64 (k129 + 1))) (y_add rfl rfl) ?_
                refine pl_val (.int .i64 (w64 (k129 + 1))) (y_assign rfl) ?_
                refine c_nil ?_
                cases hs
                exact ⟨_, fr_ovl 92 ⟨rfl, rfl, rfl, rfl, rfl, congrArg (Value.int .i64) hw, trivial⟩, hC, hO, h0, h1, h2, hb4⟩
              · skip
                refine x_pn 2 rfl (by kernel_rfl) (tg := 70) (by kernel_rfl) (congrArg Value.bool hc134) (fun _ => hS) ?_
                refine x_pn 3 rfl (by kernel_rfl) (tg := 70) (by kernel_rfl) (congrArg Value.bool hc134) (fun _ => hS) ?_
                refine x_pn 4 rfl (by kernel_rfl) (tg := 70) (by kernel_rfl) (congrArg Value.bool hc134) (fun _ => hS) ?_
                refine x_pn 5 rfl (by kernel_rfl) (tg := 70) (by kernel_rfl) (congrArg Value.bool hc134) (fun _ => hS) ?_
                refine x_pn 6 rfl (by kernel_rfl) (tg := 70) (by kernel_rfl) (congrArg Value.bool hc134) (fun _ => hS) ?_
                refine x_pn 7 rfl (by kernel_rfl) (tg := 70) (by kernel_rfl) (congrArg Value.bool hc134) (fun _ => hS) ?_
                refine x_pn 8 rfl (by kernel_rfl) (tg := 70) (by kernel_rfl) (congrArg Value.bool hc134) (fun _ => hS) ?_
                refine x_pn 9 rfl (by kernel_rfl) (tg := 70) (by kernel_rfl) (congrArg Value.bool hc134) (fun _ => hS) ?_
                refine x_pn 10 rfl (by kernel_rfl) (tg := 70) (by kernel_rfl) (congrArg Value.bool hc134) (fun _ => hS) ?_
                refine x_pn 11 rfl (by kernel_rfl) (tg := 70) (by kernel_rfl) (congrArg Value.bool hc134) (fun _ => hS) ?_
                refine x_pn 12 rfl (by kernel_rfl) (tg := 70) (by kernel_rfl) (congrArg Value.bool hc134) (fun _ => hS) ?_
                refine x_pn 13 rfl (by kernel_rfl) (tg := 70) (by kernel_rfl) (congrArg Value.bool hc134) (fun _ => hS) ?_
                refine x_pn 14 rfl (by kernel_rfl) (tg := 70) (by kernel_rfl) (congrArg Value.bool hc134) (fun _ => hS) ?_
                refine x_pn 15 rfl (by kernel_rfl) (tg := 70) (by kernel_rfl) (congrArg Value.bool hc134) (fun _ => hS) ?_
                refine x_pn 16 rfl (by kernel_rfl) (tg := 70) (by kernel_rfl) (congrArg Value.bool hc134) (fun _ => hS) ?_
                refine x_pn 17 rfl (by kernel_rfl) (tg := 70) (by kernel_rfl) (congrArg Value.bool hc134) (fun _ => hS) ?_
                refine x_pn 18 rfl (by kernel_rfl) (tg := 70) (by kernel_rfl) (congrArg Value.bool hc134) (fun _ => hS) ?_
                refine x_pn 19 rfl (by kernel_rfl) (tg := 70) (by kernel_rfl) (congrArg Value.bool hc134) (fun _ => hS) ?_
                refine x_p 20 (.bool false) rfl (by kernel_rfl)  (fun _ => y_pick_f (congrArg Value.bool hc134) rfl) (fun _ => hS) ?_
                refine x_p 21 (.bool false) rfl (by kernel_rfl)  (fun _ => y_assign rfl) (fun _ => hS) ?_
                refine x_end (by kernel_rfl) ?_
                clear hS
                refine c_region ?_
                refine pl_val (.int .i64 k129) (y_move rfl) ?_
                refine pl_val (.int .i64 (w64 (k129 + 1))) (y_add rfl rfl) ?_
                refine pl_val (.int .i64 (w64 (k129 + 1))) (y_assign rfl) ?_
                refine c_nil ?_
                cases hs
                exact ⟨_, fr_ovl 92 ⟨rfl, rfl, rfl, rfl, rfl, congrArg (Value.int .i64) hw, trivial⟩, hC, hO, h0, h1, h2, hb4⟩
            · skip
              exact ⟨_, fr_ovl 92 ⟨rfl, rfl, rfl, rfl, rfl, rfl, trivial⟩, hC, hO, h0, h1, h2, hb4⟩
            · cases o131 with
              | nx _ => exact True.intro
              | rt r_ =>
                have hs := after_rt hs
                intro a1 w1 hK
                cases hs
                exact hK
              | br s127 =>
                have hs := after_br hs
                rintro a1 w128 ⟨σ, rfl, hC, hO, h0, h1, h2, hb4⟩
                refine c_seq ?_
                refine c_region ?_
                refine pl_val (.bool s127) (y_move rfl) ?_
                refine c_nil ?_
                rcases bif_some hs with ⟨hc149, hs⟩ | ⟨hc149, hs⟩
                · skip
                  refine c_condT (congrArg Value.bool hc149) ?_
                  refine c_seq ?_
                  refine c_region ?_
                  refine pl_val (.int .i64 k107) (y_move rfl) ?_
                  refine pl_val (.int .i64 k107) (y_assign rfl) ?_
                  refine pl_val (.bool true) (y_assign rfl) ?_
                  refine c_nil ?_
                  refine wp_ret ?_
                  cases hs
                  exact ⟨_, fr_ovl 92 ⟨rfl, rfl, trivial⟩, hC⟩
                · skip
                  refine c_condF (congrArg Value.bool hc149) ?_
                  refine wp_skip ?_
                  refine c_region ?_
                  refine pl_val (.int .i64 k107) (y_move rfl) ?_
                  refine pl_val (.int .i64 (w64 (k107 + 1))) (y_add rfl rfl) ?_
                  refine pl_val (.int .i64 (w64 (k107 + 1))) (y_assign rfl) ?_
                  refine c_nil ?_
                  cases hs
                  exact ⟨_, fr_ovl 92 ⟨rfl, rfl, rfl, congrArg (Value.int .i64) hw, trivial⟩, hC, hO, h0, h1, h2, hb4⟩
          · skip
            exact ⟨_, fr_ovl 92 ⟨rfl, rfl, rfl, rfl, trivial⟩, hC, hO, h0, h1, h2, hb4⟩
          · cases o109 with
            | nx _ => exact True.intro
            | rt r_ =>
              have hs := after_rt hs
              intro a1 w1 hK
              cases hs
              exact hK
            | br s105 =>
              have hs := after_br hs
              rintro a1 w106 ⟨σ, rfl, hC, hO, h0, h1, h2, hb4⟩
              refine c_seq ?_
              refine c_region ?_
              refine pl_val (.int .i64 0) (y_assign rfl) ?_
              refine pl_val (.bool false) (y_assign rfl) ?_
              refine c_nil ?_
              refine wp_ret ?_
              cases hs
              exact ⟨_, fr_ovl 92 ⟨rfl, rfl, trivial⟩, hC⟩

def k_impl_power (M : Nat → Prop) (w0 : World) (r : Int) (a : Act) (w : World) : Prop :=
  ∃ (σ : Nat → Value) , a = fr 14 (ovl σ [(4, (.int .i64 r))]) ∧ Chg [] w0 w
def s_impl_power (n : Int) (k : Int) : Option (Int) :=
  (iter (S := Int × Int) (R := Int) (fun s2 =>
  (bif (decide (0 < s2.1)) then some (.nx (w64 (s2.1 - 1), w64 (s2.2 * n))) else some (.br (s2.1, s2.2)))) FU (k, 1)).bind fun o6 => after o6 (fun r_ => some r_) (fun s2 =>
  some s2.2)
set_option maxHeartbeats 4000000 in
theorem c_impl_power {M : Nat → Prop} {w : World}  (n : Int) (k : Int)  (hM : ∀ g, w.heap.size ≤ g → M g) {r : Int} (hs : s_impl_power n k = some r) :
    Gives Try.prog 165 [(.int .i64 n), (.int .i64 k)] w (fun v w' => v = (.int .i64 r) ∧ Chg [] w w') := by
  refine calls_fr Try.func165 rfl Try.ntmps165 (Nat.le_of_ble_eq_true rfl) ?_
  have hO := Own.start (N := Nw w []) hM Nw.fut
  have hC := Chg.refl [] w
  unfold s_impl_power at hs
  refine wp_mono (Q := KPost (k_impl_power M w r)) ?_ (fun e a w1 h => ?_)
  rotate_left
  · cases e
    case ret =>
      obtain ⟨σ, rfl, hrest⟩ := h
      exact ret1x Try.results165 (res_tmp rfl) ⟨rfl, hrest⟩
    all_goals exact (h : False).elim
  refine c_seq ?_
  refine c_region ?_
  refine pl_val (.int .i64 0) (y_assign rfl) ?_
  refine c_nil ?_
  refine c_seq ?_
  refine c_region ?_
  refine pl_val (.int .i64 1) (y_assign rfl) ?_
  refine c_nil ?_
  refine c_seq ?_
  obtain ⟨o6, hl7, hs⟩ := bind_some hs
  refine wp_block ?_
  refine wp_iter (id := 0) (I := fun s2 a w3 => ∃ (σ : Nat → Value), a = fr 14 (ovl σ [(0, (.int .i64 n)), (1, (.int .i64 s2.1)), (5, (.int .i64 s2.2))]) ∧ Chg [] w w3 ∧ Own (Nw w []) M w3 ([])) (J := fun s2 a w3 => ∃ (σ : Nat → Value), a = fr 14 (ovl σ [(5, (.int .i64 s2.2))]) ∧ Chg [] w w3 ∧ Own (Nw w []) M w3 ([])) (K := (k_impl_power M w)) ?_ FU (k, 1) o6 _ _ ?_ hl7 ?_
  · rintro s2 o6 a w3 ⟨σ, rfl, hC, hO⟩ hs
    refine c_seq ?_
    refine c_seq ?_
    refine c_region ?_
    refine pl_val (.int .i64 s2.1) (y_move rfl) ?_
    refine pl_val (.bool (decide (0 < s2.1))) (y_gtr rfl rfl) ?_
    refine c_nil ?_
    rcases bif_some hs with ⟨hc8, hs⟩ | ⟨hc8, hs⟩
    · skip
      refine c_condT (congrArg Value.bool hc8) ?_
      refine wp_skip ?_
      refine c_seq ?_
      refine wp_block ?_
      refine c_region ?_
      refine pl_val (.int .i64 s2.2) (y_move rfl) ?_
      refine pl_val (.int .i64 n) (y_move rfl) ?_
      refine pl_val (.int .i64 (w64 (s2.2 * n))) (y_mul rfl rfl) ?_
      refine pl_val (.int .i64 (w64 (s2.2 * n))) (y_assign rfl) ?_
      refine c_nil ?_
      refine c_region ?_
      refine pl_val (.int .i64 s2.1) (y_move rfl) ?_
      refine pl_val (.int .i64 (w64 (s2.1 - 1))) (y_sub rfl rfl) ?_
      refine pl_val (.int .i64 (w64 (s2.1 - 1))) (y_assign rfl) ?_
      refine c_nil ?_
      cases hs
      exact ⟨_, fr_ovl 14 ⟨rfl, rfl, rfl, trivial⟩, hC, hO⟩
    · skip
      refine c_condF (congrArg Value.bool hc8) ?_
      refine wp_exit ?_
      cases hs
      exact ⟨rfl, _, fr_ovl 14 ⟨rfl, trivial⟩, hC, hO⟩
  · skip
    exact ⟨_, fr_ovl 14 ⟨rfl, rfl, rfl, trivial⟩, hC, hO⟩
  · cases o6 with
    | nx _ => exact True.intro
    | rt r_ =>
      have hs := after_rt hs
      intro a1 w1 hK
      cases hs
      exact hK
    | br s2 =>
      have hs := after_br hs
      rintro a1 w3 ⟨σ, rfl, hC, hO⟩
      refine c_seq ?_
      refine c_region ?_
      refine pl_val (.int .i64 s2.2) (y_move rfl) ?_
      refine pl_val (.int .i64 s2.2) (y_assign rfl) ?_
      refine c_nil ?_
      refine wp_ret ?_
      cases hs
      exact ⟨_, fr_ovl 14 ⟨rfl, trivial⟩, hC⟩

def k_impl_inSize (M : Nat → Prop) (w0 : World) (r : Bool) (a : Act) (w : World) : Prop :=
  ∃ (σ : Nat → Value) , a = fr 21 (ovl σ [(4, (.bool r))]) ∧ Chg [] w0 w
def s_impl_inSize (list : List Int) (n : Int) : Option (Bool) :=
  (forR (S := Unit) (R := Bool) (fun _ x8 s5 =>
  (bif (decide (x8 < 0)) then some (.rt false) else (bif (decide (n ≤ x8)) then some (.rt false) else some (.nx ())))) 0 list ()).bind fun o9 => after o9 (fun r_ => some r_) (fun s5 =>
  some true)
set_option maxHeartbeats 4000000 in
theorem c_impl_inSize {M : Nat → Prop} {w : World} {pa0 : Option Addr} {pn0 pc0 : Nat} (list : List Int) (n : Int) (h0 : (RT.rs (RT.int .i64)).val M w (.slice pa0 pn0 pc0) list ([])) (hM : ∀ g, w.heap.size ≤ g → M g) {r : Bool} (hs : s_impl_inSize list n = some r) :
    Gives Try.prog 113 [(.slice pa0 pn0 pc0), (.int .i64 n)] w (fun v w' => v = (.bool r) ∧ Chg [] w w') := by
  refine calls_fr Try.func113 rfl Try.ntmps113 (Nat.le_of_ble_eq_true rfl) ?_
  have hO := Own.start (N := Nw w []) hM Nw.fut
  have hC := Chg.refl [] w
  unfold s_impl_inSize at hs
  refine wp_mono (Q := KPost (k_impl_inSize M w r)) ?_ (fun e a w1 h => ?_)
  rotate_left
  · cases e
    case ret =>
      obtain ⟨σ, rfl, hrest⟩ := h
      exact ret1x Try.results113 (res_tmp rfl) ⟨rfl, hrest⟩
    all_goals exact (h : False).elim
  refine c_seq ?_
  refine c_region ?_
  refine pl_val (.bool false) (y_assign rfl) ?_
  refine c_nil ?_
  refine c_seq ?_
  refine c_seq ?_
  refine c_region ?_
  refine pl_val (.slice pa0 pn0 pc0) (y_move rfl) ?_
  refine pl_val (.int .i64 (list.length : Int)) (y_len' Sl22 (rs_len h0) rfl) ?_
  refine pl_val (.int .i64 0) (y_move rfl) ?_
  refine c_nil ?_
  obtain ⟨o9, hl10, hs⟩ := bind_some hs
  refine wp_block ?_
  refine wp_forR (id := 0) (I := fun i_ xs_ s5 a w6 => ∃ k7 : Nat, i_ = (k7 : Int) ∧ List.drop k7 list = xs_ ∧ (∃ (σ : Nat → Value), a = fr 21 (ovl σ [(1, (.int .i64 n)), (7, (.slice pa0 pn0 pc0)), (8, (.int .i64 (list.length : Int))), (9, (.int .i64 (k7 : Int)))]) ∧ Chg [] w w6 ∧ Own (Nw w []) M w6 ([]) ∧ (RT.rs (RT.int .i64)).val M w6 (.slice pa0 pn0 pc0) list ([]))) (J := fun s5 a w6 => ∃ (σ : Nat → Value), a = fr 21 (ovl σ []) ∧ Chg [] w w6 ∧ Own (Nw w []) M w6 ([]) ∧ (RT.rs (RT.int .i64)).val M w6 (.slice pa0 pn0 pc0) list ([])) (K := (k_impl_inSize M w)) ?_ ?_ list 0 () o9 _ _ ?_ hl10 ?_
  · rintro _ s5 a w6 ⟨k7, rfl, hd, σ, rfl, hC, hO, h0⟩
    have hlt := drop_nil_ge hd
    refine c_seq ?_
    refine c_region ?_
    refine pl_val (.bool (decide ((k7 : Int) < (list.length : Int)))) (y_lss rfl rfl) ?_
    refine c_nil ?_
    refine c_seq ?_
    refine c_condF (congrArg Value.bool (decide_eq_false hlt)) ?_
    refine wp_exit ?_
    exact ⟨rfl, _, fr_ovl 21 trivial, hC, hO, h0⟩
  · rintro _ x8 xs_ s5 o9 a w6 ⟨k7, rfl, hd, σ, rfl, hC, hO, h0⟩ hs
    have hlt := drop_cons_lt hd
    have hxk7 := drop_cons_idx hd
    refine c_seq ?_
    refine c_region ?_
    refine pl_val (.bool (decide ((k7 : Int) < (list.length : Int)))) (y_lss rfl rfl) ?_
    refine c_nil ?_
    refine c_seq ?_
    refine c_condT (congrArg Value.bool (decide_eq_true hlt)) ?_
    refine wp_skip ?_
    refine c_seq ?_
    refine wp_block ?_
    refine c_seq ?_
    refine c_region ?_
    obtain ⟨b11, o11, hp11, ha11⟩ := rs_idx Sl22 Sz3 h0 hxk7
    refine pl_val (.pointer (some ⟨b11, o11, none⟩)) (hp11 _ _ _ _ _ _ _ _ _ rfl rfl) ?_
    refine pl_val (.int .i64 x8) (y_load rfl ((at_load_int Ag3 Sz3 ha11) _ (Chg.refl _ _))) ?_
    refine pl_val (.int .i64 x8) (y_assign rfl) ?_
    refine c_nil ?_
    refine c_seq ?_
    refine c_region ?_
    refine pl_val (.int .i64 x8) (y_move rfl) ?_
    refine pl_val (.bool (decide (x8 < 0))) (y_lss rfl rfl) ?_
    refine pl_val (.bool (decide (x8 < 0))) (y_move rfl) ?_
    rcases bif_some hs with ⟨hc12, hs⟩ | ⟨hc12, hs⟩
    · skip
      refine pl_not (tg := 15) (by kernel_rfl) (congrArg Value.bool hc12) ?_
      refine pl_not (tg := 15) (by kernel_rfl) (congrArg Value.bool hc12) ?_
      refine pl_not (tg := 15) (by kernel_rfl) (congrArg Value.bool hc12) ?_
      refine pl_val (.bool true) (y_pick_t (congrArg Value.bool hc12) rfl) ?_
      refine c_nil ?_
      refine c_condT (by rfl) ?_
      refine c_seq ?_
      refine c_region ?_
      refine pl_val (.bool false) (y_assign rfl) ?_
      refine c_nil ?_
      refine wp_ret ?_
      cases hs
      exact ⟨_, fr_ovl 21 ⟨rfl, trivial⟩, hC⟩
    · skip
      refine pl_yes (.int .i64 x8) (tg := 15) (by kernel_rfl) (congrArg Value.bool hc12) (y_move rfl) ?_
      refine pl_yes (.int .i64 n) (tg := 15) (by kernel_rfl) (congrArg Value.bool hc12) (y_move rfl) ?_
      refine pl_yes (.bool (decide (n ≤ x8))) (tg := 15) (by kernel_rfl) (congrArg Value.bool hc12) (y_geq rfl rfl) ?_
      refine pl_val (.bool (decide (n ≤ x8))) (y_pick_f (congrArg Value.bool hc12) rfl) ?_
      refine c_nil ?_
      rcases bif_some hs with ⟨hc13, hs⟩ | ⟨hc13, hs⟩
      · skip
        refine c_condT (congrArg Value.bool hc13) ?_
        refine c_seq ?_
        refine c_region ?_
        refine pl_val (.bool false) (y_assign rfl) ?_
        refine c_nil ?_
        refine wp_ret ?_
        cases hs
        exact ⟨_, fr_ovl 21 ⟨rfl, trivial⟩, hC⟩
      · skip
        refine c_condF (congrArg Value.bool hc13) ?_
        refine wp_skip ?_
        refine c_region ?_
        refine pl_val (.int .i64 (w64 ((k7 : Int) + 1))) (y_add rfl rfl) ?_
        refine pl_val (.int .i64 (w64 ((k7 : Int) + 1))) (y_move rfl) ?_
        refine c_nil ?_
        cases hs
        exact ⟨_, rfl, drop_cons_next hd, _, fr_ovl 21 ⟨rfl, rfl, rfl, congrArg (Value.int .i64) (w64_succ hlt (Int.natCast_nonneg _) (rs_max h0)), trivial⟩, hC, hO, h0⟩
  · skip
    exact ⟨0, rfl, rfl, _, fr_ovl 21 ⟨rfl, rfl, rfl, rfl, trivial⟩, hC, hO, h0⟩
  · cases o9 with
    | nx _ => exact True.intro
    | rt r_ =>
      have hs := after_rt hs
      intro a1 w1 hK
      cases hs
      exact hK
    | br s5 =>
      have hs := after_br hs
      rintro a1 w6 ⟨σ, rfl, hC, hO, h0⟩
      refine c_seq ?_
      refine c_region ?_
      refine pl_val (.bool true) (y_assign rfl) ?_
      refine c_nil ?_
      refine wp_ret ?_
      cases hs
      exact ⟨_, fr_ovl 21 ⟨rfl, trivial⟩, hC⟩

theorem Bd165 : Bodied Try.prog 165 := bodied Try.func165 (by kernel_rfl) rfl

theorem Bd113 : Bodied Try.prog 113 := bodied Try.func113 (by kernel_rfl) rfl

def k_impl_isOp (M : Nat → Prop) (w0 : World) (r : Bool) (a : Act) (w : World) : Prop :=
  ∃ (σ : Nat → Value) , a = fr 29 (ovl σ [(4, (.bool r))]) ∧ Chg [] w0 w
def s_impl_isOp (f : Int × (List Int)) (n : Int) : Option (Bool) :=
  (bif (decide (0 ≤ f.1)) then (bif (decide (f.1 ≤ 3)) then (s_impl_power n f.1).bind fun r7 =>
  (bif ((f.2.length : Int) == r7) then (s_impl_inSize f.2 n).bind fun r10 =>
  some r10 else some false) else some false) else some false)
set_option maxHeartbeats 4000000 in
theorem c_impl_isOp {M : Nat → Prop} {w : World} {pa0 : Option Addr} {pn0 pc0 : Nat} (f : Int × (List Int)) (n : Int) (h0 : (RT.rs (RT.int .i64)).val M w (.slice pa0 pn0 pc0) f.2 ([])) (hM : ∀ g, w.heap.size ≤ g → M g) {r : Bool} (hs : s_impl_isOp f n = some r) :
    Gives Try.prog 122 [(.agg #[(.int .i64 f.1), (.slice pa0 pn0 pc0)]), (.int .i64 n)] w (fun v w' => v = (.bool r) ∧ Chg [] w w') := by
  refine calls_fr Try.func122 rfl Try.ntmps122 (Nat.le_of_ble_eq_true rfl) ?_
  have hO := Own.start (N := Nw w []) hM Nw.fut
  have hC := Chg.refl [] w
  unfold s_impl_isOp at hs
  refine wp_mono (Q := KPost (k_impl_isOp M w r)) ?_ (fun e a w1 h => ?_)
  rotate_left
  · cases e
    case ret =>
      obtain ⟨σ, rfl, hrest⟩ := h
      exact ret1x Try.results122 (res_tmp rfl) ⟨rfl, hrest⟩
    all_goals exact (h : False).elim
  refine c_seq ?_
  refine c_region ?_
  obtain ⟨w2, g2, ew2, eg2, hC2, hb2⟩ := new_block w [(.int .i64 f.1), (.slice pa0 pn0 pc0)] 82
  refine pl_val (w' := w2) (.pointer (some ⟨g2, 0, none⟩)) (y_box rfl (by rw [ew2, eg2]; kernel_rfl)) ?_
  have h0 := h0.ext hC2
  have hC := hC.ext hC2
  have hO := hO.new (X' := [g2]) hC2 (fun q hq => by rw [List.mem_singleton.1 hq, eg2]; exact Nat.le_refl _) (List.nodup_cons.2 ⟨(fun h => nomatch h), List.nodup_nil⟩) (fun q hq => by rw [List.mem_singleton.1 hq]; exact hb2.lt)
  refine pl_val (.bool false) (y_assign rfl) ?_
  refine c_nil ?_
  refine c_seq ?_
  refine x_start [] Mx rfl ?_
  have hCw3 := Chg.drew w2
  generalize World.drew w2 = w3 at hCw3 ⊢
  have h0 := h0.ext hCw3
  have hb2 := hb2.chg hCw3 (fun h => nomatch h)
  have hC := hC.ext hCw3
  have hO := hO.ext hCw3
  have hS := Chg.refl [] w3
  refine x_p 0 (.pointer (some ⟨g2, 0, none⟩)) rfl (by kernel_rfl)  (fun _ => y_faddr rfl Fa82x0) (fun _ => hS) ?_
  refine x_l 1 (.int .i64 f.1) rfl (by kernel_rfl)  (fun w' hw' => y_load rfl ((box_load Ag3 Sz3 hb2 [] [(.int .i64 f.1)] [(.slice pa0 pn0 pc0)] rfl rfl (fun _ => rfl)) w' hw')) hS ?_
  refine x_p 2 (.bool (decide (0 ≤ f.1))) rfl (by kernel_rfl)  (fun _ => y_geq rfl rfl) (fun _ => hS) ?_
  refine x_p 3 (.bool (decide (0 ≤ f.1))) rfl (by kernel_rfl)  (fun _ => y_move rfl) (fun _ => hS) ?_
  rcases bif_some hs with ⟨hc4, hs⟩ | ⟨hc4, hs⟩
  · skip
    refine x_py 4 (.pointer (some ⟨g2, 0, none⟩)) rfl (by kernel_rfl) (tg := 8) (by kernel_rfl) (congrArg Value.bool hc4) (fun _ => y_faddr rfl Fa82x0) (fun _ => hS) ?_
    refine x_ly 5 (.int .i64 f.1) rfl (by kernel_rfl) (tg := 8) (by kernel_rfl) (congrArg Value.bool hc4) (fun w' hw' => y_load rfl ((box_load Ag3 Sz3 hb2 [] [(.int .i64 f.1)] [(.slice pa0 pn0 pc0)] rfl rfl (fun _ => rfl)) w' hw')) hS ?_
    refine x_py 6 (.bool (decide (f.1 ≤ 3))) rfl (by kernel_rfl) (tg := 8) (by kernel_rfl) (congrArg Value.bool hc4) (fun _ => y_leq rfl rfl) (fun _ => hS) ?_
    refine x_p 7 (.bool (decide (f.1 ≤ 3))) rfl (by kernel_rfl)  (fun _ => y_pick_t (congrArg Value.bool hc4) rfl) (fun _ => hS) ?_
    refine x_p 8 (.bool (decide (f.1 ≤ 3))) rfl (by kernel_rfl)  (fun _ => y_move rfl) (fun _ => hS) ?_
    rcases bif_some hs with ⟨hc5, hs⟩ | ⟨hc5, hs⟩
    · skip
      refine x_py 9 (.pointer (some ⟨g2, 1, none⟩)) rfl (by kernel_rfl) (tg := 13) (by kernel_rfl) (congrArg Value.bool hc5) (fun _ => y_faddr rfl Fa82x1) (fun _ => hS) ?_
      refine x_ly 10 (.slice pa0 pn0 pc0) rfl (by kernel_rfl) (tg := 13) (by kernel_rfl) (congrArg Value.bool hc5) (fun w' hw' => y_load rfl ((box_load Ag22 Sz22 hb2 [(.int .i64 f.1)] [(.slice pa0 pn0 pc0)] [] rfl rfl (fun _ => rfl)) w' hw')) hS ?_
      refine x_py 11 (.int .i64 (f.2.length : Int)) rfl (by kernel_rfl) (tg := 13) (by kernel_rfl) (congrArg Value.bool hc5) (fun _ => y_len' Sl22 (rs_len h0) rfl) (fun _ => hS) ?_
      refine x_py 12 (.int .i64 n) rfl (by kernel_rfl) (tg := 13) (by kernel_rfl) (congrArg Value.bool hc5) (fun _ => y_move rfl) (fun _ => hS) ?_
      refine x_py 13 (.pointer (some ⟨g2, 0, none⟩)) rfl (by kernel_rfl) (tg := 13) (by kernel_rfl) (congrArg Value.bool hc5) (fun _ => y_faddr rfl Fa82x0) (fun _ => hS) ?_
      refine x_ly 14 (.int .i64 f.1) rfl (by kernel_rfl) (tg := 13) (by kernel_rfl) (congrArg Value.bool hc5) (fun w' hw' => y_load rfl ((box_load Ag3 Sz3 hb2 [] [(.int .i64 f.1)] [(.slice pa0 pn0 pc0)] rfl rfl (fun _ => rfl)) w' hw')) hS ?_
      refine x_one (i := 15) (by kernel_rfl) ?_
      obtain ⟨r7, hr7, hs⟩ := bind_some hs
      refine xk_cally (b := false) rfl (tg := 13) (by kernel_rfl) (congrArg Value.bool hc5) Bd165 rfl (c_impl_power (M := M) n f.1  hO.fut hr7) rfl (by rintro _ _ _ ⟨rfl, hC6⟩; exact hS.ext hC6) ?_
      rintro _ w6 ⟨rfl, hC6⟩
      have h0 := h0.ext hC6
      have hb2 := hb2.chg hC6 (fun h => nomatch h)
      have hC := hC.ext hC6
      have hO := hO.ext hC6
      have hS := hS.ext hC6
      refine x_py 16 (.bool ((f.2.length : Int) == r7)) rfl (by kernel_rfl) (tg := 13) (by kernel_rfl) (congrArg Value.bool hc5) (fun _ => y_eql rfl rfl) (fun _ => hS) ?_
      refine x_p 17 (.bool ((f.2.length : Int) == r7)) rfl (by kernel_rfl)  (fun _ => y_pick_t (congrArg Value.bool hc5) rfl) (fun _ => hS) ?_
      refine x_p 18 (.bool ((f.2.length : Int) == r7)) rfl (by kernel_rfl)  (fun _ => y_move rfl) (fun _ => hS) ?_
      rcases bif_some hs with ⟨hc8, hs⟩ | ⟨hc8, hs⟩
      · skip
        refine x_py 19 (.pointer (some ⟨g2, 1, none⟩)) rfl (by kernel_rfl) (tg := 23) (by kernel_rfl) (congrArg Value.bool hc8) (fun _ => y_faddr rfl Fa82x1) (fun _ => hS) ?_
        refine x_py 21 (.int .i64 n) rfl (by kernel_rfl) (tg := 23) (by kernel_rfl) (congrArg Value.bool hc8) (fun _ => y_move rfl) (fun _ => hS) ?_
        refine x_one (i := 20) (by kernel_rfl) ?_
        refine xk_valy (b := false) (.slice pa0 pn0 pc0) rfl (tg := 23) (by kernel_rfl) (congrArg Value.bool hc8) (y_load rfl ((box_load Ag22 Sz22 hb2 [(.int .i64 f.1)] [(.slice pa0 pn0 pc0)] [] rfl rfl (fun _ => rfl)) _ (Chg.refl _ _))) rfl (fun _ => hS) ?_
        refine x_one (i := 22) (by kernel_rfl) ?_
        obtain ⟨r10, hr10, hs⟩ := bind_some hs
        refine xk_cally (b := false) rfl (tg := 23) (by kernel_rfl) (congrArg Value.bool hc8) Bd113 rfl (c_impl_inSize (M := M) f.2 n h0 hO.fut hr10) rfl (by rintro _ _ _ ⟨rfl, hC9⟩; exact hS.ext hC9) ?_
        rintro _ w9 ⟨rfl, hC9⟩
        have h0 := h0.ext hC9
        have hb2 := hb2.chg hC9 (fun h => nomatch h)
        have hC := hC.ext hC9
        have hO := hO.ext hC9
        have hS := hS.ext hC9
        refine x_p 23 (.bool r10) rfl (by kernel_rfl)  (fun _ => y_pick_t (congrArg Value.bool hc8) rfl) (fun _ => hS) ?_
        refine x_p 24 (.bool r10) rfl (by kernel_rfl)  (fun _ => y_assign rfl) (fun _ => hS) ?_
        refine x_end (by kernel_rfl) ?_
        clear hS
        refine wp_ret ?_
        cases hs
        exact ⟨_, fr_ovl 29 ⟨rfl, trivial⟩, hC⟩
      · skip
        refine x_pn 19 rfl (by kernel_rfl) (tg := 23) (by kernel_rfl) (congrArg Value.bool hc8) (fun _ => hS) ?_
        refine x_pn 20 rfl (by kernel_rfl) (tg := 23) (by kernel_rfl) (congrArg Value.bool hc8) (fun _ => hS) ?_
        refine x_pn 21 rfl (by kernel_rfl) (tg := 23) (by kernel_rfl) (congrArg Value.bool hc8) (fun _ => hS) ?_
        refine x_pn 22 rfl (by kernel_rfl) (tg := 23) (by kernel_rfl) (congrArg Value.bool hc8) (fun _ => hS) ?_
        refine x_p 23 (.bool false) rfl (by kernel_rfl)  (fun _ => y_pick_f (congrArg Value.bool hc8) rfl) (fun _ => hS) ?_
        refine x_p 24 (.bool false) rfl (by kernel_rfl)  (fun _ => y_assign rfl) (fun _ => hS) ?_
        refine x_end (by kernel_rfl) ?_
        clear hS
        refine wp_ret ?_
        cases hs
        exact ⟨_, fr_ovl 29 ⟨rfl, trivial⟩, hC⟩
    · skip
      refine x_pn 9 rfl (by kernel_rfl) (tg := 13) (by kernel_rfl) (congrArg Value.bool hc5) (fun _ => hS) ?_
      refine x_pn 10 rfl (by kernel_rfl) (tg := 13) (by kernel_rfl) (congrArg Value.bool hc5) (fun _ => hS) ?_
      refine x_pn 11 rfl (by kernel_rfl) (tg := 13) (by kernel_rfl) (congrArg Value.bool hc5) (fun _ => hS) ?_
      refine x_pn 12 rfl (by kernel_rfl) (tg := 13) (by kernel_rfl) (congrArg Value.bool hc5) (fun _ => hS) ?_
      refine x_pn 13 rfl (by kernel_rfl) (tg := 13) (by kernel_rfl) (congrArg Value.bool hc5) (fun _ => hS) ?_
      refine x_pn 14 rfl (by kernel_rfl) (tg := 13) (by kernel_rfl) (congrArg Value.bool hc5) (fun _ => hS) ?_
      refine x_pn 15 rfl (by kernel_rfl) (tg := 13) (by kernel_rfl) (congrArg Value.bool hc5) (fun _ => hS) ?_
      refine x_pn 16 rfl (by kernel_rfl) (tg := 13) (by kernel_rfl) (congrArg Value.bool hc5) (fun _ => hS) ?_
      refine x_p 17 (.bool false) rfl (by kernel_rfl)  (fun _ => y_pick_f (congrArg Value.bool hc5) rfl) (fun _ => hS) ?_
      refine x_p 18 (.bool false) rfl (by kernel_rfl)  (fun _ => y_move rfl) (fun _ => hS) ?_
      refine x_pn 19 rfl (by kernel_rfl) (tg := 23) (by kernel_rfl) (by rfl) (fun _ => hS) ?_
      refine x_pn 20 rfl (by kernel_rfl) (tg := 23) (by kernel_rfl) (by rfl) (fun _ => hS) ?_
      refine x_pn 21 rfl (by kernel_rfl) (tg := 23) (by kernel_rfl) (by rfl) (fun _ => hS) ?_
      refine x_pn 22 rfl (by kernel_rfl) (tg := 23) (by kernel_rfl) (by rfl) (fun _ => hS) ?_
      refine x_p 23 (.bool false) rfl (by kernel_rfl)  (fun _ => y_pick_f (by rfl) rfl) (fun _ => hS) ?_
      refine x_p 24 (.bool false) rfl (by kernel_rfl)  (fun _ => y_assign rfl) (fun _ => hS) ?_
      refine x_end (by kernel_rfl) ?_
      clear hS
      refine wp_ret ?_
      cases hs
      exact ⟨_, fr_ovl 29 ⟨rfl, trivial⟩, hC⟩
  · skip
    refine x_pn 4 rfl (by kernel_rfl) (tg := 8) (by kernel_rfl) (congrArg Value.bool hc4) (fun _ => hS) ?_
    refine x_pn 5 rfl (by kernel_rfl) (tg := 8) (by kernel_rfl) (congrArg Value.bool hc4) (fun _ => hS) ?_
    refine x_pn 6 rfl (by kernel_rfl) (tg := 8) (by kernel_rfl) (congrArg Value.bool hc4) (fun _ => hS) ?_
    refine x_p 7 (.bool false) rfl (by kernel_rfl)  (fun _ => y_pick_f (congrArg Value.bool hc4) rfl) (fun _ => hS) ?_
    refine x_p 8 (.bool false) rfl (by kernel_rfl)  (fun _ => y_move rfl) (fun _ => hS) ?_
    refine x_pn 9 rfl (by kernel_rfl) (tg := 13) (by kernel_rfl) (by rfl) (fun _ => hS) ?_
    refine x_pn 10 rfl (by kernel_rfl) (tg := 13) (by kernel_rfl) (by rfl) (fun _ => hS) ?_
    refine x_pn 11 rfl (by kernel_rfl) (tg := 13) (by kernel_rfl) (by rfl) (fun _ => hS) ?_
    refine x_pn 12 rfl (by kernel_rfl) (tg := 13) (by kernel_rfl) (by rfl) (fun _ => hS) ?_
    refine x_pn 13 rfl (by kernel_rfl) (tg := 13) (by kernel_rfl) (by rfl) (fun _ => hS) ?_
    refine x_pn 14 rfl (by kernel_rfl) (tg := 13) (by kernel_rfl) (by rfl) (fun _ => hS) ?_
    refine x_pn 15 rfl (by kernel_rfl) (tg := 13) (by kernel_rfl) (by rfl) (fun _ => hS) ?_
    refine x_pn 16 rfl (by kernel_rfl) (tg := 13) (by kernel_rfl) (by rfl) (fun _ => hS) ?_
    refine x_p 17 (.bool false) rfl (by kernel_rfl)  (fun _ => y_pick_f (by rfl) rfl) (fun _ => hS) ?_
    refine x_p 18 (.bool false) rfl (by kernel_rfl)  (fun _ => y_move rfl) (fun _ => hS) ?_
    refine x_pn 19 rfl (by kernel_rfl) (tg := 23) (by kernel_rfl) (by rfl) (fun _ => hS) ?_
    refine x_pn 20 rfl (by kernel_rfl) (tg := 23) (by kernel_rfl) (by rfl) (fun _ => hS) ?_
    refine x_pn 21 rfl (by kernel_rfl) (tg := 23) (by kernel_rfl) (by rfl) (fun _ => hS) ?_
    refine x_pn 22 rfl (by kernel_rfl) (tg := 23) (by kernel_rfl) (by rfl) (fun _ => hS) ?_
    refine x_p 23 (.bool false) rfl (by kernel_rfl)  (fun _ => y_pick_f (by rfl) rfl) (fun _ => hS) ?_
    refine x_p 24 (.bool false) rfl (by kernel_rfl)  (fun _ => y_assign rfl) (fun _ => hS) ?_
    refine x_end (by kernel_rfl) ?_
    clear hS
    refine wp_ret ?_
    cases hs
    exact ⟨_, fr_ovl 29 ⟨rfl, trivial⟩, hC⟩

theorem Bd122 : Bodied Try.prog 122 := bodied Try.func122 (by kernel_rfl) rfl

def k_impl_IsAlgebra (M : Nat → Prop) (w0 : World) (r : Bool) (a : Act) (w : World) : Prop :=
  ∃ (σ : Nat → Value) , a = fr 32 (ovl σ [(2, (.bool r))]) ∧ Chg [] w0 w
def s_impl_IsAlgebra (a_ : Int × (List (Int × (List Int)))) : Option (Bool) :=
  (bif (((decide (a_.1 < 1)) || (decide (8 < a_.1))) || (decide (4 < (a_.2.length : Int)))) then some false else (forR (S := Unit) (R := Bool) (fun _ x21 s18 =>
  (s_impl_isOp (x21.1, x21.2) a_.1).bind fun r30 =>
  (bif (!r30) then some (.rt false) else some (.nx ()))) 0 a_.2 ()).bind fun o22 => after o22 (fun r_ => some r_) (fun s18 =>
  some true))
set_option maxHeartbeats 4000000 in
theorem c_impl_IsAlgebra {M : Nat → Prop} {w : World} {pa0 : Option Addr} {pn0 pc0 : Nat} (a_ : Int × (List (Int × (List Int)))) (h0 : (RT.rs (RT.pr (RT.int .i64) (RT.rs (RT.int .i64)))).val M w (.slice pa0 pn0 pc0) a_.2 ([])) (hM : ∀ g, w.heap.size ≤ g → M g) {r : Bool} (hs : s_impl_IsAlgebra a_ = some r) :
    Gives Try.prog 98 [(.agg #[(.int .i64 a_.1), (.slice pa0 pn0 pc0)])] w (fun v w' => v = (.bool r) ∧ Chg [] w w') := by
  refine calls_fr Try.func98 rfl Try.ntmps98 (Nat.le_of_ble_eq_true rfl) ?_
  have hO := Own.start (N := Nw w []) hM Nw.fut
  have hC := Chg.refl [] w
  unfold s_impl_IsAlgebra at hs
  refine wp_mono (Q := KPost (k_impl_IsAlgebra M w r)) ?_ (fun e a w1 h => ?_)
  rotate_left
  · cases e
    case ret =>
      obtain ⟨σ, rfl, hrest⟩ := h
      exact ret1x Try.results98 (res_tmp rfl) ⟨rfl, hrest⟩
    all_goals exact (h : False).elim
  refine c_seq ?_
  refine c_region ?_
  obtain ⟨w2, g2, ew2, eg2, hC2, hb2⟩ := new_block w [(.int .i64 a_.1), (.slice pa0 pn0 pc0)] 62
  refine pl_val (w' := w2) (.pointer (some ⟨g2, 0, none⟩)) (y_box rfl (by rw [ew2, eg2]; kernel_rfl)) ?_
  have h0 := h0.ext hC2
  have hC := hC.ext hC2
  have hO := hO.new (X' := [g2]) hC2 (fun q hq => by rw [List.mem_singleton.1 hq, eg2]; exact Nat.le_refl _) (List.nodup_cons.2 ⟨(fun h => nomatch h), List.nodup_nil⟩) (fun q hq => by rw [List.mem_singleton.1 hq]; exact hb2.lt)
  refine pl_val (.bool false) (y_assign rfl) ?_
  refine c_nil ?_
  refine c_seq ?_
  refine c_seq ?_
  refine c_mid (I := fun a w4 => ∃ (σ : Nat → Value), a = fr 32 (ovl σ [(1, (.pointer (some ⟨g2, 0, none⟩))), (2, (.bool false)), (18, (.bool (((decide (a_.1 < 1)) || (decide (8 < a_.1))) || (decide (4 < (a_.2.length : Int))))))]) ∧ Chg [] w2 w4) ?_ ?_
  · have hMid := Chg.refl [] w2
    refine c_region ?_
    refine pl_val (.pointer (some ⟨g2, 0, none⟩)) (y_faddr rfl Fa62x0) ?_
    refine pl_val (.int .i64 a_.1) (y_load rfl ((box_load Ag3 Sz3 hb2 [] [(.int .i64 a_.1)] [(.slice pa0 pn0 pc0)] rfl rfl (fun _ => rfl)) _ (Chg.refl _ _))) ?_
    refine pl_val (.bool (decide (a_.1 < 1))) (y_lss rfl rfl) ?_
    refine pl_val (.bool (decide (a_.1 < 1))) (y_move rfl) ?_
    rcases Bool.eq_false_or_eq_true ((decide (a_.1 < 1))) with hc6 | hc6
    · skip
      refine pl_not (tg := 8) (by kernel_rfl) (congrArg Value.bool hc6) ?_
      refine pl_not (tg := 8) (by kernel_rfl) (congrArg Value.bool hc6) ?_
      refine pl_not (tg := 8) (by kernel_rfl) (congrArg Value.bool hc6) ?_
      refine pl_val (.bool ((decide (a_.1 < 1)) || (decide (8 < a_.1)))) (y_pick_t (congrArg Value.bool hc6) (congrArg Value.bool (by rw [hc6]; rfl))) ?_
      refine pl_val (.bool ((decide (a_.1 < 1)) || (decide (8 < a_.1)))) (y_move rfl) ?_
      rcases Bool.eq_false_or_eq_true (((decide (a_.1 < 1)) || (decide (8 < a_.1)))) with hc7 | hc7
      · skip
        refine pl_not (tg := 13) (by kernel_rfl) (congrArg Value.bool hc7) ?_
        refine pl_not (tg := 13) (by kernel_rfl) (congrArg Value.bool hc7) ?_
        refine pl_not (tg := 13) (by kernel_rfl) (congrArg Value.bool hc7) ?_
        refine pl_not (tg := 13) (by kernel_rfl) (congrArg Value.bool hc7) ?_
        refine pl_val (.bool (((decide (a_.1 < 1)) || (decide (8 < a_.1))) || (decide (4 < (a_.2.length : Int))))) (y_pick_t (congrArg Value.bool hc7) (congrArg Value.bool (by rw [hc7]; rfl))) ?_
        refine c_nil ?_
        exact ⟨_, fr_ovl 32 ⟨rfl, rfl, rfl, trivial⟩, hMid⟩
      · skip
        refine pl_yes (.pointer (some ⟨g2, 1, none⟩)) (tg := 13) (by kernel_rfl) (congrArg Value.bool hc7) (y_faddr rfl Fa62x1) ?_
        refine pl_yes (.slice pa0 pn0 pc0) (tg := 13) (by kernel_rfl) (congrArg Value.bool hc7) (y_load rfl ((box_load Ag60 Sz60 hb2 [(.int .i64 a_.1)] [(.slice pa0 pn0 pc0)] [] rfl rfl (fun _ => rfl)) _ (Chg.refl _ _))) ?_
        refine pl_yes (.int .i64 (a_.2.length : Int)) (tg := 13) (by kernel_rfl) (congrArg Value.bool hc7) (y_len' Sl60 (rs_len h0) rfl) ?_
        refine pl_yes (.bool (decide (4 < (a_.2.length : Int)))) (tg := 13) (by kernel_rfl) (congrArg Value.bool hc7) (y_gtr rfl rfl) ?_
        refine pl_val (.bool (((decide (a_.1 < 1)) || (decide (8 < a_.1))) || (decide (4 < (a_.2.length : Int))))) (y_pick_f (congrArg Value.bool hc7) (congrArg Value.bool (by rw [hc7]; rfl))) ?_
        refine c_nil ?_
        exact ⟨_, fr_ovl 32 ⟨rfl, rfl, rfl, trivial⟩, hMid⟩
    · skip
      refine pl_yes (.pointer (some ⟨g2, 0, none⟩)) (tg := 8) (by kernel_rfl) (congrArg Value.bool hc6) (y_faddr rfl Fa62x0) ?_
      refine pl_yes (.int .i64 a_.1) (tg := 8) (by kernel_rfl) (congrArg Value.bool hc6) (y_load rfl ((box_load Ag3 Sz3 hb2 [] [(.int .i64 a_.1)] [(.slice pa0 pn0 pc0)] rfl rfl (fun _ => rfl)) _ (Chg.refl _ _))) ?_
      refine pl_yes (.bool (decide (8 < a_.1))) (tg := 8) (by kernel_rfl) (congrArg Value.bool hc6) (y_gtr rfl rfl) ?_
      refine pl_val (.bool ((decide (a_.1 < 1)) || (decide (8 < a_.1)))) (y_pick_f (congrArg Value.bool hc6) (congrArg Value.bool (by rw [hc6]; rfl))) ?_
      refine pl_val (.bool ((decide (a_.1 < 1)) || (decide (8 < a_.1)))) (y_move rfl) ?_
      rcases Bool.eq_false_or_eq_true (((decide (a_.1 < 1)) || (decide (8 < a_.1)))) with hc8 | hc8
      · skip
        refine pl_not (tg := 13) (by kernel_rfl) (congrArg Value.bool hc8) ?_
        refine pl_not (tg := 13) (by kernel_rfl) (congrArg Value.bool hc8) ?_
        refine pl_not (tg := 13) (by kernel_rfl) (congrArg Value.bool hc8) ?_
        refine pl_not (tg := 13) (by kernel_rfl) (congrArg Value.bool hc8) ?_
        refine pl_val (.bool (((decide (a_.1 < 1)) || (decide (8 < a_.1))) || (decide (4 < (a_.2.length : Int))))) (y_pick_t (congrArg Value.bool hc8) (congrArg Value.bool (by rw [hc8]; rfl))) ?_
        refine c_nil ?_
        exact ⟨_, fr_ovl 32 ⟨rfl, rfl, rfl, trivial⟩, hMid⟩
      · skip
        refine pl_yes (.pointer (some ⟨g2, 1, none⟩)) (tg := 13) (by kernel_rfl) (congrArg Value.bool hc8) (y_faddr rfl Fa62x1) ?_
        refine pl_yes (.slice pa0 pn0 pc0) (tg := 13) (by kernel_rfl) (congrArg Value.bool hc8) (y_load rfl ((box_load Ag60 Sz60 hb2 [(.int .i64 a_.1)] [(.slice pa0 pn0 pc0)] [] rfl rfl (fun _ => rfl)) _ (Chg.refl _ _))) ?_
        refine pl_yes (.int .i64 (a_.2.length : Int)) (tg := 13) (by kernel_rfl) (congrArg Value.bool hc8) (y_len' Sl60 (rs_len h0) rfl) ?_
        refine pl_yes (.bool (decide (4 < (a_.2.length : Int)))) (tg := 13) (by kernel_rfl) (congrArg Value.bool hc8) (y_gtr rfl rfl) ?_
        refine pl_val (.bool (((decide (a_.1 < 1)) || (decide (8 < a_.1))) || (decide (4 < (a_.2.length : Int))))) (y_pick_f (congrArg Value.bool hc8) (congrArg Value.bool (by rw [hc8]; rfl))) ?_
        refine c_nil ?_
        exact ⟨_, fr_ovl 32 ⟨rfl, rfl, rfl, trivial⟩, hMid⟩
  · rintro a1 w4 ⟨σ, rfl, hCs3⟩
    have h0 := h0.ext hCs3
    have hb2 := hb2.chg hCs3 (fun h => nomatch h)
    have hC := hC.ext hCs3
    have hO := hO.ext hCs3
    rcases bif_some hs with ⟨hc9, hs⟩ | ⟨hc9, hs⟩
    · skip
      refine c_condT (congrArg Value.bool hc9) ?_
      refine c_seq ?_
      refine c_region ?_
      refine pl_val (.bool false) (y_assign rfl) ?_
      refine c_nil ?_
      refine wp_ret ?_
      cases hs
      exact ⟨_, fr_ovl 32 ⟨rfl, trivial⟩, hC⟩
    · skip
      refine c_condF (congrArg Value.bool hc9) ?_
      refine wp_skip ?_
      refine c_seq ?_
      refine c_seq ?_
      refine c_region ?_
      refine pl_val (.pointer (some ⟨g2, 1, none⟩)) (y_faddr rfl Fa62x1) ?_
      refine pl_val (.slice pa0 pn0 pc0) (y_load rfl ((box_load Ag60 Sz60 hb2 [(.int .i64 a_.1)] [(.slice pa0 pn0 pc0)] [] rfl rfl (fun _ => rfl)) _ (Chg.refl _ _))) ?_
      refine pl_val (.int .i64 (a_.2.length : Int)) (y_len' Sl60 (rs_len h0) rfl) ?_
      refine pl_val (.int .i64 0) (y_move rfl) ?_
      refine c_nil ?_
      obtain ⟨o22, hl23, hs⟩ := bind_some hs
      refine wp_block ?_
      refine wp_forR (id := 0) (I := fun i_ xs_ s18 a w19 => ∃ k20 : Nat, i_ = (k20 : Int) ∧ List.drop k20 a_.2 = xs_ ∧ (∃ (σ : Nat → Value), a = fr 32 (ovl σ [(1, (.pointer (some ⟨g2, 0, none⟩))), (20, (.slice pa0 pn0 pc0)), (21, (.int .i64 (a_.2.length : Int))), (22, (.int .i64 (k20 : Int)))]) ∧ Chg [] w w19 ∧ Own (Nw w []) M w19 (([g2]) ++ []) ∧ (RT.rs (RT.pr (RT.int .i64) (RT.rs (RT.int .i64)))).val M w19 (.slice pa0 pn0 pc0) a_.2 ([]) ∧ BoxV w19 g2 62 [(.int .i64 a_.1), (.slice pa0 pn0 pc0)])) (J := fun s18 a w19 => ∃ (σ : Nat → Value), a = fr 32 (ovl σ []) ∧ Chg [] w w19 ∧ Own (Nw w []) M w19 (([g2]) ++ []) ∧ (RT.rs (RT.pr (RT.int .i64) (RT.rs (RT.int .i64)))).val M w19 (.slice pa0 pn0 pc0) a_.2 ([]) ∧ BoxV w19 g2 62 [(.int .i64 a_.1), (.slice pa0 pn0 pc0)]) (K := (k_impl_IsAlgebra M w)) ?_ ?_ a_.2 0 () o22 _ _ ?_ hl23 ?_
      · rintro _ s18 a w19 ⟨k20, rfl, hd, σ, rfl, hC, hO, h0, hb2⟩
        have hlt := drop_nil_ge hd
        refine c_seq ?_
        refine c_region ?_
        refine pl_val (.bool (decide ((k20 : Int) < (a_.2.length : Int)))) (y_lss rfl rfl) ?_
        refine c_nil ?_
        refine c_seq ?_
        refine c_condF (congrArg Value.bool (decide_eq_false hlt)) ?_
        refine wp_exit ?_
        exact ⟨rfl, _, fr_ovl 32 trivial, hC, hO, h0, hb2⟩
      · rintro _ x21 xs_ s18 o22 a w19 ⟨k20, rfl, hd, σ, rfl, hC, hO, h0, hb2⟩ hs
        have hlt := drop_cons_lt hd
        have hxk20 := drop_cons_idx hd
        refine c_seq ?_
        refine c_region ?_
        refine pl_val (.bool (decide ((k20 : Int) < (a_.2.length : Int)))) (y_lss rfl rfl) ?_
        refine c_nil ?_
        refine c_seq ?_
        refine c_condT (congrArg Value.bool (decide_eq_true hlt)) ?_
        refine wp_skip ?_
        refine c_seq ?_
        refine wp_block ?_
        refine c_seq ?_
        refine c_region ?_
        obtain ⟨b24, o24, hp24, ha24⟩ := rs_idx Sl60 Sz82 h0 hxk20
        refine pl_val (.pointer (some ⟨b24, o24, none⟩)) (hp24 _ _ _ _ _ _ _ _ _ rfl rfl) ?_
        obtain ⟨v25, hl25, hv25⟩ := at_load Ag82 Sz82 (by intro h; cases h) ha24
        obtain ⟨cs25, rfl, hr25⟩ := hv25
        obtain ⟨cc25x1, cd25x1, rfl, hh25x1, ht25x1⟩ := pr_open hr25
        obtain rfl := int_rel hh25x1
        obtain ⟨a25x2, n25x2, c25x2, rfl, hv25x2⟩ := rs_rel ht25x1
        refine pl_val (.agg #[(.int .i64 x21.1), (.slice a25x2 n25x2 c25x2)]) (y_load rfl (hl25 _ (Chg.refl _ _))) ?_
        obtain ⟨w27, g27, ew27, eg27, hC27, hb27⟩ := new_block w19 [(.int .i64 0), (.slice none 0 0)] 82
        refine pl_val (w' := w27) (.pointer (some ⟨g27, 0, none⟩)) (y_alloc (by rw [ew27, eg27]; kernel_rfl)) ?_
        have h0 := h0.ext hC27
        have hb2 := hb2.chg hC27 (fun h => nomatch h)
        have hv25x2 := hv25x2.ext hC27
        have hC := hC.ext hC27
        have hO := hO.new (X' := [g27]) hC27 (fun q hq => by rw [List.mem_singleton.1 hq, eg27]; exact Nat.le_refl _) (List.nodup_cons.2 ⟨(fun h => nomatch h), List.nodup_nil⟩) (fun q hq => by rw [List.mem_singleton.1 hq]; exact hb27.lt)
        obtain ⟨w28, hst28, hC28, hb28⟩ := box_store (P := Try.prog) hb27 [] [(.int .i64 0), (.slice none 0 0)] [] [(.int .i64 x21.1), (.slice a25x2 n25x2 c25x2)] rfl rfl (by intro u hu; simp only [List.mem_cons, List.not_mem_nil, or_false] at hu; rcases hu with rfl | rfl <;> rfl)
        refine pl_skip (w' := w28) (ys_store rfl rfl (hst28 _ _ rfl Sz82)) ?_
        have h0 := h0.mut hC28 (fun g hg => hO.inM g ((fun _ h => h) g hg)) (fun _ _ h => nomatch h)
        have hb2 := hb2.chg hC28 (fun hg => hO.apart _ ((fun _ h => h) _ hg) (mem_l (List.mem_singleton.2 rfl)))
        have hv25x2 := hv25x2.mut hC28 (fun g hg => hO.inM g ((fun _ h => h) g hg)) (fun _ _ h => nomatch h)
        have hC := hC.step hC28 (fun g hg => hO.inN g ((fun _ h => h) g hg))
        have hO := hO.ext hC28
        have hb28 : BoxV w28 g27 82 [(.int .i64 x21.1), (.slice a25x2 n25x2 c25x2)] := hb28
        refine c_nil ?_
        refine c_seq ?_
        refine c_region ?_
        refine pl_val (.agg #[(.int .i64 x21.1), (.slice a25x2 n25x2 c25x2)]) (y_load rfl ((box_load Ag82 Sz82 hb28 [] [(.int .i64 x21.1), (.slice a25x2 n25x2 c25x2)] [] rfl rfl (fun h => nomatch h)) _ (Chg.refl _ _))) ?_
        refine pl_val (.pointer (some ⟨g2, 0, none⟩)) (y_faddr rfl Fa62x0) ?_
        refine pl_val (.int .i64 a_.1) (y_load rfl ((box_load Ag3 Sz3 hb2 [] [(.int .i64 a_.1)] [(.slice pa0 pn0 pc0)] rfl rfl (fun _ => rfl)) _ (Chg.refl _ _))) ?_
        obtain ⟨r30, hr30, hs⟩ := bind_some hs
        refine pl_call Bd122 rfl (c_impl_isOp (M := M) (x21.1, x21.2) a_.1 hv25x2 hO.fut hr30) ?_
        rintro _ w29 ⟨rfl, hC29⟩
        have h0 := h0.ext hC29
        have hb2 := hb2.chg hC29 (fun h => nomatch h)
        have hv25x2 := hv25x2.ext hC29
        have hb28 := hb28.chg hC29 (fun h => nomatch h)
        have hC := hC.ext hC29
        have hO := hO.ext hC29
        refine pl_val (.bool (!r30)) (y_not rfl) ?_
        refine c_nil ?_
        rcases bif_some hs with ⟨hc31, hs⟩ | ⟨hc31, hs⟩
        · skip
          refine c_condT (congrArg Value.bool hc31) ?_
          refine c_seq ?_
          refine c_region ?_
          refine pl_val (.bool false) (y_assign rfl) ?_
          refine c_nil ?_
          refine wp_ret ?_
          cases hs
          exact ⟨_, fr_ovl 32 ⟨rfl, trivial⟩, hC⟩
        · skip
          refine c_condF (congrArg Value.bool hc31) ?_
          refine wp_skip ?_
          refine c_region ?_
          refine pl_val (.int .i64 (w64 ((k20 : Int) + 1))) (y_add rfl rfl) ?_
          refine pl_val (.int .i64 (w64 ((k20 : Int) + 1))) (y_move rfl) ?_
          refine c_nil ?_
          cases hs
          have hO := hO.drop
          exact ⟨_, rfl, drop_cons_next hd, _, fr_ovl 32 ⟨rfl, rfl, rfl, congrArg (Value.int .i64) (w64_succ hlt (Int.natCast_nonneg _) (rs_max h0)), trivial⟩, hC, hO, h0, hb2⟩
      · skip
        exact ⟨0, rfl, rfl, _, fr_ovl 32 ⟨rfl, rfl, rfl, rfl, trivial⟩, hC, hO, h0, hb2⟩
      · cases o22 with
        | nx _ => exact True.intro
        | rt r_ =>
          have hs := after_rt hs
          intro a1 w1 hK
          cases hs
          exact hK
        | br s18 =>
          have hs := after_br hs
          rintro a1 w19 ⟨σ, rfl, hC, hO, h0, hb2⟩
          refine c_seq ?_
          refine c_region ?_
          refine pl_val (.bool true) (y_assign rfl) ?_
          refine c_nil ?_
          refine wp_ret ?_
          cases hs
          exact ⟨_, fr_ovl 32 ⟨rfl, trivial⟩, hC⟩

def k_impl_isPartition (M : Nat → Prop) (w0 : World) (r : Bool) (a : Act) (w : World) : Prop :=
  ∃ (σ : Nat → Value) , a = fr 34 (ovl σ [(4, (.bool r))]) ∧ Chg [] w0 w
def s_impl_isPartition (n : Int) (p : List Int) : Option (Bool) :=
  (bif ((p.length : Int) != n) then some false else (forC (S := Unit) (R := Bool) (fun k12 s10 =>
  (idx p k12).bind fun x16 =>
  (bif (decide (x16 < 0)) then some (.rt false) else (bif (decide (k12 < x16)) then some (.rt false) else (idx p x16).bind fun x20 =>
  (bif (x20 != x16) then some (.rt false) else some (.nx ()))))) 0 (p.length : Int) ()).bind fun o14 => after o14 (fun r_ => some r_) (fun s10 =>
  some true))
set_option maxHeartbeats 4000000 in
theorem c_impl_isPartition {M : Nat → Prop} {w : World} {pa0 : Option Addr} {pn0 pc0 : Nat} (n : Int) (p : List Int) (h0 : (RT.rs (RT.int .i64)).val M w (.slice pa0 pn0 pc0) p ([])) (hM : ∀ g, w.heap.size ≤ g → M g) {r : Bool} (hs : s_impl_isPartition n p = some r) :
    Gives Try.prog 145 [(.int .i64 n), (.slice pa0 pn0 pc0)] w (fun v w' => v = (.bool r) ∧ Chg [] w w') := by
  refine calls_fr Try.func145 rfl Try.ntmps145 (Nat.le_of_ble_eq_true rfl) ?_
  have hO := Own.start (N := Nw w []) hM Nw.fut
  have hC := Chg.refl [] w
  unfold s_impl_isPartition at hs
  refine wp_mono (Q := KPost (k_impl_isPartition M w r)) ?_ (fun e a w1 h => ?_)
  rotate_left
  · cases e
    case ret =>
      obtain ⟨σ, rfl, hrest⟩ := h
      exact ret1x Try.results145 (res_tmp rfl) ⟨rfl, hrest⟩
    all_goals exact (h : False).elim
  refine c_seq ?_
  refine c_region ?_
  refine pl_val (.bool false) (y_assign rfl) ?_
  refine c_nil ?_
  refine c_seq ?_
  refine c_seq ?_
  refine c_region ?_
  refine pl_val (.slice pa0 pn0 pc0) (y_move rfl) ?_
  refine pl_val (.int .i64 (p.length : Int)) (y_len' Sl22 (rs_len h0) rfl) ?_
  refine pl_val (.int .i64 n) (y_move rfl) ?_
  refine pl_val (.bool ((p.length : Int) != n)) (y_neq rfl rfl) ?_
  refine c_nil ?_
  rcases bif_some hs with ⟨hc2, hs⟩ | ⟨hc2, hs⟩
  · skip
    refine c_condT (congrArg Value.bool hc2) ?_
    refine c_seq ?_
    refine c_region ?_
    refine pl_val (.bool false) (y_assign rfl) ?_
    refine c_nil ?_
    refine wp_ret ?_
    cases hs
    exact ⟨_, fr_ovl 34 ⟨rfl, trivial⟩, hC⟩
  · skip
    refine c_condF (congrArg Value.bool hc2) ?_
    refine wp_skip ?_
    refine c_seq ?_
    refine c_seq ?_
    refine c_region ?_
    refine pl_val (.slice pa0 pn0 pc0) (y_move rfl) ?_
    refine pl_val (.int .i64 (p.length : Int)) (y_len' Sl22 (rs_len h0) rfl) ?_
    refine pl_val (.int .i64 0) (y_move rfl) ?_
    refine c_nil ?_
    obtain ⟨o14, hl15, hs⟩ := bind_some hs
    refine wp_block ?_
    refine wp_forC (id := 0) (p.length : Int) (I := fun k12 s10 a w11 => ∃ (σ : Nat → Value), a = fr 34 (ovl σ [(1, (.slice pa0 pn0 pc0)), (11, (.slice pa0 pn0 pc0)), (12, (.int .i64 (p.length : Int))), (13, (.int .i64 k12))]) ∧ Chg [] w w11 ∧ Own (Nw w []) M w11 ([]) ∧ (RT.rs (RT.int .i64)).val M w11 (.slice pa0 pn0 pc0) p ([])) (J := fun s10 a w11 => ∃ (σ : Nat → Value), a = fr 34 (ovl σ []) ∧ Chg [] w w11 ∧ Own (Nw w []) M w11 ([]) ∧ (RT.rs (RT.int .i64)).val M w11 (.slice pa0 pn0 pc0) p ([])) (K := (k_impl_isPartition M w)) ?_ ?_ 0 () o14 _ _ ?_ hl15 ?_
    · rintro k12 s10 a w11 ⟨σ, rfl, hC, hO, h0⟩ hlt
      refine c_seq ?_
      refine c_region ?_
      refine pl_val (.bool (decide (k12 < (p.length : Int)))) (y_lss rfl rfl) ?_
      refine c_nil ?_
      refine c_seq ?_
      refine c_condF (congrArg Value.bool (decide_eq_false hlt)) ?_
      refine wp_exit ?_
      exact ⟨rfl, _, fr_ovl 34 trivial, hC, hO, h0⟩
    · rintro k12 s10 o14 a w11 ⟨σ, rfl, hC, hO, h0⟩ hlt hw hs
      refine c_seq ?_
      refine c_region ?_
      refine pl_val (.bool (decide (k12 < (p.length : Int)))) (y_lss rfl rfl) ?_
      refine c_nil ?_
      refine c_seq ?_
      refine c_condT (congrArg Value.bool (decide_eq_true hlt)) ?_
      refine wp_skip ?_
      refine c_seq ?_
      refine wp_block ?_
      refine c_seq ?_
      refine c_region ?_
      refine pl_val (.int .i64 k12) (y_move rfl) ?_
      obtain ⟨x16, hx16, hs⟩ := bind_some hs
      obtain ⟨b17, o17, hp17, ha17⟩ := rs_idx Sl22 Sz3 h0 hx16
      refine pl_val (.pointer (some ⟨b17, o17, none⟩)) (hp17 _ _ _ _ _ _ _ _ _ rfl rfl) ?_
      refine pl_val (.int .i64 x16) (y_load rfl ((at_load_int Ag3 Sz3 ha17) _ (Chg.refl _ _))) ?_
      refine pl_val (.int .i64 k12) (y_assign rfl) ?_
      refine pl_val (.int .i64 x16) (y_assign rfl) ?_
      refine c_nil ?_
      refine c_seq ?_
      refine c_region ?_
      refine pl_val (.int .i64 x16) (y_move rfl) ?_
      refine pl_val (.bool (decide (x16 < 0))) (y_lss rfl rfl) ?_
      refine pl_val (.bool (decide (x16 < 0))) (y_move rfl) ?_
      rcases bif_some hs with ⟨hc18, hs⟩ | ⟨hc18, hs⟩
      · skip
        refine pl_not (tg := 20) (by kernel_rfl) (congrArg Value.bool hc18) ?_
        refine pl_not (tg := 20) (by kernel_rfl) (congrArg Value.bool hc18) ?_
        refine pl_not (tg := 20) (by kernel_rfl) (congrArg Value.bool hc18) ?_
        refine pl_val (.bool true) (y_pick_t (congrArg Value.bool hc18) rfl) ?_
        refine pl_val (.bool true) (y_move rfl) ?_
        refine pl_not (tg := 25) (by kernel_rfl) (by rfl) ?_
        refine pl_not (tg := 25) (by kernel_rfl) (by rfl) ?_
        refine pl_not (tg := 25) (by kernel_rfl) (by rfl) ?_
        refine pl_not (tg := 25) (by kernel_rfl) (by rfl) ?_
        refine pl_not (tg := 25) (by kernel_rfl) (by rfl) ?_
        refine pl_not (tg := 25) (by kernel_rfl) (by rfl) ?_
        refine pl_val (.bool true) (y_pick_t (by rfl) rfl) ?_
        refine c_nil ?_
        refine c_condT (by rfl) ?_
        refine c_seq ?_
        refine c_region ?_
        refine pl_val (.bool false) (y_assign rfl) ?_
        refine c_nil ?_
        refine wp_ret ?_
        cases hs
        exact ⟨_, fr_ovl 34 ⟨rfl, trivial⟩, hC⟩
      · skip
        refine pl_yes (.int .i64 x16) (tg := 20) (by kernel_rfl) (congrArg Value.bool hc18) (y_move rfl) ?_
        refine pl_yes (.int .i64 k12) (tg := 20) (by kernel_rfl) (congrArg Value.bool hc18) (y_move rfl) ?_
        refine pl_yes (.bool (decide (k12 < x16))) (tg := 20) (by kernel_rfl) (congrArg Value.bool hc18) (y_gtr rfl rfl) ?_
        refine pl_val (.bool (decide (k12 < x16))) (y_pick_f (congrArg Value.bool hc18) rfl) ?_
        refine pl_val (.bool (decide (k12 < x16))) (y_move rfl) ?_
        rcases bif_some hs with ⟨hc19, hs⟩ | ⟨hc19, hs⟩
        · skip
          refine pl_not (tg := 25) (by kernel_rfl) (congrArg Value.bool hc19) ?_
          refine pl_not (tg := 25) (by kernel_rfl) (congrArg Value.bool hc19) ?_
          refine pl_not (tg := 25) (by kernel_rfl) (congrArg Value.bool hc19) ?_
          refine pl_not (tg := 25) (by kernel_rfl) (congrArg Value.bool hc19) ?_
          refine pl_not (tg := 25) (by kernel_rfl) (congrArg Value.bool hc19) ?_
          refine pl_not (tg := 25) (by kernel_rfl) (congrArg Value.bool hc19) ?_
          refine pl_val (.bool true) (y_pick_t (congrArg Value.bool hc19) rfl) ?_
          refine c_nil ?_
          refine c_condT (by rfl) ?_
          refine c_seq ?_
          refine c_region ?_
          refine pl_val (.bool false) (y_assign rfl) ?_
          refine c_nil ?_
          refine wp_ret ?_
          cases hs
          exact ⟨_, fr_ovl 34 ⟨rfl, trivial⟩, hC⟩
        · skip
          refine pl_yes (.slice pa0 pn0 pc0) (tg := 25) (by kernel_rfl) (congrArg Value.bool hc19) (y_move rfl) ?_
          refine pl_yes (.int .i64 x16) (tg := 25) (by kernel_rfl) (congrArg Value.bool hc19) (y_move rfl) ?_
          obtain ⟨x20, hx20, hs⟩ := bind_some hs
          obtain ⟨b21, o21, hp21, ha21⟩ := rs_idx Sl22 Sz3 h0 hx20
          refine pl_yes (.pointer (some ⟨b21, o21, none⟩)) (tg := 25) (by kernel_rfl) (congrArg Value.bool hc19) (hp21 _ _ _ _ _ _ _ _ _ rfl rfl) ?_
          refine pl_yes (.int .i64 x20) (tg := 25) (by kernel_rfl) (congrArg Value.bool hc19) (y_load rfl ((at_load_int Ag3 Sz3 ha21) _ (Chg.refl _ _))) ?_
          refine pl_yes (.int .i64 x16) (tg := 25) (by kernel_rfl) (congrArg Value.bool hc19) (y_move rfl) ?_
          refine pl_yes (.bool (x20 != x16)) (tg := 25) (by kernel_rfl) (congrArg Value.bool hc19) (y_neq rfl rfl) ?_
          refine pl_val (.bool (x20 != x16)) (y_pick_f (congrArg Value.bool hc19) rfl) ?_
          refine c_nil ?_
          rcases bif_some hs with ⟨hc22, hs⟩ | ⟨hc22, hs⟩
          · skip
            refine c_condT (congrArg Value.bool hc22) ?_
            refine c_seq ?_
            refine c_region ?_
            refine pl_val (.bool false) (y_assign rfl) ?_
            refine c_nil ?_
            refine wp_ret ?_
            cases hs
            exact ⟨_, fr_ovl 34 ⟨rfl, trivial⟩, hC⟩
          · skip
            refine c_condF (congrArg Value.bool hc22) ?_
            refine wp_skip ?_
            refine c_region ?_
            refine pl_val (.int .i64 (w64 (k12 + 1))) (y_add rfl rfl) ?_
            refine pl_val (.int .i64 (w64 (k12 + 1))) (y_move rfl) ?_
            refine c_nil ?_
            cases hs
            exact ⟨_, fr_ovl 34 ⟨rfl, rfl, rfl, congrArg (Value.int .i64) hw, trivial⟩, hC, hO, h0⟩
    · skip
      exact ⟨_, fr_ovl 34 ⟨rfl, rfl, rfl, rfl, trivial⟩, hC, hO, h0⟩
    · cases o14 with
      | nx _ => exact True.intro
      | rt r_ =>
        have hs := after_rt hs
        intro a1 w1 hK
        cases hs
        exact hK
      | br s10 =>
        have hs := after_br hs
        rintro a1 w11 ⟨σ, rfl, hC, hO, h0⟩
        refine c_seq ?_
        refine c_region ?_
        refine pl_val (.bool true) (y_assign rfl) ?_
        refine c_nil ?_
        refine wp_ret ?_
        cases hs
        exact ⟨_, fr_ovl 34 ⟨rfl, trivial⟩, hC⟩

def k_impl_clone (M : Nat → Prop) (w0 : World) (r : (List Int)) (a : Act) (w : World) : Prop :=
  ∃ (σ : Nat → Value) (ra0 : Option Addr) (rn0 rc0 : Nat) (rf0 : List Nat), a = fr 6 (ovl σ [(2, (.slice ra0 rn0 rc0))]) ∧ Chg [] w0 w ∧ (RT.os 3 (RT.int .i64)).val M w (.slice ra0 rn0 rc0) r rf0 ∧ Own (Nw w0 []) (fun _ => True) w (rf0 ++ ([]))
def s_impl_clone (list : List Int) : Option ((List Int)) :=
  (app ([]) list).bind fun y5 =>
  some y5
set_option maxHeartbeats 4000000 in
theorem c_impl_clone {M : Nat → Prop} {w : World} {pa0 : Option Addr} {pn0 pc0 : Nat} (list : List Int) (h0 : (RT.rs (RT.int .i64)).val M w (.slice pa0 pn0 pc0) list ([])) (hM : ∀ g, w.heap.size ≤ g → M g) {r : (List Int)} (hs : s_impl_clone list = some r) :
    Gives Try.prog 170 [(.slice pa0 pn0 pc0)] w (fun v w' => ∃ (ra0 : Option Addr) (rn0 rc0 : Nat) (rf0 : List Nat), v = (.slice ra0 rn0 rc0) ∧ Chg [] w w' ∧ (RT.os 3 (RT.int .i64)).val M w' (.slice ra0 rn0 rc0) r rf0 ∧ Own (Nw w []) (fun _ => True) w' (rf0 ++ ([]))) := by
  refine calls_fr Try.func170 rfl Try.ntmps170 (Nat.le_of_ble_eq_true rfl) ?_
  have hO := Own.start (N := Nw w []) hM Nw.fut
  have hC := Chg.refl [] w
  unfold s_impl_clone at hs
  refine wp_mono (Q := KPost (k_impl_clone M w r)) ?_ (fun e a w1 h => ?_)
  rotate_left
  · cases e
    case ret =>
      obtain ⟨σ, ra0, rn0, rc0, rf0, rfl, hrest⟩ := h
      exact ret1x Try.results170 (res_tmp rfl) ⟨ra0, rn0, rc0, rf0, rfl, hrest⟩
    all_goals exact (h : False).elim
  refine c_seq ?_
  refine c_region ?_
  refine pl_val (.slice none 0 0) (y_assign rfl) ?_
  refine c_nil ?_
  refine c_seq ?_
  refine c_region ?_
  obtain ⟨w2, g2, ew2, eg2, hC2, hb2⟩ := new_block w [] 3
  refine pl_val (w' := w2) (.slice (some ⟨g2, 0, none⟩) 0 0) (y_bslice rfl (by rw [ew2, eg2]; kernel_rfl)) ?_
  have h0 := h0.ext hC2
  have hC := hC.ext hC2
  have hO := hO.new (X' := [g2]) hC2 (fun q hq => by rw [List.mem_singleton.1 hq, eg2]; exact Nat.le_refl _) (List.nodup_cons.2 ⟨(fun h => nomatch h), List.nodup_nil⟩) (fun q hq => by rw [List.mem_singleton.1 hq]; exact hb2.lt)
  have hv2 := os_of_box (r := (RT.int .i64)) (M := M) (css := []) (fps := []) (xs := ([] : List Int)) hb2 trivial (Nat.zero_le _) (List.nodup_cons.2 ⟨(fun h => nomatch h), List.nodup_nil⟩)
  have hv2 : (RT.os 3 (RT.int .i64)).val M w2 (.slice (some ⟨g2, 0, none⟩) 0 0) [] [g2] := hv2
  refine pl_val (.slice pa0 pn0 pc0) (y_move rfl) ?_
  obtain ⟨y5, hy5, hs⟩ := bind_some hs
  obtain ⟨a4, n4, c4, w4, f4, hr4, hC4, hf4, hv4⟩ := app_rs Rw22 hy5 hv2 h0 hO.inM
  have hG4 := os_block hv2
  refine pl_val (w' := w4) (.slice a4 n4 c4) (y_append rfl rfl (hr4 _)) ?_
  have h0 := h0.mut hC4 (fun g hg => hO.inM g (hG4 g hg)) (fun _ _ h => nomatch h)
  have hC := hC.step hC4 (fun g hg => hO.inN g (hG4 g hg))
  have hO := hO.grow hC4 hf4 (os_nodup hv4) hv4.fpl
  refine pl_val (.slice a4 n4 c4) (y_assign rfl) ?_
  refine c_nil ?_
  refine wp_ret ?_
  cases hs
  exact ⟨_, a4, n4, c4, f4, fr_ovl 6 ⟨rfl, trivial⟩, hC, hv4, hO.top⟩

def k_impl_unite (M : Nat → Prop) (w0 : World) (qa0 : Option Addr) (qn0 qc0 : Nat) (qf0 : List Nat) (r : Bool × (List Int)) (a : Act) (w : World) : Prop :=
  ∃ (σ : Nat → Value) (rfi0 : List Nat), a = fr 40 (ovl σ [(6, (.bool r.1))]) ∧ Chg (qf0 ++ ([])) w0 w ∧ (RT.os 3 (RT.int .i64)).val M w (.slice qa0 qn0 qc0) r.2 rfi0 ∧ Own (Nw w0 (qf0 ++ ([]))) (fun _ => True) w (rfi0 ++ ([]))
def s_impl_unite (p : List Int) (x_ : Int) (y : Int) : Option (Bool × (List Int)) :=
  (idx p x_).bind fun x8 =>
  (idx p y).bind fun x10 =>
  (bif (x8 == x10) then some (false, p) else (bif (decide (x10 < x8)) then some (x10, x8) else some (x8, x10)).bind fun s13 =>
  (forC (S := (List Int)) (R := Bool × (List Int)) (fun k32 s30 =>
  (idx s30 k32).bind fun x38 =>
  (bif (x38 == s13.2) then (idx s30 k32).bind fun x41 =>
  some (.nx (List.set s30 (Int.toNat k32) s13.1)) else some (.nx s30))) 0 (p.length : Int) p).bind fun o34 => after o34 (fun r_ => some r_) (fun s30 =>
  some (true, s30)))
set_option maxHeartbeats 4000000 in
theorem c_impl_unite {M : Nat → Prop} {w : World} {pa0 : Option Addr} {pn0 pc0 : Nat} {pf0 : List Nat} (p : List Int) (x_ : Int) (y : Int) (h0 : (RT.os 3 (RT.int .i64)).val M w (.slice pa0 pn0 pc0) p pf0) (hI : Own (Nw w (pf0 ++ ([]))) M w (pf0 ++ ([]))) (hM : ∀ g, w.heap.size ≤ g → M g) {r : Bool × (List Int)} (hs : s_impl_unite p x_ y = some r) :
    Gives Try.prog 195 [(.slice pa0 pn0 pc0), (.int .i64 x_), (.int .i64 y)] w (fun v w' => ∃ (rfi0 : List Nat), v = (.bool r.1) ∧ Chg (pf0 ++ ([])) w w' ∧ (RT.os 3 (RT.int .i64)).val M w' (.slice pa0 pn0 pc0) r.2 rfi0 ∧ Own (Nw w (pf0 ++ ([]))) (fun _ => True) w' (rfi0 ++ ([]))) := by
  refine calls_fr Try.func195 rfl Try.ntmps195 (Nat.le_of_ble_eq_true rfl) ?_
  have hO := hI
  have hC := Chg.refl (pf0 ++ ([])) w
  unfold s_impl_unite at hs
  refine wp_mono (Q := KPost (k_impl_unite M w pa0 pn0 pc0 pf0 r)) ?_ (fun e a w1 h => ?_)
  rotate_left
  · cases e
    case ret =>
      obtain ⟨σ, rfi0, rfl, hrest⟩ := h
      exact ret1x Try.results195 (res_tmp rfl) ⟨rfi0, rfl, hrest⟩
    all_goals exact (h : False).elim
  refine c_seq ?_
  refine c_region ?_
  refine pl_val (.bool false) (y_assign rfl) ?_
  refine c_nil ?_
  refine c_seq ?_
  refine x_start [] Mx rfl ?_
  have hCw7 := Chg.drew w
  generalize World.drew w = w7 at hCw7 ⊢
  have h0 := h0.ext hCw7
  have hC := hC.ext hCw7
  have hO := hO.ext hCw7
  have hS := Chg.refl [] w7
  refine x_p 0 (.slice pa0 pn0 pc0) rfl (by kernel_rfl)  (fun _ => y_move rfl) (fun _ => hS) ?_
  refine x_p 1 (.int .i64 x_) rfl (by kernel_rfl)  (fun _ => y_move rfl) (fun _ => hS) ?_
  obtain ⟨x8, hx8, hs⟩ := bind_some hs
  obtain ⟨g9, f9, hg9, hk9, hp9, ha9, hf9⟩ := os_idx Sl22 Sz3 h0 hx8
  refine x_p 2 (.pointer (some ⟨g9, 0 + Int.toNat x_ * 1, none⟩)) rfl (by kernel_rfl)  (fun _ => hp9 _ _ _ _ _ _ _ _ _ rfl rfl) (fun _ => hS) ?_
  refine x_l 3 (.int .i64 x8) rfl (by kernel_rfl)  (fun w' hw' => y_load rfl ((at_load_int Ag3 Sz3 ha9) w' hw')) hS ?_
  refine x_p 4 (.slice pa0 pn0 pc0) rfl (by kernel_rfl)  (fun _ => y_move rfl) (fun _ => hS) ?_
  refine x_p 5 (.int .i64 y) rfl (by kernel_rfl)  (fun _ => y_move rfl) (fun _ => hS) ?_
  obtain ⟨x10, hx10, hs⟩ := bind_some hs
  obtain ⟨g11, f11, hg11, hk11, hp11, ha11, hf11⟩ := os_idx Sl22 Sz3 h0 hx10
  refine x_p 6 (.pointer (some ⟨g11, 0 + Int.toNat y * 1, none⟩)) rfl (by kernel_rfl)  (fun _ => hp11 _ _ _ _ _ _ _ _ _ rfl rfl) (fun _ => hS) ?_
  refine x_l 7 (.int .i64 x10) rfl (by kernel_rfl)  (fun w' hw' => y_load rfl ((at_load_int Ag3 Sz3 ha11) w' hw')) hS ?_
  refine x_p 8 (.int .i64 x8) rfl (by kernel_rfl)  (fun _ => y_assign rfl) (fun _ => hS) ?_
  refine x_p 9 (.int .i64 x10) rfl (by kernel_rfl)  (fun _ => y_assign rfl) (fun _ => hS) ?_
  refine x_end (by kernel_rfl) ?_
  clear hS
  refine c_seq ?_
  refine c_seq ?_
  refine c_region ?_
  refine pl_val (.int .i64 x8) (y_move rfl) ?_
  refine pl_val (.int .i64 x10) (y_move rfl) ?_
  refine pl_val (.bool (x8 == x10)) (y_eql rfl rfl) ?_
  refine c_nil ?_
  rcases bif_some hs with ⟨hc12, hs⟩ | ⟨hc12, hs⟩
  · skip
    refine c_condT (congrArg Value.bool hc12) ?_
    refine c_seq ?_
    refine c_region ?_
    refine pl_val (.bool false) (y_assign rfl) ?_
    refine c_nil ?_
    refine wp_ret ?_
    cases hs
    exact ⟨_, pf0, fr_ovl 40 ⟨rfl, trivial⟩, hC, h0, hO.top⟩
  · skip
    refine c_condF (congrArg Value.bool hc12) ?_
    refine wp_skip ?_
    refine c_seq ?_
    refine c_seq ?_
    refine c_region ?_
    refine pl_val (.int .i64 x8) (y_move rfl) ?_
    refine pl_val (.int .i64 x10) (y_move rfl) ?_
    refine pl_val (.bool (decide (x10 < x8))) (y_gtr rfl rfl) ?_
    refine c_nil ?_
    obtain ⟨s13, hm15, hs⟩ := bind_some hs
    refine c_mid (I := fun a w14 => ∃ (σ : Nat → Value), a = fr 40 (ovl σ [(0, (.slice pa0 pn0 pc0)), (1, (.int .i64 s13.1)), (2, (.int .i64 s13.2))]) ∧ Chg (pf0 ++ ([])) w w14 ∧ Own (Nw w (pf0 ++ ([]))) M w14 (pf0 ++ []) ∧ (RT.os 3 (RT.int .i64)).val M w14 (.slice pa0 pn0 pc0) p pf0) ?_ ?_
    · replace hs := hm15
      rcases bif_some hs with ⟨hc16, hs⟩ | ⟨hc16, hs⟩
      · skip
        refine c_condT (congrArg Value.bool hc16) ?_
        refine c_region ?_
        refine pl_val (.int .i64 x10) (y_move rfl) ?_
        refine pl_val (.int .i64 x8) (y_move rfl) ?_
        refine pl_val (.int .i64 x10) (y_assign rfl) ?_
        refine pl_val (.int .i64 x8) (y_assign rfl) ?_
        refine c_nil ?_
        cases hs
        exact ⟨_, fr_ovl 40 ⟨rfl, rfl, rfl, trivial⟩, hC, hO, h0⟩
      · skip
        refine c_condF (congrArg Value.bool hc16) ?_
        refine wp_skip ?_
        cases hs
        exact ⟨_, fr_ovl 40 ⟨rfl, rfl, rfl, trivial⟩, hC, hO, h0⟩
    · rintro a1 w14 ⟨σ, rfl, hC, hO, h0⟩
      refine c_seq ?_
      refine c_seq ?_
      refine c_region ?_
      refine pl_val (.slice pa0 pn0 pc0) (y_move rfl) ?_
      refine pl_val (.int .i64 (p.length : Int)) (y_len' Sl22 (os_len h0) rfl) ?_
      refine pl_val (.int .i64 0) (y_move rfl) ?_
      refine c_nil ?_
      obtain ⟨o34, hl35, hs⟩ := bind_some hs
      refine wp_block ?_
      refine wp_forC (id := 0) (p.length : Int) (I := fun k32 s30 a w31 => ∃ (σ : Nat → Value) (f36 : List Nat), a = fr 40 (ovl σ [(0, (.slice pa0 pn0 pc0)), (1, (.int .i64 s13.1)), (2, (.int .i64 s13.2)), (25, (.int .i64 (p.length : Int))), (26, (.int .i64 k32))]) ∧ Chg (pf0 ++ ([])) w w31 ∧ Own (Nw w (pf0 ++ ([]))) M w31 (f36 ++ []) ∧ (RT.os 3 (RT.int .i64)).val M w31 (.slice pa0 pn0 pc0) s30 f36) (J := fun s30 a w31 => ∃ (σ : Nat → Value) (f37 : List Nat), a = fr 40 (ovl σ []) ∧ Chg (pf0 ++ ([])) w w31 ∧ Own (Nw w (pf0 ++ ([]))) M w31 (f37 ++ []) ∧ (RT.os 3 (RT.int .i64)).val M w31 (.slice pa0 pn0 pc0) s30 f37) (K := (k_impl_unite M w pa0 pn0 pc0 pf0)) ?_ ?_ 0 p o34 _ _ ?_ hl35 ?_
      · rintro k32 s30 a w31 ⟨σ, f36, rfl, hC, hO, hv36⟩ hlt
        refine c_seq ?_
        refine c_region ?_
        refine pl_val (.bool (decide (k32 < (p.length : Int)))) (y_lss rfl rfl) ?_
        refine c_nil ?_
        refine c_seq ?_
        refine c_condF (congrArg Value.bool (decide_eq_false hlt)) ?_
        refine wp_exit ?_
        exact ⟨rfl, _, f36, fr_ovl 40 trivial, hC, hO, hv36⟩
      · rintro k32 s30 o34 a w31 ⟨σ, f36, rfl, hC, hO, hv36⟩ hlt hw hs
        refine c_seq ?_
        refine c_region ?_
        refine pl_val (.bool (decide (k32 < (p.length : Int)))) (y_lss rfl rfl) ?_
        refine c_nil ?_
        refine c_seq ?_
        refine c_condT (congrArg Value.bool (decide_eq_true hlt)) ?_
        refine wp_skip ?_
        refine c_seq ?_
        refine wp_block ?_
        refine c_seq ?_
        refine c_region ?_
        refine pl_val (.int .i64 k32) (y_move rfl) ?_
        refine pl_val (.int .i64 k32) (y_assign rfl) ?_
        refine c_nil ?_
        refine c_seq ?_
        refine c_region ?_
        refine pl_val (.slice pa0 pn0 pc0) (y_move rfl) ?_
        refine pl_val (.int .i64 k32) (y_move rfl) ?_
        obtain ⟨x38, hx38, hs⟩ := bind_some hs
        obtain ⟨g39, f39, hg39, hk39, hp39, ha39, hf39⟩ := os_idx Sl22 Sz3 hv36 hx38
        refine pl_val (.pointer (some ⟨g39, 0 + Int.toNat k32 * 1, none⟩)) (hp39 _ _ _ _ _ _ _ _ _ rfl rfl) ?_
        refine pl_val (.int .i64 x38) (y_load rfl ((at_load_int Ag3 Sz3 ha39) _ (Chg.refl _ _))) ?_
        refine pl_val (.int .i64 s13.2) (y_move rfl) ?_
        refine pl_val (.bool (x38 == s13.2)) (y_eql rfl rfl) ?_
        refine c_nil ?_
        rcases bif_some hs with ⟨hc40, hs⟩ | ⟨hc40, hs⟩
        · skip
          refine c_condT (congrArg Value.bool hc40) ?_
          refine c_region ?_
          refine pl_val (.slice pa0 pn0 pc0) (y_move rfl) ?_
          refine pl_val (.int .i64 k32) (y_move rfl) ?_
          refine pl_val (.int .i64 s13.1) (y_move rfl) ?_
          obtain ⟨x41, hx41, hs⟩ := bind_some hs
          obtain ⟨g42, f42, hg42, hk42, hp42, ha42, hf42⟩ := os_idx Sl22 Sz3 hv36 hx41
          refine pl_val (.pointer (some ⟨g42, 0 + Int.toNat k32 * 1, none⟩)) (hp42 _ _ _ _ _ _ _ _ _ rfl rfl) ?_
          obtain ⟨w43, f43, hst43, hC43, hf43, hv43⟩ := os_store (P := Try.prog) (c' := [(.int .i64 s13.1)]) hg42 hv36 hk42 (fun g hg => hO.inM g (os_block hv36 g (by simpa using hg))) ⟨rfl, rfl⟩ List.nodup_nil (fun _ h => nomatch h) (fun _ h => .inl h)
          have hG43 : ∀ q ∈ [g42], q ∈ f36 := fun q hq => os_block hv36 q (by rw [hg42]; exact hq)
          refine pl_skip (w' := w43) (ys_store rfl rfl (hst43 _ _ rfl Sz3)) ?_
          have hC := hC.step hC43 (fun g hg => hO.inN g (hG43 g hg))
          have hO := hO.grow hC43 (fun q hq => .inl ((hf43 q hq).resolve_right (fun h => nomatch h))) (os_nodup hv43) hv43.fpl
          refine c_nil ?_
          refine c_region ?_
          refine pl_val (.int .i64 (w64 (k32 + 1))) (y_add rfl rfl) ?_
          refine pl_val (.int .i64 (w64 (k32 + 1))) (y_move rfl) ?_
          refine c_nil ?_
          cases hs
          exact ⟨_, f43, fr_ovl 40 ⟨rfl, rfl, rfl, rfl, congrArg (Value.int .i64) hw, trivial⟩, hC, hO, hv43⟩
        · skip
          refine c_condF (congrArg Value.bool hc40) ?_
          refine wp_skip ?_
          refine c_region ?_
          refine pl_val (.int .i64 (w64 (k32 + 1))) (y_add rfl rfl) ?_
          refine pl_val (.int .i64 (w64 (k32 + 1))) (y_move rfl) ?_
          refine c_nil ?_
          cases hs
          exact ⟨_, f36, fr_ovl 40 ⟨rfl, rfl, rfl, rfl, congrArg (Value.int .i64) hw, trivial⟩, hC, hO, hv36⟩
      · skip
        exact ⟨_, pf0, fr_ovl 40 ⟨rfl, rfl, rfl, rfl, rfl, trivial⟩, hC, hO, h0⟩
      · cases o34 with
        | nx _ => exact True.intro
        | rt r_ =>
          have hs := after_rt hs
          intro a1 w1 hK
          cases hs
          exact hK
        | br s30 =>
          have hs := after_br hs
          rintro a1 w31 ⟨σ, f37, rfl, hC, hO, hv37⟩
          refine c_seq ?_
          refine c_region ?_
          refine pl_val (.bool true) (y_assign rfl) ?_
          refine c_nil ?_
          refine wp_ret ?_
          cases hs
          exact ⟨_, f37, fr_ovl 40 ⟨rfl, trivial⟩, hC, hv37, hO.top⟩

theorem Bd195 : Bodied Try.prog 195 := bodied Try.func195 (by kernel_rfl) rfl

def k_impl_closePartition (M : Nat → Prop) (w0 : World) (qa0 : Option Addr) (qn0 qc0 : Nat) (qf0 : List Nat) (r : Bool × (List Int)) (a : Act) (w : World) : Prop :=
  ∃ (σ : Nat → Value) (rfi0 : List Nat), a = fr 66 (ovl σ [(4, (.bool r.1))]) ∧ Chg (qf0 ++ ([])) w0 w ∧ (RT.os 3 (RT.int .i64)).val M w (.slice qa0 qn0 qc0) r.2 rfi0 ∧ Own (Nw w0 (qf0 ++ ([]))) (fun _ => True) w (rfi0 ++ ([]))
def s_impl_closePartition (a_ : Int × (List (Int × (List Int)))) (p : List Int) : Option (Bool × (List Int)) :=
  (iter (S := Bool × Bool × (List Int)) (R := Bool × (List Int)) (fun s1135 =>
  (bif s1135.2.1 then (forR (S := Bool × Bool × (List Int)) (R := Bool × (List Int)) (fun _ x1518 s1515 =>
  (forC (S := Bool × Bool × Int × (List Int)) (R := Bool × (List Int)) (fun k1645 s1643 =>
  (forC (S := Bool × Bool × (List Int)) (R := Bool × (List Int)) (fun k1686 s1684 =>
  (idx x1518.2 k1686).bind fun x1692 =>
  (nz s1643.2.2.1).bind fun u1698 =>
  (nz a_.1).bind fun u1699 =>
  (idx s1684.2.2 (Int.tmod (w64 (Int.tdiv k1686 s1643.2.2.1)) a_.1)).bind fun x1701 =>
  (idx x1518.2 (w64 (k1686 + (w64 ((w64 (x1701 - (Int.tmod (w64 (Int.tdiv k1686 s1643.2.2.1)) a_.1))) * s1643.2.2.1))))).bind fun x1703 =>
  (s_impl_unite s1684.2.2 x1692 x1703).bind fun r1706 =>
  (bif r1706.1 then some (.nx (true, true, r1706.2)) else some (.nx (s1684.1, s1684.2.1, r1706.2)))) 0 (x1518.2.length : Int) (s1643.1, s1643.2.1, s1643.2.2.2)).bind fun o1688 => after o1688 (fun r_ => some (.rt r_)) (fun s1684 =>
  some (.nx (s1684.1, s1684.2.1, w64 (s1643.2.2.1 * a_.1), s1684.2.2)))) 0 x1518.1 (s1515.1, s1515.2.1, 1, s1515.2.2)).bind fun o1647 => after o1647 (fun r_ => some (.rt r_)) (fun s1643 =>
  some (.nx (s1643.1, s1643.2.1, s1643.2.2.2)))) 0 a_.2 (s1135.1, false, s1135.2.2)).bind fun o1519 => after o1519 (fun r_ => some (.rt r_)) (fun s1515 =>
  some (.nx (s1515.1, s1515.2.1, s1515.2.2))) else some (.br (s1135.1, s1135.2.1, s1135.2.2)))) FU (false, true, p)).bind fun o1139 => after o1139 (fun r_ => some r_) (fun s1135 =>
  some (s1135.1, s1135.2.2))
set_option maxHeartbeats 4000000 in
theorem c_impl_closePartition {M : Nat → Prop} {w : World} {pa0 : Option Addr} {pn0 pc0 : Nat} {pa1 : Option Addr} {pn1 pc1 : Nat} {pf1 : List Nat} (a_ : Int × (List (Int × (List Int)))) (p : List Int) (h0 : (RT.rs (RT.pr (RT.int .i64) (RT.rs (RT.int .i64)))).val M w (.slice pa0 pn0 pc0) a_.2 ([])) (h1 : (RT.os 3 (RT.int .i64)).val M w (.slice pa1 pn1 pc1) p pf1) (hI : Own (Nw w (pf1 ++ ([]))) M w (pf1 ++ ([]))) (hM : ∀ g, w.heap.size ≤ g → M g) {r : Bool × (List Int)} (hs : s_impl_closePartition a_ p = some r) :
    Gives Try.prog 183 [(.agg #[(.int .i64 a_.1), (.slice pa0 pn0 pc0)]), (.slice pa1 pn1 pc1)] w (fun v w' => ∃ (rfi0 : List Nat), v = (.bool r.1) ∧ Chg (pf1 ++ ([])) w w' ∧ (RT.os 3 (RT.int .i64)).val M w' (.slice pa1 pn1 pc1) r.2 rfi0 ∧ Own (Nw w (pf1 ++ ([]))) (fun _ => True) w' (rfi0 ++ ([]))) := by
  refine calls_fr Try.func183 rfl Try.ntmps183 (Nat.le_of_ble_eq_true rfl) ?_
  have hO := hI
  have hC := Chg.refl (pf1 ++ ([])) w
  unfold s_impl_closePartition at hs
  refine wp_mono (Q := KPost (k_impl_closePartition M w pa1 pn1 pc1 pf1 r)) ?_ (fun e a w1 h => ?_)
  rotate_left
  · cases e
    case ret =>
      obtain ⟨σ, rfi0, rfl, hrest⟩ := h
      exact ret1x Try.results183 (res_tmp rfl) ⟨rfi0, rfl, hrest⟩
    all_goals exact (h : False).elim
  refine c_seq ?_
  refine c_region ?_
  obtain ⟨w3, g3, ew3, eg3, hC3, hb3⟩ := new_block w [(.int .i64 a_.1), (.slice pa0 pn0 pc0)] 62
  refine pl_val (w' := w3) (.pointer (some ⟨g3, 0, none⟩)) (y_box rfl (by rw [ew3, eg3]; kernel_rfl)) ?_
  have h0 := h0.ext hC3
  have h1 := h1.ext hC3
  have hC := hC.ext hC3
  have hO := hO.new (X' := [g3]) hC3 (fun q hq => by rw [List.mem_singleton.1 hq, eg3]; exact Nat.le_refl _) (List.nodup_cons.2 ⟨(fun h => nomatch h), List.nodup_nil⟩) (fun q hq => by rw [List.mem_singleton.1 hq]; exact hb3.lt)
  refine pl_val (.bool false) (y_assign rfl) ?_
  refine c_nil ?_
  refine c_seq ?_
  refine c_region ?_
  refine pl_val (.bool false) (y_assign rfl) ?_
  refine c_nil ?_
  refine c_seq ?_
  refine c_seq ?_
  refine c_region ?_
  refine pl_val (.bool true) (y_assign rfl) ?_
  refine c_nil ?_
  obtain ⟨o1139, hl1140, hs⟩ := bind_some hs
  refine wp_block ?_
  refine wp_iter (id := 0) (I := fun s1135 a w1136 => ∃ (σ : Nat → Value) (f1141 : List Nat), a = fr 66 (ovl σ [(1, (.slice pa1 pn1 pc1)), (2, (.pointer (some ⟨g3, 0, none⟩))), (5, (.bool s1135.1)), (6, (.bool s1135.2.1))]) ∧ Chg (pf1 ++ ([])) w w1136 ∧ Own (Nw w (pf1 ++ ([]))) M w1136 (([g3]) ++ (f1141 ++ [])) ∧ (RT.rs (RT.pr (RT.int .i64) (RT.rs (RT.int .i64)))).val M w1136 (.slice pa0 pn0 pc0) a_.2 ([]) ∧ (RT.os 3 (RT.int .i64)).val M w1136 (.slice pa1 pn1 pc1) s1135.2.2 f1141 ∧ BoxV w1136 g3 62 [(.int .i64 a_.1), (.slice pa0 pn0 pc0)]) (J := fun s1135 a w1136 => ∃ (σ : Nat → Value) (f1142 : List Nat), a = fr 66 (ovl σ [(5, (.bool s1135.1))]) ∧ Chg (pf1 ++ ([])) w w1136 ∧ Own (Nw w (pf1 ++ ([]))) M w1136 (([g3]) ++ (f1142 ++ [])) ∧ (RT.rs (RT.pr (RT.int .i64) (RT.rs (RT.int .i64)))).val M w1136 (.slice pa0 pn0 pc0) a_.2 ([]) ∧ (RT.os 3 (RT.int .i64)).val M w1136 (.slice pa1 pn1 pc1) s1135.2.2 f1142 ∧ BoxV w1136 g3 62 [(.int .i64 a_.1), (.slice pa0 pn0 pc0)]) (K := (k_impl_closePartition M w pa1 pn1 pc1 pf1)) ?_ FU (false, true, p) o1139 _ _ ?_ hl1140 ?_
  · rintro s1135 o1139 a w1136 ⟨σ, f1141, rfl, hC, hO, h0, hv1141, hb3⟩ hs
    refine c_seq ?_
    refine c_seq ?_
    refine c_region ?_
    refine pl_val (.bool s1135.2.1) (y_move rfl) ?_
    refine c_nil ?_
    rcases bif_some hs with ⟨hc1143, hs⟩ | ⟨hc1143, hs⟩
    · skip
      refine c_condT (congrArg Value.bool hc1143) ?_
      refine wp_skip ?_
      refine wp_block ?_
      refine c_seq ?_
      refine c_region ?_
      refine pl_val (.bool false) (y_assign rfl) ?_
      refine c_nil ?_
      refine c_seq ?_
      refine c_region ?_
      refine pl_val (.pointer (some ⟨g3, 1, none⟩)) (y_faddr rfl Fa62x1) ?_
      refine pl_val (.slice pa0 pn0 pc0) (y_load rfl ((box_load Ag60 Sz60 hb3 [(.int .i64 a_.1)] [(.slice pa0 pn0 pc0)] [] rfl rfl (fun _ => rfl)) _ (Chg.refl _ _))) ?_
      refine pl_val (.int .i64 (a_.2.length : Int)) (y_len' Sl60 (rs_len h0) rfl) ?_
      refine pl_val (.int .i64 0) (y_move rfl) ?_
      refine c_nil ?_
      obtain ⟨o1519, hl1520, hs⟩ := bind_some hs
      refine wp_block ?_
      refine wp_forR (id := 2) (I := fun i_ xs_ s1515 a w1516 => ∃ k1517 : Nat, i_ = (k1517 : Int) ∧ List.drop k1517 a_.2 = xs_ ∧ (∃ (σ : Nat → Value) (f1521 : List Nat), a = fr 66 (ovl σ [(1, (.slice pa1 pn1 pc1)), (2, (.pointer (some ⟨g3, 0, none⟩))), (5, (.bool s1515.1)), (6, (.bool s1515.2.1)), (16, (.slice pa0 pn0 pc0)), (17, (.int .i64 (a_.2.length : Int))), (18, (.int .i64 (k1517 : Int)))]) ∧ Chg (pf1 ++ ([])) w w1516 ∧ Own (Nw w (pf1 ++ ([]))) M w1516 (([g3]) ++ (f1521 ++ [])) ∧ (RT.rs (RT.pr (RT.int .i64) (RT.rs (RT.int .i64)))).val M w1516 (.slice pa0 pn0 pc0) a_.2 ([]) ∧ (RT.os 3 (RT.int .i64)).val M w1516 (.slice pa1 pn1 pc1) s1515.2.2 f1521 ∧ BoxV w1516 g3 62 [(.int .i64 a_.1), (.slice pa0 pn0 pc0)])) (J := fun s1515 a w1516 => ∃ (σ : Nat → Value) (f1522 : List Nat), a = fr 66 (ovl σ [(1, (.slice pa1 pn1 pc1)), (2, (.pointer (some ⟨g3, 0, none⟩))), (5, (.bool s1515.1)), (6, (.bool s1515.2.1))]) ∧ Chg (pf1 ++ ([])) w w1516 ∧ Own (Nw w (pf1 ++ ([]))) M w1516 (([g3]) ++ (f1522 ++ [])) ∧ (RT.rs (RT.pr (RT.int .i64) (RT.rs (RT.int .i64)))).val M w1516 (.slice pa0 pn0 pc0) a_.2 ([]) ∧ (RT.os 3 (RT.int .i64)).val M w1516 (.slice pa1 pn1 pc1) s1515.2.2 f1522 ∧ BoxV w1516 g3 62 [(.int .i64 a_.1), (.slice pa0 pn0 pc0)]) (K := (k_impl_closePartition M w pa1 pn1 pc1 pf1)) ?_ ?_ a_.2 0 (s1135.1, false, s1135.2.2) o1519 _ _ ?_ hl1520 ?_
      · rintro _ s1515 a w1516 ⟨k1517, rfl, hd, σ, f1521, rfl, hC, hO, h0, hv1521, hb3⟩
        have hlt := drop_nil_ge hd
        refine c_seq ?_
        refine c_region ?_
        refine pl_val (.bool (decide ((k1517 : Int) < (a_.2.length : Int)))) (y_lss rfl rfl) ?_
        refine c_nil ?_
        refine c_seq ?_
        refine c_condF (congrArg Value.bool (decide_eq_false hlt)) ?_
        refine wp_exit ?_
        have hO := hO.fr1
        have hO := hO.fr1
        exact ⟨rfl, _, f1521, fr_ovl 66 ⟨rfl, rfl, rfl, rfl, trivial⟩, hC, hO, h0, hv1521, hb3⟩
      · rintro _ x1518 xs_ s1515 o1519 a w1516 ⟨k1517, rfl, hd, σ, f1521, rfl, hC, hO, h0, hv1521, hb3⟩ hs
        have hlt := drop_cons_lt hd
        have hxk1517 := drop_cons_idx hd
        refine c_seq ?_
        refine c_region ?_
        refine pl_val (.bool (decide ((k1517 : Int) < (a_.2.length : Int)))) (y_lss rfl rfl) ?_
        refine c_nil ?_
        refine c_seq ?_
        refine c_condT (congrArg Value.bool (decide_eq_true hlt)) ?_
        refine wp_skip ?_
        refine c_seq ?_
        refine wp_block ?_
        refine c_seq ?_
        refine c_region ?_
        obtain ⟨b1523, o1523, hp1523, ha1523⟩ := rs_idx Sl60 Sz82 h0 hxk1517
        refine pl_val (.pointer (some ⟨b1523, o1523, none⟩)) (hp1523 _ _ _ _ _ _ _ _ _ rfl rfl) ?_
        obtain ⟨v1524, hl1524, hv1524⟩ := at_load Ag82 Sz82 (by intro h; cases h) ha1523
        obtain ⟨cs1524, rfl, hr1524⟩ := hv1524
        obtain ⟨cc1524x1, cd1524x1, rfl, hh1524x1, ht1524x1⟩ := pr_open hr1524
        obtain rfl := int_rel hh1524x1
        obtain ⟨a1524x2, n1524x2, c1524x2, rfl, hv1524x2⟩ := rs_rel ht1524x1
        refine pl_val (.agg #[(.int .i64 x1518.1), (.slice a1524x2 n1524x2 c1524x2)]) (y_load rfl (hl1524 _ (Chg.refl _ _))) ?_
        obtain ⟨w1526, g1526, ew1526, eg1526, hC1526, hb1526⟩ := new_block w1516 [(.int .i64 0), (.slice none 0 0)] 82
        refine pl_val (w' := w1526) (.pointer (some ⟨g1526, 0, none⟩)) (y_alloc (by rw [ew1526, eg1526]; kernel_rfl)) ?_
        have h0 := h0.ext hC1526
        have hv1521 := hv1521.ext hC1526
        have hb3 := hb3.chg hC1526 (fun h => nomatch h)
        have hv1524x2 := hv1524x2.ext hC1526
        have hC := hC.ext hC1526
        have hO := hO.new (X' := [g1526]) hC1526 (fun q hq => by rw [List.mem_singleton.1 hq, eg1526]; exact Nat.le_refl _) (List.nodup_cons.2 ⟨(fun h => nomatch h), List.nodup_nil⟩) (fun q hq => by rw [List.mem_singleton.1 hq]; exact hb1526.lt)
        obtain ⟨w1527, hst1527, hC1527, hb1527⟩ := box_store (P := Try.prog) hb1526 [] [(.int .i64 0), (.slice none 0 0)] [] [(.int .i64 x1518.1), (.slice a1524x2 n1524x2 c1524x2)] rfl rfl (by intro u hu; simp only [List.mem_cons, List.not_mem_nil, or_false] at hu; rcases hu with rfl | rfl <;> rfl)
        refine pl_skip (w' := w1527) (ys_store rfl rfl (hst1527 _ _ rfl Sz82)) ?_
        have h0 := h0.mut hC1527 (fun g hg => hO.inM g ((fun _ h => h) g hg)) (fun _ _ h => nomatch h)
        have hv1521 := hv1521.mut hC1527 (fun g hg => hO.inM g ((fun _ h => h) g hg)) (fun g hg e => hO.apart g ((fun _ h => h) g hg) (mem_r (mem_l (e))))
        have hb3 := hb3.chg hC1527 (fun hg => hO.apart _ ((fun _ h => h) _ hg) (mem_l (List.mem_singleton.2 rfl)))
        have hv1524x2 := hv1524x2.mut hC1527 (fun g hg => hO.inM g ((fun _ h => h) g hg)) (fun _ _ h => nomatch h)
        have hC := hC.step hC1527 (fun g hg => hO.inN g ((fun _ h => h) g hg))
        have hO := hO.ext hC1527
        have hb1527 : BoxV w1527 g1526 82 [(.int .i64 x1518.1), (.slice a1524x2 n1524x2 c1524x2)] := hb1527
        refine c_nil ?_
        refine c_seq ?_
        refine c_region ?_
        refine pl_val (.int .i64 1) (y_assign rfl) ?_
        refine c_nil ?_
        refine c_seq ?_
        refine c_region ?_
        refine pl_val (.int .i64 0) (y_assign rfl) ?_
        refine c_nil ?_
        obtain ⟨o1647, hl1648, hs⟩ := bind_some hs
        refine wp_block ?_
        refine wp_forC (id := 4) x1518.1 (I := fun k1645 s1643 a w1644 => ∃ (σ : Nat → Value) (f1649 : List Nat), a = fr 66 (ovl σ [(1, (.slice pa1 pn1 pc1)), (2, (.pointer (some ⟨g3, 0, none⟩))), (5, (.bool s1643.1)), (6, (.bool s1643.2.1)), (8, (.pointer (some ⟨g1526, 0, none⟩))), (9, (.int .i64 s1643.2.2.1)), (10, (.int .i64 k1645)), (16, (.slice pa0 pn0 pc0)), (17, (.int .i64 (a_.2.length : Int))), (18, (.int .i64 (k1517 : Int)))]) ∧ Chg (pf1 ++ ([])) w w1644 ∧ Own (Nw w (pf1 ++ ([]))) M w1644 (([g1526]) ++ (([g3]) ++ (f1649 ++ []))) ∧ (RT.rs (RT.pr (RT.int .i64) (RT.rs (RT.int .i64)))).val M w1644 (.slice pa0 pn0 pc0) a_.2 ([]) ∧ (RT.os 3 (RT.int .i64)).val M w1644 (.slice pa1 pn1 pc1) s1643.2.2.2 f1649 ∧ BoxV w1644 g3 62 [(.int .i64 a_.1), (.slice pa0 pn0 pc0)] ∧ (RT.rs (RT.int .i64)).val M w1644 (.slice a1524x2 n1524x2 c1524x2) x1518.2 ([]) ∧ BoxV w1644 g1526 82 [(.int .i64 x1518.1), (.slice a1524x2 n1524x2 c1524x2)]) (J := fun s1643 a w1644 => ∃ (σ : Nat → Value) (f1650 : List Nat), a = fr 66 (ovl σ [(1, (.slice pa1 pn1 pc1)), (2, (.pointer (some ⟨g3, 0, none⟩))), (5, (.bool s1643.1)), (6, (.bool s1643.2.1)), (16, (.slice pa0 pn0 pc0)), (17, (.int .i64 (a_.2.length : Int))), (18, (.int .i64 (k1517 : Int)))]) ∧ Chg (pf1 ++ ([])) w w1644 ∧ Own (Nw w (pf1 ++ ([]))) M w1644 (([g1526]) ++ (([g3]) ++ (f1650 ++ []))) ∧ (RT.rs (RT.pr (RT.int .i64) (RT.rs (RT.int .i64)))).val M w1644 (.slice pa0 pn0 pc0) a_.2 ([]) ∧ (RT.os 3 (RT.int .i64)).val M w1644 (.slice pa1 pn1 pc1) s1643.2.2.2 f1650 ∧ BoxV w1644 g3 62 [(.int .i64 a_.1), (.slice pa0 pn0 pc0)] ∧ (RT.rs (RT.int .i64)).val M w1644 (.slice a1524x2 n1524x2 c1524x2) x1518.2 ([]) ∧ BoxV w1644 g1526 82 [(.int .i64 x1518.1), (.slice a1524x2 n1524x2 c1524x2)]) (K := (k_impl_closePartition M w pa1 pn1 pc1 pf1)) ?_ ?_ 0 (s1515.1, s1515.2.1, 1, s1515.2.2) o1647 _ _ ?_ hl1648 ?_
        · rintro k1645 s1643 a w1644 ⟨σ, f1649, rfl, hC, hO, h0, hv1649, hb3, hv1524x2, hb1527⟩ hlt
          refine c_seq ?_
          refine c_seq ?_
          refine c_region ?_
          refine pl_val (.int .i64 k1645) (y_move rfl) ?_
          refine pl_val (.pointer (some ⟨g1526, 0, none⟩)) (y_faddr rfl Fa82x0) ?_
          refine pl_val (.int .i64 x1518.1) (y_load rfl ((box_load Ag3 Sz3 hb1527 [] [(.int .i64 x1518.1)] [(.slice a1524x2 n1524x2 c1524x2)] rfl rfl (fun _ => rfl)) _ (Chg.refl _ _))) ?_
          refine pl_val (.bool (decide (k1645 < x1518.1))) (y_lss rfl rfl) ?_
          refine c_nil ?_
          refine c_condF (congrArg Value.bool (decide_eq_false hlt)) ?_
          refine wp_exit ?_
          have hO := hO.fr2
          have hO := hO.fr2
          have hO := hO.fr2
          exact ⟨rfl, _, f1649, fr_ovl 66 ⟨rfl, rfl, rfl, rfl, rfl, rfl, rfl, trivial⟩, hC, hO, h0, hv1649, hb3, hv1524x2, hb1527⟩
        · rintro k1645 s1643 o1647 a w1644 ⟨σ, f1649, rfl, hC, hO, h0, hv1649, hb3, hv1524x2, hb1527⟩ hlt hw hs
          refine c_seq ?_
          refine c_seq ?_
          refine c_region ?_
          refine pl_val (.int .i64 k1645) (y_move rfl) ?_
          refine pl_val (.pointer (some ⟨g1526, 0, none⟩)) (y_faddr rfl Fa82x0) ?_
          refine pl_val (.int .i64 x1518.1) (y_load rfl ((box_load Ag3 Sz3 hb1527 [] [(.int .i64 x1518.1)] [(.slice a1524x2 n1524x2 c1524x2)] rfl rfl (fun _ => rfl)) _ (Chg.refl _ _))) ?_
          refine pl_val (.bool (decide (k1645 < x1518.1))) (y_lss rfl rfl) ?_
          refine c_nil ?_
          refine c_condT (congrArg Value.bool (decide_eq_true hlt)) ?_
          refine wp_skip ?_
          refine c_seq ?_
          refine wp_block ?_
          refine c_seq ?_
          refine c_seq ?_
          refine c_region ?_
          refine pl_val (.pointer (some ⟨g1526, 1, none⟩)) (y_faddr rfl Fa82x1) ?_
          refine pl_val (.slice a1524x2 n1524x2 c1524x2) (y_load rfl ((box_load Ag22 Sz22 hb1527 [(.int .i64 x1518.1)] [(.slice a1524x2 n1524x2 c1524x2)] [] rfl rfl (fun _ => rfl)) _ (Chg.refl _ _))) ?_
          refine pl_val (.int .i64 (x1518.2.length : Int)) (y_len' Sl22 (rs_len hv1524x2) rfl) ?_
          refine pl_val (.int .i64 0) (y_move rfl) ?_
          refine c_nil ?_
          obtain ⟨o1688, hl1689, hs⟩ := bind_some hs
          refine wp_block ?_
          refine wp_forC (id := 6) (x1518.2.length : Int) (I := fun k1686 s1684 a w1685 => ∃ (σ : Nat → Value) (f1690 : List Nat), a = fr 66 (ovl σ [(1, (.slice pa1 pn1 pc1)), (2, (.pointer (some ⟨g3, 0, none⟩))), (5, (.bool s1684.1)), (6, (.bool s1684.2.1)), (8, (.pointer (some ⟨g1526, 0, none⟩))), (9, (.int .i64 s1643.2.2.1)), (10, (.int .i64 k1645)), (16, (.slice pa0 pn0 pc0)), (17, (.int .i64 (a_.2.length : Int))), (18, (.int .i64 (k1517 : Int))), (29, (.slice a1524x2 n1524x2 c1524x2)), (30, (.int .i64 (x1518.2.length : Int))), (31, (.int .i64 k1686))]) ∧ Chg (pf1 ++ ([])) w w1685 ∧ Own (Nw w (pf1 ++ ([]))) M w1685 (([g1526]) ++ (([g3]) ++ (f1690 ++ []))) ∧ (RT.rs (RT.pr (RT.int .i64) (RT.rs (RT.int .i64)))).val M w1685 (.slice pa0 pn0 pc0) a_.2 ([]) ∧ (RT.os 3 (RT.int .i64)).val M w1685 (.slice pa1 pn1 pc1) s1684.2.2 f1690 ∧ BoxV w1685 g3 62 [(.int .i64 a_.1), (.slice pa0 pn0 pc0)] ∧ (RT.rs (RT.int .i64)).val M w1685 (.slice a1524x2 n1524x2 c1524x2) x1518.2 ([]) ∧ BoxV w1685 g1526 82 [(.int .i64 x1518.1), (.slice a1524x2 n1524x2 c1524x2)]) (J := fun s1684 a w1685 => ∃ (σ : Nat → Value) (f1691 : List Nat), a = fr 66 (ovl σ [(1, (.slice pa1 pn1 pc1)), (2, (.pointer (some ⟨g3, 0, none⟩))), (5, (.bool s1684.1)), (6, (.bool s1684.2.1)), (8, (.pointer (some ⟨g1526, 0, none⟩))), (9, (.int .i64 s1643.2.2.1)), (10, (.int .i64 k1645)), (16, (.slice pa0 pn0 pc0)), (17, (.int .i64 (a_.2.length : Int))), (18, (.int .i64 (k1517 : Int)))]) ∧ Chg (pf1 ++ ([])) w w1685 ∧ Own (Nw w (pf1 ++ ([]))) M w1685 (([g1526]) ++ (([g3]) ++ (f1691 ++ []))) ∧ (RT.rs (RT.pr (RT.int .i64) (RT.rs (RT.int .i64)))).val M w1685 (.slice pa0 pn0 pc0) a_.2 ([]) ∧ (RT.os 3 (RT.int .i64)).val M w1685 (.slice pa1 pn1 pc1) s1684.2.2 f1691 ∧ BoxV w1685 g3 62 [(.int .i64 a_.1), (.slice pa0 pn0 pc0)] ∧ (RT.rs (RT.int .i64)).val M w1685 (.slice a1524x2 n1524x2 c1524x2) x1518.2 ([]) ∧ BoxV w1685 g1526 82 [(.int .i64 x1518.1), (.slice a1524x2 n1524x2 c1524x2)]) (K := (k_impl_closePartition M w pa1 pn1 pc1 pf1)) ?_ ?_ 0 (s1643.1, s1643.2.1, s1643.2.2.2) o1688 _ _ ?_ hl1689 ?_
          · rintro k1686 s1684 a w1685 ⟨σ, f1690, rfl, hC, hO, h0, hv1690, hb3, hv1524x2, hb1527⟩ hlt
            refine c_seq ?_
            refine c_region ?_
            refine pl_val (.bool (decide (k1686 < (x1518.2.length : Int)))) (y_lss rfl rfl) ?_
            refine c_nil ?_
            refine c_seq ?_
            refine c_condF (congrArg Value.bool (decide_eq_false hlt)) ?_
            refine wp_exit ?_
            have hO := hO.fr2
            have hO := hO.fr2
            have hO := hO.fr2
            exact ⟨rfl, _, f1690, fr_ovl 66 ⟨rfl, rfl, rfl, rfl, rfl, rfl, rfl, rfl, rfl, rfl, trivial⟩, hC, hO, h0, hv1690, hb3, hv1524x2, hb1527⟩
          · rintro k1686 s1684 o1688 a w1685 ⟨σ, f1690, rfl, hC, hO, h0, hv1690, hb3, hv1524x2, hb1527⟩ hlt hw hs
            refine c_seq ?_
            refine c_region ?_
            refine pl_val (.bool (decide (k1686 < (x1518.2.length : Int)))) (y_lss rfl rfl) ?_
            refine c_nil ?_
            refine c_seq ?_
            refine c_condT (congrArg Value.bool (decide_eq_true hlt)) ?_
            refine wp_skip ?_
            refine c_seq ?_
            refine wp_block ?_
            refine c_seq ?_
            refine c_region ?_
            refine pl_val (.int .i64 k1686) (y_move rfl) ?_
            obtain ⟨x1692, hx1692, hs⟩ := bind_some hs
            obtain ⟨b1693, o1693, hp1693, ha1693⟩ := rs_idx Sl22 Sz3 hv1524x2 hx1692
            refine pl_val (.pointer (some ⟨b1693, o1693, none⟩)) (hp1693 _ _ _ _ _ _ _ _ _ rfl rfl) ?_
            refine pl_val (.int .i64 x1692) (y_load rfl ((at_load_int Ag3 Sz3 ha1693) _ (Chg.refl _ _))) ?_
            refine pl_val (.int .i64 k1686) (y_assign rfl) ?_
            refine pl_val (.int .i64 x1692) (y_assign rfl) ?_
            refine c_nil ?_
            refine c_seq ?_
            refine x_start [] Mx rfl ?_
            have hCw1697 := Chg.drew w1685
            generalize World.drew w1685 = w1697 at hCw1697 ⊢
            have h0 := h0.ext hCw1697
            have hv1690 := hv1690.ext hCw1697
            have hb3 := hb3.chg hCw1697 (fun h => nomatch h)
            have hv1524x2 := hv1524x2.ext hCw1697
            have hb1527 := hb1527.chg hCw1697 (fun h => nomatch h)
            have hC := hC.ext hCw1697
            have hO := hO.ext hCw1697
            have hS := Chg.refl [] w1697
            refine x_p 0 (.int .i64 k1686) rfl (by kernel_rfl)  (fun _ => y_move rfl) (fun _ => hS) ?_
            refine x_p 1 (.int .i64 s1643.2.2.1) rfl (by kernel_rfl)  (fun _ => y_move rfl) (fun _ => hS) ?_
            obtain ⟨u1698, hu1698, hs⟩ := bind_some hs
            refine x_p 2 (.int .i64 (w64 (Int.tdiv k1686 s1643.2.2.1))) rfl (by kernel_rfl)  (fun _ => y_quo rfl rfl (nz_ne hu1698)) (fun _ => hS) ?_
            refine x_p 3 (.pointer (some ⟨g3, 0, none⟩)) rfl (by kernel_rfl)  (fun _ => y_faddr rfl Fa62x0) (fun _ => hS) ?_
            refine x_l 4 (.int .i64 a_.1) rfl (by kernel_rfl)  (fun w' hw' => y_load rfl ((box_load Ag3 Sz3 hb3 [] [(.int .i64 a_.1)] [(.slice pa0 pn0 pc0)] rfl rfl (fun _ => rfl)) w' hw')) hS ?_
            obtain ⟨u1699, hu1699, hs⟩ := bind_some hs
            refine x_p 5 (.int .i64 (Int.tmod (w64 (Int.tdiv k1686 s1643.2.2.1)) a_.1)) rfl (by kernel_rfl)  (fun _ => y_rem rfl rfl (nz_ne hu1699)) (fun _ => hS) ?_
            refine x_p 6 (.int .i64 (Int.tmod (w64 (Int.tdiv k1686 s1643.2.2.1)) a_.1)) rfl (by kernel_rfl)  (fun _ => y_assign rfl) (fun _ => hS) ?_
            refine x_end (by kernel_rfl) ?_
            clear hS
            refine c_seq ?_
            refine x_start [16] Mx rfl ?_
            have hCw1700 := Chg.drew w1697
            generalize World.drew w1697 = w1700 at hCw1700 ⊢
            have h0 := h0.ext hCw1700
            have hv1690 := hv1690.ext hCw1700
            have hb3 := hb3.chg hCw1700 (fun h => nomatch h)
            have hv1524x2 := hv1524x2.ext hCw1700
            have hb1527 := hb1527.chg hCw1700 (fun h => nomatch h)
            have hC := hC.ext hCw1700
            have hO := hO.ext hCw1700
            have hS := Chg.refl [] w1700
            refine x_p 0 (.slice pa1 pn1 pc1) rfl (by kernel_rfl)  (fun _ => y_move rfl) (fun _ => hS) ?_
            refine x_p 1 (.int .i64 x1692) rfl (by kernel_rfl)  (fun _ => y_move rfl) (fun _ => hS) ?_
            refine x_p 2 (.pointer (some ⟨g1526, 1, none⟩)) rfl (by kernel_rfl)  (fun _ => y_faddr rfl Fa82x1) (fun _ => hS) ?_
            refine x_l 3 (.slice a1524x2 n1524x2 c1524x2) rfl (by kernel_rfl)  (fun w' hw' => y_load rfl ((box_load Ag22 Sz22 hb1527 [(.int .i64 x1518.1)] [(.slice a1524x2 n1524x2 c1524x2)] [] rfl rfl (fun _ => rfl)) w' hw')) hS ?_
            refine x_p 4 (.int .i64 k1686) rfl (by kernel_rfl)  (fun _ => y_move rfl) (fun _ => hS) ?_
            refine x_p 5 (.slice pa1 pn1 pc1) rfl (by kernel_rfl)  (fun _ => y_move rfl) (fun _ => hS) ?_
            refine x_p 6 (.int .i64 (Int.tmod (w64 (Int.tdiv k1686 s1643.2.2.1)) a_.1)) rfl (by kernel_rfl)  (fun _ => y_move rfl) (fun _ => hS) ?_
            obtain ⟨x1701, hx1701, hs⟩ := bind_some hs
            obtain ⟨g1702, f1702, hg1702, hk1702, hp1702, ha1702, hf1702⟩ := os_idx Sl22 Sz3 hv1690 hx1701
            refine x_p 7 (.pointer (some ⟨g1702, 0 + Int.toNat (Int.tmod (w64 (Int.tdiv k1686 s1643.2.2.1)) a_.1) * 1, none⟩)) rfl (by kernel_rfl)  (fun _ => hp1702 _ _ _ _ _ _ _ _ _ rfl rfl) (fun _ => hS) ?_
            refine x_l 8 (.int .i64 x1701) rfl (by kernel_rfl)  (fun w' hw' => y_load rfl ((at_load_int Ag3 Sz3 ha1702) w' hw')) hS ?_
            refine x_p 9 (.int .i64 (Int.tmod (w64 (Int.tdiv k1686 s1643.2.2.1)) a_.1)) rfl (by kernel_rfl)  (fun _ => y_move rfl) (fun _ => hS) ?_
            refine x_p 10 (.int .i64 (w64 (x1701 - (Int.tmod (w64 (Int.tdiv k1686 s1643.2.2.1)) a_.1)))) rfl (by kernel_rfl)  (fun _ => y_sub rfl rfl) (fun _ => hS) ?_
            refine x_p 11 (.int .i64 s1643.2.2.1) rfl (by kernel_rfl)  (fun _ => y_move rfl) (fun _ => hS) ?_
            refine x_p 12 (.int .i64 (w64 ((w64 (x1701 - (Int.tmod (w64 (Int.tdiv k1686 s1643.2.2.1)) a_.1))) * s1643.2.2.1))) rfl (by kernel_rfl)  (fun _ => y_mul rfl rfl) (fun _ => hS) ?_
            refine x_p 13 (.int .i64 (w64 (k1686 + (w64 ((w64 (x1701 - (Int.tmod (w64 (Int.tdiv k1686 s1643.2.2.1)) a_.1))) * s1643.2.2.1))))) rfl (by kernel_rfl)  (fun _ => y_add rfl rfl) (fun _ => hS) ?_
            obtain ⟨x1703, hx1703, hs⟩ := bind_some hs
            obtain ⟨b1704, o1704, hp1704, ha1704⟩ := rs_idx Sl22 Sz3 hv1524x2 hx1703
            refine x_p 14 (.pointer (some ⟨b1704, o1704, none⟩)) rfl (by kernel_rfl)  (fun _ => hp1704 _ _ _ _ _ _ _ _ _ rfl rfl) (fun _ => hS) ?_
            refine x_l 15 (.int .i64 x1703) rfl (by kernel_rfl)  (fun w' hw' => y_load rfl ((at_load_int Ag3 Sz3 ha1704) w' hw')) hS ?_
            refine x_one (i := 16) (by kernel_rfl) ?_
            have hO := hO.fr2
            have hL1705 := hO
            have hI1705 := Own.lend (F := (f1690 ++ ([]))) (R := ([g1526]) ++ (([g3]) ++ ([]))) (Own.perm (hL1705) (by simp))
            obtain ⟨r1706, hr1706, hs⟩ := bind_some hs
            refine xk_call (b := true) rfl  Bd195 rfl (c_impl_unite (M := M) s1684.2.2 x1692 x1703 hv1690 hI1705 hI1705.fut hr1706) rfl (fun h => nomatch h) ?_
            rintro _ w1705 ⟨fi1705x0, rfl, hC1705, hvi1705x0, hOc1705⟩
            have hO := hO.perm (R := (f1690 ++ ([])) ++ (([g1526]) ++ (([g3]) ++ ([])))) (by simp)
            have h0 := h0.mut hC1705 (fun g hg => hO.inM g ((fun _ h => h) g hg)) (fun _ _ h => nomatch h)
            have hb3 := hb3.chg hC1705 (fun hg => hO.apart _ ((fun _ h => h) _ hg) (mem_r (mem_l (List.mem_singleton.2 rfl))))
            have hv1524x2 := hv1524x2.mut hC1705 (fun g hg => hO.inM g ((fun _ h => h) g hg)) (fun _ _ h => nomatch h)
            have hb1527 := hb1527.chg hC1705 (fun hg => hO.apart _ ((fun _ h => h) _ hg) (mem_l (List.mem_singleton.2 rfl)))
            have hC := hC.step hC1705 (fun g hg => hO.inN g ((fun _ h => h) g hg))
            have hO := Own.join hO hC1705 hOc1705
            have hO := hO.perm (R := fi1705x0 ++ (([g1526]) ++ (([g3]) ++ ([])))) (by simp)
            refine x_end (by kernel_rfl) ?_
            clear hS
            rcases bif_some hs with ⟨hc1707, hs⟩ | ⟨hc1707, hs⟩
            · skip
              refine c_condT (congrArg Value.bool hc1707) ?_
              refine c_region ?_
              refine pl_val (.bool true) (y_assign rfl) ?_
              refine pl_val (.bool true) (y_assign rfl) ?_
              refine c_nil ?_
              refine c_region ?_
              refine pl_val (.int .i64 (w64 (k1686 + 1))) (y_add rfl rfl) ?_
              refine pl_val (.int .i64 (w64 (k1686 + 1))) (y_move rfl) ?_
              refine c_nil ?_
              cases hs
              have hO := hO.fr2
              have hO := hO.fr2
              exact ⟨_, fi1705x0, fr_ovl 66 ⟨rfl, rfl, rfl, rfl, rfl, rfl, rfl, rfl, rfl, rfl, rfl, rfl, congrArg (Value.int .i64) hw, trivial⟩, hC, hO, h0, hvi1705x0, hb3, hv1524x2, hb1527⟩
            · skip
              refine c_condF (congrArg Value.bool hc1707) ?_
              refine wp_skip ?_
              refine c_region ?_
              refine pl_val (.int .i64 (w64 (k1686 + 1))) (y_add rfl rfl) ?_
              refine pl_val (.int .i64 (w64 (k1686 + 1))) (y_move rfl) ?_
              refine c_nil ?_
              cases hs
              have hO := hO.fr2
              have hO := hO.fr2
              exact ⟨_, fi1705x0, fr_ovl 66 ⟨rfl, rfl, rfl, rfl, rfl, rfl, rfl, rfl, rfl, rfl, rfl, rfl, congrArg (Value.int .i64) hw, trivial⟩, hC, hO, h0, hvi1705x0, hb3, hv1524x2, hb1527⟩
          · skip
            have hO := hO.fr2
            have hO := hO.fr2
            have hO := hO.fr2
            exact ⟨_, f1649, fr_ovl 66 ⟨rfl, rfl, rfl, rfl, rfl, rfl, rfl, rfl, rfl, rfl, rfl, rfl, rfl, trivial⟩, hC, hO, h0, hv1649, hb3, hv1524x2, hb1527⟩
          · cases o1688 with
            | nx _ => exact True.intro
            | rt r_ =>
              have hs := after_rt hs
              intro a1 w1 hK
              cases hs
              exact hK
            | br s1684 =>
              have hs := after_br hs
              rintro a1 w1685 ⟨σ, f1691, rfl, hC, hO, h0, hv1691, hb3, hv1524x2, hb1527⟩
              refine c_region ?_
              refine pl_val (.int .i64 s1643.2.2.1) (y_move rfl) ?_
              refine pl_val (.pointer (some ⟨g3, 0, none⟩)) (y_faddr rfl Fa62x0) ?_
              refine pl_val (.int .i64 a_.1) (y_load rfl ((box_load Ag3 Sz3 hb3 [] [(.int .i64 a_.1)] [(.slice pa0 pn0 pc0)] rfl rfl (fun _ => rfl)) _ (Chg.refl _ _))) ?_
              refine pl_val (.int .i64 (w64 (s1643.2.2.1 * a_.1))) (y_mul rfl rfl) ?_
              refine pl_val (.int .i64 (w64 (s1643.2.2.1 * a_.1))) (y_assign rfl) ?_
              refine c_nil ?_
              refine c_region ?_
              refine pl_val (.int .i64 k1645) (y_move rfl) ?_
              refine pl_val (.int .i64 (w64 (k1645 + 1))) (y_add rfl rfl) ?_
              refine pl_val (.int .i64 (w64 (k1645 + 1))) (y_assign rfl) ?_
              refine c_nil ?_
              cases hs
              have hO := hO.fr2
              have hO := hO.fr2
              have hO := hO.fr2
              exact ⟨_, f1691, fr_ovl 66 ⟨rfl, rfl, rfl, rfl, rfl, rfl, congrArg (Value.int .i64) hw, rfl, rfl, rfl, trivial⟩, hC, hO, h0, hv1691, hb3, hv1524x2, hb1527⟩
        · skip
          have hO := hO.fr2
          have hO := hO.fr2
          have hO := hO.fr2
          exact ⟨_, f1521, fr_ovl 66 ⟨rfl, rfl, rfl, rfl, rfl, rfl, rfl, rfl, rfl, rfl, trivial⟩, hC, hO, h0, hv1521, hb3, hv1524x2, hb1527⟩
        · cases o1647 with
          | nx _ => exact True.intro
          | rt r_ =>
            have hs := after_rt hs
            intro a1 w1 hK
            cases hs
            exact hK
          | br s1643 =>
            have hs := after_br hs
            rintro a1 w1644 ⟨σ, f1650, rfl, hC, hO, h0, hv1650, hb3, hv1524x2, hb1527⟩
            refine c_region ?_
            refine pl_val (.int .i64 (w64 ((k1517 : Int) + 1))) (y_add rfl rfl) ?_
            refine pl_val (.int .i64 (w64 ((k1517 : Int) + 1))) (y_move rfl) ?_
            refine c_nil ?_
            cases hs
            have hO := hO.drop
            have hO := hO.fr1
            have hO := hO.fr1
            exact ⟨_, rfl, drop_cons_next hd, _, f1650, fr_ovl 66 ⟨rfl, rfl, rfl, rfl, rfl, rfl, congrArg (Value.int .i64) (w64_succ hlt (Int.natCast_nonneg _) (rs_max h0)), trivial⟩, hC, hO, h0, hv1650, hb3⟩
      · skip
        have hO := hO.fr1
        have hO := hO.fr1
        exact ⟨0, rfl, rfl, _, f1141, fr_ovl 66 ⟨rfl, rfl, rfl, rfl, rfl, rfl, rfl, trivial⟩, hC, hO, h0, hv1141, hb3⟩
      · cases o1519 with
        | nx _ => exact True.intro
        | rt r_ =>
          have hs := after_rt hs
          intro a1 w1 hK
          cases hs
          exact hK
        | br s1515 =>
          have hs := after_br hs
          rintro a1 w1516 ⟨σ, f1522, rfl, hC, hO, h0, hv1522, hb3⟩
          cases hs
          have hO := hO.fr1
          have hO := hO.fr1
          exact ⟨_, f1522, fr_ovl 66 ⟨rfl, rfl, rfl, rfl, trivial⟩, hC, hO, h0, hv1522, hb3⟩
    · skip
      refine c_condF (congrArg Value.bool hc1143) ?_
      refine wp_exit ?_
      cases hs
      have hO := hO.fr1
      have hO := hO.fr1
      exact ⟨rfl, _, f1141, fr_ovl 66 ⟨rfl, trivial⟩, hC, hO, h0, hv1141, hb3⟩
  · skip
    have hO := hO.fr1
    have hO := hO.fr1
    exact ⟨_, pf1, fr_ovl 66 ⟨rfl, rfl, rfl, rfl, trivial⟩, hC, hO, h0, h1, hb3⟩
  · cases o1139 with
    | nx _ => exact True.intro
    | rt r_ =>
      have hs := after_rt hs
      intro a1 w1 hK
      cases hs
      exact hK
    | br s1135 =>
      have hs := after_br hs
      rintro a1 w1136 ⟨σ, f1142, rfl, hC, hO, h0, hv1142, hb3⟩
      refine c_seq ?_
      refine c_region ?_
      refine pl_val (.bool s1135.1) (y_move rfl) ?_
      refine pl_val (.bool s1135.1) (y_assign rfl) ?_
      refine c_nil ?_
      refine wp_ret ?_
      cases hs
      have hO := hO.drop
      exact ⟨_, f1142, fr_ovl 66 ⟨rfl, trivial⟩, hC, hv1142, hO.top⟩

theorem Bd145 : Bodied Try.prog 145 := bodied Try.func145 (by kernel_rfl) rfl

theorem Bd170 : Bodied Try.prog 170 := bodied Try.func170 (by kernel_rfl) rfl

theorem Bd183 : Bodied Try.prog 183 := bodied Try.func183 (by kernel_rfl) rfl

def k_impl_isCongruence (M : Nat → Prop) (w0 : World) (r : Bool) (a : Act) (w : World) : Prop :=
  ∃ (σ : Nat → Value) , a = fr 16 (ovl σ [(4, (.bool r))]) ∧ Chg [] w0 w
def s_impl_isCongruence (a_ : Int × (List (Int × (List Int)))) (p : List Int) : Option (Bool) :=
  (s_impl_isPartition a_.1 p).bind fun r6 =>
  (bif r6 then (s_impl_clone p).bind fun r9 =>
  (s_impl_closePartition (a_.1, a_.2) r9).bind fun r12 =>
  some (!r12.1) else some false)
set_option maxHeartbeats 4000000 in
theorem c_impl_isCongruence {M : Nat → Prop} {w : World} {pa0 : Option Addr} {pn0 pc0 : Nat} {pa1 : Option Addr} {pn1 pc1 : Nat} (a_ : Int × (List (Int × (List Int)))) (p : List Int) (h0 : (RT.rs (RT.pr (RT.int .i64) (RT.rs (RT.int .i64)))).val M w (.slice pa0 pn0 pc0) a_.2 ([])) (h1 : (RT.rs (RT.int .i64)).val M w (.slice pa1 pn1 pc1) p ([])) (hM : ∀ g, w.heap.size ≤ g → M g) {r : Bool} (hs : s_impl_isCongruence a_ p = some r) :
    Gives Try.prog 160 [(.agg #[(.int .i64 a_.1), (.slice pa0 pn0 pc0)]), (.slice pa1 pn1 pc1)] w (fun v w' => v = (.bool r) ∧ Chg [] w w') := by
  refine calls_fr Try.func160 rfl Try.ntmps160 (Nat.le_of_ble_eq_true rfl) ?_
  have hO := Own.start (N := Nw w []) hM Nw.fut
  have hC := Chg.refl [] w
  unfold s_impl_isCongruence at hs
  refine wp_mono (Q := KPost (k_impl_isCongruence M w r)) ?_ (fun e a w1 h => ?_)
  rotate_left
  · cases e
    case ret =>
      obtain ⟨σ, rfl, hrest⟩ := h
      exact ret1x Try.results160 (res_tmp rfl) ⟨rfl, hrest⟩
    all_goals exact (h : False).elim
  refine c_seq ?_
  refine c_region ?_
  obtain ⟨w3, g3, ew3, eg3, hC3, hb3⟩ := new_block w [(.int .i64 a_.1), (.slice pa0 pn0 pc0)] 62
  refine pl_val (w' := w3) (.pointer (some ⟨g3, 0, none⟩)) (y_box rfl (by rw [ew3, eg3]; kernel_rfl)) ?_
  have h0 := h0.ext hC3
  have h1 := h1.ext hC3
  have hC := hC.ext hC3
  have hO := hO.new (X' := [g3]) hC3 (fun q hq => by rw [List.mem_singleton.1 hq, eg3]; exact Nat.le_refl _) (List.nodup_cons.2 ⟨(fun h => nomatch h), List.nodup_nil⟩) (fun q hq => by rw [List.mem_singleton.1 hq]; exact hb3.lt)
  refine pl_val (.bool false) (y_assign rfl) ?_
  refine c_nil ?_
  refine c_seq ?_
  refine x_start [8] Mx rfl ?_
  have hCw4 := Chg.drew w3
  generalize World.drew w3 = w4 at hCw4 ⊢
  have h0 := h0.ext hCw4
  have h1 := h1.ext hCw4
  have hb3 := hb3.chg hCw4 (fun h => nomatch h)
  have hC := hC.ext hCw4
  have hO := hO.ext hCw4
  have hS := Chg.refl [] w4
  refine x_p 0 (.pointer (some ⟨g3, 0, none⟩)) rfl (by kernel_rfl)  (fun _ => y_faddr rfl Fa62x0) (fun _ => hS) ?_
  refine x_l 1 (.int .i64 a_.1) rfl (by kernel_rfl)  (fun w' hw' => y_load rfl ((box_load Ag3 Sz3 hb3 [] [(.int .i64 a_.1)] [(.slice pa0 pn0 pc0)] rfl rfl (fun _ => rfl)) w' hw')) hS ?_
  refine x_p 2 (.slice pa1 pn1 pc1) rfl (by kernel_rfl)  (fun _ => y_move rfl) (fun _ => hS) ?_
  refine x_one (i := 3) (by kernel_rfl) ?_
  obtain ⟨r6, hr6, hs⟩ := bind_some hs
  refine xk_call (b := false) rfl  Bd145 rfl (c_impl_isPartition (M := M) a_.1 p h1 hO.fut hr6) rfl (by rintro _ _ _ ⟨rfl, hC5⟩; exact hS.ext hC5) ?_
  rintro _ w5 ⟨rfl, hC5⟩
  have h0 := h0.ext hC5
  have h1 := h1.ext hC5
  have hb3 := hb3.chg hC5 (fun h => nomatch h)
  have hC := hC.ext hC5
  have hO := hO.ext hC5
  have hS := hS.ext hC5
  refine x_p 4 (.bool r6) rfl (by kernel_rfl)  (fun _ => y_move rfl) (fun _ => hS) ?_
  rcases bif_some hs with ⟨hc7, hs⟩ | ⟨hc7, hs⟩
  · skip
    refine x_py 6 (.slice pa1 pn1 pc1) rfl (by kernel_rfl) (tg := 9) (by kernel_rfl) (congrArg Value.bool hc7) (fun _ => y_move rfl) (fun _ => hS) ?_
    refine x_two (i := 5) (j := 7) (by kernel_rfl) ?_ ?_
    · skip
      refine xk_valy (b := false) (.agg #[(.int .i64 a_.1), (.slice pa0 pn0 pc0)]) rfl (tg := 9) (by kernel_rfl) (congrArg Value.bool hc7) (y_load rfl ((box_load Ag62 Sz62 hb3 [] [(.int .i64 a_.1), (.slice pa0 pn0 pc0)] [] rfl rfl (fun h => nomatch h)) _ (Chg.refl _ _))) rfl (fun _ => hS) ?_
      refine x_one (i := 7) (by kernel_rfl) ?_
      obtain ⟨r9, hr9, hs⟩ := bind_some hs
      refine xk_cally (b := false) rfl (tg := 9) (by kernel_rfl) (congrArg Value.bool hc7) Bd170 rfl (c_impl_clone (M := M) p h1 hO.fut hr9) rfl (by rintro _ _ _ ⟨a8x0, n8x0, c8x0, f8x0, rfl, hC8, hv8x0, hOc8⟩; exact hS.ext hC8) ?_
      rintro _ w8 ⟨a8x0, n8x0, c8x0, f8x0, rfl, hC8, hv8x0, hOc8⟩
      have h0 := h0.ext hC8
      have h1 := h1.ext hC8
      have hb3 := hb3.chg hC8 (fun h => nomatch h)
      have hC := hC.ext hC8
      have hO := Own.join0 hO hC8 hOc8
      have hO := hO.perm (R := f8x0 ++ (([g3]) ++ ([]))) (by simp)
      have hS := hS.ext hC8
      refine x_one (i := 8) (by kernel_rfl) ?_
      have hL11 := hO
      have hI11 := Own.lend (F := (f8x0 ++ ([]))) (R := ([g3]) ++ ([])) (Own.perm (hL11) (by simp))
      obtain ⟨r12, hr12, hs⟩ := bind_some hs
      refine xk_cally (b := true) rfl (tg := 9) (by kernel_rfl) (congrArg Value.bool hc7) Bd183 rfl (c_impl_closePartition (M := M) (a_.1, a_.2) r9 h0 hv8x0 hI11 hI11.fut hr12) rfl (fun h => nomatch h) ?_
      rintro _ w11 ⟨fi11x0, rfl, hC11, hvi11x0, hOc11⟩
      have hO := hO.perm (R := (f8x0 ++ ([])) ++ (([g3]) ++ ([]))) (by simp)
      have h0 := h0.mut hC11 (fun g hg => hO.inM g ((fun _ h => h) g hg)) (fun _ _ h => nomatch h)
      have h1 := h1.mut hC11 (fun g hg => hO.inM g ((fun _ h => h) g hg)) (fun _ _ h => nomatch h)
      have hb3 := hb3.chg hC11 (fun hg => hO.apart _ ((fun _ h => h) _ hg) (mem_l (List.mem_singleton.2 rfl)))
      have hC := hC.step hC11 (fun g hg => hO.inN g ((fun _ h => h) g hg))
      have hO := Own.join hO hC11 hOc11
      have hO := hO.perm (R := fi11x0 ++ (([g3]) ++ ([]))) (by simp)
      refine x_py 9 (.bool (!r12.1)) rfl (by kernel_rfl) (tg := 9) (by kernel_rfl) (congrArg Value.bool hc7) (fun _ => y_not rfl) (fun h => nomatch h) ?_
      refine x_p 10 (.bool (!r12.1)) rfl (by kernel_rfl)  (fun _ => y_pick_t (congrArg Value.bool hc7) rfl) (fun h => nomatch h) ?_
      refine x_p 11 (.bool (!r12.1)) rfl (by kernel_rfl)  (fun _ => y_assign rfl) (fun h => nomatch h) ?_
      refine x_end (by kernel_rfl) ?_
      clear hS
      refine wp_ret ?_
      cases hs
      exact ⟨_, fr_ovl 16 ⟨rfl, trivial⟩, hC⟩
    · skip
      obtain ⟨r9, hr9, hs⟩ := bind_some hs
      refine xk_cally (b := false) rfl (tg := 9) (by kernel_rfl) (congrArg Value.bool hc7) Bd170 rfl (c_impl_clone (M := M) p h1 hO.fut hr9) rfl (by rintro _ _ _ ⟨a13x0, n13x0, c13x0, f13x0, rfl, hC13, hv13x0, hOc13⟩; exact hS.ext hC13) ?_
      rintro _ w13 ⟨a13x0, n13x0, c13x0, f13x0, rfl, hC13, hv13x0, hOc13⟩
      have h0 := h0.ext hC13
      have h1 := h1.ext hC13
      have hb3 := hb3.chg hC13 (fun h => nomatch h)
      have hC := hC.ext hC13
      have hO := Own.join0 hO hC13 hOc13
      have hO := hO.perm (R := f13x0 ++ (([g3]) ++ ([]))) (by simp)
      have hS := hS.ext hC13
      refine x_one (i := 5) (by kernel_rfl) ?_
      refine xk_valy (b := false) (.agg #[(.int .i64 a_.1), (.slice pa0 pn0 pc0)]) rfl (tg := 9) (by kernel_rfl) (congrArg Value.bool hc7) (y_load rfl ((box_load Ag62 Sz62 hb3 [] [(.int .i64 a_.1), (.slice pa0 pn0 pc0)] [] rfl rfl (fun h => nomatch h)) _ (Chg.refl _ _))) rfl (fun _ => hS) ?_
      refine x_one (i := 8) (by kernel_rfl) ?_
      have hL16 := hO
      have hI16 := Own.lend (F := (f13x0 ++ ([]))) (R := ([g3]) ++ ([])) (Own.perm (hL16) (by simp))
      obtain ⟨r12, hr12, hs⟩ := bind_some hs
      refine xk_cally (b := true) rfl (tg := 9) (by kernel_rfl) (congrArg Value.bool hc7) Bd183 rfl (c_impl_closePartition (M := M) (a_.1, a_.2) r9 h0 hv13x0 hI16 hI16.fut hr12) rfl (fun h => nomatch h) ?_
      rintro _ w16 ⟨fi16x0, rfl, hC16, hvi16x0, hOc16⟩
      have hO := hO.perm (R := (f13x0 ++ ([])) ++ (([g3]) ++ ([]))) (by simp)
      have h0 := h0.mut hC16 (fun g hg => hO.inM g ((fun _ h => h) g hg)) (fun _ _ h => nomatch h)
      have h1 := h1.mut hC16 (fun g hg => hO.inM g ((fun _ h => h) g hg)) (fun _ _ h => nomatch h)
      have hb3 := hb3.chg hC16 (fun hg => hO.apart _ ((fun _ h => h) _ hg) (mem_l (List.mem_singleton.2 rfl)))
      have hC := hC.step hC16 (fun g hg => hO.inN g ((fun _ h => h) g hg))
      have hO := Own.join hO hC16 hOc16
      have hO := hO.perm (R := fi16x0 ++ (([g3]) ++ ([]))) (by simp)
      refine x_py 9 (.bool (!r12.1)) rfl (by kernel_rfl) (tg := 9) (by kernel_rfl) (congrArg Value.bool hc7) (fun _ => y_not rfl) (fun h => nomatch h) ?_
      refine x_p 10 (.bool (!r12.1)) rfl (by kernel_rfl)  (fun _ => y_pick_t (congrArg Value.bool hc7) rfl) (fun h => nomatch h) ?_
      refine x_p 11 (.bool (!r12.1)) rfl (by kernel_rfl)  (fun _ => y_assign rfl) (fun h => nomatch h) ?_
      refine x_end (by kernel_rfl) ?_
      clear hS
      refine wp_ret ?_
      cases hs
      exact ⟨_, fr_ovl 16 ⟨rfl, trivial⟩, hC⟩
  · skip
    refine x_pn 5 rfl (by kernel_rfl) (tg := 9) (by kernel_rfl) (congrArg Value.bool hc7) (fun _ => hS) ?_
    refine x_pn 6 rfl (by kernel_rfl) (tg := 9) (by kernel_rfl) (congrArg Value.bool hc7) (fun _ => hS) ?_
    refine x_pn 7 rfl (by kernel_rfl) (tg := 9) (by kernel_rfl) (congrArg Value.bool hc7) (fun _ => hS) ?_
    refine x_one (i := 8) (by kernel_rfl) ?_
    refine xk_no (b := true) rfl (tg := 9) (by kernel_rfl) (congrArg Value.bool hc7) rfl (fun h => nomatch h) ?_
    refine x_pn 9 rfl (by kernel_rfl) (tg := 9) (by kernel_rfl) (congrArg Value.bool hc7) (fun h => nomatch h) ?_
    refine x_p 10 (.bool false) rfl (by kernel_rfl)  (fun _ => y_pick_f (congrArg Value.bool hc7) rfl) (fun h => nomatch h) ?_
    refine x_p 11 (.bool false) rfl (by kernel_rfl)  (fun _ => y_assign rfl) (fun h => nomatch h) ?_
    refine x_end (by kernel_rfl) ?_
    clear hS
    refine wp_ret ?_
    cases hs
    exact ⟨_, fr_ovl 16 ⟨rfl, trivial⟩, hC⟩

theorem Bd98 : Bodied Try.prog 98 := bodied Try.func98 (by kernel_rfl) rfl

theorem Bd160 : Bodied Try.prog 160 := bodied Try.func160 (by kernel_rfl) rfl

def k_impl_areCongruences (M : Nat → Prop) (w0 : World) (r : Bool) (a : Act) (w : World) : Prop :=
  ∃ (σ : Nat → Value) , a = fr 26 (ovl σ [(4, (.bool r))]) ∧ Chg [] w0 w
def s_impl_areCongruences (a_ : Int × (List (Int × (List Int)))) (list : List (List Int)) : Option (Bool) :=
  ((s_impl_IsAlgebra (a_.1, a_.2)).bind fun r8 =>
  (bif (!r8) then some true else some (decide (20 < (list.length : Int))))).bind fun s4 =>
  (bif s4 then some false else (forR (S := Unit) (R := Bool) (fun _ x20 s17 =>
  (s_impl_isCongruence (a_.1, a_.2) x20).bind fun r27 =>
  (bif (!r27) then some (.rt false) else some (.nx ()))) 0 list ()).bind fun o21 => after o21 (fun r_ => some r_) (fun s17 =>
  some true))
set_option maxHeartbeats 4000000 in
theorem c_impl_areCongruences {M : Nat → Prop} {w : World} {pa0 : Option Addr} {pn0 pc0 : Nat} {pa1 : Option Addr} {pn1 pc1 : Nat} (a_ : Int × (List (Int × (List Int)))) (list : List (List Int)) (h0 : (RT.rs (RT.pr (RT.int .i64) (RT.rs (RT.int .i64)))).val M w (.slice pa0 pn0 pc0) a_.2 ([])) (h1 : (RT.rs (RT.rs (RT.int .i64))).val M w (.slice pa1 pn1 pc1) list ([])) (hM : ∀ g, w.heap.size ≤ g → M g) {r : Bool} (hs : s_impl_areCongruences a_ list = some r) :
    Gives Try.prog 112 [(.agg #[(.int .i64 a_.1), (.slice pa0 pn0 pc0)]), (.slice pa1 pn1 pc1)] w (fun v w' => v = (.bool r) ∧ Chg [] w w') := by
  refine calls_fr Try.func112 rfl Try.ntmps112 (Nat.le_of_ble_eq_true rfl) ?_
  have hO := Own.start (N := Nw w []) hM Nw.fut
  have hC := Chg.refl [] w
  unfold s_impl_areCongruences at hs
  refine wp_mono (Q := KPost (k_impl_areCongruences M w r)) ?_ (fun e a w1 h => ?_)
  rotate_left
  · cases e
    case ret =>
      obtain ⟨σ, rfl, hrest⟩ := h
      exact ret1x Try.results112 (res_tmp rfl) ⟨rfl, hrest⟩
    all_goals exact (h : False).elim
  refine c_seq ?_
  refine c_region ?_
  obtain ⟨w3, g3, ew3, eg3, hC3, hb3⟩ := new_block w [(.int .i64 a_.1), (.slice pa0 pn0 pc0)] 62
  refine pl_val (w' := w3) (.pointer (some ⟨g3, 0, none⟩)) (y_box rfl (by rw [ew3, eg3]; kernel_rfl)) ?_
  have h0 := h0.ext hC3
  have h1 := h1.ext hC3
  have hC := hC.ext hC3
  have hO := hO.new (X' := [g3]) hC3 (fun q hq => by rw [List.mem_singleton.1 hq, eg3]; exact Nat.le_refl _) (List.nodup_cons.2 ⟨(fun h => nomatch h), List.nodup_nil⟩) (fun q hq => by rw [List.mem_singleton.1 hq]; exact hb3.lt)
  refine pl_val (.bool false) (y_assign rfl) ?_
  refine c_nil ?_
  refine c_seq ?_
  refine c_seq ?_
  obtain ⟨s4, hm6, hs⟩ := bind_some hs
  refine c_mid (I := fun a w5 => ∃ (σ : Nat → Value), a = fr 26 (ovl σ [(1, (.slice pa1 pn1 pc1)), (2, (.pointer (some ⟨g3, 0, none⟩))), (4, (.bool false)), (14, (.bool s4))]) ∧ Chg [] w3 w5) ?_ ?_
  · replace hs := hm6
    have hMid := Chg.refl [] w3
    refine c_region ?_
    refine pl_val (.agg #[(.int .i64 a_.1), (.slice pa0 pn0 pc0)]) (y_load rfl ((box_load Ag62 Sz62 hb3 [] [(.int .i64 a_.1), (.slice pa0 pn0 pc0)] [] rfl rfl (fun h => nomatch h)) _ (Chg.refl _ _))) ?_
    obtain ⟨r8, hr8, hs⟩ := bind_some hs
    refine pl_call Bd98 rfl (c_impl_IsAlgebra (M := M) (a_.1, a_.2) h0 hO.fut hr8) ?_
    rintro _ w7 ⟨rfl, hC7⟩
    have h0 := h0.ext hC7
    have h1 := h1.ext hC7
    have hb3 := hb3.chg hC7 (fun h => nomatch h)
    have hMid := hMid.ext hC7
    have hC := hC.ext hC7
    have hO := hO.ext hC7
    refine pl_val (.bool (!r8)) (y_not rfl) ?_
    refine pl_val (.bool (!r8)) (y_move rfl) ?_
    rcases bif_some hs with ⟨hc9, hs⟩ | ⟨hc9, hs⟩
    · skip
      refine pl_not (tg := 10) (by kernel_rfl) (congrArg Value.bool hc9) ?_
      refine pl_not (tg := 10) (by kernel_rfl) (congrArg Value.bool hc9) ?_
      refine pl_not (tg := 10) (by kernel_rfl) (congrArg Value.bool hc9) ?_
      refine pl_val (.bool true) (y_pick_t (congrArg Value.bool hc9) rfl) ?_
      refine c_nil ?_
      cases hs
      exact ⟨_, fr_ovl 26 ⟨rfl, rfl, rfl, rfl, trivial⟩, hMid⟩
    · skip
      refine pl_yes (.slice pa1 pn1 pc1) (tg := 10) (by kernel_rfl) (congrArg Value.bool hc9) (y_move rfl) ?_
      refine pl_yes (.int .i64 (list.length : Int)) (tg := 10) (by kernel_rfl) (congrArg Value.bool hc9) (y_len' Sl29 (rs_len h1) rfl) ?_
      refine pl_yes (.bool (decide (20 < (list.length : Int)))) (tg := 10) (by kernel_rfl) (congrArg Value.bool hc9) (y_gtr rfl rfl) ?_
      refine pl_val (.bool (decide (20 < (list.length : Int)))) (y_pick_f (congrArg Value.bool hc9) rfl) ?_
      refine c_nil ?_
      cases hs
      exact ⟨_, fr_ovl 26 ⟨rfl, rfl, rfl, rfl, trivial⟩, hMid⟩
  · rintro a1 w5 ⟨σ, rfl, hCs4⟩
    have h0 := h0.ext hCs4
    have h1 := h1.ext hCs4
    have hb3 := hb3.chg hCs4 (fun h => nomatch h)
    have hC := hC.ext hCs4
    have hO := hO.ext hCs4
    rcases bif_some hs with ⟨hc10, hs⟩ | ⟨hc10, hs⟩
    · skip
      refine c_condT (congrArg Value.bool hc10) ?_
      refine c_seq ?_
      refine c_region ?_
      refine pl_val (.bool false) (y_assign rfl) ?_
      refine c_nil ?_
      refine wp_ret ?_
      cases hs
      exact ⟨_, fr_ovl 26 ⟨rfl, trivial⟩, hC⟩
    · skip
      refine c_condF (congrArg Value.bool hc10) ?_
      refine wp_skip ?_
      refine c_seq ?_
      refine c_seq ?_
      refine c_region ?_
      refine pl_val (.slice pa1 pn1 pc1) (y_move rfl) ?_
      refine pl_val (.int .i64 (list.length : Int)) (y_len' Sl29 (rs_len h1) rfl) ?_
      refine pl_val (.int .i64 0) (y_move rfl) ?_
      refine c_nil ?_
      obtain ⟨o21, hl22, hs⟩ := bind_some hs
      refine wp_block ?_
      refine wp_forR (id := 0) (I := fun i_ xs_ s17 a w18 => ∃ k19 : Nat, i_ = (k19 : Int) ∧ List.drop k19 list = xs_ ∧ (∃ (σ : Nat → Value), a = fr 26 (ovl σ [(2, (.pointer (some ⟨g3, 0, none⟩))), (15, (.slice pa1 pn1 pc1)), (16, (.int .i64 (list.length : Int))), (17, (.int .i64 (k19 : Int)))]) ∧ Chg [] w w18 ∧ Own (Nw w []) M w18 (([g3]) ++ []) ∧ (RT.rs (RT.pr (RT.int .i64) (RT.rs (RT.int .i64)))).val M w18 (.slice pa0 pn0 pc0) a_.2 ([]) ∧ (RT.rs (RT.rs (RT.int .i64))).val M w18 (.slice pa1 pn1 pc1) list ([]) ∧ BoxV w18 g3 62 [(.int .i64 a_.1), (.slice pa0 pn0 pc0)])) (J := fun s17 a w18 => ∃ (σ : Nat → Value), a = fr 26 (ovl σ []) ∧ Chg [] w w18 ∧ Own (Nw w []) M w18 (([g3]) ++ []) ∧ (RT.rs (RT.pr (RT.int .i64) (RT.rs (RT.int .i64)))).val M w18 (.slice pa0 pn0 pc0) a_.2 ([]) ∧ (RT.rs (RT.rs (RT.int .i64))).val M w18 (.slice pa1 pn1 pc1) list ([]) ∧ BoxV w18 g3 62 [(.int .i64 a_.1), (.slice pa0 pn0 pc0)]) (K := (k_impl_areCongruences M w)) ?_ ?_ list 0 () o21 _ _ ?_ hl22 ?_
      · rintro _ s17 a w18 ⟨k19, rfl, hd, σ, rfl, hC, hO, h0, h1, hb3⟩
        have hlt := drop_nil_ge hd
        refine c_seq ?_
        refine c_region ?_
        refine pl_val (.bool (decide ((k19 : Int) < (list.length : Int)))) (y_lss rfl rfl) ?_
        refine c_nil ?_
        refine c_seq ?_
        refine c_condF (congrArg Value.bool (decide_eq_false hlt)) ?_
        refine wp_exit ?_
        exact ⟨rfl, _, fr_ovl 26 trivial, hC, hO, h0, h1, hb3⟩
      · rintro _ x20 xs_ s17 o21 a w18 ⟨k19, rfl, hd, σ, rfl, hC, hO, h0, h1, hb3⟩ hs
        have hlt := drop_cons_lt hd
        have hxk19 := drop_cons_idx hd
        refine c_seq ?_
        refine c_region ?_
        refine pl_val (.bool (decide ((k19 : Int) < (list.length : Int)))) (y_lss rfl rfl) ?_
        refine c_nil ?_
        refine c_seq ?_
        refine c_condT (congrArg Value.bool (decide_eq_true hlt)) ?_
        refine wp_skip ?_
        refine c_seq ?_
        refine wp_block ?_
        refine c_seq ?_
        refine c_region ?_
        obtain ⟨b23, o23, hp23, ha23⟩ := rs_idx Sl29 Sz22 h1 hxk19
        refine pl_val (.pointer (some ⟨b23, o23, none⟩)) (hp23 _ _ _ _ _ _ _ _ _ rfl rfl) ?_
        obtain ⟨v24, hl24, hv24⟩ := at_load Ag22 Sz22 (fun _ => rfl) ha23
        obtain ⟨a24, n24, c24, rfl⟩ := rs_sl hv24
        refine pl_val (.slice a24 n24 c24) (y_load rfl (hl24 _ (Chg.refl _ _))) ?_
        refine pl_val (.slice a24 n24 c24) (y_assign rfl) ?_
        refine c_nil ?_
        refine c_seq ?_
        refine c_region ?_
        refine pl_val (.agg #[(.int .i64 a_.1), (.slice pa0 pn0 pc0)]) (y_load rfl ((box_load Ag62 Sz62 hb3 [] [(.int .i64 a_.1), (.slice pa0 pn0 pc0)] [] rfl rfl (fun h => nomatch h)) _ (Chg.refl _ _))) ?_
        refine pl_val (.slice a24 n24 c24) (y_move rfl) ?_
        obtain ⟨r27, hr27, hs⟩ := bind_some hs
        refine pl_call Bd160 rfl (c_impl_isCongruence (M := M) (a_.1, a_.2) x20 h0 hv24 hO.fut hr27) ?_
        rintro _ w26 ⟨rfl, hC26⟩
        have h0 := h0.ext hC26
        have h1 := h1.ext hC26
        have hb3 := hb3.chg hC26 (fun h => nomatch h)
        have hv24 := hv24.ext hC26
        have hC := hC.ext hC26
        have hO := hO.ext hC26
        refine pl_val (.bool (!r27)) (y_not rfl) ?_
        refine c_nil ?_
        rcases bif_some hs with ⟨hc28, hs⟩ | ⟨hc28, hs⟩
        · skip
          refine c_condT (congrArg Value.bool hc28) ?_
          refine c_seq ?_
          refine c_region ?_
          refine pl_val (.bool false) (y_assign rfl) ?_
          refine c_nil ?_
          refine wp_ret ?_
          cases hs
          exact ⟨_, fr_ovl 26 ⟨rfl, trivial⟩, hC⟩
        · skip
          refine c_condF (congrArg Value.bool hc28) ?_
          refine wp_skip ?_
          refine c_region ?_
          refine pl_val (.int .i64 (w64 ((k19 : Int) + 1))) (y_add rfl rfl) ?_
          refine pl_val (.int .i64 (w64 ((k19 : Int) + 1))) (y_move rfl) ?_
          refine c_nil ?_
          cases hs
          exact ⟨_, rfl, drop_cons_next hd, _, fr_ovl 26 ⟨rfl, rfl, rfl, congrArg (Value.int .i64) (w64_succ hlt (Int.natCast_nonneg _) (rs_max h1)), trivial⟩, hC, hO, h0, h1, hb3⟩
      · skip
        exact ⟨0, rfl, rfl, _, fr_ovl 26 ⟨rfl, rfl, rfl, rfl, trivial⟩, hC, hO, h0, h1, hb3⟩
      · cases o21 with
        | nx _ => exact True.intro
        | rt r_ =>
          have hs := after_rt hs
          intro a1 w1 hK
          cases hs
          exact hK
        | br s17 =>
          have hs := after_br hs
          rintro a1 w18 ⟨σ, rfl, hC, hO, h0, h1, hb3⟩
          refine c_seq ?_
          refine c_region ?_
          refine pl_val (.bool true) (y_assign rfl) ?_
          refine c_nil ?_
          refine wp_ret ?_
          cases hs
          exact ⟨_, fr_ovl 26 ⟨rfl, trivial⟩, hC⟩

theorem Bd112 : Bodied Try.prog 112 := bodied Try.func112 (by kernel_rfl) rfl

def k_impl_SolveTogether (M : Nat → Prop) (w0 : World) (r : Int × Bool) (a : Act) (w : World) : Prop :=
  ∃ (σ : Nat → Value) , a = fr 66 (ovl σ [(6, (.int .i64 r.1)), (7, (.bool r.2))]) ∧ Chg [] w0 w
def s_impl_SolveTogether (a_ : Int × (List (Int × (List Int)))) (congruences : List (List Int)) (elements : List Int) : Option (Int × Bool) :=
  ((s_impl_areCongruences (a_.1, a_.2) congruences).bind fun r9 =>
  (bif (!r9) then some true else (bif (decide (8 < (congruences.length : Int))) then some true else (bif ((elements.length : Int) != (congruences.length : Int)) then some true else (s_impl_inSize elements a_.1).bind fun r14 =>
  some (!r14))))).bind fun s5 =>
  (bif s5 then some (0, false) else (forC (S := Unit) (R := Int × Bool) (fun k49 s47 =>
  (forC (S := Bool) (R := Int × Bool) (fun k67 s65 =>
  (idx congruences k67).bind fun x71 =>
  (bif s65 then (idx x71 k49).bind fun x77 =>
  (idx elements k67).bind fun x79 =>
  (idx x71 x79).bind fun x81 =>
  some (.nx (x77 == x81)) else some (.nx false))) 0 (congruences.length : Int) true).bind fun o69 => after o69 (fun r_ => some (.rt r_)) (fun s65 =>
  (bif s65 then some (.rt (k49, true)) else some (.nx ())))) 0 a_.1 ()).bind fun o51 => after o51 (fun r_ => some r_) (fun s47 =>
  some (0, false)))
set_option maxHeartbeats 4000000 in
theorem c_impl_SolveTogether {M : Nat → Prop} {w : World} {pa0 : Option Addr} {pn0 pc0 : Nat} {pa1 : Option Addr} {pn1 pc1 : Nat} {pa2 : Option Addr} {pn2 pc2 : Nat} (a_ : Int × (List (Int × (List Int)))) (congruences : List (List Int)) (elements : List Int) (h0 : (RT.rs (RT.pr (RT.int .i64) (RT.rs (RT.int .i64)))).val M w (.slice pa0 pn0 pc0) a_.2 ([])) (h1 : (RT.rs (RT.rs (RT.int .i64))).val M w (.slice pa1 pn1 pc1) congruences ([])) (h2 : (RT.rs (RT.int .i64)).val M w (.slice pa2 pn2 pc2) elements ([])) (hM : ∀ g, w.heap.size ≤ g → M g) {r : Int × Bool} (hs : s_impl_SolveTogether a_ congruences elements = some r) :
    Gives Try.prog 51 [(.agg #[(.int .i64 a_.1), (.slice pa0 pn0 pc0)]), (.slice pa1 pn1 pc1), (.slice pa2 pn2 pc2)] w (fun v w' => v = (.tuple #[(.int .i64 r.1), (.bool r.2)]) ∧ Chg [] w w') := by
  refine calls_fr Try.func51 rfl Try.ntmps51 (Nat.le_of_ble_eq_true rfl) ?_
  have hO := Own.start (N := Nw w []) hM Nw.fut
  have hC := Chg.refl [] w
  unfold s_impl_SolveTogether at hs
  refine wp_mono (Q := KPost (k_impl_SolveTogether M w r)) ?_ (fun e a w1 h => ?_)
  rotate_left
  · cases e
    case ret =>
      obtain ⟨σ, rfl, hrest⟩ := h
      exact ret2x Try.results51 (res_tmp rfl) (res_tmp rfl) ⟨rfl, hrest⟩
    all_goals exact (h : False).elim
  refine c_seq ?_
  refine c_region ?_
  obtain ⟨w4, g4, ew4, eg4, hC4, hb4⟩ := new_block w [(.int .i64 a_.1), (.slice pa0 pn0 pc0)] 62
  refine pl_val (w' := w4) (.pointer (some ⟨g4, 0, none⟩)) (y_box rfl (by rw [ew4, eg4]; kernel_rfl)) ?_
  have h0 := h0.ext hC4
  have h1 := h1.ext hC4
  have h2 := h2.ext hC4
  have hC := hC.ext hC4
  have hO := hO.new (X' := [g4]) hC4 (fun q hq => by rw [List.mem_singleton.1 hq, eg4]; exact Nat.le_refl _) (List.nodup_cons.2 ⟨(fun h => nomatch h), List.nodup_nil⟩) (fun q hq => by rw [List.mem_singleton.1 hq]; exact hb4.lt)
  refine pl_val (.int .i64 0) (y_assign rfl) ?_
  refine pl_val (.bool false) (y_assign rfl) ?_
  refine c_nil ?_
  refine c_seq ?_
  refine c_seq ?_
  obtain ⟨s5, hm7, hs⟩ := bind_some hs
  refine c_mid (I := fun a w6 => ∃ (σ : Nat → Value), a = fr 66 (ovl σ [(1, (.slice pa1 pn1 pc1)), (2, (.slice pa2 pn2 pc2)), (3, (.pointer (some ⟨g4, 0, none⟩))), (6, (.int .i64 0)), (7, (.bool false)), (34, (.bool s5))]) ∧ Chg [] w4 w6) ?_ ?_
  · replace hs := hm7
    have hMid := Chg.refl [] w4
    refine c_region ?_
    refine pl_val (.agg #[(.int .i64 a_.1), (.slice pa0 pn0 pc0)]) (y_load rfl ((box_load Ag62 Sz62 hb4 [] [(.int .i64 a_.1), (.slice pa0 pn0 pc0)] [] rfl rfl (fun h => nomatch h)) _ (Chg.refl _ _))) ?_
    refine pl_val (.slice pa1 pn1 pc1) (y_move rfl) ?_
    obtain ⟨r9, hr9, hs⟩ := bind_some hs
    refine pl_call Bd112 rfl (c_impl_areCongruences (M := M) (a_.1, a_.2) congruences h0 h1 hO.fut hr9) ?_
    rintro _ w8 ⟨rfl, hC8⟩
    have h0 := h0.ext hC8
    have h1 := h1.ext hC8
    have h2 := h2.ext hC8
    have hb4 := hb4.chg hC8 (fun h => nomatch h)
    have hMid := hMid.ext hC8
    have hC := hC.ext hC8
    have hO := hO.ext hC8
    refine pl_val (.bool (!r9)) (y_not rfl) ?_
    refine pl_val (.bool (!r9)) (y_move rfl) ?_
    rcases bif_some hs with ⟨hc10, hs⟩ | ⟨hc10, hs⟩
    · skip
      refine pl_not (tg := 16) (by kernel_rfl) (congrArg Value.bool hc10) ?_
      refine pl_not (tg := 16) (by kernel_rfl) (congrArg Value.bool hc10) ?_
      refine pl_not (tg := 16) (by kernel_rfl) (congrArg Value.bool hc10) ?_
      refine pl_val (.bool true) (y_pick_t (congrArg Value.bool hc10) rfl) ?_
      refine pl_val (.bool true) (y_move rfl) ?_
      refine pl_not (tg := 21) (by kernel_rfl) (by rfl) ?_
      refine pl_not (tg := 21) (by kernel_rfl) (by rfl) ?_
      refine pl_not (tg := 21) (by kernel_rfl) (by rfl) ?_
      refine pl_not (tg := 21) (by kernel_rfl) (by rfl) ?_
      refine pl_not (tg := 21) (by kernel_rfl) (by rfl) ?_
      refine pl_val (.bool true) (y_pick_t (by rfl) rfl) ?_
      refine pl_val (.bool true) (y_move rfl) ?_
      refine pl_not (tg := 28) (by kernel_rfl) (by rfl) ?_
      refine pl_not (tg := 28) (by kernel_rfl) (by rfl) ?_
      refine pl_not (tg := 28) (by kernel_rfl) (by rfl) ?_
      refine pl_not (tg := 28) (by kernel_rfl) (by rfl) ?_
      refine pl_not (tg := 28) (by kernel_rfl) (by rfl) ?_
      refine pl_val (.bool true) (y_pick_t (by rfl) rfl) ?_
      refine c_nil ?_
      cases hs
      exact ⟨_, fr_ovl 66 ⟨rfl, rfl, rfl, rfl, rfl, rfl, trivial⟩, hMid⟩
    · skip
      refine pl_yes (.slice pa1 pn1 pc1) (tg := 16) (by kernel_rfl) (congrArg Value.bool hc10) (y_move rfl) ?_
      refine pl_yes (.int .i64 (congruences.length : Int)) (tg := 16) (by kernel_rfl) (congrArg Value.bool hc10) (y_len' Sl29 (rs_len h1) rfl) ?_
      refine pl_yes (.bool (decide (8 < (congruences.length : Int)))) (tg := 16) (by kernel_rfl) (congrArg Value.bool hc10) (y_gtr rfl rfl) ?_
      refine pl_val (.bool (decide (8 < (congruences.length : Int)))) (y_pick_f (congrArg Value.bool hc10) rfl) ?_
      refine pl_val (.bool (decide (8 < (congruences.length : Int)))) (y_move rfl) ?_
      rcases bif_some hs with ⟨hc11, hs⟩ | ⟨hc11, hs⟩
      · skip
        refine pl_not (tg := 21) (by kernel_rfl) (congrArg Value.bool hc11) ?_
        refine pl_not (tg := 21) (by kernel_rfl) (congrArg Value.bool hc11) ?_
        refine pl_not (tg := 21) (by kernel_rfl) (congrArg Value.bool hc11) ?_
        refine pl_not (tg := 21) (by kernel_rfl) (congrArg Value.bool hc11) ?_
        refine pl_not (tg := 21) (by kernel_rfl) (congrArg Value.bool hc11) ?_
        refine pl_val (.bool true) (y_pick_t (congrArg Value.bool hc11) rfl) ?_
        refine pl_val (.bool true) (y_move rfl) ?_
        refine pl_not (tg := 28) (by kernel_rfl) (by rfl) ?_
        refine pl_not (tg := 28) (by kernel_rfl) (by rfl) ?_
        refine pl_not (tg := 28) (by kernel_rfl) (by rfl) ?_
        refine pl_not (tg := 28) (by kernel_rfl) (by rfl) ?_
        refine pl_not (tg := 28) (by kernel_rfl) (by rfl) ?_
        refine pl_val (.bool true) (y_pick_t (by rfl) rfl) ?_
        refine c_nil ?_
        cases hs
        exact ⟨_, fr_ovl 66 ⟨rfl, rfl, rfl, rfl, rfl, rfl, trivial⟩, hMid⟩
      · skip
        refine pl_yes (.slice pa2 pn2 pc2) (tg := 21) (by kernel_rfl) (congrArg Value.bool hc11) (y_move rfl) ?_
        refine pl_yes (.int .i64 (elements.length : Int)) (tg := 21) (by kernel_rfl) (congrArg Value.bool hc11) (y_len' Sl22 (rs_len h2) rfl) ?_
        refine pl_yes (.slice pa1 pn1 pc1) (tg := 21) (by kernel_rfl) (congrArg Value.bool hc11) (y_move rfl) ?_
        refine pl_yes (.int .i64 (congruences.length : Int)) (tg := 21) (by kernel_rfl) (congrArg Value.bool hc11) (y_len' Sl29 (rs_len h1) rfl) ?_
        refine pl_yes (.bool ((elements.length : Int) != (congruences.length : Int))) (tg := 21) (by kernel_rfl) (congrArg Value.bool hc11) (y_neq rfl rfl) ?_
        refine pl_val (.bool ((elements.length : Int) != (congruences.length : Int))) (y_pick_f (congrArg Value.bool hc11) rfl) ?_
        refine pl_val (.bool ((elements.length : Int) != (congruences.length : Int))) (y_move rfl) ?_
        rcases bif_some hs with ⟨hc12, hs⟩ | ⟨hc12, hs⟩
        · skip
          refine pl_not (tg := 28) (by kernel_rfl) (congrArg Value.bool hc12) ?_
          refine pl_not (tg := 28) (by kernel_rfl) (congrArg Value.bool hc12) ?_
          refine pl_not (tg := 28) (by kernel_rfl) (congrArg Value.bool hc12) ?_
          refine pl_not (tg := 28) (by kernel_rfl) (congrArg Value.bool hc12) ?_
          refine pl_not (tg := 28) (by kernel_rfl) (congrArg Value.bool hc12) ?_
          refine pl_val (.bool true) (y_pick_t (congrArg Value.bool hc12) rfl) ?_
          refine c_nil ?_
          cases hs
          exact ⟨_, fr_ovl 66 ⟨rfl, rfl, rfl, rfl, rfl, rfl, trivial⟩, hMid⟩
        · skip
          refine pl_yes (.slice pa2 pn2 pc2) (tg := 28) (by kernel_rfl) (congrArg Value.bool hc12) (y_move rfl) ?_
          refine pl_yes (.pointer (some ⟨g4, 0, none⟩)) (tg := 28) (by kernel_rfl) (congrArg Value.bool hc12) (y_faddr rfl Fa62x0) ?_
          refine pl_yes (.int .i64 a_.1) (tg := 28) (by kernel_rfl) (congrArg Value.bool hc12) (y_load rfl ((box_load Ag3 Sz3 hb4 [] [(.int .i64 a_.1)] [(.slice pa0 pn0 pc0)] rfl rfl (fun _ => rfl)) _ (Chg.refl _ _))) ?_
          obtain ⟨r14, hr14, hs⟩ := bind_some hs
          refine pl_cally (tg := 28) (by kernel_rfl) (congrArg Value.bool hc12) Bd113 rfl (c_impl_inSize (M := M) elements a_.1 h2 hO.fut hr14) ?_
          rintro _ w13 ⟨rfl, hC13⟩
          have h0 := h0.ext hC13
          have h1 := h1.ext hC13
          have h2 := h2.ext hC13
          have hb4 := hb4.chg hC13 (fun h => nomatch h)
          have hMid := hMid.ext hC13
          have hC := hC.ext hC13
          have hO := hO.ext hC13
          refine pl_yes (.bool (!r14)) (tg := 28) (by kernel_rfl) (congrArg Value.bool hc12) (y_not rfl) ?_
          refine pl_val (.bool (!r14)) (y_pick_f (congrArg Value.bool hc12) rfl) ?_
          refine c_nil ?_
          cases hs
          exact ⟨_, fr_ovl 66 ⟨rfl, rfl, rfl, rfl, rfl, rfl, trivial⟩, hMid⟩
  · rintro a1 w6 ⟨σ, rfl, hCs5⟩
    have h0 := h0.ext hCs5
    have h1 := h1.ext hCs5
    have h2 := h2.ext hCs5
    have hb4 := hb4.chg hCs5 (fun h => nomatch h)
    have hC := hC.ext hCs5
    have hO := hO.ext hCs5
    rcases bif_some hs with ⟨hc15, hs⟩ | ⟨hc15, hs⟩
    · skip
      refine c_condT (congrArg Value.bool hc15) ?_
      refine c_seq ?_
      refine c_region ?_
      refine pl_val (.int .i64 0) (y_assign rfl) ?_
      refine pl_val (.bool false) (y_assign rfl) ?_
      refine c_nil ?_
      refine wp_ret ?_
      cases hs
      exact ⟨_, fr_ovl 66 ⟨rfl, rfl, trivial⟩, hC⟩
    · skip
      refine c_condF (congrArg Value.bool hc15) ?_
      refine wp_skip ?_
      refine c_seq ?_
      refine c_seq ?_
      refine c_region ?_
      refine pl_val (.int .i64 0) (y_assign rfl) ?_
      refine c_nil ?_
      obtain ⟨o51, hl52, hs⟩ := bind_some hs
      refine wp_block ?_
      refine wp_forC (id := 0) a_.1 (I := fun k49 s47 a w48 => ∃ (σ : Nat → Value), a = fr 66 (ovl σ [(1, (.slice pa1 pn1 pc1)), (2, (.slice pa2 pn2 pc2)), (3, (.pointer (some ⟨g4, 0, none⟩))), (8, (.int .i64 k49))]) ∧ Chg [] w w48 ∧ Own (Nw w []) M w48 (([g4]) ++ []) ∧ (RT.rs (RT.pr (RT.int .i64) (RT.rs (RT.int .i64)))).val M w48 (.slice pa0 pn0 pc0) a_.2 ([]) ∧ (RT.rs (RT.rs (RT.int .i64))).val M w48 (.slice pa1 pn1 pc1) congruences ([]) ∧ (RT.rs (RT.int .i64)).val M w48 (.slice pa2 pn2 pc2) elements ([]) ∧ BoxV w48 g4 62 [(.int .i64 a_.1), (.slice pa0 pn0 pc0)]) (J := fun s47 a w48 => ∃ (σ : Nat → Value), a = fr 66 (ovl σ []) ∧ Chg [] w w48 ∧ Own (Nw w []) M w48 (([g4]) ++ []) ∧ (RT.rs (RT.pr (RT.int .i64) (RT.rs (RT.int .i64)))).val M w48 (.slice pa0 pn0 pc0) a_.2 ([]) ∧ (RT.rs (RT.rs (RT.int .i64))).val M w48 (.slice pa1 pn1 pc1) congruences ([]) ∧ (RT.rs (RT.int .i64)).val M w48 (.slice pa2 pn2 pc2) elements ([]) ∧ BoxV w48 g4 62 [(.int .i64 a_.1), (.slice pa0 pn0 pc0)]) (K := (k_impl_SolveTogether M w)) ?_ ?_ 0 () o51 _ _ ?_ hl52 ?_
      · rintro k49 s47 a w48 ⟨σ, rfl, hC, hO, h0, h1, h2, hb4⟩ hlt
        refine c_seq ?_
        refine c_seq ?_
        refine c_region ?_
        refine pl_val (.int .i64 k49) (y_move rfl) ?_
        refine pl_val (.pointer (some ⟨g4, 0, none⟩)) (y_faddr rfl Fa62x0) ?_
        refine pl_val (.int .i64 a_.1) (y_load rfl ((box_load Ag3 Sz3 hb4 [] [(.int .i64 a_.1)] [(.slice pa0 pn0 pc0)] rfl rfl (fun _ => rfl)) _ (Chg.refl _ _))) ?_
        refine pl_val (.bool (decide (k49 < a_.1))) (y_lss rfl rfl) ?_
        refine c_nil ?_
        refine c_condF (congrArg Value.bool (decide_eq_false hlt)) ?_
        refine wp_exit ?_
        exact ⟨rfl, _, fr_ovl 66 trivial, hC, hO, h0, h1, h2, hb4⟩
      · rintro k49 s47 o51 a w48 ⟨σ, rfl, hC, hO, h0, h1, h2, hb4⟩ hlt hw hs
        refine c_seq ?_
        refine c_seq ?_
        refine c_region ?_
        refine pl_val (.int .i64 k49) (y_move rfl) ?_
        refine pl_val (.pointer (some ⟨g4, 0, none⟩)) (y_faddr rfl Fa62x0) ?_
        refine pl_val (.int .i64 a_.1) (y_load rfl ((box_load Ag3 Sz3 hb4 [] [(.int .i64 a_.1)] [(.slice pa0 pn0 pc0)] rfl rfl (fun _ => rfl)) _ (Chg.refl _ _))) ?_
        refine pl_val (.bool (decide (k49 < a_.1))) (y_lss rfl rfl) ?_
        refine c_nil ?_
        refine c_condT (congrArg Value.bool (decide_eq_true hlt)) ?_
        refine wp_skip ?_
        refine c_seq ?_
        refine wp_block ?_
        refine c_seq ?_
        refine c_region ?_
        refine pl_val (.bool true) (y_assign rfl) ?_
        refine c_nil ?_
        refine c_seq ?_
        refine c_seq ?_
        refine c_region ?_
        refine pl_val (.slice pa1 pn1 pc1) (y_move rfl) ?_
        refine pl_val (.int .i64 (congruences.length : Int)) (y_len' Sl29 (rs_len h1) rfl) ?_
        refine pl_val (.int .i64 0) (y_move rfl) ?_
        refine c_nil ?_
        obtain ⟨o69, hl70, hs⟩ := bind_some hs
        refine wp_block ?_
        refine wp_forC (id := 2) (congruences.length : Int) (I := fun k67 s65 a w66 => ∃ (σ : Nat → Value), a = fr 66 (ovl σ [(1, (.slice pa1 pn1 pc1)), (2, (.slice pa2 pn2 pc2)), (3, (.pointer (some ⟨g4, 0, none⟩))), (8, (.int .i64 k49)), (9, (.bool s65)), (41, (.slice pa1 pn1 pc1)), (42, (.int .i64 (congruences.length : Int))), (43, (.int .i64 k67))]) ∧ Chg [] w w66 ∧ Own (Nw w []) M w66 (([g4]) ++ []) ∧ (RT.rs (RT.pr (RT.int .i64) (RT.rs (RT.int .i64)))).val M w66 (.slice pa0 pn0 pc0) a_.2 ([]) ∧ (RT.rs (RT.rs (RT.int .i64))).val M w66 (.slice pa1 pn1 pc1) congruences ([]) ∧ (RT.rs (RT.int .i64)).val M w66 (.slice pa2 pn2 pc2) elements ([]) ∧ BoxV w66 g4 62 [(.int .i64 a_.1), (.slice pa0 pn0 pc0)]) (J := fun s65 a w66 => ∃ (σ : Nat → Value), a = fr 66 (ovl σ [(1, (.slice pa1 pn1 pc1)), (2, (.slice pa2 pn2 pc2)), (3, (.pointer (some ⟨g4, 0, none⟩))), (8, (.int .i64 k49)), (9, (.bool s65))]) ∧ Chg [] w w66 ∧ Own (Nw w []) M w66 (([g4]) ++ []) ∧ (RT.rs (RT.pr (RT.int .i64) (RT.rs (RT.int .i64)))).val M w66 (.slice pa0 pn0 pc0) a_.2 ([]) ∧ (RT.rs (RT.rs (RT.int .i64))).val M w66 (.slice pa1 pn1 pc1) congruences ([]) ∧ (RT.rs (RT.int .i64)).val M w66 (.slice pa2 pn2 pc2) elements ([]) ∧ BoxV w66 g4 62 [(.int .i64 a_.1), (.slice pa0 pn0 pc0)]) (K := (k_impl_SolveTogether M w)) ?_ ?_ 0 true o69 _ _ ?_ hl70 ?_
        · rintro k67 s65 a w66 ⟨σ, rfl, hC, hO, h0, h1, h2, hb4⟩ hlt
          refine c_seq ?_
          refine c_region ?_
          refine pl_val (.bool (decide (k67 < (congruences.length : Int)))) (y_lss rfl rfl) ?_
          refine c_nil ?_
          refine c_seq ?_
          refine c_condF (congrArg Value.bool (decide_eq_false hlt)) ?_
          refine wp_exit ?_
          exact ⟨rfl, _, fr_ovl 66 ⟨rfl, rfl, rfl, rfl, rfl, trivial⟩, hC, hO, h0, h1, h2, hb4⟩
        · rintro k67 s65 o69 a w66 ⟨σ, rfl, hC, hO, h0, h1, h2, hb4⟩ hlt hw hs
          refine c_seq ?_
          refine c_region ?_
          refine pl_val (.bool (decide (k67 < (congruences.length : Int)))) (y_lss rfl rfl) ?_
          refine c_nil ?_
          refine c_seq ?_
          refine c_condT (congrArg Value.bool (decide_eq_true hlt)) ?_
          refine wp_skip ?_
          refine c_seq ?_
          refine wp_block ?_
          refine c_seq ?_
          refine c_region ?_
          refine pl_val (.int .i64 k67) (y_move rfl) ?_
          obtain ⟨x71, hx71, hs⟩ := bind_some hs
          obtain ⟨b72, o72, hp72, ha72⟩ := rs_idx Sl29 Sz22 h1 hx71
          refine pl_val (.pointer (some ⟨b72, o72, none⟩)) (hp72 _ _ _ _ _ _ _ _ _ rfl rfl) ?_
          obtain ⟨v73, hl73, hv73⟩ := at_load Ag22 Sz22 (fun _ => rfl) ha72
          obtain ⟨a73, n73, c73, rfl⟩ := rs_sl hv73
          refine pl_val (.slice a73 n73 c73) (y_load rfl (hl73 _ (Chg.refl _ _))) ?_
          refine pl_val (.int .i64 k67) (y_assign rfl) ?_
          refine pl_val (.slice a73 n73 c73) (y_assign rfl) ?_
          refine c_nil ?_
          refine x_start [] Mx rfl ?_
          have hCw75 := Chg.drew w66
          generalize World.drew w66 = w75 at hCw75 ⊢
          have h0 := h0.ext hCw75
          have h1 := h1.ext hCw75
          have h2 := h2.ext hCw75
          have hb4 := hb4.chg hCw75 (fun h => nomatch h)
          have hv73 := hv73.ext hCw75
          have hC := hC.ext hCw75
          have hO := hO.ext hCw75
          have hS := Chg.refl [] w75
          refine x_p 0 (.bool s65) rfl (by kernel_rfl)  (fun _ => y_move rfl) (fun _ => hS) ?_
          refine x_p 1 (.bool s65) rfl (by kernel_rfl)  (fun _ => y_move rfl) (fun _ => hS) ?_
          rcases bif_some hs with ⟨hc76, hs⟩ | ⟨hc76, hs⟩
          · skip
            refine x_py 2 (.slice a73 n73 c73) rfl (by kernel_rfl) (tg := 49) (by kernel_rfl) (congrArg Value.bool hc76) (fun _ => y_move rfl) (fun _ => hS) ?_
            refine x_py 3 (.int .i64 k49) rfl (by kernel_rfl) (tg := 49) (by kernel_rfl) (congrArg Value.bool hc76) (fun _ => y_move rfl) (fun _ => hS) ?_
            obtain ⟨x77, hx77, hs⟩ := bind_some hs
            obtain ⟨b78, o78, hp78, ha78⟩ := rs_idx Sl22 Sz3 hv73 hx77
            refine x_py 4 (.pointer (some ⟨b78, o78, none⟩)) rfl (by kernel_rfl) (tg := 49) (by kernel_rfl) (congrArg Value.bool hc76) (fun _ => hp78 _ _ _ _ _ _ _ _ _ rfl rfl) (fun _ => hS) ?_
            refine x_ly 5 (.int .i64 x77) rfl (by kernel_rfl) (tg := 49) (by kernel_rfl) (congrArg Value.bool hc76) (fun w' hw' => y_load rfl ((at_load_int Ag3 Sz3 ha78) w' hw')) hS ?_
            refine x_py 6 (.slice a73 n73 c73) rfl (by kernel_rfl) (tg := 49) (by kernel_rfl) (congrArg Value.bool hc76) (fun _ => y_move rfl) (fun _ => hS) ?_
            refine x_py 7 (.slice pa2 pn2 pc2) rfl (by kernel_rfl) (tg := 49) (by kernel_rfl) (congrArg Value.bool hc76) (fun _ => y_move rfl) (fun _ => hS) ?_
            refine x_py 8 (.int .i64 k67) rfl (by kernel_rfl) (tg := 49) (by kernel_rfl) (congrArg Value.bool hc76) (fun _ => y_move rfl) (fun _ => hS) ?_
            obtain ⟨x79, hx79, hs⟩ := bind_some hs
            obtain ⟨b80, o80, hp80, ha80⟩ := rs_idx Sl22 Sz3 h2 hx79
            refine x_py 9 (.pointer (some ⟨b80, o80, none⟩)) rfl (by kernel_rfl) (tg := 49) (by kernel_rfl) (congrArg Value.bool hc76) (fun _ => hp80 _ _ _ _ _ _ _ _ _ rfl rfl) (fun _ => hS) ?_
            refine x_ly 10 (.int .i64 x79) rfl (by kernel_rfl) (tg := 49) (by kernel_rfl) (congrArg Value.bool hc76) (fun w' hw' => y_load rfl ((at_load_int Ag3 Sz3 ha80) w' hw')) hS ?_
            obtain ⟨x81, hx81, hs⟩ := bind_some hs
            obtain ⟨b82, o82, hp82, ha82⟩ := rs_idx Sl22 Sz3 hv73 hx81
            refine x_py 11 (.pointer (some ⟨b82, o82, none⟩)) rfl (by kernel_rfl) (tg := 49) (by kernel_rfl) (congrArg Value.bool hc76) (fun _ => hp82 _ _ _ _ _ _ _ _ _ rfl rfl) (fun _ => hS) ?_
            refine x_ly 12 (.int .i64 x81) rfl (by kernel_rfl) (tg := 49) (by kernel_rfl) (congrArg Value.bool hc76) (fun w' hw' => y_load rfl ((at_load_int Ag3 Sz3 ha82) w' hw')) hS ?_
            refine x_py 13 (.bool (x77 == x81)) rfl (by kernel_rfl) (tg := 49) (by kernel_rfl) (congrArg Value.bool hc76) (fun _ => y_eql rfl rfl) (fun _ => hS) ?_
            refine x_p 14 (.bool (x77 == x81)) rfl (by kernel_rfl)  (fun _ => y_pick_t (congrArg Value.bool hc76) rfl) (fun _ => hS) ?_
            refine x_p 15 (.bool (x77 == x81)) rfl (by kernel_rfl)  (fun _ => y_assign rfl) (fun _ => hS) ?_
            refine x_end (by kernel_rfl) ?_
            clear hS
            refine c_region ?_
            refine pl_val (.int .i64 (w64 (k67 + 1))) (y_add rfl rfl) ?_
            refine pl_val (.int .i64 (w64 (k67 + 1))) (y_move rfl) ?_
            refine c_nil ?_
            cases hs
            exact ⟨_, fr_ovl 66 ⟨rfl, rfl, rfl, rfl, rfl, rfl, rfl, congrArg (Value.int .i64) hw, trivial⟩, hC, hO, h0, h1, h2, hb4⟩
          · skip
            refine x_pn 2 rfl (by kernel_rfl) (tg := 49) (by kernel_rfl) (congrArg Value.bool hc76) (fun _ => hS) ?_
            refine x_pn 3 rfl (by kernel_rfl) (tg := 49) (by kernel_rfl) (congrArg Value.bool hc76) (fun _ => hS) ?_
            refine x_pn 4 rfl (by kernel_rfl) (tg := 49) (by kernel_rfl) (congrArg Value.bool hc76) (fun _ => hS) ?_
            refine x_pn 5 rfl (by kernel_rfl) (tg := 49) (by kernel_rfl) (congrArg Value.bool hc76) (fun _ => hS) ?_
            refine x_pn 6 rfl (by kernel_rfl) (tg := 49) (by kernel_rfl) (congrArg Value.bool hc76) (fun _ => hS) ?_
            refine x_pn 7 rfl (by kernel_rfl) (tg := 49) (by kernel_rfl) (congrArg Value.bool hc76) (fun _ => hS) ?_
            refine x_pn 8 rfl (by kernel_rfl) (tg := 49) (by kernel_rfl) (congrArg Value.bool hc76) (fun _ => hS) ?_
            refine x_pn 9 rfl (by kernel_rfl) (tg := 49) (by kernel_rfl) (congrArg Value.bool hc76) (fun _ => hS) ?_
            refine x_pn 10 rfl (by kernel_rfl) (tg := 49) (by kernel_rfl) (congrArg Value.bool hc76) (fun _ => hS) ?_
            refine x_pn 11 rfl (by kernel_rfl) (tg := 49) (by kernel_rfl) (congrArg Value.bool hc76) (fun _ => hS) ?_
            refine x_pn 12 rfl (by kernel_rfl) (tg := 49) (by kernel_rfl) (congrArg Value.bool hc76) (fun _ => hS) ?_
            refine x_pn 13 rfl (by kernel_rfl) (tg := 49) (by kernel_rfl) (congrArg Value.bool hc76) (fun _ => hS) ?_
            refine x_p 14 (.bool false) rfl (by kernel_rfl)  (fun _ => y_pick_f (congrArg Value.bool hc76) rfl) (fun _ => hS) ?_
            refine x_p 15 (.bool false) rfl (by kernel_rfl)  (fun _ => y_assign rfl) (fun _ => hS) ?_
            refine x_end (by kernel_rfl) ?_
            clear hS
            refine c_region ?_
            refine pl_val (.int .i64 (w64 (k67 + 1))) (y_add rfl rfl) ?_
            refine pl_val (.int .i64 (w64 (k67 + 1))) (y_move rfl) ?_
            refine c_nil ?_
            cases hs
            exact ⟨_, fr_ovl 66 ⟨rfl, rfl, rfl, rfl, rfl, rfl, rfl, congrArg (Value.int .i64) hw, trivial⟩, hC, hO, h0, h1, h2, hb4⟩
        · skip
          exact ⟨_, fr_ovl 66 ⟨rfl, rfl, rfl, rfl, rfl, rfl, rfl, rfl, trivial⟩, hC, hO, h0, h1, h2, hb4⟩
        · cases o69 with
          | nx _ => exact True.intro
          | rt r_ =>
            have hs := after_rt hs
            intro a1 w1 hK
            cases hs
            exact hK
          | br s65 =>
            have hs := after_br hs
            rintro a1 w66 ⟨σ, rfl, hC, hO, h0, h1, h2, hb4⟩
            refine c_seq ?_
            refine c_region ?_
            refine pl_val (.bool s65) (y_move rfl) ?_
            refine c_nil ?_
            rcases bif_some hs with ⟨hc83, hs⟩ | ⟨hc83, hs⟩
            · skip
              refine c_condT (congrArg Value.bool hc83) ?_
              refine c_seq ?_
              refine c_region ?_
              refine pl_val (.int .i64 k49) (y_move rfl) ?_
              refine pl_val (.int .i64 k49) (y_assign rfl) ?_
              refine pl_val (.bool true) (y_assign rfl) ?_
              refine c_nil ?_
              refine wp_ret ?_
              cases hs
              exact ⟨_, fr_ovl 66 ⟨rfl, rfl, trivial⟩, hC⟩
            · skip
              refine c_condF (congrArg Value.bool hc83) ?_
              refine wp_skip ?_
              refine c_region ?_
              refine pl_val (.int .i64 k49) (y_move rfl) ?_
              refine pl_val (.int .i64 (w64 (k49 + 1))) (y_add rfl rfl) ?_
              refine pl_val (.int .i64 (w64 (k49 + 1))) (y_assign rfl) ?_
              refine c_nil ?_
              cases hs
              exact ⟨_, fr_ovl 66 ⟨rfl, rfl, rfl, congrArg (Value.int .i64) hw, trivial⟩, hC, hO, h0, h1, h2, hb4⟩
      · skip
        exact ⟨_, fr_ovl 66 ⟨rfl, rfl, rfl, rfl, trivial⟩, hC, hO, h0, h1, h2, hb4⟩
      · cases o51 with
        | nx _ => exact True.intro
        | rt r_ =>
          have hs := after_rt hs
          intro a1 w1 hK
          cases hs
          exact hK
        | br s47 =>
          have hs := after_br hs
          rintro a1 w48 ⟨σ, rfl, hC, hO, h0, h1, h2, hb4⟩
          refine c_seq ?_
          refine c_region ?_
          refine pl_val (.int .i64 0) (y_assign rfl) ?_
          refine pl_val (.bool false) (y_assign rfl) ?_
          refine c_nil ?_
          refine wp_ret ?_
          cases hs
          exact ⟨_, fr_ovl 66 ⟨rfl, rfl, trivial⟩, hC⟩

def k_laws_eqIntS (M : Nat → Prop) (w0 : World) (r : Bool) (a : Act) (w : World) : Prop :=
  ∃ (σ : Nat → Value) , a = fr 26 (ovl σ [(4, (.bool r))]) ∧ Chg [] w0 w
def s_laws_eqIntS (a_ : List Int) (b : List Int) : Option (Bool) :=
  (bif ((a_.length : Int) != (b.length : Int)) then some false else (forC (S := Unit) (R := Bool) (fun k12 s10 =>
  (idx a_ k12).bind fun x17 =>
  (idx b k12).bind fun x19 =>
  (bif (x17 != x19) then some (.rt false) else some (.nx ()))) 0 (a_.length : Int) ()).bind fun o14 => after o14 (fun r_ => some r_) (fun s10 =>
  some true))
set_option maxHeartbeats 4000000 in
theorem c_laws_eqIntS {M : Nat → Prop} {w : World} {pa0 : Option Addr} {pn0 pc0 : Nat} {pa1 : Option Addr} {pn1 pc1 : Nat} (a_ : List Int) (b : List Int) (h0 : (RT.rs (RT.int .i64)).val M w (.slice pa0 pn0 pc0) a_ ([])) (h1 : (RT.rs (RT.int .i64)).val M w (.slice pa1 pn1 pc1) b ([])) (hM : ∀ g, w.heap.size ≤ g → M g) {r : Bool} (hs : s_laws_eqIntS a_ b = some r) :
    Gives Try.prog 18 [(.slice pa0 pn0 pc0), (.slice pa1 pn1 pc1)] w (fun v w' => v = (.bool r) ∧ Chg [] w w') := by
  refine calls_fr Try.func18 rfl Try.ntmps18 (Nat.le_of_ble_eq_true rfl) ?_
  have hO := Own.start (N := Nw w []) hM Nw.fut
  have hC := Chg.refl [] w
  unfold s_laws_eqIntS at hs
  refine wp_mono (Q := KPost (k_laws_eqIntS M w r)) ?_ (fun e a w1 h => ?_)
  rotate_left
  · cases e
    case ret =>
      obtain ⟨σ, rfl, hrest⟩ := h
      exact ret1x Try.results18 (res_tmp rfl) ⟨rfl, hrest⟩
    all_goals exact (h : False).elim
  refine c_seq ?_
  refine c_region ?_
  refine pl_val (.bool false) (y_assign rfl) ?_
  refine c_nil ?_
  refine c_seq ?_
  refine c_seq ?_
  refine c_region ?_
  refine pl_val (.slice pa0 pn0 pc0) (y_move rfl) ?_
  refine pl_val (.int .i64 (a_.length : Int)) (y_len' Sl22 (rs_len h0) rfl) ?_
  refine pl_val (.slice pa1 pn1 pc1) (y_move rfl) ?_
  refine pl_val (.int .i64 (b.length : Int)) (y_len' Sl22 (rs_len h1) rfl) ?_
  refine pl_val (.bool ((a_.length : Int) != (b.length : Int))) (y_neq rfl rfl) ?_
  refine c_nil ?_
  rcases bif_some hs with ⟨hc3, hs⟩ | ⟨hc3, hs⟩
  · skip
    refine c_condT (congrArg Value.bool hc3) ?_
    refine c_seq ?_
    refine c_region ?_
    refine pl_val (.bool false) (y_assign rfl) ?_
    refine c_nil ?_
    refine wp_ret ?_
    cases hs
    exact ⟨_, fr_ovl 26 ⟨rfl, trivial⟩, hC⟩
  · skip
    refine c_condF (congrArg Value.bool hc3) ?_
    refine wp_skip ?_
    refine c_seq ?_
    refine c_seq ?_
    refine c_region ?_
    refine pl_val (.int .i64 0) (y_assign rfl) ?_
    refine c_nil ?_
    obtain ⟨o14, hl15, hs⟩ := bind_some hs
    refine wp_block ?_
    refine wp_forC (id := 0) (a_.length : Int) (I := fun k12 s10 a w11 => ∃ (σ : Nat → Value), a = fr 26 (ovl σ [(0, (.slice pa0 pn0 pc0)), (1, (.slice pa1 pn1 pc1)), (5, (.int .i64 k12))]) ∧ Chg [] w w11 ∧ Own (Nw w []) M w11 ([]) ∧ (RT.rs (RT.int .i64)).val M w11 (.slice pa0 pn0 pc0) a_ ([]) ∧ (RT.rs (RT.int .i64)).val M w11 (.slice pa1 pn1 pc1) b ([])) (J := fun s10 a w11 => ∃ (σ : Nat → Value), a = fr 26 (ovl σ []) ∧ Chg [] w w11 ∧ Own (Nw w []) M w11 ([]) ∧ (RT.rs (RT.int .i64)).val M w11 (.slice pa0 pn0 pc0) a_ ([]) ∧ (RT.rs (RT.int .i64)).val M w11 (.slice pa1 pn1 pc1) b ([])) (K := (k_laws_eqIntS M w)) ?_ ?_ 0 () o14 _ _ ?_ hl15 ?_
    · rintro k12 s10 a w11 ⟨σ, rfl, hC, hO, h0, h1⟩ hlt
      refine c_seq ?_
      refine c_seq ?_
      refine c_region ?_
      refine pl_val (.int .i64 k12) (y_move rfl) ?_
      refine pl_val (.slice pa0 pn0 pc0) (y_move rfl) ?_
      refine pl_val (.int .i64 (a_.length : Int)) (y_len' Sl22 (rs_len h0) rfl) ?_
      refine pl_val (.bool (decide (k12 < (a_.length : Int)))) (y_lss rfl rfl) ?_
      refine c_nil ?_
      refine c_condF (congrArg Value.bool (decide_eq_false hlt)) ?_
      refine wp_exit ?_
      exact ⟨rfl, _, fr_ovl 26 trivial, hC, hO, h0, h1⟩
    · rintro k12 s10 o14 a w11 ⟨σ, rfl, hC, hO, h0, h1⟩ hlt hw hs
      refine c_seq ?_
      refine c_seq ?_
      refine c_region ?_
      refine pl_val (.int .i64 k12) (y_move rfl) ?_
      refine pl_val (.slice pa0 pn0 pc0) (y_move rfl) ?_
      refine pl_val (.int .i64 (a_.length : Int)) (y_len' Sl22 (rs_len h0) rfl) ?_
      refine pl_val (.bool (decide (k12 < (a_.length : Int)))) (y_lss rfl rfl) ?_
      refine c_nil ?_
      refine c_condT (congrArg Value.bool (decide_eq_true hlt)) ?_
      refine wp_skip ?_
      refine c_seq ?_
      refine wp_block ?_
      refine c_seq ?_
      refine x_start [] Mx rfl ?_
      have hCw16 := Chg.drew w11
      generalize World.drew w11 = w16 at hCw16 ⊢
      have h0 := h0.ext hCw16
      have h1 := h1.ext hCw16
      have hC := hC.ext hCw16
      have hO := hO.ext hCw16
      have hS := Chg.refl [] w16
      refine x_p 0 (.slice pa0 pn0 pc0) rfl (by kernel_rfl)  (fun _ => y_move rfl) (fun _ => hS) ?_
      refine x_p 1 (.int .i64 k12) rfl (by kernel_rfl)  (fun _ => y_move rfl) (fun _ => hS) ?_
      obtain ⟨x17, hx17, hs⟩ := bind_some hs
      obtain ⟨b18, o18, hp18, ha18⟩ := rs_idx Sl22 Sz3 h0 hx17
      refine x_p 2 (.pointer (some ⟨b18, o18, none⟩)) rfl (by kernel_rfl)  (fun _ => hp18 _ _ _ _ _ _ _ _ _ rfl rfl) (fun _ => hS) ?_
      refine x_l 3 (.int .i64 x17) rfl (by kernel_rfl)  (fun w' hw' => y_load rfl ((at_load_int Ag3 Sz3 ha18) w' hw')) hS ?_
      refine x_p 4 (.slice pa1 pn1 pc1) rfl (by kernel_rfl)  (fun _ => y_move rfl) (fun _ => hS) ?_
      refine x_p 5 (.int .i64 k12) rfl (by kernel_rfl)  (fun _ => y_move rfl) (fun _ => hS) ?_
      obtain ⟨x19, hx19, hs⟩ := bind_some hs
      obtain ⟨b20, o20, hp20, ha20⟩ := rs_idx Sl22 Sz3 h1 hx19
      refine x_p 6 (.pointer (some ⟨b20, o20, none⟩)) rfl (by kernel_rfl)  (fun _ => hp20 _ _ _ _ _ _ _ _ _ rfl rfl) (fun _ => hS) ?_
      refine x_l 7 (.int .i64 x19) rfl (by kernel_rfl)  (fun w' hw' => y_load rfl ((at_load_int Ag3 Sz3 ha20) w' hw')) hS ?_
      refine x_p 8 (.bool (x17 != x19)) rfl (by kernel_rfl)  (fun _ => y_neq rfl rfl) (fun _ => hS) ?_
      refine x_end (by kernel_rfl) ?_
      clear hS
      rcases bif_some hs with ⟨hc21, hs⟩ | ⟨hc21, hs⟩
      · skip
        refine c_condT (congrArg Value.bool hc21) ?_
        refine c_seq ?_
        refine c_region ?_
        refine pl_val (.bool false) (y_assign rfl) ?_
        refine c_nil ?_
        refine wp_ret ?_
        cases hs
        exact ⟨_, fr_ovl 26 ⟨rfl, trivial⟩, hC⟩
      · skip
        refine c_condF (congrArg Value.bool hc21) ?_
        refine wp_skip ?_
        refine c_region ?_
        refine pl_val (.int .i64 k12) (y_move rfl) ?_
        refine pl_val (.int .i64 (w64 (k12 + 1))) (y_add rfl rfl) ?_
        refine pl_val (.int .i64 (w64 (k12 + 1))) (y_assign rfl) ?_
        refine c_nil ?_
        cases hs
        exact ⟨_, fr_ovl 26 ⟨rfl, rfl, congrArg (Value.int .i64) hw, trivial⟩, hC, hO, h0, h1⟩
    · skip
      exact ⟨_, fr_ovl 26 ⟨rfl, rfl, rfl, trivial⟩, hC, hO, h0, h1⟩
    · cases o14 with
      | nx _ => exact True.intro
      | rt r_ =>
        have hs := after_rt hs
        intro a1 w1 hK
        cases hs
        exact hK
      | br s10 =>
        have hs := after_br hs
        rintro a1 w11 ⟨σ, rfl, hC, hO, h0, h1⟩
        refine c_seq ?_
        refine c_region ?_
        refine pl_val (.bool true) (y_assign rfl) ?_
        refine c_nil ?_
        refine wp_ret ?_
        cases hs
        exact ⟨_, fr_ovl 26 ⟨rfl, trivial⟩, hC⟩

theorem Bd18 : Bodied Try.prog 18 := bodied Try.func18 (by kernel_rfl) rfl

end Go.Proofs
