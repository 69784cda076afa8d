/- What functions of the program compute, as plain functions, and that a call gives just that. Conditions: those named in each theorem. -/
import Derived.Test.YtceenhnjdnggjaaF1
set_option linter.unusedVariables false
namespace Go.Proofs
open Go.G Go.RowKit
set_option maxRecDepth 100000

def k_spec_JoinNetworks (M : Nat → Prop) (w0 : World) (r : (Int × Int × (List ((List Int) × (Int × (List (List Int)))))) × Bool) (a : Act) (w : World) : Prop :=
  ∃ (σ : Nat → Value) (rg4 : Nat) (ra0 : Option Addr) (rn0 rc0 : Nat) (rf0 : List Nat), a = fr 44 (ovl σ [(4, (.pointer (some ⟨rg4, 0, none⟩))), (5, (.bool r.2))]) ∧ BoxV w rg4 49 [(.int .i64 r.1.1), (.int .i64 r.1.2.1), (.slice ra0 rn0 rc0)] ∧ Chg [] w0 w ∧ (RT.os 108 (RT.pr (RT.os 3 (RT.int .i64)) (RT.pr (RT.int .i64) (RT.os 22 (RT.os 3 (RT.int .i64)))))).val M w (.slice ra0 rn0 rc0) r.1.2.2 rf0 ∧ Own (Nw w0 []) (fun _ => True) w (rf0 ++ ([]))
def s_spec_JoinNetworks (x_ : Int × Int × (List ((List Int) × (Int × (List (List Int)))))) (y : Int × Int × (List ((List Int) × (Int × (List (List Int)))))) : Option ((Int × Int × (List ((List Int) × (Int × (List (List Int)))))) × Bool) :=
  ((s_spec_l19Good (x_.1, x_.2.1, x_.2.2)).bind fun r10 =>
  (bif (!r10) then some true else (s_spec_l19Good (y.1, y.2.1, y.2.2)).bind fun r13 =>
  (bif (!r13) then some true else (bif (x_.1 != y.1) then some true else some (x_.2.1 != y.2.1))))).bind fun s6 =>
  (bif s6 then some ((0, 0, []), false) else (s_spec_l19Copy x_.2.2).bind fun r20 =>
  (s_spec_l19Copy y.2.2).bind fun r23 =>
  (app r20 r23).bind fun y26 =>
  (s_spec_l19Give__take0 (x_.1, x_.2.1, y26)).bind fun r29 =>
  some ((r29.1.1, r29.1.2.1, r29.1.2.2), r29.2))
set_option maxHeartbeats 4000000 in
theorem c_spec_JoinNetworks {M : Nat → Prop} {w : World} {pa0 : Option Addr} {pn0 pc0 : Nat} {pa1 : Option Addr} {pn1 pc1 : Nat} (x_ : Int × Int × (List ((List Int) × (Int × (List (List Int)))))) (y : Int × Int × (List ((List Int) × (Int × (List (List Int)))))) (h0 : (RT.rs (RT.pr (RT.rs (RT.int .i64)) (RT.pr (RT.int .i64) (RT.rs (RT.rs (RT.int .i64)))))).val M w (.slice pa0 pn0 pc0) x_.2.2 ([])) (h1 : (RT.rs (RT.pr (RT.rs (RT.int .i64)) (RT.pr (RT.int .i64) (RT.rs (RT.rs (RT.int .i64)))))).val M w (.slice pa1 pn1 pc1) y.2.2 ([])) (hM : ∀ g, w.heap.size ≤ g → M g) {r : (Int × Int × (List ((List Int) × (Int × (List (List Int)))))) × Bool} (hs : s_spec_JoinNetworks x_ y = some r) :
    Gives Try.prog 67 [(.agg #[(.int .i64 x_.1), (.int .i64 x_.2.1), (.slice pa0 pn0 pc0)]), (.agg #[(.int .i64 y.1), (.int .i64 y.2.1), (.slice pa1 pn1 pc1)])] w (fun v w' => ∃ (ra0 : Option Addr) (rn0 rc0 : Nat) (rf0 : List Nat), v = (.tuple #[(.agg #[(.int .i64 r.1.1), (.int .i64 r.1.2.1), (.slice ra0 rn0 rc0)]), (.bool r.2)]) ∧ Chg [] w w' ∧ (RT.os 108 (RT.pr (RT.os 3 (RT.int .i64)) (RT.pr (RT.int .i64) (RT.os 22 (RT.os 3 (RT.int .i64)))))).val M w' (.slice ra0 rn0 rc0) r.1.2.2 rf0 ∧ Own (Nw w []) (fun _ => True) w' (rf0 ++ ([]))) := by
  refine calls_fr Try.func67 rfl Try.ntmps67 (Nat.le_of_ble_eq_true rfl) ?_
  have hO := Own.start (N := Nw w []) hM Nw.fut
  have hC := Chg.refl [] w
  unfold s_spec_JoinNetworks at hs
  refine wp_mono (Q := KPost (k_spec_JoinNetworks M w r)) ?_ (fun e a w1 h => ?_)
  rotate_left
  · cases e
    case ret =>
      obtain ⟨σ, rg4, ra0, rn0, rc0, rf0, rfl, hbrg4, hrest⟩ := h
      exact ret2x Try.results67 (res_cell rfl (box_load Ag49 Sz49 hbrg4 [] _ [] rfl rfl (fun h => nomatch h))) (res_tmp rfl) ⟨ra0, rn0, rc0, rf0, rfl, hrest⟩
    all_goals exact (h : False).elim
  refine c_seq ?_
  refine c_region ?_
  obtain ⟨w3, g3, ew3, eg3, hC3, hb3⟩ := new_block w [(.int .i64 x_.1), (.int .i64 x_.2.1), (.slice pa0 pn0 pc0)] 49
  refine pl_val (w' := w3) (.pointer (some ⟨g3, 0, none⟩)) (y_box rfl (by rw [ew3, eg3]; kernel_rfl)) ?_
  have h0 := h0.ext hC3
  have h1 := h1.ext hC3
  have hC := hC.ext hC3
  have hO := hO.new (X' := [g3]) hC3 (fun q hq => by rw [List.mem_singleton.1 hq, eg3]; exact Nat.le_refl _) (List.nodup_cons.2 ⟨(fun h => nomatch h), List.nodup_nil⟩) (fun q hq => by rw [List.mem_singleton.1 hq]; exact hb3.lt)
  obtain ⟨w4, g4, ew4, eg4, hC4, hb4⟩ := new_block w3 [(.int .i64 y.1), (.int .i64 y.2.1), (.slice pa1 pn1 pc1)] 49
  refine pl_val (w' := w4) (.pointer (some ⟨g4, 0, none⟩)) (y_box rfl (by rw [ew4, eg4]; kernel_rfl)) ?_
  have h0 := h0.ext hC4
  have h1 := h1.ext hC4
  have hb3 := hb3.chg hC4 (fun h => nomatch h)
  have hC := hC.ext hC4
  have hO := hO.new (X' := [g4]) hC4 (fun q hq => by rw [List.mem_singleton.1 hq, eg4]; exact Nat.le_refl _) (List.nodup_cons.2 ⟨(fun h => nomatch h), List.nodup_nil⟩) (fun q hq => by rw [List.mem_singleton.1 hq]; exact hb4.lt)
  obtain ⟨w5, g5, ew5, eg5, hC5, hb5⟩ := new_block w4 [(.int .i64 0), (.int .i64 0), (.slice none 0 0)] 49
  refine pl_val (w' := w5) (.pointer (some ⟨g5, 0, none⟩)) (y_alloc (by rw [ew5, eg5]; kernel_rfl)) ?_
  have h0 := h0.ext hC5
  have h1 := h1.ext hC5
  have hb3 := hb3.chg hC5 (fun h => nomatch h)
  have hb4 := hb4.chg hC5 (fun h => nomatch h)
  have hC := hC.ext hC5
  have hO := hO.new (X' := [g5]) hC5 (fun q hq => by rw [List.mem_singleton.1 hq, eg5]; exact Nat.le_refl _) (List.nodup_cons.2 ⟨(fun h => nomatch h), List.nodup_nil⟩) (fun q hq => by rw [List.mem_singleton.1 hq]; exact hb5.lt)
  refine pl_val (.bool false) (y_assign rfl) ?_
  refine c_nil ?_
  refine c_seq ?_
  refine c_seq ?_
  obtain ⟨s6, hm8, hs⟩ := bind_some hs
  refine c_mid (I := fun a w7 => ∃ (σ : Nat → Value), a = fr 44 (ovl σ [(2, (.pointer (some ⟨g3, 0, none⟩))), (3, (.pointer (some ⟨g4, 0, none⟩))), (4, (.pointer (some ⟨g5, 0, none⟩))), (5, (.bool false)), (27, (.bool s6))]) ∧ Chg [] w5 w7) ?_ ?_
  · replace hs := hm8
    have hMid := Chg.refl [] w5
    refine c_region ?_
    refine pl_val (.agg #[(.int .i64 x_.1), (.int .i64 x_.2.1), (.slice pa0 pn0 pc0)]) (y_load rfl ((box_load Ag49 Sz49 hb3 [] [(.int .i64 x_.1), (.int .i64 x_.2.1), (.slice pa0 pn0 pc0)] [] rfl rfl (fun h => nomatch h)) _ (Chg.refl _ _))) ?_
    obtain ⟨r10, hr10, hs⟩ := bind_some hs
    refine pl_call Bd88 rfl (c_spec_l19Good (M := M) (x_.1, x_.2.1, x_.2.2) h0 hO.fut hr10) ?_
    rintro _ w9 ⟨rfl, hC9⟩
    have h0 := h0.ext hC9
    have h1 := h1.ext hC9
    have hb3 := hb3.chg hC9 (fun h => nomatch h)
    have hb4 := hb4.chg hC9 (fun h => nomatch h)
    have hb5 := hb5.chg hC9 (fun h => nomatch h)
    have hMid := hMid.ext hC9
    have hC := hC.ext hC9
    have hO := hO.ext hC9
    refine pl_val (.bool (!r10)) (y_not rfl) ?_
    refine pl_val (.bool (!r10)) (y_move rfl) ?_
    rcases bif_some hs with ⟨hc11, hs⟩ | ⟨hc11, hs⟩
    · skip
      refine pl_not (tg := 9) (by kernel_rfl) (congrArg Value.bool hc11) ?_
      refine pl_not (tg := 9) (by kernel_rfl) (congrArg Value.bool hc11) ?_
      refine pl_not (tg := 9) (by kernel_rfl) (congrArg Value.bool hc11) ?_
      refine pl_val (.bool true) (y_pick_t (congrArg Value.bool hc11) rfl) ?_
      refine pl_val (.bool true) (y_move rfl) ?_
      refine pl_not (tg := 14) (by kernel_rfl) (by rfl) ?_
      refine pl_not (tg := 14) (by kernel_rfl) (by rfl) ?_
      refine pl_not (tg := 14) (by kernel_rfl) (by rfl) ?_
      refine pl_not (tg := 14) (by kernel_rfl) (by rfl) ?_
      refine pl_not (tg := 14) (by kernel_rfl) (by rfl) ?_
      refine pl_val (.bool true) (y_pick_t (by rfl) rfl) ?_
      refine pl_val (.bool true) (y_move rfl) ?_
      refine pl_not (tg := 21) (by kernel_rfl) (by rfl) ?_
      refine pl_not (tg := 21) (by kernel_rfl) (by rfl) ?_
      refine pl_not (tg := 21) (by kernel_rfl) (by rfl) ?_
      refine pl_not (tg := 21) (by kernel_rfl) (by rfl) ?_
      refine pl_not (tg := 21) (by kernel_rfl) (by rfl) ?_
      refine pl_val (.bool true) (y_pick_t (by rfl) rfl) ?_
      refine c_nil ?_
      cases hs
      exact ⟨_, fr_ovl 44 ⟨rfl, rfl, rfl, rfl, rfl, trivial⟩, hMid⟩
    · skip
      refine pl_yes (.agg #[(.int .i64 y.1), (.int .i64 y.2.1), (.slice pa1 pn1 pc1)]) (tg := 9) (by kernel_rfl) (congrArg Value.bool hc11) (y_load rfl ((box_load Ag49 Sz49 hb4 [] [(.int .i64 y.1), (.int .i64 y.2.1), (.slice pa1 pn1 pc1)] [] rfl rfl (fun h => nomatch h)) _ (Chg.refl _ _))) ?_
      obtain ⟨r13, hr13, hs⟩ := bind_some hs
      refine pl_cally (tg := 9) (by kernel_rfl) (congrArg Value.bool hc11) Bd88 rfl (c_spec_l19Good (M := M) (y.1, y.2.1, y.2.2) h1 hO.fut hr13) ?_
      rintro _ w12 ⟨rfl, hC12⟩
      have h0 := h0.ext hC12
      have h1 := h1.ext hC12
      have hb3 := hb3.chg hC12 (fun h => nomatch h)
      have hb4 := hb4.chg hC12 (fun h => nomatch h)
      have hb5 := hb5.chg hC12 (fun h => nomatch h)
      have hMid := hMid.ext hC12
      have hC := hC.ext hC12
      have hO := hO.ext hC12
      refine pl_yes (.bool (!r13)) (tg := 9) (by kernel_rfl) (congrArg Value.bool hc11) (y_not rfl) ?_
      refine pl_val (.bool (!r13)) (y_pick_f (congrArg Value.bool hc11) rfl) ?_
      refine pl_val (.bool (!r13)) (y_move rfl) ?_
      rcases bif_some hs with ⟨hc14, hs⟩ | ⟨hc14, hs⟩
      · skip
        refine pl_not (tg := 14) (by kernel_rfl) (congrArg Value.bool hc14) ?_
        refine pl_not (tg := 14) (by kernel_rfl) (congrArg Value.bool hc14) ?_
        refine pl_not (tg := 14) (by kernel_rfl) (congrArg Value.bool hc14) ?_
        refine pl_not (tg := 14) (by kernel_rfl) (congrArg Value.bool hc14) ?_
        refine pl_not (tg := 14) (by kernel_rfl) (congrArg Value.bool hc14) ?_
        refine pl_val (.bool true) (y_pick_t (congrArg Value.bool hc14) rfl) ?_
        refine pl_val (.bool true) (y_move rfl) ?_
        refine pl_not (tg := 21) (by kernel_rfl) (by rfl) ?_
        refine pl_not (tg := 21) (by kernel_rfl) (by rfl) ?_
        refine pl_not (tg := 21) (by kernel_rfl) (by rfl) ?_
        refine pl_not (tg := 21) (by kernel_rfl) (by rfl) ?_
        refine pl_not (tg := 21) (by kernel_rfl) (by rfl) ?_
        refine pl_val (.bool true) (y_pick_t (by rfl) rfl) ?_
        refine c_nil ?_
        cases hs
        exact ⟨_, fr_ovl 44 ⟨rfl, rfl, rfl, rfl, rfl, trivial⟩, hMid⟩
      · skip
        refine pl_yes (.pointer (some ⟨g3, 0, none⟩)) (tg := 14) (by kernel_rfl) (congrArg Value.bool hc14) (y_faddr rfl Fa49x0) ?_
        refine pl_yes (.int .i64 x_.1) (tg := 14) (by kernel_rfl) (congrArg Value.bool hc14) (y_load rfl ((box_load Ag3 Sz3 hb3 [] [(.int .i64 x_.1)] [(.int .i64 x_.2.1), (.slice pa0 pn0 pc0)] rfl rfl (fun _ => rfl)) _ (Chg.refl _ _))) ?_
        refine pl_yes (.pointer (some ⟨g4, 0, none⟩)) (tg := 14) (by kernel_rfl) (congrArg Value.bool hc14) (y_faddr rfl Fa49x0) ?_
        refine pl_yes (.int .i64 y.1) (tg := 14) (by kernel_rfl) (congrArg Value.bool hc14) (y_load rfl ((box_load Ag3 Sz3 hb4 [] [(.int .i64 y.1)] [(.int .i64 y.2.1), (.slice pa1 pn1 pc1)] rfl rfl (fun _ => rfl)) _ (Chg.refl _ _))) ?_
        refine pl_yes (.bool (x_.1 != y.1)) (tg := 14) (by kernel_rfl) (congrArg Value.bool hc14) (y_neq rfl rfl) ?_
        refine pl_val (.bool (x_.1 != y.1)) (y_pick_f (congrArg Value.bool hc14) rfl) ?_
        refine pl_val (.bool (x_.1 != y.1)) (y_move rfl) ?_
        rcases bif_some hs with ⟨hc15, hs⟩ | ⟨hc15, hs⟩
        · skip
          refine pl_not (tg := 21) (by kernel_rfl) (congrArg Value.bool hc15) ?_
          refine pl_not (tg := 21) (by kernel_rfl) (congrArg Value.bool hc15) ?_
          refine pl_not (tg := 21) (by kernel_rfl) (congrArg Value.bool hc15) ?_
          refine pl_not (tg := 21) (by kernel_rfl) (congrArg Value.bool hc15) ?_
          refine pl_not (tg := 21) (by kernel_rfl) (congrArg Value.bool hc15) ?_
          refine pl_val (.bool true) (y_pick_t (congrArg Value.bool hc15) rfl) ?_
          refine c_nil ?_
          cases hs
          exact ⟨_, fr_ovl 44 ⟨rfl, rfl, rfl, rfl, rfl, trivial⟩, hMid⟩
        · skip
          refine pl_yes (.pointer (some ⟨g3, 1, none⟩)) (tg := 21) (by kernel_rfl) (congrArg Value.bool hc15) (y_faddr rfl Fa49x1) ?_
          refine pl_yes (.int .i64 x_.2.1) (tg := 21) (by kernel_rfl) (congrArg Value.bool hc15) (y_load rfl ((box_load Ag3 Sz3 hb3 [(.int .i64 x_.1)] [(.int .i64 x_.2.1)] [(.slice pa0 pn0 pc0)] rfl rfl (fun _ => rfl)) _ (Chg.refl _ _))) ?_
          refine pl_yes (.pointer (some ⟨g4, 1, none⟩)) (tg := 21) (by kernel_rfl) (congrArg Value.bool hc15) (y_faddr rfl Fa49x1) ?_
          refine pl_yes (.int .i64 y.2.1) (tg := 21) (by kernel_rfl) (congrArg Value.bool hc15) (y_load rfl ((box_load Ag3 Sz3 hb4 [(.int .i64 y.1)] [(.int .i64 y.2.1)] [(.slice pa1 pn1 pc1)] rfl rfl (fun _ => rfl)) _ (Chg.refl _ _))) ?_
          refine pl_yes (.bool (x_.2.1 != y.2.1)) (tg := 21) (by kernel_rfl) (congrArg Value.bool hc15) (y_neq rfl rfl) ?_
          refine pl_val (.bool (x_.2.1 != y.2.1)) (y_pick_f (congrArg Value.bool hc15) rfl) ?_
          refine c_nil ?_
          cases hs
          exact ⟨_, fr_ovl 44 ⟨rfl, rfl, rfl, rfl, rfl, trivial⟩, hMid⟩
  · rintro a1 w7 ⟨σ, rfl, hCs6⟩
    have h0 := h0.ext hCs6
    have h1 := h1.ext hCs6
    have hb3 := hb3.chg hCs6 (fun h => nomatch h)
    have hb4 := hb4.chg hCs6 (fun h => nomatch h)
    have hb5 := hb5.chg hCs6 (fun h => nomatch h)
    have hC := hC.ext hCs6
    have hO := hO.ext hCs6
    rcases bif_some hs with ⟨hc16, hs⟩ | ⟨hc16, hs⟩
    · skip
      refine c_condT (congrArg Value.bool hc16) ?_
      refine c_seq ?_
      refine c_region ?_
      refine pl_val (.agg #[(.int .i64 0), (.int .i64 0), (.slice none 0 0)]) (y_build rfl (by kernel_rfl)) ?_
      obtain ⟨w17, hst17, hC17, hb17⟩ := box_store (P := Try.prog) hb5 [] [(.int .i64 0), (.int .i64 0), (.slice none 0 0)] [] [(.int .i64 0), (.int .i64 0), (.slice none 0 0)] rfl rfl (by intro u hu; simp only [List.mem_cons, List.not_mem_nil, or_false] at hu; rcases hu with rfl | rfl | rfl <;> rfl)
      refine pl_skip (w' := w17) (ys_store rfl rfl (hst17 _ _ rfl Sz49)) ?_
      have h0 := h0.mut hC17 (fun g hg => hO.inM g ((fun _ h => h) g hg)) (fun _ _ h => nomatch h)
      have h1 := h1.mut hC17 (fun g hg => hO.inM g ((fun _ h => h) g hg)) (fun _ _ h => nomatch h)
      have hb3 := hb3.chg hC17 (fun hg => hO.apart _ ((fun _ h => h) _ hg) (mem_r (mem_l (List.mem_singleton.2 rfl))))
      have hb4 := hb4.chg hC17 (fun hg => hO.apart _ ((fun _ h => h) _ hg) (mem_l (List.mem_singleton.2 rfl)))
      have hC := hC.step hC17 (fun g hg => hO.inN g ((fun _ h => h) g hg))
      have hO := hO.ext hC17
      have hb17 : BoxV w17 g5 49 [(.int .i64 0), (.int .i64 0), (.slice none 0 0)] := hb17
      refine pl_val (.bool false) (y_assign rfl) ?_
      refine c_nil ?_
      refine wp_ret ?_
      cases hs
      have hO := hO.drop
      have hO := hO.drop
      have hO := hO.drop
      have hO := hO.nil
      exact ⟨_, g5, none, 0, 0, [], fr_ovl 44 ⟨rfl, rfl, trivial⟩, hb17, hC, os_nil, hO.top⟩
    · skip
      refine c_condF (congrArg Value.bool hc16) ?_
      refine wp_skip ?_
      refine c_seq ?_
      refine x_start [10, 15] Mx rfl ?_
      have hCw18 := Chg.drew w7
      generalize World.drew w7 = w18 at hCw18 ⊢
      have h0 := h0.ext hCw18
      have h1 := h1.ext hCw18
      have hb3 := hb3.chg hCw18 (fun h => nomatch h)
      have hb4 := hb4.chg hCw18 (fun h => nomatch h)
      have hb5 := hb5.chg hCw18 (fun h => nomatch h)
      have hC := hC.ext hCw18
      have hO := hO.ext hCw18
      have hS := Chg.refl [] w18
      refine x_p 0 (.pointer (some ⟨g3, 0, none⟩)) rfl (by kernel_rfl)  (fun _ => y_faddr rfl Fa49x0) (fun _ => hS) ?_
      refine x_p 2 (.pointer (some ⟨g3, 1, none⟩)) rfl (by kernel_rfl)  (fun _ => y_faddr rfl Fa49x1) (fun _ => hS) ?_
      refine x_p 4 (.pointer (some ⟨g3, 2, none⟩)) rfl (by kernel_rfl)  (fun _ => y_faddr rfl Fa49x2) (fun _ => hS) ?_
      refine x_l 5 (.slice pa0 pn0 pc0) rfl (by kernel_rfl)  (fun w' hw' => y_load rfl ((box_load Ag47 Sz47 hb3 [(.int .i64 x_.1), (.int .i64 x_.2.1)] [(.slice pa0 pn0 pc0)] [] rfl rfl (fun _ => rfl)) w' hw')) hS ?_
      refine x_p 7 (.pointer (some ⟨g4, 2, none⟩)) rfl (by kernel_rfl)  (fun _ => y_faddr rfl Fa49x2) (fun _ => hS) ?_
      refine x_l 8 (.slice pa1 pn1 pc1) rfl (by kernel_rfl)  (fun w' hw' => y_load rfl ((box_load Ag47 Sz47 hb4 [(.int .i64 y.1), (.int .i64 y.2.1)] [(.slice pa1 pn1 pc1)] [] rfl rfl (fun _ => rfl)) w' hw')) hS ?_
      refine x_many [1, 3, 6] (by kernel_rfl) (fun h => nomatch h) (all3 ?_ ?_ ?_)
      · skip
        refine xk_val (b := false) (.int .i64 x_.1) rfl  (y_load rfl ((box_load Ag3 Sz3 hb3 [] [(.int .i64 x_.1)] [(.int .i64 x_.2.1), (.slice pa0 pn0 pc0)] rfl rfl (fun _ => rfl)) _ (Chg.refl _ _))) rfl (fun _ => hS) ?_
        refine x_two (i := 3) (j := 6) (by kernel_rfl) ?_ ?_
        · skip
          refine xk_val (b := false) (.int .i64 x_.2.1) rfl  (y_load rfl ((box_load Ag3 Sz3 hb3 [(.int .i64 x_.1)] [(.int .i64 x_.2.1)] [(.slice pa0 pn0 pc0)] rfl rfl (fun _ => rfl)) _ (Chg.refl _ _))) rfl (fun _ => hS) ?_
          refine x_one (i := 6) (by kernel_rfl) ?_
          obtain ⟨r20, hr20, hs⟩ := bind_some hs
          refine xk_call (b := false) rfl  Bd132 rfl (c_spec_l19Copy (M := M) x_.2.2 h0 hO.fut hr20) rfl (by rintro _ _ _ ⟨a19x0, n19x0, c19x0, f19x0, rfl, hC19, hv19x0, hOc19⟩; exact hS.ext hC19) ?_
          rintro _ w19 ⟨a19x0, n19x0, c19x0, f19x0, rfl, hC19, hv19x0, hOc19⟩
          have h0 := h0.ext hC19
          have h1 := h1.ext hC19
          have hb3 := hb3.chg hC19 (fun h => nomatch h)
          have hb4 := hb4.chg hC19 (fun h => nomatch h)
          have hb5 := hb5.chg hC19 (fun h => nomatch h)
          have hC := hC.ext hC19
          have hO := Own.join0 hO hC19 hOc19
          have hO := hO.perm (R := f19x0 ++ (([g5]) ++ (([g4]) ++ (([g3]) ++ ([]))))) (by simp)
          have hS := hS.ext hC19
          refine x_one (i := 9) (by kernel_rfl) ?_
          obtain ⟨r23, hr23, hs⟩ := bind_some hs
          refine xk_call (b := false) rfl  Bd132 rfl (c_spec_l19Copy (M := M) y.2.2 h1 hO.fut hr23) rfl (by rintro _ _ _ ⟨a22x0, n22x0, c22x0, f22x0, rfl, hC22, hv22x0, hOc22⟩; exact hS.ext hC22) ?_
          rintro _ w22 ⟨a22x0, n22x0, c22x0, f22x0, rfl, hC22, hv22x0, hOc22⟩
          have h0 := h0.ext hC22
          have h1 := h1.ext hC22
          have hb3 := hb3.chg hC22 (fun h => nomatch h)
          have hb4 := hb4.chg hC22 (fun h => nomatch h)
          have hb5 := hb5.chg hC22 (fun h => nomatch h)
          have hv19x0 := hv19x0.ext hC22
          have hC := hC.ext hC22
          have hO := Own.join0 hO hC22 hOc22
          have hO := hO.perm (R := f22x0 ++ (f19x0 ++ (([g5]) ++ (([g4]) ++ (([g3]) ++ ([])))))) (by simp)
          have hS := hS.ext hC22
          refine x_one (i := 10) (by kernel_rfl) ?_
          obtain ⟨y26, hy26, hs⟩ := bind_some hs
          have hO := hO.fr1
          obtain ⟨a25, n25, c25, w25, f25, hr25, hC25, hf25, hv25⟩ := app_os Rw47 hy26 hv19x0 hv22x0 hO.inM (fun g hg hq => hO.apart g hq (mem_l hg))
          have hG25 := os_block hv19x0
          refine xk_val (w' := w25) (b := true) (.slice a25 n25 c25) rfl  (y_append rfl rfl (hr25 _)) rfl (fun h => nomatch h) ?_
          have hO := hO.fr1
          have hO := hO.fr1
          have h0 := h0.mut hC25 (fun g hg => hO.inM g (hG25 g hg)) (fun _ _ h => nomatch h)
          have h1 := h1.mut hC25 (fun g hg => hO.inM g (hG25 g hg)) (fun _ _ h => nomatch h)
          have hb3 := hb3.chg hC25 (fun hg => hO.apart _ (hG25 _ hg) (mem_r (mem_r (mem_r (mem_l (List.mem_singleton.2 rfl))))))
          have hb4 := hb4.chg hC25 (fun hg => hO.apart _ (hG25 _ hg) (mem_r (mem_r (mem_l (List.mem_singleton.2 rfl)))))
          have hb5 := hb5.chg hC25 (fun hg => hO.apart _ (hG25 _ hg) (mem_r (mem_l (List.mem_singleton.2 rfl))))
          have hC := hC.step hC25 (fun g hg => hO.inN g (hG25 g hg))
          have hO := hO.eat hC25 hf25 (os_nodup hv25) hv25.fpl
          refine x_p 11 (.agg #[(.int .i64 x_.1), (.int .i64 x_.2.1), (.slice a25 n25 c25)]) rfl (by kernel_rfl)  (fun _ => y_build rfl (by kernel_rfl)) (fun h => nomatch h) ?_
          refine x_one (i := 12) (by kernel_rfl) ?_
          have hL28 := hO
          have hI28 := Own.lend (F := (f25 ++ ([]))) (R := ([g5]) ++ (([g4]) ++ (([g3]) ++ ([])))) (Own.perm (hL28) (by simp))
          obtain ⟨r29, hr29, hs⟩ := bind_some hs
          refine xk_call (b := true) rfl  Bd131 rfl (c_spec_l19Give__take0 (M := M) (x_.1, x_.2.1, y26) hv25 hI28 hI28.fut hr29) rfl (fun h => nomatch h) ?_
          rintro _ w28 ⟨a28x0, n28x0, c28x0, f28x0, rfl, hC28, hv28x0, hOc28⟩
          have hO := hO.perm (R := (f25 ++ ([])) ++ (([g5]) ++ (([g4]) ++ (([g3]) ++ ([]))))) (by simp)
          have h0 := h0.mut hC28 (fun g hg => hO.inM g ((fun _ h => h) g hg)) (fun _ _ h => nomatch h)
          have h1 := h1.mut hC28 (fun g hg => hO.inM g ((fun _ h => h) g hg)) (fun _ _ h => nomatch h)
          have hb3 := hb3.chg hC28 (fun hg => hO.apart _ ((fun _ h => h) _ hg) (mem_r (mem_r (mem_l (List.mem_singleton.2 rfl)))))
          have hb4 := hb4.chg hC28 (fun hg => hO.apart _ ((fun _ h => h) _ hg) (mem_r (mem_l (List.mem_singleton.2 rfl))))
          have hb5 := hb5.chg hC28 (fun hg => hO.apart _ ((fun _ h => h) _ hg) (mem_l (List.mem_singleton.2 rfl)))
          have hC := hC.step hC28 (fun g hg => hO.inN g ((fun _ h => h) g hg))
          have hO := Own.join hO hC28 hOc28
          have hO := hO.perm (R := f28x0 ++ (([g5]) ++ (([g4]) ++ (([g3]) ++ ([]))))) (by simp)
          refine x_p 13 (.agg #[(.int .i64 r29.1.1), (.int .i64 r29.1.2.1), (.slice a28x0 n28x0 c28x0)]) rfl (by kernel_rfl)  (fun _ => y_extract rfl (by kernel_rfl)) (fun h => nomatch h) ?_
          refine x_p 14 (.bool r29.2) rfl (by kernel_rfl)  (fun _ => y_extract rfl (by kernel_rfl)) (fun h => nomatch h) ?_
          refine x_one (i := 15) (by kernel_rfl) ?_
          obtain ⟨w31, hst31, hC31, hb31⟩ := box_store (P := Try.prog) hb5 [] [(.int .i64 0), (.int .i64 0), (.slice none 0 0)] [] [(.int .i64 r29.1.1), (.int .i64 r29.1.2.1), (.slice a28x0 n28x0 c28x0)] rfl rfl (by intro u hu; simp only [List.mem_cons, List.not_mem_nil, or_false] at hu; rcases hu with rfl | rfl | rfl <;> rfl)
          refine xk_skip (w' := w31) (b := true) rfl (ys_store rfl rfl (hst31 _ _ rfl Sz49)) rfl (fun h => nomatch h) ?_
          have hO := hO.fr1
          have h0 := h0.mut hC31 (fun g hg => hO.inM g ((fun _ h => h) g hg)) (fun _ _ h => nomatch h)
          have h1 := h1.mut hC31 (fun g hg => hO.inM g ((fun _ h => h) g hg)) (fun _ _ h => nomatch h)
          have hb3 := hb3.chg hC31 (fun hg => hO.apart _ ((fun _ h => h) _ hg) (mem_r (mem_r (mem_l (List.mem_singleton.2 rfl)))))
          have hb4 := hb4.chg hC31 (fun hg => hO.apart _ ((fun _ h => h) _ hg) (mem_r (mem_l (List.mem_singleton.2 rfl))))
          have hv28x0 := hv28x0.mut hC31 (fun g hg => hO.inM g ((fun _ h => h) g hg)) (fun g hg e => hO.apart g ((fun _ h => h) g hg) (mem_l (e)))
          have hC := hC.step hC31 (fun g hg => hO.inN g ((fun _ h => h) g hg))
          have hO := hO.ext hC31
          have hb31 : BoxV w31 g5 49 [(.int .i64 r29.1.1), (.int .i64 r29.1.2.1), (.slice a28x0 n28x0 c28x0)] := hb31
          refine x_p 16 (.bool r29.2) rfl (by kernel_rfl)  (fun _ => y_assign rfl) (fun h => nomatch h) ?_
          refine x_end (by kernel_rfl) ?_
          clear hS
          refine wp_ret ?_
          cases hs
          have hO := hO.drop
          have hO := hO.fr1
          have hO := hO.drop
          have hO := hO.fr1
          have hO := hO.drop
          exact ⟨_, g5, a28x0, n28x0, c28x0, f28x0, fr_ovl 44 ⟨rfl, rfl, trivial⟩, hb31, hC, hv28x0, hO.top⟩
        · skip
          obtain ⟨r20, hr20, hs⟩ := bind_some hs
          refine xk_call (b := false) rfl  Bd132 rfl (c_spec_l19Copy (M := M) x_.2.2 h0 hO.fut hr20) rfl (by rintro _ _ _ ⟨a32x0, n32x0, c32x0, f32x0, rfl, hC32, hv32x0, hOc32⟩; exact hS.ext hC32) ?_
          rintro _ w32 ⟨a32x0, n32x0, c32x0, f32x0, rfl, hC32, hv32x0, hOc32⟩
          have h0 := h0.ext hC32
          have h1 := h1.ext hC32
          have hb3 := hb3.chg hC32 (fun h => nomatch h)
          have hb4 := hb4.chg hC32 (fun h => nomatch h)
          have hb5 := hb5.chg hC32 (fun h => nomatch h)
          have hC := hC.ext hC32
          have hO := Own.join0 hO hC32 hOc32
          have hO := hO.perm (R := f32x0 ++ (([g5]) ++ (([g4]) ++ (([g3]) ++ ([]))))) (by simp)
          have hS := hS.ext hC32
          refine x_two (i := 3) (j := 9) (by kernel_rfl) ?_ ?_
          · skip
            refine xk_val (b := false) (.int .i64 x_.2.1) rfl  (y_load rfl ((box_load Ag3 Sz3 hb3 [(.int .i64 x_.1)] [(.int .i64 x_.2.1)] [(.slice pa0 pn0 pc0)] rfl rfl (fun _ => rfl)) _ (Chg.refl _ _))) rfl (fun _ => hS) ?_
            refine x_one (i := 9) (by kernel_rfl) ?_
            obtain ⟨r23, hr23, hs⟩ := bind_some hs
            refine xk_call (b := false) rfl  Bd132 rfl (c_spec_l19Copy (M := M) y.2.2 h1 hO.fut hr23) rfl (by rintro _ _ _ ⟨a35x0, n35x0, c35x0, f35x0, rfl, hC35, hv35x0, hOc35⟩; exact hS.ext hC35) ?_
            rintro _ w35 ⟨a35x0, n35x0, c35x0, f35x0, rfl, hC35, hv35x0, hOc35⟩
            have h0 := h0.ext hC35
            have h1 := h1.ext hC35
            have hb3 := hb3.chg hC35 (fun h => nomatch h)
            have hb4 := hb4.chg hC35 (fun h => nomatch h)
            have hb5 := hb5.chg hC35 (fun h => nomatch h)
            have hv32x0 := hv32x0.ext hC35
            have hC := hC.ext hC35
            have hO := Own.join0 hO hC35 hOc35
            have hO := hO.perm (R := f35x0 ++ (f32x0 ++ (([g5]) ++ (([g4]) ++ (([g3]) ++ ([])))))) (by simp)
            have hS := hS.ext hC35
            refine x_one (i := 10) (by kernel_rfl) ?_
            obtain ⟨y26, hy26, hs⟩ := bind_some hs
            have hO := hO.fr1
            obtain ⟨a38, n38, c38, w38, f38, hr38, hC38, hf38, hv38⟩ := app_os Rw47 hy26 hv32x0 hv35x0 hO.inM (fun g hg hq => hO.apart g hq (mem_l hg))
            have hG38 := os_block hv32x0
            refine xk_val (w' := w38) (b := true) (.slice a38 n38 c38) rfl  (y_append rfl rfl (hr38 _)) rfl (fun h => nomatch h) ?_
            have hO := hO.fr1
            have hO := hO.fr1
            have h0 := h0.mut hC38 (fun g hg => hO.inM g (hG38 g hg)) (fun _ _ h => nomatch h)
            have h1 := h1.mut hC38 (fun g hg => hO.inM g (hG38 g hg)) (fun _ _ h => nomatch h)
            have hb3 := hb3.chg hC38 (fun hg => hO.apart _ (hG38 _ hg) (mem_r (mem_r (mem_r (mem_l (List.mem_singleton.2 rfl))))))
            have hb4 := hb4.chg hC38 (fun hg => hO.apart _ (hG38 _ hg) (mem_r (mem_r (mem_l (List.mem_singleton.2 rfl)))))
            have hb5 := hb5.chg hC38 (fun hg => hO.apart _ (hG38 _ hg) (mem_r (mem_l (List.mem_singleton.2 rfl))))
            have hC := hC.step hC38 (fun g hg => hO.inN g (hG38 g hg))
            have hO := hO.eat hC38 hf38 (os_nodup hv38) hv38.fpl
            refine x_p 11 (.agg #[(.int .i64 x_.1), (.int .i64 x_.2.1), (.slice a38 n38 c38)]) rfl (by kernel_rfl)  (fun _ => y_build rfl (by kernel_rfl)) (fun h => nomatch h) ?_
            refine x_one (i := 12) (by kernel_rfl) ?_
            have hL41 := hO
            have hI41 := Own.lend (F := (f38 ++ ([]))) (R := ([g5]) ++ (([g4]) ++ (([g3]) ++ ([])))) (Own.perm (hL41) (by simp))
            obtain ⟨r29, hr29, hs⟩ := bind_some hs
            refine xk_call (b := true) rfl  Bd131 rfl (c_spec_l19Give__take0 (M := M) (x_.1, x_.2.1, y26) hv38 hI41 hI41.fut hr29) rfl (fun h => nomatch h) ?_
            rintro _ w41 ⟨a41x0, n41x0, c41x0, f41x0, rfl, hC41, hv41x0, hOc41⟩
            have hO := hO.perm (R := (f38 ++ ([])) ++ (([g5]) ++ (([g4]) ++ (([g3]) ++ ([]))))) (by simp)
            have h0 := h0.mut hC41 (fun g hg => hO.inM g ((fun _ h => h) g hg)) (fun _ _ h => nomatch h)
            have h1 := h1.mut hC41 (fun g hg => hO.inM g ((fun _ h => h) g hg)) (fun _ _ h => nomatch h)
            have hb3 := hb3.chg hC41 (fun hg => hO.apart _ ((fun _ h => h) _ hg) (mem_r (mem_r (mem_l (List.mem_singleton.2 rfl)))))
            have hb4 := hb4.chg hC41 (fun hg => hO.apart _ ((fun _ h => h) _ hg) (mem_r (mem_l (List.mem_singleton.2 rfl))))
            have hb5 := hb5.chg hC41 (fun hg => hO.apart _ ((fun _ h => h) _ hg) (mem_l (List.mem_singleton.2 rfl)))
            have hC := hC.step hC41 (fun g hg => hO.inN g ((fun _ h => h) g hg))
            have hO := Own.join hO hC41 hOc41
            have hO := hO.perm (R := f41x0 ++ (([g5]) ++ (([g4]) ++ (([g3]) ++ ([]))))) (by simp)
            refine x_p 13 (.agg #[(.int .i64 r29.1.1), (.int .i64 r29.1.2.1), (.slice a41x0 n41x0 c41x0)]) rfl (by kernel_rfl)  (fun _ => y_extract rfl (by kernel_rfl)) (fun h => nomatch h) ?_
            refine x_p 14 (.bool r29.2) rfl (by kernel_rfl)  (fun _ => y_extract rfl (by kernel_rfl)) (fun h => nomatch h) ?_
            refine x_one (i := 15) (by kernel_rfl) ?_
            obtain ⟨w44, hst44, hC44, hb44⟩ := box_store (P := Try.prog) hb5 [] [(.int .i64 0), (.int .i64 0), (.slice none 0 0)] [] [(.int .i64 r29.1.1), (.int .i64 r29.1.2.1), (.slice a41x0 n41x0 c41x0)] rfl rfl (by intro u hu; simp only [List.mem_cons, List.not_mem_nil, or_false] at hu; rcases hu with rfl | rfl | rfl <;> rfl)
            refine xk_skip (w' := w44) (b := true) rfl (ys_store rfl rfl (hst44 _ _ rfl Sz49)) rfl (fun h => nomatch h) ?_
            have hO := hO.fr1
            have h0 := h0.mut hC44 (fun g hg => hO.inM g ((fun _ h => h) g hg)) (fun _ _ h => nomatch h)
            have h1 := h1.mut hC44 (fun g hg => hO.inM g ((fun _ h => h) g hg)) (fun _ _ h => nomatch h)
            have hb3 := hb3.chg hC44 (fun hg => hO.apart _ ((fun _ h => h) _ hg) (mem_r (mem_r (mem_l (List.mem_singleton.2 rfl)))))
            have hb4 := hb4.chg hC44 (fun hg => hO.apart _ ((fun _ h => h) _ hg) (mem_r (mem_l (List.mem_singleton.2 rfl))))
            have hv41x0 := hv41x0.mut hC44 (fun g hg => hO.inM g ((fun _ h => h) g hg)) (fun g hg e => hO.apart g ((fun _ h => h) g hg) (mem_l (e)))
            have hC := hC.step hC44 (fun g hg => hO.inN g ((fun _ h => h) g hg))
            have hO := hO.ext hC44
            have hb44 : BoxV w44 g5 49 [(.int .i64 r29.1.1), (.int .i64 r29.1.2.1), (.slice a41x0 n41x0 c41x0)] := hb44
            refine x_p 16 (.bool r29.2) rfl (by kernel_rfl)  (fun _ => y_assign rfl) (fun h => nomatch h) ?_
            refine x_end (by kernel_rfl) ?_
            clear hS
            refine wp_ret ?_
            cases hs
            have hO := hO.drop
            have hO := hO.fr1
            have hO := hO.drop
            have hO := hO.fr1
            have hO := hO.drop
            exact ⟨_, g5, a41x0, n41x0, c41x0, f41x0, fr_ovl 44 ⟨rfl, rfl, trivial⟩, hb44, hC, hv41x0, hO.top⟩
          · skip
            obtain ⟨r23, hr23, hs⟩ := bind_some hs
            refine xk_call (b := false) rfl  Bd132 rfl (c_spec_l19Copy (M := M) y.2.2 h1 hO.fut hr23) rfl (by rintro _ _ _ ⟨a45x0, n45x0, c45x0, f45x0, rfl, hC45, hv45x0, hOc45⟩; exact hS.ext hC45) ?_
            rintro _ w45 ⟨a45x0, n45x0, c45x0, f45x0, rfl, hC45, hv45x0, hOc45⟩
            have h0 := h0.ext hC45
            have h1 := h1.ext hC45
            have hb3 := hb3.chg hC45 (fun h => nomatch h)
            have hb4 := hb4.chg hC45 (fun h => nomatch h)
            have hb5 := hb5.chg hC45 (fun h => nomatch h)
            have hv32x0 := hv32x0.ext hC45
            have hC := hC.ext hC45
            have hO := Own.join0 hO hC45 hOc45
            have hO := hO.perm (R := f45x0 ++ (f32x0 ++ (([g5]) ++ (([g4]) ++ (([g3]) ++ ([])))))) (by simp)
            have hS := hS.ext hC45
            refine x_two (i := 3) (j := 10) (by kernel_rfl) ?_ ?_
            · skip
              refine xk_val (b := false) (.int .i64 x_.2.1) rfl  (y_load rfl ((box_load Ag3 Sz3 hb3 [(.int .i64 x_.1)] [(.int .i64 x_.2.1)] [(.slice pa0 pn0 pc0)] rfl rfl (fun _ => rfl)) _ (Chg.refl _ _))) rfl (fun _ => hS) ?_
              refine x_one (i := 10) (by kernel_rfl) ?_
              obtain ⟨y26, hy26, hs⟩ := bind_some hs
              have hO := hO.fr1
              obtain ⟨a48, n48, c48, w48, f48, hr48, hC48, hf48, hv48⟩ := app_os Rw47 hy26 hv32x0 hv45x0 hO.inM (fun g hg hq => hO.apart g hq (mem_l hg))
              have hG48 := os_block hv32x0
              refine xk_val (w' := w48) (b := true) (.slice a48 n48 c48) rfl  (y_append rfl rfl (hr48 _)) rfl (fun h => nomatch h) ?_
              have hO := hO.fr1
              have hO := hO.fr1
              have h0 := h0.mut hC48 (fun g hg => hO.inM g (hG48 g hg)) (fun _ _ h => nomatch h)
              have h1 := h1.mut hC48 (fun g hg => hO.inM g (hG48 g hg)) (fun _ _ h => nomatch h)
              have hb3 := hb3.chg hC48 (fun hg => hO.apart _ (hG48 _ hg) (mem_r (mem_r (mem_r (mem_l (List.mem_singleton.2 rfl))))))
              have hb4 := hb4.chg hC48 (fun hg => hO.apart _ (hG48 _ hg) (mem_r (mem_r (mem_l (List.mem_singleton.2 rfl)))))
              have hb5 := hb5.chg hC48 (fun hg => hO.apart _ (hG48 _ hg) (mem_r (mem_l (List.mem_singleton.2 rfl))))
              have hC := hC.step hC48 (fun g hg => hO.inN g (hG48 g hg))
              have hO := hO.eat hC48 hf48 (os_nodup hv48) hv48.fpl
              refine x_p 11 (.agg #[(.int .i64 x_.1), (.int .i64 x_.2.1), (.slice a48 n48 c48)]) rfl (by kernel_rfl)  (fun _ => y_build rfl (by kernel_rfl)) (fun h => nomatch h) ?_
              refine x_one (i := 12) (by kernel_rfl) ?_
              have hL51 := hO
              have hI51 := Own.lend (F := (f48 ++ ([]))) (R := ([g5]) ++ (([g4]) ++ (([g3]) ++ ([])))) (Own.perm (hL51) (by simp))
              obtain ⟨r29, hr29, hs⟩ := bind_some hs
              refine xk_call (b := true) rfl  Bd131 rfl (c_spec_l19Give__take0 (M := M) (x_.1, x_.2.1, y26) hv48 hI51 hI51.fut hr29) rfl (fun h => nomatch h) ?_
              rintro _ w51 ⟨a51x0, n51x0, c51x0, f51x0, rfl, hC51, hv51x0, hOc51⟩
              have hO := hO.perm (R := (f48 ++ ([])) ++ (([g5]) ++ (([g4]) ++ (([g3]) ++ ([]))))) (by simp)
              have h0 := h0.mut hC51 (fun g hg => hO.inM g ((fun _ h => h) g hg)) (fun _ _ h => nomatch h)
              have h1 := h1.mut hC51 (fun g hg => hO.inM g ((fun _ h => h) g hg)) (fun _ _ h => nomatch h)
              have hb3 := hb3.chg hC51 (fun hg => hO.apart _ ((fun _ h => h) _ hg) (mem_r (mem_r (mem_l (List.mem_singleton.2 rfl)))))
              have hb4 := hb4.chg hC51 (fun hg => hO.apart _ ((fun _ h => h) _ hg) (mem_r (mem_l (List.mem_singleton.2 rfl))))
              have hb5 := hb5.chg hC51 (fun hg => hO.apart _ ((fun _ h => h) _ hg) (mem_l (List.mem_singleton.2 rfl)))
              have hC := hC.step hC51 (fun g hg => hO.inN g ((fun _ h => h) g hg))
              have hO := Own.join hO hC51 hOc51
              have hO := hO.perm (R := f51x0 ++ (([g5]) ++ (([g4]) ++ (([g3]) ++ ([]))))) (by simp)
              refine x_p 13 (.agg #[(.int .i64 r29.1.1), (.int .i64 r29.1.2.1), (.slice a51x0 n51x0 c51x0)]) rfl (by kernel_rfl)  (fun _ => y_extract rfl (by kernel_rfl)) (fun h => nomatch h) ?_
              refine x_p 14 (.bool r29.2) rfl (by kernel_rfl)  (fun _ => y_extract rfl (by kernel_rfl)) (fun h => nomatch h) ?_
              refine x_one (i := 15) (by kernel_rfl) ?_
              obtain ⟨w54, hst54, hC54, hb54⟩ := box_store (P := Try.prog) hb5 [] [(.int .i64 0), (.int .i64 0), (.slice none 0 0)] [] [(.int .i64 r29.1.1), (.int .i64 r29.1.2.1), (.slice a51x0 n51x0 c51x0)] rfl rfl (by intro u hu; simp only [List.mem_cons, List.not_mem_nil, or_false] at hu; rcases hu with rfl | rfl | rfl <;> rfl)
              refine xk_skip (w' := w54) (b := true) rfl (ys_store rfl rfl (hst54 _ _ rfl Sz49)) rfl (fun h => nomatch h) ?_
              have hO := hO.fr1
              have h0 := h0.mut hC54 (fun g hg => hO.inM g ((fun _ h => h) g hg)) (fun _ _ h => nomatch h)
              have h1 := h1.mut hC54 (fun g hg => hO.inM g ((fun _ h => h) g hg)) (fun _ _ h => nomatch h)
              have hb3 := hb3.chg hC54 (fun hg => hO.apart _ ((fun _ h => h) _ hg) (mem_r (mem_r (mem_l (List.mem_singleton.2 rfl)))))
              have hb4 := hb4.chg hC54 (fun hg => hO.apart _ ((fun _ h => h) _ hg) (mem_r (mem_l (List.mem_singleton.2 rfl))))
              have hv51x0 := hv51x0.mut hC54 (fun g hg => hO.inM g ((fun _ h => h) g hg)) (fun g hg e => hO.apart g ((fun _ h => h) g hg) (mem_l (e)))
              have hC := hC.step hC54 (fun g hg => hO.inN g ((fun _ h => h) g hg))
              have hO := hO.ext hC54
              have hb54 : BoxV w54 g5 49 [(.int .i64 r29.1.1), (.int .i64 r29.1.2.1), (.slice a51x0 n51x0 c51x0)] := hb54
              refine x_p 16 (.bool r29.2) rfl (by kernel_rfl)  (fun _ => y_assign rfl) (fun h => nomatch h) ?_
              refine x_end (by kernel_rfl) ?_
              clear hS
              refine wp_ret ?_
              cases hs
              have hO := hO.drop
              have hO := hO.fr1
              have hO := hO.drop
              have hO := hO.fr1
              have hO := hO.drop
              exact ⟨_, g5, a51x0, n51x0, c51x0, f51x0, fr_ovl 44 ⟨rfl, rfl, trivial⟩, hb54, hC, hv51x0, hO.top⟩
            · skip
              obtain ⟨y26, hy26, hs⟩ := bind_some hs
              have hO := hO.fr1
              obtain ⟨a55, n55, c55, w55, f55, hr55, hC55, hf55, hv55⟩ := app_os Rw47 hy26 hv32x0 hv45x0 hO.inM (fun g hg hq => hO.apart g hq (mem_l hg))
              have hG55 := os_block hv32x0
              refine xk_val (w' := w55) (b := true) (.slice a55 n55 c55) rfl  (y_append rfl rfl (hr55 _)) rfl (fun h => nomatch h) ?_
              have hO := hO.fr1
              have hO := hO.fr1
              have h0 := h0.mut hC55 (fun g hg => hO.inM g (hG55 g hg)) (fun _ _ h => nomatch h)
              have h1 := h1.mut hC55 (fun g hg => hO.inM g (hG55 g hg)) (fun _ _ h => nomatch h)
              have hb3 := hb3.chg hC55 (fun hg => hO.apart _ (hG55 _ hg) (mem_r (mem_r (mem_r (mem_l (List.mem_singleton.2 rfl))))))
              have hb4 := hb4.chg hC55 (fun hg => hO.apart _ (hG55 _ hg) (mem_r (mem_r (mem_l (List.mem_singleton.2 rfl)))))
              have hb5 := hb5.chg hC55 (fun hg => hO.apart _ (hG55 _ hg) (mem_r (mem_l (List.mem_singleton.2 rfl))))
              have hC := hC.step hC55 (fun g hg => hO.inN g (hG55 g hg))
              have hO := hO.eat hC55 hf55 (os_nodup hv55) hv55.fpl
              refine x_one (i := 3) (by kernel_rfl) ?_
              refine xk_val (b := true) (.int .i64 x_.2.1) rfl  (y_load rfl ((box_load Ag3 Sz3 hb3 [(.int .i64 x_.1)] [(.int .i64 x_.2.1)] [(.slice pa0 pn0 pc0)] rfl rfl (fun _ => rfl)) _ (Chg.refl _ _))) rfl (fun h => nomatch h) ?_
              refine x_p 11 (.agg #[(.int .i64 x_.1), (.int .i64 x_.2.1), (.slice a55 n55 c55)]) rfl (by kernel_rfl)  (fun _ => y_build rfl (by kernel_rfl)) (fun h => nomatch h) ?_
              refine x_one (i := 12) (by kernel_rfl) ?_
              have hL58 := hO
              have hI58 := Own.lend (F := (f55 ++ ([]))) (R := ([g5]) ++ (([g4]) ++ (([g3]) ++ ([])))) (Own.perm (hL58) (by simp))
              obtain ⟨r29, hr29, hs⟩ := bind_some hs
              refine xk_call (b := true) rfl  Bd131 rfl (c_spec_l19Give__take0 (M := M) (x_.1, x_.2.1, y26) hv55 hI58 hI58.fut hr29) rfl (fun h => nomatch h) ?_
              rintro _ w58 ⟨a58x0, n58x0, c58x0, f58x0, rfl, hC58, hv58x0, hOc58⟩
              have hO := hO.perm (R := (f55 ++ ([])) ++ (([g5]) ++ (([g4]) ++ (([g3]) ++ ([]))))) (by simp)
              have h0 := h0.mut hC58 (fun g hg => hO.inM g ((fun _ h => h) g hg)) (fun _ _ h => nomatch h)
              have h1 := h1.mut hC58 (fun g hg => hO.inM g ((fun _ h => h) g hg)) (fun _ _ h => nomatch h)
              have hb3 := hb3.chg hC58 (fun hg => hO.apart _ ((fun _ h => h) _ hg) (mem_r (mem_r (mem_l (List.mem_singleton.2 rfl)))))
              have hb4 := hb4.chg hC58 (fun hg => hO.apart _ ((fun _ h => h) _ hg) (mem_r (mem_l (List.mem_singleton.2 rfl))))
              have hb5 := hb5.chg hC58 (fun hg => hO.apart _ ((fun _ h => h) _ hg) (mem_l (List.mem_singleton.2 rfl)))
              have hC := hC.step hC58 (fun g hg => hO.inN g ((fun _ h => h) g hg))
              have hO := Own.join hO hC58 hOc58
              have hO := hO.perm (R := f58x0 ++ (([g5]) ++ (([g4]) ++ (([g3]) ++ ([]))))) (by simp)
              refine x_p 13 (.agg #[(.int .i64 r29.1.1), (.int .i64 r29.1.2.1), (.slice a58x0 n58x0 c58x0)]) rfl (by kernel_rfl)  (fun _ => y_extract rfl (by kernel_rfl)) (fun h => nomatch h) ?_
              refine x_p 14 (.bool r29.2) rfl (by kernel_rfl)  (fun _ => y_extract rfl (by kernel_rfl)) (fun h => nomatch h) ?_
              refine x_one (i := 15) (by kernel_rfl) ?_
              obtain ⟨w61, hst61, hC61, hb61⟩ := box_store (P := Try.prog) hb5 [] [(.int .i64 0), (.int .i64 0), (.slice none 0 0)] [] [(.int .i64 r29.1.1), (.int .i64 r29.1.2.1), (.slice a58x0 n58x0 c58x0)] rfl rfl (by intro u hu; simp only [List.mem_cons, List.not_mem_nil, or_false] at hu; rcases hu with rfl | rfl | rfl <;> rfl)
              refine xk_skip (w' := w61) (b := true) rfl (ys_store rfl rfl (hst61 _ _ rfl Sz49)) rfl (fun h => nomatch h) ?_
              have hO := hO.fr1
              have h0 := h0.mut hC61 (fun g hg => hO.inM g ((fun _ h => h) g hg)) (fun _ _ h => nomatch h)
              have h1 := h1.mut hC61 (fun g hg => hO.inM g ((fun _ h => h) g hg)) (fun _ _ h => nomatch h)
              have hb3 := hb3.chg hC61 (fun hg => hO.apart _ ((fun _ h => h) _ hg) (mem_r (mem_r (mem_l (List.mem_singleton.2 rfl)))))
              have hb4 := hb4.chg hC61 (fun hg => hO.apart _ ((fun _ h => h) _ hg) (mem_r (mem_l (List.mem_singleton.2 rfl))))
              have hv58x0 := hv58x0.mut hC61 (fun g hg => hO.inM g ((fun _ h => h) g hg)) (fun g hg e => hO.apart g ((fun _ h => h) g hg) (mem_l (e)))
              have hC := hC.step hC61 (fun g hg => hO.inN g ((fun _ h => h) g hg))
              have hO := hO.ext hC61
              have hb61 : BoxV w61 g5 49 [(.int .i64 r29.1.1), (.int .i64 r29.1.2.1), (.slice a58x0 n58x0 c58x0)] := hb61
              refine x_p 16 (.bool r29.2) rfl (by kernel_rfl)  (fun _ => y_assign rfl) (fun h => nomatch h) ?_
              refine x_end (by kernel_rfl) ?_
              clear hS
              refine wp_ret ?_
              cases hs
              have hO := hO.drop
              have hO := hO.fr1
              have hO := hO.drop
              have hO := hO.fr1
              have hO := hO.drop
              exact ⟨_, g5, a58x0, n58x0, c58x0, f58x0, fr_ovl 44 ⟨rfl, rfl, trivial⟩, hb61, hC, hv58x0, hO.top⟩
      · skip
        refine xk_val (b := false) (.int .i64 x_.2.1) rfl  (y_load rfl ((box_load Ag3 Sz3 hb3 [(.int .i64 x_.1)] [(.int .i64 x_.2.1)] [(.slice pa0 pn0 pc0)] rfl rfl (fun _ => rfl)) _ (Chg.refl _ _))) rfl (fun _ => hS) ?_
        refine x_two (i := 1) (j := 6) (by kernel_rfl) ?_ ?_
        · skip
          refine xk_val (b := false) (.int .i64 x_.1) rfl  (y_load rfl ((box_load Ag3 Sz3 hb3 [] [(.int .i64 x_.1)] [(.int .i64 x_.2.1), (.slice pa0 pn0 pc0)] rfl rfl (fun _ => rfl)) _ (Chg.refl _ _))) rfl (fun _ => hS) ?_
          refine x_one (i := 6) (by kernel_rfl) ?_
          obtain ⟨r20, hr20, hs⟩ := bind_some hs
          refine xk_call (b := false) rfl  Bd132 rfl (c_spec_l19Copy (M := M) x_.2.2 h0 hO.fut hr20) rfl (by rintro _ _ _ ⟨a62x0, n62x0, c62x0, f62x0, rfl, hC62, hv62x0, hOc62⟩; exact hS.ext hC62) ?_
          rintro _ w62 ⟨a62x0, n62x0, c62x0, f62x0, rfl, hC62, hv62x0, hOc62⟩
          have h0 := h0.ext hC62
          have h1 := h1.ext hC62
          have hb3 := hb3.chg hC62 (fun h => nomatch h)
          have hb4 := hb4.chg hC62 (fun h => nomatch h)
          have hb5 := hb5.chg hC62 (fun h => nomatch h)
          have hC := hC.ext hC62
          have hO := Own.join0 hO hC62 hOc62
          have hO := hO.perm (R := f62x0 ++ (([g5]) ++ (([g4]) ++ (([g3]) ++ ([]))))) (by simp)
          have hS := hS.ext hC62
          refine x_one (i := 9) (by kernel_rfl) ?_
          obtain ⟨r23, hr23, hs⟩ := bind_some hs
          refine xk_call (b := false) rfl  Bd132 rfl (c_spec_l19Copy (M := M) y.2.2 h1 hO.fut hr23) rfl (by rintro _ _ _ ⟨a65x0, n65x0, c65x0, f65x0, rfl, hC65, hv65x0, hOc65⟩; exact hS.ext hC65) ?_
          rintro _ w65 ⟨a65x0, n65x0, c65x0, f65x0, rfl, hC65, hv65x0, hOc65⟩
          have h0 := h0.ext hC65
          have h1 := h1.ext hC65
          have hb3 := hb3.chg hC65 (fun h => nomatch h)
          have hb4 := hb4.chg hC65 (fun h => nomatch h)
          have hb5 := hb5.chg hC65 (fun h => nomatch h)
          have hv62x0 := hv62x0.ext hC65
          have hC := hC.ext hC65
          have hO := Own.join0 hO hC65 hOc65
          have hO := hO.perm (R := f65x0 ++ (f62x0 ++ (([g5]) ++ (([g4]) ++ (([g3]) ++ ([])))))) (by simp)
          have hS := hS.ext hC65
          refine x_one (i := 10) (by kernel_rfl) ?_
          obtain ⟨y26, hy26, hs⟩ := bind_some hs
          have hO := hO.fr1
          obtain ⟨a68, n68, c68, w68, f68, hr68, hC68, hf68, hv68⟩ := app_os Rw47 hy26 hv62x0 hv65x0 hO.inM (fun g hg hq => hO.apart g hq (mem_l hg))
          have hG68 := os_block hv62x0
          refine xk_val (w' := w68) (b := true) (.slice a68 n68 c68) rfl  (y_append rfl rfl (hr68 _)) rfl (fun h => nomatch h) ?_
          have hO := hO.fr1
          have hO := hO.fr1
          have h0 := h0.mut hC68 (fun g hg => hO.inM g (hG68 g hg)) (fun _ _ h => nomatch h)
          have h1 := h1.mut hC68 (fun g hg => hO.inM g (hG68 g hg)) (fun _ _ h => nomatch h)
          have hb3 := hb3.chg hC68 (fun hg => hO.apart _ (hG68 _ hg) (mem_r (mem_r (mem_r (mem_l (List.mem_singleton.2 rfl))))))
          have hb4 := hb4.chg hC68 (fun hg => hO.apart _ (hG68 _ hg) (mem_r (mem_r (mem_l (List.mem_singleton.2 rfl)))))
          have hb5 := hb5.chg hC68 (fun hg => hO.apart _ (hG68 _ hg) (mem_r (mem_l (List.mem_singleton.2 rfl))))
          have hC := hC.step hC68 (fun g hg => hO.inN g (hG68 g hg))
          have hO := hO.eat hC68 hf68 (os_nodup hv68) hv68.fpl
          refine x_p 11 (.agg #[(.int .i64 x_.1), (.int .i64 x_.2.1), (.slice a68 n68 c68)]) rfl (by kernel_rfl)  (fun _ => y_build rfl (by kernel_rfl)) (fun h => nomatch h) ?_
          refine x_one (i := 12) (by kernel_rfl) ?_
          have hL71 := hO
          have hI71 := Own.lend (F := (f68 ++ ([]))) (R := ([g5]) ++ (([g4]) ++ (([g3]) ++ ([])))) (Own.perm (hL71) (by simp))
          obtain ⟨r29, hr29, hs⟩ := bind_some hs
          refine xk_call (b := true) rfl  Bd131 rfl (c_spec_l19Give__take0 (M := M) (x_.1, x_.2.1, y26) hv68 hI71 hI71.fut hr29) rfl (fun h => nomatch h) ?_
          rintro _ w71 ⟨a71x0, n71x0, c71x0, f71x0, rfl, hC71, hv71x0, hOc71⟩
          have hO := hO.perm (R := (f68 ++ ([])) ++ (([g5]) ++ (([g4]) ++ (([g3]) ++ ([]))))) (by simp)
          have h0 := h0.mut hC71 (fun g hg => hO.inM g ((fun _ h => h) g hg)) (fun _ _ h => nomatch h)
          have h1 := h1.mut hC71 (fun g hg => hO.inM g ((fun _ h => h) g hg)) (fun _ _ h => nomatch h)
          have hb3 := hb3.chg hC71 (fun hg => hO.apart _ ((fun _ h => h) _ hg) (mem_r (mem_r (mem_l (List.mem_singleton.2 rfl)))))
          have hb4 := hb4.chg hC71 (fun hg => hO.apart _ ((fun _ h => h) _ hg) (mem_r (mem_l (List.mem_singleton.2 rfl))))
          have hb5 := hb5.chg hC71 (fun hg => hO.apart _ ((fun _ h => h) _ hg) (mem_l (List.mem_singleton.2 rfl)))
          have hC := hC.step hC71 (fun g hg => hO.inN g ((fun _ h => h) g hg))
          have hO := Own.join hO hC71 hOc71
          have hO := hO.perm (R := f71x0 ++ (([g5]) ++ (([g4]) ++ (([g3]) ++ ([]))))) (by simp)
          refine x_p 13 (.agg #[(.int .i64 r29.1.1), (.int .i64 r29.1.2.1), (.slice a71x0 n71x0 c71x0)]) rfl (by kernel_rfl)  (fun _ => y_extract rfl (by kernel_rfl)) (fun h => nomatch h) ?_
          refine x_p 14 (.bool r29.2) rfl (by kernel_rfl)  (fun _ => y_extract rfl (by kernel_rfl)) (fun h => nomatch h) ?_
          refine x_one (i := 15) (by kernel_rfl) ?_
          obtain ⟨w74, hst74, hC74, hb74⟩ := box_store (P := Try.prog) hb5 [] [(.int .i64 0), (.int .i64 0), (.slice none 0 0)] [] [(.int .i64 r29.1.1), (.int .i64 r29.1.2.1), (.slice a71x0 n71x0 c71x0)] rfl rfl (by intro u hu; simp only [List.mem_cons, List.not_mem_nil, or_false] at hu; rcases hu with rfl | rfl | rfl <;> rfl)
          refine xk_skip (w' := w74) (b := true) rfl (ys_store rfl rfl (hst74 _ _ rfl Sz49)) rfl (fun h => nomatch h) ?_
          have hO := hO.fr1
          have h0 := h0.mut hC74 (fun g hg => hO.inM g ((fun _ h => h) g hg)) (fun _ _ h => nomatch h)
          have h1 := h1.mut hC74 (fun g hg => hO.inM g ((fun _ h => h) g hg)) (fun _ _ h => nomatch h)
          have hb3 := hb3.chg hC74 (fun hg => hO.apart _ ((fun _ h => h) _ hg) (mem_r (mem_r (mem_l (List.mem_singleton.2 rfl)))))
          have hb4 := hb4.chg hC74 (fun hg => hO.apart _ ((fun _ h => h) _ hg) (mem_r (mem_l (List.mem_singleton.2 rfl))))
          have hv71x0 := hv71x0.mut hC74 (fun g hg => hO.inM g ((fun _ h => h) g hg)) (fun g hg e => hO.apart g ((fun _ h => h) g hg) (mem_l (e)))
          have hC := hC.step hC74 (fun g hg => hO.inN g ((fun _ h => h) g hg))
          have hO := hO.ext hC74
          have hb74 : BoxV w74 g5 49 [(.int .i64 r29.1.1), (.int .i64 r29.1.2.1), (.slice a71x0 n71x0 c71x0)] := hb74
          refine x_p 16 (.bool r29.2) rfl (by kernel_rfl)  (fun _ => y_assign rfl) (fun h => nomatch h) ?_
          refine x_end (by kernel_rfl) ?_
          clear hS
          refine wp_ret ?_
          cases hs
          have hO := hO.drop
          have hO := hO.fr1
          have hO := hO.drop
          have hO := hO.fr1
          have hO := hO.drop
          exact ⟨_, g5, a71x0, n71x0, c71x0, f71x0, fr_ovl 44 ⟨rfl, rfl, trivial⟩, hb74, hC, hv71x0, hO.top⟩
        · skip
          obtain ⟨r20, hr20, hs⟩ := bind_some hs
          refine xk_call (b := false) rfl  Bd132 rfl (c_spec_l19Copy (M := M) x_.2.2 h0 hO.fut hr20) rfl (by rintro _ _ _ ⟨a75x0, n75x0, c75x0, f75x0, rfl, hC75, hv75x0, hOc75⟩; exact hS.ext hC75) ?_
          rintro _ w75 ⟨a75x0, n75x0, c75x0, f75x0, rfl, hC75, hv75x0, hOc75⟩
          have h0 := h0.ext hC75
          have h1 := h1.ext hC75
          have hb3 := hb3.chg hC75 (fun h => nomatch h)
          have hb4 := hb4.chg hC75 (fun h => nomatch h)
          have hb5 := hb5.chg hC75 (fun h => nomatch h)
          have hC := hC.ext hC75
          have hO := Own.join0 hO hC75 hOc75
          have hO := hO.perm (R := f75x0 ++ (([g5]) ++ (([g4]) ++ (([g3]) ++ ([]))))) (by simp)
          have hS := hS.ext hC75
          refine x_two (i := 1) (j := 9) (by kernel_rfl) ?_ ?_
          · skip
            refine xk_val (b := false) (.int .i64 x_.1) rfl  (y_load rfl ((box_load Ag3 Sz3 hb3 [] [(.int .i64 x_.1)] [(.int .i64 x_.2.1), (.slice pa0 pn0 pc0)] rfl rfl (fun _ => rfl)) _ (Chg.refl _ _))) rfl (fun _ => hS) ?_
            refine x_one (i := 9) (by kernel_rfl) ?_
            obtain ⟨r23, hr23, hs⟩ := bind_some hs
            refine xk_call (b := false) rfl  Bd132 rfl (c_spec_l19Copy (M := M) y.2.2 h1 hO.fut hr23) rfl (by rintro _ _ _ ⟨a78x0, n78x0, c78x0, f78x0, rfl, hC78, hv78x0, hOc78⟩; exact hS.ext hC78) ?_
            rintro _ w78 ⟨a78x0, n78x0, c78x0, f78x0, rfl, hC78, hv78x0, hOc78⟩
            have h0 := h0.ext hC78
            have h1 := h1.ext hC78
            have hb3 := hb3.chg hC78 (fun h => nomatch h)
            have hb4 := hb4.chg hC78 (fun h => nomatch h)
            have hb5 := hb5.chg hC78 (fun h => nomatch h)
            have hv75x0 := hv75x0.ext hC78
            have hC := hC.ext hC78
            have hO := Own.join0 hO hC78 hOc78
            have hO := hO.perm (R := f78x0 ++ (f75x0 ++ (([g5]) ++ (([g4]) ++ (([g3]) ++ ([])))))) (by simp)
            have hS := hS.ext hC78
            refine x_one (i := 10) (by kernel_rfl) ?_
            obtain ⟨y26, hy26, hs⟩ := bind_some hs
            have hO := hO.fr1
            obtain ⟨a81, n81, c81, w81, f81, hr81, hC81, hf81, hv81⟩ := app_os Rw47 hy26 hv75x0 hv78x0 hO.inM (fun g hg hq => hO.apart g hq (mem_l hg))
            have hG81 := os_block hv75x0
            refine xk_val (w' := w81) (b := true) (.slice a81 n81 c81) rfl  (y_append rfl rfl (hr81 _)) rfl (fun h => nomatch h) ?_
            have hO := hO.fr1
            have hO := hO.fr1
            have h0 := h0.mut hC81 (fun g hg => hO.inM g (hG81 g hg)) (fun _ _ h => nomatch h)
            have h1 := h1.mut hC81 (fun g hg => hO.inM g (hG81 g hg)) (fun _ _ h => nomatch h)
            have hb3 := hb3.chg hC81 (fun hg => hO.apart _ (hG81 _ hg) (mem_r (mem_r (mem_r (mem_l (List.mem_singleton.2 rfl))))))
            have hb4 := hb4.chg hC81 (fun hg => hO.apart _ (hG81 _ hg) (mem_r (mem_r (mem_l (List.mem_singleton.2 rfl)))))
            have hb5 := hb5.chg hC81 (fun hg => hO.apart _ (hG81 _ hg) (mem_r (mem_l (List.mem_singleton.2 rfl))))
            have hC := hC.step hC81 (fun g hg => hO.inN g (hG81 g hg))
            have hO := hO.eat hC81 hf81 (os_nodup hv81) hv81.fpl
            refine x_p 11 (.agg #[(.int .i64 x_.1), (.int .i64 x_.2.1), (.slice a81 n81 c81)]) rfl (by kernel_rfl)  (fun _ => y_build rfl (by kernel_rfl)) (fun h => nomatch h) ?_
            refine x_one (i := 12) (by kernel_rfl) ?_
            have hL84 := hO
            have hI84 := Own.lend (F := (f81 ++ ([]))) (R := ([g5]) ++ (([g4]) ++ (([g3]) ++ ([])))) (Own.perm (hL84) (by simp))
            obtain ⟨r29, hr29, hs⟩ := bind_some hs
            refine xk_call (b := true) rfl  Bd131 rfl (c_spec_l19Give__take0 (M := M) (x_.1, x_.2.1, y26) hv81 hI84 hI84.fut hr29) rfl (fun h => nomatch h) ?_
            rintro _ w84 ⟨a84x0, n84x0, c84x0, f84x0, rfl, hC84, hv84x0, hOc84⟩
            have hO := hO.perm (R := (f81 ++ ([])) ++ (([g5]) ++ (([g4]) ++ (([g3]) ++ ([]))))) (by simp)
            have h0 := h0.mut hC84 (fun g hg => hO.inM g ((fun _ h => h) g hg)) (fun _ _ h => nomatch h)
            have h1 := h1.mut hC84 (fun g hg => hO.inM g ((fun _ h => h) g hg)) (fun _ _ h => nomatch h)
            have hb3 := hb3.chg hC84 (fun hg => hO.apart _ ((fun _ h => h) _ hg) (mem_r (mem_r (mem_l (List.mem_singleton.2 rfl)))))
            have hb4 := hb4.chg hC84 (fun hg => hO.apart _ ((fun _ h => h) _ hg) (mem_r (mem_l (List.mem_singleton.2 rfl))))
            have hb5 := hb5.chg hC84 (fun hg => hO.apart _ ((fun _ h => h) _ hg) (mem_l (List.mem_singleton.2 rfl)))
            have hC := hC.step hC84 (fun g hg => hO.inN g ((fun _ h => h) g hg))
            have hO := Own.join hO hC84 hOc84
            have hO := hO.perm (R := f84x0 ++ (([g5]) ++ (([g4]) ++ (([g3]) ++ ([]))))) (by simp)
            refine x_p 13 (.agg #[(.int .i64 r29.1.1), (.int .i64 r29.1.2.1), (.slice a84x0 n84x0 c84x0)]) rfl (by kernel_rfl)  (fun _ => y_extract rfl (by kernel_rfl)) (fun h => nomatch h) ?_
            refine x_p 14 (.bool r29.2) rfl (by kernel_rfl)  (fun _ => y_extract rfl (by kernel_rfl)) (fun h => nomatch h) ?_
            refine x_one (i := 15) (by kernel_rfl) ?_
            obtain ⟨w87, hst87, hC87, hb87⟩ := box_store (P := Try.prog) hb5 [] [(.int .i64 0), (.int .i64 0), (.slice none 0 0)] [] [(.int .i64 r29.1.1), (.int .i64 r29.1.2.1), (.slice a84x0 n84x0 c84x0)] rfl rfl (by intro u hu; simp only [List.mem_cons, List.not_mem_nil, or_false] at hu; rcases hu with rfl | rfl | rfl <;> rfl)
            refine xk_skip (w' := w87) (b := true) rfl (ys_store rfl rfl (hst87 _ _ rfl Sz49)) rfl (fun h => nomatch h) ?_
            have hO := hO.fr1
            have h0 := h0.mut hC87 (fun g hg => hO.inM g ((fun _ h => h) g hg)) (fun _ _ h => nomatch h)
            have h1 := h1.mut hC87 (fun g hg => hO.inM g ((fun _ h => h) g hg)) (fun _ _ h => nomatch h)
            have hb3 := hb3.chg hC87 (fun hg => hO.apart _ ((fun _ h => h) _ hg) (mem_r (mem_r (mem_l (List.mem_singleton.2 rfl)))))
            have hb4 := hb4.chg hC87 (fun hg => hO.apart _ ((fun _ h => h) _ hg) (mem_r (mem_l (List.mem_singleton.2 rfl))))
            have hv84x0 := hv84x0.mut hC87 (fun g hg => hO.inM g ((fun _ h => h) g hg)) (fun g hg e => hO.apart g ((fun _ h => h) g hg) (mem_l (e)))
            have hC := hC.step hC87 (fun g hg => hO.inN g ((fun _ h => h) g hg))
            have hO := hO.ext hC87
            have hb87 : BoxV w87 g5 49 [(.int .i64 r29.1.1), (.int .i64 r29.1.2.1), (.slice a84x0 n84x0 c84x0)] := hb87
            refine x_p 16 (.bool r29.2) rfl (by kernel_rfl)  (fun _ => y_assign rfl) (fun h => nomatch h) ?_
            refine x_end (by kernel_rfl) ?_
            clear hS
            refine wp_ret ?_
            cases hs
            have hO := hO.drop
            have hO := hO.fr1
            have hO := hO.drop
            have hO := hO.fr1
            have hO := hO.drop
            exact ⟨_, g5, a84x0, n84x0, c84x0, f84x0, fr_ovl 44 ⟨rfl, rfl, trivial⟩, hb87, hC, hv84x0, hO.top⟩
          · skip
            obtain ⟨r23, hr23, hs⟩ := bind_some hs
            refine xk_call (b := false) rfl  Bd132 rfl (c_spec_l19Copy (M := M) y.2.2 h1 hO.fut hr23) rfl (by rintro _ _ _ ⟨a88x0, n88x0, c88x0, f88x0, rfl, hC88, hv88x0, hOc88⟩; exact hS.ext hC88) ?_
            rintro _ w88 ⟨a88x0, n88x0, c88x0, f88x0, rfl, hC88, hv88x0, hOc88⟩
            have h0 := h0.ext hC88
            have h1 := h1.ext hC88
            have hb3 := hb3.chg hC88 (fun h => nomatch h)
            have hb4 := hb4.chg hC88 (fun h => nomatch h)
            have hb5 := hb5.chg hC88 (fun h => nomatch h)
            have hv75x0 := hv75x0.ext hC88
            have hC := hC.ext hC88
            have hO := Own.join0 hO hC88 hOc88
            have hO := hO.perm (R := f88x0 ++ (f75x0 ++ (([g5]) ++ (([g4]) ++ (([g3]) ++ ([])))))) (by simp)
            have hS := hS.ext hC88
            refine x_two (i := 1) (j := 10) (by kernel_rfl) ?_ ?_
            · skip
              refine xk_val (b := false) (.int .i64 x_.1) rfl  (y_load rfl ((box_load Ag3 Sz3 hb3 [] [(.int .i64 x_.1)] [(.int .i64 x_.2.1), (.slice pa0 pn0 pc0)] rfl rfl (fun _ => rfl)) _ (Chg.refl _ _))) rfl (fun _ => hS) ?_
              refine x_one (i := 10) (by kernel_rfl) ?_
              obtain ⟨y26, hy26, hs⟩ := bind_some hs
              have hO := hO.fr1
              obtain ⟨a91, n91, c91, w91, f91, hr91, hC91, hf91, hv91⟩ := app_os Rw47 hy26 hv75x0 hv88x0 hO.inM (fun g hg hq => hO.apart g hq (mem_l hg))
              have hG91 := os_block hv75x0
              refine xk_val (w' := w91) (b := true) (.slice a91 n91 c91) rfl  (y_append rfl rfl (hr91 _)) rfl (fun h => nomatch h) ?_
              have hO := hO.fr1
              have hO := hO.fr1
              have h0 := h0.mut hC91 (fun g hg => hO.inM g (hG91 g hg)) (fun _ _ h => nomatch h)
              have h1 := h1.mut hC91 (fun g hg => hO.inM g (hG91 g hg)) (fun _ _ h => nomatch h)
              have hb3 := hb3.chg hC91 (fun hg => hO.apart _ (hG91 _ hg) (mem_r (mem_r (mem_r (mem_l (List.mem_singleton.2 rfl))))))
              have hb4 := hb4.chg hC91 (fun hg => hO.apart _ (hG91 _ hg) (mem_r (mem_r (mem_l (List.mem_singleton.2 rfl)))))
              have hb5 := hb5.chg hC91 (fun hg => hO.apart _ (hG91 _ hg) (mem_r (mem_l (List.mem_singleton.2 rfl))))
              have hC := hC.step hC91 (fun g hg => hO.inN g (hG91 g hg))
              have hO := hO.eat hC91 hf91 (os_nodup hv91) hv91.fpl
              refine x_p 11 (.agg #[(.int .i64 x_.1), (.int .i64 x_.2.1), (.slice a91 n91 c91)]) rfl (by kernel_rfl)  (fun _ => y_build rfl (by kernel_rfl)) (fun h => nomatch h) ?_
              refine x_one (i := 12) (by kernel_rfl) ?_
              have hL94 := hO
              have hI94 := Own.lend (F := (f91 ++ ([]))) (R := ([g5]) ++ (([g4]) ++ (([g3]) ++ ([])))) (Own.perm (hL94) (by simp))
              obtain ⟨r29, hr29, hs⟩ := bind_some hs
              refine xk_call (b := true) rfl  Bd131 rfl (c_spec_l19Give__take0 (M := M) (x_.1, x_.2.1, y26) hv91 hI94 hI94.fut hr29) rfl (fun h => nomatch h) ?_
              rintro _ w94 ⟨a94x0, n94x0, c94x0, f94x0, rfl, hC94, hv94x0, hOc94⟩
              have hO := hO.perm (R := (f91 ++ ([])) ++ (([g5]) ++ (([g4]) ++ (([g3]) ++ ([]))))) (by simp)
              have h0 := h0.mut hC94 (fun g hg => hO.inM g ((fun _ h => h) g hg)) (fun _ _ h => nomatch h)
              have h1 := h1.mut hC94 (fun g hg => hO.inM g ((fun _ h => h) g hg)) (fun _ _ h => nomatch h)
              have hb3 := hb3.chg hC94 (fun hg => hO.apart _ ((fun _ h => h) _ hg) (mem_r (mem_r (mem_l (List.mem_singleton.2 rfl)))))
              have hb4 := hb4.chg hC94 (fun hg => hO.apart _ ((fun _ h => h) _ hg) (mem_r (mem_l (List.mem_singleton.2 rfl))))
              have hb5 := hb5.chg hC94 (fun hg => hO.apart _ ((fun _ h => h) _ hg) (mem_l (List.mem_singleton.2 rfl)))
              have hC := hC.step hC94 (fun g hg => hO.inN g ((fun _ h => h) g hg))
              have hO := Own.join hO hC94 hOc94
              have hO := hO.perm (R := f94x0 ++ (([g5]) ++ (([g4]) ++ (([g3]) ++ ([]))))) (by simp)
              refine x_p 13 (.agg #[(.int .i64 r29.1.1), (.int .i64 r29.1.2.1), (.slice a94x0 n94x0 c94x0)]) rfl (by kernel_rfl)  (fun _ => y_extract rfl (by kernel_rfl)) (fun h => nomatch h) ?_
              refine x_p 14 (.bool r29.2) rfl (by kernel_rfl)  (fun _ => y_extract rfl (by kernel_rfl)) (fun h => nomatch h) ?_
              refine x_one (i := 15) (by kernel_rfl) ?_
              obtain ⟨w97, hst97, hC97, hb97⟩ := box_store (P := Try.prog) hb5 [] [(.int .i64 0), (.int .i64 0), (.slice none 0 0)] [] [(.int .i64 r29.1.1), (.int .i64 r29.1.2.1), (.slice a94x0 n94x0 c94x0)] rfl rfl (by intro u hu; simp only [List.mem_cons, List.not_mem_nil, or_false] at hu; rcases hu with rfl | rfl | rfl <;> rfl)
              refine xk_skip (w' := w97) (b := true) rfl (ys_store rfl rfl (hst97 _ _ rfl Sz49)) rfl (fun h => nomatch h) ?_
              have hO := hO.fr1
              have h0 := h0.mut hC97 (fun g hg => hO.inM g ((fun _ h => h) g hg)) (fun _ _ h => nomatch h)
              have h1 := h1.mut hC97 (fun g hg => hO.inM g ((fun _ h => h) g hg)) (fun _ _ h => nomatch h)
              have hb3 := hb3.chg hC97 (fun hg => hO.apart _ ((fun _ h => h) _ hg) (mem_r (mem_r (mem_l (List.mem_singleton.2 rfl)))))
              have hb4 := hb4.chg hC97 (fun hg => hO.apart _ ((fun _ h => h) _ hg) (mem_r (mem_l (List.mem_singleton.2 rfl))))
              have hv94x0 := hv94x0.mut hC97 (fun g hg => hO.inM g ((fun _ h => h) g hg)) (fun g hg e => hO.apart g ((fun _ h => h) g hg) (mem_l (e)))
              have hC := hC.step hC97 (fun g hg => hO.inN g ((fun _ h => h) g hg))
              have hO := hO.ext hC97
              have hb97 : BoxV w97 g5 49 [(.int .i64 r29.1.1), (.int .i64 r29.1.2.1), (.slice a94x0 n94x0 c94x0)] := hb97
              refine x_p 16 (.bool r29.2) rfl (by kernel_rfl)  (fun _ => y_assign rfl) (fun h => nomatch h) ?_
              refine x_end (by kernel_rfl) ?_
              clear hS
              refine wp_ret ?_
              cases hs
              have hO := hO.drop
              have hO := hO.fr1
              have hO := hO.drop
              have hO := hO.fr1
              have hO := hO.drop
              exact ⟨_, g5, a94x0, n94x0, c94x0, f94x0, fr_ovl 44 ⟨rfl, rfl, trivial⟩, hb97, hC, hv94x0, hO.top⟩
            · skip
              obtain ⟨y26, hy26, hs⟩ := bind_some hs
              have hO := hO.fr1
              obtain ⟨a98, n98, c98, w98, f98, hr98, hC98, hf98, hv98⟩ := app_os Rw47 hy26 hv75x0 hv88x0 hO.inM (fun g hg hq => hO.apart g hq (mem_l hg))
              have hG98 := os_block hv75x0
              refine xk_val (w' := w98) (b := true) (.slice a98 n98 c98) rfl  (y_append rfl rfl (hr98 _)) rfl (fun h => nomatch h) ?_
              have hO := hO.fr1
              have hO := hO.fr1
              have h0 := h0.mut hC98 (fun g hg => hO.inM g (hG98 g hg)) (fun _ _ h => nomatch h)
              have h1 := h1.mut hC98 (fun g hg => hO.inM g (hG98 g hg)) (fun _ _ h => nomatch h)
              have hb3 := hb3.chg hC98 (fun hg => hO.apart _ (hG98 _ hg) (mem_r (mem_r (mem_r (mem_l (List.mem_singleton.2 rfl))))))
              have hb4 := hb4.chg hC98 (fun hg => hO.apart _ (hG98 _ hg) (mem_r (mem_r (mem_l (List.mem_singleton.2 rfl)))))
              have hb5 := hb5.chg hC98 (fun hg => hO.apart _ (hG98 _ hg) (mem_r (mem_l (List.mem_singleton.2 rfl))))
              have hC := hC.step hC98 (fun g hg => hO.inN g (hG98 g hg))
              have hO := hO.eat hC98 hf98 (os_nodup hv98) hv98.fpl
              refine x_one (i := 1) (by kernel_rfl) ?_
              refine xk_val (b := true) (.int .i64 x_.1) rfl  (y_load rfl ((box_load Ag3 Sz3 hb3 [] [(.int .i64 x_.1)] [(.int .i64 x_.2.1), (.slice pa0 pn0 pc0)] rfl rfl (fun _ => rfl)) _ (Chg.refl _ _))) rfl (fun h => nomatch h) ?_
              refine x_p 11 (.agg #[(.int .i64 x_.1), (.int .i64 x_.2.1), (.slice a98 n98 c98)]) rfl (by kernel_rfl)  (fun _ => y_build rfl (by kernel_rfl)) (fun h => nomatch h) ?_
              refine x_one (i := 12) (by kernel_rfl) ?_
              have hL101 := hO
              have hI101 := Own.lend (F := (f98 ++ ([]))) (R := ([g5]) ++ (([g4]) ++ (([g3]) ++ ([])))) (Own.perm (hL101) (by simp))
              obtain ⟨r29, hr29, hs⟩ := bind_some hs
              refine xk_call (b := true) rfl  Bd131 rfl (c_spec_l19Give__take0 (M := M) (x_.1, x_.2.1, y26) hv98 hI101 hI101.fut hr29) rfl (fun h => nomatch h) ?_
              rintro _ w101 ⟨a101x0, n101x0, c101x0, f101x0, rfl, hC101, hv101x0, hOc101⟩
              have hO := hO.perm (R := (f98 ++ ([])) ++ (([g5]) ++ (([g4]) ++ (([g3]) ++ ([]))))) (by simp)
              have h0 := h0.mut hC101 (fun g hg => hO.inM g ((fun _ h => h) g hg)) (fun _ _ h => nomatch h)
              have h1 := h1.mut hC101 (fun g hg => hO.inM g ((fun _ h => h) g hg)) (fun _ _ h => nomatch h)
              have hb3 := hb3.chg hC101 (fun hg => hO.apart _ ((fun _ h => h) _ hg) (mem_r (mem_r (mem_l (List.mem_singleton.2 rfl)))))
              have hb4 := hb4.chg hC101 (fun hg => hO.apart _ ((fun _ h => h) _ hg) (mem_r (mem_l (List.mem_singleton.2 rfl))))
              have hb5 := hb5.chg hC101 (fun hg => hO.apart _ ((fun _ h => h) _ hg) (mem_l (List.mem_singleton.2 rfl)))
              have hC := hC.step hC101 (fun g hg => hO.inN g ((fun _ h => h) g hg))
              have hO := Own.join hO hC101 hOc101
              have hO := hO.perm (R := f101x0 ++ (([g5]) ++ (([g4]) ++ (([g3]) ++ ([]))))) (by simp)
              refine x_p 13 (.agg #[(.int .i64 r29.1.1), (.int .i64 r29.1.2.1), (.slice a101x0 n101x0 c101x0)]) rfl (by kernel_rfl)  (fun _ => y_extract rfl (by kernel_rfl)) (fun h => nomatch h) ?_
              refine x_p 14 (.bool r29.2) rfl (by kernel_rfl)  (fun _ => y_extract rfl (by kernel_rfl)) (fun h => nomatch h) ?_
              refine x_one (i := 15) (by kernel_rfl) ?_
              obtain ⟨w104, hst104, hC104, hb104⟩ := box_store (P := Try.prog) hb5 [] [(.int .i64 0), (.int .i64 0), (.slice none 0 0)] [] [(.int .i64 r29.1.1), (.int .i64 r29.1.2.1), (.slice a101x0 n101x0 c101x0)] rfl rfl (by intro u hu; simp only [List.mem_cons, List.not_mem_nil, or_false] at hu; rcases hu with rfl | rfl | rfl <;> rfl)
              refine xk_skip (w' := w104) (b := true) rfl (ys_store rfl rfl (hst104 _ _ rfl Sz49)) rfl (fun h => nomatch h) ?_
              have hO := hO.fr1
              have h0 := h0.mut hC104 (fun g hg => hO.inM g ((fun _ h => h) g hg)) (fun _ _ h => nomatch h)
              have h1 := h1.mut hC104 (fun g hg => hO.inM g ((fun _ h => h) g hg)) (fun _ _ h => nomatch h)
              have hb3 := hb3.chg hC104 (fun hg => hO.apart _ ((fun _ h => h) _ hg) (mem_r (mem_r (mem_l (List.mem_singleton.2 rfl)))))
              have hb4 := hb4.chg hC104 (fun hg => hO.apart _ ((fun _ h => h) _ hg) (mem_r (mem_l (List.mem_singleton.2 rfl))))
              have hv101x0 := hv101x0.mut hC104 (fun g hg => hO.inM g ((fun _ h => h) g hg)) (fun g hg e => hO.apart g ((fun _ h => h) g hg) (mem_l (e)))
              have hC := hC.step hC104 (fun g hg => hO.inN g ((fun _ h => h) g hg))
              have hO := hO.ext hC104
              have hb104 : BoxV w104 g5 49 [(.int .i64 r29.1.1), (.int .i64 r29.1.2.1), (.slice a101x0 n101x0 c101x0)] := hb104
              refine x_p 16 (.bool r29.2) rfl (by kernel_rfl)  (fun _ => y_assign rfl) (fun h => nomatch h) ?_
              refine x_end (by kernel_rfl) ?_
              clear hS
              refine wp_ret ?_
              cases hs
              have hO := hO.drop
              have hO := hO.fr1
              have hO := hO.drop
              have hO := hO.fr1
              have hO := hO.drop
              exact ⟨_, g5, a101x0, n101x0, c101x0, f101x0, fr_ovl 44 ⟨rfl, rfl, trivial⟩, hb104, hC, hv101x0, hO.top⟩
      · skip
        obtain ⟨r20, hr20, hs⟩ := bind_some hs
        refine xk_call (b := false) rfl  Bd132 rfl (c_spec_l19Copy (M := M) x_.2.2 h0 hO.fut hr20) rfl (by rintro _ _ _ ⟨a105x0, n105x0, c105x0, f105x0, rfl, hC105, hv105x0, hOc105⟩; exact hS.ext hC105) ?_
        rintro _ w105 ⟨a105x0, n105x0, c105x0, f105x0, rfl, hC105, hv105x0, hOc105⟩
        have h0 := h0.ext hC105
        have h1 := h1.ext hC105
        have hb3 := hb3.chg hC105 (fun h => nomatch h)
        have hb4 := hb4.chg hC105 (fun h => nomatch h)
        have hb5 := hb5.chg hC105 (fun h => nomatch h)
        have hC := hC.ext hC105
        have hO := Own.join0 hO hC105 hOc105
        have hO := hO.perm (R := f105x0 ++ (([g5]) ++ (([g4]) ++ (([g3]) ++ ([]))))) (by simp)
        have hS := hS.ext hC105
        refine x_many [1, 3, 9] (by kernel_rfl) (fun h => nomatch h) (all3 ?_ ?_ ?_)
        · skip
          refine xk_val (b := false) (.int .i64 x_.1) rfl  (y_load rfl ((box_load Ag3 Sz3 hb3 [] [(.int .i64 x_.1)] [(.int .i64 x_.2.1), (.slice pa0 pn0 pc0)] rfl rfl (fun _ => rfl)) _ (Chg.refl _ _))) rfl (fun _ => hS) ?_
          refine x_two (i := 3) (j := 9) (by kernel_rfl) ?_ ?_
          · skip
            refine xk_val (b := false) (.int .i64 x_.2.1) rfl  (y_load rfl ((box_load Ag3 Sz3 hb3 [(.int .i64 x_.1)] [(.int .i64 x_.2.1)] [(.slice pa0 pn0 pc0)] rfl rfl (fun _ => rfl)) _ (Chg.refl _ _))) rfl (fun _ => hS) ?_
            refine x_one (i := 9) (by kernel_rfl) ?_
            obtain ⟨r23, hr23, hs⟩ := bind_some hs
            refine xk_call (b := false) rfl  Bd132 rfl (c_spec_l19Copy (M := M) y.2.2 h1 hO.fut hr23) rfl (by rintro _ _ _ ⟨a108x0, n108x0, c108x0, f108x0, rfl, hC108, hv108x0, hOc108⟩; exact hS.ext hC108) ?_
            rintro _ w108 ⟨a108x0, n108x0, c108x0, f108x0, rfl, hC108, hv108x0, hOc108⟩
            have h0 := h0.ext hC108
            have h1 := h1.ext hC108
            have hb3 := hb3.chg hC108 (fun h => nomatch h)
            have hb4 := hb4.chg hC108 (fun h => nomatch h)
            have hb5 := hb5.chg hC108 (fun h => nomatch h)
            have hv105x0 := hv105x0.ext hC108
            have hC := hC.ext hC108
            have hO := Own.join0 hO hC108 hOc108
            have hO := hO.perm (R := f108x0 ++ (f105x0 ++ (([g5]) ++ (([g4]) ++ (([g3]) ++ ([])))))) (by simp)
            have hS := hS.ext hC108
            refine x_one (i := 10) (by kernel_rfl) ?_
            obtain ⟨y26, hy26, hs⟩ := bind_some hs
            have hO := hO.fr1
            obtain ⟨a111, n111, c111, w111, f111, hr111, hC111, hf111, hv111⟩ := app_os Rw47 hy26 hv105x0 hv108x0 hO.inM (fun g hg hq => hO.apart g hq (mem_l hg))
            have hG111 := os_block hv105x0
            refine xk_val (w' := w111) (b := true) (.slice a111 n111 c111) rfl  (y_append rfl rfl (hr111 _)) rfl (fun h => nomatch h) ?_
            have hO := hO.fr1
            have hO := hO.fr1
            have h0 := h0.mut hC111 (fun g hg => hO.inM g (hG111 g hg)) (fun _ _ h => nomatch h)
            have h1 := h1.mut hC111 (fun g hg => hO.inM g (hG111 g hg)) (fun _ _ h => nomatch h)
            have hb3 := hb3.chg hC111 (fun hg => hO.apart _ (hG111 _ hg) (mem_r (mem_r (mem_r (mem_l (List.mem_singleton.2 rfl))))))
            have hb4 := hb4.chg hC111 (fun hg => hO.apart _ (hG111 _ hg) (mem_r (mem_r (mem_l (List.mem_singleton.2 rfl)))))
            have hb5 := hb5.chg hC111 (fun hg => hO.apart _ (hG111 _ hg) (mem_r (mem_l (List.mem_singleton.2 rfl))))
            have hC := hC.step hC111 (fun g hg => hO.inN g (hG111 g hg))
            have hO := hO.eat hC111 hf111 (os_nodup hv111) hv111.fpl
            refine x_p 11 (.agg #[(.int .i64 x_.1), (.int .i64 x_.2.1), (.slice a111 n111 c111)]) rfl (by kernel_rfl)  (fun _ => y_build rfl (by kernel_rfl)) (fun h => nomatch h) ?_
            refine x_one (i := 12) (by kernel_rfl) ?_
            have hL114 := hO
            have hI114 := Own.lend (F := (f111 ++ ([]))) (R := ([g5]) ++ (([g4]) ++ (([g3]) ++ ([])))) (Own.perm (hL114) (by simp))
            obtain ⟨r29, hr29, hs⟩ := bind_some hs
            refine xk_call (b := true) rfl  Bd131 rfl (c_spec_l19Give__take0 (M := M) (x_.1, x_.2.1, y26) hv111 hI114 hI114.fut hr29) rfl (fun h => nomatch h) ?_
            rintro _ w114 ⟨a114x0, n114x0, c114x0, f114x0, rfl, hC114, hv114x0, hOc114⟩
            have hO := hO.perm (R := (f111 ++ ([])) ++ (([g5]) ++ (([g4]) ++ (([g3]) ++ ([]))))) (by simp)
            have h0 := h0.mut hC114 (fun g hg => hO.inM g ((fun _ h => h) g hg)) (fun _ _ h => nomatch h)
            have h1 := h1.mut hC114 (fun g hg => hO.inM g ((fun _ h => h) g hg)) (fun _ _ h => nomatch h)
            have hb3 := hb3.chg hC114 (fun hg => hO.apart _ ((fun _ h => h) _ hg) (mem_r (mem_r (mem_l (List.mem_singleton.2 rfl)))))
            have hb4 := hb4.chg hC114 (fun hg => hO.apart _ ((fun _ h => h) _ hg) (mem_r (mem_l (List.mem_singleton.2 rfl))))
            have hb5 := hb5.chg hC114 (fun hg => hO.apart _ ((fun _ h => h) _ hg) (mem_l (List.mem_singleton.2 rfl)))
            have hC := hC.step hC114 (fun g hg => hO.inN g ((fun _ h => h) g hg))
            have hO := Own.join hO hC114 hOc114
            have hO := hO.perm (R := f114x0 ++ (([g5]) ++ (([g4]) ++ (([g3]) ++ ([]))))) (by simp)
            refine x_p 13 (.agg #[(.int .i64 r29.1.1), (.int .i64 r29.1.2.1), (.slice a114x0 n114x0 c114x0)]) rfl (by kernel_rfl)  (fun _ => y_extract rfl (by kernel_rfl)) (fun h => nomatch h) ?_
            refine x_p 14 (.bool r29.2) rfl (by kernel_rfl)  (fun _ => y_extract rfl (by kernel_rfl)) (fun h => nomatch h) ?_
            refine x_one (i := 15) (by kernel_rfl) ?_
            obtain ⟨w117, hst117, hC117, hb117⟩ := box_store (P := Try.prog) hb5 [] [(.int .i64 0), (.int .i64 0), (.slice none 0 0)] [] [(.int .i64 r29.1.1), (.int .i64 r29.1.2.1), (.slice a114x0 n114x0 c114x0)] rfl rfl (by intro u hu; simp only [List.mem_cons, List.not_mem_nil, or_false] at hu; rcases hu with rfl | rfl | rfl <;> rfl)
            refine xk_skip (w' := w117) (b := true) rfl (ys_store rfl rfl (hst117 _ _ rfl Sz49)) rfl (fun h => nomatch h) ?_
            have hO := hO.fr1
            have h0 := h0.mut hC117 (fun g hg => hO.inM g ((fun _ h => h) g hg)) (fun _ _ h => nomatch h)
            have h1 := h1.mut hC117 (fun g hg => hO.inM g ((fun _ h => h) g hg)) (fun _ _ h => nomatch h)
            have hb3 := hb3.chg hC117 (fun hg => hO.apart _ ((fun _ h => h) _ hg) (mem_r (mem_r (mem_l (List.mem_singleton.2 rfl)))))
            have hb4 := hb4.chg hC117 (fun hg => hO.apart _ ((fun _ h => h) _ hg) (mem_r (mem_l (List.mem_singleton.2 rfl))))
            have hv114x0 := hv114x0.mut hC117 (fun g hg => hO.inM g ((fun _ h => h) g hg)) (fun g hg e => hO.apart g ((fun _ h => h) g hg) (mem_l (e)))
            have hC := hC.step hC117 (fun g hg => hO.inN g ((fun _ h => h) g hg))
            have hO := hO.ext hC117
            have hb117 : BoxV w117 g5 49 [(.int .i64 r29.1.1), (.int .i64 r29.1.2.1), (.slice a114x0 n114x0 c114x0)] := hb117
            refine x_p 16 (.bool r29.2) rfl (by kernel_rfl)  (fun _ => y_assign rfl) (fun h => nomatch h) ?_
            refine x_end (by kernel_rfl) ?_
            clear hS
            refine wp_ret ?_
            cases hs
            have hO := hO.drop
            have hO := hO.fr1
            have hO := hO.drop
            have hO := hO.fr1
            have hO := hO.drop
            exact ⟨_, g5, a114x0, n114x0, c114x0, f114x0, fr_ovl 44 ⟨rfl, rfl, trivial⟩, hb117, hC, hv114x0, hO.top⟩
          · skip
            obtain ⟨r23, hr23, hs⟩ := bind_some hs
            refine xk_call (b := false) rfl  Bd132 rfl (c_spec_l19Copy (M := M) y.2.2 h1 hO.fut hr23) rfl (by rintro _ _ _ ⟨a118x0, n118x0, c118x0, f118x0, rfl, hC118, hv118x0, hOc118⟩; exact hS.ext hC118) ?_
            rintro _ w118 ⟨a118x0, n118x0, c118x0, f118x0, rfl, hC118, hv118x0, hOc118⟩
            have h0 := h0.ext hC118
            have h1 := h1.ext hC118
            have hb3 := hb3.chg hC118 (fun h => nomatch h)
            have hb4 := hb4.chg hC118 (fun h => nomatch h)
            have hb5 := hb5.chg hC118 (fun h => nomatch h)
            have hv105x0 := hv105x0.ext hC118
            have hC := hC.ext hC118
            have hO := Own.join0 hO hC118 hOc118
            have hO := hO.perm (R := f118x0 ++ (f105x0 ++ (([g5]) ++ (([g4]) ++ (([g3]) ++ ([])))))) (by simp)
            have hS := hS.ext hC118
            refine x_two (i := 3) (j := 10) (by kernel_rfl) ?_ ?_
            · skip
              refine xk_val (b := false) (.int .i64 x_.2.1) rfl  (y_load rfl ((box_load Ag3 Sz3 hb3 [(.int .i64 x_.1)] [(.int .i64 x_.2.1)] [(.slice pa0 pn0 pc0)] rfl rfl (fun _ => rfl)) _ (Chg.refl _ _))) rfl (fun _ => hS) ?_
              refine x_one (i := 10) (by kernel_rfl) ?_
              obtain ⟨y26, hy26, hs⟩ := bind_some hs
              have hO := hO.fr1
              obtain ⟨a121, n121, c121, w121, f121, hr121, hC121, hf121, hv121⟩ := app_os Rw47 hy26 hv105x0 hv118x0 hO.inM (fun g hg hq => hO.apart g hq (mem_l hg))
              have hG121 := os_block hv105x0
              refine xk_val (w' := w121) (b := true) (.slice a121 n121 c121) rfl  (y_append rfl rfl (hr121 _)) rfl (fun h => nomatch h) ?_
              have hO := hO.fr1
              have hO := hO.fr1
              have h0 := h0.mut hC121 (fun g hg => hO.inM g (hG121 g hg)) (fun _ _ h => nomatch h)
              have h1 := h1.mut hC121 (fun g hg => hO.inM g (hG121 g hg)) (fun _ _ h => nomatch h)
              have hb3 := hb3.chg hC121 (fun hg => hO.apart _ (hG121 _ hg) (mem_r (mem_r (mem_r (mem_l (List.mem_singleton.2 rfl))))))
              have hb4 := hb4.chg hC121 (fun hg => hO.apart _ (hG121 _ hg) (mem_r (mem_r (mem_l (List.mem_singleton.2 rfl)))))
              have hb5 := hb5.chg hC121 (fun hg => hO.apart _ (hG121 _ hg) (mem_r (mem_l (List.mem_singleton.2 rfl))))
              have hC := hC.step hC121 (fun g hg => hO.inN g (hG121 g hg))
              have hO := hO.eat hC121 hf121 (os_nodup hv121) hv121.fpl
              refine x_p 11 (.agg #[(.int .i64 x_.1), (.int .i64 x_.2.1), (.slice a121 n121 c121)]) rfl (by kernel_rfl)  (fun _ => y_build rfl (by kernel_rfl)) (fun h => nomatch h) ?_
              refine x_one (i := 12) (by kernel_rfl) ?_
              have hL124 := hO
              have hI124 := Own.lend (F := (f121 ++ ([]))) (R := ([g5]) ++ (([g4]) ++ (([g3]) ++ ([])))) (Own.perm (hL124) (by simp))
              obtain ⟨r29, hr29, hs⟩ := bind_some hs
              refine xk_call (b := true) rfl  Bd131 rfl (c_spec_l19Give__take0 (M := M) (x_.1, x_.2.1, y26) hv121 hI124 hI124.fut hr29) rfl (fun h => nomatch h) ?_
              rintro _ w124 ⟨a124x0, n124x0, c124x0, f124x0, rfl, hC124, hv124x0, hOc124⟩
              have hO := hO.perm (R := (f121 ++ ([])) ++ (([g5]) ++ (([g4]) ++ (([g3]) ++ ([]))))) (by simp)
              have h0 := h0.mut hC124 (fun g hg => hO.inM g ((fun _ h => h) g hg)) (fun _ _ h => nomatch h)
              have h1 := h1.mut hC124 (fun g hg => hO.inM g ((fun _ h => h) g hg)) (fun _ _ h => nomatch h)
              have hb3 := hb3.chg hC124 (fun hg => hO.apart _ ((fun _ h => h) _ hg) (mem_r (mem_r (mem_l (List.mem_singleton.2 rfl)))))
              have hb4 := hb4.chg hC124 (fun hg => hO.apart _ ((fun _ h => h) _ hg) (mem_r (mem_l (List.mem_singleton.2 rfl))))
              have hb5 := hb5.chg hC124 (fun hg => hO.apart _ ((fun _ h => h) _ hg) (mem_l (List.mem_singleton.2 rfl)))
              have hC := hC.step hC124 (fun g hg => hO.inN g ((fun _ h => h) g hg))
              have hO := Own.join hO hC124 hOc124
              have hO := hO.perm (R := f124x0 ++ (([g5]) ++ (([g4]) ++ (([g3]) ++ ([]))))) (by simp)
              refine x_p 13 (.agg #[(.int .i64 r29.1.1), (.int .i64 r29.1.2.1), (.slice a124x0 n124x0 c124x0)]) rfl (by kernel_rfl)  (fun _ => y_extract rfl (by kernel_rfl)) (fun h => nomatch h) ?_
              refine x_p 14 (.bool r29.2) rfl (by kernel_rfl)  (fun _ => y_extract rfl (by kernel_rfl)) (fun h => nomatch h) ?_
              refine x_one (i := 15) (by kernel_rfl) ?_
              obtain ⟨w127, hst127, hC127, hb127⟩ := box_store (P := Try.prog) hb5 [] [(.int .i64 0), (.int .i64 0), (.slice none 0 0)] [] [(.int .i64 r29.1.1), (.int .i64 r29.1.2.1), (.slice a124x0 n124x0 c124x0)] rfl rfl (by intro u hu; simp only [List.mem_cons, List.not_mem_nil, or_false] at hu; rcases hu with rfl | rfl | rfl <;> rfl)
              refine xk_skip (w' := w127) (b := true) rfl (ys_store rfl rfl (hst127 _ _ rfl Sz49)) rfl (fun h => nomatch h) ?_
              have hO := hO.fr1
              have h0 := h0.mut hC127 (fun g hg => hO.inM g ((fun _ h => h) g hg)) (fun _ _ h => nomatch h)
              have h1 := h1.mut hC127 (fun g hg => hO.inM g ((fun _ h => h) g hg)) (fun _ _ h => nomatch h)
              have hb3 := hb3.chg hC127 (fun hg => hO.apart _ ((fun _ h => h) _ hg) (mem_r (mem_r (mem_l (List.mem_singleton.2 rfl)))))
              have hb4 := hb4.chg hC127 (fun hg => hO.apart _ ((fun _ h => h) _ hg) (mem_r (mem_l (List.mem_singleton.2 rfl))))
              have hv124x0 := hv124x0.mut hC127 (fun g hg => hO.inM g ((fun _ h => h) g hg)) (fun g hg e => hO.apart g ((fun _ h => h) g hg) (mem_l (e)))
              have hC := hC.step hC127 (fun g hg => hO.inN g ((fun _ h => h) g hg))
              have hO := hO.ext hC127
              have hb127 : BoxV w127 g5 49 [(.int .i64 r29.1.1), (.int .i64 r29.1.2.1), (.slice a124x0 n124x0 c124x0)] := hb127
              refine x_p 16 (.bool r29.2) rfl (by kernel_rfl)  (fun _ => y_assign rfl) (fun h => nomatch h) ?_
              refine x_end (by kernel_rfl) ?_
              clear hS
              refine wp_ret ?_
              cases hs
              have hO := hO.drop
              have hO := hO.fr1
              have hO := hO.drop
              have hO := hO.fr1
              have hO := hO.drop
              exact ⟨_, g5, a124x0, n124x0, c124x0, f124x0, fr_ovl 44 ⟨rfl, rfl, trivial⟩, hb127, hC, hv124x0, hO.top⟩
            · skip
              obtain ⟨y26, hy26, hs⟩ := bind_some hs
              have hO := hO.fr1
              obtain ⟨a128, n128, c128, w128, f128, hr128, hC128, hf128, hv128⟩ := app_os Rw47 hy26 hv105x0 hv118x0 hO.inM (fun g hg hq => hO.apart g hq (mem_l hg))
              have hG128 := os_block hv105x0
              refine xk_val (w' := w128) (b := true) (.slice a128 n128 c128) rfl  (y_append rfl rfl (hr128 _)) rfl (fun h => nomatch h) ?_
              have hO := hO.fr1
              have hO := hO.fr1
              have h0 := h0.mut hC128 (fun g hg => hO.inM g (hG128 g hg)) (fun _ _ h => nomatch h)
              have h1 := h1.mut hC128 (fun g hg => hO.inM g (hG128 g hg)) (fun _ _ h => nomatch h)
              have hb3 := hb3.chg hC128 (fun hg => hO.apart _ (hG128 _ hg) (mem_r (mem_r (mem_r (mem_l (List.mem_singleton.2 rfl))))))
              have hb4 := hb4.chg hC128 (fun hg => hO.apart _ (hG128 _ hg) (mem_r (mem_r (mem_l (List.mem_singleton.2 rfl)))))
              have hb5 := hb5.chg hC128 (fun hg => hO.apart _ (hG128 _ hg) (mem_r (mem_l (List.mem_singleton.2 rfl))))
              have hC := hC.step hC128 (fun g hg => hO.inN g (hG128 g hg))
              have hO := hO.eat hC128 hf128 (os_nodup hv128) hv128.fpl
              refine x_one (i := 3) (by kernel_rfl) ?_
              refine xk_val (b := true) (.int .i64 x_.2.1) rfl  (y_load rfl ((box_load Ag3 Sz3 hb3 [(.int .i64 x_.1)] [(.int .i64 x_.2.1)] [(.slice pa0 pn0 pc0)] rfl rfl (fun _ => rfl)) _ (Chg.refl _ _))) rfl (fun h => nomatch h) ?_
              refine x_p 11 (.agg #[(.int .i64 x_.1), (.int .i64 x_.2.1), (.slice a128 n128 c128)]) rfl (by kernel_rfl)  (fun _ => y_build rfl (by kernel_rfl)) (fun h => nomatch h) ?_
              refine x_one (i := 12) (by kernel_rfl) ?_
              have hL131 := hO
              have hI131 := Own.lend (F := (f128 ++ ([]))) (R := ([g5]) ++ (([g4]) ++ (([g3]) ++ ([])))) (Own.perm (hL131) (by simp))
              obtain ⟨r29, hr29, hs⟩ := bind_some hs
              refine xk_call (b := true) rfl  Bd131 rfl (c_spec_l19Give__take0 (M := M) (x_.1, x_.2.1, y26) hv128 hI131 hI131.fut hr29) rfl (fun h => nomatch h) ?_
              rintro _ w131 ⟨a131x0, n131x0, c131x0, f131x0, rfl, hC131, hv131x0, hOc131⟩
              have hO := hO.perm (R := (f128 ++ ([])) ++ (([g5]) ++ (([g4]) ++ (([g3]) ++ ([]))))) (by simp)
              have h0 := h0.mut hC131 (fun g hg => hO.inM g ((fun _ h => h) g hg)) (fun _ _ h => nomatch h)
              have h1 := h1.mut hC131 (fun g hg => hO.inM g ((fun _ h => h) g hg)) (fun _ _ h => nomatch h)
              have hb3 := hb3.chg hC131 (fun hg => hO.apart _ ((fun _ h => h) _ hg) (mem_r (mem_r (mem_l (List.mem_singleton.2 rfl)))))
              have hb4 := hb4.chg hC131 (fun hg => hO.apart _ ((fun _ h => h) _ hg) (mem_r (mem_l (List.mem_singleton.2 rfl))))
              have hb5 := hb5.chg hC131 (fun hg => hO.apart _ ((fun _ h => h) _ hg) (mem_l (List.mem_singleton.2 rfl)))
              have hC := hC.step hC131 (fun g hg => hO.inN g ((fun _ h => h) g hg))
              have hO := Own.join hO hC131 hOc131
              have hO := hO.perm (R := f131x0 ++ (([g5]) ++ (([g4]) ++ (([g3]) ++ ([]))))) (by simp)
              refine x_p 13 (.agg #[(.int .i64 r29.1.1), (.int .i64 r29.1.2.1), (.slice a131x0 n131x0 c131x0)]) rfl (by kernel_rfl)  (fun _ => y_extract rfl (by kernel_rfl)) (fun h => nomatch h) ?_
              refine x_p 14 (.bool r29.2) rfl (by kernel_rfl)  (fun _ => y_extract rfl (by kernel_rfl)) (fun h => nomatch h) ?_
              refine x_one (i := 15) (by kernel_rfl) ?_
              obtain ⟨w134, hst134, hC134, hb134⟩ := box_store (P := Try.prog) hb5 [] [(.int .i64 0), (.int .i64 0), (.slice none 0 0)] [] [(.int .i64 r29.1.1), (.int .i64 r29.1.2.1), (.slice a131x0 n131x0 c131x0)] rfl rfl (by intro u hu; simp only [List.mem_cons, List.not_mem_nil, or_false] at hu; rcases hu with rfl | rfl | rfl <;> rfl)
              refine xk_skip (w' := w134) (b := true) rfl (ys_store rfl rfl (hst134 _ _ rfl Sz49)) rfl (fun h => nomatch h) ?_
              have hO := hO.fr1
              have h0 := h0.mut hC134 (fun g hg => hO.inM g ((fun _ h => h) g hg)) (fun _ _ h => nomatch h)
              have h1 := h1.mut hC134 (fun g hg => hO.inM g ((fun _ h => h) g hg)) (fun _ _ h => nomatch h)
              have hb3 := hb3.chg hC134 (fun hg => hO.apart _ ((fun _ h => h) _ hg) (mem_r (mem_r (mem_l (List.mem_singleton.2 rfl)))))
              have hb4 := hb4.chg hC134 (fun hg => hO.apart _ ((fun _ h => h) _ hg) (mem_r (mem_l (List.mem_singleton.2 rfl))))
              have hv131x0 := hv131x0.mut hC134 (fun g hg => hO.inM g ((fun _ h => h) g hg)) (fun g hg e => hO.apart g ((fun _ h => h) g hg) (mem_l (e)))
              have hC := hC.step hC134 (fun g hg => hO.inN g ((fun _ h => h) g hg))
              have hO := hO.ext hC134
              have hb134 : BoxV w134 g5 49 [(.int .i64 r29.1.1), (.int .i64 r29.1.2.1), (.slice a131x0 n131x0 c131x0)] := hb134
              refine x_p 16 (.bool r29.2) rfl (by kernel_rfl)  (fun _ => y_assign rfl) (fun h => nomatch h) ?_
              refine x_end (by kernel_rfl) ?_
              clear hS
              refine wp_ret ?_
              cases hs
              have hO := hO.drop
              have hO := hO.fr1
              have hO := hO.drop
              have hO := hO.fr1
              have hO := hO.drop
              exact ⟨_, g5, a131x0, n131x0, c131x0, f131x0, fr_ovl 44 ⟨rfl, rfl, trivial⟩, hb134, hC, hv131x0, hO.top⟩
        · skip
          refine xk_val (b := false) (.int .i64 x_.2.1) rfl  (y_load rfl ((box_load Ag3 Sz3 hb3 [(.int .i64 x_.1)] [(.int .i64 x_.2.1)] [(.slice pa0 pn0 pc0)] rfl rfl (fun _ => rfl)) _ (Chg.refl _ _))) rfl (fun _ => hS) ?_
          refine x_two (i := 1) (j := 9) (by kernel_rfl) ?_ ?_
          · skip
            refine xk_val (b := false) (.int .i64 x_.1) rfl  (y_load rfl ((box_load Ag3 Sz3 hb3 [] [(.int .i64 x_.1)] [(.int .i64 x_.2.1), (.slice pa0 pn0 pc0)] rfl rfl (fun _ => rfl)) _ (Chg.refl _ _))) rfl (fun _ => hS) ?_
            refine x_one (i := 9) (by kernel_rfl) ?_
            obtain ⟨r23, hr23, hs⟩ := bind_some hs
            refine xk_call (b := false) rfl  Bd132 rfl (c_spec_l19Copy (M := M) y.2.2 h1 hO.fut hr23) rfl (by rintro _ _ _ ⟨a135x0, n135x0, c135x0, f135x0, rfl, hC135, hv135x0, hOc135⟩; exact hS.ext hC135) ?_
            rintro _ w135 ⟨a135x0, n135x0, c135x0, f135x0, rfl, hC135, hv135x0, hOc135⟩
            have h0 := h0.ext hC135
            have h1 := h1.ext hC135
            have hb3 := hb3.chg hC135 (fun h => nomatch h)
            have hb4 := hb4.chg hC135 (fun h => nomatch h)
            have hb5 := hb5.chg hC135 (fun h => nomatch h)
            have hv105x0 := hv105x0.ext hC135
            have hC := hC.ext hC135
            have hO := Own.join0 hO hC135 hOc135
            have hO := hO.perm (R := f135x0 ++ (f105x0 ++ (([g5]) ++ (([g4]) ++ (([g3]) ++ ([])))))) (by simp)
            have hS := hS.ext hC135
            refine x_one (i := 10) (by kernel_rfl) ?_
            obtain ⟨y26, hy26, hs⟩ := bind_some hs
            have hO := hO.fr1
            obtain ⟨a138, n138, c138, w138, f138, hr138, hC138, hf138, hv138⟩ := app_os Rw47 hy26 hv105x0 hv135x0 hO.inM (fun g hg hq => hO.apart g hq (mem_l hg))
            have hG138 := os_block hv105x0
            refine xk_val (w' := w138) (b := true) (.slice a138 n138 c138) rfl  (y_append rfl rfl (hr138 _)) rfl (fun h => nomatch h) ?_
            have hO := hO.fr1
            have hO := hO.fr1
            have h0 := h0.mut hC138 (fun g hg => hO.inM g (hG138 g hg)) (fun _ _ h => nomatch h)
            have h1 := h1.mut hC138 (fun g hg => hO.inM g (hG138 g hg)) (fun _ _ h => nomatch h)
            have hb3 := hb3.chg hC138 (fun hg => hO.apart _ (hG138 _ hg) (mem_r (mem_r (mem_r (mem_l (List.mem_singleton.2 rfl))))))
            have hb4 := hb4.chg hC138 (fun hg => hO.apart _ (hG138 _ hg) (mem_r (mem_r (mem_l (List.mem_singleton.2 rfl)))))
            have hb5 := hb5.chg hC138 (fun hg => hO.apart _ (hG138 _ hg) (mem_r (mem_l (List.mem_singleton.2 rfl))))
            have hC := hC.step hC138 (fun g hg => hO.inN g (hG138 g hg))
            have hO := hO.eat hC138 hf138 (os_nodup hv138) hv138.fpl
            refine x_p 11 (.agg #[(.int .i64 x_.1), (.int .i64 x_.2.1), (.slice a138 n138 c138)]) rfl (by kernel_rfl)  (fun _ => y_build rfl (by kernel_rfl)) (fun h => nomatch h) ?_
            refine x_one (i := 12) (by kernel_rfl) ?_
            have hL141 := hO
            have hI141 := Own.lend (F := (f138 ++ ([]))) (R := ([g5]) ++ (([g4]) ++ (([g3]) ++ ([])))) (Own.perm (hL141) (by simp))
            obtain ⟨r29, hr29, hs⟩ := bind_some hs
            refine xk_call (b := true) rfl  Bd131 rfl (c_spec_l19Give__take0 (M := M) (x_.1, x_.2.1, y26) hv138 hI141 hI141.fut hr29) rfl (fun h => nomatch h) ?_
            rintro _ w141 ⟨a141x0, n141x0, c141x0, f141x0, rfl, hC141, hv141x0, hOc141⟩
            have hO := hO.perm (R := (f138 ++ ([])) ++ (([g5]) ++ (([g4]) ++ (([g3]) ++ ([]))))) (by simp)
            have h0 := h0.mut hC141 (fun g hg => hO.inM g ((fun _ h => h) g hg)) (fun _ _ h => nomatch h)
            have h1 := h1.mut hC141 (fun g hg => hO.inM g ((fun _ h => h) g hg)) (fun _ _ h => nomatch h)
            have hb3 := hb3.chg hC141 (fun hg => hO.apart _ ((fun _ h => h) _ hg) (mem_r (mem_r (mem_l (List.mem_singleton.2 rfl)))))
            have hb4 := hb4.chg hC141 (fun hg => hO.apart _ ((fun _ h => h) _ hg) (mem_r (mem_l (List.mem_singleton.2 rfl))))
            have hb5 := hb5.chg hC141 (fun hg => hO.apart _ ((fun _ h => h) _ hg) (mem_l (List.mem_singleton.2 rfl)))
            have hC := hC.step hC141 (fun g hg => hO.inN g ((fun _ h => h) g hg))
            have hO := Own.join hO hC141 hOc141
            have hO := hO.perm (R := f141x0 ++ (([g5]) ++ (([g4]) ++ (([g3]) ++ ([]))))) (by simp)
            refine x_p 13 (.agg #[(.int .i64 r29.1.1), (.int .i64 r29.1.2.1), (.slice a141x0 n141x0 c141x0)]) rfl (by kernel_rfl)  (fun _ => y_extract rfl (by kernel_rfl)) (fun h => nomatch h) ?_
            refine x_p 14 (.bool r29.2) rfl (by kernel_rfl)  (fun _ => y_extract rfl (by kernel_rfl)) (fun h => nomatch h) ?_
            refine x_one (i := 15) (by kernel_rfl) ?_
            obtain ⟨w144, hst144, hC144, hb144⟩ := box_store (P := Try.prog) hb5 [] [(.int .i64 0), (.int .i64 0), (.slice none 0 0)] [] [(.int .i64 r29.1.1), (.int .i64 r29.1.2.1), (.slice a141x0 n141x0 c141x0)] rfl rfl (by intro u hu; simp only [List.mem_cons, List.not_mem_nil, or_false] at hu; rcases hu with rfl | rfl | rfl <;> rfl)
            refine xk_skip (w' := w144) (b := true) rfl (ys_store rfl rfl (hst144 _ _ rfl Sz49)) rfl (fun h => nomatch h) ?_
            have hO := hO.fr1
            have h0 := h0.mut hC144 (fun g hg => hO.inM g ((fun _ h => h) g hg)) (fun _ _ h => nomatch h)
            have h1 := h1.mut hC144 (fun g hg => hO.inM g ((fun _ h => h) g hg)) (fun _ _ h => nomatch h)
            have hb3 := hb3.chg hC144 (fun hg => hO.apart _ ((fun _ h => h) _ hg) (mem_r (mem_r (mem_l (List.mem_singleton.2 rfl)))))
            have hb4 := hb4.chg hC144 (fun hg => hO.apart _ ((fun _ h => h) _ hg) (mem_r (mem_l (List.mem_singleton.2 rfl))))
            have hv141x0 := hv141x0.mut hC144 (fun g hg => hO.inM g ((fun _ h => h) g hg)) (fun g hg e => hO.apart g ((fun _ h => h) g hg) (mem_l (e)))
            have hC := hC.step hC144 (fun g hg => hO.inN g ((fun _ h => h) g hg))
            have hO := hO.ext hC144
            have hb144 : BoxV w144 g5 49 [(.int .i64 r29.1.1), (.int .i64 r29.1.2.1), (.slice a141x0 n141x0 c141x0)] := hb144
            refine x_p 16 (.bool r29.2) rfl (by kernel_rfl)  (fun _ => y_assign rfl) (fun h => nomatch h) ?_
            refine x_end (by kernel_rfl) ?_
            clear hS
            refine wp_ret ?_
            cases hs
            have hO := hO.drop
            have hO := hO.fr1
            have hO := hO.drop
            have hO := hO.fr1
            have hO := hO.drop
            exact ⟨_, g5, a141x0, n141x0, c141x0, f141x0, fr_ovl 44 ⟨rfl, rfl, trivial⟩, hb144, hC, hv141x0, hO.top⟩
          · skip
            obtain ⟨r23, hr23, hs⟩ := bind_some hs
            refine xk_call (b := false) rfl  Bd132 rfl (c_spec_l19Copy (M := M) y.2.2 h1 hO.fut hr23) rfl (by rintro _ _ _ ⟨a145x0, n145x0, c145x0, f145x0, rfl, hC145, hv145x0, hOc145⟩; exact hS.ext hC145) ?_
            rintro _ w145 ⟨a145x0, n145x0, c145x0, f145x0, rfl, hC145, hv145x0, hOc145⟩
            have h0 := h0.ext hC145
            have h1 := h1.ext hC145
            have hb3 := hb3.chg hC145 (fun h => nomatch h)
            have hb4 := hb4.chg hC145 (fun h => nomatch h)
            have hb5 := hb5.chg hC145 (fun h => nomatch h)
            have hv105x0 := hv105x0.ext hC145
            have hC := hC.ext hC145
            have hO := Own.join0 hO hC145 hOc145
            have hO := hO.perm (R := f145x0 ++ (f105x0 ++ (([g5]) ++ (([g4]) ++ (([g3]) ++ ([])))))) (by simp)
            have hS := hS.ext hC145
            refine x_two (i := 1) (j := 10) (by kernel_rfl) ?_ ?_
            · skip
              refine xk_val (b := false) (.int .i64 x_.1) rfl  (y_load rfl ((box_load Ag3 Sz3 hb3 [] [(.int .i64 x_.1)] [(.int .i64 x_.2.1), (.slice pa0 pn0 pc0)] rfl rfl (fun _ => rfl)) _ (Chg.refl _ _))) rfl (fun _ => hS) ?_
              refine x_one (i := 10) (by kernel_rfl) ?_
              obtain ⟨y26, hy26, hs⟩ := bind_some hs
              have hO := hO.fr1
              obtain ⟨a148, n148, c148, w148, f148, hr148, hC148, hf148, hv148⟩ := app_os Rw47 hy26 hv105x0 hv145x0 hO.inM (fun g hg hq => hO.apart g hq (mem_l hg))
              have hG148 := os_block hv105x0
              refine xk_val (w' := w148) (b := true) (.slice a148 n148 c148) rfl  (y_append rfl rfl (hr148 _)) rfl (fun h => nomatch h) ?_
              have hO := hO.fr1
              have hO := hO.fr1
              have h0 := h0.mut hC148 (fun g hg => hO.inM g (hG148 g hg)) (fun _ _ h => nomatch h)
              have h1 := h1.mut hC148 (fun g hg => hO.inM g (hG148 g hg)) (fun _ _ h => nomatch h)
              have hb3 := hb3.chg hC148 (fun hg => hO.apart _ (hG148 _ hg) (mem_r (mem_r (mem_r (mem_l (List.mem_singleton.2 rfl))))))
              have hb4 := hb4.chg hC148 (fun hg => hO.apart _ (hG148 _ hg) (mem_r (mem_r (mem_l (List.mem_singleton.2 rfl)))))
              have hb5 := hb5.chg hC148 (fun hg => hO.apart _ (hG148 _ hg) (mem_r (mem_l (List.mem_singleton.2 rfl))))
              have hC := hC.step hC148 (fun g hg => hO.inN g (hG148 g hg))
              have hO := hO.eat hC148 hf148 (os_nodup hv148) hv148.fpl
              refine x_p 11 (.agg #[(.int .i64 x_.1), (.int .i64 x_.2.1), (.slice a148 n148 c148)]) rfl (by kernel_rfl)  (fun _ => y_build rfl (by kernel_rfl)) (fun h => nomatch h) ?_
              refine x_one (i := 12) (by kernel_rfl) ?_
              have hL151 := hO
              have hI151 := Own.lend (F := (f148 ++ ([]))) (R := ([g5]) ++ (([g4]) ++ (([g3]) ++ ([])))) (Own.perm (hL151) (by simp))
              obtain ⟨r29, hr29, hs⟩ := bind_some hs
              refine xk_call (b := true) rfl  Bd131 rfl (c_spec_l19Give__take0 (M := M) (x_.1, x_.2.1, y26) hv148 hI151 hI151.fut hr29) rfl (fun h => nomatch h) ?_
              rintro _ w151 ⟨a151x0, n151x0, c151x0, f151x0, rfl, hC151, hv151x0, hOc151⟩
              have hO := hO.perm (R := (f148 ++ ([])) ++ (([g5]) ++ (([g4]) ++ (([g3]) ++ ([]))))) (by simp)
              have h0 := h0.mut hC151 (fun g hg => hO.inM g ((fun _ h => h) g hg)) (fun _ _ h => nomatch h)
              have h1 := h1.mut hC151 (fun g hg => hO.inM g ((fun _ h => h) g hg)) (fun _ _ h => nomatch h)
              have hb3 := hb3.chg hC151 (fun hg => hO.apart _ ((fun _ h => h) _ hg) (mem_r (mem_r (mem_l (List.mem_singleton.2 rfl)))))
              have hb4 := hb4.chg hC151 (fun hg => hO.apart _ ((fun _ h => h) _ hg) (mem_r (mem_l (List.mem_singleton.2 rfl))))
              have hb5 := hb5.chg hC151 (fun hg => hO.apart _ ((fun _ h => h) _ hg) (mem_l (List.mem_singleton.2 rfl)))
              have hC := hC.step hC151 (fun g hg => hO.inN g ((fun _ h => h) g hg))
              have hO := Own.join hO hC151 hOc151
              have hO := hO.perm (R := f151x0 ++ (([g5]) ++ (([g4]) ++ (([g3]) ++ ([]))))) (by simp)
              refine x_p 13 (.agg #[(.int .i64 r29.1.1), (.int .i64 r29.1.2.1), (.slice a151x0 n151x0 c151x0)]) rfl (by kernel_rfl)  (fun _ => y_extract rfl (by kernel_rfl)) (fun h => nomatch h) ?_
              refine x_p 14 (.bool r29.2) rfl (by kernel_rfl)  (fun _ => y_extract rfl (by kernel_rfl)) (fun h => nomatch h) ?_
              refine x_one (i := 15) (by kernel_rfl) ?_
              obtain ⟨w154, hst154, hC154, hb154⟩ := box_store (P := Try.prog) hb5 [] [(.int .i64 0), (.int .i64 0), (.slice none 0 0)] [] [(.int .i64 r29.1.1), (.int .i64 r29.1.2.1), (.slice a151x0 n151x0 c151x0)] rfl rfl (by intro u hu; simp only [List.mem_cons, List.not_mem_nil, or_false] at hu; rcases hu with rfl | rfl | rfl <;> rfl)
              refine xk_skip (w' := w154) (b := true) rfl (ys_store rfl rfl (hst154 _ _ rfl Sz49)) rfl (fun h => nomatch h) ?_
              have hO := hO.fr1
              have h0 := h0.mut hC154 (fun g hg => hO.inM g ((fun _ h => h) g hg)) (fun _ _ h => nomatch h)
              have h1 := h1.mut hC154 (fun g hg => hO.inM g ((fun _ h => h) g hg)) (fun _ _ h => nomatch h)
              have hb3 := hb3.chg hC154 (fun hg => hO.apart _ ((fun _ h => h) _ hg) (mem_r (mem_r (mem_l (List.mem_singleton.2 rfl)))))
              have hb4 := hb4.chg hC154 (fun hg => hO.apart _ ((fun _ h => h) _ hg) (mem_r (mem_l (List.mem_singleton.2 rfl))))
              have hv151x0 := hv151x0.mut hC154 (fun g hg => hO.inM g ((fun _ h => h) g hg)) (fun g hg e => hO.apart g ((fun _ h => h) g hg) (mem_l (e)))
              have hC := hC.step hC154 (fun g hg => hO.inN g ((fun _ h => h) g hg))
              have hO := hO.ext hC154
              have hb154 : BoxV w154 g5 49 [(.int .i64 r29.1.1), (.int .i64 r29.1.2.1), (.slice a151x0 n151x0 c151x0)] := hb154
              refine x_p 16 (.bool r29.2) rfl (by kernel_rfl)  (fun _ => y_assign rfl) (fun h => nomatch h) ?_
              refine x_end (by kernel_rfl) ?_
              clear hS
              refine wp_ret ?_
              cases hs
              have hO := hO.drop
              have hO := hO.fr1
              have hO := hO.drop
              have hO := hO.fr1
              have hO := hO.drop
              exact ⟨_, g5, a151x0, n151x0, c151x0, f151x0, fr_ovl 44 ⟨rfl, rfl, trivial⟩, hb154, hC, hv151x0, hO.top⟩
            · skip
              obtain ⟨y26, hy26, hs⟩ := bind_some hs
              have hO := hO.fr1
              obtain ⟨a155, n155, c155, w155, f155, hr155, hC155, hf155, hv155⟩ := app_os Rw47 hy26 hv105x0 hv145x0 hO.inM (fun g hg hq => hO.apart g hq (mem_l hg))
              have hG155 := os_block hv105x0
              refine xk_val (w' := w155) (b := true) (.slice a155 n155 c155) rfl  (y_append rfl rfl (hr155 _)) rfl (fun h => nomatch h) ?_
              have hO := hO.fr1
              have hO := hO.fr1
              have h0 := h0.mut hC155 (fun g hg => hO.inM g (hG155 g hg)) (fun _ _ h => nomatch h)
              have h1 := h1.mut hC155 (fun g hg => hO.inM g (hG155 g hg)) (fun _ _ h => nomatch h)
              have hb3 := hb3.chg hC155 (fun hg => hO.apart _ (hG155 _ hg) (mem_r (mem_r (mem_r (mem_l (List.mem_singleton.2 rfl))))))
              have hb4 := hb4.chg hC155 (fun hg => hO.apart _ (hG155 _ hg) (mem_r (mem_r (mem_l (List.mem_singleton.2 rfl)))))
              have hb5 := hb5.chg hC155 (fun hg => hO.apart _ (hG155 _ hg) (mem_r (mem_l (List.mem_singleton.2 rfl))))
              have hC := hC.step hC155 (fun g hg => hO.inN g (hG155 g hg))
              have hO := hO.eat hC155 hf155 (os_nodup hv155) hv155.fpl
              refine x_one (i := 1) (by kernel_rfl) ?_
              refine xk_val (b := true) (.int .i64 x_.1) rfl  (y_load rfl ((box_load Ag3 Sz3 hb3 [] [(.int .i64 x_.1)] [(.int .i64 x_.2.1), (.slice pa0 pn0 pc0)] rfl rfl (fun _ => rfl)) _ (Chg.refl _ _))) rfl (fun h => nomatch h) ?_
              refine x_p 11 (.agg #[(.int .i64 x_.1), (.int .i64 x_.2.1), (.slice a155 n155 c155)]) rfl (by kernel_rfl)  (fun _ => y_build rfl (by kernel_rfl)) (fun h => nomatch h) ?_
              refine x_one (i := 12) (by kernel_rfl) ?_
              have hL158 := hO
              have hI158 := Own.lend (F := (f155 ++ ([]))) (R := ([g5]) ++ (([g4]) ++ (([g3]) ++ ([])))) (Own.perm (hL158) (by simp))
              obtain ⟨r29, hr29, hs⟩ := bind_some hs
              refine xk_call (b := true) rfl  Bd131 rfl (c_spec_l19Give__take0 (M := M) (x_.1, x_.2.1, y26) hv155 hI158 hI158.fut hr29) rfl (fun h => nomatch h) ?_
              rintro _ w158 ⟨a158x0, n158x0, c158x0, f158x0, rfl, hC158, hv158x0, hOc158⟩
              have hO := hO.perm (R := (f155 ++ ([])) ++ (([g5]) ++ (([g4]) ++ (([g3]) ++ ([]))))) (by simp)
              have h0 := h0.mut hC158 (fun g hg => hO.inM g ((fun _ h => h) g hg)) (fun _ _ h => nomatch h)
              have h1 := h1.mut hC158 (fun g hg => hO.inM g ((fun _ h => h) g hg)) (fun _ _ h => nomatch h)
              have hb3 := hb3.chg hC158 (fun hg => hO.apart _ ((fun _ h => h) _ hg) (mem_r (mem_r (mem_l (List.mem_singleton.2 rfl)))))
              have hb4 := hb4.chg hC158 (fun hg => hO.apart _ ((fun _ h => h) _ hg) (mem_r (mem_l (List.mem_singleton.2 rfl))))
              have hb5 := hb5.chg hC158 (fun hg => hO.apart _ ((fun _ h => h) _ hg) (mem_l (List.mem_singleton.2 rfl)))
              have hC := hC.step hC158 (fun g hg => hO.inN g ((fun _ h => h) g hg))
              have hO := Own.join hO hC158 hOc158
              have hO := hO.perm (R := f158x0 ++ (([g5]) ++ (([g4]) ++ (([g3]) ++ ([]))))) (by simp)
              refine x_p 13 (.agg #[(.int .i64 r29.1.1), (.int .i64 r29.1.2.1), (.slice a158x0 n158x0 c158x0)]) rfl (by kernel_rfl)  (fun _ => y_extract rfl (by kernel_rfl)) (fun h => nomatch h) ?_
              refine x_p 14 (.bool r29.2) rfl (by kernel_rfl)  (fun _ => y_extract rfl (by kernel_rfl)) (fun h => nomatch h) ?_
              refine x_one (i := 15) (by kernel_rfl) ?_
              obtain ⟨w161, hst161, hC161, hb161⟩ := box_store (P := Try.prog) hb5 [] [(.int .i64 0), (.int .i64 0), (.slice none 0 0)] [] [(.int .i64 r29.1.1), (.int .i64 r29.1.2.1), (.slice a158x0 n158x0 c158x0)] rfl rfl (by intro u hu; simp only [List.mem_cons, List.not_mem_nil, or_false] at hu; rcases hu with rfl | rfl | rfl <;> rfl)
              refine xk_skip (w' := w161) (b := true) rfl (ys_store rfl rfl (hst161 _ _ rfl Sz49)) rfl (fun h => nomatch h) ?_
              have hO := hO.fr1
              have h0 := h0.mut hC161 (fun g hg => hO.inM g ((fun _ h => h) g hg)) (fun _ _ h => nomatch h)
              have h1 := h1.mut hC161 (fun g hg => hO.inM g ((fun _ h => h) g hg)) (fun _ _ h => nomatch h)
              have hb3 := hb3.chg hC161 (fun hg => hO.apart _ ((fun _ h => h) _ hg) (mem_r (mem_r (mem_l (List.mem_singleton.2 rfl)))))
              have hb4 := hb4.chg hC161 (fun hg => hO.apart _ ((fun _ h => h) _ hg) (mem_r (mem_l (List.mem_singleton.2 rfl))))
              have hv158x0 := hv158x0.mut hC161 (fun g hg => hO.inM g ((fun _ h => h) g hg)) (fun g hg e => hO.apart g ((fun _ h => h) g hg) (mem_l (e)))
              have hC := hC.step hC161 (fun g hg => hO.inN g ((fun _ h => h) g hg))
              have hO := hO.ext hC161
              have hb161 : BoxV w161 g5 49 [(.int .i64 r29.1.1), (.int .i64 r29.1.2.1), (.slice a158x0 n158x0 c158x0)] := hb161
              refine x_p 16 (.bool r29.2) rfl (by kernel_rfl)  (fun _ => y_assign rfl) (fun h => nomatch h) ?_
              refine x_end (by kernel_rfl) ?_
              clear hS
              refine wp_ret ?_
              cases hs
              have hO := hO.drop
              have hO := hO.fr1
              have hO := hO.drop
              have hO := hO.fr1
              have hO := hO.drop
              exact ⟨_, g5, a158x0, n158x0, c158x0, f158x0, fr_ovl 44 ⟨rfl, rfl, trivial⟩, hb161, hC, hv158x0, hO.top⟩
        · skip
          obtain ⟨r23, hr23, hs⟩ := bind_some hs
          refine xk_call (b := false) rfl  Bd132 rfl (c_spec_l19Copy (M := M) y.2.2 h1 hO.fut hr23) rfl (by rintro _ _ _ ⟨a162x0, n162x0, c162x0, f162x0, rfl, hC162, hv162x0, hOc162⟩; exact hS.ext hC162) ?_
          rintro _ w162 ⟨a162x0, n162x0, c162x0, f162x0, rfl, hC162, hv162x0, hOc162⟩
          have h0 := h0.ext hC162
          have h1 := h1.ext hC162
          have hb3 := hb3.chg hC162 (fun h => nomatch h)
          have hb4 := hb4.chg hC162 (fun h => nomatch h)
          have hb5 := hb5.chg hC162 (fun h => nomatch h)
          have hv105x0 := hv105x0.ext hC162
          have hC := hC.ext hC162
          have hO := Own.join0 hO hC162 hOc162
          have hO := hO.perm (R := f162x0 ++ (f105x0 ++ (([g5]) ++ (([g4]) ++ (([g3]) ++ ([])))))) (by simp)
          have hS := hS.ext hC162
          refine x_many [1, 3, 10] (by kernel_rfl) (fun h => nomatch h) (all3 ?_ ?_ ?_)
          · skip
            refine xk_val (b := false) (.int .i64 x_.1) rfl  (y_load rfl ((box_load Ag3 Sz3 hb3 [] [(.int .i64 x_.1)] [(.int .i64 x_.2.1), (.slice pa0 pn0 pc0)] rfl rfl (fun _ => rfl)) _ (Chg.refl _ _))) rfl (fun _ => hS) ?_
            refine x_two (i := 3) (j := 10) (by kernel_rfl) ?_ ?_
            · skip
              refine xk_val (b := false) (.int .i64 x_.2.1) rfl  (y_load rfl ((box_load Ag3 Sz3 hb3 [(.int .i64 x_.1)] [(.int .i64 x_.2.1)] [(.slice pa0 pn0 pc0)] rfl rfl (fun _ => rfl)) _ (Chg.refl _ _))) rfl (fun _ => hS) ?_
              refine x_one (i := 10) (by kernel_rfl) ?_
              obtain ⟨y26, hy26, hs⟩ := bind_some hs
              have hO := hO.fr1
              obtain ⟨a165, n165, c165, w165, f165, hr165, hC165, hf165, hv165⟩ := app_os Rw47 hy26 hv105x0 hv162x0 hO.inM (fun g hg hq => hO.apart g hq (mem_l hg))
              have hG165 := os_block hv105x0
              refine xk_val (w' := w165) (b := true) (.slice a165 n165 c165) rfl  (y_append rfl rfl (hr165 _)) rfl (fun h => nomatch h) ?_
              have hO := hO.fr1
              have hO := hO.fr1
              have h0 := h0.mut hC165 (fun g hg => hO.inM g (hG165 g hg)) (fun _ _ h => nomatch h)
              have h1 := h1.mut hC165 (fun g hg => hO.inM g (hG165 g hg)) (fun _ _ h => nomatch h)
              have hb3 := hb3.chg hC165 (fun hg => hO.apart _ (hG165 _ hg) (mem_r (mem_r (mem_r (mem_l (List.mem_singleton.2 rfl))))))
              have hb4 := hb4.chg hC165 (fun hg => hO.apart _ (hG165 _ hg) (mem_r (mem_r (mem_l (List.mem_singleton.2 rfl)))))
              have hb5 := hb5.chg hC165 (fun hg => hO.apart _ (hG165 _ hg) (mem_r (mem_l (List.mem_singleton.2 rfl))))
              have hC := hC.step hC165 (fun g hg => hO.inN g (hG165 g hg))
              have hO := hO.eat hC165 hf165 (os_nodup hv165) hv165.fpl
              refine x_p 11 (.agg #[(.int .i64 x_.1), (.int .i64 x_.2.1), (.slice a165 n165 c165)]) rfl (by kernel_rfl)  (fun _ => y_build rfl (by kernel_rfl)) (fun h => nomatch h) ?_
              refine x_one (i := 12) (by kernel_rfl) ?_
              have hL168 := hO
              have hI168 := Own.lend (F := (f165 ++ ([]))) (R := ([g5]) ++ (([g4]) ++ (([g3]) ++ ([])))) (Own.perm (hL168) (by simp))
              obtain ⟨r29, hr29, hs⟩ := bind_some hs
              refine xk_call (b := true) rfl  Bd131 rfl (c_spec_l19Give__take0 (M := M) (x_.1, x_.2.1, y26) hv165 hI168 hI168.fut hr29) rfl (fun h => nomatch h) ?_
              rintro _ w168 ⟨a168x0, n168x0, c168x0, f168x0, rfl, hC168, hv168x0, hOc168⟩
              have hO := hO.perm (R := (f165 ++ ([])) ++ (([g5]) ++ (([g4]) ++ (([g3]) ++ ([]))))) (by simp)
              have h0 := h0.mut hC168 (fun g hg => hO.inM g ((fun _ h => h) g hg)) (fun _ _ h => nomatch h)
              have h1 := h1.mut hC168 (fun g hg => hO.inM g ((fun _ h => h) g hg)) (fun _ _ h => nomatch h)
              have hb3 := hb3.chg hC168 (fun hg => hO.apart _ ((fun _ h => h) _ hg) (mem_r (mem_r (mem_l (List.mem_singleton.2 rfl)))))
              have hb4 := hb4.chg hC168 (fun hg => hO.apart _ ((fun _ h => h) _ hg) (mem_r (mem_l (List.mem_singleton.2 rfl))))
              have hb5 := hb5.chg hC168 (fun hg => hO.apart _ ((fun _ h => h) _ hg) (mem_l (List.mem_singleton.2 rfl)))
              have hC := hC.step hC168 (fun g hg => hO.inN g ((fun _ h => h) g hg))
              have hO := Own.join hO hC168 hOc168
              have hO := hO.perm (R := f168x0 ++ (([g5]) ++ (([g4]) ++ (([g3]) ++ ([]))))) (by simp)
              refine x_p 13 (.agg #[(.int .i64 r29.1.1), (.int .i64 r29.1.2.1), (.slice a168x0 n168x0 c168x0)]) rfl (by kernel_rfl)  (fun _ => y_extract rfl (by kernel_rfl)) (fun h => nomatch h) ?_
              refine x_p 14 (.bool r29.2) rfl (by kernel_rfl)  (fun _ => y_extract rfl (by kernel_rfl)) (fun h => nomatch h) ?_
              refine x_one (i := 15) (by kernel_rfl) ?_
              obtain ⟨w171, hst171, hC171, hb171⟩ := box_store (P := Try.prog) hb5 [] [(.int .i64 0), (.int .i64 0), (.slice none 0 0)] [] [(.int .i64 r29.1.1), (.int .i64 r29.1.2.1), (.slice a168x0 n168x0 c168x0)] rfl rfl (by intro u hu; simp only [List.mem_cons, List.not_mem_nil, or_false] at hu; rcases hu with rfl | rfl | rfl <;> rfl)
              refine xk_skip (w' := w171) (b := true) rfl (ys_store rfl rfl (hst171 _ _ rfl Sz49)) rfl (fun h => nomatch h) ?_
              have hO := hO.fr1
              have h0 := h0.mut hC171 (fun g hg => hO.inM g ((fun _ h => h) g hg)) (fun _ _ h => nomatch h)
              have h1 := h1.mut hC171 (fun g hg => hO.inM g ((fun _ h => h) g hg)) (fun _ _ h => nomatch h)
              have hb3 := hb3.chg hC171 (fun hg => hO.apart _ ((fun _ h => h) _ hg) (mem_r (mem_r (mem_l (List.mem_singleton.2 rfl)))))
              have hb4 := hb4.chg hC171 (fun hg => hO.apart _ ((fun _ h => h) _ hg) (mem_r (mem_l (List.mem_singleton.2 rfl))))
              have hv168x0 := hv168x0.mut hC171 (fun g hg => hO.inM g ((fun _ h => h) g hg)) (fun g hg e => hO.apart g ((fun _ h => h) g hg) (mem_l (e)))
              have hC := hC.step hC171 (fun g hg => hO.inN g ((fun _ h => h) g hg))
              have hO := hO.ext hC171
              have hb171 : BoxV w171 g5 49 [(.int .i64 r29.1.1), (.int .i64 r29.1.2.1), (.slice a168x0 n168x0 c168x0)] := hb171
              refine x_p 16 (.bool r29.2) rfl (by kernel_rfl)  (fun _ => y_assign rfl) (fun h => nomatch h) ?_
              refine x_end (by kernel_rfl) ?_
              clear hS
              refine wp_ret ?_
              cases hs
              have hO := hO.drop
              have hO := hO.fr1
              have hO := hO.drop
              have hO := hO.fr1
              have hO := hO.drop
              exact ⟨_, g5, a168x0, n168x0, c168x0, f168x0, fr_ovl 44 ⟨rfl, rfl, trivial⟩, hb171, hC, hv168x0, hO.top⟩
            · skip
              obtain ⟨y26, hy26, hs⟩ := bind_some hs
              have hO := hO.fr1
              obtain ⟨a172, n172, c172, w172, f172, hr172, hC172, hf172, hv172⟩ := app_os Rw47 hy26 hv105x0 hv162x0 hO.inM (fun g hg hq => hO.apart g hq (mem_l hg))
              have hG172 := os_block hv105x0
              refine xk_val (w' := w172) (b := true) (.slice a172 n172 c172) rfl  (y_append rfl rfl (hr172 _)) rfl (fun h => nomatch h) ?_
              have hO := hO.fr1
              have hO := hO.fr1
              have h0 := h0.mut hC172 (fun g hg => hO.inM g (hG172 g hg)) (fun _ _ h => nomatch h)
              have h1 := h1.mut hC172 (fun g hg => hO.inM g (hG172 g hg)) (fun _ _ h => nomatch h)
              have hb3 := hb3.chg hC172 (fun hg => hO.apart _ (hG172 _ hg) (mem_r (mem_r (mem_r (mem_l (List.mem_singleton.2 rfl))))))
              have hb4 := hb4.chg hC172 (fun hg => hO.apart _ (hG172 _ hg) (mem_r (mem_r (mem_l (List.mem_singleton.2 rfl)))))
              have hb5 := hb5.chg hC172 (fun hg => hO.apart _ (hG172 _ hg) (mem_r (mem_l (List.mem_singleton.2 rfl))))
              have hC := hC.step hC172 (fun g hg => hO.inN g (hG172 g hg))
              have hO := hO.eat hC172 hf172 (os_nodup hv172) hv172.fpl
              refine x_one (i := 3) (by kernel_rfl) ?_
              refine xk_val (b := true) (.int .i64 x_.2.1) rfl  (y_load rfl ((box_load Ag3 Sz3 hb3 [(.int .i64 x_.1)] [(.int .i64 x_.2.1)] [(.slice pa0 pn0 pc0)] rfl rfl (fun _ => rfl)) _ (Chg.refl _ _))) rfl (fun h => nomatch h) ?_
              refine x_p 11 (.agg #[(.int .i64 x_.1), (.int .i64 x_.2.1), (.slice a172 n172 c172)]) rfl (by kernel_rfl)  (fun _ => y_build rfl (by kernel_rfl)) (fun h => nomatch h) ?_
              refine x_one (i := 12) (by kernel_rfl) ?_
              have hL175 := hO
              have hI175 := Own.lend (F := (f172 ++ ([]))) (R := ([g5]) ++ (([g4]) ++ (([g3]) ++ ([])))) (Own.perm (hL175) (by simp))
              obtain ⟨r29, hr29, hs⟩ := bind_some hs
              refine xk_call (b := true) rfl  Bd131 rfl (c_spec_l19Give__take0 (M := M) (x_.1, x_.2.1, y26) hv172 hI175 hI175.fut hr29) rfl (fun h => nomatch h) ?_
              rintro _ w175 ⟨a175x0, n175x0, c175x0, f175x0, rfl, hC175, hv175x0, hOc175⟩
              have hO := hO.perm (R := (f172 ++ ([])) ++ (([g5]) ++ (([g4]) ++ (([g3]) ++ ([]))))) (by simp)
              have h0 := h0.mut hC175 (fun g hg => hO.inM g ((fun _ h => h) g hg)) (fun _ _ h => nomatch h)
              have h1 := h1.mut hC175 (fun g hg => hO.inM g ((fun _ h => h) g hg)) (fun _ _ h => nomatch h)
              have hb3 := hb3.chg hC175 (fun hg => hO.apart _ ((fun _ h => h) _ hg) (mem_r (mem_r (mem_l (List.mem_singleton.2 rfl)))))
              have hb4 := hb4.chg hC175 (fun hg => hO.apart _ ((fun _ h => h) _ hg) (mem_r (mem_l (List.mem_singleton.2 rfl))))
              have hb5 := hb5.chg hC175 (fun hg => hO.apart _ ((fun _ h => h) _ hg) (mem_l (List.mem_singleton.2 rfl)))
              have hC := hC.step hC175 (fun g hg => hO.inN g ((fun _ h => h) g hg))
              have hO := Own.join hO hC175 hOc175
              have hO := hO.perm (R := f175x0 ++ (([g5]) ++ (([g4]) ++ (([g3]) ++ ([]))))) (by simp)
              refine x_p 13 (.agg #[(.int .i64 r29.1.1), (.int .i64 r29.1.2.1), (.slice a175x0 n175x0 c175x0)]) rfl (by kernel_rfl)  (fun _ => y_extract rfl (by kernel_rfl)) (fun h => nomatch h) ?_
              refine x_p 14 (.bool r29.2) rfl (by kernel_rfl)  (fun _ => y_extract rfl (by kernel_rfl)) (fun h => nomatch h) ?_
              refine x_one (i := 15) (by kernel_rfl) ?_
              obtain ⟨w178, hst178, hC178, hb178⟩ := box_store (P := Try.prog) hb5 [] [(.int .i64 0), (.int .i64 0), (.slice none 0 0)] [] [(.int .i64 r29.1.1), (.int .i64 r29.1.2.1), (.slice a175x0 n175x0 c175x0)] rfl rfl (by intro u hu; simp only [List.mem_cons, List.not_mem_nil, or_false] at hu; rcases hu with rfl | rfl | rfl <;> rfl)
              refine xk_skip (w' := w178) (b := true) rfl (ys_store rfl rfl (hst178 _ _ rfl Sz49)) rfl (fun h => nomatch h) ?_
              have hO := hO.fr1
              have h0 := h0.mut hC178 (fun g hg => hO.inM g ((fun _ h => h) g hg)) (fun _ _ h => nomatch h)
              have h1 := h1.mut hC178 (fun g hg => hO.inM g ((fun _ h => h) g hg)) (fun _ _ h => nomatch h)
              have hb3 := hb3.chg hC178 (fun hg => hO.apart _ ((fun _ h => h) _ hg) (mem_r (mem_r (mem_l (List.mem_singleton.2 rfl)))))
              have hb4 := hb4.chg hC178 (fun hg => hO.apart _ ((fun _ h => h) _ hg) (mem_r (mem_l (List.mem_singleton.2 rfl))))
              have hv175x0 := hv175x0.mut hC178 (fun g hg => hO.inM g ((fun _ h => h) g hg)) (fun g hg e => hO.apart g ((fun _ h => h) g hg) (mem_l (e)))
              have hC := hC.step hC178 (fun g hg => hO.inN g ((fun _ h => h) g hg))
              have hO := hO.ext hC178
              have hb178 : BoxV w178 g5 49 [(.int .i64 r29.1.1), (.int .i64 r29.1.2.1), (.slice a175x0 n175x0 c175x0)] := hb178
              refine x_p 16 (.bool r29.2) rfl (by kernel_rfl)  (fun _ => y_assign rfl) (fun h => nomatch h) ?_
              refine x_end (by kernel_rfl) ?_
              clear hS
              refine wp_ret ?_
              cases hs
              have hO := hO.drop
              have hO := hO.fr1
              have hO := hO.drop
              have hO := hO.fr1
              have hO := hO.drop
              exact ⟨_, g5, a175x0, n175x0, c175x0, f175x0, fr_ovl 44 ⟨rfl, rfl, trivial⟩, hb178, hC, hv175x0, hO.top⟩
          · skip
            refine xk_val (b := false) (.int .i64 x_.2.1) rfl  (y_load rfl ((box_load Ag3 Sz3 hb3 [(.int .i64 x_.1)] [(.int .i64 x_.2.1)] [(.slice pa0 pn0 pc0)] rfl rfl (fun _ => rfl)) _ (Chg.refl _ _))) rfl (fun _ => hS) ?_
            refine x_two (i := 1) (j := 10) (by kernel_rfl) ?_ ?_
            · skip
              refine xk_val (b := false) (.int .i64 x_.1) rfl  (y_load rfl ((box_load Ag3 Sz3 hb3 [] [(.int .i64 x_.1)] [(.int .i64 x_.2.1), (.slice pa0 pn0 pc0)] rfl rfl (fun _ => rfl)) _ (Chg.refl _ _))) rfl (fun _ => hS) ?_
              refine x_one (i := 10) (by kernel_rfl) ?_
              obtain ⟨y26, hy26, hs⟩ := bind_some hs
              have hO := hO.fr1
              obtain ⟨a179, n179, c179, w179, f179, hr179, hC179, hf179, hv179⟩ := app_os Rw47 hy26 hv105x0 hv162x0 hO.inM (fun g hg hq => hO.apart g hq (mem_l hg))
              have hG179 := os_block hv105x0
              refine xk_val (w' := w179) (b := true) (.slice a179 n179 c179) rfl  (y_append rfl rfl (hr179 _)) rfl (fun h => nomatch h) ?_
              have hO := hO.fr1
              have hO := hO.fr1
              have h0 := h0.mut hC179 (fun g hg => hO.inM g (hG179 g hg)) (fun _ _ h => nomatch h)
              have h1 := h1.mut hC179 (fun g hg => hO.inM g (hG179 g hg)) (fun _ _ h => nomatch h)
              have hb3 := hb3.chg hC179 (fun hg => hO.apart _ (hG179 _ hg) (mem_r (mem_r (mem_r (mem_l (List.mem_singleton.2 rfl))))))
              have hb4 := hb4.chg hC179 (fun hg => hO.apart _ (hG179 _ hg) (mem_r (mem_r (mem_l (List.mem_singleton.2 rfl)))))
              have hb5 := hb5.chg hC179 (fun hg => hO.apart _ (hG179 _ hg) (mem_r (mem_l (List.mem_singleton.2 rfl))))
              have hC := hC.step hC179 (fun g hg => hO.inN g (hG179 g hg))
              have hO := hO.eat hC179 hf179 (os_nodup hv179) hv179.fpl
              refine x_p 11 (.agg #[(.int .i64 x_.1), (.int .i64 x_.2.1), (.slice a179 n179 c179)]) rfl (by kernel_rfl)  (fun _ => y_build rfl (by kernel_rfl)) (fun h => nomatch h) ?_
              refine x_one (i := 12) (by kernel_rfl) ?_
              have hL182 := hO
              have hI182 := Own.lend (F := (f179 ++ ([]))) (R := ([g5]) ++ (([g4]) ++ (([g3]) ++ ([])))) (Own.perm (hL182) (by simp))
              obtain ⟨r29, hr29, hs⟩ := bind_some hs
              refine xk_call (b := true) rfl  Bd131 rfl (c_spec_l19Give__take0 (M := M) (x_.1, x_.2.1, y26) hv179 hI182 hI182.fut hr29) rfl (fun h => nomatch h) ?_
              rintro _ w182 ⟨a182x0, n182x0, c182x0, f182x0, rfl, hC182, hv182x0, hOc182⟩
              have hO := hO.perm (R := (f179 ++ ([])) ++ (([g5]) ++ (([g4]) ++ (([g3]) ++ ([]))))) (by simp)
              have h0 := h0.mut hC182 (fun g hg => hO.inM g ((fun _ h => h) g hg)) (fun _ _ h => nomatch h)
              have h1 := h1.mut hC182 (fun g hg => hO.inM g ((fun _ h => h) g hg)) (fun _ _ h => nomatch h)
              have hb3 := hb3.chg hC182 (fun hg => hO.apart _ ((fun _ h => h) _ hg) (mem_r (mem_r (mem_l (List.mem_singleton.2 rfl)))))
              have hb4 := hb4.chg hC182 (fun hg => hO.apart _ ((fun _ h => h) _ hg) (mem_r (mem_l (List.mem_singleton.2 rfl))))
              have hb5 := hb5.chg hC182 (fun hg => hO.apart _ ((fun _ h => h) _ hg) (mem_l (List.mem_singleton.2 rfl)))
              have hC := hC.step hC182 (fun g hg => hO.inN g ((fun _ h => h) g hg))
              have hO := Own.join hO hC182 hOc182
              have hO := hO.perm (R := f182x0 ++ (([g5]) ++ (([g4]) ++ (([g3]) ++ ([]))))) (by simp)
              refine x_p 13 (.agg #[(.int .i64 r29.1.1), (.int .i64 r29.1.2.1), (.slice a182x0 n182x0 c182x0)]) rfl (by kernel_rfl)  (fun _ => y_extract rfl (by kernel_rfl)) (fun h => nomatch h) ?_
              refine x_p 14 (.bool r29.2) rfl (by kernel_rfl)  (fun _ => y_extract rfl (by kernel_rfl)) (fun h => nomatch h) ?_
              refine x_one (i := 15) (by kernel_rfl) ?_
              obtain ⟨w185, hst185, hC185, hb185⟩ := box_store (P := Try.prog) hb5 [] [(.int .i64 0), (.int .i64 0), (.slice none 0 0)] [] [(.int .i64 r29.1.1), (.int .i64 r29.1.2.1), (.slice a182x0 n182x0 c182x0)] rfl rfl (by intro u hu; simp only [List.mem_cons, List.not_mem_nil, or_false] at hu; rcases hu with rfl | rfl | rfl <;> rfl)
              refine xk_skip (w' := w185) (b := true) rfl (ys_store rfl rfl (hst185 _ _ rfl Sz49)) rfl (fun h => nomatch h) ?_
              have hO := hO.fr1
              have h0 := h0.mut hC185 (fun g hg => hO.inM g ((fun _ h => h) g hg)) (fun _ _ h => nomatch h)
              have h1 := h1.mut hC185 (fun g hg => hO.inM g ((fun _ h => h) g hg)) (fun _ _ h => nomatch h)
              have hb3 := hb3.chg hC185 (fun hg => hO.apart _ ((fun _ h => h) _ hg) (mem_r (mem_r (mem_l (List.mem_singleton.2 rfl)))))
              have hb4 := hb4.chg hC185 (fun hg => hO.apart _ ((fun _ h => h) _ hg) (mem_r (mem_l (List.mem_singleton.2 rfl))))
              have hv182x0 := hv182x0.mut hC185 (fun g hg => hO.inM g ((fun _ h => h) g hg)) (fun g hg e => hO.apart g ((fun _ h => h) g hg) (mem_l (e)))
              have hC := hC.step hC185 (fun g hg => hO.inN g ((fun _ h => h) g hg))
              have hO := hO.ext hC185
              have hb185 : BoxV w185 g5 49 [(.int .i64 r29.1.1), (.int .i64 r29.1.2.1), (.slice a182x0 n182x0 c182x0)] := hb185
              refine x_p 16 (.bool r29.2) rfl (by kernel_rfl)  (fun _ => y_assign rfl) (fun h => nomatch h) ?_
              refine x_end (by kernel_rfl) ?_
              clear hS
              refine wp_ret ?_
              cases hs
              have hO := hO.drop
              have hO := hO.fr1
              have hO := hO.drop
              have hO := hO.fr1
              have hO := hO.drop
              exact ⟨_, g5, a182x0, n182x0, c182x0, f182x0, fr_ovl 44 ⟨rfl, rfl, trivial⟩, hb185, hC, hv182x0, hO.top⟩
            · skip
              obtain ⟨y26, hy26, hs⟩ := bind_some hs
              have hO := hO.fr1
              obtain ⟨a186, n186, c186, w186, f186, hr186, hC186, hf186, hv186⟩ := app_os Rw47 hy26 hv105x0 hv162x0 hO.inM (fun g hg hq => hO.apart g hq (mem_l hg))
              have hG186 := os_block hv105x0
              refine xk_val (w' := w186) (b := true) (.slice a186 n186 c186) rfl  (y_append rfl rfl (hr186 _)) rfl (fun h => nomatch h) ?_
              have hO := hO.fr1
              have hO := hO.fr1
              have h0 := h0.mut hC186 (fun g hg => hO.inM g (hG186 g hg)) (fun _ _ h => nomatch h)
              have h1 := h1.mut hC186 (fun g hg => hO.inM g (hG186 g hg)) (fun _ _ h => nomatch h)
              have hb3 := hb3.chg hC186 (fun hg => hO.apart _ (hG186 _ hg) (mem_r (mem_r (mem_r (mem_l (List.mem_singleton.2 rfl))))))
              have hb4 := hb4.chg hC186 (fun hg => hO.apart _ (hG186 _ hg) (mem_r (mem_r (mem_l (List.mem_singleton.2 rfl)))))
              have hb5 := hb5.chg hC186 (fun hg => hO.apart _ (hG186 _ hg) (mem_r (mem_l (List.mem_singleton.2 rfl))))
              have hC := hC.step hC186 (fun g hg => hO.inN g (hG186 g hg))
              have hO := hO.eat hC186 hf186 (os_nodup hv186) hv186.fpl
              refine x_one (i := 1) (by kernel_rfl) ?_
              refine xk_val (b := true) (.int .i64 x_.1) rfl  (y_load rfl ((box_load Ag3 Sz3 hb3 [] [(.int .i64 x_.1)] [(.int .i64 x_.2.1), (.slice pa0 pn0 pc0)] rfl rfl (fun _ => rfl)) _ (Chg.refl _ _))) rfl (fun h => nomatch h) ?_
              refine x_p 11 (.agg #[(.int .i64 x_.1), (.int .i64 x_.2.1), (.slice a186 n186 c186)]) rfl (by kernel_rfl)  (fun _ => y_build rfl (by kernel_rfl)) (fun h => nomatch h) ?_
              refine x_one (i := 12) (by kernel_rfl) ?_
              have hL189 := hO
              have hI189 := Own.lend (F := (f186 ++ ([]))) (R := ([g5]) ++ (([g4]) ++ (([g3]) ++ ([])))) (Own.perm (hL189) (by simp))
              obtain ⟨r29, hr29, hs⟩ := bind_some hs
              refine xk_call (b := true) rfl  Bd131 rfl (c_spec_l19Give__take0 (M := M) (x_.1, x_.2.1, y26) hv186 hI189 hI189.fut hr29) rfl (fun h => nomatch h) ?_
              rintro _ w189 ⟨a189x0, n189x0, c189x0, f189x0, rfl, hC189, hv189x0, hOc189⟩
              have hO := hO.perm (R := (f186 ++ ([])) ++ (([g5]) ++ (([g4]) ++ (([g3]) ++ ([]))))) (by simp)
              have h0 := h0.mut hC189 (fun g hg => hO.inM g ((fun _ h => h) g hg)) (fun _ _ h => nomatch h)
              have h1 := h1.mut hC189 (fun g hg => hO.inM g ((fun _ h => h) g hg)) (fun _ _ h => nomatch h)
              have hb3 := hb3.chg hC189 (fun hg => hO.apart _ ((fun _ h => h) _ hg) (mem_r (mem_r (mem_l (List.mem_singleton.2 rfl)))))
              have hb4 := hb4.chg hC189 (fun hg => hO.apart _ ((fun _ h => h) _ hg) (mem_r (mem_l (List.mem_singleton.2 rfl))))
              have hb5 := hb5.chg hC189 (fun hg => hO.apart _ ((fun _ h => h) _ hg) (mem_l (List.mem_singleton.2 rfl)))
              have hC := hC.step hC189 (fun g hg => hO.inN g ((fun _ h => h) g hg))
              have hO := Own.join hO hC189 hOc189
              have hO := hO.perm (R := f189x0 ++ (([g5]) ++ (([g4]) ++ (([g3]) ++ ([]))))) (by simp)
              refine x_p 13 (.agg #[(.int .i64 r29.1.1), (.int .i64 r29.1.2.1), (.slice a189x0 n189x0 c189x0)]) rfl (by kernel_rfl)  (fun _ => y_extract rfl (by kernel_rfl)) (fun h => nomatch h) ?_
              refine x_p 14 (.bool r29.2) rfl (by kernel_rfl)  (fun _ => y_extract rfl (by kernel_rfl)) (fun h => nomatch h) ?_
              refine x_one (i := 15) (by kernel_rfl) ?_
              obtain ⟨w192, hst192, hC192, hb192⟩ := box_store (P := Try.prog) hb5 [] [(.int .i64 0), (.int .i64 0), (.slice none 0 0)] [] [(.int .i64 r29.1.1), (.int .i64 r29.1.2.1), (.slice a189x0 n189x0 c189x0)] rfl rfl (by intro u hu; simp only [List.mem_cons, List.not_mem_nil, or_false] at hu; rcases hu with rfl | rfl | rfl <;> rfl)
              refine xk_skip (w' := w192) (b := true) rfl (ys_store rfl rfl (hst192 _ _ rfl Sz49)) rfl (fun h => nomatch h) ?_
              have hO := hO.fr1
              have h0 := h0.mut hC192 (fun g hg => hO.inM g ((fun _ h => h) g hg)) (fun _ _ h => nomatch h)
              have h1 := h1.mut hC192 (fun g hg => hO.inM g ((fun _ h => h) g hg)) (fun _ _ h => nomatch h)
              have hb3 := hb3.chg hC192 (fun hg => hO.apart _ ((fun _ h => h) _ hg) (mem_r (mem_r (mem_l (List.mem_singleton.2 rfl)))))
              have hb4 := hb4.chg hC192 (fun hg => hO.apart _ ((fun _ h => h) _ hg) (mem_r (mem_l (List.mem_singleton.2 rfl))))
              have hv189x0 := hv189x0.mut hC192 (fun g hg => hO.inM g ((fun _ h => h) g hg)) (fun g hg e => hO.apart g ((fun _ h => h) g hg) (mem_l (e)))
              have hC := hC.step hC192 (fun g hg => hO.inN g ((fun _ h => h) g hg))
              have hO := hO.ext hC192
              have hb192 : BoxV w192 g5 49 [(.int .i64 r29.1.1), (.int .i64 r29.1.2.1), (.slice a189x0 n189x0 c189x0)] := hb192
              refine x_p 16 (.bool r29.2) rfl (by kernel_rfl)  (fun _ => y_assign rfl) (fun h => nomatch h) ?_
              refine x_end (by kernel_rfl) ?_
              clear hS
              refine wp_ret ?_
              cases hs
              have hO := hO.drop
              have hO := hO.fr1
              have hO := hO.drop
              have hO := hO.fr1
              have hO := hO.drop
              exact ⟨_, g5, a189x0, n189x0, c189x0, f189x0, fr_ovl 44 ⟨rfl, rfl, trivial⟩, hb192, hC, hv189x0, hO.top⟩
          · skip
            obtain ⟨y26, hy26, hs⟩ := bind_some hs
            have hO := hO.fr1
            obtain ⟨a193, n193, c193, w193, f193, hr193, hC193, hf193, hv193⟩ := app_os Rw47 hy26 hv105x0 hv162x0 hO.inM (fun g hg hq => hO.apart g hq (mem_l hg))
            have hG193 := os_block hv105x0
            refine xk_val (w' := w193) (b := true) (.slice a193 n193 c193) rfl  (y_append rfl rfl (hr193 _)) rfl (fun h => nomatch h) ?_
            have hO := hO.fr1
            have hO := hO.fr1
            have h0 := h0.mut hC193 (fun g hg => hO.inM g (hG193 g hg)) (fun _ _ h => nomatch h)
            have h1 := h1.mut hC193 (fun g hg => hO.inM g (hG193 g hg)) (fun _ _ h => nomatch h)
            have hb3 := hb3.chg hC193 (fun hg => hO.apart _ (hG193 _ hg) (mem_r (mem_r (mem_r (mem_l (List.mem_singleton.2 rfl))))))
            have hb4 := hb4.chg hC193 (fun hg => hO.apart _ (hG193 _ hg) (mem_r (mem_r (mem_l (List.mem_singleton.2 rfl)))))
            have hb5 := hb5.chg hC193 (fun hg => hO.apart _ (hG193 _ hg) (mem_r (mem_l (List.mem_singleton.2 rfl))))
            have hC := hC.step hC193 (fun g hg => hO.inN g (hG193 g hg))
            have hO := hO.eat hC193 hf193 (os_nodup hv193) hv193.fpl
            refine x_two (i := 1) (j := 3) (by kernel_rfl) ?_ ?_
            · skip
              refine xk_val (b := true) (.int .i64 x_.1) rfl  (y_load rfl ((box_load Ag3 Sz3 hb3 [] [(.int .i64 x_.1)] [(.int .i64 x_.2.1), (.slice pa0 pn0 pc0)] rfl rfl (fun _ => rfl)) _ (Chg.refl _ _))) rfl (fun h => nomatch h) ?_
              refine x_one (i := 3) (by kernel_rfl) ?_
              refine xk_val (b := true) (.int .i64 x_.2.1) rfl  (y_load rfl ((box_load Ag3 Sz3 hb3 [(.int .i64 x_.1)] [(.int .i64 x_.2.1)] [(.slice pa0 pn0 pc0)] rfl rfl (fun _ => rfl)) _ (Chg.refl _ _))) rfl (fun h => nomatch h) ?_
              refine x_p 11 (.agg #[(.int .i64 x_.1), (.int .i64 x_.2.1), (.slice a193 n193 c193)]) rfl (by kernel_rfl)  (fun _ => y_build rfl (by kernel_rfl)) (fun h => nomatch h) ?_
              refine x_one (i := 12) (by kernel_rfl) ?_
              have hL196 := hO
              have hI196 := Own.lend (F := (f193 ++ ([]))) (R := ([g5]) ++ (([g4]) ++ (([g3]) ++ ([])))) (Own.perm (hL196) (by simp))
              obtain ⟨r29, hr29, hs⟩ := bind_some hs
              refine xk_call (b := true) rfl  Bd131 rfl (c_spec_l19Give__take0 (M := M) (x_.1, x_.2.1, y26) hv193 hI196 hI196.fut hr29) rfl (fun h => nomatch h) ?_
              rintro _ w196 ⟨a196x0, n196x0, c196x0, f196x0, rfl, hC196, hv196x0, hOc196⟩
              have hO := hO.perm (R := (f193 ++ ([])) ++ (([g5]) ++ (([g4]) ++ (([g3]) ++ ([]))))) (by simp)
              have h0 := h0.mut hC196 (fun g hg => hO.inM g ((fun _ h => h) g hg)) (fun _ _ h => nomatch h)
              have h1 := h1.mut hC196 (fun g hg => hO.inM g ((fun _ h => h) g hg)) (fun _ _ h => nomatch h)
              have hb3 := hb3.chg hC196 (fun hg => hO.apart _ ((fun _ h => h) _ hg) (mem_r (mem_r (mem_l (List.mem_singleton.2 rfl)))))
              have hb4 := hb4.chg hC196 (fun hg => hO.apart _ ((fun _ h => h) _ hg) (mem_r (mem_l (List.mem_singleton.2 rfl))))
              have hb5 := hb5.chg hC196 (fun hg => hO.apart _ ((fun _ h => h) _ hg) (mem_l (List.mem_singleton.2 rfl)))
              have hC := hC.step hC196 (fun g hg => hO.inN g ((fun _ h => h) g hg))
              have hO := Own.join hO hC196 hOc196
              have hO := hO.perm (R := f196x0 ++ (([g5]) ++ (([g4]) ++ (([g3]) ++ ([]))))) (by simp)
              refine x_p 13 (.agg #[(.int .i64 r29.1.1), (.int .i64 r29.1.2.1), (.slice a196x0 n196x0 c196x0)]) rfl (by kernel_rfl)  (fun _ => y_extract rfl (by kernel_rfl)) (fun h => nomatch h) ?_
              refine x_p 14 (.bool r29.2) rfl (by kernel_rfl)  (fun _ => y_extract rfl (by kernel_rfl)) (fun h => nomatch h) ?_
              refine x_one (i := 15) (by kernel_rfl) ?_
              obtain ⟨w199, hst199, hC199, hb199⟩ := box_store (P := Try.prog) hb5 [] [(.int .i64 0), (.int .i64 0), (.slice none 0 0)] [] [(.int .i64 r29.1.1), (.int .i64 r29.1.2.1), (.slice a196x0 n196x0 c196x0)] rfl rfl (by intro u hu; simp only [List.mem_cons, List.not_mem_nil, or_false] at hu; rcases hu with rfl | rfl | rfl <;> rfl)
              refine xk_skip (w' := w199) (b := true) rfl (ys_store rfl rfl (hst199 _ _ rfl Sz49)) rfl (fun h => nomatch h) ?_
              have hO := hO.fr1
              have h0 := h0.mut hC199 (fun g hg => hO.inM g ((fun _ h => h) g hg)) (fun _ _ h => nomatch h)
              have h1 := h1.mut hC199 (fun g hg => hO.inM g ((fun _ h => h) g hg)) (fun _ _ h => nomatch h)
              have hb3 := hb3.chg hC199 (fun hg => hO.apart _ ((fun _ h => h) _ hg) (mem_r (mem_r (mem_l (List.mem_singleton.2 rfl)))))
              have hb4 := hb4.chg hC199 (fun hg => hO.apart _ ((fun _ h => h) _ hg) (mem_r (mem_l (List.mem_singleton.2 rfl))))
              have hv196x0 := hv196x0.mut hC199 (fun g hg => hO.inM g ((fun _ h => h) g hg)) (fun g hg e => hO.apart g ((fun _ h => h) g hg) (mem_l (e)))
              have hC := hC.step hC199 (fun g hg => hO.inN g ((fun _ h => h) g hg))
              have hO := hO.ext hC199
              have hb199 : BoxV w199 g5 49 [(.int .i64 r29.1.1), (.int .i64 r29.1.2.1), (.slice a196x0 n196x0 c196x0)] := hb199
              refine x_p 16 (.bool r29.2) rfl (by kernel_rfl)  (fun _ => y_assign rfl) (fun h => nomatch h) ?_
              refine x_end (by kernel_rfl) ?_
              clear hS
              refine wp_ret ?_
              cases hs
              have hO := hO.drop
              have hO := hO.fr1
              have hO := hO.drop
              have hO := hO.fr1
              have hO := hO.drop
              exact ⟨_, g5, a196x0, n196x0, c196x0, f196x0, fr_ovl 44 ⟨rfl, rfl, trivial⟩, hb199, hC, hv196x0, hO.top⟩
            · skip
              refine xk_val (b := true) (.int .i64 x_.2.1) rfl  (y_load rfl ((box_load Ag3 Sz3 hb3 [(.int .i64 x_.1)] [(.int .i64 x_.2.1)] [(.slice pa0 pn0 pc0)] rfl rfl (fun _ => rfl)) _ (Chg.refl _ _))) rfl (fun h => nomatch h) ?_
              refine x_one (i := 1) (by kernel_rfl) ?_
              refine xk_val (b := true) (.int .i64 x_.1) rfl  (y_load rfl ((box_load Ag3 Sz3 hb3 [] [(.int .i64 x_.1)] [(.int .i64 x_.2.1), (.slice pa0 pn0 pc0)] rfl rfl (fun _ => rfl)) _ (Chg.refl _ _))) rfl (fun h => nomatch h) ?_
              refine x_p 11 (.agg #[(.int .i64 x_.1), (.int .i64 x_.2.1), (.slice a193 n193 c193)]) rfl (by kernel_rfl)  (fun _ => y_build rfl (by kernel_rfl)) (fun h => nomatch h) ?_
              refine x_one (i := 12) (by kernel_rfl) ?_
              have hL200 := hO
              have hI200 := Own.lend (F := (f193 ++ ([]))) (R := ([g5]) ++ (([g4]) ++ (([g3]) ++ ([])))) (Own.perm (hL200) (by simp))
              obtain ⟨r29, hr29, hs⟩ := bind_some hs
              refine xk_call (b := true) rfl  Bd131 rfl (c_spec_l19Give__take0 (M := M) (x_.1, x_.2.1, y26) hv193 hI200 hI200.fut hr29) rfl (fun h => nomatch h) ?_
              rintro _ w200 ⟨a200x0, n200x0, c200x0, f200x0, rfl, hC200, hv200x0, hOc200⟩
              have hO := hO.perm (R := (f193 ++ ([])) ++ (([g5]) ++ (([g4]) ++ (([g3]) ++ ([]))))) (by simp)
              have h0 := h0.mut hC200 (fun g hg => hO.inM g ((fun _ h => h) g hg)) (fun _ _ h => nomatch h)
              have h1 := h1.mut hC200 (fun g hg => hO.inM g ((fun _ h => h) g hg)) (fun _ _ h => nomatch h)
              have hb3 := hb3.chg hC200 (fun hg => hO.apart _ ((fun _ h => h) _ hg) (mem_r (mem_r (mem_l (List.mem_singleton.2 rfl)))))
              have hb4 := hb4.chg hC200 (fun hg => hO.apart _ ((fun _ h => h) _ hg) (mem_r (mem_l (List.mem_singleton.2 rfl))))
              have hb5 := hb5.chg hC200 (fun hg => hO.apart _ ((fun _ h => h) _ hg) (mem_l (List.mem_singleton.2 rfl)))
              have hC := hC.step hC200 (fun g hg => hO.inN g ((fun _ h => h) g hg))
              have hO := Own.join hO hC200 hOc200
              have hO := hO.perm (R := f200x0 ++ (([g5]) ++ (([g4]) ++ (([g3]) ++ ([]))))) (by simp)
              refine x_p 13 (.agg #[(.int .i64 r29.1.1), (.int .i64 r29.1.2.1), (.slice a200x0 n200x0 c200x0)]) rfl (by kernel_rfl)  (fun _ => y_extract rfl (by kernel_rfl)) (fun h => nomatch h) ?_
              refine x_p 14 (.bool r29.2) rfl (by kernel_rfl)  (fun _ => y_extract rfl (by kernel_rfl)) (fun h => nomatch h) ?_
              refine x_one (i := 15) (by kernel_rfl) ?_
              obtain ⟨w203, hst203, hC203, hb203⟩ := box_store (P := Try.prog) hb5 [] [(.int .i64 0), (.int .i64 0), (.slice none 0 0)] [] [(.int .i64 r29.1.1), (.int .i64 r29.1.2.1), (.slice a200x0 n200x0 c200x0)] rfl rfl (by intro u hu; simp only [List.mem_cons, List.not_mem_nil, or_false] at hu; rcases hu with rfl | rfl | rfl <;> rfl)
              refine xk_skip (w' := w203) (b := true) rfl (ys_store rfl rfl (hst203 _ _ rfl Sz49)) rfl (fun h => nomatch h) ?_
              have hO := hO.fr1
              have h0 := h0.mut hC203 (fun g hg => hO.inM g ((fun _ h => h) g hg)) (fun _ _ h => nomatch h)
              have h1 := h1.mut hC203 (fun g hg => hO.inM g ((fun _ h => h) g hg)) (fun _ _ h => nomatch h)
              have hb3 := hb3.chg hC203 (fun hg => hO.apart _ ((fun _ h => h) _ hg) (mem_r (mem_r (mem_l (List.mem_singleton.2 rfl)))))
              have hb4 := hb4.chg hC203 (fun hg => hO.apart _ ((fun _ h => h) _ hg) (mem_r (mem_l (List.mem_singleton.2 rfl))))
              have hv200x0 := hv200x0.mut hC203 (fun g hg => hO.inM g ((fun _ h => h) g hg)) (fun g hg e => hO.apart g ((fun _ h => h) g hg) (mem_l (e)))
              have hC := hC.step hC203 (fun g hg => hO.inN g ((fun _ h => h) g hg))
              have hO := hO.ext hC203
              have hb203 : BoxV w203 g5 49 [(.int .i64 r29.1.1), (.int .i64 r29.1.2.1), (.slice a200x0 n200x0 c200x0)] := hb203
              refine x_p 16 (.bool r29.2) rfl (by kernel_rfl)  (fun _ => y_assign rfl) (fun h => nomatch h) ?_
              refine x_end (by kernel_rfl) ?_
              clear hS
              refine wp_ret ?_
              cases hs
              have hO := hO.drop
              have hO := hO.fr1
              have hO := hO.drop
              have hO := hO.fr1
              have hO := hO.drop
              exact ⟨_, g5, a200x0, n200x0, c200x0, f200x0, fr_ovl 44 ⟨rfl, rfl, trivial⟩, hb203, hC, hv200x0, hO.top⟩

def k_impl_isTemplateSize (M : Nat → Prop) (w0 : World) (r : Bool) (a : Act) (w : World) : Prop :=
  ∃ (σ : Nat → Value) , a = fr 9 (ovl σ [(2, (.bool r))]) ∧ Chg [] w0 w
def s_impl_isTemplateSize (n : Int) : Option (Bool) :=
  (bif (decide (1 ≤ n)) then some (decide (n ≤ 4)) else some false)
set_option maxHeartbeats 4000000 in
theorem c_impl_isTemplateSize {M : Nat → Prop} {w : World}  (n : Int)  (hM : ∀ g, w.heap.size ≤ g → M g) {r : Bool} (hs : s_impl_isTemplateSize n = some r) :
    Gives Try.prog 90 [(.int .i64 n)] w (fun v w' => v = (.bool r) ∧ Chg [] w w') := by
  refine calls_fr Try.func90 rfl Try.ntmps90 (Nat.le_of_ble_eq_true rfl) ?_
  have hO := Own.start (N := Nw w []) hM Nw.fut
  have hC := Chg.refl [] w
  unfold s_impl_isTemplateSize at hs
  refine wp_mono (Q := KPost (k_impl_isTemplateSize M w r)) ?_ (fun e a w1 h => ?_)
  rotate_left
  · cases e
    case ret =>
      obtain ⟨σ, rfl, hrest⟩ := h
      exact ret1x Try.results90 (res_tmp rfl) ⟨rfl, hrest⟩
    all_goals exact (h : False).elim
  refine c_seq ?_
  refine c_region ?_
  refine pl_val (.bool false) (y_assign rfl) ?_
  refine c_nil ?_
  refine c_seq ?_
  refine c_region ?_
  refine pl_val (.int .i64 n) (y_move rfl) ?_
  refine pl_val (.bool (decide (1 ≤ n))) (y_geq rfl rfl) ?_
  refine pl_val (.bool (decide (1 ≤ n))) (y_move rfl) ?_
  rcases bif_some hs with ⟨hc1, hs⟩ | ⟨hc1, hs⟩
  · skip
    refine pl_yes (.int .i64 n) (tg := 5) (by kernel_rfl) (congrArg Value.bool hc1) (y_move rfl) ?_
    refine pl_yes (.bool (decide (n ≤ 4))) (tg := 5) (by kernel_rfl) (congrArg Value.bool hc1) (y_leq rfl rfl) ?_
    refine pl_val (.bool (decide (n ≤ 4))) (y_pick_t (congrArg Value.bool hc1) rfl) ?_
    refine pl_val (.bool (decide (n ≤ 4))) (y_assign rfl) ?_
    refine c_nil ?_
    refine wp_ret ?_
    cases hs
    exact ⟨_, fr_ovl 9 ⟨rfl, trivial⟩, hC⟩
  · skip
    refine pl_not (tg := 5) (by kernel_rfl) (congrArg Value.bool hc1) ?_
    refine pl_not (tg := 5) (by kernel_rfl) (congrArg Value.bool hc1) ?_
    refine pl_val (.bool false) (y_pick_f (congrArg Value.bool hc1) rfl) ?_
    refine pl_val (.bool false) (y_assign rfl) ?_
    refine c_nil ?_
    refine wp_ret ?_
    cases hs
    exact ⟨_, fr_ovl 9 ⟨rfl, trivial⟩, hC⟩

def k_impl_inSize (M : Nat → Prop) (w0 : World) (r : Bool) (a : Act) (w : World) : Prop :=
  ∃ (σ : Nat → Value) , a = fr 21 (ovl σ [(4, (.bool r))]) ∧ Chg [] w0 w
def s_impl_inSize (list : List Int) (n : Int) : Option (Bool) :=
  (forR (S := Unit) (R := Bool) (fun _ x8 s5 =>
  (bif (decide (x8 < 0)) then some (.rt false) else (bif (decide (n ≤ x8)) then some (.rt false) else some (.nx ())))) 0 list ()).bind fun o9 => after o9 (fun r_ => some r_) (fun s5 =>
  some true)
set_option maxHeartbeats 4000000 in
theorem c_impl_inSize {M : Nat → Prop} {w : World} {pa0 : Option Addr} {pn0 pc0 : Nat} (list : List Int) (n : Int) (h0 : (RT.rs (RT.int .i64)).val M w (.slice pa0 pn0 pc0) list ([])) (hM : ∀ g, w.heap.size ≤ g → M g) {r : Bool} (hs : s_impl_inSize list n = some r) :
    Gives Try.prog 113 [(.slice pa0 pn0 pc0), (.int .i64 n)] w (fun v w' => v = (.bool r) ∧ Chg [] w w') := by
  refine calls_fr Try.func113 rfl Try.ntmps113 (Nat.le_of_ble_eq_true rfl) ?_
  have hO := Own.start (N := Nw w []) hM Nw.fut
  have hC := Chg.refl [] w
  unfold s_impl_inSize at hs
  refine wp_mono (Q := KPost (k_impl_inSize M w r)) ?_ (fun e a w1 h => ?_)
  rotate_left
  · cases e
    case ret =>
      obtain ⟨σ, rfl, hrest⟩ := h
      exact ret1x Try.results113 (res_tmp rfl) ⟨rfl, hrest⟩
    all_goals exact (h : False).elim
  refine c_seq ?_
  refine c_region ?_
  refine pl_val (.bool false) (y_assign rfl) ?_
  refine c_nil ?_
  refine c_seq ?_
  refine c_seq ?_
  refine c_region ?_
  refine pl_val (.slice pa0 pn0 pc0) (y_move rfl) ?_
  refine pl_val (.int .i64 (list.length : Int)) (y_len' Sl22 (rs_len h0) rfl) ?_
  refine pl_val (.int .i64 0) (y_move rfl) ?_
  refine c_nil ?_
  obtain ⟨o9, hl10, hs⟩ := bind_some hs
  refine wp_block ?_
  refine wp_forR (id := 0) (I := fun i_ xs_ s5 a w6 => ∃ k7 : Nat, i_ = (k7 : Int) ∧ List.drop k7 list = xs_ ∧ (∃ (σ : Nat → Value), a = fr 21 (ovl σ [(1, (.int .i64 n)), (7, (.slice pa0 pn0 pc0)), (8, (.int .i64 (list.length : Int))), (9, (.int .i64 (k7 : Int)))]) ∧ Chg [] w w6 ∧ Own (Nw w []) M w6 ([]) ∧ (RT.rs (RT.int .i64)).val M w6 (.slice pa0 pn0 pc0) list ([]))) (J := fun s5 a w6 => ∃ (σ : Nat → Value), a = fr 21 (ovl σ []) ∧ Chg [] w w6 ∧ Own (Nw w []) M w6 ([]) ∧ (RT.rs (RT.int .i64)).val M w6 (.slice pa0 pn0 pc0) list ([])) (K := (k_impl_inSize M w)) ?_ ?_ list 0 () o9 _ _ ?_ hl10 ?_
  · rintro _ s5 a w6 ⟨k7, rfl, hd, σ, rfl, hC, hO, h0⟩
    have hlt := drop_nil_ge hd
    refine c_seq ?_
    refine c_region ?_
    refine pl_val (.bool (decide ((k7 : Int) < (list.length : Int)))) (y_lss rfl rfl) ?_
    refine c_nil ?_
    refine c_seq ?_
    refine c_condF (congrArg Value.bool (decide_eq_false hlt)) ?_
    refine wp_exit ?_
    exact ⟨rfl, _, fr_ovl 21 trivial, hC, hO, h0⟩
  · rintro _ x8 xs_ s5 o9 a w6 ⟨k7, rfl, hd, σ, rfl, hC, hO, h0⟩ hs
    have hlt := drop_cons_lt hd
    have hxk7 := drop_cons_idx hd
    refine c_seq ?_
    refine c_region ?_
    refine pl_val (.bool (decide ((k7 : Int) < (list.length : Int)))) (y_lss rfl rfl) ?_
    refine c_nil ?_
    refine c_seq ?_
    refine c_condT (congrArg Value.bool (decide_eq_true hlt)) ?_
    refine wp_skip ?_
    refine c_seq ?_
    refine wp_block ?_
    refine c_seq ?_
    refine c_region ?_
    obtain ⟨b11, o11, hp11, ha11⟩ := rs_idx Sl22 Sz3 h0 hxk7
    refine pl_val (.pointer (some ⟨b11, o11, none⟩)) (hp11 _ _ _ _ _ _ _ _ _ rfl rfl) ?_
    refine pl_val (.int .i64 x8) (y_load rfl ((at_load_int Ag3 Sz3 ha11) _ (Chg.refl _ _))) ?_
    refine pl_val (.int .i64 x8) (y_assign rfl) ?_
    refine c_nil ?_
    refine c_seq ?_
    refine c_region ?_
    refine pl_val (.int .i64 x8) (y_move rfl) ?_
    refine pl_val (.bool (decide (x8 < 0))) (y_lss rfl rfl) ?_
    refine pl_val (.bool (decide (x8 < 0))) (y_move rfl) ?_
    rcases bif_some hs with ⟨hc12, hs⟩ | ⟨hc12, hs⟩
    · skip
      refine pl_not (tg := 15) (by kernel_rfl) (congrArg Value.bool hc12) ?_
      refine pl_not (tg := 15) (by kernel_rfl) (congrArg Value.bool hc12) ?_
      refine pl_not (tg := 15) (by kernel_rfl) (congrArg Value.bool hc12) ?_
      refine pl_val (.bool true) (y_pick_t (congrArg Value.bool hc12) rfl) ?_
      refine c_nil ?_
      refine c_condT (by rfl) ?_
      refine c_seq ?_
      refine c_region ?_
      refine pl_val (.bool false) (y_assign rfl) ?_
      refine c_nil ?_
      refine wp_ret ?_
      cases hs
      exact ⟨_, fr_ovl 21 ⟨rfl, trivial⟩, hC⟩
    · skip
      refine pl_yes (.int .i64 x8) (tg := 15) (by kernel_rfl) (congrArg Value.bool hc12) (y_move rfl) ?_
      refine pl_yes (.int .i64 n) (tg := 15) (by kernel_rfl) (congrArg Value.bool hc12) (y_move rfl) ?_
      refine pl_yes (.bool (decide (n ≤ x8))) (tg := 15) (by kernel_rfl) (congrArg Value.bool hc12) (y_geq rfl rfl) ?_
      refine pl_val (.bool (decide (n ≤ x8))) (y_pick_f (congrArg Value.bool hc12) rfl) ?_
      refine c_nil ?_
      rcases bif_some hs with ⟨hc13, hs⟩ | ⟨hc13, hs⟩
      · skip
        refine c_condT (congrArg Value.bool hc13) ?_
        refine c_seq ?_
        refine c_region ?_
        refine pl_val (.bool false) (y_assign rfl) ?_
        refine c_nil ?_
        refine wp_ret ?_
        cases hs
        exact ⟨_, fr_ovl 21 ⟨rfl, trivial⟩, hC⟩
      · skip
        refine c_condF (congrArg Value.bool hc13) ?_
        refine wp_skip ?_
        refine c_region ?_
        refine pl_val (.int .i64 (w64 ((k7 : Int) + 1))) (y_add rfl rfl) ?_
        refine pl_val (.int .i64 (w64 ((k7 : Int) + 1))) (y_move rfl) ?_
        refine c_nil ?_
        cases hs
        exact ⟨_, rfl, drop_cons_next hd, _, fr_ovl 21 ⟨rfl, rfl, rfl, congrArg (Value.int .i64) (w64_succ hlt (Int.natCast_nonneg _) (rs_max h0)), trivial⟩, hC, hO, h0⟩
  · skip
    exact ⟨0, rfl, rfl, _, fr_ovl 21 ⟨rfl, rfl, rfl, rfl, trivial⟩, hC, hO, h0⟩
  · cases o9 with
    | nx _ => exact True.intro
    | rt r_ =>
      have hs := after_rt hs
      intro a1 w1 hK
      cases hs
      exact hK
    | br s5 =>
      have hs := after_br hs
      rintro a1 w6 ⟨σ, rfl, hC, hO, h0⟩
      refine c_seq ?_
      refine c_region ?_
      refine pl_val (.bool true) (y_assign rfl) ?_
      refine c_nil ?_
      refine wp_ret ?_
      cases hs
      exact ⟨_, fr_ovl 21 ⟨rfl, trivial⟩, hC⟩

def k_impl_compareLists (M : Nat → Prop) (w0 : World) (r : Int) (a : Act) (w : World) : Prop :=
  ∃ (σ : Nat → Value) , a = fr 48 (ovl σ [(4, (.int .i64 r))]) ∧ Chg [] w0 w
def s_impl_compareLists (s_ : List Int) (t : List Int) : Option (Int) :=
  (iter (S := Int) (R := Int) (fun s25 =>
  (bif ((decide (s25 < (s_.length : Int))) && (decide (s25 < (t.length : Int)))) then (idx s_ s25).bind fun x42 =>
  (idx t s25).bind fun x44 =>
  (bif (x42 != x44) then (idx s_ s25).bind fun x48 =>
  (idx t s25).bind fun x50 =>
  (bif (decide (x48 < x50)) then some (.rt (-1)) else some (.rt 1)) else some (.nx (w64 (s25 + 1)))) else some (.br s25))) FU 0).bind fun o29 => after o29 (fun r_ => some r_) (fun s25 =>
  (bif (decide ((s_.length : Int) < (t.length : Int))) then some (-1) else (bif (decide ((t.length : Int) < (s_.length : Int))) then some 1 else some 0)))
set_option maxHeartbeats 4000000 in
theorem c_impl_compareLists {M : Nat → Prop} {w : World} {pa0 : Option Addr} {pn0 pc0 : Nat} {pa1 : Option Addr} {pn1 pc1 : Nat} (s_ : List Int) (t : List Int) (h0 : (RT.rs (RT.int .i64)).val M w (.slice pa0 pn0 pc0) s_ ([])) (h1 : (RT.rs (RT.int .i64)).val M w (.slice pa1 pn1 pc1) t ([])) (hM : ∀ g, w.heap.size ≤ g → M g) {r : Int} (hs : s_impl_compareLists s_ t = some r) :
    Gives Try.prog 180 [(.slice pa0 pn0 pc0), (.slice pa1 pn1 pc1)] w (fun v w' => v = (.int .i64 r) ∧ Chg [] w w') := by
  refine calls_fr Try.func180 rfl Try.ntmps180 (Nat.le_of_ble_eq_true rfl) ?_
  have hO := Own.start (N := Nw w []) hM Nw.fut
  have hC := Chg.refl [] w
  unfold s_impl_compareLists at hs
  refine wp_mono (Q := KPost (k_impl_compareLists M w r)) ?_ (fun e a w1 h => ?_)
  rotate_left
  · cases e
    case ret =>
      obtain ⟨σ, rfl, hrest⟩ := h
      exact ret1x Try.results180 (res_tmp rfl) ⟨rfl, hrest⟩
    all_goals exact (h : False).elim
  refine c_seq ?_
  refine c_region ?_
  refine pl_val (.int .i64 0) (y_assign rfl) ?_
  refine c_nil ?_
  refine c_seq ?_
  refine c_seq ?_
  refine c_region ?_
  refine pl_val (.int .i64 0) (y_assign rfl) ?_
  refine c_nil ?_
  obtain ⟨o29, hl30, hs⟩ := bind_some hs
  refine wp_block ?_
  refine wp_iter (id := 0) (I := fun s25 a w26 => ∃ (σ : Nat → Value), a = fr 48 (ovl σ [(0, (.slice pa0 pn0 pc0)), (1, (.slice pa1 pn1 pc1)), (5, (.int .i64 s25))]) ∧ Chg [] w w26 ∧ Own (Nw w []) M w26 ([]) ∧ (RT.rs (RT.int .i64)).val M w26 (.slice pa0 pn0 pc0) s_ ([]) ∧ (RT.rs (RT.int .i64)).val M w26 (.slice pa1 pn1 pc1) t ([])) (J := fun s25 a w26 => ∃ (σ : Nat → Value), a = fr 48 (ovl σ [(0, (.slice pa0 pn0 pc0)), (1, (.slice pa1 pn1 pc1))]) ∧ Chg [] w w26 ∧ Own (Nw w []) M w26 ([]) ∧ (RT.rs (RT.int .i64)).val M w26 (.slice pa0 pn0 pc0) s_ ([]) ∧ (RT.rs (RT.int .i64)).val M w26 (.slice pa1 pn1 pc1) t ([])) (K := (k_impl_compareLists M w)) ?_ FU 0 o29 _ _ ?_ hl30 ?_
  · rintro s25 o29 a w26 ⟨σ, rfl, hC, hO, h0, h1⟩ hs
    refine c_seq ?_
    refine c_seq ?_
    refine c_mid (I := fun a w32 => ∃ (σ : Nat → Value), a = fr 48 (ovl σ [(0, (.slice pa0 pn0 pc0)), (1, (.slice pa1 pn1 pc1)), (5, (.int .i64 s25)), (15, (.bool ((decide (s25 < (s_.length : Int))) && (decide (s25 < (t.length : Int))))))]) ∧ Chg [] w26 w32) ?_ ?_
    · have hMid := Chg.refl [] w26
      refine c_region ?_
      refine pl_val (.int .i64 s25) (y_move rfl) ?_
      refine pl_val (.slice pa0 pn0 pc0) (y_move rfl) ?_
      refine pl_val (.int .i64 (s_.length : Int)) (y_len' Sl22 (rs_len h0) rfl) ?_
      refine pl_val (.bool (decide (s25 < (s_.length : Int)))) (y_lss rfl rfl) ?_
      refine pl_val (.bool (decide (s25 < (s_.length : Int)))) (y_move rfl) ?_
      rcases Bool.eq_false_or_eq_true ((decide (s25 < (s_.length : Int)))) with hc34 | hc34
      · skip
        refine pl_yes (.int .i64 s25) (tg := 10) (by kernel_rfl) (congrArg Value.bool hc34) (y_move rfl) ?_
        refine pl_yes (.slice pa1 pn1 pc1) (tg := 10) (by kernel_rfl) (congrArg Value.bool hc34) (y_move rfl) ?_
        refine pl_yes (.int .i64 (t.length : Int)) (tg := 10) (by kernel_rfl) (congrArg Value.bool hc34) (y_len' Sl22 (rs_len h1) rfl) ?_
        refine pl_yes (.bool (decide (s25 < (t.length : Int)))) (tg := 10) (by kernel_rfl) (congrArg Value.bool hc34) (y_lss rfl rfl) ?_
        refine pl_val (.bool ((decide (s25 < (s_.length : Int))) && (decide (s25 < (t.length : Int))))) (y_pick_t (congrArg Value.bool hc34) (congrArg Value.bool (by rw [hc34]; rfl))) ?_
        refine c_nil ?_
        exact ⟨_, fr_ovl 48 ⟨rfl, rfl, rfl, rfl, trivial⟩, hMid⟩
      · skip
        refine pl_not (tg := 10) (by kernel_rfl) (congrArg Value.bool hc34) ?_
        refine pl_not (tg := 10) (by kernel_rfl) (congrArg Value.bool hc34) ?_
        refine pl_not (tg := 10) (by kernel_rfl) (congrArg Value.bool hc34) ?_
        refine pl_not (tg := 10) (by kernel_rfl) (congrArg Value.bool hc34) ?_
        refine pl_val (.bool ((decide (s25 < (s_.length : Int))) && (decide (s25 < (t.length : Int))))) (y_pick_f (congrArg Value.bool hc34) (congrArg Value.bool (by rw [hc34]; rfl))) ?_
        refine c_nil ?_
        exact ⟨_, fr_ovl 48 ⟨rfl, rfl, rfl, rfl, trivial⟩, hMid⟩
    · rintro a1 w32 ⟨σ, rfl, hCs31⟩
      have h0 := h0.ext hCs31
      have h1 := h1.ext hCs31
      have hC := hC.ext hCs31
      have hO := hO.ext hCs31
      rcases bif_some hs with ⟨hc35, hs⟩ | ⟨hc35, hs⟩
      · skip
        refine c_condT (congrArg Value.bool hc35) ?_
        refine wp_skip ?_
        refine c_seq ?_
        refine wp_block ?_
        refine c_seq ?_
        refine x_start [] Mx rfl ?_
        have hCw41 := Chg.drew w32
        generalize World.drew w32 = w41 at hCw41 ⊢
        have h0 := h0.ext hCw41
        have h1 := h1.ext hCw41
        have hC := hC.ext hCw41
        have hO := hO.ext hCw41
        have hS := Chg.refl [] w41
        refine x_p 0 (.slice pa0 pn0 pc0) rfl (by kernel_rfl)  (fun _ => y_move rfl) (fun _ => hS) ?_
        refine x_p 1 (.int .i64 s25) rfl (by kernel_rfl)  (fun _ => y_move rfl) (fun _ => hS) ?_
        obtain ⟨x42, hx42, hs⟩ := bind_some hs
        obtain ⟨b43, o43, hp43, ha43⟩ := rs_idx Sl22 Sz3 h0 hx42
        refine x_p 2 (.pointer (some ⟨b43, o43, none⟩)) rfl (by kernel_rfl)  (fun _ => hp43 _ _ _ _ _ _ _ _ _ rfl rfl) (fun _ => hS) ?_
        refine x_l 3 (.int .i64 x42) rfl (by kernel_rfl)  (fun w' hw' => y_load rfl ((at_load_int Ag3 Sz3 ha43) w' hw')) hS ?_
        refine x_p 4 (.slice pa1 pn1 pc1) rfl (by kernel_rfl)  (fun _ => y_move rfl) (fun _ => hS) ?_
        refine x_p 5 (.int .i64 s25) rfl (by kernel_rfl)  (fun _ => y_move rfl) (fun _ => hS) ?_
        obtain ⟨x44, hx44, hs⟩ := bind_some hs
        obtain ⟨b45, o45, hp45, ha45⟩ := rs_idx Sl22 Sz3 h1 hx44
        refine x_p 6 (.pointer (some ⟨b45, o45, none⟩)) rfl (by kernel_rfl)  (fun _ => hp45 _ _ _ _ _ _ _ _ _ rfl rfl) (fun _ => hS) ?_
        refine x_l 7 (.int .i64 x44) rfl (by kernel_rfl)  (fun w' hw' => y_load rfl ((at_load_int Ag3 Sz3 ha45) w' hw')) hS ?_
        refine x_p 8 (.bool (x42 != x44)) rfl (by kernel_rfl)  (fun _ => y_neq rfl rfl) (fun _ => hS) ?_
        refine x_end (by kernel_rfl) ?_
        clear hS
        rcases bif_some hs with ⟨hc46, hs⟩ | ⟨hc46, hs⟩
        · skip
          refine c_condT (congrArg Value.bool hc46) ?_
          refine c_seq ?_
          refine c_seq ?_
          refine x_start [] Mx rfl ?_
          have hCw47 := Chg.drew w41
          generalize World.drew w41 = w47 at hCw47 ⊢
          have h0 := h0.ext hCw47
          have h1 := h1.ext hCw47
          have hC := hC.ext hCw47
          have hO := hO.ext hCw47
          have hS := Chg.refl [] w47
          refine x_p 0 (.slice pa0 pn0 pc0) rfl (by kernel_rfl)  (fun _ => y_move rfl) (fun _ => hS) ?_
          refine x_p 1 (.int .i64 s25) rfl (by kernel_rfl)  (fun _ => y_move rfl) (fun _ => hS) ?_
          obtain ⟨x48, hx48, hs⟩ := bind_some hs
          obtain ⟨b49, o49, hp49, ha49⟩ := rs_idx Sl22 Sz3 h0 hx48
          refine x_p 2 (.pointer (some ⟨b49, o49, none⟩)) rfl (by kernel_rfl)  (fun _ => hp49 _ _ _ _ _ _ _ _ _ rfl rfl) (fun _ => hS) ?_
          refine x_l 3 (.int .i64 x48) rfl (by kernel_rfl)  (fun w' hw' => y_load rfl ((at_load_int Ag3 Sz3 ha49) w' hw')) hS ?_
          refine x_p 4 (.slice pa1 pn1 pc1) rfl (by kernel_rfl)  (fun _ => y_move rfl) (fun _ => hS) ?_
          refine x_p 5 (.int .i64 s25) rfl (by kernel_rfl)  (fun _ => y_move rfl) (fun _ => hS) ?_
          obtain ⟨x50, hx50, hs⟩ := bind_some hs
          obtain ⟨b51, o51, hp51, ha51⟩ := rs_idx Sl22 Sz3 h1 hx50
          refine x_p 6 (.pointer (some ⟨b51, o51, none⟩)) rfl (by kernel_rfl)  (fun _ => hp51 _ _ _ _ _ _ _ _ _ rfl rfl) (fun _ => hS) ?_
          refine x_l 7 (.int .i64 x50) rfl (by kernel_rfl)  (fun w' hw' => y_load rfl ((at_load_int Ag3 Sz3 ha51) w' hw')) hS ?_
          refine x_p 8 (.bool (decide (x48 < x50))) rfl (by kernel_rfl)  (fun _ => y_lss rfl rfl) (fun _ => hS) ?_
          refine x_end (by kernel_rfl) ?_
          clear hS
          rcases bif_some hs with ⟨hc52, hs⟩ | ⟨hc52, hs⟩
          · skip
            refine c_condT (congrArg Value.bool hc52) ?_
            refine c_seq ?_
            refine c_region ?_
            refine pl_val (.int .i64 (-1)) (y_assign rfl) ?_
            refine c_nil ?_
            refine wp_ret ?_
            cases hs
            exact ⟨_, fr_ovl 48 ⟨rfl, trivial⟩, hC⟩
          · skip
            refine c_condF (congrArg Value.bool hc52) ?_
            refine wp_skip ?_
            refine c_seq ?_
            refine c_region ?_
            refine pl_val (.int .i64 1) (y_assign rfl) ?_
            refine c_nil ?_
            refine wp_ret ?_
            cases hs
            exact ⟨_, fr_ovl 48 ⟨rfl, trivial⟩, hC⟩
        · skip
          refine c_condF (congrArg Value.bool hc46) ?_
          refine wp_skip ?_
          refine c_region ?_
          refine pl_val (.int .i64 s25) (y_move rfl) ?_
          refine pl_val (.int .i64 (w64 (s25 + 1))) (y_add rfl rfl) ?_
          refine pl_val (.int .i64 (w64 (s25 + 1))) (y_assign rfl) ?_
          refine c_nil ?_
          cases hs
          exact ⟨_, fr_ovl 48 ⟨rfl, rfl, rfl, trivial⟩, hC, hO, h0, h1⟩
      · skip
        refine c_condF (congrArg Value.bool hc35) ?_
        refine wp_exit ?_
        cases hs
        exact ⟨rfl, _, fr_ovl 48 ⟨rfl, rfl, trivial⟩, hC, hO, h0, h1⟩
  · skip
    exact ⟨_, fr_ovl 48 ⟨rfl, rfl, rfl, trivial⟩, hC, hO, h0, h1⟩
  · cases o29 with
    | nx _ => exact True.intro
    | rt r_ =>
      have hs := after_rt hs
      intro a1 w1 hK
      cases hs
      exact hK
    | br s25 =>
      have hs := after_br hs
      rintro a1 w26 ⟨σ, rfl, hC, hO, h0, h1⟩
      refine c_seq ?_
      refine wp_block ?_
      refine c_seq ?_
      refine c_region ?_
      refine pl_val (.slice pa0 pn0 pc0) (y_move rfl) ?_
      refine pl_val (.int .i64 (s_.length : Int)) (y_len' Sl22 (rs_len h0) rfl) ?_
      refine pl_val (.slice pa1 pn1 pc1) (y_move rfl) ?_
      refine pl_val (.int .i64 (t.length : Int)) (y_len' Sl22 (rs_len h1) rfl) ?_
      refine pl_val (.bool (decide ((s_.length : Int) < (t.length : Int)))) (y_lss rfl rfl) ?_
      refine pl_val (.bool (decide ((s_.length : Int) < (t.length : Int)))) (y_assign rfl) ?_
      refine c_nil ?_
      rcases bif_some hs with ⟨hc53, hs⟩ | ⟨hc53, hs⟩
      · skip
        refine c_condT (congrArg Value.bool hc53) ?_
        refine c_seq ?_
        refine c_region ?_
        refine pl_val (.int .i64 (-1)) (y_assign rfl) ?_
        refine c_nil ?_
        refine wp_ret ?_
        cases hs
        exact ⟨_, fr_ovl 48 ⟨rfl, trivial⟩, hC⟩
      · skip
        refine c_condF (congrArg Value.bool hc53) ?_
        refine c_seq ?_
        refine c_region ?_
        refine pl_val (.slice pa0 pn0 pc0) (y_move rfl) ?_
        refine pl_val (.int .i64 (s_.length : Int)) (y_len' Sl22 (rs_len h0) rfl) ?_
        refine pl_val (.slice pa1 pn1 pc1) (y_move rfl) ?_
        refine pl_val (.int .i64 (t.length : Int)) (y_len' Sl22 (rs_len h1) rfl) ?_
        refine pl_val (.bool (decide ((t.length : Int) < (s_.length : Int)))) (y_gtr rfl rfl) ?_
        refine pl_val (.bool (decide ((t.length : Int) < (s_.length : Int)))) (y_assign rfl) ?_
        refine c_nil ?_
        rcases bif_some hs with ⟨hc54, hs⟩ | ⟨hc54, hs⟩
        · skip
          refine c_condT (congrArg Value.bool hc54) ?_
          refine c_seq ?_
          refine c_region ?_
          refine pl_val (.int .i64 1) (y_assign rfl) ?_
          refine c_nil ?_
          refine wp_ret ?_
          cases hs
          exact ⟨_, fr_ovl 48 ⟨rfl, trivial⟩, hC⟩
        · skip
          refine c_condF (congrArg Value.bool hc54) ?_
          refine wp_skip ?_
          refine c_seq ?_
          refine c_region ?_
          refine pl_val (.int .i64 0) (y_assign rfl) ?_
          refine c_nil ?_
          refine wp_ret ?_
          cases hs
          exact ⟨_, fr_ovl 48 ⟨rfl, trivial⟩, hC⟩

theorem Bd113 : Bodied Try.prog 113 := bodied Try.func113 (by kernel_rfl) rfl

theorem Bd180 : Bodied Try.prog 180 := bodied Try.func180 (by kernel_rfl) rfl

def k_impl_isRelation (M : Nat → Prop) (w0 : World) (r : Bool) (a : Act) (w : World) : Prop :=
  ∃ (σ : Nat → Value) , a = fr 50 (ovl σ [(4, (.bool r))]) ∧ Chg [] w0 w
def s_impl_isRelation (n : Int) (r_ : Int × (List (List Int))) : Option (Bool) :=
  (bif ((decide (r_.1 < 1)) || (decide (3 < r_.1))) then some false else (forC (S := Unit) (R := Bool) (fun k26 s24 =>
  (idx r_.2 k26).bind fun x30 =>
  (bif ((x30.length : Int) != r_.1) then some (.rt false) else (s_impl_inSize x30 n).bind fun r36 =>
  (bif (!r36) then some (.rt false) else (bif (decide (0 < k26)) then (idx r_.2 (w64 (k26 - 1))).bind fun x39 =>
  (s_impl_compareLists x39 x30).bind fun r44 =>
  (bif (decide (0 ≤ r44)) then some (.rt false) else some (.nx ())) else some (.nx ()))))) 0 (r_.2.length : Int) ()).bind fun o28 => after o28 (fun r_ => some r_) (fun s24 =>
  some true))
set_option maxHeartbeats 4000000 in
theorem c_impl_isRelation {M : Nat → Prop} {w : World} {pa0 : Option Addr} {pn0 pc0 : Nat} (n : Int) (r_ : Int × (List (List Int))) (h0 : (RT.rs (RT.rs (RT.int .i64))).val M w (.slice pa0 pn0 pc0) r_.2 ([])) (hM : ∀ g, w.heap.size ≤ g → M g) {r : Bool} (hs : s_impl_isRelation n r_ = some r) :
    Gives Try.prog 147 [(.int .i64 n), (.agg #[(.int .i64 r_.1), (.slice pa0 pn0 pc0)])] w (fun v w' => v = (.bool r) ∧ Chg [] w w') := by
  refine calls_fr Try.func147 rfl Try.ntmps147 (Nat.le_of_ble_eq_true rfl) ?_
  have hO := Own.start (N := Nw w []) hM Nw.fut
  have hC := Chg.refl [] w
  unfold s_impl_isRelation at hs
  refine wp_mono (Q := KPost (k_impl_isRelation M w r)) ?_ (fun e a w1 h => ?_)
  rotate_left
  · cases e
    case ret =>
      obtain ⟨σ, rfl, hrest⟩ := h
      exact ret1x Try.results147 (res_tmp rfl) ⟨rfl, hrest⟩
    all_goals exact (h : False).elim
  refine c_seq ?_
  refine c_region ?_
  obtain ⟨w2, g2, ew2, eg2, hC2, hb2⟩ := new_block w [(.int .i64 r_.1), (.slice pa0 pn0 pc0)] 31
  refine pl_val (w' := w2) (.pointer (some ⟨g2, 0, none⟩)) (y_box rfl (by rw [ew2, eg2]; kernel_rfl)) ?_
  have h0 := h0.ext hC2
  have hC := hC.ext hC2
  have hO := hO.new (X' := [g2]) hC2 (fun q hq => by rw [List.mem_singleton.1 hq, eg2]; exact Nat.le_refl _) (List.nodup_cons.2 ⟨(fun h => nomatch h), List.nodup_nil⟩) (fun q hq => by rw [List.mem_singleton.1 hq]; exact hb2.lt)
  refine pl_val (.bool false) (y_assign rfl) ?_
  refine c_nil ?_
  refine c_seq ?_
  refine c_seq ?_
  refine c_mid (I := fun a w4 => ∃ (σ : Nat → Value), a = fr 50 (ovl σ [(0, (.int .i64 n)), (3, (.pointer (some ⟨g2, 0, none⟩))), (4, (.bool false)), (14, (.bool ((decide (r_.1 < 1)) || (decide (3 < r_.1)))))]) ∧ Chg [] w2 w4) ?_ ?_
  · have hMid := Chg.refl [] w2
    refine c_region ?_
    refine pl_val (.pointer (some ⟨g2, 0, none⟩)) (y_faddr rfl Fa31x0) ?_
    refine pl_val (.int .i64 r_.1) (y_load rfl ((box_load Ag3 Sz3 hb2 [] [(.int .i64 r_.1)] [(.slice pa0 pn0 pc0)] rfl rfl (fun _ => rfl)) _ (Chg.refl _ _))) ?_
    refine pl_val (.bool (decide (r_.1 < 1))) (y_lss rfl rfl) ?_
    refine pl_val (.bool (decide (r_.1 < 1))) (y_move rfl) ?_
    rcases Bool.eq_false_or_eq_true ((decide (r_.1 < 1))) with hc6 | hc6
    · skip
      refine pl_not (tg := 10) (by kernel_rfl) (congrArg Value.bool hc6) ?_
      refine pl_not (tg := 10) (by kernel_rfl) (congrArg Value.bool hc6) ?_
      refine pl_not (tg := 10) (by kernel_rfl) (congrArg Value.bool hc6) ?_
      refine pl_val (.bool ((decide (r_.1 < 1)) || (decide (3 < r_.1)))) (y_pick_t (congrArg Value.bool hc6) (congrArg Value.bool (by rw [hc6]; rfl))) ?_
      refine c_nil ?_
      exact ⟨_, fr_ovl 50 ⟨rfl, rfl, rfl, rfl, trivial⟩, hMid⟩
    · skip
      refine pl_yes (.pointer (some ⟨g2, 0, none⟩)) (tg := 10) (by kernel_rfl) (congrArg Value.bool hc6) (y_faddr rfl Fa31x0) ?_
      refine pl_yes (.int .i64 r_.1) (tg := 10) (by kernel_rfl) (congrArg Value.bool hc6) (y_load rfl ((box_load Ag3 Sz3 hb2 [] [(.int .i64 r_.1)] [(.slice pa0 pn0 pc0)] rfl rfl (fun _ => rfl)) _ (Chg.refl _ _))) ?_
      refine pl_yes (.bool (decide (3 < r_.1))) (tg := 10) (by kernel_rfl) (congrArg Value.bool hc6) (y_gtr rfl rfl) ?_
      refine pl_val (.bool ((decide (r_.1 < 1)) || (decide (3 < r_.1)))) (y_pick_f (congrArg Value.bool hc6) (congrArg Value.bool (by rw [hc6]; rfl))) ?_
      refine c_nil ?_
      exact ⟨_, fr_ovl 50 ⟨rfl, rfl, rfl, rfl, trivial⟩, hMid⟩
  · rintro a1 w4 ⟨σ, rfl, hCs3⟩
    have h0 := h0.ext hCs3
    have hb2 := hb2.chg hCs3 (fun h => nomatch h)
    have hC := hC.ext hCs3
    have hO := hO.ext hCs3
    rcases bif_some hs with ⟨hc7, hs⟩ | ⟨hc7, hs⟩
    · skip
      refine c_condT (congrArg Value.bool hc7) ?_
      refine c_seq ?_
      refine c_region ?_
      refine pl_val (.bool false) (y_assign rfl) ?_
      refine c_nil ?_
      refine wp_ret ?_
      cases hs
      exact ⟨_, fr_ovl 50 ⟨rfl, trivial⟩, hC⟩
    · skip
      refine c_condF (congrArg Value.bool hc7) ?_
      refine wp_skip ?_
      refine c_seq ?_
      refine c_seq ?_
      refine c_region ?_
      refine pl_val (.pointer (some ⟨g2, 1, none⟩)) (y_faddr rfl Fa31x1) ?_
      refine pl_val (.slice pa0 pn0 pc0) (y_load rfl ((box_load Ag29 Sz29 hb2 [(.int .i64 r_.1)] [(.slice pa0 pn0 pc0)] [] rfl rfl (fun _ => rfl)) _ (Chg.refl _ _))) ?_
      refine pl_val (.int .i64 (r_.2.length : Int)) (y_len' Sl29 (rs_len h0) rfl) ?_
      refine pl_val (.int .i64 0) (y_move rfl) ?_
      refine c_nil ?_
      obtain ⟨o28, hl29, hs⟩ := bind_some hs
      refine wp_block ?_
      refine wp_forC (id := 0) (r_.2.length : Int) (I := fun k26 s24 a w25 => ∃ (σ : Nat → Value), a = fr 50 (ovl σ [(0, (.int .i64 n)), (3, (.pointer (some ⟨g2, 0, none⟩))), (16, (.slice pa0 pn0 pc0)), (17, (.int .i64 (r_.2.length : Int))), (18, (.int .i64 k26))]) ∧ Chg [] w w25 ∧ Own (Nw w []) M w25 (([g2]) ++ []) ∧ (RT.rs (RT.rs (RT.int .i64))).val M w25 (.slice pa0 pn0 pc0) r_.2 ([]) ∧ BoxV w25 g2 31 [(.int .i64 r_.1), (.slice pa0 pn0 pc0)]) (J := fun s24 a w25 => ∃ (σ : Nat → Value), a = fr 50 (ovl σ []) ∧ Chg [] w w25 ∧ Own (Nw w []) M w25 (([g2]) ++ []) ∧ (RT.rs (RT.rs (RT.int .i64))).val M w25 (.slice pa0 pn0 pc0) r_.2 ([]) ∧ BoxV w25 g2 31 [(.int .i64 r_.1), (.slice pa0 pn0 pc0)]) (K := (k_impl_isRelation M w)) ?_ ?_ 0 () o28 _ _ ?_ hl29 ?_
      · rintro k26 s24 a w25 ⟨σ, rfl, hC, hO, h0, hb2⟩ hlt
        refine c_seq ?_
        refine c_region ?_
        refine pl_val (.bool (decide (k26 < (r_.2.length : Int)))) (y_lss rfl rfl) ?_
        refine c_nil ?_
        refine c_seq ?_
        refine c_condF (congrArg Value.bool (decide_eq_false hlt)) ?_
        refine wp_exit ?_
        exact ⟨rfl, _, fr_ovl 50 trivial, hC, hO, h0, hb2⟩
      · rintro k26 s24 o28 a w25 ⟨σ, rfl, hC, hO, h0, hb2⟩ hlt hw hs
        refine c_seq ?_
        refine c_region ?_
        refine pl_val (.bool (decide (k26 < (r_.2.length : Int)))) (y_lss rfl rfl) ?_
        refine c_nil ?_
        refine c_seq ?_
        refine c_condT (congrArg Value.bool (decide_eq_true hlt)) ?_
        refine wp_skip ?_
        refine c_seq ?_
        refine wp_block ?_
        refine c_seq ?_
        refine c_region ?_
        refine pl_val (.int .i64 k26) (y_move rfl) ?_
        obtain ⟨x30, hx30, hs⟩ := bind_some hs
        obtain ⟨b31, o31, hp31, ha31⟩ := rs_idx Sl29 Sz22 h0 hx30
        refine pl_val (.pointer (some ⟨b31, o31, none⟩)) (hp31 _ _ _ _ _ _ _ _ _ rfl rfl) ?_
        obtain ⟨v32, hl32, hv32⟩ := at_load Ag22 Sz22 (fun _ => rfl) ha31
        obtain ⟨a32, n32, c32, rfl⟩ := rs_sl hv32
        refine pl_val (.slice a32 n32 c32) (y_load rfl (hl32 _ (Chg.refl _ _))) ?_
        refine pl_val (.int .i64 k26) (y_assign rfl) ?_
        refine pl_val (.slice a32 n32 c32) (y_assign rfl) ?_
        refine c_nil ?_
        refine c_seq ?_
        refine c_region ?_
        refine pl_val (.slice a32 n32 c32) (y_move rfl) ?_
        refine pl_val (.int .i64 (x30.length : Int)) (y_len' Sl22 (rs_len hv32) rfl) ?_
        refine pl_val (.pointer (some ⟨g2, 0, none⟩)) (y_faddr rfl Fa31x0) ?_
        refine pl_val (.int .i64 r_.1) (y_load rfl ((box_load Ag3 Sz3 hb2 [] [(.int .i64 r_.1)] [(.slice pa0 pn0 pc0)] rfl rfl (fun _ => rfl)) _ (Chg.refl _ _))) ?_
        refine pl_val (.bool ((x30.length : Int) != r_.1)) (y_neq rfl rfl) ?_
        refine pl_val (.bool ((x30.length : Int) != r_.1)) (y_move rfl) ?_
        rcases bif_some hs with ⟨hc34, hs⟩ | ⟨hc34, hs⟩
        · skip
          refine pl_not (tg := 28) (by kernel_rfl) (congrArg Value.bool hc34) ?_
          refine pl_not (tg := 28) (by kernel_rfl) (congrArg Value.bool hc34) ?_
          refine pl_not (tg := 28) (by kernel_rfl) (congrArg Value.bool hc34) ?_
          refine pl_not (tg := 28) (by kernel_rfl) (congrArg Value.bool hc34) ?_
          refine pl_val (.bool true) (y_pick_t (congrArg Value.bool hc34) rfl) ?_
          refine pl_val (.bool true) (y_move rfl) ?_
          refine pl_not (tg := 34) (by kernel_rfl) (by rfl) ?_
          refine pl_not (tg := 34) (by kernel_rfl) (by rfl) ?_
          refine pl_not (tg := 34) (by kernel_rfl) (by rfl) ?_
          refine pl_nou (tg := 37) (by kernel_rfl) rfl ?_
          refine pl_nou (tg := 37) (by kernel_rfl) rfl ?_
          refine pl_nou (tg := 37) (by kernel_rfl) rfl ?_
          refine pl_nou (tg := 37) (by kernel_rfl) rfl ?_
          refine pl_nou (tg := 37) (by kernel_rfl) rfl ?_
          refine pl_nou (tg := 37) (by kernel_rfl) rfl ?_
          refine pl_nou (tg := 37) (by kernel_rfl) rfl ?_
          refine pl_nou (tg := 37) (by kernel_rfl) rfl ?_
          refine pl_nou (tg := 37) (by kernel_rfl) rfl ?_
          refine pl_not (tg := 34) (by kernel_rfl) (by rfl) ?_
          refine pl_val (.bool true) (y_pick_t (by rfl) rfl) ?_
          refine c_nil ?_
          refine c_condT (by rfl) ?_
          refine c_seq ?_
          refine c_region ?_
          refine pl_val (.bool false) (y_assign rfl) ?_
          refine c_nil ?_
          refine wp_ret ?_
          cases hs
          exact ⟨_, fr_ovl 50 ⟨rfl, trivial⟩, hC⟩
        · skip
          refine pl_yes (.slice a32 n32 c32) (tg := 28) (by kernel_rfl) (congrArg Value.bool hc34) (y_move rfl) ?_
          refine pl_yes (.int .i64 n) (tg := 28) (by kernel_rfl) (congrArg Value.bool hc34) (y_move rfl) ?_
          obtain ⟨r36, hr36, hs⟩ := bind_some hs
          refine pl_cally (tg := 28) (by kernel_rfl) (congrArg Value.bool hc34) Bd113 rfl (c_impl_inSize (M := M) x30 n hv32 hO.fut hr36) ?_
          rintro _ w35 ⟨rfl, hC35⟩
          have h0 := h0.ext hC35
          have hb2 := hb2.chg hC35 (fun h => nomatch h)
          have hv32 := hv32.ext hC35
          have hC := hC.ext hC35
          have hO := hO.ext hC35
          refine pl_yes (.bool (!r36)) (tg := 28) (by kernel_rfl) (congrArg Value.bool hc34) (y_not rfl) ?_
          refine pl_val (.bool (!r36)) (y_pick_f (congrArg Value.bool hc34) rfl) ?_
          refine pl_val (.bool (!r36)) (y_move rfl) ?_
          rcases bif_some hs with ⟨hc37, hs⟩ | ⟨hc37, hs⟩
          · skip
            refine pl_not (tg := 34) (by kernel_rfl) (congrArg Value.bool hc37) ?_
            refine pl_not (tg := 34) (by kernel_rfl) (congrArg Value.bool hc37) ?_
            refine pl_not (tg := 34) (by kernel_rfl) (congrArg Value.bool hc37) ?_
            refine pl_nou (tg := 37) (by kernel_rfl) rfl ?_
            refine pl_nou (tg := 37) (by kernel_rfl) rfl ?_
            refine pl_nou (tg := 37) (by kernel_rfl) rfl ?_
            refine pl_nou (tg := 37) (by kernel_rfl) rfl ?_
            refine pl_nou (tg := 37) (by kernel_rfl) rfl ?_
            refine pl_nou (tg := 37) (by kernel_rfl) rfl ?_
            refine pl_nou (tg := 37) (by kernel_rfl) rfl ?_
            refine pl_nou (tg := 37) (by kernel_rfl) rfl ?_
            refine pl_nou (tg := 37) (by kernel_rfl) rfl ?_
            refine pl_not (tg := 34) (by kernel_rfl) (congrArg Value.bool hc37) ?_
            refine pl_val (.bool true) (y_pick_t (congrArg Value.bool hc37) rfl) ?_
            refine c_nil ?_
            refine c_condT (by rfl) ?_
            refine c_seq ?_
            refine c_region ?_
            refine pl_val (.bool false) (y_assign rfl) ?_
            refine c_nil ?_
            refine wp_ret ?_
            cases hs
            exact ⟨_, fr_ovl 50 ⟨rfl, trivial⟩, hC⟩
          · skip
            refine pl_yes (.int .i64 k26) (tg := 34) (by kernel_rfl) (congrArg Value.bool hc37) (y_move rfl) ?_
            refine pl_yes (.bool (decide (0 < k26))) (tg := 34) (by kernel_rfl) (congrArg Value.bool hc37) (y_gtr rfl rfl) ?_
            refine pl_yes (.bool (decide (0 < k26))) (tg := 34) (by kernel_rfl) (congrArg Value.bool hc37) (y_move rfl) ?_
            rcases bif_some hs with ⟨hc38, hs⟩ | ⟨hc38, hs⟩
            · skip
              refine pl_yes (.pointer (some ⟨g2, 1, none⟩)) (tg := 37) (by kernel_rfl) (congrArg Value.bool hc38) (y_faddr rfl Fa31x1) ?_
              refine pl_yes (.slice pa0 pn0 pc0) (tg := 37) (by kernel_rfl) (congrArg Value.bool hc38) (y_load rfl ((box_load Ag29 Sz29 hb2 [(.int .i64 r_.1)] [(.slice pa0 pn0 pc0)] [] rfl rfl (fun _ => rfl)) _ (Chg.refl _ _))) ?_
              refine pl_yes (.int .i64 k26) (tg := 37) (by kernel_rfl) (congrArg Value.bool hc38) (y_move rfl) ?_
              refine pl_yes (.int .i64 (w64 (k26 - 1))) (tg := 37) (by kernel_rfl) (congrArg Value.bool hc38) (y_sub rfl rfl) ?_
              obtain ⟨x39, hx39, hs⟩ := bind_some hs
              obtain ⟨b40, o40, hp40, ha40⟩ := rs_idx Sl29 Sz22 h0 hx39
              refine pl_yes (.pointer (some ⟨b40, o40, none⟩)) (tg := 37) (by kernel_rfl) (congrArg Value.bool hc38) (hp40 _ _ _ _ _ _ _ _ _ rfl rfl) ?_
              obtain ⟨v41, hl41, hv41⟩ := at_load Ag22 Sz22 (fun _ => rfl) ha40
              obtain ⟨a41, n41, c41, rfl⟩ := rs_sl hv41
              refine pl_yes (.slice a41 n41 c41) (tg := 37) (by kernel_rfl) (congrArg Value.bool hc38) (y_load rfl (hl41 _ (Chg.refl _ _))) ?_
              refine pl_yes (.slice a32 n32 c32) (tg := 37) (by kernel_rfl) (congrArg Value.bool hc38) (y_move rfl) ?_
              obtain ⟨r44, hr44, hs⟩ := bind_some hs
              refine pl_cally (tg := 37) (by kernel_rfl) (congrArg Value.bool hc38) Bd180 rfl (c_impl_compareLists (M := M) x39 x30 hv41 hv32 hO.fut hr44) ?_
              rintro _ w43 ⟨rfl, hC43⟩
              have h0 := h0.ext hC43
              have hb2 := hb2.chg hC43 (fun h => nomatch h)
              have hv32 := hv32.ext hC43
              have hv41 := hv41.ext hC43
              have hC := hC.ext hC43
              have hO := hO.ext hC43
              refine pl_yes (.bool (decide (0 ≤ r44))) (tg := 37) (by kernel_rfl) (congrArg Value.bool hc38) (y_geq rfl rfl) ?_
              refine pl_yes (.bool (decide (0 ≤ r44))) (tg := 34) (by kernel_rfl) (congrArg Value.bool hc37) (y_pick_t (congrArg Value.bool hc38) rfl) ?_
              refine pl_val (.bool (decide (0 ≤ r44))) (y_pick_f (congrArg Value.bool hc37) rfl) ?_
              refine c_nil ?_
              rcases bif_some hs with ⟨hc45, hs⟩ | ⟨hc45, hs⟩
              · skip
                refine c_condT (congrArg Value.bool hc45) ?_
                refine c_seq ?_
                refine c_region ?_
                refine pl_val (.bool false) (y_assign rfl) ?_
                refine c_nil ?_
                refine wp_ret ?_
                cases hs
                exact ⟨_, fr_ovl 50 ⟨rfl, trivial⟩, hC⟩
              · skip
                refine c_condF (congrArg Value.bool hc45) ?_
                refine wp_skip ?_
                refine c_region ?_
                refine pl_val (.int .i64 (w64 (k26 + 1))) (y_add rfl rfl) ?_
                refine pl_val (.int .i64 (w64 (k26 + 1))) (y_move rfl) ?_
                refine c_nil ?_
                cases hs
                exact ⟨_, fr_ovl 50 ⟨rfl, rfl, rfl, rfl, congrArg (Value.int .i64) hw, trivial⟩, hC, hO, h0, hb2⟩
            · skip
              refine pl_not (tg := 37) (by kernel_rfl) (congrArg Value.bool hc38) ?_
              refine pl_not (tg := 37) (by kernel_rfl) (congrArg Value.bool hc38) ?_
              refine pl_not (tg := 37) (by kernel_rfl) (congrArg Value.bool hc38) ?_
              refine pl_not (tg := 37) (by kernel_rfl) (congrArg Value.bool hc38) ?_
              refine pl_not (tg := 37) (by kernel_rfl) (congrArg Value.bool hc38) ?_
              refine pl_not (tg := 37) (by kernel_rfl) (congrArg Value.bool hc38) ?_
              refine pl_not (tg := 37) (by kernel_rfl) (congrArg Value.bool hc38) ?_
              refine pl_not (tg := 37) (by kernel_rfl) (congrArg Value.bool hc38) ?_
              refine pl_not (tg := 37) (by kernel_rfl) (congrArg Value.bool hc38) ?_
              refine pl_yes (.bool false) (tg := 34) (by kernel_rfl) (congrArg Value.bool hc37) (y_pick_f (congrArg Value.bool hc38) rfl) ?_
              refine pl_val (.bool false) (y_pick_f (congrArg Value.bool hc37) rfl) ?_
              refine c_nil ?_
              refine c_condF (by rfl) ?_
              refine wp_skip ?_
              refine c_region ?_
              refine pl_val (.int .i64 (w64 (k26 + 1))) (y_add rfl rfl) ?_
              refine pl_val (.int .i64 (w64 (k26 + 1))) (y_move rfl) ?_
              refine c_nil ?_
              cases hs
              exact ⟨_, fr_ovl 50 ⟨rfl, rfl, rfl, rfl, congrArg (Value.int .i64) hw, trivial⟩, hC, hO, h0, hb2⟩
      · skip
        exact ⟨_, fr_ovl 50 ⟨rfl, rfl, rfl, rfl, rfl, trivial⟩, hC, hO, h0, hb2⟩
      · cases o28 with
        | nx _ => exact True.intro
        | rt r_ =>
          have hs := after_rt hs
          intro a1 w1 hK
          cases hs
          exact hK
        | br s24 =>
          have hs := after_br hs
          rintro a1 w25 ⟨σ, rfl, hC, hO, h0, hb2⟩
          refine c_seq ?_
          refine c_region ?_
          refine pl_val (.bool true) (y_assign rfl) ?_
          refine c_nil ?_
          refine wp_ret ?_
          cases hs
          exact ⟨_, fr_ovl 50 ⟨rfl, trivial⟩, hC⟩

theorem Bd147 : Bodied Try.prog 147 := bodied Try.func147 (by kernel_rfl) rfl

def k_impl_isConstraint (M : Nat → Prop) (w0 : World) (r : Bool) (a : Act) (w : World) : Prop :=
  ∃ (σ : Nat → Value) , a = fr 26 (ovl σ [(6, (.bool r))]) ∧ Chg [] w0 w
def s_impl_isConstraint (vars : Int) (size : Int) (c : (List Int) × (Int × (List (List Int)))) : Option (Bool) :=
  (s_impl_isRelation size (c.2.1, c.2.2)).bind fun r5 =>
  (bif r5 then (bif ((c.1.length : Int) == c.2.1) then (s_impl_inSize c.1 vars).bind fun r9 =>
  some r9 else some false) else some false)
set_option maxHeartbeats 4000000 in
theorem c_impl_isConstraint {M : Nat → Prop} {w : World} {pa0 : Option Addr} {pn0 pc0 : Nat} {pa1 : Option Addr} {pn1 pc1 : Nat} (vars : Int) (size : Int) (c : (List Int) × (Int × (List (List Int)))) (h0 : (RT.rs (RT.int .i64)).val M w (.slice pa0 pn0 pc0) c.1 ([])) (h1 : (RT.rs (RT.rs (RT.int .i64))).val M w (.slice pa1 pn1 pc1) c.2.2 ([])) (hM : ∀ g, w.heap.size ≤ g → M g) {r : Bool} (hs : s_impl_isConstraint vars size c = some r) :
    Gives Try.prog 91 [(.int .i64 vars), (.int .i64 size), (.agg #[(.slice pa0 pn0 pc0), (.int .i64 c.2.1), (.slice pa1 pn1 pc1)])] w (fun v w' => v = (.bool r) ∧ Chg [] w w') := by
  refine calls_fr Try.func91 rfl Try.ntmps91 (Nat.le_of_ble_eq_true rfl) ?_
  have hO := Own.start (N := Nw w []) hM Nw.fut
  have hC := Chg.refl [] w
  unfold s_impl_isConstraint at hs
  refine wp_mono (Q := KPost (k_impl_isConstraint M w r)) ?_ (fun e a w1 h => ?_)
  rotate_left
  · cases e
    case ret =>
      obtain ⟨σ, rfl, hrest⟩ := h
      exact ret1x Try.results91 (res_tmp rfl) ⟨rfl, hrest⟩
    all_goals exact (h : False).elim
  refine c_seq ?_
  refine c_region ?_
  obtain ⟨w3, g3, ew3, eg3, hC3, hb3⟩ := new_block w [(.slice pa0 pn0 pc0), (.int .i64 c.2.1), (.slice pa1 pn1 pc1)] 108
  refine pl_val (w' := w3) (.pointer (some ⟨g3, 0, none⟩)) (y_box rfl (by rw [ew3, eg3]; kernel_rfl)) ?_
  have h0 := h0.ext hC3
  have h1 := h1.ext hC3
  have hC := hC.ext hC3
  have hO := hO.new (X' := [g3]) hC3 (fun q hq => by rw [List.mem_singleton.1 hq, eg3]; exact Nat.le_refl _) (List.nodup_cons.2 ⟨(fun h => nomatch h), List.nodup_nil⟩) (fun q hq => by rw [List.mem_singleton.1 hq]; exact hb3.lt)
  refine pl_val (.bool false) (y_assign rfl) ?_
  refine c_nil ?_
  refine c_seq ?_
  refine c_region ?_
  refine pl_val (.int .i64 size) (y_move rfl) ?_
  refine pl_val (.pointer (some ⟨g3, 1, none⟩)) (y_faddr rfl Fa108x1) ?_
  refine pl_val (.agg #[(.int .i64 c.2.1), (.slice pa1 pn1 pc1)]) (y_load rfl ((box_load Ag31 Sz31 hb3 [(.slice pa0 pn0 pc0)] [(.int .i64 c.2.1), (.slice pa1 pn1 pc1)] [] rfl rfl (fun h => nomatch h)) _ (Chg.refl _ _))) ?_
  obtain ⟨r5, hr5, hs⟩ := bind_some hs
  refine pl_call Bd147 rfl (c_impl_isRelation (M := M) size (c.2.1, c.2.2) h1 hO.fut hr5) ?_
  rintro _ w4 ⟨rfl, hC4⟩
  have h0 := h0.ext hC4
  have h1 := h1.ext hC4
  have hb3 := hb3.chg hC4 (fun h => nomatch h)
  have hC := hC.ext hC4
  have hO := hO.ext hC4
  refine pl_val (.bool r5) (y_move rfl) ?_
  rcases bif_some hs with ⟨hc6, hs⟩ | ⟨hc6, hs⟩
  · skip
    refine pl_yes (.pointer (some ⟨g3, 0, none⟩)) (tg := 11) (by kernel_rfl) (congrArg Value.bool hc6) (y_faddr rfl Fa108x0) ?_
    refine pl_yes (.slice pa0 pn0 pc0) (tg := 11) (by kernel_rfl) (congrArg Value.bool hc6) (y_load rfl ((box_load Ag22 Sz22 hb3 [] [(.slice pa0 pn0 pc0)] [(.int .i64 c.2.1), (.slice pa1 pn1 pc1)] rfl rfl (fun _ => rfl)) _ (Chg.refl _ _))) ?_
    refine pl_yes (.int .i64 (c.1.length : Int)) (tg := 11) (by kernel_rfl) (congrArg Value.bool hc6) (y_len' Sl22 (rs_len h0) rfl) ?_
    refine pl_yes (.pointer (some ⟨g3, 1, none⟩)) (tg := 11) (by kernel_rfl) (congrArg Value.bool hc6) (y_faddr rfl Fa108x1) ?_
    refine pl_yes (.pointer (some ⟨g3, 1, none⟩)) (tg := 11) (by kernel_rfl) (congrArg Value.bool hc6) (y_faddr rfl Fa31x0) ?_
    refine pl_yes (.int .i64 c.2.1) (tg := 11) (by kernel_rfl) (congrArg Value.bool hc6) (y_load rfl ((box_load Ag3 Sz3 hb3 [(.slice pa0 pn0 pc0)] [(.int .i64 c.2.1)] [(.slice pa1 pn1 pc1)] rfl rfl (fun _ => rfl)) _ (Chg.refl _ _))) ?_
    refine pl_yes (.bool ((c.1.length : Int) == c.2.1)) (tg := 11) (by kernel_rfl) (congrArg Value.bool hc6) (y_eql rfl rfl) ?_
    refine pl_val (.bool ((c.1.length : Int) == c.2.1)) (y_pick_t (congrArg Value.bool hc6) rfl) ?_
    refine pl_val (.bool ((c.1.length : Int) == c.2.1)) (y_move rfl) ?_
    rcases bif_some hs with ⟨hc7, hs⟩ | ⟨hc7, hs⟩
    · skip
      refine pl_yes (.pointer (some ⟨g3, 0, none⟩)) (tg := 20) (by kernel_rfl) (congrArg Value.bool hc7) (y_faddr rfl Fa108x0) ?_
      refine pl_yes (.slice pa0 pn0 pc0) (tg := 20) (by kernel_rfl) (congrArg Value.bool hc7) (y_load rfl ((box_load Ag22 Sz22 hb3 [] [(.slice pa0 pn0 pc0)] [(.int .i64 c.2.1), (.slice pa1 pn1 pc1)] rfl rfl (fun _ => rfl)) _ (Chg.refl _ _))) ?_
      refine pl_yes (.int .i64 vars) (tg := 20) (by kernel_rfl) (congrArg Value.bool hc7) (y_move rfl) ?_
      obtain ⟨r9, hr9, hs⟩ := bind_some hs
      refine pl_cally (tg := 20) (by kernel_rfl) (congrArg Value.bool hc7) Bd113 rfl (c_impl_inSize (M := M) c.1 vars h0 hO.fut hr9) ?_
      rintro _ w8 ⟨rfl, hC8⟩
      have h0 := h0.ext hC8
      have h1 := h1.ext hC8
      have hb3 := hb3.chg hC8 (fun h => nomatch h)
      have hC := hC.ext hC8
      have hO := hO.ext hC8
      refine pl_val (.bool r9) (y_pick_t (congrArg Value.bool hc7) rfl) ?_
      refine pl_val (.bool r9) (y_assign rfl) ?_
      refine c_nil ?_
      refine wp_ret ?_
      cases hs
      exact ⟨_, fr_ovl 26 ⟨rfl, trivial⟩, hC⟩
    · skip
      refine pl_not (tg := 20) (by kernel_rfl) (congrArg Value.bool hc7) ?_
      refine pl_not (tg := 20) (by kernel_rfl) (congrArg Value.bool hc7) ?_
      refine pl_not (tg := 20) (by kernel_rfl) (congrArg Value.bool hc7) ?_
      refine pl_not (tg := 20) (by kernel_rfl) (congrArg Value.bool hc7) ?_
      refine pl_val (.bool false) (y_pick_f (congrArg Value.bool hc7) rfl) ?_
      refine pl_val (.bool false) (y_assign rfl) ?_
      refine c_nil ?_
      refine wp_ret ?_
      cases hs
      exact ⟨_, fr_ovl 26 ⟨rfl, trivial⟩, hC⟩
  · skip
    refine pl_not (tg := 11) (by kernel_rfl) (congrArg Value.bool hc6) ?_
    refine pl_not (tg := 11) (by kernel_rfl) (congrArg Value.bool hc6) ?_
    refine pl_not (tg := 11) (by kernel_rfl) (congrArg Value.bool hc6) ?_
    refine pl_not (tg := 11) (by kernel_rfl) (congrArg Value.bool hc6) ?_
    refine pl_not (tg := 11) (by kernel_rfl) (congrArg Value.bool hc6) ?_
    refine pl_not (tg := 11) (by kernel_rfl) (congrArg Value.bool hc6) ?_
    refine pl_not (tg := 11) (by kernel_rfl) (congrArg Value.bool hc6) ?_
    refine pl_val (.bool false) (y_pick_f (congrArg Value.bool hc6) rfl) ?_
    refine pl_val (.bool false) (y_move rfl) ?_
    refine pl_not (tg := 20) (by kernel_rfl) (by rfl) ?_
    refine pl_not (tg := 20) (by kernel_rfl) (by rfl) ?_
    refine pl_not (tg := 20) (by kernel_rfl) (by rfl) ?_
    refine pl_not (tg := 20) (by kernel_rfl) (by rfl) ?_
    refine pl_val (.bool false) (y_pick_f (by rfl) rfl) ?_
    refine pl_val (.bool false) (y_assign rfl) ?_
    refine c_nil ?_
    refine wp_ret ?_
    cases hs
    exact ⟨_, fr_ovl 26 ⟨rfl, trivial⟩, hC⟩

theorem Bd90 : Bodied Try.prog 90 := bodied Try.func90 (by kernel_rfl) rfl

theorem Bd91 : Bodied Try.prog 91 := bodied Try.func91 (by kernel_rfl) rfl

end Go.Proofs
