/- What functions of the program compute, as plain functions, and that a call gives just that. Conditions: those named in each theorem. -/
import Derived.Test.YtchgbcjecdnclaaF3
set_option linter.unusedVariables false
namespace Go.Proofs
open Go.G Go.RowKit
set_option maxRecDepth 100000

def k_laws_FnExactAreDistributive (M : Nat → Prop) (w0 : World) (r : Bool) (a : Act) (w : World) : Prop :=
  ∃ (σ : Nat → Value) , a = fr 40 (ovl σ [(2, (.bool r))]) ∧ Chg [] w0 w
def s_laws_FnExactAreDistributive (aA : Int × (List (Int × (List Int)))) : Option (Bool) :=
  (s_laws_szAlgebra (aA.1, aA.2) 1048576).bind fun r4 =>
  (bif (decide (r4 < 0)) then some true else (s_laws_toAlgebra (aA.1, aA.2)).bind fun r7 =>
  (s_spec_AreDistributive (r7.1, r7.2)).bind fun r10 =>
  (s_laws_toAlgebra (aA.1, aA.2)).bind fun r12 =>
  (s_impl_AreDistributive (r12.1, r12.2)).bind fun r17 =>
  (bif ((!(r17.1 == r10.1)) || (!(r17.2 == r10.2))) then some false else (s_laws_toAlgebra (aA.1, aA.2)).bind fun r25 =>
  (s_laws_eqAlgebra (r12.1, r12.2) (r25.1, r25.2)).bind fun r28 =>
  (bif (!r28) then some false else some true)))
set_option maxHeartbeats 4000000 in
theorem c_laws_FnExactAreDistributive {M : Nat → Prop} {w : World} {pa0 : Option Addr} {pn0 pc0 : Nat} (aA : Int × (List (Int × (List Int)))) (h0 : (RT.rs (RT.pr (RT.int .i64) (RT.rs (RT.int .i64)))).val M w (.slice pa0 pn0 pc0) aA.2 ([])) (hM : ∀ g, w.heap.size ≤ g → M g) {r : Bool} (hs : s_laws_FnExactAreDistributive aA = some r) :
    Gives Try.prog 5 [(.agg #[(.int .i64 aA.1), (.slice pa0 pn0 pc0)])] w (fun v w' => v = (.bool r) ∧ Chg [] w w') := by
  refine calls_fr Try.func5 rfl Try.ntmps5 (Nat.le_of_ble_eq_true rfl) ?_
  have hO := Own.start (N := Nw w []) hM Nw.fut
  have hC := Chg.refl [] w
  unfold s_laws_FnExactAreDistributive at hs
  refine wp_mono (Q := KPost (k_laws_FnExactAreDistributive M w r)) ?_ (fun e a w1 h => ?_)
  rotate_left
  · cases e
    case ret =>
      obtain ⟨σ, rfl, hrest⟩ := h
      exact ret1x Try.results5 (res_tmp rfl) ⟨rfl, hrest⟩
    all_goals exact (h : False).elim
  refine c_seq ?_
  refine c_region ?_
  obtain ⟨w2, g2, ew2, eg2, hC2, hb2⟩ := new_block w [(.int .i64 aA.1), (.slice pa0 pn0 pc0)] 30
  refine pl_val (w' := w2) (.pointer (some ⟨g2, 0, none⟩)) (y_box rfl (by rw [ew2, eg2]; kernel_rfl)) ?_
  have h0 := h0.ext hC2
  have hC := hC.ext hC2
  have hO := hO.new (X' := [g2]) hC2 (fun q hq => by rw [List.mem_singleton.1 hq, eg2]; exact Nat.le_refl _) (List.nodup_cons.2 ⟨(fun h => nomatch h), List.nodup_nil⟩) (fun q hq => by rw [List.mem_singleton.1 hq]; exact hb2.lt)
  refine pl_val (.bool false) (y_assign rfl) ?_
  refine c_nil ?_
  refine c_seq ?_
  refine c_region ?_
  refine pl_val (.int .i64 1048576) (y_assign rfl) ?_
  refine c_nil ?_
  refine c_seq ?_
  refine c_region ?_
  refine pl_val (.agg #[(.int .i64 aA.1), (.slice pa0 pn0 pc0)]) (y_load rfl ((box_load Ag30 Sz30 hb2 [] [(.int .i64 aA.1), (.slice pa0 pn0 pc0)] [] rfl rfl (fun h => nomatch h)) _ (Chg.refl _ _))) ?_
  refine pl_val (.int .i64 1048576) (y_move rfl) ?_
  obtain ⟨r4, hr4, hs⟩ := bind_some hs
  refine pl_call Bd17 rfl (c_laws_szAlgebra (M := M) (aA.1, aA.2) 1048576 h0 hO.fut hr4) ?_
  rintro _ w3 ⟨rfl, hC3⟩
  have h0 := h0.ext hC3
  have hb2 := hb2.chg hC3 (fun h => nomatch h)
  have hC := hC.ext hC3
  have hO := hO.ext hC3
  refine pl_val (.int .i64 r4) (y_assign rfl) ?_
  refine c_nil ?_
  refine c_seq ?_
  refine c_seq ?_
  refine c_region ?_
  refine pl_val (.int .i64 r4) (y_move rfl) ?_
  refine pl_val (.bool (decide (r4 < 0))) (y_lss rfl rfl) ?_
  refine c_nil ?_
  rcases bif_some hs with ⟨hc5, hs⟩ | ⟨hc5, hs⟩
  · skip
    refine c_condT (congrArg Value.bool hc5) ?_
    refine c_seq ?_
    refine c_region ?_
    refine pl_val (.bool true) (y_assign rfl) ?_
    refine c_nil ?_
    refine wp_ret ?_
    cases hs
    exact ⟨_, fr_ovl 40 ⟨rfl, trivial⟩, hC⟩
  · skip
    refine c_condF (congrArg Value.bool hc5) ?_
    refine wp_skip ?_
    refine c_seq ?_
    refine c_region ?_
    refine pl_val (.agg #[(.int .i64 aA.1), (.slice pa0 pn0 pc0)]) (y_load rfl ((box_load Ag30 Sz30 hb2 [] [(.int .i64 aA.1), (.slice pa0 pn0 pc0)] [] rfl rfl (fun h => nomatch h)) _ (Chg.refl _ _))) ?_
    obtain ⟨r7, hr7, hs⟩ := bind_some hs
    refine pl_call Bd19 rfl (c_laws_toAlgebra (M := M) (aA.1, aA.2) h0 hO.fut hr7) ?_
    rintro _ w6 ⟨a6x0, n6x0, c6x0, f6x0, rfl, hC6, hv6x0, hOc6⟩
    have h0 := h0.ext hC6
    have hb2 := hb2.chg hC6 (fun h => nomatch h)
    have hC := hC.ext hC6
    have hO := Own.join0 hO hC6 hOc6
    have hO := hO.perm (R := f6x0 ++ (([g2]) ++ ([]))) (by simp)
    obtain ⟨r10, hr10, hs⟩ := bind_some hs
    refine pl_call Bd22 rfl (c_spec_AreDistributive (M := (Less M f6x0)) (r7.1, r7.2) (((Frz.os (Frz.pr Frz.int (Frz.os Frz.int)))).val hv6x0 Less.sub Less.not) hO.less.fut hr10) ?_
    rintro _ w9 ⟨rfl, hC9⟩
    have h0 := h0.ext hC9
    have hb2 := hb2.chg hC9 (fun h => nomatch h)
    have hv6x0 := hv6x0.ext hC9
    have hC := hC.ext hC9
    have hO := hO.ext hC9
    refine pl_val (.tuple #[(.bool r10.1), (.bool r10.2)]) (y_move rfl) ?_
    refine pl_val (.bool r10.1) (y_extract rfl (by kernel_rfl)) ?_
    refine pl_val (.bool r10.2) (y_extract rfl (by kernel_rfl)) ?_
    refine pl_val (.bool r10.1) (y_assign rfl) ?_
    refine pl_val (.bool r10.2) (y_assign rfl) ?_
    refine c_nil ?_
    refine c_seq ?_
    refine c_region ?_
    refine pl_val (.agg #[(.int .i64 aA.1), (.slice pa0 pn0 pc0)]) (y_load rfl ((box_load Ag30 Sz30 hb2 [] [(.int .i64 aA.1), (.slice pa0 pn0 pc0)] [] rfl rfl (fun h => nomatch h)) _ (Chg.refl _ _))) ?_
    obtain ⟨r12, hr12, hs⟩ := bind_some hs
    refine pl_call Bd19 rfl (c_laws_toAlgebra (M := M) (aA.1, aA.2) h0 hO.fut hr12) ?_
    rintro _ w11 ⟨a11x0, n11x0, c11x0, f11x0, rfl, hC11, hv11x0, hOc11⟩
    have h0 := h0.ext hC11
    have hb2 := hb2.chg hC11 (fun h => nomatch h)
    have hv6x0 := hv6x0.ext hC11
    have hC := hC.ext hC11
    have hO := Own.join0 hO hC11 hOc11
    have hO := hO.perm (R := f11x0 ++ (f6x0 ++ (([g2]) ++ ([])))) (by simp)
    obtain ⟨w14, g14, ew14, eg14, hC14, hb14⟩ := new_block w11 [(.int .i64 0), (.slice none 0 0)] 35
    refine pl_val (w' := w14) (.pointer (some ⟨g14, 0, none⟩)) (y_alloc (by rw [ew14, eg14]; kernel_rfl)) ?_
    have h0 := h0.ext hC14
    have hb2 := hb2.chg hC14 (fun h => nomatch h)
    have hv6x0 := hv6x0.ext hC14
    have hv11x0 := hv11x0.ext hC14
    have hC := hC.ext hC14
    have hO := hO.new (X' := [g14]) hC14 (fun q hq => by rw [List.mem_singleton.1 hq, eg14]; exact Nat.le_refl _) (List.nodup_cons.2 ⟨(fun h => nomatch h), List.nodup_nil⟩) (fun q hq => by rw [List.mem_singleton.1 hq]; exact hb14.lt)
    obtain ⟨w15, hst15, hC15, hb15⟩ := box_store (P := Try.prog) hb14 [] [(.int .i64 0), (.slice none 0 0)] [] [(.int .i64 r12.1), (.slice a11x0 n11x0 c11x0)] rfl rfl (by intro u hu; simp only [List.mem_cons, List.not_mem_nil, or_false] at hu; rcases hu with rfl | rfl <;> rfl)
    refine pl_skip (w' := w15) (ys_store rfl rfl (hst15 _ _ rfl Sz35)) ?_
    have h0 := h0.mut hC15 (fun g hg => hO.inM g ((fun _ h => h) g hg)) (fun _ _ h => nomatch h)
    have hb2 := hb2.chg hC15 (fun hg => hO.apart _ ((fun _ h => h) _ hg) (mem_r (mem_r (mem_l (List.mem_singleton.2 rfl)))))
    have hv6x0 := hv6x0.mut hC15 (fun g hg => hO.inM g ((fun _ h => h) g hg)) (fun g hg e => hO.apart g ((fun _ h => h) g hg) (mem_r (mem_l (e))))
    have hv11x0 := hv11x0.mut hC15 (fun g hg => hO.inM g ((fun _ h => h) g hg)) (fun g hg e => hO.apart g ((fun _ h => h) g hg) (mem_l (e)))
    have hC := hC.step hC15 (fun g hg => hO.inN g ((fun _ h => h) g hg))
    have hO := hO.ext hC15
    have hb15 : BoxV w15 g14 35 [(.int .i64 r12.1), (.slice a11x0 n11x0 c11x0)] := hb15
    refine c_nil ?_
    refine c_seq ?_
    refine c_region ?_
    refine pl_val (.agg #[(.int .i64 r12.1), (.slice a11x0 n11x0 c11x0)]) (y_load rfl ((box_load Ag35 Sz35 hb15 [] [(.int .i64 r12.1), (.slice a11x0 n11x0 c11x0)] [] rfl rfl (fun h => nomatch h)) _ (Chg.refl _ _))) ?_
    have hO := hO.fr1
    obtain ⟨r17, hr17, hs⟩ := bind_some hs
    refine pl_call Bd23 rfl (c_impl_AreDistributive (M := (Less M f11x0)) (r12.1, r12.2) (((Frz.os (Frz.pr Frz.int (Frz.os Frz.int)))).val hv11x0 Less.sub Less.not) hO.less.fut hr17) ?_
    rintro _ w16 ⟨rfl, hC16⟩
    have h0 := h0.ext hC16
    have hb2 := hb2.chg hC16 (fun h => nomatch h)
    have hv6x0 := hv6x0.ext hC16
    have hv11x0 := hv11x0.ext hC16
    have hb15 := hb15.chg hC16 (fun h => nomatch h)
    have hC := hC.ext hC16
    have hO := hO.ext hC16
    refine pl_val (.tuple #[(.bool r17.1), (.bool r17.2)]) (y_move rfl) ?_
    refine pl_val (.bool r17.1) (y_extract rfl (by kernel_rfl)) ?_
    refine pl_val (.bool r17.2) (y_extract rfl (by kernel_rfl)) ?_
    refine pl_val (.bool r17.1) (y_assign rfl) ?_
    refine pl_val (.bool r17.2) (y_assign rfl) ?_
    refine c_nil ?_
    refine c_seq ?_
    refine c_seq ?_
    refine c_mid (I := fun a w19 => ∃ (σ : Nat → Value), a = fr 40 (ovl σ [(1, (.pointer (some ⟨g2, 0, none⟩))), (2, (.bool false)), (6, (.pointer (some ⟨g14, 0, none⟩))), (34, (.bool ((!(r17.1 == r10.1)) || (!(r17.2 == r10.2)))))]) ∧ Chg [] w16 w19) ?_ ?_
    · have hMid := Chg.refl [] w16
      refine c_region ?_
      refine pl_val (.bool r17.1) (y_move rfl) ?_
      refine pl_val (.bool r10.1) (y_move rfl) ?_
      refine pl_val (.bool (!(r17.1 == r10.1))) (y_bneq Try.underlying4 rfl rfl) ?_
      refine pl_val (.bool (!(r17.1 == r10.1))) (y_move rfl) ?_
      rcases Bool.eq_false_or_eq_true ((!(r17.1 == r10.1))) with hc21 | hc21
      · skip
        refine pl_not (tg := 30) (by kernel_rfl) (congrArg Value.bool hc21) ?_
        refine pl_not (tg := 30) (by kernel_rfl) (congrArg Value.bool hc21) ?_
        refine pl_not (tg := 30) (by kernel_rfl) (congrArg Value.bool hc21) ?_
        refine pl_val (.bool ((!(r17.1 == r10.1)) || (!(r17.2 == r10.2)))) (y_pick_t (congrArg Value.bool hc21) (congrArg Value.bool (by rw [hc21]; rfl))) ?_
        refine c_nil ?_
        exact ⟨_, fr_ovl 40 ⟨rfl, rfl, rfl, rfl, trivial⟩, hMid⟩
      · skip
        refine pl_yes (.bool r17.2) (tg := 30) (by kernel_rfl) (congrArg Value.bool hc21) (y_move rfl) ?_
        refine pl_yes (.bool r10.2) (tg := 30) (by kernel_rfl) (congrArg Value.bool hc21) (y_move rfl) ?_
        refine pl_yes (.bool (!(r17.2 == r10.2))) (tg := 30) (by kernel_rfl) (congrArg Value.bool hc21) (y_bneq Try.underlying4 rfl rfl) ?_
        refine pl_val (.bool ((!(r17.1 == r10.1)) || (!(r17.2 == r10.2)))) (y_pick_f (congrArg Value.bool hc21) (congrArg Value.bool (by rw [hc21]; rfl))) ?_
        refine c_nil ?_
        exact ⟨_, fr_ovl 40 ⟨rfl, rfl, rfl, rfl, trivial⟩, hMid⟩
    · rintro a1 w19 ⟨σ, rfl, hCs18⟩
      have h0 := h0.ext hCs18
      have hb2 := hb2.chg hCs18 (fun h => nomatch h)
      have hv6x0 := hv6x0.ext hCs18
      have hv11x0 := hv11x0.ext hCs18
      have hb15 := hb15.chg hCs18 (fun h => nomatch h)
      have hC := hC.ext hCs18
      have hO := hO.ext hCs18
      rcases bif_some hs with ⟨hc22, hs⟩ | ⟨hc22, hs⟩
      · skip
        refine c_condT (congrArg Value.bool hc22) ?_
        refine c_seq ?_
        refine c_region ?_
        refine pl_val (.bool false) (y_assign rfl) ?_
        refine c_nil ?_
        refine wp_ret ?_
        cases hs
        exact ⟨_, fr_ovl 40 ⟨rfl, trivial⟩, hC⟩
      · skip
        refine c_condF (congrArg Value.bool hc22) ?_
        refine wp_skip ?_
        refine c_seq ?_
        refine c_seq ?_
        refine x_start [] Mx rfl ?_
        have hCw23 := Chg.drew w19
        generalize World.drew w19 = w23 at hCw23 ⊢
        have h0 := h0.ext hCw23
        have hb2 := hb2.chg hCw23 (fun h => nomatch h)
        have hv6x0 := hv6x0.ext hCw23
        have hv11x0 := hv11x0.ext hCw23
        have hb15 := hb15.chg hCw23 (fun h => nomatch h)
        have hC := hC.ext hCw23
        have hO := hO.ext hCw23
        have hS := Chg.refl [] w23
        refine x_l 0 (.agg #[(.int .i64 r12.1), (.slice a11x0 n11x0 c11x0)]) rfl (by kernel_rfl)  (fun w' hw' => y_load rfl ((box_load Ag35 Sz35 hb15 [] [(.int .i64 r12.1), (.slice a11x0 n11x0 c11x0)] [] rfl rfl (fun h => nomatch h)) w' hw')) hS ?_
        refine x_l 1 (.agg #[(.int .i64 aA.1), (.slice pa0 pn0 pc0)]) rfl (by kernel_rfl)  (fun w' hw' => y_load rfl ((box_load Ag30 Sz30 hb2 [] [(.int .i64 aA.1), (.slice pa0 pn0 pc0)] [] rfl rfl (fun h => nomatch h)) w' hw')) hS ?_
        refine x_one (i := 2) (by kernel_rfl) ?_
        obtain ⟨r25, hr25, hs⟩ := bind_some hs
        refine xk_call (b := false) rfl  Bd19 rfl (c_laws_toAlgebra (M := M) (aA.1, aA.2) h0 hO.fut hr25) rfl (by rintro _ _ _ ⟨a24x0, n24x0, c24x0, f24x0, rfl, hC24, hv24x0, hOc24⟩; exact hS.ext hC24) ?_
        rintro _ w24 ⟨a24x0, n24x0, c24x0, f24x0, rfl, hC24, hv24x0, hOc24⟩
        have h0 := h0.ext hC24
        have hb2 := hb2.chg hC24 (fun h => nomatch h)
        have hv6x0 := hv6x0.ext hC24
        have hv11x0 := hv11x0.ext hC24
        have hb15 := hb15.chg hC24 (fun h => nomatch h)
        have hC := hC.ext hC24
        have hO := Own.join0 hO hC24 hOc24
        have hO := hO.perm (R := f24x0 ++ (f11x0 ++ (([g14]) ++ (f6x0 ++ (([g2]) ++ ([])))))) (by simp)
        have hS := hS.ext hC24
        refine x_one (i := 3) (by kernel_rfl) ?_
        have hO := hO.fr1
        obtain ⟨r28, hr28, hs⟩ := bind_some hs
        refine xk_call (b := false) rfl  Bd21 rfl (c_laws_eqAlgebra (M := (Less (Less M f11x0) f24x0)) (r12.1, r12.2) (r25.1, r25.2) ((((Frz.os (Frz.pr Frz.int (Frz.os Frz.int)))).val hv11x0 Less.sub Less.not).sub Less.sub) (((Frz.os (Frz.pr Frz.int (Frz.os Frz.int)))).val (hv24x0.sub Less.sub) Less.sub Less.not) (hO.less).less.fut hr28) rfl (by rintro _ _ _ ⟨rfl, hC27⟩; exact hS.ext hC27) ?_
        rintro _ w27 ⟨rfl, hC27⟩
        have h0 := h0.ext hC27
        have hb2 := hb2.chg hC27 (fun h => nomatch h)
        have hv6x0 := hv6x0.ext hC27
        have hv11x0 := hv11x0.ext hC27
        have hb15 := hb15.chg hC27 (fun h => nomatch h)
        have hv24x0 := hv24x0.ext hC27
        have hC := hC.ext hC27
        have hO := hO.ext hC27
        have hS := hS.ext hC27
        refine x_p 4 (.bool (!r28)) rfl (by kernel_rfl)  (fun _ => y_not rfl) (fun _ => hS) ?_
        refine x_end (by kernel_rfl) ?_
        clear hS
        rcases bif_some hs with ⟨hc29, hs⟩ | ⟨hc29, hs⟩
        · skip
          refine c_condT (congrArg Value.bool hc29) ?_
          refine c_seq ?_
          refine c_region ?_
          refine pl_val (.bool false) (y_assign rfl) ?_
          refine c_nil ?_
          refine wp_ret ?_
          cases hs
          exact ⟨_, fr_ovl 40 ⟨rfl, trivial⟩, hC⟩
        · skip
          refine c_condF (congrArg Value.bool hc29) ?_
          refine wp_skip ?_
          refine c_seq ?_
          refine c_region ?_
          refine pl_val (.bool true) (y_assign rfl) ?_
          refine c_nil ?_
          refine wp_ret ?_
          cases hs
          exact ⟨_, fr_ovl 40 ⟨rfl, trivial⟩, hC⟩

end Go.Proofs
