/- What functions of the program compute, as plain functions, and that a call gives just that. Conditions: those named in each theorem. -/
import Derived.Test.YtceenhnjdnggjaaF1
set_option linter.unusedVariables false
namespace Go.Proofs
open Go.G Go.RowKit
set_option maxRecDepth 100000

def k_laws_FnExactFirstUnsatisfied (M : Nat → Prop) (w0 : World) (r : Bool) (a : Act) (w : World) : Prop :=
  ∃ (σ : Nat → Value) , a = fr 56 (ovl σ [(4, (.bool r))]) ∧ Chg [] w0 w
def s_laws_FnExactFirstUnsatisfied (aNet : Int × Int × (List ((List Int) × (Int × (List (List Int)))))) (aValues : List Int) : Option (Bool) :=
  (bif (decide (1048576 < (aValues.length : Int))) then some true else (s_laws_szNetwork (aNet.1, aNet.2.1, aNet.2.2) 1048576).bind fun r6 =>
  (bif (decide (r6 < 0)) then some true else (s_laws_toNetwork (aNet.1, aNet.2.1, aNet.2.2)).bind fun r9 =>
  (s_laws_toIntS aValues).bind fun r12 =>
  (s_spec_FirstUnsatisfied (r9.1, r9.2.1, r9.2.2) r12).bind fun r15 =>
  (s_laws_toNetwork (aNet.1, aNet.2.1, aNet.2.2)).bind fun r17 =>
  (s_laws_toIntS aValues).bind fun r22 =>
  (s_impl_FirstUnsatisfied (r17.1, r17.2.1, r17.2.2) r22).bind fun r25 =>
  (bif ((r25.1 != r15.1) || (!(r25.2 == r15.2))) then some false else (s_laws_toNetwork (aNet.1, aNet.2.1, aNet.2.2)).bind fun r39 =>
  (s_laws_eqNetwork (r17.1, r17.2.1, r17.2.2) (r39.1, r39.2.1, r39.2.2)).bind fun r42 =>
  (bif (!r42) then some false else (s_laws_toIntS aValues).bind fun r45 =>
  (s_laws_eqIntS r22 r45).bind fun r48 =>
  (bif (!r48) then some false else some true)))))
set_option maxHeartbeats 4000000 in
theorem c_laws_FnExactFirstUnsatisfied {M : Nat → Prop} {w : World} {pa0 : Option Addr} {pn0 pc0 : Nat} {pa1 : Option Addr} {pn1 pc1 : Nat} (aNet : Int × Int × (List ((List Int) × (Int × (List (List Int)))))) (aValues : List Int) (h0 : (RT.rs (RT.pr (RT.rs (RT.int .i64)) (RT.pr (RT.int .i64) (RT.rs (RT.rs (RT.int .i64)))))).val M w (.slice pa0 pn0 pc0) aNet.2.2 ([])) (h1 : (RT.rs (RT.int .i64)).val M w (.slice pa1 pn1 pc1) aValues ([])) (hM : ∀ g, w.heap.size ≤ g → M g) {r : Bool} (hs : s_laws_FnExactFirstUnsatisfied aNet aValues = some r) :
    Gives Try.prog 9 [(.agg #[(.int .i64 aNet.1), (.int .i64 aNet.2.1), (.slice pa0 pn0 pc0)]), (.slice pa1 pn1 pc1)] w (fun v w' => v = (.bool r) ∧ Chg [] w w') := by
  refine calls_fr Try.func9 rfl Try.ntmps9 (Nat.le_of_ble_eq_true rfl) ?_
  have hO := Own.start (N := Nw w []) hM Nw.fut
  have hC := Chg.refl [] w
  unfold s_laws_FnExactFirstUnsatisfied at hs
  refine wp_mono (Q := KPost (k_laws_FnExactFirstUnsatisfied M w r)) ?_ (fun e a w1 h => ?_)
  rotate_left
  · cases e
    case ret =>
      obtain ⟨σ, rfl, hrest⟩ := h
      exact ret1x Try.results9 (res_tmp rfl) ⟨rfl, hrest⟩
    all_goals exact (h : False).elim
  refine c_seq ?_
  refine c_region ?_
  obtain ⟨w3, g3, ew3, eg3, hC3, hb3⟩ := new_block w [(.int .i64 aNet.1), (.int .i64 aNet.2.1), (.slice pa0 pn0 pc0)] 44
  refine pl_val (w' := w3) (.pointer (some ⟨g3, 0, none⟩)) (y_box rfl (by rw [ew3, eg3]; kernel_rfl)) ?_
  have h0 := h0.ext hC3
  have h1 := h1.ext hC3
  have hC := hC.ext hC3
  have hO := hO.new (X' := [g3]) hC3 (fun q hq => by rw [List.mem_singleton.1 hq, eg3]; exact Nat.le_refl _) (List.nodup_cons.2 ⟨(fun h => nomatch h), List.nodup_nil⟩) (fun q hq => by rw [List.mem_singleton.1 hq]; exact hb3.lt)
  refine pl_val (.bool false) (y_assign rfl) ?_
  refine c_nil ?_
  refine c_seq ?_
  refine c_seq ?_
  refine c_region ?_
  refine pl_val (.slice pa1 pn1 pc1) (y_move rfl) ?_
  refine pl_val (.int .i64 (aValues.length : Int)) (y_len' Sl22 (rs_len h1) rfl) ?_
  refine pl_val (.bool (decide (1048576 < (aValues.length : Int)))) (y_gtr rfl rfl) ?_
  refine c_nil ?_
  rcases bif_some hs with ⟨hc4, hs⟩ | ⟨hc4, hs⟩
  · skip
    refine c_condT (congrArg Value.bool hc4) ?_
    refine c_seq ?_
    refine c_region ?_
    refine pl_val (.bool true) (y_assign rfl) ?_
    refine c_nil ?_
    refine wp_ret ?_
    cases hs
    exact ⟨_, fr_ovl 56 ⟨rfl, trivial⟩, hC⟩
  · skip
    refine c_condF (congrArg Value.bool hc4) ?_
    refine wp_skip ?_
    refine c_seq ?_
    refine c_region ?_
    refine pl_val (.int .i64 1048576) (y_assign rfl) ?_
    refine c_nil ?_
    refine c_seq ?_
    refine c_region ?_
    refine pl_val (.agg #[(.int .i64 aNet.1), (.int .i64 aNet.2.1), (.slice pa0 pn0 pc0)]) (y_load rfl ((box_load Ag44 Sz44 hb3 [] [(.int .i64 aNet.1), (.int .i64 aNet.2.1), (.slice pa0 pn0 pc0)] [] rfl rfl (fun h => nomatch h)) _ (Chg.refl _ _))) ?_
    refine pl_val (.int .i64 1048576) (y_move rfl) ?_
    obtain ⟨r6, hr6, hs⟩ := bind_some hs
    refine pl_call Bd30 rfl (c_laws_szNetwork (M := M) (aNet.1, aNet.2.1, aNet.2.2) 1048576 h0 hO.fut hr6) ?_
    rintro _ w5 ⟨rfl, hC5⟩
    have h0 := h0.ext hC5
    have h1 := h1.ext hC5
    have hb3 := hb3.chg hC5 (fun h => nomatch h)
    have hC := hC.ext hC5
    have hO := hO.ext hC5
    refine pl_val (.int .i64 r6) (y_assign rfl) ?_
    refine c_nil ?_
    refine c_seq ?_
    refine c_seq ?_
    refine c_region ?_
    refine pl_val (.int .i64 r6) (y_move rfl) ?_
    refine pl_val (.bool (decide (r6 < 0))) (y_lss rfl rfl) ?_
    refine c_nil ?_
    rcases bif_some hs with ⟨hc7, hs⟩ | ⟨hc7, hs⟩
    · skip
      refine c_condT (congrArg Value.bool hc7) ?_
      refine c_seq ?_
      refine c_region ?_
      refine pl_val (.bool true) (y_assign rfl) ?_
      refine c_nil ?_
      refine wp_ret ?_
      cases hs
      exact ⟨_, fr_ovl 56 ⟨rfl, trivial⟩, hC⟩
    · skip
      refine c_condF (congrArg Value.bool hc7) ?_
      refine wp_skip ?_
      refine c_seq ?_
      refine c_region ?_
      refine pl_val (.agg #[(.int .i64 aNet.1), (.int .i64 aNet.2.1), (.slice pa0 pn0 pc0)]) (y_load rfl ((box_load Ag44 Sz44 hb3 [] [(.int .i64 aNet.1), (.int .i64 aNet.2.1), (.slice pa0 pn0 pc0)] [] rfl rfl (fun h => nomatch h)) _ (Chg.refl _ _))) ?_
      obtain ⟨r9, hr9, hs⟩ := bind_some hs
      refine pl_call Bd32 rfl (c_laws_toNetwork (M := M) (aNet.1, aNet.2.1, aNet.2.2) h0 hO.fut hr9) ?_
      rintro _ w8 ⟨a8x0, n8x0, c8x0, f8x0, rfl, hC8, hv8x0, hOc8⟩
      have h0 := h0.ext hC8
      have h1 := h1.ext hC8
      have hb3 := hb3.chg hC8 (fun h => nomatch h)
      have hC := hC.ext hC8
      have hO := Own.join0 hO hC8 hOc8
      have hO := hO.perm (R := f8x0 ++ (([g3]) ++ ([]))) (by simp)
      refine pl_val (.slice pa1 pn1 pc1) (y_move rfl) ?_
      obtain ⟨r12, hr12, hs⟩ := bind_some hs
      refine pl_call Bd16 rfl (c_laws_toIntS (M := M) aValues h1 hO.fut hr12) ?_
      rintro _ w11 ⟨a11x0, n11x0, c11x0, f11x0, rfl, hC11, hv11x0, hOc11⟩
      have h0 := h0.ext hC11
      have h1 := h1.ext hC11
      have hb3 := hb3.chg hC11 (fun h => nomatch h)
      have hv8x0 := hv8x0.ext hC11
      have hC := hC.ext hC11
      have hO := Own.join0 hO hC11 hOc11
      have hO := hO.perm (R := f11x0 ++ (f8x0 ++ (([g3]) ++ ([])))) (by simp)
      have hO := hO.fr1
      obtain ⟨r15, hr15, hs⟩ := bind_some hs
      refine pl_call Bd46 rfl (c_spec_FirstUnsatisfied (M := (Less (Less M f8x0) f11x0)) (r9.1, r9.2.1, r9.2.2) r12 ((((Frz.os (Frz.pr (Frz.os Frz.int) (Frz.pr Frz.int (Frz.os (Frz.os Frz.int)))))).val hv8x0 Less.sub Less.not).sub Less.sub) (((Frz.os Frz.int)).val (hv11x0.sub Less.sub) Less.sub Less.not) (hO.less).less.fut hr15) ?_
      rintro _ w14 ⟨rfl, hC14⟩
      have h0 := h0.ext hC14
      have h1 := h1.ext hC14
      have hb3 := hb3.chg hC14 (fun h => nomatch h)
      have hv8x0 := hv8x0.ext hC14
      have hv11x0 := hv11x0.ext hC14
      have hC := hC.ext hC14
      have hO := hO.ext hC14
      refine pl_val (.tuple #[(.int .i64 r15.1), (.bool r15.2)]) (y_move rfl) ?_
      refine pl_val (.int .i64 r15.1) (y_extract rfl (by kernel_rfl)) ?_
      refine pl_val (.bool r15.2) (y_extract rfl (by kernel_rfl)) ?_
      refine pl_val (.int .i64 r15.1) (y_assign rfl) ?_
      refine pl_val (.bool r15.2) (y_assign rfl) ?_
      refine c_nil ?_
      refine c_seq ?_
      refine c_region ?_
      refine pl_val (.agg #[(.int .i64 aNet.1), (.int .i64 aNet.2.1), (.slice pa0 pn0 pc0)]) (y_load rfl ((box_load Ag44 Sz44 hb3 [] [(.int .i64 aNet.1), (.int .i64 aNet.2.1), (.slice pa0 pn0 pc0)] [] rfl rfl (fun h => nomatch h)) _ (Chg.refl _ _))) ?_
      obtain ⟨r17, hr17, hs⟩ := bind_some hs
      refine pl_call Bd32 rfl (c_laws_toNetwork (M := M) (aNet.1, aNet.2.1, aNet.2.2) h0 hO.fut hr17) ?_
      rintro _ w16 ⟨a16x0, n16x0, c16x0, f16x0, rfl, hC16, hv16x0, hOc16⟩
      have h0 := h0.ext hC16
      have h1 := h1.ext hC16
      have hb3 := hb3.chg hC16 (fun h => nomatch h)
      have hv8x0 := hv8x0.ext hC16
      have hv11x0 := hv11x0.ext hC16
      have hC := hC.ext hC16
      have hO := Own.join0 hO hC16 hOc16
      have hO := hO.perm (R := f16x0 ++ (f8x0 ++ (f11x0 ++ (([g3]) ++ ([]))))) (by simp)
      obtain ⟨w19, g19, ew19, eg19, hC19, hb19⟩ := new_block w16 [(.int .i64 0), (.int .i64 0), (.slice none 0 0)] 49
      refine pl_val (w' := w19) (.pointer (some ⟨g19, 0, none⟩)) (y_alloc (by rw [ew19, eg19]; kernel_rfl)) ?_
      have h0 := h0.ext hC19
      have h1 := h1.ext hC19
      have hb3 := hb3.chg hC19 (fun h => nomatch h)
      have hv8x0 := hv8x0.ext hC19
      have hv11x0 := hv11x0.ext hC19
      have hv16x0 := hv16x0.ext hC19
      have hC := hC.ext hC19
      have hO := hO.new (X' := [g19]) hC19 (fun q hq => by rw [List.mem_singleton.1 hq, eg19]; exact Nat.le_refl _) (List.nodup_cons.2 ⟨(fun h => nomatch h), List.nodup_nil⟩) (fun q hq => by rw [List.mem_singleton.1 hq]; exact hb19.lt)
      obtain ⟨w20, hst20, hC20, hb20⟩ := box_store (P := Try.prog) hb19 [] [(.int .i64 0), (.int .i64 0), (.slice none 0 0)] [] [(.int .i64 r17.1), (.int .i64 r17.2.1), (.slice a16x0 n16x0 c16x0)] rfl rfl (by intro u hu; simp only [List.mem_cons, List.not_mem_nil, or_false] at hu; rcases hu with rfl | rfl | rfl <;> rfl)
      refine pl_skip (w' := w20) (ys_store rfl rfl (hst20 _ _ rfl Sz49)) ?_
      have h0 := h0.mut hC20 (fun g hg => hO.inM g ((fun _ h => h) g hg)) (fun _ _ h => nomatch h)
      have h1 := h1.mut hC20 (fun g hg => hO.inM g ((fun _ h => h) g hg)) (fun _ _ h => nomatch h)
      have hb3 := hb3.chg hC20 (fun hg => hO.apart _ ((fun _ h => h) _ hg) (mem_r (mem_r (mem_r (mem_l (List.mem_singleton.2 rfl))))))
      have hv8x0 := hv8x0.mut hC20 (fun g hg => hO.inM g ((fun _ h => h) g hg)) (fun g hg e => hO.apart g ((fun _ h => h) g hg) (mem_r (mem_l (e))))
      have hv11x0 := hv11x0.mut hC20 (fun g hg => hO.inM g ((fun _ h => h) g hg)) (fun g hg e => hO.apart g ((fun _ h => h) g hg) (mem_r (mem_r (mem_l (e)))))
      have hv16x0 := hv16x0.mut hC20 (fun g hg => hO.inM g ((fun _ h => h) g hg)) (fun g hg e => hO.apart g ((fun _ h => h) g hg) (mem_l (e)))
      have hC := hC.step hC20 (fun g hg => hO.inN g ((fun _ h => h) g hg))
      have hO := hO.ext hC20
      have hb20 : BoxV w20 g19 49 [(.int .i64 r17.1), (.int .i64 r17.2.1), (.slice a16x0 n16x0 c16x0)] := hb20
      refine c_nil ?_
      refine c_seq ?_
      refine c_region ?_
      refine pl_val (.slice pa1 pn1 pc1) (y_move rfl) ?_
      obtain ⟨r22, hr22, hs⟩ := bind_some hs
      refine pl_call Bd16 rfl (c_laws_toIntS (M := M) aValues h1 hO.fut hr22) ?_
      rintro _ w21 ⟨a21x0, n21x0, c21x0, f21x0, rfl, hC21, hv21x0, hOc21⟩
      have h0 := h0.ext hC21
      have h1 := h1.ext hC21
      have hb3 := hb3.chg hC21 (fun h => nomatch h)
      have hv8x0 := hv8x0.ext hC21
      have hv11x0 := hv11x0.ext hC21
      have hv16x0 := hv16x0.ext hC21
      have hb20 := hb20.chg hC21 (fun h => nomatch h)
      have hC := hC.ext hC21
      have hO := Own.join0 hO hC21 hOc21
      have hO := hO.perm (R := f21x0 ++ (([g19]) ++ (f16x0 ++ (f8x0 ++ (f11x0 ++ (([g3]) ++ ([]))))))) (by simp)
      refine pl_val (.slice a21x0 n21x0 c21x0) (y_assign rfl) ?_
      refine c_nil ?_
      refine c_seq ?_
      refine c_region ?_
      refine pl_val (.agg #[(.int .i64 r17.1), (.int .i64 r17.2.1), (.slice a16x0 n16x0 c16x0)]) (y_load rfl ((box_load Ag49 Sz49 hb20 [] [(.int .i64 r17.1), (.int .i64 r17.2.1), (.slice a16x0 n16x0 c16x0)] [] rfl rfl (fun h => nomatch h)) _ (Chg.refl _ _))) ?_
      refine pl_val (.slice a21x0 n21x0 c21x0) (y_move rfl) ?_
      have hO := hO.fr2
      obtain ⟨r25, hr25, hs⟩ := bind_some hs
      refine pl_call Bd47 rfl (c_impl_FirstUnsatisfied (M := (Less (Less M f16x0) f21x0)) (r17.1, r17.2.1, r17.2.2) r22 ((((Frz.os (Frz.pr (Frz.os Frz.int) (Frz.pr Frz.int (Frz.os (Frz.os Frz.int)))))).val hv16x0 Less.sub Less.not).sub Less.sub) (((Frz.os Frz.int)).val (hv21x0.sub Less.sub) Less.sub Less.not) (hO.less).less.fut hr25) ?_
      rintro _ w24 ⟨rfl, hC24⟩
      have h0 := h0.ext hC24
      have h1 := h1.ext hC24
      have hb3 := hb3.chg hC24 (fun h => nomatch h)
      have hv8x0 := hv8x0.ext hC24
      have hv11x0 := hv11x0.ext hC24
      have hv16x0 := hv16x0.ext hC24
      have hb20 := hb20.chg hC24 (fun h => nomatch h)
      have hv21x0 := hv21x0.ext hC24
      have hC := hC.ext hC24
      have hO := hO.ext hC24
      refine pl_val (.tuple #[(.int .i64 r25.1), (.bool r25.2)]) (y_move rfl) ?_
      refine pl_val (.int .i64 r25.1) (y_extract rfl (by kernel_rfl)) ?_
      refine pl_val (.bool r25.2) (y_extract rfl (by kernel_rfl)) ?_
      refine pl_val (.int .i64 r25.1) (y_assign rfl) ?_
      refine pl_val (.bool r25.2) (y_assign rfl) ?_
      refine c_nil ?_
      refine c_seq ?_
      refine c_seq ?_
      refine c_mid (I := fun a w27 => ∃ (σ : Nat → Value), a = fr 56 (ovl σ [(1, (.slice pa1 pn1 pc1)), (2, (.pointer (some ⟨g3, 0, none⟩))), (4, (.bool false)), (8, (.pointer (some ⟨g19, 0, none⟩))), (9, (.slice a21x0 n21x0 c21x0)), (45, (.bool ((r25.1 != r15.1) || (!(r25.2 == r15.2)))))]) ∧ Chg [] w24 w27) ?_ ?_
      · have hMid := Chg.refl [] w24
        refine c_region ?_
        refine pl_val (.int .i64 r25.1) (y_move rfl) ?_
        refine pl_val (.int .i64 r15.1) (y_move rfl) ?_
        refine pl_val (.bool (r25.1 != r15.1)) (y_neq rfl rfl) ?_
        refine pl_val (.bool (r25.1 != r15.1)) (y_move rfl) ?_
        rcases Bool.eq_false_or_eq_true ((r25.1 != r15.1)) with hc29 | hc29
        · skip
          refine pl_not (tg := 41) (by kernel_rfl) (congrArg Value.bool hc29) ?_
          refine pl_not (tg := 41) (by kernel_rfl) (congrArg Value.bool hc29) ?_
          refine pl_not (tg := 41) (by kernel_rfl) (congrArg Value.bool hc29) ?_
          refine pl_val (.bool ((r25.1 != r15.1) || (!(r25.2 == r15.2)))) (y_pick_t (congrArg Value.bool hc29) (congrArg Value.bool (by rw [hc29]; rfl))) ?_
          refine c_nil ?_
          exact ⟨_, fr_ovl 56 ⟨rfl, rfl, rfl, rfl, rfl, rfl, trivial⟩, hMid⟩
        · skip
          refine pl_yes (.bool r25.2) (tg := 41) (by kernel_rfl) (congrArg Value.bool hc29) (y_move rfl) ?_
          refine pl_yes (.bool r15.2) (tg := 41) (by kernel_rfl) (congrArg Value.bool hc29) (y_move rfl) ?_
          refine pl_yes (.bool (!(r25.2 == r15.2))) (tg := 41) (by kernel_rfl) (congrArg Value.bool hc29) (y_bneq Try.underlying4 rfl rfl) ?_
          refine pl_val (.bool ((r25.1 != r15.1) || (!(r25.2 == r15.2)))) (y_pick_f (congrArg Value.bool hc29) (congrArg Value.bool (by rw [hc29]; rfl))) ?_
          refine c_nil ?_
          exact ⟨_, fr_ovl 56 ⟨rfl, rfl, rfl, rfl, rfl, rfl, trivial⟩, hMid⟩
      · rintro a1 w27 ⟨σ, rfl, hCs26⟩
        have h0 := h0.ext hCs26
        have h1 := h1.ext hCs26
        have hb3 := hb3.chg hCs26 (fun h => nomatch h)
        have hv8x0 := hv8x0.ext hCs26
        have hv11x0 := hv11x0.ext hCs26
        have hv16x0 := hv16x0.ext hCs26
        have hb20 := hb20.chg hCs26 (fun h => nomatch h)
        have hv21x0 := hv21x0.ext hCs26
        have hC := hC.ext hCs26
        have hO := hO.ext hCs26
        rcases bif_some hs with ⟨hc30, hs⟩ | ⟨hc30, hs⟩
        · skip
          refine c_condT (congrArg Value.bool hc30) ?_
          refine c_seq ?_
          refine c_region ?_
          refine pl_val (.bool false) (y_assign rfl) ?_
          refine c_nil ?_
          refine wp_ret ?_
          cases hs
          exact ⟨_, fr_ovl 56 ⟨rfl, trivial⟩, hC⟩
        · skip
          refine c_condF (congrArg Value.bool hc30) ?_
          refine wp_skip ?_
          refine c_seq ?_
          refine c_seq ?_
          refine x_start [] Mx rfl ?_
          have hCw37 := Chg.drew w27
          generalize World.drew w27 = w37 at hCw37 ⊢
          have h0 := h0.ext hCw37
          have h1 := h1.ext hCw37
          have hb3 := hb3.chg hCw37 (fun h => nomatch h)
          have hv8x0 := hv8x0.ext hCw37
          have hv11x0 := hv11x0.ext hCw37
          have hv16x0 := hv16x0.ext hCw37
          have hb20 := hb20.chg hCw37 (fun h => nomatch h)
          have hv21x0 := hv21x0.ext hCw37
          have hC := hC.ext hCw37
          have hO := hO.ext hCw37
          have hS := Chg.refl [] w37
          refine x_l 0 (.agg #[(.int .i64 r17.1), (.int .i64 r17.2.1), (.slice a16x0 n16x0 c16x0)]) rfl (by kernel_rfl)  (fun w' hw' => y_load rfl ((box_load Ag49 Sz49 hb20 [] [(.int .i64 r17.1), (.int .i64 r17.2.1), (.slice a16x0 n16x0 c16x0)] [] rfl rfl (fun h => nomatch h)) w' hw')) hS ?_
          refine x_l 1 (.agg #[(.int .i64 aNet.1), (.int .i64 aNet.2.1), (.slice pa0 pn0 pc0)]) rfl (by kernel_rfl)  (fun w' hw' => y_load rfl ((box_load Ag44 Sz44 hb3 [] [(.int .i64 aNet.1), (.int .i64 aNet.2.1), (.slice pa0 pn0 pc0)] [] rfl rfl (fun h => nomatch h)) w' hw')) hS ?_
          refine x_one (i := 2) (by kernel_rfl) ?_
          obtain ⟨r39, hr39, hs⟩ := bind_some hs
          refine xk_call (b := false) rfl  Bd32 rfl (c_laws_toNetwork (M := M) (aNet.1, aNet.2.1, aNet.2.2) h0 hO.fut hr39) rfl (by rintro _ _ _ ⟨a38x0, n38x0, c38x0, f38x0, rfl, hC38, hv38x0, hOc38⟩; exact hS.ext hC38) ?_
          rintro _ w38 ⟨a38x0, n38x0, c38x0, f38x0, rfl, hC38, hv38x0, hOc38⟩
          have h0 := h0.ext hC38
          have h1 := h1.ext hC38
          have hb3 := hb3.chg hC38 (fun h => nomatch h)
          have hv8x0 := hv8x0.ext hC38
          have hv11x0 := hv11x0.ext hC38
          have hv16x0 := hv16x0.ext hC38
          have hb20 := hb20.chg hC38 (fun h => nomatch h)
          have hv21x0 := hv21x0.ext hC38
          have hC := hC.ext hC38
          have hO := Own.join0 hO hC38 hOc38
          have hO := hO.perm (R := f38x0 ++ (f16x0 ++ (f21x0 ++ (([g19]) ++ (f8x0 ++ (f11x0 ++ (([g3]) ++ ([])))))))) (by simp)
          have hS := hS.ext hC38
          refine x_one (i := 3) (by kernel_rfl) ?_
          have hO := hO.fr1
          obtain ⟨r42, hr42, hs⟩ := bind_some hs
          refine xk_call (b := false) rfl  Bd34 rfl (c_laws_eqNetwork (M := (Less (Less M f16x0) f38x0)) (r17.1, r17.2.1, r17.2.2) (r39.1, r39.2.1, r39.2.2) ((((Frz.os (Frz.pr (Frz.os Frz.int) (Frz.pr Frz.int (Frz.os (Frz.os Frz.int)))))).val hv16x0 Less.sub Less.not).sub Less.sub) (((Frz.os (Frz.pr (Frz.os Frz.int) (Frz.pr Frz.int (Frz.os (Frz.os Frz.int)))))).val (hv38x0.sub Less.sub) Less.sub Less.not) (hO.less).less.fut hr42) rfl (by rintro _ _ _ ⟨rfl, hC41⟩; exact hS.ext hC41) ?_
          rintro _ w41 ⟨rfl, hC41⟩
          have h0 := h0.ext hC41
          have h1 := h1.ext hC41
          have hb3 := hb3.chg hC41 (fun h => nomatch h)
          have hv8x0 := hv8x0.ext hC41
          have hv11x0 := hv11x0.ext hC41
          have hv16x0 := hv16x0.ext hC41
          have hb20 := hb20.chg hC41 (fun h => nomatch h)
          have hv21x0 := hv21x0.ext hC41
          have hv38x0 := hv38x0.ext hC41
          have hC := hC.ext hC41
          have hO := hO.ext hC41
          have hS := hS.ext hC41
          refine x_p 4 (.bool (!r42)) rfl (by kernel_rfl)  (fun _ => y_not rfl) (fun _ => hS) ?_
          refine x_end (by kernel_rfl) ?_
          clear hS
          rcases bif_some hs with ⟨hc43, hs⟩ | ⟨hc43, hs⟩
          · skip
            refine c_condT (congrArg Value.bool hc43) ?_
            refine c_seq ?_
            refine c_region ?_
            refine pl_val (.bool false) (y_assign rfl) ?_
            refine c_nil ?_
            refine wp_ret ?_
            cases hs
            exact ⟨_, fr_ovl 56 ⟨rfl, trivial⟩, hC⟩
          · skip
            refine c_condF (congrArg Value.bool hc43) ?_
            refine wp_skip ?_
            refine c_seq ?_
            refine c_seq ?_
            refine c_region ?_
            refine pl_val (.slice a21x0 n21x0 c21x0) (y_move rfl) ?_
            refine pl_val (.slice pa1 pn1 pc1) (y_move rfl) ?_
            obtain ⟨r45, hr45, hs⟩ := bind_some hs
            refine pl_call Bd16 rfl (c_laws_toIntS (M := M) aValues h1 hO.fut hr45) ?_
            rintro _ w44 ⟨a44x0, n44x0, c44x0, f44x0, rfl, hC44, hv44x0, hOc44⟩
            have h0 := h0.ext hC44
            have h1 := h1.ext hC44
            have hb3 := hb3.chg hC44 (fun h => nomatch h)
            have hv8x0 := hv8x0.ext hC44
            have hv11x0 := hv11x0.ext hC44
            have hv16x0 := hv16x0.ext hC44
            have hb20 := hb20.chg hC44 (fun h => nomatch h)
            have hv21x0 := hv21x0.ext hC44
            have hv38x0 := hv38x0.ext hC44
            have hC := hC.ext hC44
            have hO := Own.join0 hO hC44 hOc44
            have hO := hO.perm (R := f44x0 ++ (f16x0 ++ (f38x0 ++ (f21x0 ++ (([g19]) ++ (f8x0 ++ (f11x0 ++ (([g3]) ++ ([]))))))))) (by simp)
            have hO := hO.fr3
            obtain ⟨r48, hr48, hs⟩ := bind_some hs
            refine pl_call Bd18 rfl (c_laws_eqIntS (M := (Less (Less M f21x0) f44x0)) r22 r45 ((((Frz.os Frz.int)).val hv21x0 Less.sub Less.not).sub Less.sub) (((Frz.os Frz.int)).val (hv44x0.sub Less.sub) Less.sub Less.not) (hO.less).less.fut hr48) ?_
            rintro _ w47 ⟨rfl, hC47⟩
            have h0 := h0.ext hC47
            have h1 := h1.ext hC47
            have hb3 := hb3.chg hC47 (fun h => nomatch h)
            have hv8x0 := hv8x0.ext hC47
            have hv11x0 := hv11x0.ext hC47
            have hv16x0 := hv16x0.ext hC47
            have hb20 := hb20.chg hC47 (fun h => nomatch h)
            have hv21x0 := hv21x0.ext hC47
            have hv38x0 := hv38x0.ext hC47
            have hv44x0 := hv44x0.ext hC47
            have hC := hC.ext hC47
            have hO := hO.ext hC47
            refine pl_val (.bool (!r48)) (y_not rfl) ?_
            refine c_nil ?_
            rcases bif_some hs with ⟨hc49, hs⟩ | ⟨hc49, hs⟩
            · skip
              refine c_condT (congrArg Value.bool hc49) ?_
              refine c_seq ?_
              refine c_region ?_
              refine pl_val (.bool false) (y_assign rfl) ?_
              refine c_nil ?_
              refine wp_ret ?_
              cases hs
              exact ⟨_, fr_ovl 56 ⟨rfl, trivial⟩, hC⟩
            · skip
              refine c_condF (congrArg Value.bool hc49) ?_
              refine wp_skip ?_
              refine c_seq ?_
              refine c_region ?_
              refine pl_val (.bool true) (y_assign rfl) ?_
              refine c_nil ?_
              refine wp_ret ?_
              cases hs
              exact ⟨_, fr_ovl 56 ⟨rfl, trivial⟩, hC⟩

end Go.Proofs
