/- What functions of the program compute, as plain functions, and that a call gives just that. Conditions: those named in each theorem. -/
import Derived.Test.YtchgbcjecdnclaaF3
set_option linter.unusedVariables false
namespace Go.Proofs
open Go.G Go.RowKit
set_option maxRecDepth 100000

def k_laws_FnExactComplementsOf (M : Nat → Prop) (w0 : World) (r : Bool) (a : Act) (w : World) : Prop :=
  ∃ (σ : Nat → Value) , a = fr 117 (ovl σ [(4, (.bool r))]) ∧ Chg [] w0 w
def s_laws_FnExactComplementsOf (aA : Int × (List (Int × (List Int)))) (aP : List Int) : Option (Bool) :=
  (bif (decide (1048576 < (aP.length : Int))) then some true else (s_laws_szAlgebra (aA.1, aA.2) 1048576).bind fun r6 =>
  (bif (decide (r6 < 0)) then some true else (s_laws_toAlgebra (aA.1, aA.2)).bind fun r9 =>
  (s_laws_toIntS aP).bind fun r12 =>
  (s_spec_ComplementsOf (r9.1, r9.2) r12).bind fun r17 =>
  (s_laws_toAlgebra (aA.1, aA.2)).bind fun r20 =>
  (s_laws_toIntS aP).bind fun r25 =>
  (s_impl_ComplementsOf (r20.1, r20.2) r25).bind fun r28 =>
  ((s_laws_eqIntSS r28.1 r17.1).bind fun r34 =>
  (bif (!r34) then some true else some (!(r28.2 == r17.2)))).bind fun s30 =>
  (bif s30 then some false else (s_laws_toAlgebra (aA.1, aA.2)).bind fun r45 =>
  (s_laws_eqAlgebra (r20.1, r20.2) (r45.1, r45.2)).bind fun r48 =>
  (bif (!r48) then some false else (s_laws_toIntS aP).bind fun r51 =>
  (s_laws_eqIntS r25 r51).bind fun r54 =>
  (bif (!r54) then some false else (s_laws_markAlgebra (r20.1, r20.2) 1).bind fun r57 =>
  (s_laws_markIntS r25 r57.1).bind fun r59 =>
  ((bif (decide (r59.1 < 0)) then some true else (s_laws_eqIntSS r28.1 r17.1).bind fun r66 =>
  (bif (!r66) then some true else some (!(r28.2 == r17.2))))).bind fun s60 =>
  (bif s60 then some false else (s_laws_markIntSS r28.1 1).bind fun r70 =>
  (s_laws_heldIntSS r70.2 1).bind fun r72 =>
  (bif (decide (r72 < 0)) then some false else (bif (r72 != r70.1) then some false else (s_laws_toAlgebra (aA.1, aA.2)).bind fun r76 =>
  (s_laws_toIntS aP).bind fun r79 =>
  (s_impl_ComplementsOf (r76.1, r76.2) r79).bind fun r82 =>
  ((s_laws_eqIntSS r82.1 r17.1).bind fun r88 =>
  (bif (!r88) then some true else some (!(r82.2 == r17.2)))).bind fun s84 =>
  (bif s84 then some false else (s_laws_heldIntSS r70.2 1).bind fun r92 =>
  (bif (decide (r92 < 0)) then some false else (bif (r92 != r70.1) then some false else some true)))))))))))
set_option maxHeartbeats 4000000 in
theorem c_laws_FnExactComplementsOf {M : Nat → Prop} {w : World} {pa0 : Option Addr} {pn0 pc0 : Nat} {pa1 : Option Addr} {pn1 pc1 : Nat} (aA : Int × (List (Int × (List Int)))) (aP : List Int) (h0 : (RT.rs (RT.pr (RT.int .i64) (RT.rs (RT.int .i64)))).val M w (.slice pa0 pn0 pc0) aA.2 ([])) (h1 : (RT.rs (RT.int .i64)).val M w (.slice pa1 pn1 pc1) aP ([])) (hM : ∀ g, w.heap.size ≤ g → M g) {r : Bool} (hs : s_laws_FnExactComplementsOf aA aP = some r) :
    Gives Try.prog 8 [(.agg #[(.int .i64 aA.1), (.slice pa0 pn0 pc0)]), (.slice pa1 pn1 pc1)] w (fun v w' => v = (.bool r) ∧ Chg [] w w') := by
 refine calls_fr Try.func8 rfl Try.ntmps8 (Nat.le_of_ble_eq_true rfl) ?_
 have hO := Own.start (N := Nw w []) hM Nw.fut
 have hC := Chg.refl [] w
 unfold s_laws_FnExactComplementsOf at hs
 refine wp_mono (Q := KPost (k_laws_FnExactComplementsOf M w r)) ?_ (fun e a w1 h => ?_)
 rotate_left
 ·cases e
  case ret =>
   obtain ⟨σ, rfl, hrest⟩ := h
   exact ret1x Try.results8 (res_tmp rfl) ⟨rfl, hrest⟩
  all_goals exact (h : False).elim
 refine c_seq (c_region ?_)
 obtain ⟨w3, g3, ew3, eg3, hC3, hb3⟩ := new_block w [(.int .i64 aA.1), (.slice pa0 pn0 pc0)] 30
 refine pl_val (w' := w3) (.pointer (some ⟨g3, 0, none⟩)) (y_box rfl (by rw [ew3, eg3]; kernel_rfl)) ?_
 have h0 := h0.ext hC3
 have h1 := h1.ext hC3
 have hC := hC.ext hC3
 have hO := hO.new1 hC3 eg3 hb3.lt
 refine pl_val (.bool false) (y_assign rfl) ?_
 refine c_nil ?_
 refine c_seq ?_
 refine c_seq (c_region ?_)
 refine pl_val (.slice pa1 pn1 pc1) (y_move rfl) ?_
 refine pl_val (.int .i64 (aP.length : Int)) (y_len' Sl22 (rs_len h1) rfl) ?_
 refine pl_val (.bool (decide (1048576 < (aP.length : Int)))) (y_gtr rfl rfl) ?_
 refine c_nil ?_
 rcases bif_some hs with ⟨hc4, hs⟩ | ⟨hc4, hs⟩
 ·skip
  refine c_condT (congrArg Value.bool hc4) ?_
  refine c_seq (c_region ?_)
  refine pl_val (.bool true) (y_assign rfl) ?_
  refine c_nil ?_
  refine wp_ret ?_
  cases hs
  exact ⟨_, fr_ovl 117 ⟨rfl, trivial⟩, hC⟩
 ·skip
  refine c_condF (congrArg Value.bool hc4) ?_
  refine wp_skip ?_
  refine c_seq (c_region ?_)
  refine pl_val (.int .i64 1048576) (y_assign rfl) ?_
  refine c_nil ?_
  refine c_seq (c_region ?_)
  refine pl_val (.agg #[(.int .i64 aA.1), (.slice pa0 pn0 pc0)]) (y_load rfl ((box_load Ag30 Sz30 hb3 [] [(.int .i64 aA.1), (.slice pa0 pn0 pc0)] [] rfl rfl (fun h => nomatch h)) _ (Chg.refl _ _))) ?_
  refine pl_val (.int .i64 1048576) (y_move rfl) ?_
  obtain ⟨r6, hr6, hs⟩ := bind_some hs
  refine pl_call Bd17 rfl (c_laws_szAlgebra (M := M) (aA.1, aA.2) 1048576 h0 hO.fut hr6) ?_
  rintro _ w5 ⟨rfl, hC5⟩
  have h0 := h0.ext hC5
  have h1 := h1.ext hC5
  have hb3 := hb3.chg hC5 (fun h => nomatch h)
  have hC := hC.ext hC5
  have hO := hO.ext hC5
  refine pl_val (.int .i64 r6) (y_assign rfl) ?_
  refine c_nil ?_
  refine c_seq ?_
  refine c_seq (c_region ?_)
  refine pl_val (.int .i64 r6) (y_move rfl) ?_
  refine pl_val (.bool (decide (r6 < 0))) (y_lss rfl rfl) ?_
  refine c_nil ?_
  rcases bif_some hs with ⟨hc7, hs⟩ | ⟨hc7, hs⟩
  ·skip
   refine c_condT (congrArg Value.bool hc7) ?_
   refine c_seq (c_region ?_)
   refine pl_val (.bool true) (y_assign rfl) ?_
   refine c_nil ?_
   refine wp_ret ?_
   cases hs
   exact ⟨_, fr_ovl 117 ⟨rfl, trivial⟩, hC⟩
  ·skip
   refine c_condF (congrArg Value.bool hc7) ?_
   refine wp_skip ?_
   refine c_seq (c_region ?_)
   refine pl_val (.agg #[(.int .i64 aA.1), (.slice pa0 pn0 pc0)]) (y_load rfl ((box_load Ag30 Sz30 hb3 [] [(.int .i64 aA.1), (.slice pa0 pn0 pc0)] [] rfl rfl (fun h => nomatch h)) _ (Chg.refl _ _))) ?_
   obtain ⟨r9, hr9, hs⟩ := bind_some hs
   refine pl_call Bd19 rfl (c_laws_toAlgebra (M := M) (aA.1, aA.2) h0 hO.fut hr9) ?_
   rintro _ w8 ⟨a8x0, n8x0, c8x0, f8x0, rfl, hC8, hv8x0, hOc8⟩
   have h0 := h0.ext hC8
   have h1 := h1.ext hC8
   have hb3 := hb3.chg hC8 (fun h => nomatch h)
   have hC := hC.ext hC8
   have hO := Own.join0 hO hC8 hOc8
   have hO := hO.perm (R := f8x0 ++ (([g3]) ++ ([]))) (by simp)
   refine pl_val (.slice pa1 pn1 pc1) (y_move rfl) ?_
   obtain ⟨r12, hr12, hs⟩ := bind_some hs
   refine pl_call Bd14 rfl (c_laws_toIntS (M := M) aP h1 hO.fut hr12) ?_
   rintro _ w11 ⟨a11x0, n11x0, c11x0, f11x0, rfl, hC11, hv11x0, hOc11⟩
   have h0 := h0.ext hC11
   have h1 := h1.ext hC11
   have hb3 := hb3.chg hC11 (fun h => nomatch h)
   have hv8x0 := hv8x0.ext hC11
   have hC := hC.ext hC11
   have hO := Own.join0 hO hC11 hOc11
   have hO := hO.perm (R := f11x0 ++ (f8x0 ++ (([g3]) ++ ([])))) (by simp)
   have hO := hO.fr1
   obtain ⟨M15, eM15, hs15, hk15, hO, hv15⟩ := frz_own (Frz.os (Frz.pr Frz.int (Frz.os Frz.int))) hv8x0 hO
   have h0 := h0.sub (M' := M15) hs15
   have h1 := h1.sub (M' := M15) hs15
   have hv11x0 := hv11x0.sub (M' := M15) hs15
   have hK := hk15
   obtain ⟨M16, eM16, hs16, hk16, hO, hv16⟩ := frz_own (Frz.os Frz.int) hv11x0 hO
   have h0 := h0.sub (M' := M16) hs16
   have h1 := h1.sub (M' := M16) hs16
   have hv15 := hv15.sub (M' := M16) hs16
   have hK := hK.trans hk16
   obtain ⟨r17, hr17, hs⟩ := bind_some hs
   refine pl_call Bd28 rfl (c_spec_ComplementsOf (M := M16) (r9.1, r9.2) r12 hv15 hv16 hO.fut hr17) ?_
   rintro _ w14 ⟨a14x0, n14x0, c14x0, rfl, hC14, hv14x0⟩
   have hK := hK.trans (show Keeps w M16 (Past M16 w11 w14) from Keeps.past hC.size)
   have h0 := h0.ext hC14
   have h1 := h1.ext hC14
   have hb3 := hb3.chg hC14 (fun h => nomatch h)
   have hv15 := hv15.ext hC14
   have hv16 := hv16.ext hC14
   have hC := hC.ext hC14
   have hO := hO.past hC14
   have h0 := h0.sub (M' := (Past M16 w11 w14)) (fun g hg => .inl hg.1)
   have h1 := h1.sub (M' := (Past M16 w11 w14)) (fun g hg => .inl hg.1)
   have hv15 := hv15.sub (M' := (Past M16 w11 w14)) (fun g hg => .inl hg.1)
   have hv16 := hv16.sub (M' := (Past M16 w11 w14)) (fun g hg => .inl hg.1)
   refine pl_val (.tuple #[(.slice a14x0 n14x0 c14x0), (.bool r17.2)]) (y_move rfl) ?_
   refine pl_val (.slice a14x0 n14x0 c14x0) (y_extract rfl (by kernel_rfl)) ?_
   refine pl_val (.bool r17.2) (y_extract rfl (by kernel_rfl)) ?_
   refine pl_val (.slice a14x0 n14x0 c14x0) (y_assign rfl) ?_
   refine pl_val (.bool r17.2) (y_assign rfl) ?_
   refine c_nil ?_
   refine c_seq (c_region ?_)
   refine pl_val (.agg #[(.int .i64 aA.1), (.slice pa0 pn0 pc0)]) (y_load rfl ((box_load Ag30 Sz30 hb3 [] [(.int .i64 aA.1), (.slice pa0 pn0 pc0)] [] rfl rfl (fun h => nomatch h)) _ (Chg.refl _ _))) ?_
   obtain ⟨r20, hr20, hs⟩ := bind_some hs
   refine pl_call Bd19 rfl (c_laws_toAlgebra (M := (Past M16 w11 w14)) (aA.1, aA.2) h0 hO.fut hr20) ?_
   rintro _ w19 ⟨a19x0, n19x0, c19x0, f19x0, rfl, hC19, hv19x0, hOc19⟩
   have h0 := h0.ext hC19
   have h1 := h1.ext hC19
   have hb3 := hb3.chg hC19 (fun h => nomatch h)
   have hv14x0 := hv14x0.ext hC19
   have hC := hC.ext hC19
   have hO := Own.join0 hO hC19 hOc19
   have hO := hO.perm (R := f19x0 ++ (([g3]) ++ ([]))) (by simp)
   obtain ⟨w22, g22, ew22, eg22, hC22, hb22⟩ := new_block w19 [(.int .i64 0), (.slice none 0 0)] 35
   refine pl_val (w' := w22) (.pointer (some ⟨g22, 0, none⟩)) (y_alloc (by rw [ew22, eg22]; kernel_rfl)) ?_
   have h0 := h0.ext hC22
   have h1 := h1.ext hC22
   have hb3 := hb3.chg hC22 (fun h => nomatch h)
   have hv14x0 := hv14x0.ext hC22
   have hv19x0 := hv19x0.ext hC22
   have hC := hC.ext hC22
   have hO := hO.new1 hC22 eg22 hb22.lt
   obtain ⟨w23, hst23, hC23, hb23⟩ := box_store (P := Try.prog) hb22 [] [(.int .i64 0), (.slice none 0 0)] [] [(.int .i64 r20.1), (.slice a19x0 n19x0 c19x0)] rfl rfl (by intro u hu; simp only [List.mem_cons, List.not_mem_nil, or_false] at hu; rcases hu with rfl | rfl <;> rfl)
   refine pl_skip (w' := w23) (ys_store rfl rfl (hst23 _ _ rfl Sz35)) ?_
   have h0 := h0.mut hC23 (fun g hg => hO.inM g ((fun _ h => h) g hg)) (fun _ _ h => nomatch h)
   have h1 := h1.mut hC23 (fun g hg => hO.inM g ((fun _ h => h) g hg)) (fun _ _ h => nomatch h)
   have hb3 := hb3.chg hC23 (fun hg => hO.apart _ ((fun _ h => h) _ hg) (mem_r (mem_l (List.mem_singleton.2 rfl))))
   have hv14x0 := hv14x0.mut hC23 (fun g hg => hO.inM g ((fun _ h => h) g hg)) (fun _ _ h => nomatch h)
   have hv19x0 := hv19x0.mut hC23 (fun g hg => hO.inM g ((fun _ h => h) g hg)) (fun g hg e => hO.apart g ((fun _ h => h) g hg) (mem_l (e)))
   have hC := hC.step hC23 (fun g hg => hO.inN g ((fun _ h => h) g hg))
   have hO := hO.ext hC23
   have hb23 : BoxV w23 g22 35 [(.int .i64 r20.1), (.slice a19x0 n19x0 c19x0)] := hb23
   refine c_nil ?_
   refine c_seq (c_region ?_)
   refine pl_val (.slice pa1 pn1 pc1) (y_move rfl) ?_
   obtain ⟨r25, hr25, hs⟩ := bind_some hs
   refine pl_call Bd14 rfl (c_laws_toIntS (M := (Past M16 w11 w14)) aP h1 hO.fut hr25) ?_
   rintro _ w24 ⟨a24x0, n24x0, c24x0, f24x0, rfl, hC24, hv24x0, hOc24⟩
   have h0 := h0.ext hC24
   have h1 := h1.ext hC24
   have hb3 := hb3.chg hC24 (fun h => nomatch h)
   have hv14x0 := hv14x0.ext hC24
   have hv19x0 := hv19x0.ext hC24
   have hb23 := hb23.chg hC24 (fun h => nomatch h)
   have hC := hC.ext hC24
   have hO := Own.join0 hO hC24 hOc24
   have hO := hO.perm (R := f24x0 ++ (([g22]) ++ (f19x0 ++ (([g3]) ++ ([]))))) (by simp)
   refine pl_val (.slice a24x0 n24x0 c24x0) (y_assign rfl) ?_
   refine c_nil ?_
   refine c_seq (c_region ?_)
   refine pl_val (.agg #[(.int .i64 r20.1), (.slice a19x0 n19x0 c19x0)]) (y_load rfl ((box_load Ag35 Sz35 hb23 [] [(.int .i64 r20.1), (.slice a19x0 n19x0 c19x0)] [] rfl rfl (fun h => nomatch h)) _ (Chg.refl _ _))) ?_
   refine pl_val (.slice a24x0 n24x0 c24x0) (y_move rfl) ?_
   have hO := hO.fr2
   obtain ⟨r28, hr28, hs⟩ := bind_some hs
   refine pl_call Bd29 rfl (c_impl_ComplementsOf (M := (Less (Less (Past M16 w11 w14) f19x0) f24x0)) (r20.1, r20.2) r25 ((((Frz.os (Frz.pr Frz.int (Frz.os Frz.int)))).val hv19x0 Less.sub Less.not).sub Less.sub) (((Frz.os Frz.int)).val (hv24x0.sub Less.sub) Less.sub Less.not) (hO.less).less.fut hr28) ?_
   rintro _ w27 ⟨a27x0, n27x0, c27x0, f27x0, rfl, hC27, hv27x0, hOc27⟩
   have h0 := h0.ext hC27
   have h1 := h1.ext hC27
   have hb3 := hb3.chg hC27 (fun h => nomatch h)
   have hv14x0 := hv14x0.ext hC27
   have hv19x0 := hv19x0.ext hC27
   have hb23 := hb23.chg hC27 (fun h => nomatch h)
   have hv24x0 := hv24x0.ext hC27
   have hC := hC.ext hC27
   have hO := Own.join0 hO hC27 hOc27
   have hO := hO.perm (R := f27x0 ++ (f19x0 ++ (f24x0 ++ (([g22]) ++ (([g3]) ++ ([])))))) (by simp)
   have hv27x0 := hv27x0.free (M' := (Past M16 w11 w14)) (Free.os (Free.os Free.int))
   refine pl_val (.tuple #[(.slice a27x0 n27x0 c27x0), (.bool r28.2)]) (y_move rfl) ?_
   refine pl_val (.slice a27x0 n27x0 c27x0) (y_extract rfl (by kernel_rfl)) ?_
   refine pl_val (.bool r28.2) (y_extract rfl (by kernel_rfl)) ?_
   refine pl_val (.slice a27x0 n27x0 c27x0) (y_assign rfl) ?_
   refine pl_val (.bool r28.2) (y_assign rfl) ?_
   refine c_nil ?_
   refine c_seq ?_
   refine c_seq ?_
   obtain ⟨s30, hm32, hs⟩ := bind_some hs
   refine c_mid (I := fun a w31 => ∃ (σ : Nat → Value), a = fr 117 (ovl σ [(1, (.slice pa1 pn1 pc1)), (2, (.pointer (some ⟨g3, 0, none⟩))), (4, (.bool false)), (6, (.slice a14x0 n14x0 c14x0)), (7, (.bool r17.2)), (8, (.pointer (some ⟨g22, 0, none⟩))), (9, (.slice a24x0 n24x0 c24x0)), (10, (.slice a27x0 n27x0 c27x0)), (11, (.bool r28.2)), (51, (.bool s30))]) ∧ Chg [] w27 w31) ?_ ?_
   ·replace hs := hm32
    have hMid := Chg.refl [] w27
    refine c_region ?_
    refine pl_val (.slice a27x0 n27x0 c27x0) (y_move rfl) ?_
    refine pl_val (.slice a14x0 n14x0 c14x0) (y_move rfl) ?_
    obtain ⟨r34, hr34, hs⟩ := bind_some hs
    refine pl_call Bd30 rfl (c_laws_eqIntSS (M := (Less (Past M16 w11 w14) f27x0)) r28.1 r17.1 (((Frz.os (Frz.os Frz.int))).val hv27x0 Less.sub Less.not) (hv14x0.sub Less.sub) hO.less.fut hr34) ?_
    rintro _ w33 ⟨rfl, hC33⟩
    have h0 := h0.ext hC33
    have h1 := h1.ext hC33
    have hb3 := hb3.chg hC33 (fun h => nomatch h)
    have hv14x0 := hv14x0.ext hC33
    have hv19x0 := hv19x0.ext hC33
    have hb23 := hb23.chg hC33 (fun h => nomatch h)
    have hv24x0 := hv24x0.ext hC33
    have hv27x0 := hv27x0.ext hC33
    have hMid := hMid.ext hC33
    have hC := hC.ext hC33
    have hO := hO.ext hC33
    refine pl_val (.bool (!r34)) (y_not rfl) ?_
    refine pl_val (.bool (!r34)) (y_move rfl) ?_
    rcases bif_some hs with ⟨hc35, hs⟩ | ⟨hc35, hs⟩
    ·skip
     refine pl_not (tg := 47) (by kernel_rfl) (congrArg Value.bool hc35) ?_
     refine pl_not (tg := 47) (by kernel_rfl) (congrArg Value.bool hc35) ?_
     refine pl_not (tg := 47) (by kernel_rfl) (congrArg Value.bool hc35) ?_
     refine pl_val (.bool true) (y_pick_t (congrArg Value.bool hc35) rfl) ?_
     refine c_nil ?_
     cases hs
     exact ⟨_, fr_ovl 117 ⟨rfl, rfl, rfl, rfl, rfl, rfl, rfl, rfl, rfl, rfl, trivial⟩, hMid⟩
    ·skip
     refine pl_yes (.bool r28.2) (tg := 47) (by kernel_rfl) (congrArg Value.bool hc35) (y_move rfl) ?_
     refine pl_yes (.bool r17.2) (tg := 47) (by kernel_rfl) (congrArg Value.bool hc35) (y_move rfl) ?_
     refine pl_yes (.bool (!(r28.2 == r17.2))) (tg := 47) (by kernel_rfl) (congrArg Value.bool hc35) (y_bneq Try.underlying4 rfl rfl) ?_
     refine pl_val (.bool (!(r28.2 == r17.2))) (y_pick_f (congrArg Value.bool hc35) rfl) ?_
     refine c_nil ?_
     cases hs
     exact ⟨_, fr_ovl 117 ⟨rfl, rfl, rfl, rfl, rfl, rfl, rfl, rfl, rfl, rfl, trivial⟩, hMid⟩
   ·rintro a1 w31 ⟨σ, rfl, hCs30⟩
    have h0 := h0.ext hCs30
    have h1 := h1.ext hCs30
    have hb3 := hb3.chg hCs30 (fun h => nomatch h)
    have hv14x0 := hv14x0.ext hCs30
    have hv19x0 := hv19x0.ext hCs30
    have hb23 := hb23.chg hCs30 (fun h => nomatch h)
    have hv24x0 := hv24x0.ext hCs30
    have hv27x0 := hv27x0.ext hCs30
    have hC := hC.ext hCs30
    have hO := hO.ext hCs30
    rcases bif_some hs with ⟨hc36, hs⟩ | ⟨hc36, hs⟩
    ·skip
     refine c_condT (congrArg Value.bool hc36) ?_
     refine c_seq (c_region ?_)
     refine pl_val (.bool false) (y_assign rfl) ?_
     refine c_nil ?_
     refine wp_ret ?_
     cases hs
     exact ⟨_, fr_ovl 117 ⟨rfl, trivial⟩, hC⟩
    ·skip
     refine c_condF (congrArg Value.bool hc36) ?_
     refine wp_skip ?_
     refine c_seq ?_
     refine c_seq ?_
     refine x_start [] Mx rfl ?_
     have hCw43 := Chg.drew w31
     generalize World.drew w31 = w43 at hCw43 ⊢
     have h0 := h0.ext hCw43
     have h1 := h1.ext hCw43
     have hb3 := hb3.chg hCw43 (fun h => nomatch h)
     have hv14x0 := hv14x0.ext hCw43
     have hv19x0 := hv19x0.ext hCw43
     have hb23 := hb23.chg hCw43 (fun h => nomatch h)
     have hv24x0 := hv24x0.ext hCw43
     have hv27x0 := hv27x0.ext hCw43
     have hC := hC.ext hCw43
     have hO := hO.ext hCw43
     have hS := Chg.refl [] w43
     refine x_l 0 (.agg #[(.int .i64 r20.1), (.slice a19x0 n19x0 c19x0)]) rfl (by kernel_rfl)  (fun w' hw' => y_load rfl ((box_load Ag35 Sz35 hb23 [] [(.int .i64 r20.1), (.slice a19x0 n19x0 c19x0)] [] rfl rfl (fun h => nomatch h)) w' hw')) hS ?_
     refine x_l 1 (.agg #[(.int .i64 aA.1), (.slice pa0 pn0 pc0)]) rfl (by kernel_rfl)  (fun w' hw' => y_load rfl ((box_load Ag30 Sz30 hb3 [] [(.int .i64 aA.1), (.slice pa0 pn0 pc0)] [] rfl rfl (fun h => nomatch h)) w' hw')) hS ?_
     refine x_one (i := 2) (by kernel_rfl) ?_
     obtain ⟨r45, hr45, hs⟩ := bind_some hs
     refine xk_call (b := false) rfl  Bd19 rfl (c_laws_toAlgebra (M := (Past M16 w11 w14)) (aA.1, aA.2) h0 hO.fut hr45) rfl (by rintro _ _ _ ⟨a44x0, n44x0, c44x0, f44x0, rfl, hC44, hv44x0, hOc44⟩; exact hS.ext hC44) ?_
     rintro _ w44 ⟨a44x0, n44x0, c44x0, f44x0, rfl, hC44, hv44x0, hOc44⟩
     have h0 := h0.ext hC44
     have h1 := h1.ext hC44
     have hb3 := hb3.chg hC44 (fun h => nomatch h)
     have hv14x0 := hv14x0.ext hC44
     have hv19x0 := hv19x0.ext hC44
     have hb23 := hb23.chg hC44 (fun h => nomatch h)
     have hv24x0 := hv24x0.ext hC44
     have hv27x0 := hv27x0.ext hC44
     have hC := hC.ext hC44
     have hO := Own.join0 hO hC44 hOc44
     have hO := hO.perm (R := f44x0 ++ (f27x0 ++ (f19x0 ++ (f24x0 ++ (([g22]) ++ (([g3]) ++ ([]))))))) (by simp)
     have hS := hS.ext hC44
     refine x_one (i := 3) (by kernel_rfl) ?_
     have hO := hO.fr2
     obtain ⟨r48, hr48, hs⟩ := bind_some hs
     refine xk_call (b := false) rfl  Bd21 rfl (c_laws_eqAlgebra (M := (Less (Less (Past M16 w11 w14) f19x0) f44x0)) (r20.1, r20.2) (r45.1, r45.2) ((((Frz.os (Frz.pr Frz.int (Frz.os Frz.int)))).val hv19x0 Less.sub Less.not).sub Less.sub) (((Frz.os (Frz.pr Frz.int (Frz.os Frz.int)))).val (hv44x0.sub Less.sub) Less.sub Less.not) (hO.less).less.fut hr48) rfl (by rintro _ _ _ ⟨rfl, hC47⟩; exact hS.ext hC47) ?_
     rintro _ w47 ⟨rfl, hC47⟩
     have h0 := h0.ext hC47
     have h1 := h1.ext hC47
     have hb3 := hb3.chg hC47 (fun h => nomatch h)
     have hv14x0 := hv14x0.ext hC47
     have hv19x0 := hv19x0.ext hC47
     have hb23 := hb23.chg hC47 (fun h => nomatch h)
     have hv24x0 := hv24x0.ext hC47
     have hv27x0 := hv27x0.ext hC47
     have hv44x0 := hv44x0.ext hC47
     have hC := hC.ext hC47
     have hO := hO.ext hC47
     have hS := hS.ext hC47
     refine x_p 4 (.bool (!r48)) rfl (by kernel_rfl)  (fun _ => y_not rfl) (fun _ => hS) ?_
     refine x_end (by kernel_rfl) ?_
     clear hS
     rcases bif_some hs with ⟨hc49, hs⟩ | ⟨hc49, hs⟩
     ·skip
      refine c_condT (congrArg Value.bool hc49) ?_
      refine c_seq (c_region ?_)
      refine pl_val (.bool false) (y_assign rfl) ?_
      refine c_nil ?_
      refine wp_ret ?_
      cases hs
      exact ⟨_, fr_ovl 117 ⟨rfl, trivial⟩, hC⟩
     ·skip
      refine c_condF (congrArg Value.bool hc49) ?_
      refine wp_skip ?_
      refine c_seq ?_
      refine c_seq (c_region ?_)
      refine pl_val (.slice a24x0 n24x0 c24x0) (y_move rfl) ?_
      refine pl_val (.slice pa1 pn1 pc1) (y_move rfl) ?_
      obtain ⟨r51, hr51, hs⟩ := bind_some hs
      refine pl_call Bd14 rfl (c_laws_toIntS (M := (Past M16 w11 w14)) aP h1 hO.fut hr51) ?_
      rintro _ w50 ⟨a50x0, n50x0, c50x0, f50x0, rfl, hC50, hv50x0, hOc50⟩
      have h0 := h0.ext hC50
      have h1 := h1.ext hC50
      have hb3 := hb3.chg hC50 (fun h => nomatch h)
      have hv14x0 := hv14x0.ext hC50
      have hv19x0 := hv19x0.ext hC50
      have hb23 := hb23.chg hC50 (fun h => nomatch h)
      have hv24x0 := hv24x0.ext hC50
      have hv27x0 := hv27x0.ext hC50
      have hv44x0 := hv44x0.ext hC50
      have hC := hC.ext hC50
      have hO := Own.join0 hO hC50 hOc50
      have hO := hO.perm (R := f50x0 ++ (f19x0 ++ (f44x0 ++ (f27x0 ++ (f24x0 ++ (([g22]) ++ (([g3]) ++ ([])))))))) (by simp)
      have hO := hO.fr4
      obtain ⟨r54, hr54, hs⟩ := bind_some hs
      refine pl_call Bd16 rfl (c_laws_eqIntS (M := (Less (Less (Past M16 w11 w14) f24x0) f50x0)) r25 r51 ((((Frz.os Frz.int)).val hv24x0 Less.sub Less.not).sub Less.sub) (((Frz.os Frz.int)).val (hv50x0.sub Less.sub) Less.sub Less.not) (hO.less).less.fut hr54) ?_
      rintro _ w53 ⟨rfl, hC53⟩
      have h0 := h0.ext hC53
      have h1 := h1.ext hC53
      have hb3 := hb3.chg hC53 (fun h => nomatch h)
      have hv14x0 := hv14x0.ext hC53
      have hv19x0 := hv19x0.ext hC53
      have hb23 := hb23.chg hC53 (fun h => nomatch h)
      have hv24x0 := hv24x0.ext hC53
      have hv27x0 := hv27x0.ext hC53
      have hv44x0 := hv44x0.ext hC53
      have hv50x0 := hv50x0.ext hC53
      have hC := hC.ext hC53
      have hO := hO.ext hC53
      refine pl_val (.bool (!r54)) (y_not rfl) ?_
      refine c_nil ?_
      rcases bif_some hs with ⟨hc55, hs⟩ | ⟨hc55, hs⟩
      ·skip
       refine c_condT (congrArg Value.bool hc55) ?_
       refine c_seq (c_region ?_)
       refine pl_val (.bool false) (y_assign rfl) ?_
       refine c_nil ?_
       refine wp_ret ?_
       cases hs
       exact ⟨_, fr_ovl 117 ⟨rfl, trivial⟩, hC⟩
      ·skip
       refine c_condF (congrArg Value.bool hc55) ?_
       refine wp_skip ?_
       refine c_seq (c_region ?_)
       refine pl_val (.int .i64 1) (y_assign rfl) ?_
       refine c_nil ?_
       refine c_seq (c_region ?_)
       refine pl_val (.agg #[(.int .i64 r20.1), (.slice a19x0 n19x0 c19x0)]) (y_load rfl ((box_load Ag35 Sz35 hb23 [] [(.int .i64 r20.1), (.slice a19x0 n19x0 c19x0)] [] rfl rfl (fun h => nomatch h)) _ (Chg.refl _ _))) ?_
       refine pl_val (.int .i64 1) (y_move rfl) ?_
       have hO := hO.fr2
       have hL56 := hO
       have hI56 := Own.lend (F := (f19x0 ++ ([]))) (R := f24x0 ++ (f50x0 ++ (f44x0 ++ (f27x0 ++ (([g22]) ++ (([g3]) ++ ([]))))))) (Own.perm (hL56) (by simp))
       obtain ⟨r57, hr57, hs⟩ := bind_some hs
       refine pl_call Bd31 rfl (c_laws_markAlgebra (M := (Past M16 w11 w14)) (r20.1, r20.2) 1 hv19x0 hI56 hI56.fut hr57) ?_
       rintro _ w56 ⟨fi56x0, rfl, hC56, hvi56x0, hOc56⟩
       have hO := hO.perm (R := (f19x0 ++ ([])) ++ (f24x0 ++ (f50x0 ++ (f44x0 ++ (f27x0 ++ (([g22]) ++ (([g3]) ++ ([])))))))) (by simp)
       have h0 := h0.mut hC56 (fun g hg => hO.inM g ((fun _ h => h) g hg)) (fun _ _ h => nomatch h)
       have h1 := h1.mut hC56 (fun g hg => hO.inM g ((fun _ h => h) g hg)) (fun _ _ h => nomatch h)
       have hb3 := hb3.chg hC56 (fun hg => hO.apart _ ((fun _ h => h) _ hg) (mem_r (mem_r (mem_r (mem_r (mem_r (mem_l (List.mem_singleton.2 rfl))))))))
       have hv14x0 := hv14x0.mut hC56 (fun g hg => hO.inM g ((fun _ h => h) g hg)) (fun _ _ h => nomatch h)
       have hb23 := hb23.chg hC56 (fun hg => hO.apart _ ((fun _ h => h) _ hg) (mem_r (mem_r (mem_r (mem_r (mem_l (List.mem_singleton.2 rfl)))))))
       have hv24x0 := hv24x0.mut hC56 (fun g hg => hO.inM g ((fun _ h => h) g hg)) (fun g hg e => hO.apart g ((fun _ h => h) g hg) (mem_l (e)))
       have hv27x0 := hv27x0.mut hC56 (fun g hg => hO.inM g ((fun _ h => h) g hg)) (fun g hg e => hO.apart g ((fun _ h => h) g hg) (mem_r (mem_r (mem_r (mem_l (e))))))
       have hv44x0 := hv44x0.mut hC56 (fun g hg => hO.inM g ((fun _ h => h) g hg)) (fun g hg e => hO.apart g ((fun _ h => h) g hg) (mem_r (mem_r (mem_l (e)))))
       have hv50x0 := hv50x0.mut hC56 (fun g hg => hO.inM g ((fun _ h => h) g hg)) (fun g hg e => hO.apart g ((fun _ h => h) g hg) (mem_r (mem_l (e))))
       have hC := hC.step hC56 (fun g hg => hO.inN g ((fun _ h => h) g hg))
       have hO := Own.join hO hC56 hOc56
       have hO := hO.perm (R := fi56x0 ++ (f24x0 ++ (f50x0 ++ (f44x0 ++ (f27x0 ++ (([g22]) ++ (([g3]) ++ ([])))))))) (by simp)
       refine pl_val (.int .i64 r57.1) (y_assign rfl) ?_
       refine c_nil ?_
       refine c_seq (c_region ?_)
       refine pl_val (.slice a24x0 n24x0 c24x0) (y_move rfl) ?_
       refine pl_val (.int .i64 r57.1) (y_move rfl) ?_
       have hO := hO.fr1
       have hL58 := hO
       have hI58 := Own.lend (F := (f24x0 ++ ([]))) (R := fi56x0 ++ (f50x0 ++ (f44x0 ++ (f27x0 ++ (([g22]) ++ (([g3]) ++ ([]))))))) (Own.perm (hL58) (by simp))
       obtain ⟨r59, hr59, hs⟩ := bind_some hs
       refine pl_call Bd32 rfl (c_laws_markIntS (M := (Past M16 w11 w14)) r25 r57.1 hv24x0 hI58 hI58.fut hr59) ?_
       rintro _ w58 ⟨fi58x0, rfl, hC58, hvi58x0, hOc58⟩
       have hO := hO.perm (R := (f24x0 ++ ([])) ++ (fi56x0 ++ (f50x0 ++ (f44x0 ++ (f27x0 ++ (([g22]) ++ (([g3]) ++ ([])))))))) (by simp)
       have h0 := h0.mut hC58 (fun g hg => hO.inM g ((fun _ h => h) g hg)) (fun _ _ h => nomatch h)
       have h1 := h1.mut hC58 (fun g hg => hO.inM g ((fun _ h => h) g hg)) (fun _ _ h => nomatch h)
       have hb3 := hb3.chg hC58 (fun hg => hO.apart _ ((fun _ h => h) _ hg) (mem_r (mem_r (mem_r (mem_r (mem_r (mem_l (List.mem_singleton.2 rfl))))))))
       have hv14x0 := hv14x0.mut hC58 (fun g hg => hO.inM g ((fun _ h => h) g hg)) (fun _ _ h => nomatch h)
       have hvi56x0 := hvi56x0.mut hC58 (fun g hg => hO.inM g ((fun _ h => h) g hg)) (fun g hg e => hO.apart g ((fun _ h => h) g hg) (mem_l (e)))
       have hb23 := hb23.chg hC58 (fun hg => hO.apart _ ((fun _ h => h) _ hg) (mem_r (mem_r (mem_r (mem_r (mem_l (List.mem_singleton.2 rfl)))))))
       have hv27x0 := hv27x0.mut hC58 (fun g hg => hO.inM g ((fun _ h => h) g hg)) (fun g hg e => hO.apart g ((fun _ h => h) g hg) (mem_r (mem_r (mem_r (mem_l (e))))))
       have hv44x0 := hv44x0.mut hC58 (fun g hg => hO.inM g ((fun _ h => h) g hg)) (fun g hg e => hO.apart g ((fun _ h => h) g hg) (mem_r (mem_r (mem_l (e)))))
       have hv50x0 := hv50x0.mut hC58 (fun g hg => hO.inM g ((fun _ h => h) g hg)) (fun g hg e => hO.apart g ((fun _ h => h) g hg) (mem_r (mem_l (e))))
       have hC := hC.step hC58 (fun g hg => hO.inN g ((fun _ h => h) g hg))
       have hO := Own.join hO hC58 hOc58
       have hO := hO.perm (R := fi58x0 ++ (fi56x0 ++ (f50x0 ++ (f44x0 ++ (f27x0 ++ (([g22]) ++ (([g3]) ++ ([])))))))) (by simp)
       refine pl_val (.int .i64 r59.1) (y_assign rfl) ?_
       refine c_nil ?_
       refine c_seq ?_
       refine c_seq ?_
       obtain ⟨s60, hm62, hs⟩ := bind_some hs
       refine c_mid (I := fun a w61 => ∃ (σ : Nat → Value), a = fr 117 (ovl σ [(1, (.slice pa1 pn1 pc1)), (2, (.pointer (some ⟨g3, 0, none⟩))), (4, (.bool false)), (6, (.slice a14x0 n14x0 c14x0)), (7, (.bool r17.2)), (10, (.slice a27x0 n27x0 c27x0)), (80, (.bool s60))]) ∧ Chg [] w58 w61) ?_ ?_
       ·replace hs := hm62
        have hMid := Chg.refl [] w58
        refine c_region ?_
        refine pl_val (.int .i64 r59.1) (y_move rfl) ?_
        refine pl_val (.bool (decide (r59.1 < 0))) (y_lss rfl rfl) ?_
        refine pl_val (.bool (decide (r59.1 < 0))) (y_move rfl) ?_
        rcases bif_some hs with ⟨hc63, hs⟩ | ⟨hc63, hs⟩
        ·skip
         refine pl_not (tg := 70) (by kernel_rfl) (congrArg Value.bool hc63) ?_
         refine pl_not (tg := 70) (by kernel_rfl) (congrArg Value.bool hc63) ?_
         refine pl_not (tg := 70) (by kernel_rfl) (congrArg Value.bool hc63) ?_
         refine pl_not (tg := 70) (by kernel_rfl) (congrArg Value.bool hc63) ?_
         refine pl_val (.bool true) (y_pick_t (congrArg Value.bool hc63) rfl) ?_
         refine pl_val (.bool true) (y_move rfl) ?_
         refine pl_not (tg := 76) (by kernel_rfl) (by rfl) ?_
         refine pl_not (tg := 76) (by kernel_rfl) (by rfl) ?_
         refine pl_not (tg := 76) (by kernel_rfl) (by rfl) ?_
         refine pl_val (.bool true) (y_pick_t (by rfl) rfl) ?_
         refine c_nil ?_
         cases hs
         exact ⟨_, fr_ovl 117 ⟨rfl, rfl, rfl, rfl, rfl, rfl, rfl, trivial⟩, hMid⟩
        ·skip
         refine pl_yes (.slice a27x0 n27x0 c27x0) (tg := 70) (by kernel_rfl) (congrArg Value.bool hc63) (y_move rfl) ?_
         refine pl_yes (.slice a14x0 n14x0 c14x0) (tg := 70) (by kernel_rfl) (congrArg Value.bool hc63) (y_move rfl) ?_
         have hO := hO.fr4
         obtain ⟨r66, hr66, hs⟩ := bind_some hs
         refine pl_cally (tg := 70) (by kernel_rfl) (congrArg Value.bool hc63) Bd30 rfl (c_laws_eqIntSS (M := (Less (Past M16 w11 w14) f27x0)) r28.1 r17.1 (((Frz.os (Frz.os Frz.int))).val hv27x0 Less.sub Less.not) (hv14x0.sub Less.sub) hO.less.fut hr66) ?_
         rintro _ w65 ⟨rfl, hC65⟩
         have h0 := h0.ext hC65
         have h1 := h1.ext hC65
         have hb3 := hb3.chg hC65 (fun h => nomatch h)
         have hv14x0 := hv14x0.ext hC65
         have hvi56x0 := hvi56x0.ext hC65
         have hb23 := hb23.chg hC65 (fun h => nomatch h)
         have hvi58x0 := hvi58x0.ext hC65
         have hv27x0 := hv27x0.ext hC65
         have hv44x0 := hv44x0.ext hC65
         have hv50x0 := hv50x0.ext hC65
         have hMid := hMid.ext hC65
         have hC := hC.ext hC65
         have hO := hO.ext hC65
         refine pl_yes (.bool (!r66)) (tg := 70) (by kernel_rfl) (congrArg Value.bool hc63) (y_not rfl) ?_
         refine pl_val (.bool (!r66)) (y_pick_f (congrArg Value.bool hc63) rfl) ?_
         refine pl_val (.bool (!r66)) (y_move rfl) ?_
         rcases bif_some hs with ⟨hc67, hs⟩ | ⟨hc67, hs⟩
         ·skip
          refine pl_not (tg := 76) (by kernel_rfl) (congrArg Value.bool hc67) ?_
          refine pl_not (tg := 76) (by kernel_rfl) (congrArg Value.bool hc67) ?_
          refine pl_not (tg := 76) (by kernel_rfl) (congrArg Value.bool hc67) ?_
          refine pl_val (.bool true) (y_pick_t (congrArg Value.bool hc67) rfl) ?_
          refine c_nil ?_
          cases hs
          exact ⟨_, fr_ovl 117 ⟨rfl, rfl, rfl, rfl, rfl, rfl, rfl, trivial⟩, hMid⟩
         ·skip
          refine pl_yes (.bool r28.2) (tg := 76) (by kernel_rfl) (congrArg Value.bool hc67) (y_move rfl) ?_
          refine pl_yes (.bool r17.2) (tg := 76) (by kernel_rfl) (congrArg Value.bool hc67) (y_move rfl) ?_
          refine pl_yes (.bool (!(r28.2 == r17.2))) (tg := 76) (by kernel_rfl) (congrArg Value.bool hc67) (y_bneq Try.underlying4 rfl rfl) ?_
          refine pl_val (.bool (!(r28.2 == r17.2))) (y_pick_f (congrArg Value.bool hc67) rfl) ?_
          refine c_nil ?_
          cases hs
          exact ⟨_, fr_ovl 117 ⟨rfl, rfl, rfl, rfl, rfl, rfl, rfl, trivial⟩, hMid⟩
       ·rintro a1 w61 ⟨σ, rfl, hCs60⟩
        have h0 := h0.ext hCs60
        have h1 := h1.ext hCs60
        have hb3 := hb3.chg hCs60 (fun h => nomatch h)
        have hv14x0 := hv14x0.ext hCs60
        have hvi56x0 := hvi56x0.ext hCs60
        have hb23 := hb23.chg hCs60 (fun h => nomatch h)
        have hvi58x0 := hvi58x0.ext hCs60
        have hv27x0 := hv27x0.ext hCs60
        have hv44x0 := hv44x0.ext hCs60
        have hv50x0 := hv50x0.ext hCs60
        have hC := hC.ext hCs60
        have hO := hO.ext hCs60
        rcases bif_some hs with ⟨hc68, hs⟩ | ⟨hc68, hs⟩
        ·skip
         refine c_condT (congrArg Value.bool hc68) ?_
         refine c_seq (c_region ?_)
         refine pl_val (.bool false) (y_assign rfl) ?_
         refine c_nil ?_
         refine wp_ret ?_
         cases hs
         exact ⟨_, fr_ovl 117 ⟨rfl, trivial⟩, hC⟩
        ·skip
         refine c_condF (congrArg Value.bool hc68) ?_
         refine wp_skip ?_
         refine c_seq (c_region ?_)
         refine pl_val (.int .i64 1) (y_assign rfl) ?_
         refine c_nil ?_
         refine c_seq (c_region ?_)
         refine pl_val (.slice a27x0 n27x0 c27x0) (y_move rfl) ?_
         refine pl_val (.int .i64 1) (y_move rfl) ?_
         have hO := hO.fr4
         have hL69 := hO
         have hI69 := Own.lend (F := (f27x0 ++ ([]))) (R := fi58x0 ++ (fi56x0 ++ (f50x0 ++ (f44x0 ++ (([g22]) ++ (([g3]) ++ ([]))))))) (Own.perm (hL69) (by simp))
         obtain ⟨r70, hr70, hs⟩ := bind_some hs
         refine pl_call Bd33 rfl (c_laws_markIntSS (M := (Past M16 w11 w14)) r28.1 1 hv27x0 hI69 hI69.fut hr70) ?_
         rintro _ w69 ⟨fi69x0, rfl, hC69, hvi69x0, hOc69⟩
         have hO := hO.perm (R := (f27x0 ++ ([])) ++ (fi58x0 ++ (fi56x0 ++ (f50x0 ++ (f44x0 ++ (([g22]) ++ (([g3]) ++ ([])))))))) (by simp)
         have h0 := h0.mut hC69 (fun g hg => hO.inM g ((fun _ h => h) g hg)) (fun _ _ h => nomatch h)
         have h1 := h1.mut hC69 (fun g hg => hO.inM g ((fun _ h => h) g hg)) (fun _ _ h => nomatch h)
         have hb3 := hb3.chg hC69 (fun hg => hO.apart _ ((fun _ h => h) _ hg) (mem_r (mem_r (mem_r (mem_r (mem_r (mem_l (List.mem_singleton.2 rfl))))))))
         have hv14x0 := hv14x0.mut hC69 (fun g hg => hO.inM g ((fun _ h => h) g hg)) (fun _ _ h => nomatch h)
         have hvi56x0 := hvi56x0.mut hC69 (fun g hg => hO.inM g ((fun _ h => h) g hg)) (fun g hg e => hO.apart g ((fun _ h => h) g hg) (mem_r (mem_l (e))))
         have hb23 := hb23.chg hC69 (fun hg => hO.apart _ ((fun _ h => h) _ hg) (mem_r (mem_r (mem_r (mem_r (mem_l (List.mem_singleton.2 rfl)))))))
         have hvi58x0 := hvi58x0.mut hC69 (fun g hg => hO.inM g ((fun _ h => h) g hg)) (fun g hg e => hO.apart g ((fun _ h => h) g hg) (mem_l (e)))
         have hv44x0 := hv44x0.mut hC69 (fun g hg => hO.inM g ((fun _ h => h) g hg)) (fun g hg e => hO.apart g ((fun _ h => h) g hg) (mem_r (mem_r (mem_r (mem_l (e))))))
         have hv50x0 := hv50x0.mut hC69 (fun g hg => hO.inM g ((fun _ h => h) g hg)) (fun g hg e => hO.apart g ((fun _ h => h) g hg) (mem_r (mem_r (mem_l (e)))))
         have hC := hC.step hC69 (fun g hg => hO.inN g ((fun _ h => h) g hg))
         have hO := Own.join hO hC69 hOc69
         have hO := hO.perm (R := fi69x0 ++ (fi58x0 ++ (fi56x0 ++ (f50x0 ++ (f44x0 ++ (([g22]) ++ (([g3]) ++ ([])))))))) (by simp)
         refine pl_val (.int .i64 r70.1) (y_assign rfl) ?_
         refine c_nil ?_
         refine c_seq (c_region ?_)
         refine pl_val (.int .i64 1) (y_assign rfl) ?_
         refine c_nil ?_
         refine c_seq (c_region ?_)
         refine pl_val (.slice a27x0 n27x0 c27x0) (y_move rfl) ?_
         refine pl_val (.int .i64 1) (y_move rfl) ?_
         obtain ⟨r72, hr72, hs⟩ := bind_some hs
         refine pl_call Bd34 rfl (c_laws_heldIntSS (M := (Less (Past M16 w11 w14) fi69x0)) r70.2 1 (((Frz.os (Frz.os Frz.int))).val hvi69x0 Less.sub Less.not) hO.less.fut hr72) ?_
         rintro _ w71 ⟨rfl, hC71⟩
         have h0 := h0.ext hC71
         have h1 := h1.ext hC71
         have hb3 := hb3.chg hC71 (fun h => nomatch h)
         have hv14x0 := hv14x0.ext hC71
         have hvi56x0 := hvi56x0.ext hC71
         have hb23 := hb23.chg hC71 (fun h => nomatch h)
         have hvi58x0 := hvi58x0.ext hC71
         have hvi69x0 := hvi69x0.ext hC71
         have hv44x0 := hv44x0.ext hC71
         have hv50x0 := hv50x0.ext hC71
         have hC := hC.ext hC71
         have hO := hO.ext hC71
         refine pl_val (.int .i64 r72) (y_assign rfl) ?_
         refine c_nil ?_
         refine c_seq ?_
         refine c_seq (c_region ?_)
         refine pl_val (.int .i64 r72) (y_move rfl) ?_
         refine pl_val (.bool (decide (r72 < 0))) (y_lss rfl rfl) ?_
         refine c_nil ?_
         rcases bif_some hs with ⟨hc73, hs⟩ | ⟨hc73, hs⟩
         ·skip
          refine c_condT (congrArg Value.bool hc73) ?_
          refine c_seq (c_region ?_)
          refine pl_val (.bool false) (y_assign rfl) ?_
          refine c_nil ?_
          refine wp_ret ?_
          cases hs
          exact ⟨_, fr_ovl 117 ⟨rfl, trivial⟩, hC⟩
         ·skip
          refine c_condF (congrArg Value.bool hc73) ?_
          refine wp_skip ?_
          refine c_seq ?_
          refine c_seq (c_region ?_)
          refine pl_val (.int .i64 r72) (y_move rfl) ?_
          refine pl_val (.int .i64 r70.1) (y_move rfl) ?_
          refine pl_val (.bool (r72 != r70.1)) (y_neq rfl rfl) ?_
          refine c_nil ?_
          rcases bif_some hs with ⟨hc74, hs⟩ | ⟨hc74, hs⟩
          ·skip
           refine c_condT (congrArg Value.bool hc74) ?_
           refine c_seq (c_region ?_)
           refine pl_val (.bool false) (y_assign rfl) ?_
           refine c_nil ?_
           refine wp_ret ?_
           cases hs
           exact ⟨_, fr_ovl 117 ⟨rfl, trivial⟩, hC⟩
          ·skip
           refine c_condF (congrArg Value.bool hc74) ?_
           refine wp_skip ?_
           refine c_seq (c_region ?_)
           refine pl_val (.agg #[(.int .i64 aA.1), (.slice pa0 pn0 pc0)]) (y_load rfl ((box_load Ag30 Sz30 hb3 [] [(.int .i64 aA.1), (.slice pa0 pn0 pc0)] [] rfl rfl (fun h => nomatch h)) _ (Chg.refl _ _))) ?_
           obtain ⟨r76, hr76, hs⟩ := bind_some hs
           refine pl_call Bd19 rfl (c_laws_toAlgebra (M := (Past M16 w11 w14)) (aA.1, aA.2) h0 hO.fut hr76) ?_
           rintro _ w75 ⟨a75x0, n75x0, c75x0, f75x0, rfl, hC75, hv75x0, hOc75⟩
           have h0 := h0.ext hC75
           have h1 := h1.ext hC75
           have hb3 := hb3.chg hC75 (fun h => nomatch h)
           have hv14x0 := hv14x0.ext hC75
           have hvi56x0 := hvi56x0.ext hC75
           have hb23 := hb23.chg hC75 (fun h => nomatch h)
           have hvi58x0 := hvi58x0.ext hC75
           have hvi69x0 := hvi69x0.ext hC75
           have hv44x0 := hv44x0.ext hC75
           have hv50x0 := hv50x0.ext hC75
           have hC := hC.ext hC75
           have hO := Own.join0 hO hC75 hOc75
           have hO := hO.perm (R := f75x0 ++ (fi69x0 ++ (fi58x0 ++ (fi56x0 ++ (f50x0 ++ (f44x0 ++ (([g22]) ++ (([g3]) ++ ([]))))))))) (by simp)
           refine pl_val (.slice pa1 pn1 pc1) (y_move rfl) ?_
           obtain ⟨r79, hr79, hs⟩ := bind_some hs
           refine pl_call Bd14 rfl (c_laws_toIntS (M := (Past M16 w11 w14)) aP h1 hO.fut hr79) ?_
           rintro _ w78 ⟨a78x0, n78x0, c78x0, f78x0, rfl, hC78, hv78x0, hOc78⟩
           have h0 := h0.ext hC78
           have h1 := h1.ext hC78
           have hb3 := hb3.chg hC78 (fun h => nomatch h)
           have hv14x0 := hv14x0.ext hC78
           have hvi56x0 := hvi56x0.ext hC78
           have hb23 := hb23.chg hC78 (fun h => nomatch h)
           have hvi58x0 := hvi58x0.ext hC78
           have hvi69x0 := hvi69x0.ext hC78
           have hv44x0 := hv44x0.ext hC78
           have hv50x0 := hv50x0.ext hC78
           have hv75x0 := hv75x0.ext hC78
           have hC := hC.ext hC78
           have hO := Own.join0 hO hC78 hOc78
           have hO := hO.perm (R := f78x0 ++ (f75x0 ++ (fi69x0 ++ (fi58x0 ++ (fi56x0 ++ (f50x0 ++ (f44x0 ++ (([g22]) ++ (([g3]) ++ ([])))))))))) (by simp)
           have hO := hO.fr1
           obtain ⟨r82, hr82, hs⟩ := bind_some hs
           refine pl_call Bd29 rfl (c_impl_ComplementsOf (M := (Less (Less (Past M16 w11 w14) f75x0) f78x0)) (r76.1, r76.2) r79 ((((Frz.os (Frz.pr Frz.int (Frz.os Frz.int)))).val hv75x0 Less.sub Less.not).sub Less.sub) (((Frz.os Frz.int)).val (hv78x0.sub Less.sub) Less.sub Less.not) (hO.less).less.fut hr82) ?_
           rintro _ w81 ⟨a81x0, n81x0, c81x0, f81x0, rfl, hC81, hv81x0, hOc81⟩
           have h0 := h0.ext hC81
           have h1 := h1.ext hC81
           have hb3 := hb3.chg hC81 (fun h => nomatch h)
           have hv14x0 := hv14x0.ext hC81
           have hvi56x0 := hvi56x0.ext hC81
           have hb23 := hb23.chg hC81 (fun h => nomatch h)
           have hvi58x0 := hvi58x0.ext hC81
           have hvi69x0 := hvi69x0.ext hC81
           have hv44x0 := hv44x0.ext hC81
           have hv50x0 := hv50x0.ext hC81
           have hv75x0 := hv75x0.ext hC81
           have hv78x0 := hv78x0.ext hC81
           have hC := hC.ext hC81
           have hO := Own.join0 hO hC81 hOc81
           have hO := hO.perm (R := f81x0 ++ (f75x0 ++ (f78x0 ++ (fi69x0 ++ (fi58x0 ++ (fi56x0 ++ (f50x0 ++ (f44x0 ++ (([g22]) ++ (([g3]) ++ ([]))))))))))) (by simp)
           have hv81x0 := hv81x0.free (M' := (Past M16 w11 w14)) (Free.os (Free.os Free.int))
           refine pl_val (.tuple #[(.slice a81x0 n81x0 c81x0), (.bool r82.2)]) (y_move rfl) ?_
           refine pl_val (.slice a81x0 n81x0 c81x0) (y_extract rfl (by kernel_rfl)) ?_
           refine pl_val (.bool r82.2) (y_extract rfl (by kernel_rfl)) ?_
           refine pl_val (.slice a81x0 n81x0 c81x0) (y_assign rfl) ?_
           refine pl_val (.bool r82.2) (y_assign rfl) ?_
           refine c_nil ?_
           refine c_seq ?_
           refine c_seq ?_
           obtain ⟨s84, hm86, hs⟩ := bind_some hs
           refine c_mid (I := fun a w85 => ∃ (σ : Nat → Value), a = fr 117 (ovl σ [(4, (.bool false)), (10, (.slice a27x0 n27x0 c27x0)), (13, (.int .i64 r70.1)), (14, (.int .i64 r72)), (108, (.bool s84))]) ∧ Chg [] w81 w85) ?_ ?_
           ·replace hs := hm86
            have hMid := Chg.refl [] w81
            refine c_region ?_
            refine pl_val (.slice a81x0 n81x0 c81x0) (y_move rfl) ?_
            refine pl_val (.slice a14x0 n14x0 c14x0) (y_move rfl) ?_
            obtain ⟨r88, hr88, hs⟩ := bind_some hs
            refine pl_call Bd30 rfl (c_laws_eqIntSS (M := (Less (Past M16 w11 w14) f81x0)) r82.1 r17.1 (((Frz.os (Frz.os Frz.int))).val hv81x0 Less.sub Less.not) (hv14x0.sub Less.sub) hO.less.fut hr88) ?_
            rintro _ w87 ⟨rfl, hC87⟩
            have hb3 := hb3.chg hC87 (fun h => nomatch h)
            have hv14x0 := hv14x0.ext hC87
            have hvi56x0 := hvi56x0.ext hC87
            have hb23 := hb23.chg hC87 (fun h => nomatch h)
            have hvi58x0 := hvi58x0.ext hC87
            have hvi69x0 := hvi69x0.ext hC87
            have hv44x0 := hv44x0.ext hC87
            have hv50x0 := hv50x0.ext hC87
            have hv75x0 := hv75x0.ext hC87
            have hv78x0 := hv78x0.ext hC87
            have hv81x0 := hv81x0.ext hC87
            have hMid := hMid.ext hC87
            have hC := hC.ext hC87
            have hO := hO.ext hC87
            refine pl_val (.bool (!r88)) (y_not rfl) ?_
            refine pl_val (.bool (!r88)) (y_move rfl) ?_
            rcases bif_some hs with ⟨hc89, hs⟩ | ⟨hc89, hs⟩
            ·skip
             refine pl_not (tg := 104) (by kernel_rfl) (congrArg Value.bool hc89) ?_
             refine pl_not (tg := 104) (by kernel_rfl) (congrArg Value.bool hc89) ?_
             refine pl_not (tg := 104) (by kernel_rfl) (congrArg Value.bool hc89) ?_
             refine pl_val (.bool true) (y_pick_t (congrArg Value.bool hc89) rfl) ?_
             refine c_nil ?_
             cases hs
             exact ⟨_, fr_ovl 117 ⟨rfl, rfl, rfl, rfl, rfl, trivial⟩, hMid⟩
            ·skip
             refine pl_yes (.bool r82.2) (tg := 104) (by kernel_rfl) (congrArg Value.bool hc89) (y_move rfl) ?_
             refine pl_yes (.bool r17.2) (tg := 104) (by kernel_rfl) (congrArg Value.bool hc89) (y_move rfl) ?_
             refine pl_yes (.bool (!(r82.2 == r17.2))) (tg := 104) (by kernel_rfl) (congrArg Value.bool hc89) (y_bneq Try.underlying4 rfl rfl) ?_
             refine pl_val (.bool (!(r82.2 == r17.2))) (y_pick_f (congrArg Value.bool hc89) rfl) ?_
             refine c_nil ?_
             cases hs
             exact ⟨_, fr_ovl 117 ⟨rfl, rfl, rfl, rfl, rfl, trivial⟩, hMid⟩
           ·rintro a1 w85 ⟨σ, rfl, hCs84⟩
            have hb3 := hb3.chg hCs84 (fun h => nomatch h)
            have hvi56x0 := hvi56x0.ext hCs84
            have hb23 := hb23.chg hCs84 (fun h => nomatch h)
            have hvi58x0 := hvi58x0.ext hCs84
            have hvi69x0 := hvi69x0.ext hCs84
            have hv44x0 := hv44x0.ext hCs84
            have hv50x0 := hv50x0.ext hCs84
            have hv75x0 := hv75x0.ext hCs84
            have hv78x0 := hv78x0.ext hCs84
            have hv81x0 := hv81x0.ext hCs84
            have hC := hC.ext hCs84
            have hO := hO.ext hCs84
            rcases bif_some hs with ⟨hc90, hs⟩ | ⟨hc90, hs⟩
            ·skip
             refine c_condT (congrArg Value.bool hc90) ?_
             refine c_seq (c_region ?_)
             refine pl_val (.bool false) (y_assign rfl) ?_
             refine c_nil ?_
             refine wp_ret ?_
             cases hs
             exact ⟨_, fr_ovl 117 ⟨rfl, trivial⟩, hC⟩
            ·skip
             refine c_condF (congrArg Value.bool hc90) ?_
             refine wp_skip ?_
             refine c_seq (c_region ?_)
             refine pl_val (.int .i64 1) (y_assign rfl) ?_
             refine c_nil ?_
             refine c_seq (c_region ?_)
             refine pl_val (.slice a27x0 n27x0 c27x0) (y_move rfl) ?_
             refine pl_val (.int .i64 1) (y_move rfl) ?_
             have hO := hO.fr3
             obtain ⟨r92, hr92, hs⟩ := bind_some hs
             refine pl_call Bd34 rfl (c_laws_heldIntSS (M := (Less (Past M16 w11 w14) fi69x0)) r70.2 1 (((Frz.os (Frz.os Frz.int))).val hvi69x0 Less.sub Less.not) hO.less.fut hr92) ?_
             rintro _ w91 ⟨rfl, hC91⟩
             have hb3 := hb3.chg hC91 (fun h => nomatch h)
             have hvi56x0 := hvi56x0.ext hC91
             have hb23 := hb23.chg hC91 (fun h => nomatch h)
             have hvi58x0 := hvi58x0.ext hC91
             have hvi69x0 := hvi69x0.ext hC91
             have hv44x0 := hv44x0.ext hC91
             have hv50x0 := hv50x0.ext hC91
             have hv75x0 := hv75x0.ext hC91
             have hv78x0 := hv78x0.ext hC91
             have hv81x0 := hv81x0.ext hC91
             have hC := hC.ext hC91
             have hO := hO.ext hC91
             refine pl_val (.int .i64 r92) (y_assign rfl) ?_
             refine c_nil ?_
             refine c_seq ?_
             refine c_seq (c_region ?_)
             refine pl_val (.int .i64 r92) (y_move rfl) ?_
             refine pl_val (.bool (decide (r92 < 0))) (y_lss rfl rfl) ?_
             refine c_nil ?_
             rcases bif_some hs with ⟨hc93, hs⟩ | ⟨hc93, hs⟩
             ·skip
              refine c_condT (congrArg Value.bool hc93) ?_
              refine c_seq (c_region ?_)
              refine pl_val (.bool false) (y_assign rfl) ?_
              refine c_nil ?_
              refine wp_ret ?_
              cases hs
              exact ⟨_, fr_ovl 117 ⟨rfl, trivial⟩, hC⟩
             ·skip
              refine c_condF (congrArg Value.bool hc93) ?_
              refine wp_skip ?_
              refine c_seq ?_
              refine c_seq (c_region ?_)
              refine pl_val (.int .i64 r92) (y_move rfl) ?_
              refine pl_val (.int .i64 r70.1) (y_move rfl) ?_
              refine pl_val (.bool (r92 != r70.1)) (y_neq rfl rfl) ?_
              refine c_nil ?_
              rcases bif_some hs with ⟨hc94, hs⟩ | ⟨hc94, hs⟩
              ·skip
               refine c_condT (congrArg Value.bool hc94) ?_
               refine c_seq (c_region ?_)
               refine pl_val (.bool false) (y_assign rfl) ?_
               refine c_nil ?_
               refine wp_ret ?_
               cases hs
               exact ⟨_, fr_ovl 117 ⟨rfl, trivial⟩, hC⟩
              ·skip
               refine c_condF (congrArg Value.bool hc94) ?_
               refine wp_skip ?_
               refine c_seq (c_region ?_)
               refine pl_val (.bool true) (y_assign rfl) ?_
               refine c_nil ?_
               refine wp_ret ?_
               cases hs
               exact ⟨_, fr_ovl 117 ⟨rfl, trivial⟩, hC⟩

end Go.Proofs
