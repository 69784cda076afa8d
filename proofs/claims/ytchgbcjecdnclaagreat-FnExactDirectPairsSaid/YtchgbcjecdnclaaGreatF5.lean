/- What functions of the program compute, as plain functions, and that a call gives just that. Conditions: those named in each theorem. -/
import Derived.Test.YtchgbcjecdnclaaGreatF4
set_option linter.unusedVariables false
namespace Go.Proofs
open Go.G Go.RowKit
set_option maxRecDepth 100000

def k_laws_FnExactDirectPairs (M : Nat → Prop) (w0 : World) (r : Bool) (a : Act) (w : World) : Prop :=
  ∃ (σ : Nat → Value) , a = fr 96 (ovl σ [(2, (.bool r))]) ∧ Chg [] w0 w
def s_laws_FnExactDirectPairs (aA : Int × (List (Int × (List Int)))) : Option (Bool) :=
  (s_laws_szAlgebra (aA.1, aA.2) 1048576).bind fun r4 =>
  (bif (decide (r4 < 0)) then some true else (s_laws_toAlgebra (aA.1, aA.2)).bind fun r7 =>
  (s_spec_DirectPairs (r7.1, r7.2)).bind fun r10 =>
  (s_laws_toAlgebra (aA.1, aA.2)).bind fun r13 =>
  (s_impl_DirectPairs (r13.1, r13.2)).bind fun r18 =>
  ((s_laws_eqIntSSS r18.1 r10.1).bind fun r24 =>
  (bif (!r24) then some true else some (!(r18.2 == r10.2)))).bind fun s20 =>
  (bif s20 then some false else (s_laws_toAlgebra (aA.1, aA.2)).bind fun r35 =>
  (s_laws_eqAlgebra (r13.1, r13.2) (r35.1, r35.2)).bind fun r38 =>
  (bif (!r38) then some false else (s_laws_markAlgebra (r13.1, r13.2) 1).bind fun r41 =>
  ((bif (decide (r41.1 < 0)) then some true else (s_laws_eqIntSSS r18.1 r10.1).bind fun r47 =>
  (bif (!r47) then some true else some (!(r18.2 == r10.2))))).bind fun s42 =>
  (bif s42 then some false else (s_laws_markIntSSS r18.1 1).bind fun r51 =>
  (s_laws_heldIntSSS r51.2 1).bind fun r53 =>
  (bif (decide (r53 < 0)) then some false else (bif (r53 != r51.1) then some false else (s_laws_toAlgebra (aA.1, aA.2)).bind fun r57 =>
  (s_impl_DirectPairs (r57.1, r57.2)).bind fun r60 =>
  ((s_laws_eqIntSSS r60.1 r10.1).bind fun r66 =>
  (bif (!r66) then some true else some (!(r60.2 == r10.2)))).bind fun s62 =>
  (bif s62 then some false else (s_laws_heldIntSSS r51.2 1).bind fun r70 =>
  (bif (decide (r70 < 0)) then some false else (bif (r70 != r51.1) then some false else some true)))))))))
set_option maxHeartbeats 4000000 in
theorem c_laws_FnExactDirectPairs {M : Nat → Prop} {w : World} {pa0 : Option Addr} {pn0 pc0 : Nat} (aA : Int × (List (Int × (List Int)))) (h0 : (RT.rs (RT.pr (RT.int .i64) (RT.rs (RT.int .i64)))).val M w (.slice pa0 pn0 pc0) aA.2 ([])) (hM : ∀ g, w.heap.size ≤ g → M g) {r : Bool} (hs : s_laws_FnExactDirectPairs aA = some r) :
    Gives Tryz.prog 4 [(.agg #[(.int .i64 aA.1), (.slice pa0 pn0 pc0)])] w (fun v w' => v = (.bool r) ∧ Chg [] w w') := by
 refine calls_fr Tryz.func4 rfl Tryz.ntmps4 (Nat.le_of_ble_eq_true rfl) ?_
 have hO := Own.start (N := Nw w []) hM Nw.fut
 have hC := Chg.refl [] w
 unfold s_laws_FnExactDirectPairs at hs
 refine wp_mono (Q := KPost (k_laws_FnExactDirectPairs M w r)) ?_ (fun e a w1 h => ?_)
 rotate_left
 ·cases e
  case ret =>
   obtain ⟨σ, rfl, hrest⟩ := h
   exact ret1x Tryz.results4 (res_tmp rfl) ⟨rfl, hrest⟩
  all_goals exact (h : False).elim
 refine c_seq (c_region ?_)
 obtain ⟨w2, g2, ew2, eg2, hC2, hb2⟩ := new_block w [(.int .i64 aA.1), (.slice pa0 pn0 pc0)] 24
 refine pl_val (w' := w2) (.pointer (some ⟨g2, 0, none⟩)) (y_box rfl (by rw [ew2, eg2]; kernel_rfl)) ?_
 have h0 := h0.ext hC2
 have hC := hC.ext hC2
 have hO := hO.new1 hC2 eg2 hb2.lt
 refine pl_val (.bool false) (y_assign rfl) ?_
 refine c_nil ?_
 refine c_seq (c_region ?_)
 refine pl_val (.int .i64 1048576) (y_assign rfl) ?_
 refine c_nil ?_
 refine c_seq (c_region ?_)
 refine pl_val (.agg #[(.int .i64 aA.1), (.slice pa0 pn0 pc0)]) (y_load rfl ((box_load Ag24 Sz24 hb2 [] [(.int .i64 aA.1), (.slice pa0 pn0 pc0)] [] rfl rfl (fun h => nomatch h)) _ (Chg.refl _ _))) ?_
 refine pl_val (.int .i64 1048576) (y_move rfl) ?_
 obtain ⟨r4, hr4, hs⟩ := bind_some hs
 refine pl_call Bd5 rfl (c_laws_szAlgebra (M := M) (aA.1, aA.2) 1048576 h0 hO.fut hr4) ?_
 rintro _ w3 ⟨rfl, hC3⟩
 have h0 := h0.ext hC3
 have hb2 := hb2.chg hC3 (fun h => nomatch h)
 have hC := hC.ext hC3
 have hO := hO.ext hC3
 refine pl_val (.int .i64 r4) (y_assign rfl) ?_
 refine c_nil ?_
 refine c_seq ?_
 refine c_seq (c_region ?_)
 refine pl_val (.int .i64 r4) (y_move rfl) ?_
 refine pl_val (.bool (decide (r4 < 0))) (y_lss rfl rfl) ?_
 refine c_nil ?_
 rcases bif_some hs with ⟨hc5, hs⟩ | ⟨hc5, hs⟩
 ·skip
  refine c_condT (congrArg Value.bool hc5) ?_
  refine c_seq (c_region ?_)
  refine pl_val (.bool true) (y_assign rfl) ?_
  refine c_nil ?_
  refine wp_ret ?_
  cases hs
  exact ⟨_, fr_ovl 96 ⟨rfl, trivial⟩, hC⟩
 ·skip
  refine c_condF (congrArg Value.bool hc5) ?_
  refine wp_skip ?_
  refine c_seq (c_region ?_)
  refine pl_val (.agg #[(.int .i64 aA.1), (.slice pa0 pn0 pc0)]) (y_load rfl ((box_load Ag24 Sz24 hb2 [] [(.int .i64 aA.1), (.slice pa0 pn0 pc0)] [] rfl rfl (fun h => nomatch h)) _ (Chg.refl _ _))) ?_
  obtain ⟨r7, hr7, hs⟩ := bind_some hs
  refine pl_call Bd7 rfl (c_laws_toAlgebra (M := M) (aA.1, aA.2) h0 hO.fut hr7) ?_
  rintro _ w6 ⟨a6x0, n6x0, c6x0, f6x0, rfl, hC6, hv6x0, hOc6⟩
  have h0 := h0.ext hC6
  have hb2 := hb2.chg hC6 (fun h => nomatch h)
  have hC := hC.ext hC6
  have hO := Own.join0 hO hC6 hOc6
  have hO := hO.perm (R := f6x0 ++ (([g2]) ++ ([]))) (by simp)
  obtain ⟨r10, hr10, hs⟩ := bind_some hs
  refine pl_call Bd10 rfl (c_spec_DirectPairs (M := (Less M f6x0)) (r7.1, r7.2) (((Frz.os (Frz.pr Frz.int (Frz.os Frz.int)))).val hv6x0 Less.sub Less.not) hO.less.fut hr10) ?_
  rintro _ w9 ⟨a9x0, n9x0, c9x0, f9x0, rfl, hC9, hv9x0, hOc9⟩
  have h0 := h0.ext hC9
  have hb2 := hb2.chg hC9 (fun h => nomatch h)
  have hv6x0 := hv6x0.ext hC9
  have hC := hC.ext hC9
  have hO := Own.join0 hO hC9 hOc9
  have hO := hO.perm (R := f9x0 ++ (f6x0 ++ (([g2]) ++ ([])))) (by simp)
  have hv9x0 := hv9x0.free (M' := M) (Free.os (Free.os (Free.os Free.int)))
  refine pl_val (.tuple #[(.slice a9x0 n9x0 c9x0), (.bool r10.2)]) (y_move rfl) ?_
  refine pl_val (.slice a9x0 n9x0 c9x0) (y_extract rfl (by kernel_rfl)) ?_
  refine pl_val (.bool r10.2) (y_extract rfl (by kernel_rfl)) ?_
  refine pl_val (.slice a9x0 n9x0 c9x0) (y_assign rfl) ?_
  refine pl_val (.bool r10.2) (y_assign rfl) ?_
  refine c_nil ?_
  refine c_seq (c_region ?_)
  refine pl_val (.agg #[(.int .i64 aA.1), (.slice pa0 pn0 pc0)]) (y_load rfl ((box_load Ag24 Sz24 hb2 [] [(.int .i64 aA.1), (.slice pa0 pn0 pc0)] [] rfl rfl (fun h => nomatch h)) _ (Chg.refl _ _))) ?_
  obtain ⟨r13, hr13, hs⟩ := bind_some hs
  refine pl_call Bd7 rfl (c_laws_toAlgebra (M := M) (aA.1, aA.2) h0 hO.fut hr13) ?_
  rintro _ w12 ⟨a12x0, n12x0, c12x0, f12x0, rfl, hC12, hv12x0, hOc12⟩
  have h0 := h0.ext hC12
  have hb2 := hb2.chg hC12 (fun h => nomatch h)
  have hv6x0 := hv6x0.ext hC12
  have hv9x0 := hv9x0.ext hC12
  have hC := hC.ext hC12
  have hO := Own.join0 hO hC12 hOc12
  have hO := hO.perm (R := f12x0 ++ (f9x0 ++ (f6x0 ++ (([g2]) ++ ([]))))) (by simp)
  obtain ⟨w15, g15, ew15, eg15, hC15, hb15⟩ := new_block w12 [(.int .i64 0), (.slice none 0 0)] 30
  refine pl_val (w' := w15) (.pointer (some ⟨g15, 0, none⟩)) (y_alloc (by rw [ew15, eg15]; kernel_rfl)) ?_
  have h0 := h0.ext hC15
  have hb2 := hb2.chg hC15 (fun h => nomatch h)
  have hv6x0 := hv6x0.ext hC15
  have hv9x0 := hv9x0.ext hC15
  have hv12x0 := hv12x0.ext hC15
  have hC := hC.ext hC15
  have hO := hO.new1 hC15 eg15 hb15.lt
  obtain ⟨w16, hst16, hC16, hb16⟩ := box_store (P := Tryz.prog) hb15 [] [(.int .i64 0), (.slice none 0 0)] [] [(.int .i64 r13.1), (.slice a12x0 n12x0 c12x0)] rfl rfl (by intro u hu; simp only [List.mem_cons, List.not_mem_nil, or_false] at hu; rcases hu with rfl | rfl <;> rfl)
  refine pl_skip (w' := w16) (ys_store rfl rfl (hst16 _ _ rfl Sz30)) ?_
  have h0 := h0.mut hC16 (fun g hg => hO.inM g ((fun _ h => h) g hg)) (fun _ _ h => nomatch h)
  have hb2 := hb2.chg hC16 (fun hg => hO.apart _ ((fun _ h => h) _ hg) (mem_r (mem_r (mem_r (mem_l (List.mem_singleton.2 rfl))))))
  have hv6x0 := hv6x0.mut hC16 (fun g hg => hO.inM g ((fun _ h => h) g hg)) (fun g hg e => hO.apart g ((fun _ h => h) g hg) (mem_r (mem_r (mem_l (e)))))
  have hv9x0 := hv9x0.mut hC16 (fun g hg => hO.inM g ((fun _ h => h) g hg)) (fun g hg e => hO.apart g ((fun _ h => h) g hg) (mem_r (mem_l (e))))
  have hv12x0 := hv12x0.mut hC16 (fun g hg => hO.inM g ((fun _ h => h) g hg)) (fun g hg e => hO.apart g ((fun _ h => h) g hg) (mem_l (e)))
  have hC := hC.step hC16 (fun g hg => hO.inN g ((fun _ h => h) g hg))
  have hO := hO.ext hC16
  have hb16 : BoxV w16 g15 30 [(.int .i64 r13.1), (.slice a12x0 n12x0 c12x0)] := hb16
  refine c_nil ?_
  refine c_seq (c_region ?_)
  refine pl_val (.agg #[(.int .i64 r13.1), (.slice a12x0 n12x0 c12x0)]) (y_load rfl ((box_load Ag30 Sz30 hb16 [] [(.int .i64 r13.1), (.slice a12x0 n12x0 c12x0)] [] rfl rfl (fun h => nomatch h)) _ (Chg.refl _ _))) ?_
  have hO := hO.fr1
  obtain ⟨r18, hr18, hs⟩ := bind_some hs
  refine pl_call Bd11 rfl (c_impl_DirectPairs (M := (Less M f12x0)) (r13.1, r13.2) (((Frz.os (Frz.pr Frz.int (Frz.os Frz.int)))).val hv12x0 Less.sub Less.not) hO.less.fut hr18) ?_
  rintro _ w17 ⟨a17x0, n17x0, c17x0, f17x0, rfl, hC17, hv17x0, hOc17⟩
  have h0 := h0.ext hC17
  have hb2 := hb2.chg hC17 (fun h => nomatch h)
  have hv6x0 := hv6x0.ext hC17
  have hv9x0 := hv9x0.ext hC17
  have hv12x0 := hv12x0.ext hC17
  have hb16 := hb16.chg hC17 (fun h => nomatch h)
  have hC := hC.ext hC17
  have hO := Own.join0 hO hC17 hOc17
  have hO := hO.perm (R := f17x0 ++ (f12x0 ++ (([g15]) ++ (f9x0 ++ (f6x0 ++ (([g2]) ++ ([]))))))) (by simp)
  have hv17x0 := hv17x0.free (M' := M) (Free.os (Free.os (Free.os Free.int)))
  refine pl_val (.tuple #[(.slice a17x0 n17x0 c17x0), (.bool r18.2)]) (y_move rfl) ?_
  refine pl_val (.slice a17x0 n17x0 c17x0) (y_extract rfl (by kernel_rfl)) ?_
  refine pl_val (.bool r18.2) (y_extract rfl (by kernel_rfl)) ?_
  refine pl_val (.slice a17x0 n17x0 c17x0) (y_assign rfl) ?_
  refine pl_val (.bool r18.2) (y_assign rfl) ?_
  refine c_nil ?_
  refine c_seq ?_
  refine c_seq ?_
  obtain ⟨s20, hm22, hs⟩ := bind_some hs
  refine c_mid (I := fun a w21 => ∃ (σ : Nat → Value), a = fr 96 (ovl σ [(1, (.pointer (some ⟨g2, 0, none⟩))), (2, (.bool false)), (4, (.slice a9x0 n9x0 c9x0)), (5, (.bool r10.2)), (6, (.pointer (some ⟨g15, 0, none⟩))), (7, (.slice a17x0 n17x0 c17x0)), (8, (.bool r18.2)), (40, (.bool s20))]) ∧ Chg [] w17 w21) ?_ ?_
  ·replace hs := hm22
   have hMid := Chg.refl [] w17
   refine c_region ?_
   refine pl_val (.slice a17x0 n17x0 c17x0) (y_move rfl) ?_
   refine pl_val (.slice a9x0 n9x0 c9x0) (y_move rfl) ?_
   have hO := hO.fr3
   have hO := hO.fr1
   obtain ⟨r24, hr24, hs⟩ := bind_some hs
   refine pl_call Bd12 rfl (c_laws_eqIntSSS (M := (Less (Less M f17x0) f9x0)) r18.1 r10.1 ((((Frz.os (Frz.os (Frz.os Frz.int)))).val hv17x0 Less.sub Less.not).sub Less.sub) (((Frz.os (Frz.os (Frz.os Frz.int)))).val (hv9x0.sub Less.sub) Less.sub Less.not) (hO.less).less.fut hr24) ?_
   rintro _ w23 ⟨rfl, hC23⟩
   have h0 := h0.ext hC23
   have hb2 := hb2.chg hC23 (fun h => nomatch h)
   have hv6x0 := hv6x0.ext hC23
   have hv9x0 := hv9x0.ext hC23
   have hv12x0 := hv12x0.ext hC23
   have hb16 := hb16.chg hC23 (fun h => nomatch h)
   have hv17x0 := hv17x0.ext hC23
   have hMid := hMid.ext hC23
   have hC := hC.ext hC23
   have hO := hO.ext hC23
   refine pl_val (.bool (!r24)) (y_not rfl) ?_
   refine pl_val (.bool (!r24)) (y_move rfl) ?_
   rcases bif_some hs with ⟨hc25, hs⟩ | ⟨hc25, hs⟩
   ·skip
    refine pl_not (tg := 36) (by kernel_rfl) (congrArg Value.bool hc25) ?_
    refine pl_not (tg := 36) (by kernel_rfl) (congrArg Value.bool hc25) ?_
    refine pl_not (tg := 36) (by kernel_rfl) (congrArg Value.bool hc25) ?_
    refine pl_val (.bool true) (y_pick_t (congrArg Value.bool hc25) rfl) ?_
    refine c_nil ?_
    cases hs
    exact ⟨_, fr_ovl 96 ⟨rfl, rfl, rfl, rfl, rfl, rfl, rfl, rfl, trivial⟩, hMid⟩
   ·skip
    refine pl_yes (.bool r18.2) (tg := 36) (by kernel_rfl) (congrArg Value.bool hc25) (y_move rfl) ?_
    refine pl_yes (.bool r10.2) (tg := 36) (by kernel_rfl) (congrArg Value.bool hc25) (y_move rfl) ?_
    refine pl_yes (.bool (!(r18.2 == r10.2))) (tg := 36) (by kernel_rfl) (congrArg Value.bool hc25) (y_bneq Tryz.underlying4 rfl rfl) ?_
    refine pl_val (.bool (!(r18.2 == r10.2))) (y_pick_f (congrArg Value.bool hc25) rfl) ?_
    refine c_nil ?_
    cases hs
    exact ⟨_, fr_ovl 96 ⟨rfl, rfl, rfl, rfl, rfl, rfl, rfl, rfl, trivial⟩, hMid⟩
  ·rintro a1 w21 ⟨σ, rfl, hCs20⟩
   have h0 := h0.ext hCs20
   have hb2 := hb2.chg hCs20 (fun h => nomatch h)
   have hv6x0 := hv6x0.ext hCs20
   have hv9x0 := hv9x0.ext hCs20
   have hv12x0 := hv12x0.ext hCs20
   have hb16 := hb16.chg hCs20 (fun h => nomatch h)
   have hv17x0 := hv17x0.ext hCs20
   have hC := hC.ext hCs20
   have hO := hO.ext hCs20
   rcases bif_some hs with ⟨hc26, hs⟩ | ⟨hc26, hs⟩
   ·skip
    refine c_condT (congrArg Value.bool hc26) ?_
    refine c_seq (c_region ?_)
    refine pl_val (.bool false) (y_assign rfl) ?_
    refine c_nil ?_
    refine wp_ret ?_
    cases hs
    exact ⟨_, fr_ovl 96 ⟨rfl, trivial⟩, hC⟩
   ·skip
    refine c_condF (congrArg Value.bool hc26) ?_
    refine wp_skip ?_
    refine c_seq ?_
    refine c_seq ?_
    refine x_start [] Mx rfl ?_
    have hCw33 := Chg.drew w21
    generalize World.drew w21 = w33 at hCw33 ⊢
    have h0 := h0.ext hCw33
    have hb2 := hb2.chg hCw33 (fun h => nomatch h)
    have hv6x0 := hv6x0.ext hCw33
    have hv9x0 := hv9x0.ext hCw33
    have hv12x0 := hv12x0.ext hCw33
    have hb16 := hb16.chg hCw33 (fun h => nomatch h)
    have hv17x0 := hv17x0.ext hCw33
    have hC := hC.ext hCw33
    have hO := hO.ext hCw33
    have hS := Chg.refl [] w33
    refine x_l 0 (.agg #[(.int .i64 r13.1), (.slice a12x0 n12x0 c12x0)]) rfl (by kernel_rfl)  (fun w' hw' => y_load rfl ((box_load Ag30 Sz30 hb16 [] [(.int .i64 r13.1), (.slice a12x0 n12x0 c12x0)] [] rfl rfl (fun h => nomatch h)) w' hw')) hS ?_
    refine x_l 1 (.agg #[(.int .i64 aA.1), (.slice pa0 pn0 pc0)]) rfl (by kernel_rfl)  (fun w' hw' => y_load rfl ((box_load Ag24 Sz24 hb2 [] [(.int .i64 aA.1), (.slice pa0 pn0 pc0)] [] rfl rfl (fun h => nomatch h)) w' hw')) hS ?_
    refine x_one (i := 2) (by kernel_rfl) ?_
    obtain ⟨r35, hr35, hs⟩ := bind_some hs
    refine xk_call (b := false) rfl  Bd7 rfl (c_laws_toAlgebra (M := M) (aA.1, aA.2) h0 hO.fut hr35) rfl (by rintro _ _ _ ⟨a34x0, n34x0, c34x0, f34x0, rfl, hC34, hv34x0, hOc34⟩; exact hS.ext hC34) ?_
    rintro _ w34 ⟨a34x0, n34x0, c34x0, f34x0, rfl, hC34, hv34x0, hOc34⟩
    have h0 := h0.ext hC34
    have hb2 := hb2.chg hC34 (fun h => nomatch h)
    have hv6x0 := hv6x0.ext hC34
    have hv9x0 := hv9x0.ext hC34
    have hv12x0 := hv12x0.ext hC34
    have hb16 := hb16.chg hC34 (fun h => nomatch h)
    have hv17x0 := hv17x0.ext hC34
    have hC := hC.ext hC34
    have hO := Own.join0 hO hC34 hOc34
    have hO := hO.perm (R := f34x0 ++ (f17x0 ++ (f12x0 ++ (([g15]) ++ (f9x0 ++ (f6x0 ++ (([g2]) ++ ([])))))))) (by simp)
    have hS := hS.ext hC34
    refine x_one (i := 3) (by kernel_rfl) ?_
    have hO := hO.fr2
    obtain ⟨r38, hr38, hs⟩ := bind_some hs
    refine xk_call (b := false) rfl  Bd9 rfl (c_laws_eqAlgebra (M := (Less (Less M f12x0) f34x0)) (r13.1, r13.2) (r35.1, r35.2) ((((Frz.os (Frz.pr Frz.int (Frz.os Frz.int)))).val hv12x0 Less.sub Less.not).sub Less.sub) (((Frz.os (Frz.pr Frz.int (Frz.os Frz.int)))).val (hv34x0.sub Less.sub) Less.sub Less.not) (hO.less).less.fut hr38) rfl (by rintro _ _ _ ⟨rfl, hC37⟩; exact hS.ext hC37) ?_
    rintro _ w37 ⟨rfl, hC37⟩
    have h0 := h0.ext hC37
    have hb2 := hb2.chg hC37 (fun h => nomatch h)
    have hv6x0 := hv6x0.ext hC37
    have hv9x0 := hv9x0.ext hC37
    have hv12x0 := hv12x0.ext hC37
    have hb16 := hb16.chg hC37 (fun h => nomatch h)
    have hv17x0 := hv17x0.ext hC37
    have hv34x0 := hv34x0.ext hC37
    have hC := hC.ext hC37
    have hO := hO.ext hC37
    have hS := hS.ext hC37
    refine x_p 4 (.bool (!r38)) rfl (by kernel_rfl)  (fun _ => y_not rfl) (fun _ => hS) ?_
    refine x_end (by kernel_rfl) ?_
    clear hS
    rcases bif_some hs with ⟨hc39, hs⟩ | ⟨hc39, hs⟩
    ·skip
     refine c_condT (congrArg Value.bool hc39) ?_
     refine c_seq (c_region ?_)
     refine pl_val (.bool false) (y_assign rfl) ?_
     refine c_nil ?_
     refine wp_ret ?_
     cases hs
     exact ⟨_, fr_ovl 96 ⟨rfl, trivial⟩, hC⟩
    ·skip
     refine c_condF (congrArg Value.bool hc39) ?_
     refine wp_skip ?_
     refine c_seq (c_region ?_)
     refine pl_val (.int .i64 1) (y_assign rfl) ?_
     refine c_nil ?_
     refine c_seq (c_region ?_)
     refine pl_val (.agg #[(.int .i64 r13.1), (.slice a12x0 n12x0 c12x0)]) (y_load rfl ((box_load Ag30 Sz30 hb16 [] [(.int .i64 r13.1), (.slice a12x0 n12x0 c12x0)] [] rfl rfl (fun h => nomatch h)) _ (Chg.refl _ _))) ?_
     refine pl_val (.int .i64 1) (y_move rfl) ?_
     have hL40 := hO
     have hI40 := Own.lend (F := (f12x0 ++ ([]))) (R := f34x0 ++ (f17x0 ++ (([g15]) ++ (f9x0 ++ (f6x0 ++ (([g2]) ++ ([]))))))) (Own.perm (hL40) (by simp))
     obtain ⟨r41, hr41, hs⟩ := bind_some hs
     refine pl_call Bd13 rfl (c_laws_markAlgebra (M := M) (r13.1, r13.2) 1 hv12x0 hI40 hI40.fut hr41) ?_
     rintro _ w40 ⟨fi40x0, rfl, hC40, hvi40x0, hOc40⟩
     have hO := hO.perm (R := (f12x0 ++ ([])) ++ (f34x0 ++ (f17x0 ++ (([g15]) ++ (f9x0 ++ (f6x0 ++ (([g2]) ++ ([])))))))) (by simp)
     have h0 := h0.mut hC40 (fun g hg => hO.inM g ((fun _ h => h) g hg)) (fun _ _ h => nomatch h)
     have hb2 := hb2.chg hC40 (fun hg => hO.apart _ ((fun _ h => h) _ hg) (mem_r (mem_r (mem_r (mem_r (mem_r (mem_l (List.mem_singleton.2 rfl))))))))
     have hv6x0 := hv6x0.mut hC40 (fun g hg => hO.inM g ((fun _ h => h) g hg)) (fun g hg e => hO.apart g ((fun _ h => h) g hg) (mem_r (mem_r (mem_r (mem_r (mem_l (e)))))))
     have hv9x0 := hv9x0.mut hC40 (fun g hg => hO.inM g ((fun _ h => h) g hg)) (fun g hg e => hO.apart g ((fun _ h => h) g hg) (mem_r (mem_r (mem_r (mem_l (e))))))
     have hb16 := hb16.chg hC40 (fun hg => hO.apart _ ((fun _ h => h) _ hg) (mem_r (mem_r (mem_l (List.mem_singleton.2 rfl)))))
     have hv17x0 := hv17x0.mut hC40 (fun g hg => hO.inM g ((fun _ h => h) g hg)) (fun g hg e => hO.apart g ((fun _ h => h) g hg) (mem_r (mem_l (e))))
     have hv34x0 := hv34x0.mut hC40 (fun g hg => hO.inM g ((fun _ h => h) g hg)) (fun g hg e => hO.apart g ((fun _ h => h) g hg) (mem_l (e)))
     have hC := hC.step hC40 (fun g hg => hO.inN g ((fun _ h => h) g hg))
     have hO := Own.join hO hC40 hOc40
     have hO := hO.perm (R := fi40x0 ++ (f34x0 ++ (f17x0 ++ (([g15]) ++ (f9x0 ++ (f6x0 ++ (([g2]) ++ ([])))))))) (by simp)
     refine pl_val (.int .i64 r41.1) (y_assign rfl) ?_
     refine c_nil ?_
     refine c_seq ?_
     refine c_seq ?_
     obtain ⟨s42, hm44, hs⟩ := bind_some hs
     refine c_mid (I := fun a w43 => ∃ (σ : Nat → Value), a = fr 96 (ovl σ [(1, (.pointer (some ⟨g2, 0, none⟩))), (2, (.bool false)), (4, (.slice a9x0 n9x0 c9x0)), (5, (.bool r10.2)), (7, (.slice a17x0 n17x0 c17x0)), (61, (.bool s42))]) ∧ Chg [] w40 w43) ?_ ?_
     ·replace hs := hm44
      have hMid := Chg.refl [] w40
      refine c_region ?_
      refine pl_val (.int .i64 r41.1) (y_move rfl) ?_
      refine pl_val (.bool (decide (r41.1 < 0))) (y_lss rfl rfl) ?_
      refine pl_val (.bool (decide (r41.1 < 0))) (y_move rfl) ?_
      rcases bif_some hs with ⟨hc45, hs⟩ | ⟨hc45, hs⟩
      ·skip
       refine pl_not (tg := 51) (by kernel_rfl) (congrArg Value.bool hc45) ?_
       refine pl_not (tg := 51) (by kernel_rfl) (congrArg Value.bool hc45) ?_
       refine pl_not (tg := 51) (by kernel_rfl) (congrArg Value.bool hc45) ?_
       refine pl_not (tg := 51) (by kernel_rfl) (congrArg Value.bool hc45) ?_
       refine pl_val (.bool true) (y_pick_t (congrArg Value.bool hc45) rfl) ?_
       refine pl_val (.bool true) (y_move rfl) ?_
       refine pl_not (tg := 57) (by kernel_rfl) (by rfl) ?_
       refine pl_not (tg := 57) (by kernel_rfl) (by rfl) ?_
       refine pl_not (tg := 57) (by kernel_rfl) (by rfl) ?_
       refine pl_val (.bool true) (y_pick_t (by rfl) rfl) ?_
       refine c_nil ?_
       cases hs
       exact ⟨_, fr_ovl 96 ⟨rfl, rfl, rfl, rfl, rfl, rfl, trivial⟩, hMid⟩
      ·skip
       refine pl_yes (.slice a17x0 n17x0 c17x0) (tg := 51) (by kernel_rfl) (congrArg Value.bool hc45) (y_move rfl) ?_
       refine pl_yes (.slice a9x0 n9x0 c9x0) (tg := 51) (by kernel_rfl) (congrArg Value.bool hc45) (y_move rfl) ?_
       have hO := hO.fr4
       have hO := hO.fr3
       obtain ⟨r47, hr47, hs⟩ := bind_some hs
       refine pl_cally (tg := 51) (by kernel_rfl) (congrArg Value.bool hc45) Bd12 rfl (c_laws_eqIntSSS (M := (Less (Less M f17x0) f9x0)) r18.1 r10.1 ((((Frz.os (Frz.os (Frz.os Frz.int)))).val hv17x0 Less.sub Less.not).sub Less.sub) (((Frz.os (Frz.os (Frz.os Frz.int)))).val (hv9x0.sub Less.sub) Less.sub Less.not) (hO.less).less.fut hr47) ?_
       rintro _ w46 ⟨rfl, hC46⟩
       have h0 := h0.ext hC46
       have hb2 := hb2.chg hC46 (fun h => nomatch h)
       have hv6x0 := hv6x0.ext hC46
       have hv9x0 := hv9x0.ext hC46
       have hvi40x0 := hvi40x0.ext hC46
       have hb16 := hb16.chg hC46 (fun h => nomatch h)
       have hv17x0 := hv17x0.ext hC46
       have hv34x0 := hv34x0.ext hC46
       have hMid := hMid.ext hC46
       have hC := hC.ext hC46
       have hO := hO.ext hC46
       refine pl_yes (.bool (!r47)) (tg := 51) (by kernel_rfl) (congrArg Value.bool hc45) (y_not rfl) ?_
       refine pl_val (.bool (!r47)) (y_pick_f (congrArg Value.bool hc45) rfl) ?_
       refine pl_val (.bool (!r47)) (y_move rfl) ?_
       rcases bif_some hs with ⟨hc48, hs⟩ | ⟨hc48, hs⟩
       ·skip
        refine pl_not (tg := 57) (by kernel_rfl) (congrArg Value.bool hc48) ?_
        refine pl_not (tg := 57) (by kernel_rfl) (congrArg Value.bool hc48) ?_
        refine pl_not (tg := 57) (by kernel_rfl) (congrArg Value.bool hc48) ?_
        refine pl_val (.bool true) (y_pick_t (congrArg Value.bool hc48) rfl) ?_
        refine c_nil ?_
        cases hs
        exact ⟨_, fr_ovl 96 ⟨rfl, rfl, rfl, rfl, rfl, rfl, trivial⟩, hMid⟩
       ·skip
        refine pl_yes (.bool r18.2) (tg := 57) (by kernel_rfl) (congrArg Value.bool hc48) (y_move rfl) ?_
        refine pl_yes (.bool r10.2) (tg := 57) (by kernel_rfl) (congrArg Value.bool hc48) (y_move rfl) ?_
        refine pl_yes (.bool (!(r18.2 == r10.2))) (tg := 57) (by kernel_rfl) (congrArg Value.bool hc48) (y_bneq Tryz.underlying4 rfl rfl) ?_
        refine pl_val (.bool (!(r18.2 == r10.2))) (y_pick_f (congrArg Value.bool hc48) rfl) ?_
        refine c_nil ?_
        cases hs
        exact ⟨_, fr_ovl 96 ⟨rfl, rfl, rfl, rfl, rfl, rfl, trivial⟩, hMid⟩
     ·rintro a1 w43 ⟨σ, rfl, hCs42⟩
      have h0 := h0.ext hCs42
      have hb2 := hb2.chg hCs42 (fun h => nomatch h)
      have hv6x0 := hv6x0.ext hCs42
      have hv9x0 := hv9x0.ext hCs42
      have hvi40x0 := hvi40x0.ext hCs42
      have hb16 := hb16.chg hCs42 (fun h => nomatch h)
      have hv17x0 := hv17x0.ext hCs42
      have hv34x0 := hv34x0.ext hCs42
      have hC := hC.ext hCs42
      have hO := hO.ext hCs42
      rcases bif_some hs with ⟨hc49, hs⟩ | ⟨hc49, hs⟩
      ·skip
       refine c_condT (congrArg Value.bool hc49) ?_
       refine c_seq (c_region ?_)
       refine pl_val (.bool false) (y_assign rfl) ?_
       refine c_nil ?_
       refine wp_ret ?_
       cases hs
       exact ⟨_, fr_ovl 96 ⟨rfl, trivial⟩, hC⟩
      ·skip
       refine c_condF (congrArg Value.bool hc49) ?_
       refine wp_skip ?_
       refine c_seq (c_region ?_)
       refine pl_val (.int .i64 1) (y_assign rfl) ?_
       refine c_nil ?_
       refine c_seq (c_region ?_)
       refine pl_val (.slice a17x0 n17x0 c17x0) (y_move rfl) ?_
       refine pl_val (.int .i64 1) (y_move rfl) ?_
       have hO := hO.fr2
       have hL50 := hO
       have hI50 := Own.lend (F := (f17x0 ++ ([]))) (R := fi40x0 ++ (f34x0 ++ (([g15]) ++ (f9x0 ++ (f6x0 ++ (([g2]) ++ ([]))))))) (Own.perm (hL50) (by simp))
       obtain ⟨r51, hr51, hs⟩ := bind_some hs
       refine pl_call Bd14 rfl (c_laws_markIntSSS (M := M) r18.1 1 hv17x0 hI50 hI50.fut hr51) ?_
       rintro _ w50 ⟨fi50x0, rfl, hC50, hvi50x0, hOc50⟩
       have hO := hO.perm (R := (f17x0 ++ ([])) ++ (fi40x0 ++ (f34x0 ++ (([g15]) ++ (f9x0 ++ (f6x0 ++ (([g2]) ++ ([])))))))) (by simp)
       have h0 := h0.mut hC50 (fun g hg => hO.inM g ((fun _ h => h) g hg)) (fun _ _ h => nomatch h)
       have hb2 := hb2.chg hC50 (fun hg => hO.apart _ ((fun _ h => h) _ hg) (mem_r (mem_r (mem_r (mem_r (mem_r (mem_l (List.mem_singleton.2 rfl))))))))
       have hv6x0 := hv6x0.mut hC50 (fun g hg => hO.inM g ((fun _ h => h) g hg)) (fun g hg e => hO.apart g ((fun _ h => h) g hg) (mem_r (mem_r (mem_r (mem_r (mem_l (e)))))))
       have hv9x0 := hv9x0.mut hC50 (fun g hg => hO.inM g ((fun _ h => h) g hg)) (fun g hg e => hO.apart g ((fun _ h => h) g hg) (mem_r (mem_r (mem_r (mem_l (e))))))
       have hvi40x0 := hvi40x0.mut hC50 (fun g hg => hO.inM g ((fun _ h => h) g hg)) (fun g hg e => hO.apart g ((fun _ h => h) g hg) (mem_l (e)))
       have hb16 := hb16.chg hC50 (fun hg => hO.apart _ ((fun _ h => h) _ hg) (mem_r (mem_r (mem_l (List.mem_singleton.2 rfl)))))
       have hv34x0 := hv34x0.mut hC50 (fun g hg => hO.inM g ((fun _ h => h) g hg)) (fun g hg e => hO.apart g ((fun _ h => h) g hg) (mem_r (mem_l (e))))
       have hC := hC.step hC50 (fun g hg => hO.inN g ((fun _ h => h) g hg))
       have hO := Own.join hO hC50 hOc50
       have hO := hO.perm (R := fi50x0 ++ (fi40x0 ++ (f34x0 ++ (([g15]) ++ (f9x0 ++ (f6x0 ++ (([g2]) ++ ([])))))))) (by simp)
       refine pl_val (.int .i64 r51.1) (y_assign rfl) ?_
       refine c_nil ?_
       refine c_seq (c_region ?_)
       refine pl_val (.int .i64 1) (y_assign rfl) ?_
       refine c_nil ?_
       refine c_seq (c_region ?_)
       refine pl_val (.slice a17x0 n17x0 c17x0) (y_move rfl) ?_
       refine pl_val (.int .i64 1) (y_move rfl) ?_
       obtain ⟨r53, hr53, hs⟩ := bind_some hs
       refine pl_call Bd15 rfl (c_laws_heldIntSSS (M := (Less M fi50x0)) r51.2 1 (((Frz.os (Frz.os (Frz.os Frz.int)))).val hvi50x0 Less.sub Less.not) hO.less.fut hr53) ?_
       rintro _ w52 ⟨rfl, hC52⟩
       have h0 := h0.ext hC52
       have hb2 := hb2.chg hC52 (fun h => nomatch h)
       have hv6x0 := hv6x0.ext hC52
       have hv9x0 := hv9x0.ext hC52
       have hvi40x0 := hvi40x0.ext hC52
       have hb16 := hb16.chg hC52 (fun h => nomatch h)
       have hvi50x0 := hvi50x0.ext hC52
       have hv34x0 := hv34x0.ext hC52
       have hC := hC.ext hC52
       have hO := hO.ext hC52
       refine pl_val (.int .i64 r53) (y_assign rfl) ?_
       refine c_nil ?_
       refine c_seq ?_
       refine c_seq (c_region ?_)
       refine pl_val (.int .i64 r53) (y_move rfl) ?_
       refine pl_val (.bool (decide (r53 < 0))) (y_lss rfl rfl) ?_
       refine c_nil ?_
       rcases bif_some hs with ⟨hc54, hs⟩ | ⟨hc54, hs⟩
       ·skip
        refine c_condT (congrArg Value.bool hc54) ?_
        refine c_seq (c_region ?_)
        refine pl_val (.bool false) (y_assign rfl) ?_
        refine c_nil ?_
        refine wp_ret ?_
        cases hs
        exact ⟨_, fr_ovl 96 ⟨rfl, trivial⟩, hC⟩
       ·skip
        refine c_condF (congrArg Value.bool hc54) ?_
        refine wp_skip ?_
        refine c_seq ?_
        refine c_seq (c_region ?_)
        refine pl_val (.int .i64 r53) (y_move rfl) ?_
        refine pl_val (.int .i64 r51.1) (y_move rfl) ?_
        refine pl_val (.bool (r53 != r51.1)) (y_neq rfl rfl) ?_
        refine c_nil ?_
        rcases bif_some hs with ⟨hc55, hs⟩ | ⟨hc55, hs⟩
        ·skip
         refine c_condT (congrArg Value.bool hc55) ?_
         refine c_seq (c_region ?_)
         refine pl_val (.bool false) (y_assign rfl) ?_
         refine c_nil ?_
         refine wp_ret ?_
         cases hs
         exact ⟨_, fr_ovl 96 ⟨rfl, trivial⟩, hC⟩
        ·skip
         refine c_condF (congrArg Value.bool hc55) ?_
         refine wp_skip ?_
         refine c_seq (c_region ?_)
         refine pl_val (.agg #[(.int .i64 aA.1), (.slice pa0 pn0 pc0)]) (y_load rfl ((box_load Ag24 Sz24 hb2 [] [(.int .i64 aA.1), (.slice pa0 pn0 pc0)] [] rfl rfl (fun h => nomatch h)) _ (Chg.refl _ _))) ?_
         obtain ⟨r57, hr57, hs⟩ := bind_some hs
         refine pl_call Bd7 rfl (c_laws_toAlgebra (M := M) (aA.1, aA.2) h0 hO.fut hr57) ?_
         rintro _ w56 ⟨a56x0, n56x0, c56x0, f56x0, rfl, hC56, hv56x0, hOc56⟩
         have h0 := h0.ext hC56
         have hb2 := hb2.chg hC56 (fun h => nomatch h)
         have hv6x0 := hv6x0.ext hC56
         have hv9x0 := hv9x0.ext hC56
         have hvi40x0 := hvi40x0.ext hC56
         have hb16 := hb16.chg hC56 (fun h => nomatch h)
         have hvi50x0 := hvi50x0.ext hC56
         have hv34x0 := hv34x0.ext hC56
         have hC := hC.ext hC56
         have hO := Own.join0 hO hC56 hOc56
         have hO := hO.perm (R := f56x0 ++ (fi50x0 ++ (fi40x0 ++ (f34x0 ++ (([g15]) ++ (f9x0 ++ (f6x0 ++ (([g2]) ++ ([]))))))))) (by simp)
         obtain ⟨r60, hr60, hs⟩ := bind_some hs
         refine pl_call Bd11 rfl (c_impl_DirectPairs (M := (Less M f56x0)) (r57.1, r57.2) (((Frz.os (Frz.pr Frz.int (Frz.os Frz.int)))).val hv56x0 Less.sub Less.not) hO.less.fut hr60) ?_
         rintro _ w59 ⟨a59x0, n59x0, c59x0, f59x0, rfl, hC59, hv59x0, hOc59⟩
         have h0 := h0.ext hC59
         have hb2 := hb2.chg hC59 (fun h => nomatch h)
         have hv6x0 := hv6x0.ext hC59
         have hv9x0 := hv9x0.ext hC59
         have hvi40x0 := hvi40x0.ext hC59
         have hb16 := hb16.chg hC59 (fun h => nomatch h)
         have hvi50x0 := hvi50x0.ext hC59
         have hv34x0 := hv34x0.ext hC59
         have hv56x0 := hv56x0.ext hC59
         have hC := hC.ext hC59
         have hO := Own.join0 hO hC59 hOc59
         have hO := hO.perm (R := f59x0 ++ (f56x0 ++ (fi50x0 ++ (fi40x0 ++ (f34x0 ++ (([g15]) ++ (f9x0 ++ (f6x0 ++ (([g2]) ++ ([])))))))))) (by simp)
         have hv59x0 := hv59x0.free (M' := M) (Free.os (Free.os (Free.os Free.int)))
         refine pl_val (.tuple #[(.slice a59x0 n59x0 c59x0), (.bool r60.2)]) (y_move rfl) ?_
         refine pl_val (.slice a59x0 n59x0 c59x0) (y_extract rfl (by kernel_rfl)) ?_
         refine pl_val (.bool r60.2) (y_extract rfl (by kernel_rfl)) ?_
         refine pl_val (.slice a59x0 n59x0 c59x0) (y_assign rfl) ?_
         refine pl_val (.bool r60.2) (y_assign rfl) ?_
         refine c_nil ?_
         refine c_seq ?_
         refine c_seq ?_
         obtain ⟨s62, hm64, hs⟩ := bind_some hs
         refine c_mid (I := fun a w63 => ∃ (σ : Nat → Value), a = fr 96 (ovl σ [(2, (.bool false)), (7, (.slice a17x0 n17x0 c17x0)), (10, (.int .i64 r51.1)), (11, (.int .i64 r53)), (87, (.bool s62))]) ∧ Chg [] w59 w63) ?_ ?_
         ·replace hs := hm64
          have hMid := Chg.refl [] w59
          refine c_region ?_
          refine pl_val (.slice a59x0 n59x0 c59x0) (y_move rfl) ?_
          refine pl_val (.slice a9x0 n9x0 c9x0) (y_move rfl) ?_
          have hO := hO.fr6
          have hO := hO.fr1
          obtain ⟨r66, hr66, hs⟩ := bind_some hs
          refine pl_call Bd12 rfl (c_laws_eqIntSSS (M := (Less (Less M f59x0) f9x0)) r60.1 r10.1 ((((Frz.os (Frz.os (Frz.os Frz.int)))).val hv59x0 Less.sub Less.not).sub Less.sub) (((Frz.os (Frz.os (Frz.os Frz.int)))).val (hv9x0.sub Less.sub) Less.sub Less.not) (hO.less).less.fut hr66) ?_
          rintro _ w65 ⟨rfl, hC65⟩
          have hb2 := hb2.chg hC65 (fun h => nomatch h)
          have hv6x0 := hv6x0.ext hC65
          have hv9x0 := hv9x0.ext hC65
          have hvi40x0 := hvi40x0.ext hC65
          have hb16 := hb16.chg hC65 (fun h => nomatch h)
          have hvi50x0 := hvi50x0.ext hC65
          have hv34x0 := hv34x0.ext hC65
          have hv56x0 := hv56x0.ext hC65
          have hv59x0 := hv59x0.ext hC65
          have hMid := hMid.ext hC65
          have hC := hC.ext hC65
          have hO := hO.ext hC65
          refine pl_val (.bool (!r66)) (y_not rfl) ?_
          refine pl_val (.bool (!r66)) (y_move rfl) ?_
          rcases bif_some hs with ⟨hc67, hs⟩ | ⟨hc67, hs⟩
          ·skip
           refine pl_not (tg := 83) (by kernel_rfl) (congrArg Value.bool hc67) ?_
           refine pl_not (tg := 83) (by kernel_rfl) (congrArg Value.bool hc67) ?_
           refine pl_not (tg := 83) (by kernel_rfl) (congrArg Value.bool hc67) ?_
           refine pl_val (.bool true) (y_pick_t (congrArg Value.bool hc67) rfl) ?_
           refine c_nil ?_
           cases hs
           exact ⟨_, fr_ovl 96 ⟨rfl, rfl, rfl, rfl, rfl, trivial⟩, hMid⟩
          ·skip
           refine pl_yes (.bool r60.2) (tg := 83) (by kernel_rfl) (congrArg Value.bool hc67) (y_move rfl) ?_
           refine pl_yes (.bool r10.2) (tg := 83) (by kernel_rfl) (congrArg Value.bool hc67) (y_move rfl) ?_
           refine pl_yes (.bool (!(r60.2 == r10.2))) (tg := 83) (by kernel_rfl) (congrArg Value.bool hc67) (y_bneq Tryz.underlying4 rfl rfl) ?_
           refine pl_val (.bool (!(r60.2 == r10.2))) (y_pick_f (congrArg Value.bool hc67) rfl) ?_
           refine c_nil ?_
           cases hs
           exact ⟨_, fr_ovl 96 ⟨rfl, rfl, rfl, rfl, rfl, trivial⟩, hMid⟩
         ·rintro a1 w63 ⟨σ, rfl, hCs62⟩
          have hb2 := hb2.chg hCs62 (fun h => nomatch h)
          have hv6x0 := hv6x0.ext hCs62
          have hv9x0 := hv9x0.ext hCs62
          have hvi40x0 := hvi40x0.ext hCs62
          have hb16 := hb16.chg hCs62 (fun h => nomatch h)
          have hvi50x0 := hvi50x0.ext hCs62
          have hv34x0 := hv34x0.ext hCs62
          have hv56x0 := hv56x0.ext hCs62
          have hv59x0 := hv59x0.ext hCs62
          have hC := hC.ext hCs62
          have hO := hO.ext hCs62
          rcases bif_some hs with ⟨hc68, hs⟩ | ⟨hc68, hs⟩
          ·skip
           refine c_condT (congrArg Value.bool hc68) ?_
           refine c_seq (c_region ?_)
           refine pl_val (.bool false) (y_assign rfl) ?_
           refine c_nil ?_
           refine wp_ret ?_
           cases hs
           exact ⟨_, fr_ovl 96 ⟨rfl, trivial⟩, hC⟩
          ·skip
           refine c_condF (congrArg Value.bool hc68) ?_
           refine wp_skip ?_
           refine c_seq (c_region ?_)
           refine pl_val (.int .i64 1) (y_assign rfl) ?_
           refine c_nil ?_
           refine c_seq (c_region ?_)
           refine pl_val (.slice a17x0 n17x0 c17x0) (y_move rfl) ?_
           refine pl_val (.int .i64 1) (y_move rfl) ?_
           have hO := hO.fr2
           obtain ⟨r70, hr70, hs⟩ := bind_some hs
           refine pl_call Bd15 rfl (c_laws_heldIntSSS (M := (Less M fi50x0)) r51.2 1 (((Frz.os (Frz.os (Frz.os Frz.int)))).val hvi50x0 Less.sub Less.not) hO.less.fut hr70) ?_
           rintro _ w69 ⟨rfl, hC69⟩
           have hb2 := hb2.chg hC69 (fun h => nomatch h)
           have hv6x0 := hv6x0.ext hC69
           have hv9x0 := hv9x0.ext hC69
           have hvi40x0 := hvi40x0.ext hC69
           have hb16 := hb16.chg hC69 (fun h => nomatch h)
           have hvi50x0 := hvi50x0.ext hC69
           have hv34x0 := hv34x0.ext hC69
           have hv56x0 := hv56x0.ext hC69
           have hv59x0 := hv59x0.ext hC69
           have hC := hC.ext hC69
           have hO := hO.ext hC69
           refine pl_val (.int .i64 r70) (y_assign rfl) ?_
           refine c_nil ?_
           refine c_seq ?_
           refine c_seq (c_region ?_)
           refine pl_val (.int .i64 r70) (y_move rfl) ?_
           refine pl_val (.bool (decide (r70 < 0))) (y_lss rfl rfl) ?_
           refine c_nil ?_
           rcases bif_some hs with ⟨hc71, hs⟩ | ⟨hc71, hs⟩
           ·skip
            refine c_condT (congrArg Value.bool hc71) ?_
            refine c_seq (c_region ?_)
            refine pl_val (.bool false) (y_assign rfl) ?_
            refine c_nil ?_
            refine wp_ret ?_
            cases hs
            exact ⟨_, fr_ovl 96 ⟨rfl, trivial⟩, hC⟩
           ·skip
            refine c_condF (congrArg Value.bool hc71) ?_
            refine wp_skip ?_
            refine c_seq ?_
            refine c_seq (c_region ?_)
            refine pl_val (.int .i64 r70) (y_move rfl) ?_
            refine pl_val (.int .i64 r51.1) (y_move rfl) ?_
            refine pl_val (.bool (r70 != r51.1)) (y_neq rfl rfl) ?_
            refine c_nil ?_
            rcases bif_some hs with ⟨hc72, hs⟩ | ⟨hc72, hs⟩
            ·skip
             refine c_condT (congrArg Value.bool hc72) ?_
             refine c_seq (c_region ?_)
             refine pl_val (.bool false) (y_assign rfl) ?_
             refine c_nil ?_
             refine wp_ret ?_
             cases hs
             exact ⟨_, fr_ovl 96 ⟨rfl, trivial⟩, hC⟩
            ·skip
             refine c_condF (congrArg Value.bool hc72) ?_
             refine wp_skip ?_
             refine c_seq (c_region ?_)
             refine pl_val (.bool true) (y_assign rfl) ?_
             refine c_nil ?_
             refine wp_ret ?_
             cases hs
             exact ⟨_, fr_ovl 96 ⟨rfl, trivial⟩, hC⟩

end Go.Proofs
