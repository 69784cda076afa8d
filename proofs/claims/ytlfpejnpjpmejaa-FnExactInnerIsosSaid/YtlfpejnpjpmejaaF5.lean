/- What functions of the program compute, as plain functions, and that a call gives just that. Conditions: those named in each theorem. -/
import Derived.Test.YtlfpejnpjpmejaaF4
set_option linter.unusedVariables false
namespace Go.Proofs
open Go.G Go.RowKit
set_option maxRecDepth 100000

def k_laws_heldRelationS (M : Nat → Prop) (w0 : World) (r : Int) (a : Act) (w : World) : Prop :=
  ∃ (σ : Nat → Value) , a = fr 31 (ovl σ [(4, (.int .i64 r))]) ∧ Chg [] w0 w
def s_laws_heldRelationS (a_ : List (Int × (List (List Int)))) (k : Int) : Option (Int) :=
  (forC (S := Int) (R := Int) (fun k16 s14 =>
  (idx a_ k16).bind fun x20 =>
  (bif (x20.1 != s14) then some (.rt (-1)) else (idx a_ k16).bind fun x24 =>
  (s_laws_heldIntSS x24.2 (w64 (s14 + 1))).bind fun r30 =>
  (bif (decide (r30 < 0)) then some (.rt (-1)) else some (.nx r30)))) 0 (a_.length : Int) k).bind fun o18 => after o18 (fun r_ => some r_) (fun s14 =>
  some s14)
set_option maxHeartbeats 4000000 in
theorem c_laws_heldRelationS {M : Nat → Prop} {w : World} {pa0 : Option Addr} {pn0 pc0 : Nat} (a_ : List (Int × (List (List Int)))) (k : Int) (h0 : (RT.rs (RT.pr (RT.int .i64) (RT.rs (RT.rs (RT.int .i64))))).val M w (.slice pa0 pn0 pc0) a_ ([])) (hM : ∀ g, w.heap.size ≤ g → M g) {r : Int} (hs : s_laws_heldRelationS a_ k = some r) :
    Gives Try.prog 23 [(.slice pa0 pn0 pc0), (.int .i64 k)] w (fun v w' => v = (.int .i64 r) ∧ Chg [] w w') := by
 refine calls_fr Try.func23 rfl Try.ntmps23 (Nat.le_of_ble_eq_true rfl) ?_
 have hO := Own.start (N := Nw w []) hM Nw.fut
 have hC := Chg.refl [] w
 unfold s_laws_heldRelationS at hs
 refine wp_mono (Q := KPost (k_laws_heldRelationS M w r)) ?_ (fun e a w1 h => ?_)
 rotate_left
 ·cases e
  case ret =>
   obtain ⟨σ, rfl, hrest⟩ := h
   exact ret1x Try.results23 (res_tmp rfl) ⟨rfl, hrest⟩
  all_goals exact (h : False).elim
 refine c_seq (c_region ?_)
 refine pl_val (.int .i64 0) (y_assign rfl) ?_
 refine c_nil ?_
 refine c_seq ?_
 refine c_seq (c_region ?_)
 refine pl_val (.int .i64 0) (y_assign rfl) ?_
 refine c_nil ?_
 obtain ⟨o18, hl19, hs⟩ := bind_some hs
 refine wp_block ?_
 refine wp_forC (id := 0) (a_.length : Int) (I := fun k16 s14 a w15 => ∃ (σ : Nat → Value), a = fr 31 (ovl σ [(0, (.slice pa0 pn0 pc0)), (1, (.int .i64 s14)), (5, (.int .i64 k16))]) ∧ Chg [] w w15 ∧ Own (Nw w []) M w15 ([]) ∧ (RT.rs (RT.pr (RT.int .i64) (RT.rs (RT.rs (RT.int .i64))))).val M w15 (.slice pa0 pn0 pc0) a_ ([])) (J := fun s14 a w15 => ∃ (σ : Nat → Value), a = fr 31 (ovl σ [(1, (.int .i64 s14))]) ∧ Chg [] w w15 ∧ Own (Nw w []) M w15 ([]) ∧ (RT.rs (RT.pr (RT.int .i64) (RT.rs (RT.rs (RT.int .i64))))).val M w15 (.slice pa0 pn0 pc0) a_ ([])) (K := (k_laws_heldRelationS M w)) ?_ ?_ 0 k o18 _ _ ?_ hl19 ?_
 ·rintro k16 s14 a w15 ⟨σ, rfl, hC, hO, h0⟩ hlt
  refine c_seq ?_
  refine c_seq (c_region ?_)
  refine pl_val (.int .i64 k16) (y_move rfl) ?_
  refine pl_val (.slice pa0 pn0 pc0) (y_move rfl) ?_
  refine pl_val (.int .i64 (a_.length : Int)) (y_len' Sl43 (rs_len h0) rfl) ?_
  refine pl_val (.bool (decide (k16 < (a_.length : Int)))) (y_lss rfl rfl) ?_
  refine c_nil ?_
  refine c_condF (congrArg Value.bool (decide_eq_false hlt)) ?_
  refine wp_exit ?_
  exact ⟨rfl, _, fr_ovl 31 ⟨rfl, trivial⟩, hC, hO, h0⟩
 ·rintro k16 s14 o18 a w15 ⟨σ, rfl, hC, hO, h0⟩ hlt hw hs
  refine c_seq ?_
  refine c_seq (c_region ?_)
  refine pl_val (.int .i64 k16) (y_move rfl) ?_
  refine pl_val (.slice pa0 pn0 pc0) (y_move rfl) ?_
  refine pl_val (.int .i64 (a_.length : Int)) (y_len' Sl43 (rs_len h0) rfl) ?_
  refine pl_val (.bool (decide (k16 < (a_.length : Int)))) (y_lss rfl rfl) ?_
  refine c_nil ?_
  refine c_condT (congrArg Value.bool (decide_eq_true hlt)) ?_
  refine wp_skip ?_
  refine c_seq ?_
  refine wp_block ?_
  refine c_seq ?_
  refine c_seq (c_region ?_)
  refine pl_val (.slice pa0 pn0 pc0) (y_move rfl) ?_
  refine pl_val (.int .i64 k16) (y_move rfl) ?_
  obtain ⟨x20, hx20, hs⟩ := bind_some hs
  obtain ⟨b21, o21, hp21, ha21⟩ := rs_idx Sl43 Sz51 h0 hx20
  refine pl_val (.pointer (some ⟨b21, o21, none⟩)) (hp21 _ _ _ _ _ _ _ _ _ rfl rfl) ?_
  obtain ⟨hq22, _⟩ := pr_at ha21
  refine pl_val (.pointer (some ⟨b21, o21 + 0, none⟩)) (y_faddr rfl Fa51x0) ?_
  refine pl_val (.int .i64 x20.1) (y_load rfl ((at_load_int Ag3 Sz3 hq22) _ (Chg.refl _ _))) ?_
  refine pl_val (.int .i64 s14) (y_move rfl) ?_
  refine pl_val (.bool (x20.1 != s14)) (y_neq rfl rfl) ?_
  refine c_nil ?_
  rcases bif_some hs with ⟨hc23, hs⟩ | ⟨hc23, hs⟩
  ·skip
   refine c_condT (congrArg Value.bool hc23) ?_
   refine c_seq (c_region ?_)
   refine pl_val (.int .i64 (-1)) (y_assign rfl) ?_
   refine c_nil ?_
   refine wp_ret ?_
   cases hs
   exact ⟨_, fr_ovl 31 ⟨rfl, trivial⟩, hC⟩
  ·skip
   refine c_condF (congrArg Value.bool hc23) ?_
   refine wp_skip ?_
   refine c_seq (c_region ?_)
   refine pl_val (.int .i64 s14) (y_move rfl) ?_
   refine pl_val (.int .i64 (w64 (s14 + 1))) (y_add rfl rfl) ?_
   refine pl_val (.int .i64 (w64 (s14 + 1))) (y_assign rfl) ?_
   refine c_nil ?_
   refine c_seq (c_region ?_)
   refine pl_val (.slice pa0 pn0 pc0) (y_move rfl) ?_
   refine pl_val (.int .i64 k16) (y_move rfl) ?_
   obtain ⟨x24, hx24, hs⟩ := bind_some hs
   obtain ⟨b25, o25, hp25, ha25⟩ := rs_idx Sl43 Sz51 h0 hx24
   refine pl_val (.pointer (some ⟨b25, o25, none⟩)) (hp25 _ _ _ _ _ _ _ _ _ rfl rfl) ?_
   obtain ⟨_, hq26x0⟩ := pr_at ha25
   refine pl_val (.pointer (some ⟨b25, o25 + 1, none⟩)) (y_faddr rfl Fa51x1) ?_
   obtain ⟨v27, hl27, hv27⟩ := at_load Ag49 Sz49 (fun _ => rfl) hq26x0
   obtain ⟨a27, n27, c27, rfl⟩ := rs_sl hv27
   refine pl_val (.slice a27 n27 c27) (y_load rfl (hl27 _ (Chg.refl _ _))) ?_
   refine pl_val (.int .i64 (w64 (s14 + 1))) (y_move rfl) ?_
   obtain ⟨r30, hr30, hs⟩ := bind_some hs
   refine pl_call Bd50 rfl (c_laws_heldIntSS (M := M) x24.2 (w64 (s14 + 1)) hv27 hO.fut hr30) ?_
   rintro _ w29 ⟨rfl, hC29⟩
   have h0 := h0.ext hC29
   have hv27 := hv27.ext hC29
   have hC := hC.ext hC29
   have hO := hO.ext hC29
   refine pl_val (.int .i64 r30) (y_assign rfl) ?_
   refine c_nil ?_
   refine c_seq (c_region ?_)
   refine pl_val (.int .i64 r30) (y_move rfl) ?_
   refine pl_val (.bool (decide (r30 < 0))) (y_lss rfl rfl) ?_
   refine c_nil ?_
   rcases bif_some hs with ⟨hc31, hs⟩ | ⟨hc31, hs⟩
   ·skip
    refine c_condT (congrArg Value.bool hc31) ?_
    refine c_seq (c_region ?_)
    refine pl_val (.int .i64 (-1)) (y_assign rfl) ?_
    refine c_nil ?_
    refine wp_ret ?_
    cases hs
    exact ⟨_, fr_ovl 31 ⟨rfl, trivial⟩, hC⟩
   ·skip
    refine c_condF (congrArg Value.bool hc31) ?_
    refine wp_skip ?_
    refine c_region ?_
    refine pl_val (.int .i64 k16) (y_move rfl) ?_
    refine pl_val (.int .i64 (w64 (k16 + 1))) (y_add rfl rfl) ?_
    refine pl_val (.int .i64 (w64 (k16 + 1))) (y_assign rfl) ?_
    refine c_nil ?_
    cases hs
    exact ⟨_, fr_ovl 31 ⟨rfl, rfl, congrArg (Value.int .i64) hw, trivial⟩, hC, hO, h0⟩
 ·skip
  exact ⟨_, fr_ovl 31 ⟨rfl, rfl, rfl, trivial⟩, hC, hO, h0⟩
 ·cases o18 with
  | nx _ => exact True.intro
  | rt r_ =>
   have hs := after_rt hs
   intro a1 w1 hK
   cases hs
   exact hK
  | br s14 =>
   have hs := after_br hs
   rintro a1 w15 ⟨σ, rfl, hC, hO, h0⟩
   refine c_seq (c_region ?_)
   refine pl_val (.int .i64 s14) (y_move rfl) ?_
   refine pl_val (.int .i64 s14) (y_assign rfl) ?_
   refine c_nil ?_
   refine wp_ret ?_
   cases hs
   exact ⟨_, fr_ovl 31 ⟨rfl, trivial⟩, hC⟩

theorem Ag24 : AggT Try.prog 24 true := fun _ => by kernel_rfl

theorem Sz24 : SzT Try.prog 24 2 := ⟨_, rfl, rfl⟩

theorem Bd8 : Bodied Try.prog 8 := bodied Try.func8 (by kernel_rfl) rfl

theorem Bd11 : Bodied Try.prog 11 := bodied Try.func11 (by kernel_rfl) rfl

theorem Bd24 : Bodied Try.prog 24 := bodied Try.func24 (by kernel_rfl) rfl

theorem Bd25 : Bodied Try.prog 25 := bodied Try.func25 (by kernel_rfl) rfl

theorem Bd20 : Bodied Try.prog 20 := bodied Try.func20 (by kernel_rfl) rfl

theorem Bd14 : Bodied Try.prog 14 := bodied Try.func14 (by kernel_rfl) rfl

theorem Bd21 : Bodied Try.prog 21 := bodied Try.func21 (by kernel_rfl) rfl

theorem Bd22 : Bodied Try.prog 22 := bodied Try.func22 (by kernel_rfl) rfl

theorem Bd23 : Bodied Try.prog 23 := bodied Try.func23 (by kernel_rfl) rfl

def k_laws_FnExactInnerIsos (M : Nat → Prop) (w0 : World) (r : Bool) (a : Act) (w : World) : Prop :=
  ∃ (σ : Nat → Value) , a = fr 96 (ovl σ [(2, (.bool r))]) ∧ Chg [] w0 w
def s_laws_FnExactInnerIsos (aA : Int × (List (Int × (List Int)))) : Option (Bool) :=
  (s_laws_szAlgebra (aA.1, aA.2) 1048576).bind fun r4 =>
  (bif (decide (r4 < 0)) then some true else (s_laws_toAlgebra (aA.1, aA.2)).bind fun r7 =>
  (s_spec_InnerIsos (r7.1, r7.2)).bind fun r11 =>
  (s_laws_toAlgebra (aA.1, aA.2)).bind fun r14 =>
  (s_impl_InnerIsos (r14.1, r14.2)).bind fun r19 =>
  ((s_laws_eqRelationS r19.1 r11.1).bind fun r25 =>
  (bif (!r25) then some true else some (!(r19.2 == r11.2)))).bind fun s21 =>
  (bif s21 then some false else (s_laws_toAlgebra (aA.1, aA.2)).bind fun r36 =>
  (s_laws_eqAlgebra (r14.1, r14.2) (r36.1, r36.2)).bind fun r39 =>
  (bif (!r39) then some false else (s_laws_markAlgebra (r14.1, r14.2) 1).bind fun r42 =>
  ((bif (decide (r42.1 < 0)) then some true else (s_laws_eqRelationS r19.1 r11.1).bind fun r48 =>
  (bif (!r48) then some true else some (!(r19.2 == r11.2))))).bind fun s43 =>
  (bif s43 then some false else (s_laws_markRelationS r19.1 1).bind fun r52 =>
  (s_laws_heldRelationS r52.2 1).bind fun r54 =>
  (bif (decide (r54 < 0)) then some false else (bif (r54 != r52.1) then some false else (s_laws_toAlgebra (aA.1, aA.2)).bind fun r58 =>
  (s_impl_InnerIsos (r58.1, r58.2)).bind fun r61 =>
  ((s_laws_eqRelationS r61.1 r11.1).bind fun r68 =>
  (bif (!r68) then some true else some (!(r61.2 == r11.2)))).bind fun s63 =>
  (bif s63 then some false else (s_laws_heldRelationS r52.2 1).bind fun r72 =>
  (bif (decide (r72 < 0)) then some false else (bif (r72 != r52.1) then some false else some true)))))))))
set_option maxHeartbeats 4000000 in
theorem c_laws_FnExactInnerIsos {M : Nat → Prop} {w : World} {pa0 : Option Addr} {pn0 pc0 : Nat} (aA : Int × (List (Int × (List Int)))) (h0 : (RT.rs (RT.pr (RT.int .i64) (RT.rs (RT.int .i64)))).val M w (.slice pa0 pn0 pc0) aA.2 ([])) (hM : ∀ g, w.heap.size ≤ g → M g) {r : Bool} (hs : s_laws_FnExactInnerIsos aA = some r) :
    Gives Try.prog 6 [(.agg #[(.int .i64 aA.1), (.slice pa0 pn0 pc0)])] w (fun v w' => v = (.bool r) ∧ Chg [] w w') := by
 refine calls_fr Try.func6 rfl Try.ntmps6 (Nat.le_of_ble_eq_true rfl) ?_
 have hO := Own.start (N := Nw w []) hM Nw.fut
 have hC := Chg.refl [] w
 unfold s_laws_FnExactInnerIsos at hs
 refine wp_mono (Q := KPost (k_laws_FnExactInnerIsos M w r)) ?_ (fun e a w1 h => ?_)
 rotate_left
 ·cases e
  case ret =>
   obtain ⟨σ, rfl, hrest⟩ := h
   exact ret1x Try.results6 (res_tmp rfl) ⟨rfl, hrest⟩
  all_goals exact (h : False).elim
 refine c_seq (c_region ?_)
 obtain ⟨w2, g2, ew2, eg2, hC2, hb2⟩ := new_block w [(.int .i64 aA.1), (.slice pa0 pn0 pc0)] 24
 refine pl_val (w' := w2) (.pointer (some ⟨g2, 0, none⟩)) (y_box rfl (by rw [ew2, eg2]; kernel_rfl)) ?_
 have h0 := h0.ext hC2
 have hC := hC.ext hC2
 have hO := hO.new1 hC2 eg2 hb2.lt
 refine pl_val (.bool false) (y_assign rfl) ?_
 refine c_nil ?_
 refine c_seq (c_region ?_)
 refine pl_val (.int .i64 1048576) (y_assign rfl) ?_
 refine c_nil ?_
 refine c_seq (c_region ?_)
 refine pl_val (.agg #[(.int .i64 aA.1), (.slice pa0 pn0 pc0)]) (y_load rfl ((box_load Ag24 Sz24 hb2 [] [(.int .i64 aA.1), (.slice pa0 pn0 pc0)] [] rfl rfl (fun h => nomatch h)) _ (Chg.refl _ _))) ?_
 refine pl_val (.int .i64 1048576) (y_move rfl) ?_
 obtain ⟨r4, hr4, hs⟩ := bind_some hs
 refine pl_call Bd8 rfl (c_laws_szAlgebra (M := M) (aA.1, aA.2) 1048576 h0 hO.fut hr4) ?_
 rintro _ w3 ⟨rfl, hC3⟩
 have h0 := h0.ext hC3
 have hb2 := hb2.chg hC3 (fun h => nomatch h)
 have hC := hC.ext hC3
 have hO := hO.ext hC3
 refine pl_val (.int .i64 r4) (y_assign rfl) ?_
 refine c_nil ?_
 refine c_seq ?_
 refine c_seq (c_region ?_)
 refine pl_val (.int .i64 r4) (y_move rfl) ?_
 refine pl_val (.bool (decide (r4 < 0))) (y_lss rfl rfl) ?_
 refine c_nil ?_
 rcases bif_some hs with ⟨hc5, hs⟩ | ⟨hc5, hs⟩
 ·skip
  refine c_condT (congrArg Value.bool hc5) ?_
  refine c_seq (c_region ?_)
  refine pl_val (.bool true) (y_assign rfl) ?_
  refine c_nil ?_
  refine wp_ret ?_
  cases hs
  exact ⟨_, fr_ovl 96 ⟨rfl, trivial⟩, hC⟩
 ·skip
  refine c_condF (congrArg Value.bool hc5) ?_
  refine wp_skip ?_
  refine c_seq (c_region ?_)
  refine pl_val (.agg #[(.int .i64 aA.1), (.slice pa0 pn0 pc0)]) (y_load rfl ((box_load Ag24 Sz24 hb2 [] [(.int .i64 aA.1), (.slice pa0 pn0 pc0)] [] rfl rfl (fun h => nomatch h)) _ (Chg.refl _ _))) ?_
  obtain ⟨r7, hr7, hs⟩ := bind_some hs
  refine pl_call Bd11 rfl (c_laws_toAlgebra (M := M) (aA.1, aA.2) h0 hO.fut hr7) ?_
  rintro _ w6 ⟨a6x0, n6x0, c6x0, f6x0, rfl, hC6, hv6x0, hOc6⟩
  have h0 := h0.ext hC6
  have hb2 := hb2.chg hC6 (fun h => nomatch h)
  have hC := hC.ext hC6
  have hO := Own.join0 hO hC6 hOc6
  have hO := hO.perm (R := f6x0 ++ (([g2]) ++ ([]))) (by simp)
  obtain ⟨M10, eM10, hs10, hk10, hO, hv10⟩ := frz_own (Frz.os (Frz.pr Frz.int (Frz.os Frz.int))) hv6x0 hO
  have h0 := h0.sub (M' := M10) hs10
  have hK := hk10
  obtain ⟨r11, hr11, hs⟩ := bind_some hs
  refine pl_call Bd24 rfl (c_spec_InnerIsos (M := M10) (r7.1, r7.2) hv10 hO.fut hr11) ?_
  rintro _ w9 ⟨a9x0, n9x0, c9x0, rfl, hC9, hv9x0⟩
  have hK := hK.trans (show Keeps w M10 (Past M10 w6 w9) from Keeps.past hC.size)
  have h0 := h0.ext hC9
  have hb2 := hb2.chg hC9 (fun h => nomatch h)
  have hv10 := hv10.ext hC9
  have hC := hC.ext hC9
  have hO := hO.past hC9
  have h0 := h0.sub (M' := (Past M10 w6 w9)) (fun g hg => .inl hg.1)
  have hv10 := hv10.sub (M' := (Past M10 w6 w9)) (fun g hg => .inl hg.1)
  refine pl_val (.tuple #[(.slice a9x0 n9x0 c9x0), (.bool r11.2)]) (y_move rfl) ?_
  refine pl_val (.slice a9x0 n9x0 c9x0) (y_extract rfl (by kernel_rfl)) ?_
  refine pl_val (.bool r11.2) (y_extract rfl (by kernel_rfl)) ?_
  refine pl_val (.slice a9x0 n9x0 c9x0) (y_assign rfl) ?_
  refine pl_val (.bool r11.2) (y_assign rfl) ?_
  refine c_nil ?_
  refine c_seq (c_region ?_)
  refine pl_val (.agg #[(.int .i64 aA.1), (.slice pa0 pn0 pc0)]) (y_load rfl ((box_load Ag24 Sz24 hb2 [] [(.int .i64 aA.1), (.slice pa0 pn0 pc0)] [] rfl rfl (fun h => nomatch h)) _ (Chg.refl _ _))) ?_
  obtain ⟨r14, hr14, hs⟩ := bind_some hs
  refine pl_call Bd11 rfl (c_laws_toAlgebra (M := (Past M10 w6 w9)) (aA.1, aA.2) h0 hO.fut hr14) ?_
  rintro _ w13 ⟨a13x0, n13x0, c13x0, f13x0, rfl, hC13, hv13x0, hOc13⟩
  have h0 := h0.ext hC13
  have hb2 := hb2.chg hC13 (fun h => nomatch h)
  have hv9x0 := hv9x0.ext hC13
  have hC := hC.ext hC13
  have hO := Own.join0 hO hC13 hOc13
  have hO := hO.perm (R := f13x0 ++ (([g2]) ++ ([]))) (by simp)
  obtain ⟨w16, g16, ew16, eg16, hC16, hb16⟩ := new_block w13 [(.int .i64 0), (.slice none 0 0)] 34
  refine pl_val (w' := w16) (.pointer (some ⟨g16, 0, none⟩)) (y_alloc (by rw [ew16, eg16]; kernel_rfl)) ?_
  have h0 := h0.ext hC16
  have hb2 := hb2.chg hC16 (fun h => nomatch h)
  have hv9x0 := hv9x0.ext hC16
  have hv13x0 := hv13x0.ext hC16
  have hC := hC.ext hC16
  have hO := hO.new1 hC16 eg16 hb16.lt
  obtain ⟨w17, hst17, hC17, hb17⟩ := box_store (P := Try.prog) hb16 [] [(.int .i64 0), (.slice none 0 0)] [] [(.int .i64 r14.1), (.slice a13x0 n13x0 c13x0)] rfl rfl (by intro u hu; simp only [List.mem_cons, List.not_mem_nil, or_false] at hu; rcases hu with rfl | rfl <;> rfl)
  refine pl_skip (w' := w17) (ys_store rfl rfl (hst17 _ _ rfl Sz34)) ?_
  have h0 := h0.mut hC17 (fun g hg => hO.inM g ((fun _ h => h) g hg)) (fun _ _ h => nomatch h)
  have hb2 := hb2.chg hC17 (fun hg => hO.apart _ ((fun _ h => h) _ hg) (mem_r (mem_l (List.mem_singleton.2 rfl))))
  have hv9x0 := hv9x0.mut hC17 (fun g hg => hO.inM g ((fun _ h => h) g hg)) (fun _ _ h => nomatch h)
  have hv13x0 := hv13x0.mut hC17 (fun g hg => hO.inM g ((fun _ h => h) g hg)) (fun g hg e => hO.apart g ((fun _ h => h) g hg) (mem_l (e)))
  have hC := hC.step hC17 (fun g hg => hO.inN g ((fun _ h => h) g hg))
  have hO := hO.ext hC17
  have hb17 : BoxV w17 g16 34 [(.int .i64 r14.1), (.slice a13x0 n13x0 c13x0)] := hb17
  refine c_nil ?_
  refine c_seq (c_region ?_)
  refine pl_val (.agg #[(.int .i64 r14.1), (.slice a13x0 n13x0 c13x0)]) (y_load rfl ((box_load Ag34 Sz34 hb17 [] [(.int .i64 r14.1), (.slice a13x0 n13x0 c13x0)] [] rfl rfl (fun h => nomatch h)) _ (Chg.refl _ _))) ?_
  have hO := hO.fr1
  obtain ⟨r19, hr19, hs⟩ := bind_some hs
  refine pl_call Bd25 rfl (c_impl_InnerIsos (M := (Less (Past M10 w6 w9) f13x0)) (r14.1, r14.2) (((Frz.os (Frz.pr Frz.int (Frz.os Frz.int)))).val hv13x0 Less.sub Less.not) hO.less.fut hr19) ?_
  rintro _ w18 ⟨a18x0, n18x0, c18x0, f18x0, rfl, hC18, hv18x0, hOc18⟩
  have h0 := h0.ext hC18
  have hb2 := hb2.chg hC18 (fun h => nomatch h)
  have hv9x0 := hv9x0.ext hC18
  have hv13x0 := hv13x0.ext hC18
  have hb17 := hb17.chg hC18 (fun h => nomatch h)
  have hC := hC.ext hC18
  have hO := Own.join0 hO hC18 hOc18
  have hO := hO.perm (R := f18x0 ++ (f13x0 ++ (([g16]) ++ (([g2]) ++ ([]))))) (by simp)
  have hv18x0 := hv18x0.free (M' := (Past M10 w6 w9)) (Free.os (Free.pr Free.int (Free.os (Free.os Free.int))))
  refine pl_val (.tuple #[(.slice a18x0 n18x0 c18x0), (.bool r19.2)]) (y_move rfl) ?_
  refine pl_val (.slice a18x0 n18x0 c18x0) (y_extract rfl (by kernel_rfl)) ?_
  refine pl_val (.bool r19.2) (y_extract rfl (by kernel_rfl)) ?_
  refine pl_val (.slice a18x0 n18x0 c18x0) (y_assign rfl) ?_
  refine pl_val (.bool r19.2) (y_assign rfl) ?_
  refine c_nil ?_
  refine c_seq ?_
  refine c_seq ?_
  obtain ⟨s21, hm23, hs⟩ := bind_some hs
  refine c_mid (I := fun a w22 => ∃ (σ : Nat → Value), a = fr 96 (ovl σ [(1, (.pointer (some ⟨g2, 0, none⟩))), (2, (.bool false)), (4, (.slice a9x0 n9x0 c9x0)), (5, (.bool r11.2)), (6, (.pointer (some ⟨g16, 0, none⟩))), (7, (.slice a18x0 n18x0 c18x0)), (8, (.bool r19.2)), (40, (.bool s21))]) ∧ Chg [] w18 w22) ?_ ?_
  ·replace hs := hm23
   have hMid := Chg.refl [] w18
   refine c_region ?_
   refine pl_val (.slice a18x0 n18x0 c18x0) (y_move rfl) ?_
   refine pl_val (.slice a9x0 n9x0 c9x0) (y_move rfl) ?_
   obtain ⟨r25, hr25, hs⟩ := bind_some hs
   refine pl_call Bd20 rfl (c_laws_eqRelationS (M := (Less (Past M10 w6 w9) f18x0)) r19.1 r11.1 (((Frz.os (Frz.pr Frz.int (Frz.os (Frz.os Frz.int))))).val hv18x0 Less.sub Less.not) (hv9x0.sub Less.sub) hO.less.fut hr25) ?_
   rintro _ w24 ⟨rfl, hC24⟩
   have h0 := h0.ext hC24
   have hb2 := hb2.chg hC24 (fun h => nomatch h)
   have hv9x0 := hv9x0.ext hC24
   have hv13x0 := hv13x0.ext hC24
   have hb17 := hb17.chg hC24 (fun h => nomatch h)
   have hv18x0 := hv18x0.ext hC24
   have hMid := hMid.ext hC24
   have hC := hC.ext hC24
   have hO := hO.ext hC24
   refine pl_val (.bool (!r25)) (y_not rfl) ?_
   refine pl_val (.bool (!r25)) (y_move rfl) ?_
   rcases bif_some hs with ⟨hc26, hs⟩ | ⟨hc26, hs⟩
   ·skip
    refine pl_not (tg := 36) (by kernel_rfl) (congrArg Value.bool hc26) ?_
    refine pl_not (tg := 36) (by kernel_rfl) (congrArg Value.bool hc26) ?_
    refine pl_not (tg := 36) (by kernel_rfl) (congrArg Value.bool hc26) ?_
    refine pl_val (.bool true) (y_pick_t (congrArg Value.bool hc26) rfl) ?_
    refine c_nil ?_
    cases hs
    exact ⟨_, fr_ovl 96 ⟨rfl, rfl, rfl, rfl, rfl, rfl, rfl, rfl, trivial⟩, hMid⟩
   ·skip
    refine pl_yes (.bool r19.2) (tg := 36) (by kernel_rfl) (congrArg Value.bool hc26) (y_move rfl) ?_
    refine pl_yes (.bool r11.2) (tg := 36) (by kernel_rfl) (congrArg Value.bool hc26) (y_move rfl) ?_
    refine pl_yes (.bool (!(r19.2 == r11.2))) (tg := 36) (by kernel_rfl) (congrArg Value.bool hc26) (y_bneq Try.underlying4 rfl rfl) ?_
    refine pl_val (.bool (!(r19.2 == r11.2))) (y_pick_f (congrArg Value.bool hc26) rfl) ?_
    refine c_nil ?_
    cases hs
    exact ⟨_, fr_ovl 96 ⟨rfl, rfl, rfl, rfl, rfl, rfl, rfl, rfl, trivial⟩, hMid⟩
  ·rintro a1 w22 ⟨σ, rfl, hCs21⟩
   have h0 := h0.ext hCs21
   have hb2 := hb2.chg hCs21 (fun h => nomatch h)
   have hv9x0 := hv9x0.ext hCs21
   have hv13x0 := hv13x0.ext hCs21
   have hb17 := hb17.chg hCs21 (fun h => nomatch h)
   have hv18x0 := hv18x0.ext hCs21
   have hC := hC.ext hCs21
   have hO := hO.ext hCs21
   rcases bif_some hs with ⟨hc27, hs⟩ | ⟨hc27, hs⟩
   ·skip
    refine c_condT (congrArg Value.bool hc27) ?_
    refine c_seq (c_region ?_)
    refine pl_val (.bool false) (y_assign rfl) ?_
    refine c_nil ?_
    refine wp_ret ?_
    cases hs
    exact ⟨_, fr_ovl 96 ⟨rfl, trivial⟩, hC⟩
   ·skip
    refine c_condF (congrArg Value.bool hc27) ?_
    refine wp_skip ?_
    refine c_seq ?_
    refine c_seq ?_
    refine x_start [] Mx rfl ?_
    have hCw34 := Chg.drew w22
    generalize World.drew w22 = w34 at hCw34 ⊢
    have h0 := h0.ext hCw34
    have hb2 := hb2.chg hCw34 (fun h => nomatch h)
    have hv9x0 := hv9x0.ext hCw34
    have hv13x0 := hv13x0.ext hCw34
    have hb17 := hb17.chg hCw34 (fun h => nomatch h)
    have hv18x0 := hv18x0.ext hCw34
    have hC := hC.ext hCw34
    have hO := hO.ext hCw34
    have hS := Chg.refl [] w34
    refine x_l 0 (.agg #[(.int .i64 r14.1), (.slice a13x0 n13x0 c13x0)]) rfl (by kernel_rfl)  (fun w' hw' => y_load rfl ((box_load Ag34 Sz34 hb17 [] [(.int .i64 r14.1), (.slice a13x0 n13x0 c13x0)] [] rfl rfl (fun h => nomatch h)) w' hw')) hS ?_
    refine x_l 1 (.agg #[(.int .i64 aA.1), (.slice pa0 pn0 pc0)]) rfl (by kernel_rfl)  (fun w' hw' => y_load rfl ((box_load Ag24 Sz24 hb2 [] [(.int .i64 aA.1), (.slice pa0 pn0 pc0)] [] rfl rfl (fun h => nomatch h)) w' hw')) hS ?_
    refine x_one (i := 2) (by kernel_rfl) ?_
    obtain ⟨r36, hr36, hs⟩ := bind_some hs
    refine xk_call (b := false) rfl  Bd11 rfl (c_laws_toAlgebra (M := (Past M10 w6 w9)) (aA.1, aA.2) h0 hO.fut hr36) rfl (by rintro _ _ _ ⟨a35x0, n35x0, c35x0, f35x0, rfl, hC35, hv35x0, hOc35⟩; exact hS.ext hC35) ?_
    rintro _ w35 ⟨a35x0, n35x0, c35x0, f35x0, rfl, hC35, hv35x0, hOc35⟩
    have h0 := h0.ext hC35
    have hb2 := hb2.chg hC35 (fun h => nomatch h)
    have hv9x0 := hv9x0.ext hC35
    have hv13x0 := hv13x0.ext hC35
    have hb17 := hb17.chg hC35 (fun h => nomatch h)
    have hv18x0 := hv18x0.ext hC35
    have hC := hC.ext hC35
    have hO := Own.join0 hO hC35 hOc35
    have hO := hO.perm (R := f35x0 ++ (f18x0 ++ (f13x0 ++ (([g16]) ++ (([g2]) ++ ([])))))) (by simp)
    have hS := hS.ext hC35
    refine x_one (i := 3) (by kernel_rfl) ?_
    have hO := hO.fr2
    obtain ⟨r39, hr39, hs⟩ := bind_some hs
    refine xk_call (b := false) rfl  Bd14 rfl (c_laws_eqAlgebra (M := (Less (Less (Past M10 w6 w9) f13x0) f35x0)) (r14.1, r14.2) (r36.1, r36.2) ((((Frz.os (Frz.pr Frz.int (Frz.os Frz.int)))).val hv13x0 Less.sub Less.not).sub Less.sub) (((Frz.os (Frz.pr Frz.int (Frz.os Frz.int)))).val (hv35x0.sub Less.sub) Less.sub Less.not) (hO.less).less.fut hr39) rfl (by rintro _ _ _ ⟨rfl, hC38⟩; exact hS.ext hC38) ?_
    rintro _ w38 ⟨rfl, hC38⟩
    have h0 := h0.ext hC38
    have hb2 := hb2.chg hC38 (fun h => nomatch h)
    have hv9x0 := hv9x0.ext hC38
    have hv13x0 := hv13x0.ext hC38
    have hb17 := hb17.chg hC38 (fun h => nomatch h)
    have hv18x0 := hv18x0.ext hC38
    have hv35x0 := hv35x0.ext hC38
    have hC := hC.ext hC38
    have hO := hO.ext hC38
    have hS := hS.ext hC38
    refine x_p 4 (.bool (!r39)) rfl (by kernel_rfl)  (fun _ => y_not rfl) (fun _ => hS) ?_
    refine x_end (by kernel_rfl) ?_
    clear hS
    rcases bif_some hs with ⟨hc40, hs⟩ | ⟨hc40, hs⟩
    ·skip
     refine c_condT (congrArg Value.bool hc40) ?_
     refine c_seq (c_region ?_)
     refine pl_val (.bool false) (y_assign rfl) ?_
     refine c_nil ?_
     refine wp_ret ?_
     cases hs
     exact ⟨_, fr_ovl 96 ⟨rfl, trivial⟩, hC⟩
    ·skip
     refine c_condF (congrArg Value.bool hc40) ?_
     refine wp_skip ?_
     refine c_seq (c_region ?_)
     refine pl_val (.int .i64 1) (y_assign rfl) ?_
     refine c_nil ?_
     refine c_seq (c_region ?_)
     refine pl_val (.agg #[(.int .i64 r14.1), (.slice a13x0 n13x0 c13x0)]) (y_load rfl ((box_load Ag34 Sz34 hb17 [] [(.int .i64 r14.1), (.slice a13x0 n13x0 c13x0)] [] rfl rfl (fun h => nomatch h)) _ (Chg.refl _ _))) ?_
     refine pl_val (.int .i64 1) (y_move rfl) ?_
     have hL41 := hO
     have hI41 := Own.lend (F := (f13x0 ++ ([]))) (R := f35x0 ++ (f18x0 ++ (([g16]) ++ (([g2]) ++ ([]))))) (Own.perm (hL41) (by simp))
     obtain ⟨r42, hr42, hs⟩ := bind_some hs
     refine pl_call Bd21 rfl (c_laws_markAlgebra (M := (Past M10 w6 w9)) (r14.1, r14.2) 1 hv13x0 hI41 hI41.fut hr42) ?_
     rintro _ w41 ⟨fi41x0, rfl, hC41, hvi41x0, hOc41⟩
     have hO := hO.perm (R := (f13x0 ++ ([])) ++ (f35x0 ++ (f18x0 ++ (([g16]) ++ (([g2]) ++ ([])))))) (by simp)
     have h0 := h0.mut hC41 (fun g hg => hO.inM g ((fun _ h => h) g hg)) (fun _ _ h => nomatch h)
     have hb2 := hb2.chg hC41 (fun hg => hO.apart _ ((fun _ h => h) _ hg) (mem_r (mem_r (mem_r (mem_l (List.mem_singleton.2 rfl))))))
     have hv9x0 := hv9x0.mut hC41 (fun g hg => hO.inM g ((fun _ h => h) g hg)) (fun _ _ h => nomatch h)
     have hb17 := hb17.chg hC41 (fun hg => hO.apart _ ((fun _ h => h) _ hg) (mem_r (mem_r (mem_l (List.mem_singleton.2 rfl)))))
     have hv18x0 := hv18x0.mut hC41 (fun g hg => hO.inM g ((fun _ h => h) g hg)) (fun g hg e => hO.apart g ((fun _ h => h) g hg) (mem_r (mem_l (e))))
     have hv35x0 := hv35x0.mut hC41 (fun g hg => hO.inM g ((fun _ h => h) g hg)) (fun g hg e => hO.apart g ((fun _ h => h) g hg) (mem_l (e)))
     have hC := hC.step hC41 (fun g hg => hO.inN g ((fun _ h => h) g hg))
     have hO := Own.join hO hC41 hOc41
     have hO := hO.perm (R := fi41x0 ++ (f35x0 ++ (f18x0 ++ (([g16]) ++ (([g2]) ++ ([])))))) (by simp)
     refine pl_val (.int .i64 r42.1) (y_assign rfl) ?_
     refine c_nil ?_
     refine c_seq ?_
     refine c_seq ?_
     obtain ⟨s43, hm45, hs⟩ := bind_some hs
     refine c_mid (I := fun a w44 => ∃ (σ : Nat → Value), a = fr 96 (ovl σ [(1, (.pointer (some ⟨g2, 0, none⟩))), (2, (.bool false)), (4, (.slice a9x0 n9x0 c9x0)), (5, (.bool r11.2)), (7, (.slice a18x0 n18x0 c18x0)), (61, (.bool s43))]) ∧ Chg [] w41 w44) ?_ ?_
     ·replace hs := hm45
      have hMid := Chg.refl [] w41
      refine c_region ?_
      refine pl_val (.int .i64 r42.1) (y_move rfl) ?_
      refine pl_val (.bool (decide (r42.1 < 0))) (y_lss rfl rfl) ?_
      refine pl_val (.bool (decide (r42.1 < 0))) (y_move rfl) ?_
      rcases bif_some hs with ⟨hc46, hs⟩ | ⟨hc46, hs⟩
      ·skip
       refine pl_not (tg := 51) (by kernel_rfl) (congrArg Value.bool hc46) ?_
       refine pl_not (tg := 51) (by kernel_rfl) (congrArg Value.bool hc46) ?_
       refine pl_not (tg := 51) (by kernel_rfl) (congrArg Value.bool hc46) ?_
       refine pl_not (tg := 51) (by kernel_rfl) (congrArg Value.bool hc46) ?_
       refine pl_val (.bool true) (y_pick_t (congrArg Value.bool hc46) rfl) ?_
       refine pl_val (.bool true) (y_move rfl) ?_
       refine pl_not (tg := 57) (by kernel_rfl) (by rfl) ?_
       refine pl_not (tg := 57) (by kernel_rfl) (by rfl) ?_
       refine pl_not (tg := 57) (by kernel_rfl) (by rfl) ?_
       refine pl_val (.bool true) (y_pick_t (by rfl) rfl) ?_
       refine c_nil ?_
       cases hs
       exact ⟨_, fr_ovl 96 ⟨rfl, rfl, rfl, rfl, rfl, rfl, trivial⟩, hMid⟩
      ·skip
       refine pl_yes (.slice a18x0 n18x0 c18x0) (tg := 51) (by kernel_rfl) (congrArg Value.bool hc46) (y_move rfl) ?_
       refine pl_yes (.slice a9x0 n9x0 c9x0) (tg := 51) (by kernel_rfl) (congrArg Value.bool hc46) (y_move rfl) ?_
       have hO := hO.fr2
       obtain ⟨r48, hr48, hs⟩ := bind_some hs
       refine pl_cally (tg := 51) (by kernel_rfl) (congrArg Value.bool hc46) Bd20 rfl (c_laws_eqRelationS (M := (Less (Past M10 w6 w9) f18x0)) r19.1 r11.1 (((Frz.os (Frz.pr Frz.int (Frz.os (Frz.os Frz.int))))).val hv18x0 Less.sub Less.not) (hv9x0.sub Less.sub) hO.less.fut hr48) ?_
       rintro _ w47 ⟨rfl, hC47⟩
       have h0 := h0.ext hC47
       have hb2 := hb2.chg hC47 (fun h => nomatch h)
       have hv9x0 := hv9x0.ext hC47
       have hvi41x0 := hvi41x0.ext hC47
       have hb17 := hb17.chg hC47 (fun h => nomatch h)
       have hv18x0 := hv18x0.ext hC47
       have hv35x0 := hv35x0.ext hC47
       have hMid := hMid.ext hC47
       have hC := hC.ext hC47
       have hO := hO.ext hC47
       refine pl_yes (.bool (!r48)) (tg := 51) (by kernel_rfl) (congrArg Value.bool hc46) (y_not rfl) ?_
       refine pl_val (.bool (!r48)) (y_pick_f (congrArg Value.bool hc46) rfl) ?_
       refine pl_val (.bool (!r48)) (y_move rfl) ?_
       rcases bif_some hs with ⟨hc49, hs⟩ | ⟨hc49, hs⟩
       ·skip
        refine pl_not (tg := 57) (by kernel_rfl) (congrArg Value.bool hc49) ?_
        refine pl_not (tg := 57) (by kernel_rfl) (congrArg Value.bool hc49) ?_
        refine pl_not (tg := 57) (by kernel_rfl) (congrArg Value.bool hc49) ?_
        refine pl_val (.bool true) (y_pick_t (congrArg Value.bool hc49) rfl) ?_
        refine c_nil ?_
        cases hs
        exact ⟨_, fr_ovl 96 ⟨rfl, rfl, rfl, rfl, rfl, rfl, trivial⟩, hMid⟩
       ·skip
        refine pl_yes (.bool r19.2) (tg := 57) (by kernel_rfl) (congrArg Value.bool hc49) (y_move rfl) ?_
        refine pl_yes (.bool r11.2) (tg := 57) (by kernel_rfl) (congrArg Value.bool hc49) (y_move rfl) ?_
        refine pl_yes (.bool (!(r19.2 == r11.2))) (tg := 57) (by kernel_rfl) (congrArg Value.bool hc49) (y_bneq Try.underlying4 rfl rfl) ?_
        refine pl_val (.bool (!(r19.2 == r11.2))) (y_pick_f (congrArg Value.bool hc49) rfl) ?_
        refine c_nil ?_
        cases hs
        exact ⟨_, fr_ovl 96 ⟨rfl, rfl, rfl, rfl, rfl, rfl, trivial⟩, hMid⟩
     ·rintro a1 w44 ⟨σ, rfl, hCs43⟩
      have h0 := h0.ext hCs43
      have hb2 := hb2.chg hCs43 (fun h => nomatch h)
      have hv9x0 := hv9x0.ext hCs43
      have hvi41x0 := hvi41x0.ext hCs43
      have hb17 := hb17.chg hCs43 (fun h => nomatch h)
      have hv18x0 := hv18x0.ext hCs43
      have hv35x0 := hv35x0.ext hCs43
      have hC := hC.ext hCs43
      have hO := hO.ext hCs43
      rcases bif_some hs with ⟨hc50, hs⟩ | ⟨hc50, hs⟩
      ·skip
       refine c_condT (congrArg Value.bool hc50) ?_
       refine c_seq (c_region ?_)
       refine pl_val (.bool false) (y_assign rfl) ?_
       refine c_nil ?_
       refine wp_ret ?_
       cases hs
       exact ⟨_, fr_ovl 96 ⟨rfl, trivial⟩, hC⟩
      ·skip
       refine c_condF (congrArg Value.bool hc50) ?_
       refine wp_skip ?_
       refine c_seq (c_region ?_)
       refine pl_val (.int .i64 1) (y_assign rfl) ?_
       refine c_nil ?_
       refine c_seq (c_region ?_)
       refine pl_val (.slice a18x0 n18x0 c18x0) (y_move rfl) ?_
       refine pl_val (.int .i64 1) (y_move rfl) ?_
       have hO := hO.fr2
       have hL51 := hO
       have hI51 := Own.lend (F := (f18x0 ++ ([]))) (R := fi41x0 ++ (f35x0 ++ (([g16]) ++ (([g2]) ++ ([]))))) (Own.perm (hL51) (by simp))
       obtain ⟨r52, hr52, hs⟩ := bind_some hs
       refine pl_call Bd22 rfl (c_laws_markRelationS (M := (Past M10 w6 w9)) r19.1 1 hv18x0 hI51 hI51.fut hr52) ?_
       rintro _ w51 ⟨fi51x0, rfl, hC51, hvi51x0, hOc51⟩
       have hO := hO.perm (R := (f18x0 ++ ([])) ++ (fi41x0 ++ (f35x0 ++ (([g16]) ++ (([g2]) ++ ([])))))) (by simp)
       have h0 := h0.mut hC51 (fun g hg => hO.inM g ((fun _ h => h) g hg)) (fun _ _ h => nomatch h)
       have hb2 := hb2.chg hC51 (fun hg => hO.apart _ ((fun _ h => h) _ hg) (mem_r (mem_r (mem_r (mem_l (List.mem_singleton.2 rfl))))))
       have hv9x0 := hv9x0.mut hC51 (fun g hg => hO.inM g ((fun _ h => h) g hg)) (fun _ _ h => nomatch h)
       have hvi41x0 := hvi41x0.mut hC51 (fun g hg => hO.inM g ((fun _ h => h) g hg)) (fun g hg e => hO.apart g ((fun _ h => h) g hg) (mem_l (e)))
       have hb17 := hb17.chg hC51 (fun hg => hO.apart _ ((fun _ h => h) _ hg) (mem_r (mem_r (mem_l (List.mem_singleton.2 rfl)))))
       have hv35x0 := hv35x0.mut hC51 (fun g hg => hO.inM g ((fun _ h => h) g hg)) (fun g hg e => hO.apart g ((fun _ h => h) g hg) (mem_r (mem_l (e))))
       have hC := hC.step hC51 (fun g hg => hO.inN g ((fun _ h => h) g hg))
       have hO := Own.join hO hC51 hOc51
       have hO := hO.perm (R := fi51x0 ++ (fi41x0 ++ (f35x0 ++ (([g16]) ++ (([g2]) ++ ([])))))) (by simp)
       refine pl_val (.int .i64 r52.1) (y_assign rfl) ?_
       refine c_nil ?_
       refine c_seq (c_region ?_)
       refine pl_val (.int .i64 1) (y_assign rfl) ?_
       refine c_nil ?_
       refine c_seq (c_region ?_)
       refine pl_val (.slice a18x0 n18x0 c18x0) (y_move rfl) ?_
       refine pl_val (.int .i64 1) (y_move rfl) ?_
       obtain ⟨r54, hr54, hs⟩ := bind_some hs
       refine pl_call Bd23 rfl (c_laws_heldRelationS (M := (Less (Past M10 w6 w9) fi51x0)) r52.2 1 (((Frz.os (Frz.pr Frz.int (Frz.os (Frz.os Frz.int))))).val hvi51x0 Less.sub Less.not) hO.less.fut hr54) ?_
       rintro _ w53 ⟨rfl, hC53⟩
       have h0 := h0.ext hC53
       have hb2 := hb2.chg hC53 (fun h => nomatch h)
       have hv9x0 := hv9x0.ext hC53
       have hvi41x0 := hvi41x0.ext hC53
       have hb17 := hb17.chg hC53 (fun h => nomatch h)
       have hvi51x0 := hvi51x0.ext hC53
       have hv35x0 := hv35x0.ext hC53
       have hC := hC.ext hC53
       have hO := hO.ext hC53
       refine pl_val (.int .i64 r54) (y_assign rfl) ?_
       refine c_nil ?_
       refine c_seq ?_
       refine c_seq (c_region ?_)
       refine pl_val (.int .i64 r54) (y_move rfl) ?_
       refine pl_val (.bool (decide (r54 < 0))) (y_lss rfl rfl) ?_
       refine c_nil ?_
       rcases bif_some hs with ⟨hc55, hs⟩ | ⟨hc55, hs⟩
       ·skip
        refine c_condT (congrArg Value.bool hc55) ?_
        refine c_seq (c_region ?_)
        refine pl_val (.bool false) (y_assign rfl) ?_
        refine c_nil ?_
        refine wp_ret ?_
        cases hs
        exact ⟨_, fr_ovl 96 ⟨rfl, trivial⟩, hC⟩
       ·skip
        refine c_condF (congrArg Value.bool hc55) ?_
        refine wp_skip ?_
        refine c_seq ?_
        refine c_seq (c_region ?_)
        refine pl_val (.int .i64 r54) (y_move rfl) ?_
        refine pl_val (.int .i64 r52.1) (y_move rfl) ?_
        refine pl_val (.bool (r54 != r52.1)) (y_neq rfl rfl) ?_
        refine c_nil ?_
        rcases bif_some hs with ⟨hc56, hs⟩ | ⟨hc56, hs⟩
        ·skip
         refine c_condT (congrArg Value.bool hc56) ?_
         refine c_seq (c_region ?_)
         refine pl_val (.bool false) (y_assign rfl) ?_
         refine c_nil ?_
         refine wp_ret ?_
         cases hs
         exact ⟨_, fr_ovl 96 ⟨rfl, trivial⟩, hC⟩
        ·skip
         refine c_condF (congrArg Value.bool hc56) ?_
         refine wp_skip ?_
         refine c_seq (c_region ?_)
         refine pl_val (.agg #[(.int .i64 aA.1), (.slice pa0 pn0 pc0)]) (y_load rfl ((box_load Ag24 Sz24 hb2 [] [(.int .i64 aA.1), (.slice pa0 pn0 pc0)] [] rfl rfl (fun h => nomatch h)) _ (Chg.refl _ _))) ?_
         obtain ⟨r58, hr58, hs⟩ := bind_some hs
         refine pl_call Bd11 rfl (c_laws_toAlgebra (M := (Past M10 w6 w9)) (aA.1, aA.2) h0 hO.fut hr58) ?_
         rintro _ w57 ⟨a57x0, n57x0, c57x0, f57x0, rfl, hC57, hv57x0, hOc57⟩
         have h0 := h0.ext hC57
         have hb2 := hb2.chg hC57 (fun h => nomatch h)
         have hv9x0 := hv9x0.ext hC57
         have hvi41x0 := hvi41x0.ext hC57
         have hb17 := hb17.chg hC57 (fun h => nomatch h)
         have hvi51x0 := hvi51x0.ext hC57
         have hv35x0 := hv35x0.ext hC57
         have hC := hC.ext hC57
         have hO := Own.join0 hO hC57 hOc57
         have hO := hO.perm (R := f57x0 ++ (fi51x0 ++ (fi41x0 ++ (f35x0 ++ (([g16]) ++ (([g2]) ++ ([]))))))) (by simp)
         obtain ⟨r61, hr61, hs⟩ := bind_some hs
         refine pl_call Bd25 rfl (c_impl_InnerIsos (M := (Less (Past M10 w6 w9) f57x0)) (r58.1, r58.2) (((Frz.os (Frz.pr Frz.int (Frz.os Frz.int)))).val hv57x0 Less.sub Less.not) hO.less.fut hr61) ?_
         rintro _ w60 ⟨a60x0, n60x0, c60x0, f60x0, rfl, hC60, hv60x0, hOc60⟩
         have h0 := h0.ext hC60
         have hb2 := hb2.chg hC60 (fun h => nomatch h)
         have hv9x0 := hv9x0.ext hC60
         have hvi41x0 := hvi41x0.ext hC60
         have hb17 := hb17.chg hC60 (fun h => nomatch h)
         have hvi51x0 := hvi51x0.ext hC60
         have hv35x0 := hv35x0.ext hC60
         have hv57x0 := hv57x0.ext hC60
         have hC := hC.ext hC60
         have hO := Own.join0 hO hC60 hOc60
         have hO := hO.perm (R := f60x0 ++ (f57x0 ++ (fi51x0 ++ (fi41x0 ++ (f35x0 ++ (([g16]) ++ (([g2]) ++ ([])))))))) (by simp)
         have hv60x0 := hv60x0.free (M' := (Past M10 w6 w9)) (Free.os (Free.pr Free.int (Free.os (Free.os Free.int))))
         refine pl_val (.tuple #[(.slice a60x0 n60x0 c60x0), (.bool r61.2)]) (y_move rfl) ?_
         refine pl_val (.slice a60x0 n60x0 c60x0) (y_extract rfl (by kernel_rfl)) ?_
         refine pl_val (.bool r61.2) (y_extract rfl (by kernel_rfl)) ?_
         refine pl_val (.slice a60x0 n60x0 c60x0) (y_assign rfl) ?_
         refine pl_val (.bool r61.2) (y_assign rfl) ?_
         refine c_nil ?_
         refine c_seq ?_
         refine c_seq ?_
         obtain ⟨s63, hm66, hs⟩ := bind_some hs
         refine c_mid (I := fun a w65 => ∃ (σ : Nat → Value), a = fr 96 (ovl σ [(2, (.bool false)), (7, (.slice a18x0 n18x0 c18x0)), (10, (.int .i64 r52.1)), (11, (.int .i64 r54)), (87, (.bool s63))]) ∧ Chg [] w60 w65) ?_ ?_
         ·replace hs := hm66
          have hMid := Chg.refl [] w60
          refine c_region ?_
          refine pl_val (.slice a60x0 n60x0 c60x0) (y_move rfl) ?_
          refine pl_val (.slice a9x0 n9x0 c9x0) (y_move rfl) ?_
          obtain ⟨r68, hr68, hs⟩ := bind_some hs
          refine pl_call Bd20 rfl (c_laws_eqRelationS (M := (Less (Past M10 w6 w9) f60x0)) r61.1 r11.1 (((Frz.os (Frz.pr Frz.int (Frz.os (Frz.os Frz.int))))).val hv60x0 Less.sub Less.not) (hv9x0.sub Less.sub) hO.less.fut hr68) ?_
          rintro _ w67 ⟨rfl, hC67⟩
          have hb2 := hb2.chg hC67 (fun h => nomatch h)
          have hv9x0 := hv9x0.ext hC67
          have hvi41x0 := hvi41x0.ext hC67
          have hb17 := hb17.chg hC67 (fun h => nomatch h)
          have hvi51x0 := hvi51x0.ext hC67
          have hv35x0 := hv35x0.ext hC67
          have hv57x0 := hv57x0.ext hC67
          have hv60x0 := hv60x0.ext hC67
          have hMid := hMid.ext hC67
          have hC := hC.ext hC67
          have hO := hO.ext hC67
          refine pl_val (.bool (!r68)) (y_not rfl) ?_
          refine pl_val (.bool (!r68)) (y_move rfl) ?_
          rcases bif_some hs with ⟨hc69, hs⟩ | ⟨hc69, hs⟩
          ·skip
           refine pl_not (tg := 83) (by kernel_rfl) (congrArg Value.bool hc69) ?_
           refine pl_not (tg := 83) (by kernel_rfl) (congrArg Value.bool hc69) ?_
           refine pl_not (tg := 83) (by kernel_rfl) (congrArg Value.bool hc69) ?_
           refine pl_val (.bool true) (y_pick_t (congrArg Value.bool hc69) rfl) ?_
           refine c_nil ?_
           cases hs
           exact ⟨_, fr_ovl 96 ⟨rfl, rfl, rfl, rfl, rfl, trivial⟩, hMid⟩
          ·skip
           refine pl_yes (.bool r61.2) (tg := 83) (by kernel_rfl) (congrArg Value.bool hc69) (y_move rfl) ?_
           refine pl_yes (.bool r11.2) (tg := 83) (by kernel_rfl) (congrArg Value.bool hc69) (y_move rfl) ?_
           refine pl_yes (.bool (!(r61.2 == r11.2))) (tg := 83) (by kernel_rfl) (congrArg Value.bool hc69) (y_bneq Try.underlying4 rfl rfl) ?_
           refine pl_val (.bool (!(r61.2 == r11.2))) (y_pick_f (congrArg Value.bool hc69) rfl) ?_
           refine c_nil ?_
           cases hs
           exact ⟨_, fr_ovl 96 ⟨rfl, rfl, rfl, rfl, rfl, trivial⟩, hMid⟩
         ·rintro a1 w65 ⟨σ, rfl, hCs63⟩
          have hb2 := hb2.chg hCs63 (fun h => nomatch h)
          have hvi41x0 := hvi41x0.ext hCs63
          have hb17 := hb17.chg hCs63 (fun h => nomatch h)
          have hvi51x0 := hvi51x0.ext hCs63
          have hv35x0 := hv35x0.ext hCs63
          have hv57x0 := hv57x0.ext hCs63
          have hv60x0 := hv60x0.ext hCs63
          have hC := hC.ext hCs63
          have hO := hO.ext hCs63
          rcases bif_some hs with ⟨hc70, hs⟩ | ⟨hc70, hs⟩
          ·skip
           refine c_condT (congrArg Value.bool hc70) ?_
           refine c_seq (c_region ?_)
           refine pl_val (.bool false) (y_assign rfl) ?_
           refine c_nil ?_
           refine wp_ret ?_
           cases hs
           exact ⟨_, fr_ovl 96 ⟨rfl, trivial⟩, hC⟩
          ·skip
           refine c_condF (congrArg Value.bool hc70) ?_
           refine wp_skip ?_
           refine c_seq (c_region ?_)
           refine pl_val (.int .i64 1) (y_assign rfl) ?_
           refine c_nil ?_
           refine c_seq (c_region ?_)
           refine pl_val (.slice a18x0 n18x0 c18x0) (y_move rfl) ?_
           refine pl_val (.int .i64 1) (y_move rfl) ?_
           have hO := hO.fr2
           obtain ⟨r72, hr72, hs⟩ := bind_some hs
           refine pl_call Bd23 rfl (c_laws_heldRelationS (M := (Less (Past M10 w6 w9) fi51x0)) r52.2 1 (((Frz.os (Frz.pr Frz.int (Frz.os (Frz.os Frz.int))))).val hvi51x0 Less.sub Less.not) hO.less.fut hr72) ?_
           rintro _ w71 ⟨rfl, hC71⟩
           have hb2 := hb2.chg hC71 (fun h => nomatch h)
           have hvi41x0 := hvi41x0.ext hC71
           have hb17 := hb17.chg hC71 (fun h => nomatch h)
           have hvi51x0 := hvi51x0.ext hC71
           have hv35x0 := hv35x0.ext hC71
           have hv57x0 := hv57x0.ext hC71
           have hv60x0 := hv60x0.ext hC71
           have hC := hC.ext hC71
           have hO := hO.ext hC71
           refine pl_val (.int .i64 r72) (y_assign rfl) ?_
           refine c_nil ?_
           refine c_seq ?_
           refine c_seq (c_region ?_)
           refine pl_val (.int .i64 r72) (y_move rfl) ?_
           refine pl_val (.bool (decide (r72 < 0))) (y_lss rfl rfl) ?_
           refine c_nil ?_
           rcases bif_some hs with ⟨hc73, hs⟩ | ⟨hc73, hs⟩
           ·skip
            refine c_condT (congrArg Value.bool hc73) ?_
            refine c_seq (c_region ?_)
            refine pl_val (.bool false) (y_assign rfl) ?_
            refine c_nil ?_
            refine wp_ret ?_
            cases hs
            exact ⟨_, fr_ovl 96 ⟨rfl, trivial⟩, hC⟩
           ·skip
            refine c_condF (congrArg Value.bool hc73) ?_
            refine wp_skip ?_
            refine c_seq ?_
            refine c_seq (c_region ?_)
            refine pl_val (.int .i64 r72) (y_move rfl) ?_
            refine pl_val (.int .i64 r52.1) (y_move rfl) ?_
            refine pl_val (.bool (r72 != r52.1)) (y_neq rfl rfl) ?_
            refine c_nil ?_
            rcases bif_some hs with ⟨hc74, hs⟩ | ⟨hc74, hs⟩
            ·skip
             refine c_condT (congrArg Value.bool hc74) ?_
             refine c_seq (c_region ?_)
             refine pl_val (.bool false) (y_assign rfl) ?_
             refine c_nil ?_
             refine wp_ret ?_
             cases hs
             exact ⟨_, fr_ovl 96 ⟨rfl, trivial⟩, hC⟩
            ·skip
             refine c_condF (congrArg Value.bool hc74) ?_
             refine wp_skip ?_
             refine c_seq (c_region ?_)
             refine pl_val (.bool true) (y_assign rfl) ?_
             refine c_nil ?_
             refine wp_ret ?_
             cases hs
             exact ⟨_, fr_ovl 96 ⟨rfl, trivial⟩, hC⟩

end Go.Proofs
