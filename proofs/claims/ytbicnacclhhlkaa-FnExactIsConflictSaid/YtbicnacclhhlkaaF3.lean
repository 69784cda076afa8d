/- What functions of the program compute, as plain functions, and that a call gives just that. Conditions: those named in each theorem. -/
import Derived.Test.YtbicnacclhhlkaaF2
set_option linter.unusedVariables false
namespace Go.Proofs
open Go.G Go.RowKit
set_option maxRecDepth 100000

def k_laws_eqNetwork (M : Nat → Prop) (w0 : World) (r : Bool) (a : Act) (w : World) : Prop :=
  ∃ (σ : Nat → Value) , a = fr 21 (ovl σ [(4, (.bool r))]) ∧ Chg [] w0 w
def s_laws_eqNetwork (a_ : Int × Int × (List ((List Int) × (Int × (List (List Int)))))) (b : Int × Int × (List ((List Int) × (Int × (List (List Int)))))) : Option (Bool) :=
  (bif (a_.1 != b.1) then some false else (bif (a_.2.1 != b.2.1) then some false else (s_laws_eqConstraintS a_.2.2 b.2.2).bind fun r8 =>
  (bif (!r8) then some false else some true)))
set_option maxHeartbeats 4000000 in
theorem c_laws_eqNetwork {M : Nat → Prop} {w : World} {pa0 : Option Addr} {pn0 pc0 : Nat} {pa1 : Option Addr} {pn1 pc1 : Nat} (a_ : Int × Int × (List ((List Int) × (Int × (List (List Int)))))) (b : Int × Int × (List ((List Int) × (Int × (List (List Int)))))) (h0 : (RT.rs (RT.pr (RT.rs (RT.int .i64)) (RT.pr (RT.int .i64) (RT.rs (RT.rs (RT.int .i64)))))).val M w (.slice pa0 pn0 pc0) a_.2.2 ([])) (h1 : (RT.rs (RT.pr (RT.rs (RT.int .i64)) (RT.pr (RT.int .i64) (RT.rs (RT.rs (RT.int .i64)))))).val M w (.slice pa1 pn1 pc1) b.2.2 ([])) (hM : ∀ g, w.heap.size ≤ g → M g) {r : Bool} (hs : s_laws_eqNetwork a_ b = some r) :
    Gives Try.prog 15 [(.agg #[(.int .i64 a_.1), (.int .i64 a_.2.1), (.slice pa0 pn0 pc0)]), (.agg #[(.int .i64 b.1), (.int .i64 b.2.1), (.slice pa1 pn1 pc1)])] w (fun v w' => v = (.bool r) ∧ Chg [] w w') := by
 refine calls_fr Try.func15 rfl Try.ntmps15 (Nat.le_of_ble_eq_true rfl) ?_
 have hO := Own.start (N := Nw w []) hM Nw.fut
 have hC := Chg.refl [] w
 unfold s_laws_eqNetwork at hs
 refine wp_mono (Q := KPost (k_laws_eqNetwork M w r)) ?_ (fun e a b7 h => ?_)
 rotate_left
 ·cases e
  case ret =>
   obtain ⟨σ, rfl, hrest⟩ := h
   exact ret1x Try.results15 (res_tmp rfl) ⟨rfl, hrest⟩
  all_goals exact (h : False).elim
 refine c_sr ?_
 obtain ⟨b0, a4, b3, b1, a5, a0⟩ := new_block w [(.int .i64 a_.1), (.int .i64 a_.2.1), (.slice pa0 pn0 pc0)] 30
 refine pl_val (w' := b0) (.pointer (some ⟨a4, 0, none⟩)) (y_box rfl (by rw [b3, b1]; kernel_rfl)) ?_
 have h0 := h0.ext a5
 have h1 := h1.ext a5
 have hC := hC.ext a5
 have hO := hO.new1 a5 b1 a0.lt
 obtain ⟨b4, a6, b5, b2, a3, a1⟩ := new_block b0 [(.int .i64 b.1), (.int .i64 b.2.1), (.slice pa1 pn1 pc1)] 30
 refine pl_val (w' := b4) (.pointer (some ⟨a6, 0, none⟩)) (y_box rfl (by rw [b5, b2]; kernel_rfl)) ?_
 have h0 := h0.ext a3
 have h1 := h1.ext a3
 have a0 := a0.cn a3
 have hC := hC.ext a3
 have hO := hO.new1 a3 b2 a1.lt
 refine pl_val (.bool false) (y_assign rfl) ?_
 refine c_nil ?_
 refine c_seq ?_
 refine c_sr ?_
 refine pl_val (.pointer (some ⟨a4, 0, none⟩)) (y_faddr rfl Fa30x0) ?_
 refine pl_val (.int .i64 a_.1) (y_load rfl ((box_load Ag3 Sz3 a0 [] [(.int .i64 a_.1)] [(.int .i64 a_.2.1), (.slice pa0 pn0 pc0)] rfl rfl (fun _ => rfl)) _ (Chg.refl _ _))) ?_
 refine pl_val (.pointer (some ⟨a6, 0, none⟩)) (y_faddr rfl Fa30x0) ?_
 refine pl_val (.int .i64 b.1) (y_load rfl ((box_load Ag3 Sz3 a1 [] [(.int .i64 b.1)] [(.int .i64 b.2.1), (.slice pa1 pn1 pc1)] rfl rfl (fun _ => rfl)) _ (Chg.refl _ _))) ?_
 refine pl_val (.bool (a_.1 != b.1)) (y_neq rfl rfl) ?_
 refine c_nil ?_
 rcases bif_some hs with ⟨a7, hs⟩ | ⟨a7, hs⟩
 ·refine c_condT (congrArg Value.bool a7) ?_
  refine c_sr ?_
  refine pl_val (.bool false) (y_assign rfl) ?_
  refine c_nil ?_
  refine wp_ret ?_
  cases hs
  exact ⟨_, fr_ovl 21 ⟨rfl, trivial⟩, hC⟩
 refine c_condF (congrArg Value.bool a7) ?_
 refine wp_skip ?_
 refine c_seq ?_
 refine c_sr ?_
 refine pl_val (.pointer (some ⟨a4, 1, none⟩)) (y_faddr rfl Fa30x1) ?_
 refine pl_val (.int .i64 a_.2.1) (y_load rfl ((box_load Ag3 Sz3 a0 [(.int .i64 a_.1)] [(.int .i64 a_.2.1)] [(.slice pa0 pn0 pc0)] rfl rfl (fun _ => rfl)) _ (Chg.refl _ _))) ?_
 refine pl_val (.pointer (some ⟨a6, 1, none⟩)) (y_faddr rfl Fa30x1) ?_
 refine pl_val (.int .i64 b.2.1) (y_load rfl ((box_load Ag3 Sz3 a1 [(.int .i64 b.1)] [(.int .i64 b.2.1)] [(.slice pa1 pn1 pc1)] rfl rfl (fun _ => rfl)) _ (Chg.refl _ _))) ?_
 refine pl_val (.bool (a_.2.1 != b.2.1)) (y_neq rfl rfl) ?_
 refine c_nil ?_
 rcases bif_some hs with ⟨a8, hs⟩ | ⟨a8, hs⟩
 ·refine c_condT (congrArg Value.bool a8) ?_
  refine c_sr ?_
  refine pl_val (.bool false) (y_assign rfl) ?_
  refine c_nil ?_
  refine wp_ret ?_
  cases hs
  exact ⟨_, fr_ovl 21 ⟨rfl, trivial⟩, hC⟩
 refine c_condF (congrArg Value.bool a8) ?_
 refine wp_skip ?_
 refine c_seq ?_
 refine c_sr ?_
 refine pl_val (.pointer (some ⟨a4, 2, none⟩)) (y_faddr rfl Fa30x2) ?_
 refine pl_val (.slice pa0 pn0 pc0) (y_load rfl ((box_load Ag28 Sz28 a0 [(.int .i64 a_.1), (.int .i64 a_.2.1)] [(.slice pa0 pn0 pc0)] [] rfl rfl (fun _ => rfl)) _ (Chg.refl _ _))) ?_
 refine pl_val (.pointer (some ⟨a6, 2, none⟩)) (y_faddr rfl Fa30x2) ?_
 refine pl_val (.slice pa1 pn1 pc1) (y_load rfl ((box_load Ag28 Sz28 a1 [(.int .i64 b.1), (.int .i64 b.2.1)] [(.slice pa1 pn1 pc1)] [] rfl rfl (fun _ => rfl)) _ (Chg.refl _ _))) ?_
 obtain ⟨r8, b6, hs⟩ := bind_some hs
 refine pl_call Bd54 rfl (c_laws_eqConstraintS (M := M) a_.2.2 b.2.2 h0 h1 hO.fut b6) ?_
 rintro _ b8 ⟨rfl, a2⟩
 have h0 := h0.ext a2
 have h1 := h1.ext a2
 have a0 := a0.cn a2
 have a1 := a1.cn a2
 have hC := hC.ext a2
 have hO := hO.ext a2
 refine pl_val (.bool (!r8)) (y_not rfl) ?_
 refine c_nil ?_
 have hO := hO.drop
 have hO := hO.drop
 rcases bif_some hs with ⟨a9, hs⟩ | ⟨a9, hs⟩
 ·refine c_condT (congrArg Value.bool a9) ?_
  refine c_sr ?_
  refine pl_val (.bool false) (y_assign rfl) ?_
  refine c_nil ?_
  refine wp_ret ?_
  cases hs
  exact ⟨_, fr_ovl 21 ⟨rfl, trivial⟩, hC⟩
 refine c_condF (congrArg Value.bool a9) ?_
 refine wp_skip ?_
 refine c_sr ?_
 refine pl_val (.bool true) (y_assign rfl) ?_
 refine c_nil ?_
 refine wp_ret ?_
 cases hs
 exact ⟨_, fr_ovl 21 ⟨rfl, trivial⟩, hC⟩

theorem Ag24 : AggT Try.prog 24 true := fun _ => by kernel_rfl

theorem Sz24 : SzT Try.prog 24 3 := ⟨_, rfl, rfl⟩

theorem Bd11 : Bodied Try.prog 11 := bodied Try.func11 (by kernel_rfl) rfl

theorem Bd13 : Bodied Try.prog 13 := bodied Try.func13 (by kernel_rfl) rfl

theorem Bd21 : Bodied Try.prog 21 := bodied Try.func21 (by kernel_rfl) rfl

theorem Bd23 : Bodied Try.prog 23 := bodied Try.func23 (by kernel_rfl) rfl

theorem Bd15 : Bodied Try.prog 15 := bodied Try.func15 (by kernel_rfl) rfl

def k_laws_FnExactIsConflict (M : Nat → Prop) (w0 : World) (r : Bool) (a : Act) (w : World) : Prop :=
  ∃ (σ : Nat → Value) , a = fr 56 (ovl σ [(4, (.bool r))]) ∧ Chg [] w0 w
def s_laws_FnExactIsConflict (aNet : Int × Int × (List ((List Int) × (Int × (List (List Int)))))) (aIndices : List Int) : Option (Bool) :=
  (bif (decide (1048576 < (aIndices.length : Int))) then some true else (s_laws_szNetwork (aNet.1, aNet.2.1, aNet.2.2) 1048576).bind fun r6 =>
  (bif (decide (r6 < 0)) then some true else (s_laws_toNetwork (aNet.1, aNet.2.1, aNet.2.2)).bind fun r9 =>
  (s_laws_toIntS aIndices).bind fun r12 =>
  (s_spec_IsConflict (r9.1, r9.2.1, r9.2.2) r12).bind fun r15 =>
  (s_laws_toNetwork (aNet.1, aNet.2.1, aNet.2.2)).bind fun r17 =>
  (s_laws_toIntS aIndices).bind fun r22 =>
  (s_impl_IsConflict (r17.1, r17.2.1, r17.2.2) r22).bind fun r25 =>
  (bif ((!(r25.1 == r15.1)) || (!(r25.2 == r15.2))) then some false else (s_laws_toNetwork (aNet.1, aNet.2.1, aNet.2.2)).bind fun r39 =>
  (s_laws_eqNetwork (r17.1, r17.2.1, r17.2.2) (r39.1, r39.2.1, r39.2.2)).bind fun r42 =>
  (bif (!r42) then some false else (s_laws_toIntS aIndices).bind fun r45 =>
  (s_laws_eqIntS r22 r45).bind fun r48 =>
  (bif (!r48) then some false else some true)))))
set_option maxHeartbeats 4000000 in
theorem c_laws_FnExactIsConflict {M : Nat → Prop} {w : World} {pa0 : Option Addr} {pn0 pc0 : Nat} {pa1 : Option Addr} {pn1 pc1 : Nat} (aNet : Int × Int × (List ((List Int) × (Int × (List (List Int)))))) (aIndices : List Int) (h0 : (RT.rs (RT.pr (RT.rs (RT.int .i64)) (RT.pr (RT.int .i64) (RT.rs (RT.rs (RT.int .i64)))))).val M w (.slice pa0 pn0 pc0) aNet.2.2 ([])) (h1 : (RT.rs (RT.int .i64)).val M w (.slice pa1 pn1 pc1) aIndices ([])) (hM : ∀ g, w.heap.size ≤ g → M g) {r : Bool} (hs : s_laws_FnExactIsConflict aNet aIndices = some r) :
    Gives Try.prog 5 [(.agg #[(.int .i64 aNet.1), (.int .i64 aNet.2.1), (.slice pa0 pn0 pc0)]), (.slice pa1 pn1 pc1)] w (fun v w' => v = (.bool r) ∧ Chg [] w w') := by
 refine calls_fr Try.func5 rfl Try.ntmps5 (Nat.le_of_ble_eq_true rfl) ?_
 have hO := Own.start (N := Nw w []) hM Nw.fut
 have hC := Chg.refl [] w
 unfold s_laws_FnExactIsConflict at hs
 refine wp_mono (Q := KPost (k_laws_FnExactIsConflict M w r)) ?_ (fun e a h9 h => ?_)
 rotate_left
 ·cases e
  case ret =>
   obtain ⟨σ, rfl, hrest⟩ := h
   exact ret1x Try.results5 (res_tmp rfl) ⟨rfl, hrest⟩
  all_goals exact (h : False).elim
 refine c_sr ?_
 obtain ⟨f1, b0, f2, e3, c9, a0⟩ := new_block w [(.int .i64 aNet.1), (.int .i64 aNet.2.1), (.slice pa0 pn0 pc0)] 24
 refine pl_val (w' := f1) (.pointer (some ⟨b0, 0, none⟩)) (y_box rfl (by rw [f2, e3]; kernel_rfl)) ?_
 have h0 := h0.ext c9
 have h1 := h1.ext c9
 have hC := hC.ext c9
 have hO := hO.new1 c9 e3 a0.lt
 refine pl_val (.bool false) (y_assign rfl) ?_
 refine c_nil ?_
 refine c_seq ?_
 refine c_sr ?_
 refine pl_val (.slice pa1 pn1 pc1) (y_move rfl) ?_
 refine pl_val (.int .i64 (aIndices.length : Int)) (y_len' Sl41 (rs_len h1) rfl) ?_
 refine pl_val (.bool (decide (1048576 < (aIndices.length : Int)))) (y_gtr rfl rfl) ?_
 refine c_nil ?_
 rcases bif_some hs with ⟨d5, hs⟩ | ⟨d5, hs⟩
 ·refine c_condT (congrArg Value.bool d5) ?_
  refine c_sr ?_
  refine pl_val (.bool true) (y_assign rfl) ?_
  refine c_nil ?_
  refine wp_ret ?_
  cases hs
  exact ⟨_, fr_ovl 56 ⟨rfl, trivial⟩, hC⟩
 refine c_condF (congrArg Value.bool d5) ?_
 refine wp_skip ?_
 refine c_sr ?_
 refine pl_val (.int .i64 1048576) (y_assign rfl) ?_
 refine c_nil ?_
 refine c_sr ?_
 refine pl_val (.agg #[(.int .i64 aNet.1), (.int .i64 aNet.2.1), (.slice pa0 pn0 pc0)]) (y_load rfl ((box_load Ag24 Sz24 a0 [] [(.int .i64 aNet.1), (.int .i64 aNet.2.1), (.slice pa0 pn0 pc0)] [] rfl rfl (fun h => nomatch h)) _ (Chg.refl _ _))) ?_
 refine pl_val (.int .i64 1048576) (y_move rfl) ?_
 obtain ⟨r6, f3, hs⟩ := bind_some hs
 refine pl_call Bd11 rfl (c_laws_szNetwork (M := M) (aNet.1, aNet.2.1, aNet.2.2) 1048576 h0 hO.fut f3) ?_
 rintro _ i0 ⟨rfl, c4⟩
 have h0 := h0.ext c4
 have h1 := h1.ext c4
 have a0 := a0.cn c4
 have hC := hC.ext c4
 have hO := hO.ext c4
 refine pl_val (.int .i64 r6) (y_assign rfl) ?_
 refine c_nil ?_
 refine c_seq ?_
 refine c_sr ?_
 refine pl_val (.int .i64 r6) (y_move rfl) ?_
 refine pl_val (.bool (decide (r6 < 0))) (y_lss rfl rfl) ?_
 refine c_nil ?_
 rcases bif_some hs with ⟨d6, hs⟩ | ⟨d6, hs⟩
 ·refine c_condT (congrArg Value.bool d6) ?_
  refine c_sr ?_
  refine pl_val (.bool true) (y_assign rfl) ?_
  refine c_nil ?_
  refine wp_ret ?_
  cases hs
  exact ⟨_, fr_ovl 56 ⟨rfl, trivial⟩, hC⟩
 refine c_condF (congrArg Value.bool d6) ?_
 refine wp_skip ?_
 refine c_sr ?_
 refine pl_val (.agg #[(.int .i64 aNet.1), (.int .i64 aNet.2.1), (.slice pa0 pn0 pc0)]) (y_load rfl ((box_load Ag24 Sz24 a0 [] [(.int .i64 aNet.1), (.int .i64 aNet.2.1), (.slice pa0 pn0 pc0)] [] rfl rfl (fun h => nomatch h)) _ (Chg.refl _ _))) ?_
 obtain ⟨r9, f4, hs⟩ := bind_some hs
 refine pl_call Bd13 rfl (c_laws_toNetwork (M := M) (aNet.1, aNet.2.1, aNet.2.2) h0 hO.fut f4) ?_
 rintro _ i1 ⟨i2, i3, i4, d7, rfl, c5, c6, f5⟩
 have h0 := h0.ext c5
 have h1 := h1.ext c5
 have a0 := a0.cn c5
 have hC := hC.ext c5
 have hO := Own.join0 hO c5 f5
 have hO := hO.perm (R := d7 ++ (([b0]) ++ ([]))) (by simp)
 refine pl_val (.slice pa1 pn1 pc1) (y_move rfl) ?_
 obtain ⟨r12, f6, hs⟩ := bind_some hs
 refine pl_call Bd22 rfl (c_laws_toIntS (M := M) aIndices h1 hO.fut f6) ?_
 rintro _ i5 ⟨i6, i7, i9, e4, rfl, b6, d8, f7⟩
 have h0 := h0.ext b6
 have h1 := h1.ext b6
 have a0 := a0.cn b6
 have c6 := c6.ext b6
 have hC := hC.ext b6
 have hO := Own.join0 hO b6 f7
 have hO := hO.perm (R := e4 ++ (d7 ++ (([b0]) ++ ([])))) (by simp)
 have hO := hO.fr1
 obtain ⟨r15, f8, hs⟩ := bind_some hs
 refine pl_call Bd21 rfl (c_spec_IsConflict (M := (Less (Less M d7) e4)) (r9.1, r9.2.1, r9.2.2) r12 ((((Frz.os (Frz.pr (Frz.os Frz.int) (Frz.pr Frz.int (Frz.os (Frz.os Frz.int)))))).val c6 Less.sub Less.not).sub Less.sub) (((Frz.os Frz.int)).val (d8.sub Less.sub) Less.sub Less.not) (hO.less).less.fut f8) ?_
 rintro _ j0 ⟨rfl, b4⟩
 have h0 := h0.ext b4
 have h1 := h1.ext b4
 have a0 := a0.cn b4
 have c6 := c6.ext b4
 have d8 := d8.ext b4
 have hC := hC.ext b4
 have hO := hO.ext b4
 refine pl_val (.tuple #[(.bool r15.1), (.bool r15.2)]) (y_move rfl) ?_
 refine pl_val (.bool r15.1) (y_extract rfl (by kernel_rfl)) ?_
 refine pl_val (.bool r15.2) (y_extract rfl (by kernel_rfl)) ?_
 refine pl_val (.bool r15.1) (y_assign rfl) ?_
 refine pl_val (.bool r15.2) (y_assign rfl) ?_
 refine c_nil ?_
 have hO := hO.drop
 have hO := hO.drop
 refine c_sr ?_
 refine pl_val (.agg #[(.int .i64 aNet.1), (.int .i64 aNet.2.1), (.slice pa0 pn0 pc0)]) (y_load rfl ((box_load Ag24 Sz24 a0 [] [(.int .i64 aNet.1), (.int .i64 aNet.2.1), (.slice pa0 pn0 pc0)] [] rfl rfl (fun h => nomatch h)) _ (Chg.refl _ _))) ?_
 obtain ⟨r17, f9, hs⟩ := bind_some hs
 refine pl_call Bd13 rfl (c_laws_toNetwork (M := M) (aNet.1, aNet.2.1, aNet.2.2) h0 hO.fut f9) ?_
 rintro _ g0 ⟨b7, b8, b9, c0, rfl, c7, a1, g1⟩
 have h0 := h0.ext c7
 have h1 := h1.ext c7
 have a0 := a0.cn c7
 have hC := hC.ext c7
 have hO := Own.join0 hO c7 g1
 have hO := hO.perm (R := c0 ++ (([b0]) ++ ([]))) (by simp)
 obtain ⟨g2, c1, g3, e5, c2, e6⟩ := new_block g0 [(.int .i64 0), (.int .i64 0), (.slice none 0 0)] 30
 refine pl_val (w' := g2) (.pointer (some ⟨c1, 0, none⟩)) (y_alloc (by rw [g3, e5]; kernel_rfl)) ?_
 have h0 := h0.ext c2
 have h1 := h1.ext c2
 have a0 := a0.cn c2
 have a1 := a1.ext c2
 have hC := hC.ext c2
 have hO := hO.new1 c2 e5 e6.lt
 obtain ⟨e7, g4, c3, a2⟩ := box_store (P := Try.prog) e6 [] [(.int .i64 0), (.int .i64 0), (.slice none 0 0)] [] [(.int .i64 r17.1), (.int .i64 r17.2.1), (.slice b7 b8 b9)] rfl rfl (by intro u hu; simp only [List.mem_cons, List.not_mem_nil, or_false] at hu; rcases hu with rfl | rfl | rfl <;> rfl)
 refine pl_skip (w' := e7) (ys_store rfl rfl (g4 _ _ rfl Sz30)) ?_
 have h0 := h0.mt c3 hO same_
 have h1 := h1.mt c3 hO same_
 have a0 := a0.ap c3 hO same_ (mem_r (mem_l (List.mem_singleton.2 rfl)))
 have a1 := a1.ma c3 hO same_ (fun _ e => (mem_l (e)))
 have hC := hC.st c3 hO same_
 have hO := hO.ext c3
 have a2 : BoxV e7 c1 30 [(.int .i64 r17.1), (.int .i64 r17.2.1), (.slice b7 b8 b9)] := a2
 refine c_nil ?_
 refine c_sr ?_
 refine pl_val (.slice pa1 pn1 pc1) (y_move rfl) ?_
 obtain ⟨r22, g5, hs⟩ := bind_some hs
 refine pl_call Bd22 rfl (c_laws_toIntS (M := M) aIndices h1 hO.fut g5) ?_
 rintro _ j1 ⟨d0, d1, d2, c8, rfl, b5, a3, g6⟩
 have h0 := h0.ext b5
 have h1 := h1.ext b5
 have a0 := a0.cn b5
 have a1 := a1.ext b5
 have a2 := a2.cn b5
 have hC := hC.ext b5
 have hO := Own.join0 hO b5 g6
 have hO := hO.perm (R := c8 ++ (([c1]) ++ (c0 ++ (([b0]) ++ ([]))))) (by simp)
 refine pl_val (.slice d0 d1 d2) (y_assign rfl) ?_
 refine c_nil ?_
 refine c_sr ?_
 refine pl_val (.agg #[(.int .i64 r17.1), (.int .i64 r17.2.1), (.slice b7 b8 b9)]) (y_load rfl ((box_load Ag30 Sz30 a2 [] [(.int .i64 r17.1), (.int .i64 r17.2.1), (.slice b7 b8 b9)] [] rfl rfl (fun h => nomatch h)) _ (Chg.refl _ _))) ?_
 refine pl_val (.slice d0 d1 d2) (y_move rfl) ?_
 have hO := hO.fr2
 obtain ⟨r25, g7, hs⟩ := bind_some hs
 refine pl_call Bd23 rfl (c_impl_IsConflict (M := (Less (Less M c0) c8)) (r17.1, r17.2.1, r17.2.2) r22 ((((Frz.os (Frz.pr (Frz.os Frz.int) (Frz.pr Frz.int (Frz.os (Frz.os Frz.int)))))).val a1 Less.sub Less.not).sub Less.sub) (((Frz.os Frz.int)).val (a3.sub Less.sub) Less.sub Less.not) (hO.less).less.fut g7) ?_
 rintro _ e8 ⟨rfl, b1⟩
 have h0 := h0.ext b1
 have h1 := h1.ext b1
 have a0 := a0.cn b1
 have a1 := a1.ext b1
 have a2 := a2.cn b1
 have a3 := a3.ext b1
 have hC := hC.ext b1
 have hO := hO.ext b1
 refine pl_val (.tuple #[(.bool r25.1), (.bool r25.2)]) (y_move rfl) ?_
 refine pl_val (.bool r25.1) (y_extract rfl (by kernel_rfl)) ?_
 refine pl_val (.bool r25.2) (y_extract rfl (by kernel_rfl)) ?_
 refine pl_val (.bool r25.1) (y_assign rfl) ?_
 refine pl_val (.bool r25.2) (y_assign rfl) ?_
 refine c_nil ?_
 refine c_seq ?_
 refine c_seq ?_
 refine c_mid (I := fun a d3 => ∃ (σ : Nat → Value), a = fr 56 (ovl σ [(1, (.slice pa1 pn1 pc1)), (2, (.pointer (some ⟨b0, 0, none⟩))), (4, (.bool false)), (8, (.pointer (some ⟨c1, 0, none⟩))), (9, (.slice d0 d1 d2)), (45, (.bool ((!(r25.1 == r15.1)) || (!(r25.2 == r15.2)))))]) ∧ Chg [] e8 d3) ?_ ?_
 ·have hMid := Chg.refl [] e8
  refine c_region ?_
  refine pl_val (.bool r25.1) (y_move rfl) ?_
  refine pl_val (.bool r15.1) (y_move rfl) ?_
  refine pl_val (.bool (!(r25.1 == r15.1))) (y_bneq Try.underlying4 rfl rfl) ?_
  refine pl_val (.bool (!(r25.1 == r15.1))) (y_move rfl) ?_
  rcases Bool.eq_false_or_eq_true ((!(r25.1 == r15.1))) with a5 | a5
  ·skip
   refine pl_not (tg := 41) (by kernel_rfl) (congrArg Value.bool a5) ?_
   refine pl_not (tg := 41) (by kernel_rfl) (congrArg Value.bool a5) ?_
   refine pl_not (tg := 41) (by kernel_rfl) (congrArg Value.bool a5) ?_
   refine pl_val (.bool ((!(r25.1 == r15.1)) || (!(r25.2 == r15.2)))) (y_pick_t (congrArg Value.bool a5) (congrArg Value.bool (by rw [a5]; rfl))) ?_
   refine c_nil ?_
   exact ⟨_, fr_ovl 56 ⟨rfl, rfl, rfl, rfl, rfl, rfl, trivial⟩, hMid⟩
  refine pl_yes (.bool r25.2) (tg := 41) (by kernel_rfl) (congrArg Value.bool a5) (y_move rfl) ?_
  refine pl_yes (.bool r15.2) (tg := 41) (by kernel_rfl) (congrArg Value.bool a5) (y_move rfl) ?_
  refine pl_yes (.bool (!(r25.2 == r15.2))) (tg := 41) (by kernel_rfl) (congrArg Value.bool a5) (y_bneq Try.underlying4 rfl rfl) ?_
  refine pl_val (.bool ((!(r25.1 == r15.1)) || (!(r25.2 == r15.2)))) (y_pick_f (congrArg Value.bool a5) (congrArg Value.bool (by rw [a5]; rfl))) ?_
  refine c_nil ?_
  exact ⟨_, fr_ovl 56 ⟨rfl, rfl, rfl, rfl, rfl, rfl, trivial⟩, hMid⟩
 rintro j2 d3 ⟨σ, rfl, b2⟩
 have h0 := h0.ext b2
 have h1 := h1.ext b2
 have a0 := a0.cn b2
 have a1 := a1.ext b2
 have a2 := a2.cn b2
 have a3 := a3.ext b2
 have hC := hC.ext b2
 have hO := hO.ext b2
 rcases bif_some hs with ⟨d9, hs⟩ | ⟨d9, hs⟩
 ·refine c_condT (congrArg Value.bool d9) ?_
  refine c_sr ?_
  refine pl_val (.bool false) (y_assign rfl) ?_
  refine c_nil ?_
  refine wp_ret ?_
  cases hs
  exact ⟨_, fr_ovl 56 ⟨rfl, trivial⟩, hC⟩
 refine c_condF (congrArg Value.bool d9) ?_
 refine wp_skip ?_
 refine c_seq ?_
 refine c_seq ?_
 refine x_start [] Mx rfl ?_
 have a8 := Chg.drew d3
 generalize World.drew d3 = g8 at a8 ⊢
 have h0 := h0.ext a8
 have h1 := h1.ext a8
 have a0 := a0.cn a8
 have a1 := a1.ext a8
 have a2 := a2.cn a8
 have a3 := a3.ext a8
 have hC := hC.ext a8
 have hO := hO.ext a8
 have hS := Chg.refl [] g8
 refine x_l 0 (.agg #[(.int .i64 r17.1), (.int .i64 r17.2.1), (.slice b7 b8 b9)]) rfl (by kernel_rfl)  (fun w' hw' => y_load rfl ((box_load Ag30 Sz30 a2 [] [(.int .i64 r17.1), (.int .i64 r17.2.1), (.slice b7 b8 b9)] [] rfl rfl (fun h => nomatch h)) w' hw')) hS ?_
 refine x_l 1 (.agg #[(.int .i64 aNet.1), (.int .i64 aNet.2.1), (.slice pa0 pn0 pc0)]) rfl (by kernel_rfl)  (fun w' hw' => y_load rfl ((box_load Ag24 Sz24 a0 [] [(.int .i64 aNet.1), (.int .i64 aNet.2.1), (.slice pa0 pn0 pc0)] [] rfl rfl (fun h => nomatch h)) w' hw')) hS ?_
 refine x_one (i := 2) (by kernel_rfl) ?_
 obtain ⟨r39, g9, hs⟩ := bind_some hs
 refine xk_call (b := false) rfl  Bd13 rfl (c_laws_toNetwork (M := M) (aNet.1, aNet.2.1, aNet.2.2) h0 hO.fut g9) rfl (by rintro _ _ _ ⟨h2, h3, h4, d4, rfl, a6, b3, e9⟩; exact hS.ext a6) ?_
 rintro _ j3 ⟨h2, h3, h4, d4, rfl, a6, b3, e9⟩
 have h0 := h0.ext a6
 have h1 := h1.ext a6
 have a0 := a0.cn a6
 have a1 := a1.ext a6
 have a2 := a2.cn a6
 have a3 := a3.ext a6
 have hC := hC.ext a6
 have hO := Own.join0 hO a6 e9
 have hO := hO.perm (R := d4 ++ (c0 ++ (c8 ++ (([c1]) ++ (([b0]) ++ ([])))))) (by simp)
 have hS := hS.ext a6
 refine x_one (i := 3) (by kernel_rfl) ?_
 have hO := hO.fr1
 obtain ⟨r42, h5, hs⟩ := bind_some hs
 refine xk_call (b := false) rfl  Bd15 rfl (c_laws_eqNetwork (M := (Less (Less M c0) d4)) (r17.1, r17.2.1, r17.2.2) (r39.1, r39.2.1, r39.2.2) ((((Frz.os (Frz.pr (Frz.os Frz.int) (Frz.pr Frz.int (Frz.os (Frz.os Frz.int)))))).val a1 Less.sub Less.not).sub Less.sub) (((Frz.os (Frz.pr (Frz.os Frz.int) (Frz.pr Frz.int (Frz.os (Frz.os Frz.int)))))).val (b3.sub Less.sub) Less.sub Less.not) (hO.less).less.fut h5) rfl (by rintro _ _ _ ⟨rfl, a4⟩; exact hS.ext a4) ?_
 rintro _ j4 ⟨rfl, a4⟩
 have h0 := h0.ext a4
 have h1 := h1.ext a4
 have a0 := a0.cn a4
 have a1 := a1.ext a4
 have a2 := a2.cn a4
 have a3 := a3.ext a4
 have b3 := b3.ext a4
 have hC := hC.ext a4
 have hO := hO.ext a4
 have hS := hS.ext a4
 refine x_p 4 (.bool (!r42)) rfl (by kernel_rfl)  (fun _ => y_not rfl) (fun _ => hS) ?_
 refine x_end (by kernel_rfl) ?_
 clear hS
 rcases bif_some hs with ⟨e0, hs⟩ | ⟨e0, hs⟩
 ·refine c_condT (congrArg Value.bool e0) ?_
  refine c_sr ?_
  refine pl_val (.bool false) (y_assign rfl) ?_
  refine c_nil ?_
  have hO := hO.drop
  have hO := hO.drop
  have hO := hO.fr1
  have hO := hO.drop
  have hO := hO.fr1
  have hO := hO.drop
  refine wp_ret ?_
  cases hs
  exact ⟨_, fr_ovl 56 ⟨rfl, trivial⟩, hC⟩
 refine c_condF (congrArg Value.bool e0) ?_
 refine wp_skip ?_
 refine c_seq ?_
 refine c_sr ?_
 refine pl_val (.slice d0 d1 d2) (y_move rfl) ?_
 refine pl_val (.slice pa1 pn1 pc1) (y_move rfl) ?_
 obtain ⟨r45, h6, hs⟩ := bind_some hs
 refine pl_call Bd22 rfl (c_laws_toIntS (M := M) aIndices h1 hO.fut h6) ?_
 rintro _ j5 ⟨j6, j7, j8, f0, rfl, a9, e1, h7⟩
 have h0 := h0.ext a9
 have h1 := h1.ext a9
 have a0 := a0.cn a9
 have a1 := a1.ext a9
 have a2 := a2.cn a9
 have a3 := a3.ext a9
 have b3 := b3.ext a9
 have hC := hC.ext a9
 have hO := Own.join0 hO a9 h7
 have hO := hO.perm (R := f0 ++ (c0 ++ (d4 ++ (c8 ++ (([c1]) ++ (([b0]) ++ ([]))))))) (by simp)
 have hO := hO.fr3
 obtain ⟨r48, h8, hs⟩ := bind_some hs
 refine pl_call Bd24 rfl (c_laws_eqIntS (M := (Less (Less M c8) f0)) r22 r45 ((((Frz.os Frz.int)).val a3 Less.sub Less.not).sub Less.sub) (((Frz.os Frz.int)).val (e1.sub Less.sub) Less.sub Less.not) (hO.less).less.fut h8) ?_
 rintro _ j9 ⟨rfl, a7⟩
 have h0 := h0.ext a7
 have h1 := h1.ext a7
 have a0 := a0.cn a7
 have a1 := a1.ext a7
 have a2 := a2.cn a7
 have a3 := a3.ext a7
 have b3 := b3.ext a7
 have e1 := e1.ext a7
 have hC := hC.ext a7
 have hO := hO.ext a7
 refine pl_val (.bool (!r48)) (y_not rfl) ?_
 refine c_nil ?_
 have hO := hO.drop
 have hO := hO.drop
 have hO := hO.drop
 have hO := hO.drop
 have hO := hO.drop
 have hO := hO.drop
 rcases bif_some hs with ⟨e2, hs⟩ | ⟨e2, hs⟩
 ·refine c_condT (congrArg Value.bool e2) ?_
  refine c_sr ?_
  refine pl_val (.bool false) (y_assign rfl) ?_
  refine c_nil ?_
  refine wp_ret ?_
  cases hs
  exact ⟨_, fr_ovl 56 ⟨rfl, trivial⟩, hC⟩
 refine c_condF (congrArg Value.bool e2) ?_
 refine wp_skip ?_
 refine c_sr ?_
 refine pl_val (.bool true) (y_assign rfl) ?_
 refine c_nil ?_
 refine wp_ret ?_
 cases hs
 exact ⟨_, fr_ovl 56 ⟨rfl, trivial⟩, hC⟩

end Go.Proofs
