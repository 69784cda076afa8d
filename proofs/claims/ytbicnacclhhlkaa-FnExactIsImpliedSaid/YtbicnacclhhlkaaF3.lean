/- What functions of the program compute, as plain functions, and that a call gives just that. Conditions: those named in each theorem. -/
import Derived.Test.YtbicnacclhhlkaaF2
set_option linter.unusedVariables false
namespace Go.Proofs
open Go.G Go.RowKit
set_option maxRecDepth 100000

def k_laws_eqConstraintS (M : Nat → Prop) (w0 : World) (r : Bool) (a : Act) (w : World) : Prop :=
  ∃ (σ : Nat → Value) , a = fr 27 (ovl σ [(4, (.bool r))]) ∧ Chg [] w0 w
def s_laws_eqConstraintS (a_ : List ((List Int) × (Int × (List (List Int))))) (b : List ((List Int) × (Int × (List (List Int))))) : Option (Bool) :=
  (bif ((a_.length : Int) != (b.length : Int)) then some false else (forC (S := Unit) (R := Bool) (fun k20 s18 =>
  (idx a_ k20).bind fun x25 =>
  (idx b k20).bind fun x30 =>
  (s_laws_eqConstraint (x25.1, (x25.2.1, x25.2.2)) (x30.1, (x30.2.1, x30.2.2))).bind fun r36 =>
  (bif (!r36) then some (.rt false) else some (.nx ()))) 0 (a_.length : Int) ()).bind fun o22 => after o22 (fun r_ => some r_) (fun s18 =>
  some true))
set_option maxHeartbeats 4000000 in
theorem c_laws_eqConstraintS {M : Nat → Prop} {w : World} {pa0 : Option Addr} {pn0 pc0 : Nat} {pa1 : Option Addr} {pn1 pc1 : Nat} (a_ : List ((List Int) × (Int × (List (List Int))))) (b : List ((List Int) × (Int × (List (List Int))))) (h0 : (RT.rs (RT.pr (RT.rs (RT.int .i64)) (RT.pr (RT.int .i64) (RT.rs (RT.rs (RT.int .i64)))))).val M w (.slice pa0 pn0 pc0) a_ ([])) (h1 : (RT.rs (RT.pr (RT.rs (RT.int .i64)) (RT.pr (RT.int .i64) (RT.rs (RT.rs (RT.int .i64)))))).val M w (.slice pa1 pn1 pc1) b ([])) (hM : ∀ g, w.heap.size ≤ g → M g) {r : Bool} (hs : s_laws_eqConstraintS a_ b = some r) :
    Gives Try.prog 54 [(.slice pa0 pn0 pc0), (.slice pa1 pn1 pc1)] w (fun v w' => v = (.bool r) ∧ Chg [] w w') := by
 refine calls_fr Try.func54 rfl Try.ntmps54 (Nat.le_of_ble_eq_true rfl) ?_
 have hO := Own.start (N := Nw w []) hM Nw.fut
 have hC := Chg.refl [] w
 unfold s_laws_eqConstraintS at hs
 refine wp_mono (Q := KPost (k_laws_eqConstraintS M w r)) ?_ (fun e a a9 h => ?_)
 rotate_left
 ·cases e
  case ret =>
   obtain ⟨σ, rfl, hrest⟩ := h
   exact ret1x Try.results54 (res_tmp rfl) ⟨rfl, hrest⟩
  all_goals exact (h : False).elim
 refine c_sr ?_
 refine pl_val (.bool false) (y_assign rfl) ?_
 refine c_nil ?_
 refine c_seq ?_
 refine c_sr ?_
 refine pl_val (.slice pa0 pn0 pc0) (y_move rfl) ?_
 refine pl_val (.int .i64 (a_.length : Int)) (y_len' Sl28 (rs_len h0) rfl) ?_
 refine pl_val (.slice pa1 pn1 pc1) (y_move rfl) ?_
 refine pl_val (.int .i64 (b.length : Int)) (y_len' Sl28 (rs_len h1) rfl) ?_
 refine pl_val (.bool ((a_.length : Int) != (b.length : Int))) (y_neq rfl rfl) ?_
 refine c_nil ?_
 rcases bif_some hs with ⟨a3, hs⟩ | ⟨a3, hs⟩
 ·refine c_condT (congrArg Value.bool a3) ?_
  refine c_sr ?_
  refine pl_val (.bool false) (y_assign rfl) ?_
  refine c_nil ?_
  refine wp_ret ?_
  cases hs
  exact ⟨_, fr_ovl 27 ⟨rfl, trivial⟩, hC⟩
 refine c_condF (congrArg Value.bool a3) ?_
 refine wp_skip ?_
 refine c_seq ?_
 refine c_sr ?_
 refine pl_val (.int .i64 0) (y_assign rfl) ?_
 refine c_nil ?_
 obtain ⟨o22, b0, hs⟩ := bind_some hs
 refine wp_block ?_
 refine wp_forC (id := 0) (a_.length : Int) (I := fun k20 s18 a a0 => ∃ (σ : Nat → Value), a = fr 27 (ovl σ [(0, (.slice pa0 pn0 pc0)), (1, (.slice pa1 pn1 pc1)), (5, (.int .i64 k20))]) ∧ Chg [] w a0 ∧ Own (Nw w []) M a0 ([]) ∧ (RT.rs (RT.pr (RT.rs (RT.int .i64)) (RT.pr (RT.int .i64) (RT.rs (RT.rs (RT.int .i64)))))).val M a0 (.slice pa0 pn0 pc0) a_ ([]) ∧ (RT.rs (RT.pr (RT.rs (RT.int .i64)) (RT.pr (RT.int .i64) (RT.rs (RT.rs (RT.int .i64)))))).val M a0 (.slice pa1 pn1 pc1) b ([])) (J := fun s18 a a0 => ∃ (σ : Nat → Value), a = fr 27 (ovl σ []) ∧ Chg [] w a0 ∧ Own (Nw w []) M a0 ([]) ∧ (RT.rs (RT.pr (RT.rs (RT.int .i64)) (RT.pr (RT.int .i64) (RT.rs (RT.rs (RT.int .i64)))))).val M a0 (.slice pa0 pn0 pc0) a_ ([]) ∧ (RT.rs (RT.pr (RT.rs (RT.int .i64)) (RT.pr (RT.int .i64) (RT.rs (RT.rs (RT.int .i64)))))).val M a0 (.slice pa1 pn1 pc1) b ([])) (K := (k_laws_eqConstraintS M w)) ?_ ?_ 0 () o22 _ _ ?_ b0 ?_
 ·rintro k20 s18 a a0 ⟨σ, rfl, hC, hO, h0, h1⟩ hlt
  refine c_seq ?_
  refine c_sr ?_
  refine pl_val (.int .i64 k20) (y_move rfl) ?_
  refine pl_val (.slice pa0 pn0 pc0) (y_move rfl) ?_
  refine pl_val (.int .i64 (a_.length : Int)) (y_len' Sl28 (rs_len h0) rfl) ?_
  refine pl_val (.bool (decide (k20 < (a_.length : Int)))) (y_lss rfl rfl) ?_
  refine c_nil ?_
  refine c_condF (congrArg Value.bool (decide_eq_false hlt)) ?_
  refine wp_exit ?_
  exact ⟨rfl, _, fr_ovl 27 trivial, hC, hO, h0, h1⟩
 ·rintro k20 s18 o22 a a0 ⟨σ, rfl, hC, hO, h0, h1⟩ hlt hw hs
  refine c_seq ?_
  refine c_sr ?_
  refine pl_val (.int .i64 k20) (y_move rfl) ?_
  refine pl_val (.slice pa0 pn0 pc0) (y_move rfl) ?_
  refine pl_val (.int .i64 (a_.length : Int)) (y_len' Sl28 (rs_len h0) rfl) ?_
  refine pl_val (.bool (decide (k20 < (a_.length : Int)))) (y_lss rfl rfl) ?_
  refine c_nil ?_
  refine c_condT (congrArg Value.bool (decide_eq_true hlt)) ?_
  refine wp_skip ?_
  refine c_seq ?_
  refine wp_block ?_
  refine c_seq ?_
  refine x_start [] Mx rfl ?_
  have a2 := Chg.drew a0
  generalize World.drew a0 = b1 at a2 ⊢
  have h0 := h0.ext a2
  have h1 := h1.ext a2
  have hC := hC.ext a2
  have hO := hO.ext a2
  have hS := Chg.refl [] b1
  refine x_p 0 (.slice pa0 pn0 pc0) rfl (by kernel_rfl)  (fun _ => y_move rfl) (fun _ => hS) ?_
  refine x_p 1 (.int .i64 k20) rfl (by kernel_rfl)  (fun _ => y_move rfl) (fun _ => hS) ?_
  obtain ⟨x25, b2, hs⟩ := bind_some hs
  obtain ⟨b3, b4, b5, b6⟩ := rs_idx Sl28 Sz56 h0 b2
  refine x_p 2 (.pointer (some ⟨b3, b4, none⟩)) rfl (by kernel_rfl)  (fun _ => b5 _ _ _ _ _ _ _ _ _ rfl rfl) (fun _ => hS) ?_
  obtain ⟨f0, b7, b8⟩ := at_load Ag56 Sz56 (by intro h; cases h) b6
  obtain ⟨f1, rfl, b9⟩ := b8
  obtain ⟨f2, f3, rfl, c0, c1⟩ := pr_open b9
  obtain ⟨c2, c3, c4, rfl, a4⟩ := rs_rel c0
  obtain ⟨f4, f5, rfl, c5, c6⟩ := pr_open c1
  obtain rfl := int_rel c5
  obtain ⟨c7, c8, c9, rfl, a5⟩ := rs_rel c6
  refine x_l 3 (.agg #[(.slice c2 c3 c4), (.int .i64 x25.2.1), (.slice c7 c8 c9)]) rfl (by kernel_rfl)  (fun w' hw' => y_load rfl (b7 w' hw')) hS ?_
  refine x_p 4 (.slice pa1 pn1 pc1) rfl (by kernel_rfl)  (fun _ => y_move rfl) (fun _ => hS) ?_
  refine x_p 5 (.int .i64 k20) rfl (by kernel_rfl)  (fun _ => y_move rfl) (fun _ => hS) ?_
  obtain ⟨x30, d0, hs⟩ := bind_some hs
  obtain ⟨d1, d2, d3, d4⟩ := rs_idx Sl28 Sz56 h1 d0
  refine x_p 6 (.pointer (some ⟨d1, d2, none⟩)) rfl (by kernel_rfl)  (fun _ => d3 _ _ _ _ _ _ _ _ _ rfl rfl) (fun _ => hS) ?_
  obtain ⟨f6, d5, d6⟩ := at_load Ag56 Sz56 (by intro h; cases h) d4
  obtain ⟨f7, rfl, d7⟩ := d6
  obtain ⟨f8, f9, rfl, d8, d9⟩ := pr_open d7
  obtain ⟨e0, e1, e2, rfl, a6⟩ := rs_rel d8
  obtain ⟨g0, g1, rfl, e3, e4⟩ := pr_open d9
  obtain rfl := int_rel e3
  obtain ⟨e5, e6, e7, rfl, a7⟩ := rs_rel e4
  refine x_l 7 (.agg #[(.slice e0 e1 e2), (.int .i64 x30.2.1), (.slice e5 e6 e7)]) rfl (by kernel_rfl)  (fun w' hw' => y_load rfl (d5 w' hw')) hS ?_
  refine x_one (i := 8) (by kernel_rfl) ?_
  obtain ⟨r36, e8, hs⟩ := bind_some hs
  refine xk_call (b := false) rfl  Bd29 rfl (c_laws_eqConstraint (M := M) (x25.1, (x25.2.1, x25.2.2)) (x30.1, (x30.2.1, x30.2.2)) a4 a5 a6 a7 hO.fut e8) rfl (by rintro _ _ _ ⟨rfl, a1⟩; exact hS.ext a1) ?_
  rintro _ g2 ⟨rfl, a1⟩
  have h0 := h0.ext a1
  have h1 := h1.ext a1
  have a4 := a4.ext a1
  have a5 := a5.ext a1
  have a6 := a6.ext a1
  have a7 := a7.ext a1
  have hC := hC.ext a1
  have hO := hO.ext a1
  have hS := hS.ext a1
  refine x_p 9 (.bool (!r36)) rfl (by kernel_rfl)  (fun _ => y_not rfl) (fun _ => hS) ?_
  refine x_end (by kernel_rfl) ?_
  clear hS
  rcases bif_some hs with ⟨a8, hs⟩ | ⟨a8, hs⟩
  ·refine c_condT (congrArg Value.bool a8) ?_
   refine c_sr ?_
   refine pl_val (.bool false) (y_assign rfl) ?_
   refine c_nil ?_
   refine wp_ret ?_
   cases hs
   exact ⟨_, fr_ovl 27 ⟨rfl, trivial⟩, hC⟩
  refine c_condF (congrArg Value.bool a8) ?_
  refine wp_skip ?_
  refine c_region ?_
  refine pl_val (.int .i64 k20) (y_move rfl) ?_
  refine pl_val (.int .i64 (w64 (k20 + 1))) (y_add rfl rfl) ?_
  refine pl_val (.int .i64 (w64 (k20 + 1))) (y_assign rfl) ?_
  refine c_nil ?_
  cases hs
  exact ⟨_, fr_ovl 27 ⟨rfl, rfl, congrArg (Value.int .i64) hw, trivial⟩, hC, hO, h0, h1⟩
 ·skip
  exact ⟨_, fr_ovl 27 ⟨rfl, rfl, rfl, trivial⟩, hC, hO, h0, h1⟩
 cases o22 with
 | nx _ => exact True.intro
 | rt r_ =>
  have hs := after_rt hs
  intro e9 a9 hK
  cases hs
  exact hK
 | br s18 =>
  have hs := after_br hs
  rintro e9 a0 ⟨σ, rfl, hC, hO, h0, h1⟩
  refine c_sr ?_
  refine pl_val (.bool true) (y_assign rfl) ?_
  refine c_nil ?_
  refine wp_ret ?_
  cases hs
  exact ⟨_, fr_ovl 27 ⟨rfl, trivial⟩, hC⟩

theorem Bd54 : Bodied Try.prog 54 := bodied Try.func54 (by kernel_rfl) rfl

def k_laws_eqNetwork (M : Nat → Prop) (w0 : World) (r : Bool) (a : Act) (w : World) : Prop :=
  ∃ (σ : Nat → Value) , a = fr 21 (ovl σ [(4, (.bool r))]) ∧ Chg [] w0 w
def s_laws_eqNetwork (a_ : Int × Int × (List ((List Int) × (Int × (List (List Int)))))) (b : Int × Int × (List ((List Int) × (Int × (List (List Int)))))) : Option (Bool) :=
  (bif (a_.1 != b.1) then some false else (bif (a_.2.1 != b.2.1) then some false else (s_laws_eqConstraintS a_.2.2 b.2.2).bind fun r8 =>
  (bif (!r8) then some false else some true)))
set_option maxHeartbeats 4000000 in
theorem c_laws_eqNetwork {M : Nat → Prop} {w : World} {pa0 : Option Addr} {pn0 pc0 : Nat} {pa1 : Option Addr} {pn1 pc1 : Nat} (a_ : Int × Int × (List ((List Int) × (Int × (List (List Int)))))) (b : Int × Int × (List ((List Int) × (Int × (List (List Int)))))) (h0 : (RT.rs (RT.pr (RT.rs (RT.int .i64)) (RT.pr (RT.int .i64) (RT.rs (RT.rs (RT.int .i64)))))).val M w (.slice pa0 pn0 pc0) a_.2.2 ([])) (h1 : (RT.rs (RT.pr (RT.rs (RT.int .i64)) (RT.pr (RT.int .i64) (RT.rs (RT.rs (RT.int .i64)))))).val M w (.slice pa1 pn1 pc1) b.2.2 ([])) (hM : ∀ g, w.heap.size ≤ g → M g) {r : Bool} (hs : s_laws_eqNetwork a_ b = some r) :
    Gives Try.prog 15 [(.agg #[(.int .i64 a_.1), (.int .i64 a_.2.1), (.slice pa0 pn0 pc0)]), (.agg #[(.int .i64 b.1), (.int .i64 b.2.1), (.slice pa1 pn1 pc1)])] w (fun v w' => v = (.bool r) ∧ Chg [] w w') := by
 refine calls_fr Try.func15 rfl Try.ntmps15 (Nat.le_of_ble_eq_true rfl) ?_
 have hO := Own.start (N := Nw w []) hM Nw.fut
 have hC := Chg.refl [] w
 unfold s_laws_eqNetwork at hs
 refine wp_mono (Q := KPost (k_laws_eqNetwork M w r)) ?_ (fun e a b7 h => ?_)
 rotate_left
 ·cases e
  case ret =>
   obtain ⟨σ, rfl, hrest⟩ := h
   exact ret1x Try.results15 (res_tmp rfl) ⟨rfl, hrest⟩
  all_goals exact (h : False).elim
 refine c_sr ?_
 obtain ⟨b0, a4, b3, b1, a5, a0⟩ := new_block w [(.int .i64 a_.1), (.int .i64 a_.2.1), (.slice pa0 pn0 pc0)] 30
 refine pl_val (w' := b0) (.pointer (some ⟨a4, 0, none⟩)) (y_box rfl (by rw [b3, b1]; kernel_rfl)) ?_
 have h0 := h0.ext a5
 have h1 := h1.ext a5
 have hC := hC.ext a5
 have hO := hO.new1 a5 b1 a0.lt
 obtain ⟨b4, a6, b5, b2, a3, a1⟩ := new_block b0 [(.int .i64 b.1), (.int .i64 b.2.1), (.slice pa1 pn1 pc1)] 30
 refine pl_val (w' := b4) (.pointer (some ⟨a6, 0, none⟩)) (y_box rfl (by rw [b5, b2]; kernel_rfl)) ?_
 have h0 := h0.ext a3
 have h1 := h1.ext a3
 have a0 := a0.cn a3
 have hC := hC.ext a3
 have hO := hO.new1 a3 b2 a1.lt
 refine pl_val (.bool false) (y_assign rfl) ?_
 refine c_nil ?_
 refine c_seq ?_
 refine c_sr ?_
 refine pl_val (.pointer (some ⟨a4, 0, none⟩)) (y_faddr rfl Fa30x0) ?_
 refine pl_val (.int .i64 a_.1) (y_load rfl ((box_load Ag3 Sz3 a0 [] [(.int .i64 a_.1)] [(.int .i64 a_.2.1), (.slice pa0 pn0 pc0)] rfl rfl (fun _ => rfl)) _ (Chg.refl _ _))) ?_
 refine pl_val (.pointer (some ⟨a6, 0, none⟩)) (y_faddr rfl Fa30x0) ?_
 refine pl_val (.int .i64 b.1) (y_load rfl ((box_load Ag3 Sz3 a1 [] [(.int .i64 b.1)] [(.int .i64 b.2.1), (.slice pa1 pn1 pc1)] rfl rfl (fun _ => rfl)) _ (Chg.refl _ _))) ?_
 refine pl_val (.bool (a_.1 != b.1)) (y_neq rfl rfl) ?_
 refine c_nil ?_
 rcases bif_some hs with ⟨a7, hs⟩ | ⟨a7, hs⟩
 ·refine c_condT (congrArg Value.bool a7) ?_
  refine c_sr ?_
  refine pl_val (.bool false) (y_assign rfl) ?_
  refine c_nil ?_
  refine wp_ret ?_
  cases hs
  exact ⟨_, fr_ovl 21 ⟨rfl, trivial⟩, hC⟩
 refine c_condF (congrArg Value.bool a7) ?_
 refine wp_skip ?_
 refine c_seq ?_
 refine c_sr ?_
 refine pl_val (.pointer (some ⟨a4, 1, none⟩)) (y_faddr rfl Fa30x1) ?_
 refine pl_val (.int .i64 a_.2.1) (y_load rfl ((box_load Ag3 Sz3 a0 [(.int .i64 a_.1)] [(.int .i64 a_.2.1)] [(.slice pa0 pn0 pc0)] rfl rfl (fun _ => rfl)) _ (Chg.refl _ _))) ?_
 refine pl_val (.pointer (some ⟨a6, 1, none⟩)) (y_faddr rfl Fa30x1) ?_
 refine pl_val (.int .i64 b.2.1) (y_load rfl ((box_load Ag3 Sz3 a1 [(.int .i64 b.1)] [(.int .i64 b.2.1)] [(.slice pa1 pn1 pc1)] rfl rfl (fun _ => rfl)) _ (Chg.refl _ _))) ?_
 refine pl_val (.bool (a_.2.1 != b.2.1)) (y_neq rfl rfl) ?_
 refine c_nil ?_
 rcases bif_some hs with ⟨a8, hs⟩ | ⟨a8, hs⟩
 ·refine c_condT (congrArg Value.bool a8) ?_
  refine c_sr ?_
  refine pl_val (.bool false) (y_assign rfl) ?_
  refine c_nil ?_
  refine wp_ret ?_
  cases hs
  exact ⟨_, fr_ovl 21 ⟨rfl, trivial⟩, hC⟩
 refine c_condF (congrArg Value.bool a8) ?_
 refine wp_skip ?_
 refine c_seq ?_
 refine c_sr ?_
 refine pl_val (.pointer (some ⟨a4, 2, none⟩)) (y_faddr rfl Fa30x2) ?_
 refine pl_val (.slice pa0 pn0 pc0) (y_load rfl ((box_load Ag28 Sz28 a0 [(.int .i64 a_.1), (.int .i64 a_.2.1)] [(.slice pa0 pn0 pc0)] [] rfl rfl (fun _ => rfl)) _ (Chg.refl _ _))) ?_
 refine pl_val (.pointer (some ⟨a6, 2, none⟩)) (y_faddr rfl Fa30x2) ?_
 refine pl_val (.slice pa1 pn1 pc1) (y_load rfl ((box_load Ag28 Sz28 a1 [(.int .i64 b.1), (.int .i64 b.2.1)] [(.slice pa1 pn1 pc1)] [] rfl rfl (fun _ => rfl)) _ (Chg.refl _ _))) ?_
 obtain ⟨r8, b6, hs⟩ := bind_some hs
 refine pl_call Bd54 rfl (c_laws_eqConstraintS (M := M) a_.2.2 b.2.2 h0 h1 hO.fut b6) ?_
 rintro _ b8 ⟨rfl, a2⟩
 have h0 := h0.ext a2
 have h1 := h1.ext a2
 have a0 := a0.cn a2
 have a1 := a1.cn a2
 have hC := hC.ext a2
 have hO := hO.ext a2
 refine pl_val (.bool (!r8)) (y_not rfl) ?_
 refine c_nil ?_
 have hO := hO.drop
 have hO := hO.drop
 rcases bif_some hs with ⟨a9, hs⟩ | ⟨a9, hs⟩
 ·refine c_condT (congrArg Value.bool a9) ?_
  refine c_sr ?_
  refine pl_val (.bool false) (y_assign rfl) ?_
  refine c_nil ?_
  refine wp_ret ?_
  cases hs
  exact ⟨_, fr_ovl 21 ⟨rfl, trivial⟩, hC⟩
 refine c_condF (congrArg Value.bool a9) ?_
 refine wp_skip ?_
 refine c_sr ?_
 refine pl_val (.bool true) (y_assign rfl) ?_
 refine c_nil ?_
 refine wp_ret ?_
 cases hs
 exact ⟨_, fr_ovl 21 ⟨rfl, trivial⟩, hC⟩

theorem Ag24 : AggT Try.prog 24 true := fun _ => by kernel_rfl

theorem Sz24 : SzT Try.prog 24 3 := ⟨_, rfl, rfl⟩

theorem Bd11 : Bodied Try.prog 11 := bodied Try.func11 (by kernel_rfl) rfl

theorem Bd13 : Bodied Try.prog 13 := bodied Try.func13 (by kernel_rfl) rfl

theorem Bd26 : Bodied Try.prog 26 := bodied Try.func26 (by kernel_rfl) rfl

theorem Bd28 : Bodied Try.prog 28 := bodied Try.func28 (by kernel_rfl) rfl

theorem Bd15 : Bodied Try.prog 15 := bodied Try.func15 (by kernel_rfl) rfl

def k_laws_FnExactIsImplied (M : Nat → Prop) (w0 : World) (r : Bool) (a : Act) (w : World) : Prop :=
  ∃ (σ : Nat → Value) , a = fr 58 (ovl σ [(4, (.bool r))]) ∧ Chg [] w0 w
def s_laws_FnExactIsImplied (aNet : Int × Int × (List ((List Int) × (Int × (List (List Int)))))) (aC : (List Int) × (Int × (List (List Int)))) : Option (Bool) :=
  (s_laws_szNetwork (aNet.1, aNet.2.1, aNet.2.2) 1048576).bind fun r7 =>
  (bif (decide (r7 < 0)) then some true else (s_laws_szConstraint (aC.1, (aC.2.1, aC.2.2)) r7).bind fun r10 =>
  (bif (decide (r10 < 0)) then some true else (s_laws_toNetwork (aNet.1, aNet.2.1, aNet.2.2)).bind fun r24 =>
  (s_laws_toConstraint (aC.1, (aC.2.1, aC.2.2))).bind fun r27 =>
  (s_spec_IsImplied (r24.1, r24.2.1, r24.2.2) (r27.1, (r27.2.1, r27.2.2))).bind fun r31 =>
  (s_laws_toNetwork (aNet.1, aNet.2.1, aNet.2.2)).bind fun r33 =>
  (s_laws_toConstraint (aC.1, (aC.2.1, aC.2.2))).bind fun r38 =>
  (s_impl_IsImplied (r33.1, r33.2.1, r33.2.2) (r38.1, (r38.2.1, r38.2.2))).bind fun r44 =>
  (bif ((!(r44.1 == r31.1)) || (!(r44.2 == r31.2))) then some false else (s_laws_toNetwork (aNet.1, aNet.2.1, aNet.2.2)).bind fun r58 =>
  (s_laws_eqNetwork (r33.1, r33.2.1, r33.2.2) (r58.1, r58.2.1, r58.2.2)).bind fun r61 =>
  (bif (!r61) then some false else (s_laws_toConstraint (aC.1, (aC.2.1, aC.2.2))).bind fun r66 =>
  (s_laws_eqConstraint (r38.1, (r38.2.1, r38.2.2)) (r66.1, (r66.2.1, r66.2.2))).bind fun r70 =>
  (bif (!r70) then some false else some true)))))
set_option maxHeartbeats 4000000 in
theorem c_laws_FnExactIsImplied {M : Nat → Prop} {w : World} {pa0 : Option Addr} {pn0 pc0 : Nat} {pa1 : Option Addr} {pn1 pc1 : Nat} {pa2 : Option Addr} {pn2 pc2 : Nat} (aNet : Int × Int × (List ((List Int) × (Int × (List (List Int)))))) (aC : (List Int) × (Int × (List (List Int)))) (h0 : (RT.rs (RT.pr (RT.rs (RT.int .i64)) (RT.pr (RT.int .i64) (RT.rs (RT.rs (RT.int .i64)))))).val M w (.slice pa0 pn0 pc0) aNet.2.2 ([])) (h1 : (RT.rs (RT.int .i64)).val M w (.slice pa1 pn1 pc1) aC.1 ([])) (h2 : (RT.rs (RT.rs (RT.int .i64))).val M w (.slice pa2 pn2 pc2) aC.2.2 ([])) (hM : ∀ g, w.heap.size ≤ g → M g) {r : Bool} (hs : s_laws_FnExactIsImplied aNet aC = some r) :
    Gives Try.prog 6 [(.agg #[(.int .i64 aNet.1), (.int .i64 aNet.2.1), (.slice pa0 pn0 pc0)]), (.agg #[(.slice pa1 pn1 pc1), (.int .i64 aC.2.1), (.slice pa2 pn2 pc2)])] w (fun v w' => v = (.bool r) ∧ Chg [] w w') := by
 refine calls_fr Try.func6 rfl Try.ntmps6 (Nat.le_of_ble_eq_true rfl) ?_
 have hO := Own.start (N := Nw w []) hM Nw.fut
 have hC := Chg.refl [] w
 unfold s_laws_FnExactIsImplied at hs
 refine wp_mono (Q := KPost (k_laws_FnExactIsImplied M w r)) ?_ (fun e a n0 h => ?_)
 rotate_left
 ·cases e
  case ret =>
   obtain ⟨σ, rfl, hrest⟩ := h
   exact ret1x Try.results6 (res_tmp rfl) ⟨rfl, hrest⟩
  all_goals exact (h : False).elim
 refine c_sr ?_
 obtain ⟨g4, c9, i3, g5, e6, a0⟩ := new_block w [(.int .i64 aNet.1), (.int .i64 aNet.2.1), (.slice pa0 pn0 pc0)] 24
 refine pl_val (w' := g4) (.pointer (some ⟨c9, 0, none⟩)) (y_box rfl (by rw [i3, g5]; kernel_rfl)) ?_
 have h0 := h0.ext e6
 have h1 := h1.ext e6
 have h2 := h2.ext e6
 have hC := hC.ext e6
 have hO := hO.new1 e6 g5 a0.lt
 obtain ⟨i4, d0, i5, g6, d4, a1⟩ := new_block g4 [(.slice pa1 pn1 pc1), (.int .i64 aC.2.1), (.slice pa2 pn2 pc2)] 51
 refine pl_val (w' := i4) (.pointer (some ⟨d0, 0, none⟩)) (y_box rfl (by rw [i5, g6]; kernel_rfl)) ?_
 have h0 := h0.ext d4
 have h1 := h1.ext d4
 have h2 := h2.ext d4
 have a0 := a0.cn d4
 have hC := hC.ext d4
 have hO := hO.new1 d4 g6 a1.lt
 refine pl_val (.bool false) (y_assign rfl) ?_
 refine c_nil ?_
 refine c_sr ?_
 refine pl_val (.int .i64 1048576) (y_assign rfl) ?_
 refine c_nil ?_
 refine c_sr ?_
 refine pl_val (.agg #[(.int .i64 aNet.1), (.int .i64 aNet.2.1), (.slice pa0 pn0 pc0)]) (y_load rfl ((box_load Ag24 Sz24 a0 [] [(.int .i64 aNet.1), (.int .i64 aNet.2.1), (.slice pa0 pn0 pc0)] [] rfl rfl (fun h => nomatch h)) _ (Chg.refl _ _))) ?_
 refine pl_val (.int .i64 1048576) (y_move rfl) ?_
 obtain ⟨r7, i6, hs⟩ := bind_some hs
 refine pl_call Bd11 rfl (c_laws_szNetwork (M := M) (aNet.1, aNet.2.1, aNet.2.2) 1048576 h0 hO.fut i6) ?_
 rintro _ n1 ⟨rfl, d2⟩
 have h0 := h0.ext d2
 have h1 := h1.ext d2
 have h2 := h2.ext d2
 have a0 := a0.cn d2
 have a1 := a1.cn d2
 have hC := hC.ext d2
 have hO := hO.ext d2
 refine pl_val (.int .i64 r7) (y_assign rfl) ?_
 refine c_nil ?_
 refine c_seq ?_
 refine c_sr ?_
 refine pl_val (.int .i64 r7) (y_move rfl) ?_
 refine pl_val (.bool (decide (r7 < 0))) (y_lss rfl rfl) ?_
 refine c_nil ?_
 rcases bif_some hs with ⟨f7, hs⟩ | ⟨f7, hs⟩
 ·refine c_condT (congrArg Value.bool f7) ?_
  refine c_sr ?_
  refine pl_val (.bool true) (y_assign rfl) ?_
  refine c_nil ?_
  refine wp_ret ?_
  cases hs
  exact ⟨_, fr_ovl 58 ⟨rfl, trivial⟩, hC⟩
 refine c_condF (congrArg Value.bool f7) ?_
 refine wp_skip ?_
 refine c_sr ?_
 refine pl_val (.agg #[(.slice pa1 pn1 pc1), (.int .i64 aC.2.1), (.slice pa2 pn2 pc2)]) (y_load rfl ((box_load Ag51 Sz51 a1 [] [(.slice pa1 pn1 pc1), (.int .i64 aC.2.1), (.slice pa2 pn2 pc2)] [] rfl rfl (fun h => nomatch h)) _ (Chg.refl _ _))) ?_
 refine pl_val (.int .i64 r7) (y_move rfl) ?_
 obtain ⟨r10, i7, hs⟩ := bind_some hs
 refine pl_call Bd25 rfl (c_laws_szConstraint (M := M) (aC.1, (aC.2.1, aC.2.2)) r7 h1 h2 hO.fut i7) ?_
 rintro _ g7 ⟨rfl, d3⟩
 have h0 := h0.ext d3
 have h1 := h1.ext d3
 have h2 := h2.ext d3
 have a0 := a0.cn d3
 have a1 := a1.cn d3
 have hC := hC.ext d3
 have hO := hO.ext d3
 refine pl_val (.int .i64 r10) (y_assign rfl) ?_
 refine c_nil ?_
 refine c_seq ?_
 refine c_sr ?_
 refine pl_val (.int .i64 r10) (y_move rfl) ?_
 refine pl_val (.bool (decide (r10 < 0))) (y_lss rfl rfl) ?_
 refine c_nil ?_
 rcases bif_some hs with ⟨f8, hs⟩ | ⟨f8, hs⟩
 ·refine c_condT (congrArg Value.bool f8) ?_
  refine c_sr ?_
  refine pl_val (.bool true) (y_assign rfl) ?_
  refine c_nil ?_
  refine wp_ret ?_
  cases hs
  exact ⟨_, fr_ovl 58 ⟨rfl, trivial⟩, hC⟩
 refine c_condF (congrArg Value.bool f8) ?_
 refine wp_skip ?_
 refine c_seq ?_
 refine x_start [] Mx rfl ?_
 have d1 := Chg.drew g7
 generalize World.drew g7 = i9 at d1 ⊢
 have h0 := h0.ext d1
 have h1 := h1.ext d1
 have h2 := h2.ext d1
 have a0 := a0.cn d1
 have a1 := a1.cn d1
 have hC := hC.ext d1
 have hO := hO.ext d1
 have hS := Chg.refl [] i9
 refine x_l 0 (.agg #[(.int .i64 aNet.1), (.int .i64 aNet.2.1), (.slice pa0 pn0 pc0)]) rfl (by kernel_rfl)  (fun w' hw' => y_load rfl ((box_load Ag24 Sz24 a0 [] [(.int .i64 aNet.1), (.int .i64 aNet.2.1), (.slice pa0 pn0 pc0)] [] rfl rfl (fun h => nomatch h)) w' hw')) hS ?_
 refine x_l 2 (.agg #[(.slice pa1 pn1 pc1), (.int .i64 aC.2.1), (.slice pa2 pn2 pc2)]) rfl (by kernel_rfl)  (fun w' hw' => y_load rfl ((box_load Ag51 Sz51 a1 [] [(.slice pa1 pn1 pc1), (.int .i64 aC.2.1), (.slice pa2 pn2 pc2)] [] rfl rfl (fun h => nomatch h)) w' hw')) hS ?_
 refine x_one (i := 1) (by kernel_rfl) ?_
 obtain ⟨r24, j0, hs⟩ := bind_some hs
 refine xk_call (b := false) rfl  Bd13 rfl (c_laws_toNetwork (M := M) (aNet.1, aNet.2.1, aNet.2.2) h0 hO.fut j0) rfl (by rintro _ _ _ ⟨j1, j2, j3, e7, rfl, c3, b4, g8⟩; exact hS.ext c3) ?_
 rintro _ n2 ⟨j1, j2, j3, e7, rfl, c3, b4, g8⟩
 have h0 := h0.ext c3
 have h1 := h1.ext c3
 have h2 := h2.ext c3
 have a0 := a0.cn c3
 have a1 := a1.cn c3
 have hC := hC.ext c3
 have hO := Own.join0 hO c3 g8
 have hO := hO.perm (R := e7 ++ (([d0]) ++ (([c9]) ++ ([])))) (by simp)
 have hS := hS.ext c3
 refine x_one (i := 3) (by kernel_rfl) ?_
 obtain ⟨r27, j4, hs⟩ := bind_some hs
 refine xk_call (b := false) rfl  Bd27 rfl (c_laws_toConstraint (M := M) (aC.1, (aC.2.1, aC.2.2)) h1 h2 hO.fut j4) rfl (by rintro _ _ _ ⟨j5, j6, j7, f1, j8, j9, k0, f2, rfl, b7, c4, c5, g9⟩; exact hS.ext b7) ?_
 rintro _ n3 ⟨j5, j6, j7, f1, j8, j9, k0, f2, rfl, b7, c4, c5, g9⟩
 have h0 := h0.ext b7
 have h1 := h1.ext b7
 have h2 := h2.ext b7
 have a0 := a0.cn b7
 have a1 := a1.cn b7
 have b4 := b4.ext b7
 have hC := hC.ext b7
 have hO := Own.join0 hO b7 g9
 have hO := hO.perm (R := f1 ++ (f2 ++ (e7 ++ (([d0]) ++ (([c9]) ++ ([])))))) (by simp)
 have hS := hS.ext b7
 refine x_one (i := 4) (by kernel_rfl) ?_
 have hO := hO.fr1
 have hO := hO.fr1
 have hO := hO.fr2
 obtain ⟨r31, k1, hs⟩ := bind_some hs
 refine xk_call (b := false) rfl  Bd26 rfl (c_spec_IsImplied (M := (Less (Less (Less M e7) f1) f2)) (r24.1, r24.2.1, r24.2.2) (r27.1, (r27.2.1, r27.2.2)) (((((Frz.os (Frz.pr (Frz.os Frz.int) (Frz.pr Frz.int (Frz.os (Frz.os Frz.int)))))).val b4 Less.sub Less.not).sub Less.sub).sub Less.sub) ((((Frz.os Frz.int)).val (c4.sub Less.sub) Less.sub Less.not).sub Less.sub) (((Frz.os (Frz.os Frz.int))).val ((c5.sub Less.sub).sub Less.sub) Less.sub Less.not) ((hO.less).less).less.fut k1) rfl (by rintro _ _ _ ⟨rfl, b2⟩; exact hS.ext b2) ?_
 rintro _ n4 ⟨rfl, b2⟩
 have h0 := h0.ext b2
 have h1 := h1.ext b2
 have h2 := h2.ext b2
 have a0 := a0.cn b2
 have a1 := a1.cn b2
 have b4 := b4.ext b2
 have c4 := c4.ext b2
 have c5 := c5.ext b2
 have hC := hC.ext b2
 have hO := hO.ext b2
 have hS := hS.ext b2
 refine x_p 5 (.tuple #[(.bool r31.1), (.bool r31.2)]) rfl (by kernel_rfl)  (fun _ => y_move rfl) (fun _ => hS) ?_
 refine x_p 6 (.bool r31.1) rfl (by kernel_rfl)  (fun _ => y_extract rfl (by kernel_rfl)) (fun _ => hS) ?_
 refine x_p 7 (.bool r31.2) rfl (by kernel_rfl)  (fun _ => y_extract rfl (by kernel_rfl)) (fun _ => hS) ?_
 refine x_p 8 (.bool r31.1) rfl (by kernel_rfl)  (fun _ => y_assign rfl) (fun _ => hS) ?_
 refine x_p 9 (.bool r31.2) rfl (by kernel_rfl)  (fun _ => y_assign rfl) (fun _ => hS) ?_
 refine x_end (by kernel_rfl) ?_
 clear hS
 refine c_sr ?_
 refine pl_val (.agg #[(.int .i64 aNet.1), (.int .i64 aNet.2.1), (.slice pa0 pn0 pc0)]) (y_load rfl ((box_load Ag24 Sz24 a0 [] [(.int .i64 aNet.1), (.int .i64 aNet.2.1), (.slice pa0 pn0 pc0)] [] rfl rfl (fun h => nomatch h)) _ (Chg.refl _ _))) ?_
 obtain ⟨r33, k2, hs⟩ := bind_some hs
 refine pl_call Bd13 rfl (c_laws_toNetwork (M := M) (aNet.1, aNet.2.1, aNet.2.2) h0 hO.fut k2) ?_
 rintro _ k3 ⟨d5, d6, d7, d8, rfl, c6, a2, k4⟩
 have h0 := h0.ext c6
 have h1 := h1.ext c6
 have h2 := h2.ext c6
 have a0 := a0.cn c6
 have a1 := a1.cn c6
 have b4 := b4.ext c6
 have c4 := c4.ext c6
 have c5 := c5.ext c6
 have hC := hC.ext c6
 have hO := Own.join0 hO c6 k4
 have hO := hO.perm (R := d8 ++ (e7 ++ (f1 ++ (f2 ++ (([d0]) ++ (([c9]) ++ ([]))))))) (by simp)
 obtain ⟨k5, d9, k6, h3, b8, h4⟩ := new_block k3 [(.int .i64 0), (.int .i64 0), (.slice none 0 0)] 30
 refine pl_val (w' := k5) (.pointer (some ⟨d9, 0, none⟩)) (y_alloc (by rw [k6, h3]; kernel_rfl)) ?_
 have h0 := h0.ext b8
 have h1 := h1.ext b8
 have h2 := h2.ext b8
 have a0 := a0.cn b8
 have a1 := a1.cn b8
 have b4 := b4.ext b8
 have c4 := c4.ext b8
 have c5 := c5.ext b8
 have a2 := a2.ext b8
 have hC := hC.ext b8
 have hO := hO.new1 b8 h3 h4.lt
 obtain ⟨h5, k7, b9, a3⟩ := box_store (P := Try.prog) h4 [] [(.int .i64 0), (.int .i64 0), (.slice none 0 0)] [] [(.int .i64 r33.1), (.int .i64 r33.2.1), (.slice d5 d6 d7)] rfl rfl (by intro u hu; simp only [List.mem_cons, List.not_mem_nil, or_false] at hu; rcases hu with rfl | rfl | rfl <;> rfl)
 refine pl_skip (w' := h5) (ys_store rfl rfl (k7 _ _ rfl Sz30)) ?_
 have h0 := h0.mt b9 hO same_
 have h1 := h1.mt b9 hO same_
 have h2 := h2.mt b9 hO same_
 have a0 := a0.ap b9 hO same_ (mem_r (mem_r (mem_r (mem_r (mem_r (mem_l (List.mem_singleton.2 rfl)))))))
 have a1 := a1.ap b9 hO same_ (mem_r (mem_r (mem_r (mem_r (mem_l (List.mem_singleton.2 rfl))))))
 have b4 := b4.ma b9 hO same_ (fun _ e => (mem_r (mem_l (e))))
 have c4 := c4.ma b9 hO same_ (fun _ e => (mem_r (mem_r (mem_l (e)))))
 have c5 := c5.ma b9 hO same_ (fun _ e => (mem_r (mem_r (mem_r (mem_l (e))))))
 have a2 := a2.ma b9 hO same_ (fun _ e => (mem_l (e)))
 have hC := hC.st b9 hO same_
 have hO := hO.ext b9
 have a3 : BoxV h5 d9 30 [(.int .i64 r33.1), (.int .i64 r33.2.1), (.slice d5 d6 d7)] := a3
 refine c_nil ?_
 have hO := hO.fr2
 have hO := hO.drop
 have hO := hO.fr2
 have hO := hO.drop
 have hO := hO.fr2
 have hO := hO.drop
 refine c_sr ?_
 refine pl_val (.agg #[(.slice pa1 pn1 pc1), (.int .i64 aC.2.1), (.slice pa2 pn2 pc2)]) (y_load rfl ((box_load Ag51 Sz51 a1 [] [(.slice pa1 pn1 pc1), (.int .i64 aC.2.1), (.slice pa2 pn2 pc2)] [] rfl rfl (fun h => nomatch h)) _ (Chg.refl _ _))) ?_
 obtain ⟨r38, k8, hs⟩ := bind_some hs
 refine pl_call Bd27 rfl (c_laws_toConstraint (M := M) (aC.1, (aC.2.1, aC.2.2)) h1 h2 hO.fut k8) ?_
 rintro _ k9 ⟨e0, e1, e2, e8, e3, e4, e5, e9, rfl, c8, a4, a5, l0⟩
 have h0 := h0.ext c8
 have h1 := h1.ext c8
 have h2 := h2.ext c8
 have a0 := a0.cn c8
 have a1 := a1.cn c8
 have a2 := a2.ext c8
 have a3 := a3.cn c8
 have hC := hC.ext c8
 have hO := Own.join0 hO c8 l0
 have hO := hO.perm (R := e8 ++ (e9 ++ (([d9]) ++ (d8 ++ (([d0]) ++ (([c9]) ++ ([]))))))) (by simp)
 obtain ⟨l1, f0, l2, h6, c0, h7⟩ := new_block k9 [(.slice none 0 0), (.int .i64 0), (.slice none 0 0)] 56
 refine pl_val (w' := l1) (.pointer (some ⟨f0, 0, none⟩)) (y_alloc (by rw [l2, h6]; kernel_rfl)) ?_
 have h0 := h0.ext c0
 have h1 := h1.ext c0
 have h2 := h2.ext c0
 have a0 := a0.cn c0
 have a1 := a1.cn c0
 have a2 := a2.ext c0
 have a3 := a3.cn c0
 have a4 := a4.ext c0
 have a5 := a5.ext c0
 have hC := hC.ext c0
 have hO := hO.new1 c0 h6 h7.lt
 obtain ⟨h8, l3, c1, a6⟩ := box_store (P := Try.prog) h7 [] [(.slice none 0 0), (.int .i64 0), (.slice none 0 0)] [] [(.slice e0 e1 e2), (.int .i64 r38.2.1), (.slice e3 e4 e5)] rfl rfl (by intro u hu; simp only [List.mem_cons, List.not_mem_nil, or_false] at hu; rcases hu with rfl | rfl | rfl <;> rfl)
 refine pl_skip (w' := h8) (ys_store rfl rfl (l3 _ _ rfl Sz56)) ?_
 have h0 := h0.mt c1 hO same_
 have h1 := h1.mt c1 hO same_
 have h2 := h2.mt c1 hO same_
 have a0 := a0.ap c1 hO same_ (mem_r (mem_r (mem_r (mem_r (mem_r (mem_l (List.mem_singleton.2 rfl)))))))
 have a1 := a1.ap c1 hO same_ (mem_r (mem_r (mem_r (mem_r (mem_l (List.mem_singleton.2 rfl))))))
 have a2 := a2.ma c1 hO same_ (fun _ e => (mem_r (mem_r (mem_r (mem_l (e))))))
 have a3 := a3.ap c1 hO same_ (mem_r (mem_r (mem_l (List.mem_singleton.2 rfl))))
 have a4 := a4.ma c1 hO same_ (fun _ e => (mem_l (e)))
 have a5 := a5.ma c1 hO same_ (fun _ e => (mem_r (mem_l (e))))
 have hC := hC.st c1 hO same_
 have hO := hO.ext c1
 have a6 : BoxV h8 f0 56 [(.slice e0 e1 e2), (.int .i64 r38.2.1), (.slice e3 e4 e5)] := a6
 refine c_nil ?_
 refine c_sr ?_
 refine pl_val (.agg #[(.int .i64 r33.1), (.int .i64 r33.2.1), (.slice d5 d6 d7)]) (y_load rfl ((box_load Ag30 Sz30 a3 [] [(.int .i64 r33.1), (.int .i64 r33.2.1), (.slice d5 d6 d7)] [] rfl rfl (fun h => nomatch h)) _ (Chg.refl _ _))) ?_
 refine pl_val (.agg #[(.slice e0 e1 e2), (.int .i64 r38.2.1), (.slice e3 e4 e5)]) (y_load rfl ((box_load Ag56 Sz56 a6 [] [(.slice e0 e1 e2), (.int .i64 r38.2.1), (.slice e3 e4 e5)] [] rfl rfl (fun h => nomatch h)) _ (Chg.refl _ _))) ?_
 have hO := hO.fr2
 have hO := hO.fr2
 have hO := hO.fr4
 obtain ⟨r44, l4, hs⟩ := bind_some hs
 refine pl_call Bd28 rfl (c_impl_IsImplied (M := (Less (Less (Less M d8) e8) e9)) (r33.1, r33.2.1, r33.2.2) (r38.1, (r38.2.1, r38.2.2)) (((((Frz.os (Frz.pr (Frz.os Frz.int) (Frz.pr Frz.int (Frz.os (Frz.os Frz.int)))))).val a2 Less.sub Less.not).sub Less.sub).sub Less.sub) ((((Frz.os Frz.int)).val (a4.sub Less.sub) Less.sub Less.not).sub Less.sub) (((Frz.os (Frz.os Frz.int))).val ((a5.sub Less.sub).sub Less.sub) Less.sub Less.not) ((hO.less).less).less.fut l4) ?_
 rintro _ h9 ⟨rfl, b5⟩
 have h0 := h0.ext b5
 have h1 := h1.ext b5
 have h2 := h2.ext b5
 have a0 := a0.cn b5
 have a1 := a1.cn b5
 have a2 := a2.ext b5
 have a3 := a3.cn b5
 have a4 := a4.ext b5
 have a5 := a5.ext b5
 have a6 := a6.cn b5
 have hC := hC.ext b5
 have hO := hO.ext b5
 refine pl_val (.tuple #[(.bool r44.1), (.bool r44.2)]) (y_move rfl) ?_
 refine pl_val (.bool r44.1) (y_extract rfl (by kernel_rfl)) ?_
 refine pl_val (.bool r44.2) (y_extract rfl (by kernel_rfl)) ?_
 refine pl_val (.bool r44.1) (y_assign rfl) ?_
 refine pl_val (.bool r44.2) (y_assign rfl) ?_
 refine c_nil ?_
 refine c_seq ?_
 refine c_seq ?_
 refine c_mid (I := fun a f3 => ∃ (σ : Nat → Value), a = fr 58 (ovl σ [(2, (.pointer (some ⟨c9, 0, none⟩))), (3, (.pointer (some ⟨d0, 0, none⟩))), (4, (.bool false)), (8, (.pointer (some ⟨d9, 0, none⟩))), (9, (.pointer (some ⟨f0, 0, none⟩))), (47, (.bool ((!(r44.1 == r31.1)) || (!(r44.2 == r31.2)))))]) ∧ Chg [] h9 f3) ?_ ?_
 ·have hMid := Chg.refl [] h9
  refine c_region ?_
  refine pl_val (.bool r44.1) (y_move rfl) ?_
  refine pl_val (.bool r31.1) (y_move rfl) ?_
  refine pl_val (.bool (!(r44.1 == r31.1))) (y_bneq Try.underlying4 rfl rfl) ?_
  refine pl_val (.bool (!(r44.1 == r31.1))) (y_move rfl) ?_
  rcases Bool.eq_false_or_eq_true ((!(r44.1 == r31.1))) with c2 | c2
  ·skip
   refine pl_not (tg := 43) (by kernel_rfl) (congrArg Value.bool c2) ?_
   refine pl_not (tg := 43) (by kernel_rfl) (congrArg Value.bool c2) ?_
   refine pl_not (tg := 43) (by kernel_rfl) (congrArg Value.bool c2) ?_
   refine pl_val (.bool ((!(r44.1 == r31.1)) || (!(r44.2 == r31.2)))) (y_pick_t (congrArg Value.bool c2) (congrArg Value.bool (by rw [c2]; rfl))) ?_
   refine c_nil ?_
   exact ⟨_, fr_ovl 58 ⟨rfl, rfl, rfl, rfl, rfl, rfl, trivial⟩, hMid⟩
  refine pl_yes (.bool r44.2) (tg := 43) (by kernel_rfl) (congrArg Value.bool c2) (y_move rfl) ?_
  refine pl_yes (.bool r31.2) (tg := 43) (by kernel_rfl) (congrArg Value.bool c2) (y_move rfl) ?_
  refine pl_yes (.bool (!(r44.2 == r31.2))) (tg := 43) (by kernel_rfl) (congrArg Value.bool c2) (y_bneq Try.underlying4 rfl rfl) ?_
  refine pl_val (.bool ((!(r44.1 == r31.1)) || (!(r44.2 == r31.2)))) (y_pick_f (congrArg Value.bool c2) (congrArg Value.bool (by rw [c2]; rfl))) ?_
  refine c_nil ?_
  exact ⟨_, fr_ovl 58 ⟨rfl, rfl, rfl, rfl, rfl, rfl, trivial⟩, hMid⟩
 rintro n5 f3 ⟨σ, rfl, b6⟩
 have h0 := h0.ext b6
 have h1 := h1.ext b6
 have h2 := h2.ext b6
 have a0 := a0.cn b6
 have a1 := a1.cn b6
 have a2 := a2.ext b6
 have a3 := a3.cn b6
 have a4 := a4.ext b6
 have a5 := a5.ext b6
 have a6 := a6.cn b6
 have hC := hC.ext b6
 have hO := hO.ext b6
 rcases bif_some hs with ⟨f9, hs⟩ | ⟨f9, hs⟩
 ·refine c_condT (congrArg Value.bool f9) ?_
  refine c_sr ?_
  refine pl_val (.bool false) (y_assign rfl) ?_
  refine c_nil ?_
  refine wp_ret ?_
  cases hs
  exact ⟨_, fr_ovl 58 ⟨rfl, trivial⟩, hC⟩
 refine c_condF (congrArg Value.bool f9) ?_
 refine wp_skip ?_
 refine c_seq ?_
 refine c_seq ?_
 refine x_start [] Mx rfl ?_
 have b3 := Chg.drew f3
 generalize World.drew f3 = l5 at b3 ⊢
 have h0 := h0.ext b3
 have h1 := h1.ext b3
 have h2 := h2.ext b3
 have a0 := a0.cn b3
 have a1 := a1.cn b3
 have a2 := a2.ext b3
 have a3 := a3.cn b3
 have a4 := a4.ext b3
 have a5 := a5.ext b3
 have a6 := a6.cn b3
 have hC := hC.ext b3
 have hO := hO.ext b3
 have hS := Chg.refl [] l5
 refine x_l 0 (.agg #[(.int .i64 r33.1), (.int .i64 r33.2.1), (.slice d5 d6 d7)]) rfl (by kernel_rfl)  (fun w' hw' => y_load rfl ((box_load Ag30 Sz30 a3 [] [(.int .i64 r33.1), (.int .i64 r33.2.1), (.slice d5 d6 d7)] [] rfl rfl (fun h => nomatch h)) w' hw')) hS ?_
 refine x_l 1 (.agg #[(.int .i64 aNet.1), (.int .i64 aNet.2.1), (.slice pa0 pn0 pc0)]) rfl (by kernel_rfl)  (fun w' hw' => y_load rfl ((box_load Ag24 Sz24 a0 [] [(.int .i64 aNet.1), (.int .i64 aNet.2.1), (.slice pa0 pn0 pc0)] [] rfl rfl (fun h => nomatch h)) w' hw')) hS ?_
 refine x_one (i := 2) (by kernel_rfl) ?_
 obtain ⟨r58, l6, hs⟩ := bind_some hs
 refine xk_call (b := false) rfl  Bd13 rfl (c_laws_toNetwork (M := M) (aNet.1, aNet.2.1, aNet.2.2) h0 hO.fut l6) rfl (by rintro _ _ _ ⟨l7, l8, l9, f4, rfl, b0, c7, i0⟩; exact hS.ext b0) ?_
 rintro _ n6 ⟨l7, l8, l9, f4, rfl, b0, c7, i0⟩
 have h0 := h0.ext b0
 have h1 := h1.ext b0
 have h2 := h2.ext b0
 have a0 := a0.cn b0
 have a1 := a1.cn b0
 have a2 := a2.ext b0
 have a3 := a3.cn b0
 have a4 := a4.ext b0
 have a5 := a5.ext b0
 have a6 := a6.cn b0
 have hC := hC.ext b0
 have hO := Own.join0 hO b0 i0
 have hO := hO.perm (R := f4 ++ (d8 ++ (e8 ++ (e9 ++ (([f0]) ++ (([d9]) ++ (([d0]) ++ (([c9]) ++ ([]))))))))) (by simp)
 have hS := hS.ext b0
 refine x_one (i := 3) (by kernel_rfl) ?_
 have hO := hO.fr1
 obtain ⟨r61, m0, hs⟩ := bind_some hs
 refine xk_call (b := false) rfl  Bd15 rfl (c_laws_eqNetwork (M := (Less (Less M d8) f4)) (r33.1, r33.2.1, r33.2.2) (r58.1, r58.2.1, r58.2.2) ((((Frz.os (Frz.pr (Frz.os Frz.int) (Frz.pr Frz.int (Frz.os (Frz.os Frz.int)))))).val a2 Less.sub Less.not).sub Less.sub) (((Frz.os (Frz.pr (Frz.os Frz.int) (Frz.pr Frz.int (Frz.os (Frz.os Frz.int)))))).val (c7.sub Less.sub) Less.sub Less.not) (hO.less).less.fut m0) rfl (by rintro _ _ _ ⟨rfl, a8⟩; exact hS.ext a8) ?_
 rintro _ i1 ⟨rfl, a8⟩
 have h0 := h0.ext a8
 have h1 := h1.ext a8
 have h2 := h2.ext a8
 have a0 := a0.cn a8
 have a1 := a1.cn a8
 have a2 := a2.ext a8
 have a3 := a3.cn a8
 have a4 := a4.ext a8
 have a5 := a5.ext a8
 have a6 := a6.cn a8
 have c7 := c7.ext a8
 have hC := hC.ext a8
 have hO := hO.ext a8
 have hS := hS.ext a8
 refine x_p 4 (.bool (!r61)) rfl (by kernel_rfl)  (fun _ => y_not rfl) (fun _ => hS) ?_
 refine x_end (by kernel_rfl) ?_
 clear hS
 rcases bif_some hs with ⟨g0, hs⟩ | ⟨g0, hs⟩
 ·refine c_condT (congrArg Value.bool g0) ?_
  refine c_sr ?_
  refine pl_val (.bool false) (y_assign rfl) ?_
  refine c_nil ?_
  have hO := hO.drop
  have hO := hO.drop
  have hO := hO.fr3
  have hO := hO.drop
  have hO := hO.fr4
  have hO := hO.drop
  refine wp_ret ?_
  cases hs
  exact ⟨_, fr_ovl 58 ⟨rfl, trivial⟩, hC⟩
 refine c_condF (congrArg Value.bool g0) ?_
 refine wp_skip ?_
 refine c_seq ?_
 refine c_seq ?_
 refine x_start [] Mx rfl ?_
 have b1 := Chg.drew i1
 generalize World.drew i1 = m1 at b1 ⊢
 have h0 := h0.ext b1
 have h1 := h1.ext b1
 have h2 := h2.ext b1
 have a0 := a0.cn b1
 have a1 := a1.cn b1
 have a2 := a2.ext b1
 have a3 := a3.cn b1
 have a4 := a4.ext b1
 have a5 := a5.ext b1
 have a6 := a6.cn b1
 have c7 := c7.ext b1
 have hC := hC.ext b1
 have hO := hO.ext b1
 have hS := Chg.refl [] m1
 refine x_l 0 (.agg #[(.slice e0 e1 e2), (.int .i64 r38.2.1), (.slice e3 e4 e5)]) rfl (by kernel_rfl)  (fun w' hw' => y_load rfl ((box_load Ag56 Sz56 a6 [] [(.slice e0 e1 e2), (.int .i64 r38.2.1), (.slice e3 e4 e5)] [] rfl rfl (fun h => nomatch h)) w' hw')) hS ?_
 refine x_l 1 (.agg #[(.slice pa1 pn1 pc1), (.int .i64 aC.2.1), (.slice pa2 pn2 pc2)]) rfl (by kernel_rfl)  (fun w' hw' => y_load rfl ((box_load Ag51 Sz51 a1 [] [(.slice pa1 pn1 pc1), (.int .i64 aC.2.1), (.slice pa2 pn2 pc2)] [] rfl rfl (fun h => nomatch h)) w' hw')) hS ?_
 refine x_one (i := 2) (by kernel_rfl) ?_
 obtain ⟨r66, m2, hs⟩ := bind_some hs
 refine xk_call (b := false) rfl  Bd27 rfl (c_laws_toConstraint (M := M) (aC.1, (aC.2.1, aC.2.2)) h1 h2 hO.fut m2) rfl (by rintro _ _ _ ⟨m3, m4, m5, g1, m6, m7, m8, g2, rfl, a9, f5, f6, i2⟩; exact hS.ext a9) ?_
 rintro _ n7 ⟨m3, m4, m5, g1, m6, m7, m8, g2, rfl, a9, f5, f6, i2⟩
 have h0 := h0.ext a9
 have h1 := h1.ext a9
 have h2 := h2.ext a9
 have a0 := a0.cn a9
 have a1 := a1.cn a9
 have a2 := a2.ext a9
 have a3 := a3.cn a9
 have a4 := a4.ext a9
 have a5 := a5.ext a9
 have a6 := a6.cn a9
 have c7 := c7.ext a9
 have hC := hC.ext a9
 have hO := Own.join0 hO a9 i2
 have hO := hO.perm (R := g1 ++ (g2 ++ (d8 ++ (f4 ++ (e8 ++ (e9 ++ (([f0]) ++ (([d9]) ++ (([d0]) ++ (([c9]) ++ ([]))))))))))) (by simp)
 have hS := hS.ext a9
 refine x_one (i := 3) (by kernel_rfl) ?_
 have hO := hO.fr1
 have hO := hO.fr1
 have hO := hO.fr5
 have hO := hO.fr5
 obtain ⟨r70, m9, hs⟩ := bind_some hs
 refine xk_call (b := false) rfl  Bd29 rfl (c_laws_eqConstraint (M := (Less (Less (Less (Less M e8) e9) g1) g2)) (r38.1, (r38.2.1, r38.2.2)) (r66.1, (r66.2.1, r66.2.2)) ((((((Frz.os Frz.int)).val a4 Less.sub Less.not).sub Less.sub).sub Less.sub).sub Less.sub) (((((Frz.os (Frz.os Frz.int))).val (a5.sub Less.sub) Less.sub Less.not).sub Less.sub).sub Less.sub) ((((Frz.os Frz.int)).val ((f5.sub Less.sub).sub Less.sub) Less.sub Less.not).sub Less.sub) (((Frz.os (Frz.os Frz.int))).val (((f6.sub Less.sub).sub Less.sub).sub Less.sub) Less.sub Less.not) (((hO.less).less).less).less.fut m9) rfl (by rintro _ _ _ ⟨rfl, a7⟩; exact hS.ext a7) ?_
 rintro _ n8 ⟨rfl, a7⟩
 have h0 := h0.ext a7
 have h1 := h1.ext a7
 have h2 := h2.ext a7
 have a0 := a0.cn a7
 have a1 := a1.cn a7
 have a2 := a2.ext a7
 have a3 := a3.cn a7
 have a4 := a4.ext a7
 have a5 := a5.ext a7
 have a6 := a6.cn a7
 have c7 := c7.ext a7
 have f5 := f5.ext a7
 have f6 := f6.ext a7
 have hC := hC.ext a7
 have hO := hO.ext a7
 have hS := hS.ext a7
 refine x_p 4 (.bool (!r70)) rfl (by kernel_rfl)  (fun _ => y_not rfl) (fun _ => hS) ?_
 refine x_end (by kernel_rfl) ?_
 clear hS
 rcases bif_some hs with ⟨g3, hs⟩ | ⟨g3, hs⟩
 ·refine c_condT (congrArg Value.bool g3) ?_
  refine c_sr ?_
  refine pl_val (.bool false) (y_assign rfl) ?_
  refine c_nil ?_
  have hO := hO.drop
  have hO := hO.drop
  have hO := hO.drop
  have hO := hO.drop
  have hO := hO.drop
  have hO := hO.drop
  have hO := hO.drop
  have hO := hO.drop
  have hO := hO.drop
  have hO := hO.drop
  refine wp_ret ?_
  cases hs
  exact ⟨_, fr_ovl 58 ⟨rfl, trivial⟩, hC⟩
 refine c_condF (congrArg Value.bool g3) ?_
 refine wp_skip ?_
 refine c_sr ?_
 refine pl_val (.bool true) (y_assign rfl) ?_
 refine c_nil ?_
 have hO := hO.drop
 have hO := hO.drop
 have hO := hO.drop
 have hO := hO.drop
 have hO := hO.drop
 have hO := hO.drop
 have hO := hO.drop
 have hO := hO.drop
 have hO := hO.drop
 have hO := hO.drop
 refine wp_ret ?_
 cases hs
 exact ⟨_, fr_ovl 58 ⟨rfl, trivial⟩, hC⟩

end Go.Proofs
