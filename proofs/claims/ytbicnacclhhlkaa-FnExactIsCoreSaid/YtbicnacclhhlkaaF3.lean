/- What functions of the program compute, as plain functions, and that a call gives just that. Conditions: those named in each theorem. -/
import Derived.Test.YtbicnacclhhlkaaF2
set_option linter.unusedVariables false
namespace Go.Proofs
open Go.G Go.RowKit
set_option maxRecDepth 100000

def k_laws_eqRelation (M : Nat → Prop) (w0 : World) (r : Bool) (a : Act) (w : World) : Prop :=
  ∃ (σ : Nat → Value) , a = fr 16 (ovl σ [(4, (.bool r))]) ∧ Chg [] w0 w
def s_laws_eqRelation (a_ : Int × (List (List Int))) (b : Int × (List (List Int))) : Option (Bool) :=
  (bif (a_.1 != b.1) then some false else (s_laws_eqIntSS a_.2 b.2).bind fun r7 =>
  (bif (!r7) then some false else some true))
set_option maxHeartbeats 4000000 in
theorem c_laws_eqRelation {M : Nat → Prop} {w : World} {pa0 : Option Addr} {pn0 pc0 : Nat} {pa1 : Option Addr} {pn1 pc1 : Nat} (a_ : Int × (List (List Int))) (b : Int × (List (List Int))) (h0 : (RT.rs (RT.rs (RT.int .i64))).val M w (.slice pa0 pn0 pc0) a_.2 ([])) (h1 : (RT.rs (RT.rs (RT.int .i64))).val M w (.slice pa1 pn1 pc1) b.2 ([])) (hM : ∀ g, w.heap.size ≤ g → M g) {r : Bool} (hs : s_laws_eqRelation a_ b = some r) :
    Gives Try.prog 67 [(.agg #[(.int .i64 a_.1), (.slice pa0 pn0 pc0)]), (.agg #[(.int .i64 b.1), (.slice pa1 pn1 pc1)])] w (fun v w' => v = (.bool r) ∧ Chg [] w w') := by
 refine calls_fr Try.func67 rfl Try.ntmps67 (Nat.le_of_ble_eq_true rfl) ?_
 have hO := Own.start (N := Nw w []) hM Nw.fut
 have hC := Chg.refl [] w
 unfold s_laws_eqRelation at hs
 refine wp_mono (Q := KPost (k_laws_eqRelation M w r)) ?_ (fun e a b6 h => ?_)
 rotate_left
 ·cases e
  case ret =>
   obtain ⟨σ, rfl, hrest⟩ := h
   exact ret1x Try.results67 (res_tmp rfl) ⟨rfl, hrest⟩
  all_goals exact (h : False).elim
 refine c_sr ?_
 obtain ⟨a9, a5, b2, b0, a4, a0⟩ := new_block w [(.int .i64 a_.1), (.slice pa0 pn0 pc0)] 54
 refine pl_val (w' := a9) (.pointer (some ⟨a5, 0, none⟩)) (y_box rfl (by rw [b2, b0]; kernel_rfl)) ?_
 have h0 := h0.ext a4
 have h1 := h1.ext a4
 have hC := hC.ext a4
 have hO := hO.new1 a4 b0 a0.lt
 obtain ⟨b3, a6, b4, b1, a2, a3⟩ := new_block a9 [(.int .i64 b.1), (.slice pa1 pn1 pc1)] 54
 refine pl_val (w' := b3) (.pointer (some ⟨a6, 0, none⟩)) (y_box rfl (by rw [b4, b1]; kernel_rfl)) ?_
 have h0 := h0.ext a2
 have h1 := h1.ext a2
 have a0 := a0.cn a2
 have hC := hC.ext a2
 have hO := hO.new1 a2 b1 a3.lt
 refine pl_val (.bool false) (y_assign rfl) ?_
 refine c_nil ?_
 refine c_seq ?_
 refine c_sr ?_
 refine pl_val (.pointer (some ⟨a5, 0, none⟩)) (y_faddr rfl Fa54x0) ?_
 refine pl_val (.int .i64 a_.1) (y_load rfl ((box_load Ag3 Sz3 a0 [] [(.int .i64 a_.1)] [(.slice pa0 pn0 pc0)] rfl rfl (fun _ => rfl)) _ (Chg.refl _ _))) ?_
 refine pl_val (.pointer (some ⟨a6, 0, none⟩)) (y_faddr rfl Fa54x0) ?_
 refine pl_val (.int .i64 b.1) (y_load rfl ((box_load Ag3 Sz3 a3 [] [(.int .i64 b.1)] [(.slice pa1 pn1 pc1)] rfl rfl (fun _ => rfl)) _ (Chg.refl _ _))) ?_
 refine pl_val (.bool (a_.1 != b.1)) (y_neq rfl rfl) ?_
 refine c_nil ?_
 rcases bif_some hs with ⟨a7, hs⟩ | ⟨a7, hs⟩
 ·refine c_condT (congrArg Value.bool a7) ?_
  refine c_sr ?_
  refine pl_val (.bool false) (y_assign rfl) ?_
  refine c_nil ?_
  refine wp_ret ?_
  cases hs
  exact ⟨_, fr_ovl 16 ⟨rfl, trivial⟩, hC⟩
 refine c_condF (congrArg Value.bool a7) ?_
 refine wp_skip ?_
 refine c_seq ?_
 refine c_sr ?_
 refine pl_val (.pointer (some ⟨a5, 1, none⟩)) (y_faddr rfl Fa54x1) ?_
 refine pl_val (.slice pa0 pn0 pc0) (y_load rfl ((box_load Ag47 Sz47 a0 [(.int .i64 a_.1)] [(.slice pa0 pn0 pc0)] [] rfl rfl (fun _ => rfl)) _ (Chg.refl _ _))) ?_
 refine pl_val (.pointer (some ⟨a6, 1, none⟩)) (y_faddr rfl Fa54x1) ?_
 refine pl_val (.slice pa1 pn1 pc1) (y_load rfl ((box_load Ag47 Sz47 a3 [(.int .i64 b.1)] [(.slice pa1 pn1 pc1)] [] rfl rfl (fun _ => rfl)) _ (Chg.refl _ _))) ?_
 obtain ⟨r7, b5, hs⟩ := bind_some hs
 refine pl_call Bd37 rfl (c_laws_eqIntSS (M := M) a_.2 b.2 h0 h1 hO.fut b5) ?_
 rintro _ b7 ⟨rfl, a1⟩
 have h0 := h0.ext a1
 have h1 := h1.ext a1
 have a0 := a0.cn a1
 have a3 := a3.cn a1
 have hC := hC.ext a1
 have hO := hO.ext a1
 refine pl_val (.bool (!r7)) (y_not rfl) ?_
 refine c_nil ?_
 have hO := hO.drop
 have hO := hO.drop
 rcases bif_some hs with ⟨a8, hs⟩ | ⟨a8, hs⟩
 ·refine c_condT (congrArg Value.bool a8) ?_
  refine c_sr ?_
  refine pl_val (.bool false) (y_assign rfl) ?_
  refine c_nil ?_
  refine wp_ret ?_
  cases hs
  exact ⟨_, fr_ovl 16 ⟨rfl, trivial⟩, hC⟩
 refine c_condF (congrArg Value.bool a8) ?_
 refine wp_skip ?_
 refine c_sr ?_
 refine pl_val (.bool true) (y_assign rfl) ?_
 refine c_nil ?_
 refine wp_ret ?_
 cases hs
 exact ⟨_, fr_ovl 16 ⟨rfl, trivial⟩, hC⟩

theorem Bd67 : Bodied Try.prog 67 := bodied Try.func67 (by kernel_rfl) rfl

def k_laws_eqRelationS (M : Nat → Prop) (w0 : World) (r : Bool) (a : Act) (w : World) : Prop :=
  ∃ (σ : Nat → Value) , a = fr 27 (ovl σ [(4, (.bool r))]) ∧ Chg [] w0 w
def s_laws_eqRelationS (a_ : List (Int × (List (List Int)))) (b : List (Int × (List (List Int)))) : Option (Bool) :=
  (bif ((a_.length : Int) != (b.length : Int)) then some false else (forC (S := Unit) (R := Bool) (fun k18 s16 =>
  (idx a_ k18).bind fun x23 =>
  (idx b k18).bind fun x27 =>
  (s_laws_eqRelation (x23.1, x23.2) (x27.1, x27.2)).bind fun r32 =>
  (bif (!r32) then some (.rt false) else some (.nx ()))) 0 (a_.length : Int) ()).bind fun o20 => after o20 (fun r_ => some r_) (fun s16 =>
  some true))
set_option maxHeartbeats 4000000 in
theorem c_laws_eqRelationS {M : Nat → Prop} {w : World} {pa0 : Option Addr} {pn0 pc0 : Nat} {pa1 : Option Addr} {pn1 pc1 : Nat} (a_ : List (Int × (List (List Int)))) (b : List (Int × (List (List Int)))) (h0 : (RT.rs (RT.pr (RT.int .i64) (RT.rs (RT.rs (RT.int .i64))))).val M w (.slice pa0 pn0 pc0) a_ ([])) (h1 : (RT.rs (RT.pr (RT.int .i64) (RT.rs (RT.rs (RT.int .i64))))).val M w (.slice pa1 pn1 pc1) b ([])) (hM : ∀ g, w.heap.size ≤ g → M g) {r : Bool} (hs : s_laws_eqRelationS a_ b = some r) :
    Gives Try.prog 20 [(.slice pa0 pn0 pc0), (.slice pa1 pn1 pc1)] w (fun v w' => v = (.bool r) ∧ Chg [] w w') := by
 refine calls_fr Try.func20 rfl Try.ntmps20 (Nat.le_of_ble_eq_true rfl) ?_
 have hO := Own.start (N := Nw w []) hM Nw.fut
 have hC := Chg.refl [] w
 unfold s_laws_eqRelationS at hs
 refine wp_mono (Q := KPost (k_laws_eqRelationS M w r)) ?_ (fun e a a7 h => ?_)
 rotate_left
 ·cases e
  case ret =>
   obtain ⟨σ, rfl, hrest⟩ := h
   exact ret1x Try.results20 (res_tmp rfl) ⟨rfl, hrest⟩
  all_goals exact (h : False).elim
 refine c_sr ?_
 refine pl_val (.bool false) (y_assign rfl) ?_
 refine c_nil ?_
 refine c_seq ?_
 refine c_sr ?_
 refine pl_val (.slice pa0 pn0 pc0) (y_move rfl) ?_
 refine pl_val (.int .i64 (a_.length : Int)) (y_len' Sl37 (rs_len h0) rfl) ?_
 refine pl_val (.slice pa1 pn1 pc1) (y_move rfl) ?_
 refine pl_val (.int .i64 (b.length : Int)) (y_len' Sl37 (rs_len h1) rfl) ?_
 refine pl_val (.bool ((a_.length : Int) != (b.length : Int))) (y_neq rfl rfl) ?_
 refine c_nil ?_
 rcases bif_some hs with ⟨a3, hs⟩ | ⟨a3, hs⟩
 ·refine c_condT (congrArg Value.bool a3) ?_
  refine c_sr ?_
  refine pl_val (.bool false) (y_assign rfl) ?_
  refine c_nil ?_
  refine wp_ret ?_
  cases hs
  exact ⟨_, fr_ovl 27 ⟨rfl, trivial⟩, hC⟩
 refine c_condF (congrArg Value.bool a3) ?_
 refine wp_skip ?_
 refine c_seq ?_
 refine c_sr ?_
 refine pl_val (.int .i64 0) (y_assign rfl) ?_
 refine c_nil ?_
 obtain ⟨o20, a8, hs⟩ := bind_some hs
 refine wp_block ?_
 refine wp_forC (id := 0) (a_.length : Int) (I := fun k18 s16 a a0 => ∃ (σ : Nat → Value), a = fr 27 (ovl σ [(0, (.slice pa0 pn0 pc0)), (1, (.slice pa1 pn1 pc1)), (5, (.int .i64 k18))]) ∧ Chg [] w a0 ∧ Own (Nw w []) M a0 ([]) ∧ (RT.rs (RT.pr (RT.int .i64) (RT.rs (RT.rs (RT.int .i64))))).val M a0 (.slice pa0 pn0 pc0) a_ ([]) ∧ (RT.rs (RT.pr (RT.int .i64) (RT.rs (RT.rs (RT.int .i64))))).val M a0 (.slice pa1 pn1 pc1) b ([])) (J := fun s16 a a0 => ∃ (σ : Nat → Value), a = fr 27 (ovl σ []) ∧ Chg [] w a0 ∧ Own (Nw w []) M a0 ([]) ∧ (RT.rs (RT.pr (RT.int .i64) (RT.rs (RT.rs (RT.int .i64))))).val M a0 (.slice pa0 pn0 pc0) a_ ([]) ∧ (RT.rs (RT.pr (RT.int .i64) (RT.rs (RT.rs (RT.int .i64))))).val M a0 (.slice pa1 pn1 pc1) b ([])) (K := (k_laws_eqRelationS M w)) ?_ ?_ 0 () o20 _ _ ?_ a8 ?_
 ·rintro k18 s16 a a0 ⟨σ, rfl, hC, hO, h0, h1⟩ hlt
  refine c_seq ?_
  refine c_sr ?_
  refine pl_val (.int .i64 k18) (y_move rfl) ?_
  refine pl_val (.slice pa0 pn0 pc0) (y_move rfl) ?_
  refine pl_val (.int .i64 (a_.length : Int)) (y_len' Sl37 (rs_len h0) rfl) ?_
  refine pl_val (.bool (decide (k18 < (a_.length : Int)))) (y_lss rfl rfl) ?_
  refine c_nil ?_
  refine c_condF (congrArg Value.bool (decide_eq_false hlt)) ?_
  refine wp_exit ?_
  exact ⟨rfl, _, fr_ovl 27 trivial, hC, hO, h0, h1⟩
 ·rintro k18 s16 o20 a a0 ⟨σ, rfl, hC, hO, h0, h1⟩ hlt hw hs
  refine c_seq ?_
  refine c_sr ?_
  refine pl_val (.int .i64 k18) (y_move rfl) ?_
  refine pl_val (.slice pa0 pn0 pc0) (y_move rfl) ?_
  refine pl_val (.int .i64 (a_.length : Int)) (y_len' Sl37 (rs_len h0) rfl) ?_
  refine pl_val (.bool (decide (k18 < (a_.length : Int)))) (y_lss rfl rfl) ?_
  refine c_nil ?_
  refine c_condT (congrArg Value.bool (decide_eq_true hlt)) ?_
  refine wp_skip ?_
  refine c_seq ?_
  refine wp_block ?_
  refine c_seq ?_
  refine x_start [] Mx rfl ?_
  have a2 := Chg.drew a0
  generalize World.drew a0 = a9 at a2 ⊢
  have h0 := h0.ext a2
  have h1 := h1.ext a2
  have hC := hC.ext a2
  have hO := hO.ext a2
  have hS := Chg.refl [] a9
  refine x_p 0 (.slice pa0 pn0 pc0) rfl (by kernel_rfl)  (fun _ => y_move rfl) (fun _ => hS) ?_
  refine x_p 1 (.int .i64 k18) rfl (by kernel_rfl)  (fun _ => y_move rfl) (fun _ => hS) ?_
  obtain ⟨x23, b0, hs⟩ := bind_some hs
  obtain ⟨b1, b2, b3, b4⟩ := rs_idx Sl37 Sz54 h0 b0
  refine x_p 2 (.pointer (some ⟨b1, b2, none⟩)) rfl (by kernel_rfl)  (fun _ => b3 _ _ _ _ _ _ _ _ _ rfl rfl) (fun _ => hS) ?_
  obtain ⟨d8, b5, b6⟩ := at_load Ag54 Sz54 (by intro h; cases h) b4
  obtain ⟨d9, rfl, b7⟩ := b6
  obtain ⟨e0, e1, rfl, b8, b9⟩ := pr_open b7
  obtain rfl := int_rel b8
  obtain ⟨c0, c1, c2, rfl, a4⟩ := rs_rel b9
  refine x_l 3 (.agg #[(.int .i64 x23.1), (.slice c0 c1 c2)]) rfl (by kernel_rfl)  (fun w' hw' => y_load rfl (b5 w' hw')) hS ?_
  refine x_p 4 (.slice pa1 pn1 pc1) rfl (by kernel_rfl)  (fun _ => y_move rfl) (fun _ => hS) ?_
  refine x_p 5 (.int .i64 k18) rfl (by kernel_rfl)  (fun _ => y_move rfl) (fun _ => hS) ?_
  obtain ⟨x27, c3, hs⟩ := bind_some hs
  obtain ⟨c4, c5, c6, c7⟩ := rs_idx Sl37 Sz54 h1 c3
  refine x_p 6 (.pointer (some ⟨c4, c5, none⟩)) rfl (by kernel_rfl)  (fun _ => c6 _ _ _ _ _ _ _ _ _ rfl rfl) (fun _ => hS) ?_
  obtain ⟨e2, c8, c9⟩ := at_load Ag54 Sz54 (by intro h; cases h) c7
  obtain ⟨e3, rfl, d0⟩ := c9
  obtain ⟨e4, e5, rfl, d1, d2⟩ := pr_open d0
  obtain rfl := int_rel d1
  obtain ⟨d3, d4, d5, rfl, a5⟩ := rs_rel d2
  refine x_l 7 (.agg #[(.int .i64 x27.1), (.slice d3 d4 d5)]) rfl (by kernel_rfl)  (fun w' hw' => y_load rfl (c8 w' hw')) hS ?_
  refine x_one (i := 8) (by kernel_rfl) ?_
  obtain ⟨r32, d6, hs⟩ := bind_some hs
  refine xk_call (b := false) rfl  Bd67 rfl (c_laws_eqRelation (M := M) (x23.1, x23.2) (x27.1, x27.2) a4 a5 hO.fut d6) rfl (by rintro _ _ _ ⟨rfl, a1⟩; exact hS.ext a1) ?_
  rintro _ e6 ⟨rfl, a1⟩
  have h0 := h0.ext a1
  have h1 := h1.ext a1
  have a4 := a4.ext a1
  have a5 := a5.ext a1
  have hC := hC.ext a1
  have hO := hO.ext a1
  have hS := hS.ext a1
  refine x_p 9 (.bool (!r32)) rfl (by kernel_rfl)  (fun _ => y_not rfl) (fun _ => hS) ?_
  refine x_end (by kernel_rfl) ?_
  clear hS
  rcases bif_some hs with ⟨a6, hs⟩ | ⟨a6, hs⟩
  ·refine c_condT (congrArg Value.bool a6) ?_
   refine c_sr ?_
   refine pl_val (.bool false) (y_assign rfl) ?_
   refine c_nil ?_
   refine wp_ret ?_
   cases hs
   exact ⟨_, fr_ovl 27 ⟨rfl, trivial⟩, hC⟩
  refine c_condF (congrArg Value.bool a6) ?_
  refine wp_skip ?_
  refine c_region ?_
  refine pl_val (.int .i64 k18) (y_move rfl) ?_
  refine pl_val (.int .i64 (w64 (k18 + 1))) (y_add rfl rfl) ?_
  refine pl_val (.int .i64 (w64 (k18 + 1))) (y_assign rfl) ?_
  refine c_nil ?_
  cases hs
  exact ⟨_, fr_ovl 27 ⟨rfl, rfl, congrArg (Value.int .i64) hw, trivial⟩, hC, hO, h0, h1⟩
 ·skip
  exact ⟨_, fr_ovl 27 ⟨rfl, rfl, rfl, trivial⟩, hC, hO, h0, h1⟩
 cases o20 with
 | nx _ => exact True.intro
 | rt r_ =>
  have hs := after_rt hs
  intro d7 a7 hK
  cases hs
  exact hK
 | br s16 =>
  have hs := after_br hs
  rintro d7 a0 ⟨σ, rfl, hC, hO, h0, h1⟩
  refine c_sr ?_
  refine pl_val (.bool true) (y_assign rfl) ?_
  refine c_nil ?_
  refine wp_ret ?_
  cases hs
  exact ⟨_, fr_ovl 27 ⟨rfl, trivial⟩, hC⟩

theorem Bd16 : Bodied Try.prog 16 := bodied Try.func16 (by kernel_rfl) rfl

theorem Bd18 : Bodied Try.prog 18 := bodied Try.func18 (by kernel_rfl) rfl

theorem Bd44 : Bodied Try.prog 44 := bodied Try.func44 (by kernel_rfl) rfl

theorem Bd45 : Bodied Try.prog 45 := bodied Try.func45 (by kernel_rfl) rfl

theorem Bd20 : Bodied Try.prog 20 := bodied Try.func20 (by kernel_rfl) rfl

def k_laws_FnExactIsCore (M : Nat → Prop) (w0 : World) (r : Bool) (a : Act) (w : World) : Prop :=
  ∃ (σ : Nat → Value) , a = fr 44 (ovl σ [(4, (.bool r))]) ∧ Chg [] w0 w
def s_laws_FnExactIsCore (aN : Int) (aRels : List (Int × (List (List Int)))) : Option (Bool) :=
  (s_laws_szRelationS aRels 1048576).bind fun r3 =>
  (bif (decide (r3 < 0)) then some true else (s_laws_toRelationS aRels).bind fun r6 =>
  (s_spec_IsCore aN r6).bind fun r9 =>
  (s_laws_toRelationS aRels).bind fun r11 =>
  (s_impl_IsCore aN r11).bind fun r14 =>
  (bif ((!(r14.1 == r9.1)) || (!(r14.2 == r9.2))) then some false else (s_laws_toRelationS aRels).bind fun r21 =>
  (s_laws_eqRelationS r11 r21).bind fun r24 =>
  (bif (!r24) then some false else some true)))
set_option maxHeartbeats 4000000 in
theorem c_laws_FnExactIsCore {M : Nat → Prop} {w : World} {pa0 : Option Addr} {pn0 pc0 : Nat} (aN : Int) (aRels : List (Int × (List (List Int)))) (h0 : (RT.rs (RT.pr (RT.int .i64) (RT.rs (RT.rs (RT.int .i64))))).val M w (.slice pa0 pn0 pc0) aRels ([])) (hM : ∀ g, w.heap.size ≤ g → M g) {r : Bool} (hs : s_laws_FnExactIsCore aN aRels = some r) :
    Gives Try.prog 10 [(.int .i64 aN), (.slice pa0 pn0 pc0)] w (fun v w' => v = (.bool r) ∧ Chg [] w w') := by
 refine calls_fr Try.func10 rfl Try.ntmps10 (Nat.le_of_ble_eq_true rfl) ?_
 have hO := Own.start (N := Nw w []) hM Nw.fut
 have hC := Chg.refl [] w
 unfold s_laws_FnExactIsCore at hs
 refine wp_mono (Q := KPost (k_laws_FnExactIsCore M w r)) ?_ (fun e a d3 h => ?_)
 rotate_left
 ·cases e
  case ret =>
   obtain ⟨σ, rfl, hrest⟩ := h
   exact ret1x Try.results10 (res_tmp rfl) ⟨rfl, hrest⟩
  all_goals exact (h : False).elim
 refine c_sr ?_
 refine pl_val (.bool false) (y_assign rfl) ?_
 refine c_nil ?_
 refine c_sr ?_
 refine pl_val (.int .i64 1048576) (y_assign rfl) ?_
 refine c_nil ?_
 refine c_sr ?_
 refine pl_val (.slice pa0 pn0 pc0) (y_move rfl) ?_
 refine pl_val (.int .i64 1048576) (y_move rfl) ?_
 obtain ⟨r3, c3, hs⟩ := bind_some hs
 refine pl_call Bd16 rfl (c_laws_szRelationS (M := M) aRels 1048576 h0 hO.fut c3) ?_
 rintro _ d4 ⟨rfl, b1⟩
 have h0 := h0.ext b1
 have hC := hC.ext b1
 have hO := hO.ext b1
 refine pl_val (.int .i64 r3) (y_assign rfl) ?_
 refine c_nil ?_
 refine c_seq ?_
 refine c_sr ?_
 refine pl_val (.int .i64 r3) (y_move rfl) ?_
 refine pl_val (.bool (decide (r3 < 0))) (y_lss rfl rfl) ?_
 refine c_nil ?_
 rcases bif_some hs with ⟨b2, hs⟩ | ⟨b2, hs⟩
 ·refine c_condT (congrArg Value.bool b2) ?_
  refine c_sr ?_
  refine pl_val (.bool true) (y_assign rfl) ?_
  refine c_nil ?_
  refine wp_ret ?_
  cases hs
  exact ⟨_, fr_ovl 44 ⟨rfl, trivial⟩, hC⟩
 refine c_condF (congrArg Value.bool b2) ?_
 refine wp_skip ?_
 refine c_sr ?_
 refine pl_val (.int .i64 aN) (y_move rfl) ?_
 refine pl_val (.slice pa0 pn0 pc0) (y_move rfl) ?_
 obtain ⟨r6, c4, hs⟩ := bind_some hs
 refine pl_call Bd18 rfl (c_laws_toRelationS (M := M) aRels h0 hO.fut c4) ?_
 rintro _ d5 ⟨d6, d7, d8, b9, rfl, b3, b4, c5⟩
 have h0 := h0.ext b3
 have hC := hC.ext b3
 have hO := Own.join0 hO b3 c5
 have hO := hO.perm (R := b9 ++ ([])) (by simp)
 obtain ⟨r9, c6, hs⟩ := bind_some hs
 refine pl_call Bd44 rfl (c_spec_IsCore (M := (Less M b9)) aN r6 (((Frz.os (Frz.pr Frz.int (Frz.os (Frz.os Frz.int))))).val b4 Less.sub Less.not) hO.less.fut c6) ?_
 rintro _ d9 ⟨rfl, a3⟩
 have h0 := h0.ext a3
 have b4 := b4.ext a3
 have hC := hC.ext a3
 have hO := hO.ext a3
 refine pl_val (.tuple #[(.bool r9.1), (.bool r9.2)]) (y_move rfl) ?_
 refine pl_val (.bool r9.1) (y_extract rfl (by kernel_rfl)) ?_
 refine pl_val (.bool r9.2) (y_extract rfl (by kernel_rfl)) ?_
 refine pl_val (.bool r9.1) (y_assign rfl) ?_
 refine pl_val (.bool r9.2) (y_assign rfl) ?_
 refine c_nil ?_
 have hO := hO.drop
 refine c_sr ?_
 refine pl_val (.slice pa0 pn0 pc0) (y_move rfl) ?_
 obtain ⟨r11, c7, hs⟩ := bind_some hs
 refine pl_call Bd18 rfl (c_laws_toRelationS (M := M) aRels h0 hO.fut c7) ?_
 rintro _ e0 ⟨a4, a5, a6, a7, rfl, b5, a1, c8⟩
 have h0 := h0.ext b5
 have hC := hC.ext b5
 have hO := Own.join0 hO b5 c8
 have hO := hO.perm (R := a7 ++ ([])) (by simp)
 refine pl_val (.slice a4 a5 a6) (y_assign rfl) ?_
 refine c_nil ?_
 refine c_sr ?_
 refine pl_val (.int .i64 aN) (y_move rfl) ?_
 refine pl_val (.slice a4 a5 a6) (y_move rfl) ?_
 obtain ⟨r14, c9, hs⟩ := bind_some hs
 refine pl_call Bd45 rfl (c_impl_IsCore (M := (Less M a7)) aN r11 (((Frz.os (Frz.pr Frz.int (Frz.os (Frz.os Frz.int))))).val a1 Less.sub Less.not) hO.less.fut c9) ?_
 rintro _ c0 ⟨rfl, a8⟩
 have h0 := h0.ext a8
 have a1 := a1.ext a8
 have hC := hC.ext a8
 have hO := hO.ext a8
 refine pl_val (.tuple #[(.bool r14.1), (.bool r14.2)]) (y_move rfl) ?_
 refine pl_val (.bool r14.1) (y_extract rfl (by kernel_rfl)) ?_
 refine pl_val (.bool r14.2) (y_extract rfl (by kernel_rfl)) ?_
 refine pl_val (.bool r14.1) (y_assign rfl) ?_
 refine pl_val (.bool r14.2) (y_assign rfl) ?_
 refine c_nil ?_
 refine c_seq ?_
 refine c_seq ?_
 refine c_mid (I := fun a c1 => ∃ (σ : Nat → Value), a = fr 44 (ovl σ [(1, (.slice pa0 pn0 pc0)), (4, (.bool false)), (8, (.slice a4 a5 a6)), (38, (.bool ((!(r14.1 == r9.1)) || (!(r14.2 == r9.2)))))]) ∧ Chg [] c0 c1) ?_ ?_
 ·have hMid := Chg.refl [] c0
  refine c_region ?_
  refine pl_val (.bool r14.1) (y_move rfl) ?_
  refine pl_val (.bool r9.1) (y_move rfl) ?_
  refine pl_val (.bool (!(r14.1 == r9.1))) (y_bneq Try.underlying4 rfl rfl) ?_
  refine pl_val (.bool (!(r14.1 == r9.1))) (y_move rfl) ?_
  rcases Bool.eq_false_or_eq_true ((!(r14.1 == r9.1))) with a0 | a0
  ·skip
   refine pl_not (tg := 34) (by kernel_rfl) (congrArg Value.bool a0) ?_
   refine pl_not (tg := 34) (by kernel_rfl) (congrArg Value.bool a0) ?_
   refine pl_not (tg := 34) (by kernel_rfl) (congrArg Value.bool a0) ?_
   refine pl_val (.bool ((!(r14.1 == r9.1)) || (!(r14.2 == r9.2)))) (y_pick_t (congrArg Value.bool a0) (congrArg Value.bool (by rw [a0]; rfl))) ?_
   refine c_nil ?_
   exact ⟨_, fr_ovl 44 ⟨rfl, rfl, rfl, rfl, trivial⟩, hMid⟩
  refine pl_yes (.bool r14.2) (tg := 34) (by kernel_rfl) (congrArg Value.bool a0) (y_move rfl) ?_
  refine pl_yes (.bool r9.2) (tg := 34) (by kernel_rfl) (congrArg Value.bool a0) (y_move rfl) ?_
  refine pl_yes (.bool (!(r14.2 == r9.2))) (tg := 34) (by kernel_rfl) (congrArg Value.bool a0) (y_bneq Try.underlying4 rfl rfl) ?_
  refine pl_val (.bool ((!(r14.1 == r9.1)) || (!(r14.2 == r9.2)))) (y_pick_f (congrArg Value.bool a0) (congrArg Value.bool (by rw [a0]; rfl))) ?_
  refine c_nil ?_
  exact ⟨_, fr_ovl 44 ⟨rfl, rfl, rfl, rfl, trivial⟩, hMid⟩
 rintro e1 c1 ⟨σ, rfl, a9⟩
 have h0 := h0.ext a9
 have a1 := a1.ext a9
 have hC := hC.ext a9
 have hO := hO.ext a9
 rcases bif_some hs with ⟨b6, hs⟩ | ⟨b6, hs⟩
 ·refine c_condT (congrArg Value.bool b6) ?_
  refine c_sr ?_
  refine pl_val (.bool false) (y_assign rfl) ?_
  refine c_nil ?_
  refine wp_ret ?_
  cases hs
  exact ⟨_, fr_ovl 44 ⟨rfl, trivial⟩, hC⟩
 refine c_condF (congrArg Value.bool b6) ?_
 refine wp_skip ?_
 refine c_seq ?_
 refine c_sr ?_
 refine pl_val (.slice a4 a5 a6) (y_move rfl) ?_
 refine pl_val (.slice pa0 pn0 pc0) (y_move rfl) ?_
 obtain ⟨r21, d0, hs⟩ := bind_some hs
 refine pl_call Bd18 rfl (c_laws_toRelationS (M := M) aRels h0 hO.fut d0) ?_
 rintro _ e2 ⟨e3, e4, e5, c2, rfl, b0, b7, d1⟩
 have h0 := h0.ext b0
 have a1 := a1.ext b0
 have hC := hC.ext b0
 have hO := Own.join0 hO b0 d1
 have hO := hO.perm (R := c2 ++ (a7 ++ ([]))) (by simp)
 have hO := hO.fr1
 obtain ⟨r24, d2, hs⟩ := bind_some hs
 refine pl_call Bd20 rfl (c_laws_eqRelationS (M := (Less (Less M a7) c2)) r11 r21 ((((Frz.os (Frz.pr Frz.int (Frz.os (Frz.os Frz.int))))).val a1 Less.sub Less.not).sub Less.sub) (((Frz.os (Frz.pr Frz.int (Frz.os (Frz.os Frz.int))))).val (b7.sub Less.sub) Less.sub Less.not) (hO.less).less.fut d2) ?_
 rintro _ e6 ⟨rfl, a2⟩
 have h0 := h0.ext a2
 have a1 := a1.ext a2
 have b7 := b7.ext a2
 have hC := hC.ext a2
 have hO := hO.ext a2
 refine pl_val (.bool (!r24)) (y_not rfl) ?_
 refine c_nil ?_
 have hO := hO.drop
 have hO := hO.drop
 rcases bif_some hs with ⟨b8, hs⟩ | ⟨b8, hs⟩
 ·refine c_condT (congrArg Value.bool b8) ?_
  refine c_sr ?_
  refine pl_val (.bool false) (y_assign rfl) ?_
  refine c_nil ?_
  refine wp_ret ?_
  cases hs
  exact ⟨_, fr_ovl 44 ⟨rfl, trivial⟩, hC⟩
 refine c_condF (congrArg Value.bool b8) ?_
 refine wp_skip ?_
 refine c_sr ?_
 refine pl_val (.bool true) (y_assign rfl) ?_
 refine c_nil ?_
 refine wp_ret ?_
 cases hs
 exact ⟨_, fr_ovl 44 ⟨rfl, trivial⟩, hC⟩

end Go.Proofs
