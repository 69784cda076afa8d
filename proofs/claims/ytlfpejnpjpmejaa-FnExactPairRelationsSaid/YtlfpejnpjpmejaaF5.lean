/- What functions of the program compute, as plain functions, and that a call gives just that. Conditions: those named in each theorem. -/
import Derived.Test.YtlfpejnpjpmejaaF4
set_option linter.unusedVariables false
namespace Go.Proofs
open Go.G Go.RowKit
set_option maxRecDepth 100000

def k_laws_eqOp (M : Nat → Prop) (w0 : World) (r : Bool) (a : Act) (w : World) : Prop :=
  ∃ (σ : Nat → Value) , a = fr 16 (ovl σ [(4, (.bool r))]) ∧ Chg [] w0 w
def s_laws_eqOp (a_ : Int × (List Int)) (b : Int × (List Int)) : Option (Bool) :=
  (bif (a_.1 != b.1) then some false else (s_laws_eqIntS a_.2 b.2).bind fun r7 =>
  (bif (!r7) then some false else some true))
set_option maxHeartbeats 4000000 in
theorem c_laws_eqOp {M : Nat → Prop} {w : World} {pa0 : Option Addr} {pn0 pc0 : Nat} {pa1 : Option Addr} {pn1 pc1 : Nat} (a_ : Int × (List Int)) (b : Int × (List Int)) (h0 : (RT.rs (RT.int .i64)).val M w (.slice pa0 pn0 pc0) a_.2 ([])) (h1 : (RT.rs (RT.int .i64)).val M w (.slice pa1 pn1 pc1) b.2 ([])) (hM : ∀ g, w.heap.size ≤ g → M g) {r : Bool} (hs : s_laws_eqOp a_ b = some r) :
    Gives Try.prog 15 [(.agg #[(.int .i64 a_.1), (.slice pa0 pn0 pc0)]), (.agg #[(.int .i64 b.1), (.slice pa1 pn1 pc1)])] w (fun v w' => v = (.bool r) ∧ Chg [] w w') := by
 refine calls_fr Try.func15 rfl Try.ntmps15 (Nat.le_of_ble_eq_true rfl) ?_
 have hO := Own.start (N := Nw w []) hM Nw.fut
 have hC := Chg.refl [] w
 unfold s_laws_eqOp at hs
 refine wp_mono (Q := KPost (k_laws_eqOp M w r)) ?_ (fun e a w1 h => ?_)
 rotate_left
 ·cases e
  case ret =>
   obtain ⟨σ, rfl, hrest⟩ := h
   exact ret1x Try.results15 (res_tmp rfl) ⟨rfl, hrest⟩
  all_goals exact (h : False).elim
 refine c_seq (c_region ?_)
 obtain ⟨w3, g3, ew3, eg3, hC3, hb3⟩ := new_block w [(.int .i64 a_.1), (.slice pa0 pn0 pc0)] 36
 refine pl_val (w' := w3) (.pointer (some ⟨g3, 0, none⟩)) (y_box rfl (by rw [ew3, eg3]; kernel_rfl)) ?_
 have h0 := h0.ext hC3
 have h1 := h1.ext hC3
 have hC := hC.ext hC3
 have hO := hO.new1 hC3 eg3 hb3.lt
 obtain ⟨w4, g4, ew4, eg4, hC4, hb4⟩ := new_block w3 [(.int .i64 b.1), (.slice pa1 pn1 pc1)] 36
 refine pl_val (w' := w4) (.pointer (some ⟨g4, 0, none⟩)) (y_box rfl (by rw [ew4, eg4]; kernel_rfl)) ?_
 have h0 := h0.ext hC4
 have h1 := h1.ext hC4
 have hb3 := hb3.chg hC4 (fun h => nomatch h)
 have hC := hC.ext hC4
 have hO := hO.new1 hC4 eg4 hb4.lt
 refine pl_val (.bool false) (y_assign rfl) ?_
 refine c_nil ?_
 refine c_seq ?_
 refine c_seq (c_region ?_)
 refine pl_val (.pointer (some ⟨g3, 0, none⟩)) (y_faddr rfl Fa36x0) ?_
 refine pl_val (.int .i64 a_.1) (y_load rfl ((box_load Ag3 Sz3 hb3 [] [(.int .i64 a_.1)] [(.slice pa0 pn0 pc0)] rfl rfl (fun _ => rfl)) _ (Chg.refl _ _))) ?_
 refine pl_val (.pointer (some ⟨g4, 0, none⟩)) (y_faddr rfl Fa36x0) ?_
 refine pl_val (.int .i64 b.1) (y_load rfl ((box_load Ag3 Sz3 hb4 [] [(.int .i64 b.1)] [(.slice pa1 pn1 pc1)] rfl rfl (fun _ => rfl)) _ (Chg.refl _ _))) ?_
 refine pl_val (.bool (a_.1 != b.1)) (y_neq rfl rfl) ?_
 refine c_nil ?_
 rcases bif_some hs with ⟨hc5, hs⟩ | ⟨hc5, hs⟩
 ·skip
  refine c_condT (congrArg Value.bool hc5) ?_
  refine c_seq (c_region ?_)
  refine pl_val (.bool false) (y_assign rfl) ?_
  refine c_nil ?_
  refine wp_ret ?_
  cases hs
  exact ⟨_, fr_ovl 16 ⟨rfl, trivial⟩, hC⟩
 ·skip
  refine c_condF (congrArg Value.bool hc5) ?_
  refine wp_skip ?_
  refine c_seq ?_
  refine c_seq (c_region ?_)
  refine pl_val (.pointer (some ⟨g3, 1, none⟩)) (y_faddr rfl Fa36x1) ?_
  refine pl_val (.slice pa0 pn0 pc0) (y_load rfl ((box_load Ag25 Sz25 hb3 [(.int .i64 a_.1)] [(.slice pa0 pn0 pc0)] [] rfl rfl (fun _ => rfl)) _ (Chg.refl _ _))) ?_
  refine pl_val (.pointer (some ⟨g4, 1, none⟩)) (y_faddr rfl Fa36x1) ?_
  refine pl_val (.slice pa1 pn1 pc1) (y_load rfl ((box_load Ag25 Sz25 hb4 [(.int .i64 b.1)] [(.slice pa1 pn1 pc1)] [] rfl rfl (fun _ => rfl)) _ (Chg.refl _ _))) ?_
  obtain ⟨r7, hr7, hs⟩ := bind_some hs
  refine pl_call Bd43 rfl (c_laws_eqIntS (M := M) a_.2 b.2 h0 h1 hO.fut hr7) ?_
  rintro _ w6 ⟨rfl, hC6⟩
  have h0 := h0.ext hC6
  have h1 := h1.ext hC6
  have hb3 := hb3.chg hC6 (fun h => nomatch h)
  have hb4 := hb4.chg hC6 (fun h => nomatch h)
  have hC := hC.ext hC6
  have hO := hO.ext hC6
  refine pl_val (.bool (!r7)) (y_not rfl) ?_
  refine c_nil ?_
  rcases bif_some hs with ⟨hc8, hs⟩ | ⟨hc8, hs⟩
  ·skip
   refine c_condT (congrArg Value.bool hc8) ?_
   refine c_seq (c_region ?_)
   refine pl_val (.bool false) (y_assign rfl) ?_
   refine c_nil ?_
   refine wp_ret ?_
   cases hs
   exact ⟨_, fr_ovl 16 ⟨rfl, trivial⟩, hC⟩
  ·skip
   refine c_condF (congrArg Value.bool hc8) ?_
   refine wp_skip ?_
   refine c_seq (c_region ?_)
   refine pl_val (.bool true) (y_assign rfl) ?_
   refine c_nil ?_
   refine wp_ret ?_
   cases hs
   exact ⟨_, fr_ovl 16 ⟨rfl, trivial⟩, hC⟩

theorem Bd15 : Bodied Try.prog 15 := bodied Try.func15 (by kernel_rfl) rfl

def k_laws_eqOpS (M : Nat → Prop) (w0 : World) (r : Bool) (a : Act) (w : World) : Prop :=
  ∃ (σ : Nat → Value) , a = fr 27 (ovl σ [(4, (.bool r))]) ∧ Chg [] w0 w
def s_laws_eqOpS (a_ : List (Int × (List Int))) (b : List (Int × (List Int))) : Option (Bool) :=
  (bif ((a_.length : Int) != (b.length : Int)) then some false else (forC (S := Unit) (R := Bool) (fun k18 s16 =>
  (idx a_ k18).bind fun x23 =>
  (idx b k18).bind fun x27 =>
  (s_laws_eqOp (x23.1, x23.2) (x27.1, x27.2)).bind fun r32 =>
  (bif (!r32) then some (.rt false) else some (.nx ()))) 0 (a_.length : Int) ()).bind fun o20 => after o20 (fun r_ => some r_) (fun s16 =>
  some true))
set_option maxHeartbeats 4000000 in
theorem c_laws_eqOpS {M : Nat → Prop} {w : World} {pa0 : Option Addr} {pn0 pc0 : Nat} {pa1 : Option Addr} {pn1 pc1 : Nat} (a_ : List (Int × (List Int))) (b : List (Int × (List Int))) (h0 : (RT.rs (RT.pr (RT.int .i64) (RT.rs (RT.int .i64)))).val M w (.slice pa0 pn0 pc0) a_ ([])) (h1 : (RT.rs (RT.pr (RT.int .i64) (RT.rs (RT.int .i64)))).val M w (.slice pa1 pn1 pc1) b ([])) (hM : ∀ g, w.heap.size ≤ g → M g) {r : Bool} (hs : s_laws_eqOpS a_ b = some r) :
    Gives Try.prog 42 [(.slice pa0 pn0 pc0), (.slice pa1 pn1 pc1)] w (fun v w' => v = (.bool r) ∧ Chg [] w w') := by
 refine calls_fr Try.func42 rfl Try.ntmps42 (Nat.le_of_ble_eq_true rfl) ?_
 have hO := Own.start (N := Nw w []) hM Nw.fut
 have hC := Chg.refl [] w
 unfold s_laws_eqOpS at hs
 refine wp_mono (Q := KPost (k_laws_eqOpS M w r)) ?_ (fun e a w1 h => ?_)
 rotate_left
 ·cases e
  case ret =>
   obtain ⟨σ, rfl, hrest⟩ := h
   exact ret1x Try.results42 (res_tmp rfl) ⟨rfl, hrest⟩
  all_goals exact (h : False).elim
 refine c_seq (c_region ?_)
 refine pl_val (.bool false) (y_assign rfl) ?_
 refine c_nil ?_
 refine c_seq ?_
 refine c_seq (c_region ?_)
 refine pl_val (.slice pa0 pn0 pc0) (y_move rfl) ?_
 refine pl_val (.int .i64 (a_.length : Int)) (y_len' Sl32 (rs_len h0) rfl) ?_
 refine pl_val (.slice pa1 pn1 pc1) (y_move rfl) ?_
 refine pl_val (.int .i64 (b.length : Int)) (y_len' Sl32 (rs_len h1) rfl) ?_
 refine pl_val (.bool ((a_.length : Int) != (b.length : Int))) (y_neq rfl rfl) ?_
 refine c_nil ?_
 rcases bif_some hs with ⟨hc3, hs⟩ | ⟨hc3, hs⟩
 ·skip
  refine c_condT (congrArg Value.bool hc3) ?_
  refine c_seq (c_region ?_)
  refine pl_val (.bool false) (y_assign rfl) ?_
  refine c_nil ?_
  refine wp_ret ?_
  cases hs
  exact ⟨_, fr_ovl 27 ⟨rfl, trivial⟩, hC⟩
 ·skip
  refine c_condF (congrArg Value.bool hc3) ?_
  refine wp_skip ?_
  refine c_seq ?_
  refine c_seq (c_region ?_)
  refine pl_val (.int .i64 0) (y_assign rfl) ?_
  refine c_nil ?_
  obtain ⟨o20, hl21, hs⟩ := bind_some hs
  refine wp_block ?_
  refine wp_forC (id := 0) (a_.length : Int) (I := fun k18 s16 a w17 => ∃ (σ : Nat → Value), a = fr 27 (ovl σ [(0, (.slice pa0 pn0 pc0)), (1, (.slice pa1 pn1 pc1)), (5, (.int .i64 k18))]) ∧ Chg [] w w17 ∧ Own (Nw w []) M w17 ([]) ∧ (RT.rs (RT.pr (RT.int .i64) (RT.rs (RT.int .i64)))).val M w17 (.slice pa0 pn0 pc0) a_ ([]) ∧ (RT.rs (RT.pr (RT.int .i64) (RT.rs (RT.int .i64)))).val M w17 (.slice pa1 pn1 pc1) b ([])) (J := fun s16 a w17 => ∃ (σ : Nat → Value), a = fr 27 (ovl σ []) ∧ Chg [] w w17 ∧ Own (Nw w []) M w17 ([]) ∧ (RT.rs (RT.pr (RT.int .i64) (RT.rs (RT.int .i64)))).val M w17 (.slice pa0 pn0 pc0) a_ ([]) ∧ (RT.rs (RT.pr (RT.int .i64) (RT.rs (RT.int .i64)))).val M w17 (.slice pa1 pn1 pc1) b ([])) (K := (k_laws_eqOpS M w)) ?_ ?_ 0 () o20 _ _ ?_ hl21 ?_
  ·rintro k18 s16 a w17 ⟨σ, rfl, hC, hO, h0, h1⟩ hlt
   refine c_seq ?_
   refine c_seq (c_region ?_)
   refine pl_val (.int .i64 k18) (y_move rfl) ?_
   refine pl_val (.slice pa0 pn0 pc0) (y_move rfl) ?_
   refine pl_val (.int .i64 (a_.length : Int)) (y_len' Sl32 (rs_len h0) rfl) ?_
   refine pl_val (.bool (decide (k18 < (a_.length : Int)))) (y_lss rfl rfl) ?_
   refine c_nil ?_
   refine c_condF (congrArg Value.bool (decide_eq_false hlt)) ?_
   refine wp_exit ?_
   exact ⟨rfl, _, fr_ovl 27 trivial, hC, hO, h0, h1⟩
  ·rintro k18 s16 o20 a w17 ⟨σ, rfl, hC, hO, h0, h1⟩ hlt hw hs
   refine c_seq ?_
   refine c_seq (c_region ?_)
   refine pl_val (.int .i64 k18) (y_move rfl) ?_
   refine pl_val (.slice pa0 pn0 pc0) (y_move rfl) ?_
   refine pl_val (.int .i64 (a_.length : Int)) (y_len' Sl32 (rs_len h0) rfl) ?_
   refine pl_val (.bool (decide (k18 < (a_.length : Int)))) (y_lss rfl rfl) ?_
   refine c_nil ?_
   refine c_condT (congrArg Value.bool (decide_eq_true hlt)) ?_
   refine wp_skip ?_
   refine c_seq ?_
   refine wp_block ?_
   refine c_seq ?_
   refine x_start [] Mx rfl ?_
   have hCw22 := Chg.drew w17
   generalize World.drew w17 = w22 at hCw22 ⊢
   have h0 := h0.ext hCw22
   have h1 := h1.ext hCw22
   have hC := hC.ext hCw22
   have hO := hO.ext hCw22
   have hS := Chg.refl [] w22
   refine x_p 0 (.slice pa0 pn0 pc0) rfl (by kernel_rfl)  (fun _ => y_move rfl) (fun _ => hS) ?_
   refine x_p 1 (.int .i64 k18) rfl (by kernel_rfl)  (fun _ => y_move rfl) (fun _ => hS) ?_
   obtain ⟨x23, hx23, hs⟩ := bind_some hs
   obtain ⟨b24, o24, hp24, ha24⟩ := rs_idx Sl32 Sz36 h0 hx23
   refine x_p 2 (.pointer (some ⟨b24, o24, none⟩)) rfl (by kernel_rfl)  (fun _ => hp24 _ _ _ _ _ _ _ _ _ rfl rfl) (fun _ => hS) ?_
   obtain ⟨v25, hl25, hv25⟩ := at_load Ag36 Sz36 (by intro h; cases h) ha24
   obtain ⟨cs25, rfl, hr25⟩ := hv25
   obtain ⟨cc25x1, cd25x1, rfl, hh25x1, ht25x1⟩ := pr_open hr25
   obtain rfl := int_rel hh25x1
   obtain ⟨a25x2, n25x2, c25x2, rfl, hv25x2⟩ := rs_rel ht25x1
   refine x_l 3 (.agg #[(.int .i64 x23.1), (.slice a25x2 n25x2 c25x2)]) rfl (by kernel_rfl)  (fun w' hw' => y_load rfl (hl25 w' hw')) hS ?_
   refine x_p 4 (.slice pa1 pn1 pc1) rfl (by kernel_rfl)  (fun _ => y_move rfl) (fun _ => hS) ?_
   refine x_p 5 (.int .i64 k18) rfl (by kernel_rfl)  (fun _ => y_move rfl) (fun _ => hS) ?_
   obtain ⟨x27, hx27, hs⟩ := bind_some hs
   obtain ⟨b28, o28, hp28, ha28⟩ := rs_idx Sl32 Sz36 h1 hx27
   refine x_p 6 (.pointer (some ⟨b28, o28, none⟩)) rfl (by kernel_rfl)  (fun _ => hp28 _ _ _ _ _ _ _ _ _ rfl rfl) (fun _ => hS) ?_
   obtain ⟨v29, hl29, hv29⟩ := at_load Ag36 Sz36 (by intro h; cases h) ha28
   obtain ⟨cs29, rfl, hr29⟩ := hv29
   obtain ⟨cc29x1, cd29x1, rfl, hh29x1, ht29x1⟩ := pr_open hr29
   obtain rfl := int_rel hh29x1
   obtain ⟨a29x2, n29x2, c29x2, rfl, hv29x2⟩ := rs_rel ht29x1
   refine x_l 7 (.agg #[(.int .i64 x27.1), (.slice a29x2 n29x2 c29x2)]) rfl (by kernel_rfl)  (fun w' hw' => y_load rfl (hl29 w' hw')) hS ?_
   refine x_one (i := 8) (by kernel_rfl) ?_
   obtain ⟨r32, hr32, hs⟩ := bind_some hs
   refine xk_call (b := false) rfl  Bd15 rfl (c_laws_eqOp (M := M) (x23.1, x23.2) (x27.1, x27.2) hv25x2 hv29x2 hO.fut hr32) rfl (by rintro _ _ _ ⟨rfl, hC31⟩; exact hS.ext hC31) ?_
   rintro _ w31 ⟨rfl, hC31⟩
   have h0 := h0.ext hC31
   have h1 := h1.ext hC31
   have hv25x2 := hv25x2.ext hC31
   have hv29x2 := hv29x2.ext hC31
   have hC := hC.ext hC31
   have hO := hO.ext hC31
   have hS := hS.ext hC31
   refine x_p 9 (.bool (!r32)) rfl (by kernel_rfl)  (fun _ => y_not rfl) (fun _ => hS) ?_
   refine x_end (by kernel_rfl) ?_
   clear hS
   rcases bif_some hs with ⟨hc33, hs⟩ | ⟨hc33, hs⟩
   ·skip
    refine c_condT (congrArg Value.bool hc33) ?_
    refine c_seq (c_region ?_)
    refine pl_val (.bool false) (y_assign rfl) ?_
    refine c_nil ?_
    refine wp_ret ?_
    cases hs
    exact ⟨_, fr_ovl 27 ⟨rfl, trivial⟩, hC⟩
   ·skip
    refine c_condF (congrArg Value.bool hc33) ?_
    refine wp_skip ?_
    refine c_region ?_
    refine pl_val (.int .i64 k18) (y_move rfl) ?_
    refine pl_val (.int .i64 (w64 (k18 + 1))) (y_add rfl rfl) ?_
    refine pl_val (.int .i64 (w64 (k18 + 1))) (y_assign rfl) ?_
    refine c_nil ?_
    cases hs
    exact ⟨_, fr_ovl 27 ⟨rfl, rfl, congrArg (Value.int .i64) hw, trivial⟩, hC, hO, h0, h1⟩
  ·skip
   exact ⟨_, fr_ovl 27 ⟨rfl, rfl, rfl, trivial⟩, hC, hO, h0, h1⟩
  ·cases o20 with
   | nx _ => exact True.intro
   | rt r_ =>
    have hs := after_rt hs
    intro a1 w1 hK
    cases hs
    exact hK
   | br s16 =>
    have hs := after_br hs
    rintro a1 w17 ⟨σ, rfl, hC, hO, h0, h1⟩
    refine c_seq (c_region ?_)
    refine pl_val (.bool true) (y_assign rfl) ?_
    refine c_nil ?_
    refine wp_ret ?_
    cases hs
    exact ⟨_, fr_ovl 27 ⟨rfl, trivial⟩, hC⟩

theorem Bd42 : Bodied Try.prog 42 := bodied Try.func42 (by kernel_rfl) rfl

def k_laws_eqAlgebra (M : Nat → Prop) (w0 : World) (r : Bool) (a : Act) (w : World) : Prop :=
  ∃ (σ : Nat → Value) , a = fr 16 (ovl σ [(4, (.bool r))]) ∧ Chg [] w0 w
def s_laws_eqAlgebra (a_ : Int × (List (Int × (List Int)))) (b : Int × (List (Int × (List Int)))) : Option (Bool) :=
  (bif (a_.1 != b.1) then some false else (s_laws_eqOpS a_.2 b.2).bind fun r7 =>
  (bif (!r7) then some false else some true))
set_option maxHeartbeats 4000000 in
theorem c_laws_eqAlgebra {M : Nat → Prop} {w : World} {pa0 : Option Addr} {pn0 pc0 : Nat} {pa1 : Option Addr} {pn1 pc1 : Nat} (a_ : Int × (List (Int × (List Int)))) (b : Int × (List (Int × (List Int)))) (h0 : (RT.rs (RT.pr (RT.int .i64) (RT.rs (RT.int .i64)))).val M w (.slice pa0 pn0 pc0) a_.2 ([])) (h1 : (RT.rs (RT.pr (RT.int .i64) (RT.rs (RT.int .i64)))).val M w (.slice pa1 pn1 pc1) b.2 ([])) (hM : ∀ g, w.heap.size ≤ g → M g) {r : Bool} (hs : s_laws_eqAlgebra a_ b = some r) :
    Gives Try.prog 14 [(.agg #[(.int .i64 a_.1), (.slice pa0 pn0 pc0)]), (.agg #[(.int .i64 b.1), (.slice pa1 pn1 pc1)])] w (fun v w' => v = (.bool r) ∧ Chg [] w w') := by
 refine calls_fr Try.func14 rfl Try.ntmps14 (Nat.le_of_ble_eq_true rfl) ?_
 have hO := Own.start (N := Nw w []) hM Nw.fut
 have hC := Chg.refl [] w
 unfold s_laws_eqAlgebra at hs
 refine wp_mono (Q := KPost (k_laws_eqAlgebra M w r)) ?_ (fun e a w1 h => ?_)
 rotate_left
 ·cases e
  case ret =>
   obtain ⟨σ, rfl, hrest⟩ := h
   exact ret1x Try.results14 (res_tmp rfl) ⟨rfl, hrest⟩
  all_goals exact (h : False).elim
 refine c_seq (c_region ?_)
 obtain ⟨w3, g3, ew3, eg3, hC3, hb3⟩ := new_block w [(.int .i64 a_.1), (.slice pa0 pn0 pc0)] 34
 refine pl_val (w' := w3) (.pointer (some ⟨g3, 0, none⟩)) (y_box rfl (by rw [ew3, eg3]; kernel_rfl)) ?_
 have h0 := h0.ext hC3
 have h1 := h1.ext hC3
 have hC := hC.ext hC3
 have hO := hO.new1 hC3 eg3 hb3.lt
 obtain ⟨w4, g4, ew4, eg4, hC4, hb4⟩ := new_block w3 [(.int .i64 b.1), (.slice pa1 pn1 pc1)] 34
 refine pl_val (w' := w4) (.pointer (some ⟨g4, 0, none⟩)) (y_box rfl (by rw [ew4, eg4]; kernel_rfl)) ?_
 have h0 := h0.ext hC4
 have h1 := h1.ext hC4
 have hb3 := hb3.chg hC4 (fun h => nomatch h)
 have hC := hC.ext hC4
 have hO := hO.new1 hC4 eg4 hb4.lt
 refine pl_val (.bool false) (y_assign rfl) ?_
 refine c_nil ?_
 refine c_seq ?_
 refine c_seq (c_region ?_)
 refine pl_val (.pointer (some ⟨g3, 0, none⟩)) (y_faddr rfl Fa34x0) ?_
 refine pl_val (.int .i64 a_.1) (y_load rfl ((box_load Ag3 Sz3 hb3 [] [(.int .i64 a_.1)] [(.slice pa0 pn0 pc0)] rfl rfl (fun _ => rfl)) _ (Chg.refl _ _))) ?_
 refine pl_val (.pointer (some ⟨g4, 0, none⟩)) (y_faddr rfl Fa34x0) ?_
 refine pl_val (.int .i64 b.1) (y_load rfl ((box_load Ag3 Sz3 hb4 [] [(.int .i64 b.1)] [(.slice pa1 pn1 pc1)] rfl rfl (fun _ => rfl)) _ (Chg.refl _ _))) ?_
 refine pl_val (.bool (a_.1 != b.1)) (y_neq rfl rfl) ?_
 refine c_nil ?_
 rcases bif_some hs with ⟨hc5, hs⟩ | ⟨hc5, hs⟩
 ·skip
  refine c_condT (congrArg Value.bool hc5) ?_
  refine c_seq (c_region ?_)
  refine pl_val (.bool false) (y_assign rfl) ?_
  refine c_nil ?_
  refine wp_ret ?_
  cases hs
  exact ⟨_, fr_ovl 16 ⟨rfl, trivial⟩, hC⟩
 ·skip
  refine c_condF (congrArg Value.bool hc5) ?_
  refine wp_skip ?_
  refine c_seq ?_
  refine c_seq (c_region ?_)
  refine pl_val (.pointer (some ⟨g3, 1, none⟩)) (y_faddr rfl Fa34x1) ?_
  refine pl_val (.slice pa0 pn0 pc0) (y_load rfl ((box_load Ag32 Sz32 hb3 [(.int .i64 a_.1)] [(.slice pa0 pn0 pc0)] [] rfl rfl (fun _ => rfl)) _ (Chg.refl _ _))) ?_
  refine pl_val (.pointer (some ⟨g4, 1, none⟩)) (y_faddr rfl Fa34x1) ?_
  refine pl_val (.slice pa1 pn1 pc1) (y_load rfl ((box_load Ag32 Sz32 hb4 [(.int .i64 b.1)] [(.slice pa1 pn1 pc1)] [] rfl rfl (fun _ => rfl)) _ (Chg.refl _ _))) ?_
  obtain ⟨r7, hr7, hs⟩ := bind_some hs
  refine pl_call Bd42 rfl (c_laws_eqOpS (M := M) a_.2 b.2 h0 h1 hO.fut hr7) ?_
  rintro _ w6 ⟨rfl, hC6⟩
  have h0 := h0.ext hC6
  have h1 := h1.ext hC6
  have hb3 := hb3.chg hC6 (fun h => nomatch h)
  have hb4 := hb4.chg hC6 (fun h => nomatch h)
  have hC := hC.ext hC6
  have hO := hO.ext hC6
  refine pl_val (.bool (!r7)) (y_not rfl) ?_
  refine c_nil ?_
  rcases bif_some hs with ⟨hc8, hs⟩ | ⟨hc8, hs⟩
  ·skip
   refine c_condT (congrArg Value.bool hc8) ?_
   refine c_seq (c_region ?_)
   refine pl_val (.bool false) (y_assign rfl) ?_
   refine c_nil ?_
   refine wp_ret ?_
   cases hs
   exact ⟨_, fr_ovl 16 ⟨rfl, trivial⟩, hC⟩
  ·skip
   refine c_condF (congrArg Value.bool hc8) ?_
   refine wp_skip ?_
   refine c_seq (c_region ?_)
   refine pl_val (.bool true) (y_assign rfl) ?_
   refine c_nil ?_
   refine wp_ret ?_
   cases hs
   exact ⟨_, fr_ovl 16 ⟨rfl, trivial⟩, hC⟩

def k_laws_markIntS (M : Nat → Prop) (w0 : World) (qa0 : Option Addr) (qn0 qc0 : Nat) (qf0 : List Nat) (r : Int × (List Int)) (a : Act) (w : World) : Prop :=
  ∃ (σ : Nat → Value) (rfi0 : List Nat), a = fr 19 (ovl σ [(4, (.int .i64 r.1))]) ∧ Chg (qf0 ++ ([])) w0 w ∧ (RT.os 3 (RT.int .i64)).val M w (.slice qa0 qn0 qc0) r.2 rfi0 ∧ Own (Nw w0 (qf0 ++ ([]))) (fun _ => True) w (rfi0 ++ ([]))
def s_laws_markIntS (a_ : List Int) (k : Int) : Option (Int × (List Int)) :=
  (iter (S := Int × Int × (List Int)) (R := Int × (List Int)) (fun s25 =>
  (bif (decide (s25.2.1 < (s25.2.2.length : Int))) then (idx s25.2.2 s25.2.1).bind fun x34 =>
  some (.nx (w64 (s25.1 + 1), w64 (s25.2.1 + 1), List.set s25.2.2 (Int.toNat s25.2.1) s25.1)) else some (.br (s25.1, s25.2.1, s25.2.2)))) FU (k, 0, a_)).bind fun o29 => after o29 (fun r_ => some r_) (fun s25 =>
  some (s25.1, s25.2.2))
set_option maxHeartbeats 4000000 in
theorem c_laws_markIntS {M : Nat → Prop} {w : World} {pa0 : Option Addr} {pn0 pc0 : Nat} {pf0 : List Nat} (a_ : List Int) (k : Int) (h0 : (RT.os 3 (RT.int .i64)).val M w (.slice pa0 pn0 pc0) a_ pf0) (hI : Own (Nw w (pf0 ++ ([]))) M w (pf0 ++ ([]))) (hM : ∀ g, w.heap.size ≤ g → M g) {r : Int × (List Int)} (hs : s_laws_markIntS a_ k = some r) :
    Gives Try.prog 53 [(.slice pa0 pn0 pc0), (.int .i64 k)] w (fun v w' => ∃ (rfi0 : List Nat), v = (.int .i64 r.1) ∧ Chg (pf0 ++ ([])) w w' ∧ (RT.os 3 (RT.int .i64)).val M w' (.slice pa0 pn0 pc0) r.2 rfi0 ∧ Own (Nw w (pf0 ++ ([]))) (fun _ => True) w' (rfi0 ++ ([]))) := by
 refine calls_fr Try.func53 rfl Try.ntmps53 (Nat.le_of_ble_eq_true rfl) ?_
 have hO := hI
 have hC := Chg.refl (pf0 ++ ([])) w
 unfold s_laws_markIntS at hs
 refine wp_mono (Q := KPost (k_laws_markIntS M w pa0 pn0 pc0 pf0 r)) ?_ (fun e a w1 h => ?_)
 rotate_left
 ·cases e
  case ret =>
   obtain ⟨σ, rfi0, rfl, hrest⟩ := h
   exact ret1x Try.results53 (res_tmp rfl) ⟨rfi0, rfl, hrest⟩
  all_goals exact (h : False).elim
 refine c_seq (c_region ?_)
 refine pl_val (.int .i64 0) (y_assign rfl) ?_
 refine c_nil ?_
 refine c_seq ?_
 refine c_seq (c_region ?_)
 refine pl_val (.int .i64 0) (y_assign rfl) ?_
 refine c_nil ?_
 obtain ⟨o29, hl30, hs⟩ := bind_some hs
 refine wp_block ?_
 refine wp_iter (id := 0) (I := fun s25 a w26 => ∃ (σ : Nat → Value) (f31 : List Nat), a = fr 19 (ovl σ [(0, (.slice pa0 pn0 pc0)), (1, (.int .i64 s25.1)), (5, (.int .i64 s25.2.1))]) ∧ Chg (pf0 ++ ([])) w w26 ∧ Own (Nw w (pf0 ++ ([]))) M w26 (f31 ++ []) ∧ (RT.os 3 (RT.int .i64)).val M w26 (.slice pa0 pn0 pc0) s25.2.2 f31) (J := fun s25 a w26 => ∃ (σ : Nat → Value) (f32 : List Nat), a = fr 19 (ovl σ [(1, (.int .i64 s25.1))]) ∧ Chg (pf0 ++ ([])) w w26 ∧ Own (Nw w (pf0 ++ ([]))) M w26 (f32 ++ []) ∧ (RT.os 3 (RT.int .i64)).val M w26 (.slice pa0 pn0 pc0) s25.2.2 f32) (K := (k_laws_markIntS M w pa0 pn0 pc0 pf0)) ?_ FU (k, 0, a_) o29 _ _ ?_ hl30 ?_
 ·rintro s25 o29 a w26 ⟨σ, f31, rfl, hC, hO, hv31⟩ hs
  refine c_seq ?_
  refine c_seq (c_region ?_)
  refine pl_val (.int .i64 s25.2.1) (y_move rfl) ?_
  refine pl_val (.slice pa0 pn0 pc0) (y_move rfl) ?_
  refine pl_val (.int .i64 (s25.2.2.length : Int)) (y_len' Sl25 (os_len hv31) rfl) ?_
  refine pl_val (.bool (decide (s25.2.1 < (s25.2.2.length : Int)))) (y_lss rfl rfl) ?_
  refine c_nil ?_
  rcases bif_some hs with ⟨hc33, hs⟩ | ⟨hc33, hs⟩
  ·skip
   refine c_condT (congrArg Value.bool hc33) ?_
   refine wp_skip ?_
   refine c_seq ?_
   refine wp_block ?_
   refine c_seq (c_region ?_)
   refine pl_val (.slice pa0 pn0 pc0) (y_move rfl) ?_
   refine pl_val (.int .i64 s25.2.1) (y_move rfl) ?_
   refine pl_val (.int .i64 s25.1) (y_move rfl) ?_
   obtain ⟨x34, hx34, hs⟩ := bind_some hs
   obtain ⟨g35, f35, hg35, hk35, hp35, ha35, hf35⟩ := os_idx Sl25 Sz3 hv31 hx34
   refine pl_val (.pointer (some ⟨g35, 0 + Int.toNat s25.2.1 * 1, none⟩)) (hp35 _ _ _ _ _ _ _ _ _ rfl rfl) ?_
   obtain ⟨w36, f36, hst36, hC36, hf36, hv36⟩ := os_store (P := Try.prog) (c' := [(.int .i64 s25.1)]) hg35 hv31 hk35 (fun g hg => hO.inM g (os_block hv31 g (by simpa using hg))) ⟨rfl, rfl⟩ List.nodup_nil (fun _ h => nomatch h) (fun _ h => .inl h)
   have hG36 : ∀ q ∈ [g35], q ∈ f31 := fun q hq => os_block hv31 q (by rw [hg35]; exact hq)
   refine pl_skip (w' := w36) (ys_store rfl rfl (hst36 _ _ rfl Sz3)) ?_
   have hC := hC.step hC36 (fun g hg => hO.inN g (hG36 g hg))
   have hO := hO.grow hC36 (fun q hq => .inl ((hf36 q hq).resolve_right (fun h => nomatch h))) (os_nodup hv36) hv36.fpl
   refine c_nil ?_
   refine c_region ?_
   refine pl_val (.int .i64 s25.1) (y_move rfl) ?_
   refine pl_val (.int .i64 (w64 (s25.1 + 1))) (y_add rfl rfl) ?_
   refine pl_val (.int .i64 (w64 (s25.1 + 1))) (y_assign rfl) ?_
   refine c_nil ?_
   refine c_region ?_
   refine pl_val (.int .i64 s25.2.1) (y_move rfl) ?_
   refine pl_val (.int .i64 (w64 (s25.2.1 + 1))) (y_add rfl rfl) ?_
   refine pl_val (.int .i64 (w64 (s25.2.1 + 1))) (y_assign rfl) ?_
   refine c_nil ?_
   cases hs
   exact ⟨_, f36, fr_ovl 19 ⟨rfl, rfl, rfl, trivial⟩, hC, hO, hv36⟩
  ·skip
   refine c_condF (congrArg Value.bool hc33) ?_
   refine wp_exit ?_
   cases hs
   exact ⟨rfl, _, f31, fr_ovl 19 ⟨rfl, trivial⟩, hC, hO, hv31⟩
 ·skip
  exact ⟨_, pf0, fr_ovl 19 ⟨rfl, rfl, rfl, trivial⟩, hC, hO, h0⟩
 ·cases o29 with
  | nx _ => exact True.intro
  | rt r_ =>
   have hs := after_rt hs
   intro a1 w1 hK
   cases hs
   exact hK
  | br s25 =>
   have hs := after_br hs
   rintro a1 w26 ⟨σ, f32, rfl, hC, hO, hv32⟩
   refine c_seq (c_region ?_)
   refine pl_val (.int .i64 s25.1) (y_move rfl) ?_
   refine pl_val (.int .i64 s25.1) (y_assign rfl) ?_
   refine c_nil ?_
   refine wp_ret ?_
   cases hs
   exact ⟨_, f32, fr_ovl 19 ⟨rfl, trivial⟩, hC, hv32, hO.top⟩

theorem Bd53 : Bodied Try.prog 53 := bodied Try.func53 (by kernel_rfl) rfl

def k_laws_markOpS (M : Nat → Prop) (w0 : World) (qa0 : Option Addr) (qn0 qc0 : Nat) (qf0 : List Nat) (r : Int × (List (Int × (List Int)))) (a : Act) (w : World) : Prop :=
  ∃ (σ : Nat → Value) (rfi0 : List Nat), a = fr 27 (ovl σ [(4, (.int .i64 r.1))]) ∧ Chg (qf0 ++ ([])) w0 w ∧ (RT.os 36 (RT.pr (RT.int .i64) (RT.os 3 (RT.int .i64)))).val M w (.slice qa0 qn0 qc0) r.2 rfi0 ∧ Own (Nw w0 (qf0 ++ ([]))) (fun _ => True) w (rfi0 ++ ([]))
def s_laws_markOpS (a_ : List (Int × (List Int))) (k : Int) : Option (Int × (List (Int × (List Int)))) :=
  (iter (S := Int × Int × (List (Int × (List Int)))) (R := Int × (List (Int × (List Int)))) (fun s57 =>
  (bif (decide (s57.2.1 < (s57.2.2.length : Int))) then (idx s57.2.2 s57.2.1).bind fun x67 =>
  (idx (List.set s57.2.2 (Int.toNat s57.2.1) (s57.1, x67.2)) s57.2.1).bind fun x71 =>
  (s_laws_markIntS x71.2 (w64 (s57.1 + 1))).bind fun r77 =>
  some (.nx (r77.1, w64 (s57.2.1 + 1), List.set (List.set s57.2.2 (Int.toNat s57.2.1) (s57.1, x67.2)) (Int.toNat s57.2.1) (x71.1, r77.2))) else some (.br (s57.1, s57.2.1, s57.2.2)))) FU (k, 0, a_)).bind fun o61 => after o61 (fun r_ => some r_) (fun s57 =>
  some (s57.1, s57.2.2))
set_option maxHeartbeats 4000000 in
theorem c_laws_markOpS {M : Nat → Prop} {w : World} {pa0 : Option Addr} {pn0 pc0 : Nat} {pf0 : List Nat} (a_ : List (Int × (List Int))) (k : Int) (h0 : (RT.os 36 (RT.pr (RT.int .i64) (RT.os 3 (RT.int .i64)))).val M w (.slice pa0 pn0 pc0) a_ pf0) (hI : Own (Nw w (pf0 ++ ([]))) M w (pf0 ++ ([]))) (hM : ∀ g, w.heap.size ≤ g → M g) {r : Int × (List (Int × (List Int)))} (hs : s_laws_markOpS a_ k = some r) :
    Gives Try.prog 48 [(.slice pa0 pn0 pc0), (.int .i64 k)] w (fun v w' => ∃ (rfi0 : List Nat), v = (.int .i64 r.1) ∧ Chg (pf0 ++ ([])) w w' ∧ (RT.os 36 (RT.pr (RT.int .i64) (RT.os 3 (RT.int .i64)))).val M w' (.slice pa0 pn0 pc0) r.2 rfi0 ∧ Own (Nw w (pf0 ++ ([]))) (fun _ => True) w' (rfi0 ++ ([]))) := by
 refine calls_fr Try.func48 rfl Try.ntmps48 (Nat.le_of_ble_eq_true rfl) ?_
 have hO := hI
 have hC := Chg.refl (pf0 ++ ([])) w
 unfold s_laws_markOpS at hs
 refine wp_mono (Q := KPost (k_laws_markOpS M w pa0 pn0 pc0 pf0 r)) ?_ (fun e a w1 h => ?_)
 rotate_left
 ·cases e
  case ret =>
   obtain ⟨σ, rfi0, rfl, hrest⟩ := h
   exact ret1x Try.results48 (res_tmp rfl) ⟨rfi0, rfl, hrest⟩
  all_goals exact (h : False).elim
 refine c_seq (c_region ?_)
 refine pl_val (.int .i64 0) (y_assign rfl) ?_
 refine c_nil ?_
 refine c_seq ?_
 refine c_seq (c_region ?_)
 refine pl_val (.int .i64 0) (y_assign rfl) ?_
 refine c_nil ?_
 obtain ⟨o61, hl62, hs⟩ := bind_some hs
 refine wp_block ?_
 refine wp_iter (id := 0) (I := fun s57 a w58 => ∃ (σ : Nat → Value) (f63 : List Nat), a = fr 27 (ovl σ [(0, (.slice pa0 pn0 pc0)), (1, (.int .i64 s57.1)), (5, (.int .i64 s57.2.1))]) ∧ Chg (pf0 ++ ([])) w w58 ∧ Own (Nw w (pf0 ++ ([]))) M w58 (f63 ++ []) ∧ (RT.os 36 (RT.pr (RT.int .i64) (RT.os 3 (RT.int .i64)))).val M w58 (.slice pa0 pn0 pc0) s57.2.2 f63) (J := fun s57 a w58 => ∃ (σ : Nat → Value) (f65 : List Nat), a = fr 27 (ovl σ [(1, (.int .i64 s57.1))]) ∧ Chg (pf0 ++ ([])) w w58 ∧ Own (Nw w (pf0 ++ ([]))) M w58 (f65 ++ []) ∧ (RT.os 36 (RT.pr (RT.int .i64) (RT.os 3 (RT.int .i64)))).val M w58 (.slice pa0 pn0 pc0) s57.2.2 f65) (K := (k_laws_markOpS M w pa0 pn0 pc0 pf0)) ?_ FU (k, 0, a_) o61 _ _ ?_ hl62 ?_
 ·rintro s57 o61 a w58 ⟨σ, f63, rfl, hC, hO, hv63⟩ hs
  refine c_seq ?_
  refine c_seq (c_region ?_)
  refine pl_val (.int .i64 s57.2.1) (y_move rfl) ?_
  refine pl_val (.slice pa0 pn0 pc0) (y_move rfl) ?_
  refine pl_val (.int .i64 (s57.2.2.length : Int)) (y_len' Sl32 (os_len hv63) rfl) ?_
  refine pl_val (.bool (decide (s57.2.1 < (s57.2.2.length : Int)))) (y_lss rfl rfl) ?_
  refine c_nil ?_
  rcases bif_some hs with ⟨hc66, hs⟩ | ⟨hc66, hs⟩
  ·skip
   refine c_condT (congrArg Value.bool hc66) ?_
   refine wp_skip ?_
   refine c_seq ?_
   refine wp_block ?_
   refine c_seq (c_region ?_)
   refine pl_val (.slice pa0 pn0 pc0) (y_move rfl) ?_
   refine pl_val (.int .i64 s57.2.1) (y_move rfl) ?_
   refine pl_val (.int .i64 s57.1) (y_move rfl) ?_
   obtain ⟨x67, hx67, hs⟩ := bind_some hs
   obtain ⟨g68, f68, hg68, hk68, hp68, ha68, hf68⟩ := os_idx Sl32 Sz36 hv63 hx67
   have hb68 := own_row (Frz.pr Frz.int (Frz.os Frz.int)) ha68 hf68
   refine pl_val (.pointer (some ⟨g68, 0 + Int.toNat s57.2.1 * 2, none⟩)) (hp68 _ _ _ _ _ _ _ _ _ rfl rfl) ?_
   obtain ⟨hq69, _⟩ := pr_at hb68
   refine pl_val (.pointer (some ⟨g68, (0 + Int.toNat s57.2.1 * 2) + 0, none⟩)) (y_faddr rfl Fa36x0) ?_
   obtain ⟨L170, c70, L270, fq70, hL70, hc70, hbx70, hr70, hsf70, hnf70, hgi70, hgn70, hput70⟩ := os_focus hg68 hv63 hx67 hO.inM
   obtain ⟨c70x1, d70x1, f70x1, k70x1, rfl, rfl, hl70x1, ht70x1⟩ := hr70
   obtain ⟨rfl, rfl⟩ := hl70x1
   have hn70x1 := RT.len _ ht70x1
   obtain ⟨w70, hst70, hC70, hb70⟩ := box_store (P := Try.prog) hbx70 (L170) [(Value.int .i64 x67.1)] (d70x1 ++ (L270)) [(Value.int .i64 s57.1)] (by simp) rfl (by intro u hu; rw [List.mem_singleton.1 hu]; rfl)
   have hA70 : (L170).length = ((0 + Int.toNat s57.2.1 * 2) + 0) := by
    simp only [List.length_append, hL70]
    try rfl
   rw [hA70] at hst70
   have hGM70 : ∀ q ∈ [g68], M q ∨ (w58).heap.size ≤ q := fun q hq => .inl (by rw [List.mem_singleton.1 hq]; exact hO.inM _ hgi70)
   obtain ⟨fz70, hv70, hf70⟩ := hput70 w70 [g68] ([(Value.int .i64 s57.1)] ++ d70x1) (s57.1, x67.2) (([] : List Nat) ++ k70x1) hC70 (fun q hq => .inl (List.mem_singleton.1 hq)) (by simpa using hb70) ⟨_, _, _, _, rfl, rfl, ⟨rfl, rfl⟩, (RT.mono _ ht70x1 hC70 hGM70 (fun q hq hq' => hgn70 (by rw [List.mem_singleton.1 hq] at hq'; simp [hq'])) (fun _ h => .inl h))⟩ hnf70 (fun q hq => .inl hq)
   refine pl_skip (w' := w70) (ys_store rfl rfl (hst70 _ _ rfl Sz3)) ?_
   have hG70 : ∀ q ∈ [g68], q ∈ f63 := fun q hq => by rw [List.mem_singleton.1 hq]; exact hgi70
   have hC := hC.step hC70 (fun g hg => hO.inN g (hG70 g hg))
   have hO := hO.grow hC70 hf70 (os_nodup hv70) hv70.fpl
   refine c_nil ?_
   refine c_seq (c_region ?_)
   refine pl_val (.int .i64 s57.1) (y_move rfl) ?_
   refine pl_val (.int .i64 (w64 (s57.1 + 1))) (y_add rfl rfl) ?_
   refine pl_val (.int .i64 (w64 (s57.1 + 1))) (y_assign rfl) ?_
   refine c_nil ?_
   refine c_region ?_
   refine pl_val (.slice pa0 pn0 pc0) (y_move rfl) ?_
   refine pl_val (.int .i64 s57.2.1) (y_move rfl) ?_
   obtain ⟨x71, hx71, hs⟩ := bind_some hs
   obtain ⟨g72, f72, hg72, hk72, hp72, ha72, hf72⟩ := os_idx Sl32 Sz36 hv70 hx71
   have hb72 := own_row (Frz.pr Frz.int (Frz.os Frz.int)) ha72 hf72
   refine pl_val (.pointer (some ⟨g72, 0 + Int.toNat s57.2.1 * 2, none⟩)) (hp72 _ _ _ _ _ _ _ _ _ rfl rfl) ?_
   obtain ⟨_, hq73x0⟩ := pr_at hb72
   refine pl_val (.pointer (some ⟨g72, (0 + Int.toNat s57.2.1 * 2) + 1, none⟩)) (y_faddr rfl Fa36x1) ?_
   obtain ⟨cs74, hrow74, hr74⟩ := at_open hb72
   obtain ⟨cc74x1, cd74x1, rfl, hh74x1, ht74x1⟩ := pr_open hr74
   obtain rfl := int_rel hh74x1
   obtain ⟨a74x2, n74x2, c74x2, rfl, hv74x2⟩ := rs_rel ht74x1
   refine pl_val (.slice a74x2 n74x2 c74x2) (y_load rfl ((part_load (l1 := [(.int .i64 x71.1)]) (c := [(.slice a74x2 n74x2 c74x2)]) (l2 := []) Ag25 Sz25 hrow74 rfl rfl (fun _ => rfl)) _ (Chg.refl _ _))) ?_
   refine pl_val (.int .i64 (w64 (s57.1 + 1))) (y_move rfl) ?_
   obtain ⟨fg76, hrr76, hsf76, hnf76, hput76⟩ := os_put hg72 hv70 hx71 hrow74 rfl hO.inM
   obtain ⟨fa76x1, fb76x1, rfl, hp76x1, hq76x1⟩ := pr_split (c := [(.int .i64 x71.1)]) (d := [(.slice a74x2 n74x2 c74x2)]) hrr76 rfl
   obtain rfl := int_fp hp76x1
   have hg76x0 : (RT.os 3 (RT.int .i64)).val M w70 (.slice a74x2 n74x2 c74x2) x71.2 fb76x1 := ⟨[_], rfl, hq76x1⟩
   have hfs76 : ∀ q ∈ (fb76x1 ++ ([])), q ∈ fz70 := fun q hq => hsf76 q (by simpa using hq)
   have hfn76 : List.Nodup (fb76x1 ++ ([])) := by simpa using hnf76
   have hL76 := hO
   have hI76 := Own.part (X := (fb76x1 ++ ([]))) (hL76) hfs76 hfn76
   obtain ⟨r77, hr77, hs⟩ := bind_some hs
   refine pl_call Bd53 rfl (c_laws_markIntS (M := M) x71.2 (w64 (s57.1 + 1)) hg76x0 hI76 hI76.fut hr77) ?_
   rintro _ w76 ⟨fi76x0, rfl, hC76, hvi76x0, hOc76⟩
   obtain ⟨fq76, hvq76, hsq76⟩ := hput76 w76 (fb76x1 ++ ([])) (x71.1, r77.2) (([] : List Nat) ++ fi76x0) hC76 (fun q hq => by simpa using hq) ⟨_, _, _, _, rfl, rfl, ⟨rfl, rfl⟩, (os_unval hvi76x0)⟩ (by simpa using hOc76.1) (fun q hq => (hOc76.2.1 q (by simpa using hq)).2.2.imp (fun h => by simpa using h) id)
   have hC := hC.step hC76 (fun g hg => hO.inN g (hfs76 g hg))
   have hO := hO.grow hC76 hsq76 (os_nodup hvq76) hvq76.fpl
   refine pl_val (.int .i64 r77.1) (y_assign rfl) ?_
   refine c_nil ?_
   refine c_region ?_
   refine pl_val (.int .i64 s57.2.1) (y_move rfl) ?_
   refine pl_val (.int .i64 (w64 (s57.2.1 + 1))) (y_add rfl rfl) ?_
   refine pl_val (.int .i64 (w64 (s57.2.1 + 1))) (y_assign rfl) ?_
   refine c_nil ?_
   cases hs
   exact ⟨_, fq76, fr_ovl 27 ⟨rfl, rfl, rfl, trivial⟩, hC, hO, hvq76⟩
  ·skip
   refine c_condF (congrArg Value.bool hc66) ?_
   refine wp_exit ?_
   cases hs
   exact ⟨rfl, _, f63, fr_ovl 27 ⟨rfl, trivial⟩, hC, hO, hv63⟩
 ·skip
  exact ⟨_, pf0, fr_ovl 27 ⟨rfl, rfl, rfl, trivial⟩, hC, hO, h0⟩
 ·cases o61 with
  | nx _ => exact True.intro
  | rt r_ =>
   have hs := after_rt hs
   intro a1 w1 hK
   cases hs
   exact hK
  | br s57 =>
   have hs := after_br hs
   rintro a1 w58 ⟨σ, f65, rfl, hC, hO, hv65⟩
   refine c_seq (c_region ?_)
   refine pl_val (.int .i64 s57.1) (y_move rfl) ?_
   refine pl_val (.int .i64 s57.1) (y_assign rfl) ?_
   refine c_nil ?_
   refine wp_ret ?_
   cases hs
   exact ⟨_, f65, fr_ovl 27 ⟨rfl, trivial⟩, hC, hv65, hO.top⟩

theorem Bd48 : Bodied Try.prog 48 := bodied Try.func48 (by kernel_rfl) rfl

def k_laws_markAlgebra (M : Nat → Prop) (w0 : World) (qa0 : Option Addr) (qn0 qc0 : Nat) (qf0 : List Nat) (r : Int × (List (Int × (List Int)))) (a : Act) (w : World) : Prop :=
  ∃ (σ : Nat → Value) (rfi0 : List Nat), a = fr 10 (ovl σ [(4, (.int .i64 r.1))]) ∧ Chg (qf0 ++ ([])) w0 w ∧ (RT.os 36 (RT.pr (RT.int .i64) (RT.os 3 (RT.int .i64)))).val M w (.slice qa0 qn0 qc0) r.2 rfi0 ∧ Own (Nw w0 (qf0 ++ ([]))) (fun _ => True) w (rfi0 ++ ([]))
def s_laws_markAlgebra (a_ : Int × (List (Int × (List Int)))) (k : Int) : Option (Int × (List (Int × (List Int)))) :=
  (s_laws_markOpS a_.2 k).bind fun r4 =>
  some (r4.1, r4.2)
set_option maxHeartbeats 4000000 in
theorem c_laws_markAlgebra {M : Nat → Prop} {w : World} {pa0 : Option Addr} {pn0 pc0 : Nat} {pf0 : List Nat} (a_ : Int × (List (Int × (List Int)))) (k : Int) (h0 : (RT.os 36 (RT.pr (RT.int .i64) (RT.os 3 (RT.int .i64)))).val M w (.slice pa0 pn0 pc0) a_.2 pf0) (hI : Own (Nw w (pf0 ++ ([]))) M w (pf0 ++ ([]))) (hM : ∀ g, w.heap.size ≤ g → M g) {r : Int × (List (Int × (List Int)))} (hs : s_laws_markAlgebra a_ k = some r) :
    Gives Try.prog 21 [(.agg #[(.int .i64 a_.1), (.slice pa0 pn0 pc0)]), (.int .i64 k)] w (fun v w' => ∃ (rfi0 : List Nat), v = (.int .i64 r.1) ∧ Chg (pf0 ++ ([])) w w' ∧ (RT.os 36 (RT.pr (RT.int .i64) (RT.os 3 (RT.int .i64)))).val M w' (.slice pa0 pn0 pc0) r.2 rfi0 ∧ Own (Nw w (pf0 ++ ([]))) (fun _ => True) w' (rfi0 ++ ([]))) := by
 refine calls_fr Try.func21 rfl Try.ntmps21 (Nat.le_of_ble_eq_true rfl) ?_
 have hO := hI
 have hC := Chg.refl (pf0 ++ ([])) w
 unfold s_laws_markAlgebra at hs
 refine wp_mono (Q := KPost (k_laws_markAlgebra M w pa0 pn0 pc0 pf0 r)) ?_ (fun e a w1 h => ?_)
 rotate_left
 ·cases e
  case ret =>
   obtain ⟨σ, rfi0, rfl, hrest⟩ := h
   exact ret1x Try.results21 (res_tmp rfl) ⟨rfi0, rfl, hrest⟩
  all_goals exact (h : False).elim
 refine c_seq (c_region ?_)
 obtain ⟨w2, g2, ew2, eg2, hC2, hb2⟩ := new_block w [(.int .i64 a_.1), (.slice pa0 pn0 pc0)] 34
 refine pl_val (w' := w2) (.pointer (some ⟨g2, 0, none⟩)) (y_box rfl (by rw [ew2, eg2]; kernel_rfl)) ?_
 have h0 := h0.ext hC2
 have hC := hC.ext hC2
 have hO := hO.new1 hC2 eg2 hb2.lt
 refine pl_val (.int .i64 0) (y_assign rfl) ?_
 refine c_nil ?_
 refine c_seq (c_region ?_)
 refine pl_val (.pointer (some ⟨g2, 1, none⟩)) (y_faddr rfl Fa34x1) ?_
 refine pl_val (.slice pa0 pn0 pc0) (y_load rfl ((box_load Ag32 Sz32 hb2 [(.int .i64 a_.1)] [(.slice pa0 pn0 pc0)] [] rfl rfl (fun _ => rfl)) _ (Chg.refl _ _))) ?_
 refine pl_val (.int .i64 k) (y_move rfl) ?_
 have hO := hO.fr1
 have hL3 := hO
 have hI3 := Own.lend (F := (pf0 ++ ([]))) (R := ([g2]) ++ ([])) (Own.perm (hL3) (by simp))
 obtain ⟨r4, hr4, hs⟩ := bind_some hs
 refine pl_call Bd48 rfl (c_laws_markOpS (M := M) a_.2 k h0 hI3 hI3.fut hr4) ?_
 rintro _ w3 ⟨fi3x0, rfl, hC3, hvi3x0, hOc3⟩
 have hO := hO.perm (R := (pf0 ++ ([])) ++ (([g2]) ++ ([]))) (by simp)
 have hb2 := hb2.chg hC3 (fun hg => hO.apart _ ((fun _ h => h) _ hg) (mem_l (List.mem_singleton.2 rfl)))
 have hC := hC.step hC3 (fun g hg => hO.inN g ((fun _ h => h) g hg))
 have hO := Own.join hO hC3 hOc3
 have hO := hO.perm (R := fi3x0 ++ (([g2]) ++ ([]))) (by simp)
 refine pl_val (.int .i64 r4.1) (y_assign rfl) ?_
 refine c_nil ?_
 refine c_seq (c_region ?_)
 refine pl_val (.int .i64 r4.1) (y_move rfl) ?_
 refine pl_val (.int .i64 r4.1) (y_assign rfl) ?_
 refine c_nil ?_
 refine wp_ret ?_
 cases hs
 have hO := hO.fr1
 have hO := hO.drop
 exact ⟨_, fi3x0, fr_ovl 10 ⟨rfl, trivial⟩, hC, hvi3x0, hO.top⟩

def k_laws_markIntSS (M : Nat → Prop) (w0 : World) (qa0 : Option Addr) (qn0 qc0 : Nat) (qf0 : List Nat) (r : Int × (List (List Int))) (a : Act) (w : World) : Prop :=
  ∃ (σ : Nat → Value) (rfi0 : List Nat), a = fr 19 (ovl σ [(4, (.int .i64 r.1))]) ∧ Chg (qf0 ++ ([])) w0 w ∧ (RT.os 25 (RT.os 3 (RT.int .i64))).val M w (.slice qa0 qn0 qc0) r.2 rfi0 ∧ Own (Nw w0 (qf0 ++ ([]))) (fun _ => True) w (rfi0 ++ ([]))
def s_laws_markIntSS (a_ : List (List Int)) (k : Int) : Option (Int × (List (List Int))) :=
  (iter (S := Int × Int × (List (List Int))) (R := Int × (List (List Int))) (fun s37 =>
  (bif (decide (s37.2.1 < (s37.2.2.length : Int))) then (idx s37.2.2 s37.2.1).bind fun x46 =>
  (s_laws_markIntS x46 s37.1).bind fun r51 =>
  some (.nx (r51.1, w64 (s37.2.1 + 1), List.set s37.2.2 (Int.toNat s37.2.1) r51.2)) else some (.br (s37.1, s37.2.1, s37.2.2)))) FU (k, 0, a_)).bind fun o41 => after o41 (fun r_ => some r_) (fun s37 =>
  some (s37.1, s37.2.2))
set_option maxHeartbeats 4000000 in
theorem c_laws_markIntSS {M : Nat → Prop} {w : World} {pa0 : Option Addr} {pn0 pc0 : Nat} {pf0 : List Nat} (a_ : List (List Int)) (k : Int) (h0 : (RT.os 25 (RT.os 3 (RT.int .i64))).val M w (.slice pa0 pn0 pc0) a_ pf0) (hI : Own (Nw w (pf0 ++ ([]))) M w (pf0 ++ ([]))) (hM : ∀ g, w.heap.size ≤ g → M g) {r : Int × (List (List Int))} (hs : s_laws_markIntSS a_ k = some r) :
    Gives Try.prog 49 [(.slice pa0 pn0 pc0), (.int .i64 k)] w (fun v w' => ∃ (rfi0 : List Nat), v = (.int .i64 r.1) ∧ Chg (pf0 ++ ([])) w w' ∧ (RT.os 25 (RT.os 3 (RT.int .i64))).val M w' (.slice pa0 pn0 pc0) r.2 rfi0 ∧ Own (Nw w (pf0 ++ ([]))) (fun _ => True) w' (rfi0 ++ ([]))) := by
 refine calls_fr Try.func49 rfl Try.ntmps49 (Nat.le_of_ble_eq_true rfl) ?_
 have hO := hI
 have hC := Chg.refl (pf0 ++ ([])) w
 unfold s_laws_markIntSS at hs
 refine wp_mono (Q := KPost (k_laws_markIntSS M w pa0 pn0 pc0 pf0 r)) ?_ (fun e a w1 h => ?_)
 rotate_left
 ·cases e
  case ret =>
   obtain ⟨σ, rfi0, rfl, hrest⟩ := h
   exact ret1x Try.results49 (res_tmp rfl) ⟨rfi0, rfl, hrest⟩
  all_goals exact (h : False).elim
 refine c_seq (c_region ?_)
 refine pl_val (.int .i64 0) (y_assign rfl) ?_
 refine c_nil ?_
 refine c_seq ?_
 refine c_seq (c_region ?_)
 refine pl_val (.int .i64 0) (y_assign rfl) ?_
 refine c_nil ?_
 obtain ⟨o41, hl42, hs⟩ := bind_some hs
 refine wp_block ?_
 refine wp_iter (id := 0) (I := fun s37 a w38 => ∃ (σ : Nat → Value) (f43 : List Nat), a = fr 19 (ovl σ [(0, (.slice pa0 pn0 pc0)), (1, (.int .i64 s37.1)), (5, (.int .i64 s37.2.1))]) ∧ Chg (pf0 ++ ([])) w w38 ∧ Own (Nw w (pf0 ++ ([]))) M w38 (f43 ++ []) ∧ (RT.os 25 (RT.os 3 (RT.int .i64))).val M w38 (.slice pa0 pn0 pc0) s37.2.2 f43) (J := fun s37 a w38 => ∃ (σ : Nat → Value) (f44 : List Nat), a = fr 19 (ovl σ [(1, (.int .i64 s37.1))]) ∧ Chg (pf0 ++ ([])) w w38 ∧ Own (Nw w (pf0 ++ ([]))) M w38 (f44 ++ []) ∧ (RT.os 25 (RT.os 3 (RT.int .i64))).val M w38 (.slice pa0 pn0 pc0) s37.2.2 f44) (K := (k_laws_markIntSS M w pa0 pn0 pc0 pf0)) ?_ FU (k, 0, a_) o41 _ _ ?_ hl42 ?_
 ·rintro s37 o41 a w38 ⟨σ, f43, rfl, hC, hO, hv43⟩ hs
  refine c_seq ?_
  refine c_seq (c_region ?_)
  refine pl_val (.int .i64 s37.2.1) (y_move rfl) ?_
  refine pl_val (.slice pa0 pn0 pc0) (y_move rfl) ?_
  refine pl_val (.int .i64 (s37.2.2.length : Int)) (y_len' Sl49 (os_len hv43) rfl) ?_
  refine pl_val (.bool (decide (s37.2.1 < (s37.2.2.length : Int)))) (y_lss rfl rfl) ?_
  refine c_nil ?_
  rcases bif_some hs with ⟨hc45, hs⟩ | ⟨hc45, hs⟩
  ·skip
   refine c_condT (congrArg Value.bool hc45) ?_
   refine wp_skip ?_
   refine c_seq ?_
   refine wp_block ?_
   refine c_region ?_
   refine pl_val (.slice pa0 pn0 pc0) (y_move rfl) ?_
   refine pl_val (.int .i64 s37.2.1) (y_move rfl) ?_
   obtain ⟨x46, hx46, hs⟩ := bind_some hs
   obtain ⟨g47, f47, hg47, hk47, hp47, ha47, hf47⟩ := os_idx Sl49 Sz25 hv43 hx46
   have hb47 := own_row (Frz.os Frz.int) ha47 hf47
   refine pl_val (.pointer (some ⟨g47, 0 + Int.toNat s37.2.1 * 1, none⟩)) (hp47 _ _ _ _ _ _ _ _ _ rfl rfl) ?_
   obtain ⟨v48, hl48, hrow48, hv48⟩ := at_load1 Ag25 Sz25 rfl rfl hb47
   obtain ⟨a48, n48, c48, rfl⟩ := rs_sl hv48
   refine pl_val (.slice a48 n48 c48) (y_load rfl (hl48 _ (Chg.refl _ _))) ?_
   refine pl_val (.int .i64 s37.1) (y_move rfl) ?_
   obtain ⟨fg50, hrr50, hsf50, hnf50, hput50⟩ := os_put hg47 hv43 hx46 hrow48 rfl hO.inM
   have hg50x0 : (RT.os 3 (RT.int .i64)).val M w38 (.slice a48 n48 c48) x46 fg50 := ⟨[_], rfl, hrr50⟩
   have hfs50 : ∀ q ∈ (fg50 ++ ([])), q ∈ f43 := fun q hq => hsf50 q (by simpa using hq)
   have hfn50 : List.Nodup (fg50 ++ ([])) := by simpa using hnf50
   have hL50 := hO
   have hI50 := Own.part (X := (fg50 ++ ([]))) (hL50) hfs50 hfn50
   obtain ⟨r51, hr51, hs⟩ := bind_some hs
   refine pl_call Bd53 rfl (c_laws_markIntS (M := M) x46 s37.1 hg50x0 hI50 hI50.fut hr51) ?_
   rintro _ w50 ⟨fi50x0, rfl, hC50, hvi50x0, hOc50⟩
   obtain ⟨fq50, hvq50, hsq50⟩ := hput50 w50 (fg50 ++ ([])) r51.2 fi50x0 hC50 (fun q hq => by simpa using hq) (os_unval hvi50x0) (by simpa using hOc50.1) (fun q hq => (hOc50.2.1 q (by simpa using hq)).2.2.imp (fun h => by simpa using h) id)
   have hC := hC.step hC50 (fun g hg => hO.inN g (hfs50 g hg))
   have hO := hO.grow hC50 hsq50 (os_nodup hvq50) hvq50.fpl
   refine pl_val (.int .i64 r51.1) (y_assign rfl) ?_
   refine c_nil ?_
   refine c_region ?_
   refine pl_val (.int .i64 s37.2.1) (y_move rfl) ?_
   refine pl_val (.int .i64 (w64 (s37.2.1 + 1))) (y_add rfl rfl) ?_
   refine pl_val (.int .i64 (w64 (s37.2.1 + 1))) (y_assign rfl) ?_
   refine c_nil ?_
   cases hs
   exact ⟨_, fq50, fr_ovl 19 ⟨rfl, rfl, rfl, trivial⟩, hC, hO, hvq50⟩
  ·skip
   refine c_condF (congrArg Value.bool hc45) ?_
   refine wp_exit ?_
   cases hs
   exact ⟨rfl, _, f43, fr_ovl 19 ⟨rfl, trivial⟩, hC, hO, hv43⟩
 ·skip
  exact ⟨_, pf0, fr_ovl 19 ⟨rfl, rfl, rfl, trivial⟩, hC, hO, h0⟩
 ·cases o41 with
  | nx _ => exact True.intro
  | rt r_ =>
   have hs := after_rt hs
   intro a1 w1 hK
   cases hs
   exact hK
  | br s37 =>
   have hs := after_br hs
   rintro a1 w38 ⟨σ, f44, rfl, hC, hO, hv44⟩
   refine c_seq (c_region ?_)
   refine pl_val (.int .i64 s37.1) (y_move rfl) ?_
   refine pl_val (.int .i64 s37.1) (y_assign rfl) ?_
   refine c_nil ?_
   refine wp_ret ?_
   cases hs
   exact ⟨_, f44, fr_ovl 19 ⟨rfl, trivial⟩, hC, hv44, hO.top⟩

theorem Bd49 : Bodied Try.prog 49 := bodied Try.func49 (by kernel_rfl) rfl

def k_laws_markRelationS (M : Nat → Prop) (w0 : World) (qa0 : Option Addr) (qn0 qc0 : Nat) (qf0 : List Nat) (r : Int × (List (Int × (List (List Int))))) (a : Act) (w : World) : Prop :=
  ∃ (σ : Nat → Value) (rfi0 : List Nat), a = fr 27 (ovl σ [(4, (.int .i64 r.1))]) ∧ Chg (qf0 ++ ([])) w0 w ∧ (RT.os 51 (RT.pr (RT.int .i64) (RT.os 25 (RT.os 3 (RT.int .i64))))).val M w (.slice qa0 qn0 qc0) r.2 rfi0 ∧ Own (Nw w0 (qf0 ++ ([]))) (fun _ => True) w (rfi0 ++ ([]))
def s_laws_markRelationS (a_ : List (Int × (List (List Int)))) (k : Int) : Option (Int × (List (Int × (List (List Int))))) :=
  (iter (S := Int × Int × (List (Int × (List (List Int))))) (R := Int × (List (Int × (List (List Int))))) (fun s57 =>
  (bif (decide (s57.2.1 < (s57.2.2.length : Int))) then (idx s57.2.2 s57.2.1).bind fun x67 =>
  (idx (List.set s57.2.2 (Int.toNat s57.2.1) (s57.1, x67.2)) s57.2.1).bind fun x71 =>
  (s_laws_markIntSS x71.2 (w64 (s57.1 + 1))).bind fun r77 =>
  some (.nx (r77.1, w64 (s57.2.1 + 1), List.set (List.set s57.2.2 (Int.toNat s57.2.1) (s57.1, x67.2)) (Int.toNat s57.2.1) (x71.1, r77.2))) else some (.br (s57.1, s57.2.1, s57.2.2)))) FU (k, 0, a_)).bind fun o61 => after o61 (fun r_ => some r_) (fun s57 =>
  some (s57.1, s57.2.2))
set_option maxHeartbeats 4000000 in
theorem c_laws_markRelationS {M : Nat → Prop} {w : World} {pa0 : Option Addr} {pn0 pc0 : Nat} {pf0 : List Nat} (a_ : List (Int × (List (List Int)))) (k : Int) (h0 : (RT.os 51 (RT.pr (RT.int .i64) (RT.os 25 (RT.os 3 (RT.int .i64))))).val M w (.slice pa0 pn0 pc0) a_ pf0) (hI : Own (Nw w (pf0 ++ ([]))) M w (pf0 ++ ([]))) (hM : ∀ g, w.heap.size ≤ g → M g) {r : Int × (List (Int × (List (List Int))))} (hs : s_laws_markRelationS a_ k = some r) :
    Gives Try.prog 22 [(.slice pa0 pn0 pc0), (.int .i64 k)] w (fun v w' => ∃ (rfi0 : List Nat), v = (.int .i64 r.1) ∧ Chg (pf0 ++ ([])) w w' ∧ (RT.os 51 (RT.pr (RT.int .i64) (RT.os 25 (RT.os 3 (RT.int .i64))))).val M w' (.slice pa0 pn0 pc0) r.2 rfi0 ∧ Own (Nw w (pf0 ++ ([]))) (fun _ => True) w' (rfi0 ++ ([]))) := by
 refine calls_fr Try.func22 rfl Try.ntmps22 (Nat.le_of_ble_eq_true rfl) ?_
 have hO := hI
 have hC := Chg.refl (pf0 ++ ([])) w
 unfold s_laws_markRelationS at hs
 refine wp_mono (Q := KPost (k_laws_markRelationS M w pa0 pn0 pc0 pf0 r)) ?_ (fun e a w1 h => ?_)
 rotate_left
 ·cases e
  case ret =>
   obtain ⟨σ, rfi0, rfl, hrest⟩ := h
   exact ret1x Try.results22 (res_tmp rfl) ⟨rfi0, rfl, hrest⟩
  all_goals exact (h : False).elim
 refine c_seq (c_region ?_)
 refine pl_val (.int .i64 0) (y_assign rfl) ?_
 refine c_nil ?_
 refine c_seq ?_
 refine c_seq (c_region ?_)
 refine pl_val (.int .i64 0) (y_assign rfl) ?_
 refine c_nil ?_
 obtain ⟨o61, hl62, hs⟩ := bind_some hs
 refine wp_block ?_
 refine wp_iter (id := 0) (I := fun s57 a w58 => ∃ (σ : Nat → Value) (f63 : List Nat), a = fr 27 (ovl σ [(0, (.slice pa0 pn0 pc0)), (1, (.int .i64 s57.1)), (5, (.int .i64 s57.2.1))]) ∧ Chg (pf0 ++ ([])) w w58 ∧ Own (Nw w (pf0 ++ ([]))) M w58 (f63 ++ []) ∧ (RT.os 51 (RT.pr (RT.int .i64) (RT.os 25 (RT.os 3 (RT.int .i64))))).val M w58 (.slice pa0 pn0 pc0) s57.2.2 f63) (J := fun s57 a w58 => ∃ (σ : Nat → Value) (f65 : List Nat), a = fr 27 (ovl σ [(1, (.int .i64 s57.1))]) ∧ Chg (pf0 ++ ([])) w w58 ∧ Own (Nw w (pf0 ++ ([]))) M w58 (f65 ++ []) ∧ (RT.os 51 (RT.pr (RT.int .i64) (RT.os 25 (RT.os 3 (RT.int .i64))))).val M w58 (.slice pa0 pn0 pc0) s57.2.2 f65) (K := (k_laws_markRelationS M w pa0 pn0 pc0 pf0)) ?_ FU (k, 0, a_) o61 _ _ ?_ hl62 ?_
 ·rintro s57 o61 a w58 ⟨σ, f63, rfl, hC, hO, hv63⟩ hs
  refine c_seq ?_
  refine c_seq (c_region ?_)
  refine pl_val (.int .i64 s57.2.1) (y_move rfl) ?_
  refine pl_val (.slice pa0 pn0 pc0) (y_move rfl) ?_
  refine pl_val (.int .i64 (s57.2.2.length : Int)) (y_len' Sl43 (os_len hv63) rfl) ?_
  refine pl_val (.bool (decide (s57.2.1 < (s57.2.2.length : Int)))) (y_lss rfl rfl) ?_
  refine c_nil ?_
  rcases bif_some hs with ⟨hc66, hs⟩ | ⟨hc66, hs⟩
  ·skip
   refine c_condT (congrArg Value.bool hc66) ?_
   refine wp_skip ?_
   refine c_seq ?_
   refine wp_block ?_
   refine c_seq (c_region ?_)
   refine pl_val (.slice pa0 pn0 pc0) (y_move rfl) ?_
   refine pl_val (.int .i64 s57.2.1) (y_move rfl) ?_
   refine pl_val (.int .i64 s57.1) (y_move rfl) ?_
   obtain ⟨x67, hx67, hs⟩ := bind_some hs
   obtain ⟨g68, f68, hg68, hk68, hp68, ha68, hf68⟩ := os_idx Sl43 Sz51 hv63 hx67
   have hb68 := own_row (Frz.pr Frz.int (Frz.os (Frz.os Frz.int))) ha68 hf68
   refine pl_val (.pointer (some ⟨g68, 0 + Int.toNat s57.2.1 * 2, none⟩)) (hp68 _ _ _ _ _ _ _ _ _ rfl rfl) ?_
   obtain ⟨hq69, _⟩ := pr_at hb68
   refine pl_val (.pointer (some ⟨g68, (0 + Int.toNat s57.2.1 * 2) + 0, none⟩)) (y_faddr rfl Fa51x0) ?_
   obtain ⟨L170, c70, L270, fq70, hL70, hc70, hbx70, hr70, hsf70, hnf70, hgi70, hgn70, hput70⟩ := os_focus hg68 hv63 hx67 hO.inM
   obtain ⟨c70x1, d70x1, f70x1, k70x1, rfl, rfl, hl70x1, ht70x1⟩ := hr70
   obtain ⟨rfl, rfl⟩ := hl70x1
   have hn70x1 := RT.len _ ht70x1
   obtain ⟨w70, hst70, hC70, hb70⟩ := box_store (P := Try.prog) hbx70 (L170) [(Value.int .i64 x67.1)] (d70x1 ++ (L270)) [(Value.int .i64 s57.1)] (by simp) rfl (by intro u hu; rw [List.mem_singleton.1 hu]; rfl)
   have hA70 : (L170).length = ((0 + Int.toNat s57.2.1 * 2) + 0) := by
    simp only [List.length_append, hL70]
    try rfl
   rw [hA70] at hst70
   have hGM70 : ∀ q ∈ [g68], M q ∨ (w58).heap.size ≤ q := fun q hq => .inl (by rw [List.mem_singleton.1 hq]; exact hO.inM _ hgi70)
   obtain ⟨fz70, hv70, hf70⟩ := hput70 w70 [g68] ([(Value.int .i64 s57.1)] ++ d70x1) (s57.1, x67.2) (([] : List Nat) ++ k70x1) hC70 (fun q hq => .inl (List.mem_singleton.1 hq)) (by simpa using hb70) ⟨_, _, _, _, rfl, rfl, ⟨rfl, rfl⟩, (RT.mono _ ht70x1 hC70 hGM70 (fun q hq hq' => hgn70 (by rw [List.mem_singleton.1 hq] at hq'; simp [hq'])) (fun _ h => .inl h))⟩ hnf70 (fun q hq => .inl hq)
   refine pl_skip (w' := w70) (ys_store rfl rfl (hst70 _ _ rfl Sz3)) ?_
   have hG70 : ∀ q ∈ [g68], q ∈ f63 := fun q hq => by rw [List.mem_singleton.1 hq]; exact hgi70
   have hC := hC.step hC70 (fun g hg => hO.inN g (hG70 g hg))
   have hO := hO.grow hC70 hf70 (os_nodup hv70) hv70.fpl
   refine c_nil ?_
   refine c_seq (c_region ?_)
   refine pl_val (.int .i64 s57.1) (y_move rfl) ?_
   refine pl_val (.int .i64 (w64 (s57.1 + 1))) (y_add rfl rfl) ?_
   refine pl_val (.int .i64 (w64 (s57.1 + 1))) (y_assign rfl) ?_
   refine c_nil ?_
   refine c_region ?_
   refine pl_val (.slice pa0 pn0 pc0) (y_move rfl) ?_
   refine pl_val (.int .i64 s57.2.1) (y_move rfl) ?_
   obtain ⟨x71, hx71, hs⟩ := bind_some hs
   obtain ⟨g72, f72, hg72, hk72, hp72, ha72, hf72⟩ := os_idx Sl43 Sz51 hv70 hx71
   have hb72 := own_row (Frz.pr Frz.int (Frz.os (Frz.os Frz.int))) ha72 hf72
   refine pl_val (.pointer (some ⟨g72, 0 + Int.toNat s57.2.1 * 2, none⟩)) (hp72 _ _ _ _ _ _ _ _ _ rfl rfl) ?_
   obtain ⟨_, hq73x0⟩ := pr_at hb72
   refine pl_val (.pointer (some ⟨g72, (0 + Int.toNat s57.2.1 * 2) + 1, none⟩)) (y_faddr rfl Fa51x1) ?_
   obtain ⟨cs74, hrow74, hr74⟩ := at_open hb72
   obtain ⟨cc74x1, cd74x1, rfl, hh74x1, ht74x1⟩ := pr_open hr74
   obtain rfl := int_rel hh74x1
   obtain ⟨a74x2, n74x2, c74x2, rfl, hv74x2⟩ := rs_rel ht74x1
   refine pl_val (.slice a74x2 n74x2 c74x2) (y_load rfl ((part_load (l1 := [(.int .i64 x71.1)]) (c := [(.slice a74x2 n74x2 c74x2)]) (l2 := []) Ag49 Sz49 hrow74 rfl rfl (fun _ => rfl)) _ (Chg.refl _ _))) ?_
   refine pl_val (.int .i64 (w64 (s57.1 + 1))) (y_move rfl) ?_
   obtain ⟨fg76, hrr76, hsf76, hnf76, hput76⟩ := os_put hg72 hv70 hx71 hrow74 rfl hO.inM
   obtain ⟨fa76x1, fb76x1, rfl, hp76x1, hq76x1⟩ := pr_split (c := [(.int .i64 x71.1)]) (d := [(.slice a74x2 n74x2 c74x2)]) hrr76 rfl
   obtain rfl := int_fp hp76x1
   have hg76x0 : (RT.os 25 (RT.os 3 (RT.int .i64))).val M w70 (.slice a74x2 n74x2 c74x2) x71.2 fb76x1 := ⟨[_], rfl, hq76x1⟩
   have hfs76 : ∀ q ∈ (fb76x1 ++ ([])), q ∈ fz70 := fun q hq => hsf76 q (by simpa using hq)
   have hfn76 : List.Nodup (fb76x1 ++ ([])) := by simpa using hnf76
   have hL76 := hO
   have hI76 := Own.part (X := (fb76x1 ++ ([]))) (hL76) hfs76 hfn76
   obtain ⟨r77, hr77, hs⟩ := bind_some hs
   refine pl_call Bd49 rfl (c_laws_markIntSS (M := M) x71.2 (w64 (s57.1 + 1)) hg76x0 hI76 hI76.fut hr77) ?_
   rintro _ w76 ⟨fi76x0, rfl, hC76, hvi76x0, hOc76⟩
   obtain ⟨fq76, hvq76, hsq76⟩ := hput76 w76 (fb76x1 ++ ([])) (x71.1, r77.2) (([] : List Nat) ++ fi76x0) hC76 (fun q hq => by simpa using hq) ⟨_, _, _, _, rfl, rfl, ⟨rfl, rfl⟩, (os_unval hvi76x0)⟩ (by simpa using hOc76.1) (fun q hq => (hOc76.2.1 q (by simpa using hq)).2.2.imp (fun h => by simpa using h) id)
   have hC := hC.step hC76 (fun g hg => hO.inN g (hfs76 g hg))
   have hO := hO.grow hC76 hsq76 (os_nodup hvq76) hvq76.fpl
   refine pl_val (.int .i64 r77.1) (y_assign rfl) ?_
   refine c_nil ?_
   refine c_region ?_
   refine pl_val (.int .i64 s57.2.1) (y_move rfl) ?_
   refine pl_val (.int .i64 (w64 (s57.2.1 + 1))) (y_add rfl rfl) ?_
   refine pl_val (.int .i64 (w64 (s57.2.1 + 1))) (y_assign rfl) ?_
   refine c_nil ?_
   cases hs
   exact ⟨_, fq76, fr_ovl 27 ⟨rfl, rfl, rfl, trivial⟩, hC, hO, hvq76⟩
  ·skip
   refine c_condF (congrArg Value.bool hc66) ?_
   refine wp_exit ?_
   cases hs
   exact ⟨rfl, _, f63, fr_ovl 27 ⟨rfl, trivial⟩, hC, hO, hv63⟩
 ·skip
  exact ⟨_, pf0, fr_ovl 27 ⟨rfl, rfl, rfl, trivial⟩, hC, hO, h0⟩
 ·cases o61 with
  | nx _ => exact True.intro
  | rt r_ =>
   have hs := after_rt hs
   intro a1 w1 hK
   cases hs
   exact hK
  | br s57 =>
   have hs := after_br hs
   rintro a1 w58 ⟨σ, f65, rfl, hC, hO, hv65⟩
   refine c_seq (c_region ?_)
   refine pl_val (.int .i64 s57.1) (y_move rfl) ?_
   refine pl_val (.int .i64 s57.1) (y_assign rfl) ?_
   refine c_nil ?_
   refine wp_ret ?_
   cases hs
   exact ⟨_, f65, fr_ovl 27 ⟨rfl, trivial⟩, hC, hv65, hO.top⟩

def k_laws_heldIntS (M : Nat → Prop) (w0 : World) (r : Int) (a : Act) (w : World) : Prop :=
  ∃ (σ : Nat → Value) , a = fr 21 (ovl σ [(4, (.int .i64 r))]) ∧ Chg [] w0 w
def s_laws_heldIntS (a_ : List Int) (k : Int) : Option (Int) :=
  (forC (S := Int) (R := Int) (fun k7 s5 =>
  (idx a_ k7).bind fun x11 =>
  (bif (x11 != s5) then some (.rt (-1)) else some (.nx (w64 (s5 + 1))))) 0 (a_.length : Int) k).bind fun o9 => after o9 (fun r_ => some r_) (fun s5 =>
  some s5)
set_option maxHeartbeats 4000000 in
theorem c_laws_heldIntS {M : Nat → Prop} {w : World} {pa0 : Option Addr} {pn0 pc0 : Nat} (a_ : List Int) (k : Int) (h0 : (RT.rs (RT.int .i64)).val M w (.slice pa0 pn0 pc0) a_ ([])) (hM : ∀ g, w.heap.size ≤ g → M g) {r : Int} (hs : s_laws_heldIntS a_ k = some r) :
    Gives Try.prog 66 [(.slice pa0 pn0 pc0), (.int .i64 k)] w (fun v w' => v = (.int .i64 r) ∧ Chg [] w w') := by
 refine calls_fr Try.func66 rfl Try.ntmps66 (Nat.le_of_ble_eq_true rfl) ?_
 have hO := Own.start (N := Nw w []) hM Nw.fut
 have hC := Chg.refl [] w
 unfold s_laws_heldIntS at hs
 refine wp_mono (Q := KPost (k_laws_heldIntS M w r)) ?_ (fun e a w1 h => ?_)
 rotate_left
 ·cases e
  case ret =>
   obtain ⟨σ, rfl, hrest⟩ := h
   exact ret1x Try.results66 (res_tmp rfl) ⟨rfl, hrest⟩
  all_goals exact (h : False).elim
 refine c_seq (c_region ?_)
 refine pl_val (.int .i64 0) (y_assign rfl) ?_
 refine c_nil ?_
 refine c_seq ?_
 refine c_seq (c_region ?_)
 refine pl_val (.int .i64 0) (y_assign rfl) ?_
 refine c_nil ?_
 obtain ⟨o9, hl10, hs⟩ := bind_some hs
 refine wp_block ?_
 refine wp_forC (id := 0) (a_.length : Int) (I := fun k7 s5 a w6 => ∃ (σ : Nat → Value), a = fr 21 (ovl σ [(0, (.slice pa0 pn0 pc0)), (1, (.int .i64 s5)), (5, (.int .i64 k7))]) ∧ Chg [] w w6 ∧ Own (Nw w []) M w6 ([]) ∧ (RT.rs (RT.int .i64)).val M w6 (.slice pa0 pn0 pc0) a_ ([])) (J := fun s5 a w6 => ∃ (σ : Nat → Value), a = fr 21 (ovl σ [(1, (.int .i64 s5))]) ∧ Chg [] w w6 ∧ Own (Nw w []) M w6 ([]) ∧ (RT.rs (RT.int .i64)).val M w6 (.slice pa0 pn0 pc0) a_ ([])) (K := (k_laws_heldIntS M w)) ?_ ?_ 0 k o9 _ _ ?_ hl10 ?_
 ·rintro k7 s5 a w6 ⟨σ, rfl, hC, hO, h0⟩ hlt
  refine c_seq ?_
  refine c_seq (c_region ?_)
  refine pl_val (.int .i64 k7) (y_move rfl) ?_
  refine pl_val (.slice pa0 pn0 pc0) (y_move rfl) ?_
  refine pl_val (.int .i64 (a_.length : Int)) (y_len' Sl25 (rs_len h0) rfl) ?_
  refine pl_val (.bool (decide (k7 < (a_.length : Int)))) (y_lss rfl rfl) ?_
  refine c_nil ?_
  refine c_condF (congrArg Value.bool (decide_eq_false hlt)) ?_
  refine wp_exit ?_
  exact ⟨rfl, _, fr_ovl 21 ⟨rfl, trivial⟩, hC, hO, h0⟩
 ·rintro k7 s5 o9 a w6 ⟨σ, rfl, hC, hO, h0⟩ hlt hw hs
  refine c_seq ?_
  refine c_seq (c_region ?_)
  refine pl_val (.int .i64 k7) (y_move rfl) ?_
  refine pl_val (.slice pa0 pn0 pc0) (y_move rfl) ?_
  refine pl_val (.int .i64 (a_.length : Int)) (y_len' Sl25 (rs_len h0) rfl) ?_
  refine pl_val (.bool (decide (k7 < (a_.length : Int)))) (y_lss rfl rfl) ?_
  refine c_nil ?_
  refine c_condT (congrArg Value.bool (decide_eq_true hlt)) ?_
  refine wp_skip ?_
  refine c_seq ?_
  refine wp_block ?_
  refine c_seq ?_
  refine c_seq (c_region ?_)
  refine pl_val (.slice pa0 pn0 pc0) (y_move rfl) ?_
  refine pl_val (.int .i64 k7) (y_move rfl) ?_
  obtain ⟨x11, hx11, hs⟩ := bind_some hs
  obtain ⟨b12, o12, hp12, ha12⟩ := rs_idx Sl25 Sz3 h0 hx11
  refine pl_val (.pointer (some ⟨b12, o12, none⟩)) (hp12 _ _ _ _ _ _ _ _ _ rfl rfl) ?_
  refine pl_val (.int .i64 x11) (y_load rfl ((at_load_int Ag3 Sz3 ha12) _ (Chg.refl _ _))) ?_
  refine pl_val (.int .i64 s5) (y_move rfl) ?_
  refine pl_val (.bool (x11 != s5)) (y_neq rfl rfl) ?_
  refine c_nil ?_
  rcases bif_some hs with ⟨hc13, hs⟩ | ⟨hc13, hs⟩
  ·skip
   refine c_condT (congrArg Value.bool hc13) ?_
   refine c_seq (c_region ?_)
   refine pl_val (.int .i64 (-1)) (y_assign rfl) ?_
   refine c_nil ?_
   refine wp_ret ?_
   cases hs
   exact ⟨_, fr_ovl 21 ⟨rfl, trivial⟩, hC⟩
  ·skip
   refine c_condF (congrArg Value.bool hc13) ?_
   refine wp_skip ?_
   refine c_region ?_
   refine pl_val (.int .i64 s5) (y_move rfl) ?_
   refine pl_val (.int .i64 (w64 (s5 + 1))) (y_add rfl rfl) ?_
   refine pl_val (.int .i64 (w64 (s5 + 1))) (y_assign rfl) ?_
   refine c_nil ?_
   refine c_region ?_
   refine pl_val (.int .i64 k7) (y_move rfl) ?_
   refine pl_val (.int .i64 (w64 (k7 + 1))) (y_add rfl rfl) ?_
   refine pl_val (.int .i64 (w64 (k7 + 1))) (y_assign rfl) ?_
   refine c_nil ?_
   cases hs
   exact ⟨_, fr_ovl 21 ⟨rfl, rfl, congrArg (Value.int .i64) hw, trivial⟩, hC, hO, h0⟩
 ·skip
  exact ⟨_, fr_ovl 21 ⟨rfl, rfl, rfl, trivial⟩, hC, hO, h0⟩
 ·cases o9 with
  | nx _ => exact True.intro
  | rt r_ =>
   have hs := after_rt hs
   intro a1 w1 hK
   cases hs
   exact hK
  | br s5 =>
   have hs := after_br hs
   rintro a1 w6 ⟨σ, rfl, hC, hO, h0⟩
   refine c_seq (c_region ?_)
   refine pl_val (.int .i64 s5) (y_move rfl) ?_
   refine pl_val (.int .i64 s5) (y_assign rfl) ?_
   refine c_nil ?_
   refine wp_ret ?_
   cases hs
   exact ⟨_, fr_ovl 21 ⟨rfl, trivial⟩, hC⟩

theorem Bd66 : Bodied Try.prog 66 := bodied Try.func66 (by kernel_rfl) rfl

def k_laws_heldIntSS (M : Nat → Prop) (w0 : World) (r : Int) (a : Act) (w : World) : Prop :=
  ∃ (σ : Nat → Value) , a = fr 21 (ovl σ [(4, (.int .i64 r))]) ∧ Chg [] w0 w
def s_laws_heldIntSS (a_ : List (List Int)) (k : Int) : Option (Int) :=
  (forC (S := Int) (R := Int) (fun k11 s9 =>
  (idx a_ k11).bind fun x15 =>
  (s_laws_heldIntS x15 s9).bind fun r20 =>
  (bif (decide (r20 < 0)) then some (.rt (-1)) else some (.nx r20))) 0 (a_.length : Int) k).bind fun o13 => after o13 (fun r_ => some r_) (fun s9 =>
  some s9)
set_option maxHeartbeats 4000000 in
theorem c_laws_heldIntSS {M : Nat → Prop} {w : World} {pa0 : Option Addr} {pn0 pc0 : Nat} (a_ : List (List Int)) (k : Int) (h0 : (RT.rs (RT.rs (RT.int .i64))).val M w (.slice pa0 pn0 pc0) a_ ([])) (hM : ∀ g, w.heap.size ≤ g → M g) {r : Int} (hs : s_laws_heldIntSS a_ k = some r) :
    Gives Try.prog 50 [(.slice pa0 pn0 pc0), (.int .i64 k)] w (fun v w' => v = (.int .i64 r) ∧ Chg [] w w') := by
 refine calls_fr Try.func50 rfl Try.ntmps50 (Nat.le_of_ble_eq_true rfl) ?_
 have hO := Own.start (N := Nw w []) hM Nw.fut
 have hC := Chg.refl [] w
 unfold s_laws_heldIntSS at hs
 refine wp_mono (Q := KPost (k_laws_heldIntSS M w r)) ?_ (fun e a w1 h => ?_)
 rotate_left
 ·cases e
  case ret =>
   obtain ⟨σ, rfl, hrest⟩ := h
   exact ret1x Try.results50 (res_tmp rfl) ⟨rfl, hrest⟩
  all_goals exact (h : False).elim
 refine c_seq (c_region ?_)
 refine pl_val (.int .i64 0) (y_assign rfl) ?_
 refine c_nil ?_
 refine c_seq ?_
 refine c_seq (c_region ?_)
 refine pl_val (.int .i64 0) (y_assign rfl) ?_
 refine c_nil ?_
 obtain ⟨o13, hl14, hs⟩ := bind_some hs
 refine wp_block ?_
 refine wp_forC (id := 0) (a_.length : Int) (I := fun k11 s9 a w10 => ∃ (σ : Nat → Value), a = fr 21 (ovl σ [(0, (.slice pa0 pn0 pc0)), (1, (.int .i64 s9)), (5, (.int .i64 k11))]) ∧ Chg [] w w10 ∧ Own (Nw w []) M w10 ([]) ∧ (RT.rs (RT.rs (RT.int .i64))).val M w10 (.slice pa0 pn0 pc0) a_ ([])) (J := fun s9 a w10 => ∃ (σ : Nat → Value), a = fr 21 (ovl σ [(1, (.int .i64 s9))]) ∧ Chg [] w w10 ∧ Own (Nw w []) M w10 ([]) ∧ (RT.rs (RT.rs (RT.int .i64))).val M w10 (.slice pa0 pn0 pc0) a_ ([])) (K := (k_laws_heldIntSS M w)) ?_ ?_ 0 k o13 _ _ ?_ hl14 ?_
 ·rintro k11 s9 a w10 ⟨σ, rfl, hC, hO, h0⟩ hlt
  refine c_seq ?_
  refine c_seq (c_region ?_)
  refine pl_val (.int .i64 k11) (y_move rfl) ?_
  refine pl_val (.slice pa0 pn0 pc0) (y_move rfl) ?_
  refine pl_val (.int .i64 (a_.length : Int)) (y_len' Sl49 (rs_len h0) rfl) ?_
  refine pl_val (.bool (decide (k11 < (a_.length : Int)))) (y_lss rfl rfl) ?_
  refine c_nil ?_
  refine c_condF (congrArg Value.bool (decide_eq_false hlt)) ?_
  refine wp_exit ?_
  exact ⟨rfl, _, fr_ovl 21 ⟨rfl, trivial⟩, hC, hO, h0⟩
 ·rintro k11 s9 o13 a w10 ⟨σ, rfl, hC, hO, h0⟩ hlt hw hs
  refine c_seq ?_
  refine c_seq (c_region ?_)
  refine pl_val (.int .i64 k11) (y_move rfl) ?_
  refine pl_val (.slice pa0 pn0 pc0) (y_move rfl) ?_
  refine pl_val (.int .i64 (a_.length : Int)) (y_len' Sl49 (rs_len h0) rfl) ?_
  refine pl_val (.bool (decide (k11 < (a_.length : Int)))) (y_lss rfl rfl) ?_
  refine c_nil ?_
  refine c_condT (congrArg Value.bool (decide_eq_true hlt)) ?_
  refine wp_skip ?_
  refine c_seq ?_
  refine wp_block ?_
  refine c_seq (c_region ?_)
  refine pl_val (.slice pa0 pn0 pc0) (y_move rfl) ?_
  refine pl_val (.int .i64 k11) (y_move rfl) ?_
  obtain ⟨x15, hx15, hs⟩ := bind_some hs
  obtain ⟨b16, o16, hp16, ha16⟩ := rs_idx Sl49 Sz25 h0 hx15
  refine pl_val (.pointer (some ⟨b16, o16, none⟩)) (hp16 _ _ _ _ _ _ _ _ _ rfl rfl) ?_
  obtain ⟨v17, hl17, hv17⟩ := at_load Ag25 Sz25 (fun _ => rfl) ha16
  obtain ⟨a17, n17, c17, rfl⟩ := rs_sl hv17
  refine pl_val (.slice a17 n17 c17) (y_load rfl (hl17 _ (Chg.refl _ _))) ?_
  refine pl_val (.int .i64 s9) (y_move rfl) ?_
  obtain ⟨r20, hr20, hs⟩ := bind_some hs
  refine pl_call Bd66 rfl (c_laws_heldIntS (M := M) x15 s9 hv17 hO.fut hr20) ?_
  rintro _ w19 ⟨rfl, hC19⟩
  have h0 := h0.ext hC19
  have hv17 := hv17.ext hC19
  have hC := hC.ext hC19
  have hO := hO.ext hC19
  refine pl_val (.int .i64 r20) (y_assign rfl) ?_
  refine c_nil ?_
  refine c_seq (c_region ?_)
  refine pl_val (.int .i64 r20) (y_move rfl) ?_
  refine pl_val (.bool (decide (r20 < 0))) (y_lss rfl rfl) ?_
  refine c_nil ?_
  rcases bif_some hs with ⟨hc21, hs⟩ | ⟨hc21, hs⟩
  ·skip
   refine c_condT (congrArg Value.bool hc21) ?_
   refine c_seq (c_region ?_)
   refine pl_val (.int .i64 (-1)) (y_assign rfl) ?_
   refine c_nil ?_
   refine wp_ret ?_
   cases hs
   exact ⟨_, fr_ovl 21 ⟨rfl, trivial⟩, hC⟩
  ·skip
   refine c_condF (congrArg Value.bool hc21) ?_
   refine wp_skip ?_
   refine c_region ?_
   refine pl_val (.int .i64 k11) (y_move rfl) ?_
   refine pl_val (.int .i64 (w64 (k11 + 1))) (y_add rfl rfl) ?_
   refine pl_val (.int .i64 (w64 (k11 + 1))) (y_assign rfl) ?_
   refine c_nil ?_
   cases hs
   exact ⟨_, fr_ovl 21 ⟨rfl, rfl, congrArg (Value.int .i64) hw, trivial⟩, hC, hO, h0⟩
 ·skip
  exact ⟨_, fr_ovl 21 ⟨rfl, rfl, rfl, trivial⟩, hC, hO, h0⟩
 ·cases o13 with
  | nx _ => exact True.intro
  | rt r_ =>
   have hs := after_rt hs
   intro a1 w1 hK
   cases hs
   exact hK
  | br s9 =>
   have hs := after_br hs
   rintro a1 w10 ⟨σ, rfl, hC, hO, h0⟩
   refine c_seq (c_region ?_)
   refine pl_val (.int .i64 s9) (y_move rfl) ?_
   refine pl_val (.int .i64 s9) (y_assign rfl) ?_
   refine c_nil ?_
   refine wp_ret ?_
   cases hs
   exact ⟨_, fr_ovl 21 ⟨rfl, trivial⟩, hC⟩

theorem Bd50 : Bodied Try.prog 50 := bodied Try.func50 (by kernel_rfl) rfl

def k_laws_heldRelationS (M : Nat → Prop) (w0 : World) (r : Int) (a : Act) (w : World) : Prop :=
  ∃ (σ : Nat → Value) , a = fr 31 (ovl σ [(4, (.int .i64 r))]) ∧ Chg [] w0 w
def s_laws_heldRelationS (a_ : List (Int × (List (List Int)))) (k : Int) : Option (Int) :=
  (forC (S := Int) (R := Int) (fun k16 s14 =>
  (idx a_ k16).bind fun x20 =>
  (bif (x20.1 != s14) then some (.rt (-1)) else (idx a_ k16).bind fun x24 =>
  (s_laws_heldIntSS x24.2 (w64 (s14 + 1))).bind fun r30 =>
  (bif (decide (r30 < 0)) then some (.rt (-1)) else some (.nx r30)))) 0 (a_.length : Int) k).bind fun o18 => after o18 (fun r_ => some r_) (fun s14 =>
  some s14)
set_option maxHeartbeats 4000000 in
theorem c_laws_heldRelationS {M : Nat → Prop} {w : World} {pa0 : Option Addr} {pn0 pc0 : Nat} (a_ : List (Int × (List (List Int)))) (k : Int) (h0 : (RT.rs (RT.pr (RT.int .i64) (RT.rs (RT.rs (RT.int .i64))))).val M w (.slice pa0 pn0 pc0) a_ ([])) (hM : ∀ g, w.heap.size ≤ g → M g) {r : Int} (hs : s_laws_heldRelationS a_ k = some r) :
    Gives Try.prog 23 [(.slice pa0 pn0 pc0), (.int .i64 k)] w (fun v w' => v = (.int .i64 r) ∧ Chg [] w w') := by
 refine calls_fr Try.func23 rfl Try.ntmps23 (Nat.le_of_ble_eq_true rfl) ?_
 have hO := Own.start (N := Nw w []) hM Nw.fut
 have hC := Chg.refl [] w
 unfold s_laws_heldRelationS at hs
 refine wp_mono (Q := KPost (k_laws_heldRelationS M w r)) ?_ (fun e a w1 h => ?_)
 rotate_left
 ·cases e
  case ret =>
   obtain ⟨σ, rfl, hrest⟩ := h
   exact ret1x Try.results23 (res_tmp rfl) ⟨rfl, hrest⟩
  all_goals exact (h : False).elim
 refine c_seq (c_region ?_)
 refine pl_val (.int .i64 0) (y_assign rfl) ?_
 refine c_nil ?_
 refine c_seq ?_
 refine c_seq (c_region ?_)
 refine pl_val (.int .i64 0) (y_assign rfl) ?_
 refine c_nil ?_
 obtain ⟨o18, hl19, hs⟩ := bind_some hs
 refine wp_block ?_
 refine wp_forC (id := 0) (a_.length : Int) (I := fun k16 s14 a w15 => ∃ (σ : Nat → Value), a = fr 31 (ovl σ [(0, (.slice pa0 pn0 pc0)), (1, (.int .i64 s14)), (5, (.int .i64 k16))]) ∧ Chg [] w w15 ∧ Own (Nw w []) M w15 ([]) ∧ (RT.rs (RT.pr (RT.int .i64) (RT.rs (RT.rs (RT.int .i64))))).val M w15 (.slice pa0 pn0 pc0) a_ ([])) (J := fun s14 a w15 => ∃ (σ : Nat → Value), a = fr 31 (ovl σ [(1, (.int .i64 s14))]) ∧ Chg [] w w15 ∧ Own (Nw w []) M w15 ([]) ∧ (RT.rs (RT.pr (RT.int .i64) (RT.rs (RT.rs (RT.int .i64))))).val M w15 (.slice pa0 pn0 pc0) a_ ([])) (K := (k_laws_heldRelationS M w)) ?_ ?_ 0 k o18 _ _ ?_ hl19 ?_
 ·rintro k16 s14 a w15 ⟨σ, rfl, hC, hO, h0⟩ hlt
  refine c_seq ?_
  refine c_seq (c_region ?_)
  refine pl_val (.int .i64 k16) (y_move rfl) ?_
  refine pl_val (.slice pa0 pn0 pc0) (y_move rfl) ?_
  refine pl_val (.int .i64 (a_.length : Int)) (y_len' Sl43 (rs_len h0) rfl) ?_
  refine pl_val (.bool (decide (k16 < (a_.length : Int)))) (y_lss rfl rfl) ?_
  refine c_nil ?_
  refine c_condF (congrArg Value.bool (decide_eq_false hlt)) ?_
  refine wp_exit ?_
  exact ⟨rfl, _, fr_ovl 31 ⟨rfl, trivial⟩, hC, hO, h0⟩
 ·rintro k16 s14 o18 a w15 ⟨σ, rfl, hC, hO, h0⟩ hlt hw hs
  refine c_seq ?_
  refine c_seq (c_region ?_)
  refine pl_val (.int .i64 k16) (y_move rfl) ?_
  refine pl_val (.slice pa0 pn0 pc0) (y_move rfl) ?_
  refine pl_val (.int .i64 (a_.length : Int)) (y_len' Sl43 (rs_len h0) rfl) ?_
  refine pl_val (.bool (decide (k16 < (a_.length : Int)))) (y_lss rfl rfl) ?_
  refine c_nil ?_
  refine c_condT (congrArg Value.bool (decide_eq_true hlt)) ?_
  refine wp_skip ?_
  refine c_seq ?_
  refine wp_block ?_
  refine c_seq ?_
  refine c_seq (c_region ?_)
  refine pl_val (.slice pa0 pn0 pc0) (y_move rfl) ?_
  refine pl_val (.int .i64 k16) (y_move rfl) ?_
  obtain ⟨x20, hx20, hs⟩ := bind_some hs
  obtain ⟨b21, o21, hp21, ha21⟩ := rs_idx Sl43 Sz51 h0 hx20
  refine pl_val (.pointer (some ⟨b21, o21, none⟩)) (hp21 _ _ _ _ _ _ _ _ _ rfl rfl) ?_
  obtain ⟨hq22, _⟩ := pr_at ha21
  refine pl_val (.pointer (some ⟨b21, o21 + 0, none⟩)) (y_faddr rfl Fa51x0) ?_
  refine pl_val (.int .i64 x20.1) (y_load rfl ((at_load_int Ag3 Sz3 hq22) _ (Chg.refl _ _))) ?_
  refine pl_val (.int .i64 s14) (y_move rfl) ?_
  refine pl_val (.bool (x20.1 != s14)) (y_neq rfl rfl) ?_
  refine c_nil ?_
  rcases bif_some hs with ⟨hc23, hs⟩ | ⟨hc23, hs⟩
  ·skip
   refine c_condT (congrArg Value.bool hc23) ?_
   refine c_seq (c_region ?_)
   refine pl_val (.int .i64 (-1)) (y_assign rfl) ?_
   refine c_nil ?_
   refine wp_ret ?_
   cases hs
   exact ⟨_, fr_ovl 31 ⟨rfl, trivial⟩, hC⟩
  ·skip
   refine c_condF (congrArg Value.bool hc23) ?_
   refine wp_skip ?_
   refine c_seq (c_region ?_)
   refine pl_val (.int .i64 s14) (y_move rfl) ?_
   refine pl_val (.int .i64 (w64 (s14 + 1))) (y_add rfl rfl) ?_
   refine pl_val (.int .i64 (w64 (s14 + 1))) (y_assign rfl) ?_
   refine c_nil ?_
   refine c_seq (c_region ?_)
   refine pl_val (.slice pa0 pn0 pc0) (y_move rfl) ?_
   refine pl_val (.int .i64 k16) (y_move rfl) ?_
   obtain ⟨x24, hx24, hs⟩ := bind_some hs
   obtain ⟨b25, o25, hp25, ha25⟩ := rs_idx Sl43 Sz51 h0 hx24
   refine pl_val (.pointer (some ⟨b25, o25, none⟩)) (hp25 _ _ _ _ _ _ _ _ _ rfl rfl) ?_
   obtain ⟨_, hq26x0⟩ := pr_at ha25
   refine pl_val (.pointer (some ⟨b25, o25 + 1, none⟩)) (y_faddr rfl Fa51x1) ?_
   obtain ⟨v27, hl27, hv27⟩ := at_load Ag49 Sz49 (fun _ => rfl) hq26x0
   obtain ⟨a27, n27, c27, rfl⟩ := rs_sl hv27
   refine pl_val (.slice a27 n27 c27) (y_load rfl (hl27 _ (Chg.refl _ _))) ?_
   refine pl_val (.int .i64 (w64 (s14 + 1))) (y_move rfl) ?_
   obtain ⟨r30, hr30, hs⟩ := bind_some hs
   refine pl_call Bd50 rfl (c_laws_heldIntSS (M := M) x24.2 (w64 (s14 + 1)) hv27 hO.fut hr30) ?_
   rintro _ w29 ⟨rfl, hC29⟩
   have h0 := h0.ext hC29
   have hv27 := hv27.ext hC29
   have hC := hC.ext hC29
   have hO := hO.ext hC29
   refine pl_val (.int .i64 r30) (y_assign rfl) ?_
   refine c_nil ?_
   refine c_seq (c_region ?_)
   refine pl_val (.int .i64 r30) (y_move rfl) ?_
   refine pl_val (.bool (decide (r30 < 0))) (y_lss rfl rfl) ?_
   refine c_nil ?_
   rcases bif_some hs with ⟨hc31, hs⟩ | ⟨hc31, hs⟩
   ·skip
    refine c_condT (congrArg Value.bool hc31) ?_
    refine c_seq (c_region ?_)
    refine pl_val (.int .i64 (-1)) (y_assign rfl) ?_
    refine c_nil ?_
    refine wp_ret ?_
    cases hs
    exact ⟨_, fr_ovl 31 ⟨rfl, trivial⟩, hC⟩
   ·skip
    refine c_condF (congrArg Value.bool hc31) ?_
    refine wp_skip ?_
    refine c_region ?_
    refine pl_val (.int .i64 k16) (y_move rfl) ?_
    refine pl_val (.int .i64 (w64 (k16 + 1))) (y_add rfl rfl) ?_
    refine pl_val (.int .i64 (w64 (k16 + 1))) (y_assign rfl) ?_
    refine c_nil ?_
    cases hs
    exact ⟨_, fr_ovl 31 ⟨rfl, rfl, congrArg (Value.int .i64) hw, trivial⟩, hC, hO, h0⟩
 ·skip
  exact ⟨_, fr_ovl 31 ⟨rfl, rfl, rfl, trivial⟩, hC, hO, h0⟩
 ·cases o18 with
  | nx _ => exact True.intro
  | rt r_ =>
   have hs := after_rt hs
   intro a1 w1 hK
   cases hs
   exact hK
  | br s14 =>
   have hs := after_br hs
   rintro a1 w15 ⟨σ, rfl, hC, hO, h0⟩
   refine c_seq (c_region ?_)
   refine pl_val (.int .i64 s14) (y_move rfl) ?_
   refine pl_val (.int .i64 s14) (y_assign rfl) ?_
   refine c_nil ?_
   refine wp_ret ?_
   cases hs
   exact ⟨_, fr_ovl 31 ⟨rfl, trivial⟩, hC⟩

theorem Ag24 : AggT Try.prog 24 true := fun _ => by kernel_rfl

theorem Sz24 : SzT Try.prog 24 2 := ⟨_, rfl, rfl⟩

theorem Bd8 : Bodied Try.prog 8 := bodied Try.func8 (by kernel_rfl) rfl

theorem Bd11 : Bodied Try.prog 11 := bodied Try.func11 (by kernel_rfl) rfl

theorem Bd18 : Bodied Try.prog 18 := bodied Try.func18 (by kernel_rfl) rfl

theorem Bd19 : Bodied Try.prog 19 := bodied Try.func19 (by kernel_rfl) rfl

theorem Bd20 : Bodied Try.prog 20 := bodied Try.func20 (by kernel_rfl) rfl

theorem Bd14 : Bodied Try.prog 14 := bodied Try.func14 (by kernel_rfl) rfl

theorem Bd21 : Bodied Try.prog 21 := bodied Try.func21 (by kernel_rfl) rfl

theorem Bd22 : Bodied Try.prog 22 := bodied Try.func22 (by kernel_rfl) rfl

theorem Bd23 : Bodied Try.prog 23 := bodied Try.func23 (by kernel_rfl) rfl

def k_laws_FnExactPairRelations (M : Nat → Prop) (w0 : World) (r : Bool) (a : Act) (w : World) : Prop :=
  ∃ (σ : Nat → Value) , a = fr 96 (ovl σ [(2, (.bool r))]) ∧ Chg [] w0 w
def s_laws_FnExactPairRelations (aA : Int × (List (Int × (List Int)))) : Option (Bool) :=
  (s_laws_szAlgebra (aA.1, aA.2) 1048576).bind fun r4 =>
  (bif (decide (r4 < 0)) then some true else (s_laws_toAlgebra (aA.1, aA.2)).bind fun r7 =>
  (s_spec_PairRelations (r7.1, r7.2)).bind fun r11 =>
  (s_laws_toAlgebra (aA.1, aA.2)).bind fun r14 =>
  (s_impl_PairRelations (r14.1, r14.2)).bind fun r19 =>
  ((s_laws_eqRelationS r19.1 r11.1).bind fun r25 =>
  (bif (!r25) then some true else some (!(r19.2 == r11.2)))).bind fun s21 =>
  (bif s21 then some false else (s_laws_toAlgebra (aA.1, aA.2)).bind fun r36 =>
  (s_laws_eqAlgebra (r14.1, r14.2) (r36.1, r36.2)).bind fun r39 =>
  (bif (!r39) then some false else (s_laws_markAlgebra (r14.1, r14.2) 1).bind fun r42 =>
  ((bif (decide (r42.1 < 0)) then some true else (s_laws_eqRelationS r19.1 r11.1).bind fun r48 =>
  (bif (!r48) then some true else some (!(r19.2 == r11.2))))).bind fun s43 =>
  (bif s43 then some false else (s_laws_markRelationS r19.1 1).bind fun r52 =>
  (s_laws_heldRelationS r52.2 1).bind fun r54 =>
  (bif (decide (r54 < 0)) then some false else (bif (r54 != r52.1) then some false else (s_laws_toAlgebra (aA.1, aA.2)).bind fun r58 =>
  (s_impl_PairRelations (r58.1, r58.2)).bind fun r61 =>
  ((s_laws_eqRelationS r61.1 r11.1).bind fun r68 =>
  (bif (!r68) then some true else some (!(r61.2 == r11.2)))).bind fun s63 =>
  (bif s63 then some false else (s_laws_heldRelationS r52.2 1).bind fun r72 =>
  (bif (decide (r72 < 0)) then some false else (bif (r72 != r52.1) then some false else some true)))))))))
set_option maxHeartbeats 4000000 in
theorem c_laws_FnExactPairRelations {M : Nat → Prop} {w : World} {pa0 : Option Addr} {pn0 pc0 : Nat} (aA : Int × (List (Int × (List Int)))) (h0 : (RT.rs (RT.pr (RT.int .i64) (RT.rs (RT.int .i64)))).val M w (.slice pa0 pn0 pc0) aA.2 ([])) (hM : ∀ g, w.heap.size ≤ g → M g) {r : Bool} (hs : s_laws_FnExactPairRelations aA = some r) :
    Gives Try.prog 5 [(.agg #[(.int .i64 aA.1), (.slice pa0 pn0 pc0)])] w (fun v w' => v = (.bool r) ∧ Chg [] w w') := by
 refine calls_fr Try.func5 rfl Try.ntmps5 (Nat.le_of_ble_eq_true rfl) ?_
 have hO := Own.start (N := Nw w []) hM Nw.fut
 have hC := Chg.refl [] w
 unfold s_laws_FnExactPairRelations at hs
 refine wp_mono (Q := KPost (k_laws_FnExactPairRelations M w r)) ?_ (fun e a w1 h => ?_)
 rotate_left
 ·cases e
  case ret =>
   obtain ⟨σ, rfl, hrest⟩ := h
   exact ret1x Try.results5 (res_tmp rfl) ⟨rfl, hrest⟩
  all_goals exact (h : False).elim
 refine c_seq (c_region ?_)
 obtain ⟨w2, g2, ew2, eg2, hC2, hb2⟩ := new_block w [(.int .i64 aA.1), (.slice pa0 pn0 pc0)] 24
 refine pl_val (w' := w2) (.pointer (some ⟨g2, 0, none⟩)) (y_box rfl (by rw [ew2, eg2]; kernel_rfl)) ?_
 have h0 := h0.ext hC2
 have hC := hC.ext hC2
 have hO := hO.new1 hC2 eg2 hb2.lt
 refine pl_val (.bool false) (y_assign rfl) ?_
 refine c_nil ?_
 refine c_seq (c_region ?_)
 refine pl_val (.int .i64 1048576) (y_assign rfl) ?_
 refine c_nil ?_
 refine c_seq (c_region ?_)
 refine pl_val (.agg #[(.int .i64 aA.1), (.slice pa0 pn0 pc0)]) (y_load rfl ((box_load Ag24 Sz24 hb2 [] [(.int .i64 aA.1), (.slice pa0 pn0 pc0)] [] rfl rfl (fun h => nomatch h)) _ (Chg.refl _ _))) ?_
 refine pl_val (.int .i64 1048576) (y_move rfl) ?_
 obtain ⟨r4, hr4, hs⟩ := bind_some hs
 refine pl_call Bd8 rfl (c_laws_szAlgebra (M := M) (aA.1, aA.2) 1048576 h0 hO.fut hr4) ?_
 rintro _ w3 ⟨rfl, hC3⟩
 have h0 := h0.ext hC3
 have hb2 := hb2.chg hC3 (fun h => nomatch h)
 have hC := hC.ext hC3
 have hO := hO.ext hC3
 refine pl_val (.int .i64 r4) (y_assign rfl) ?_
 refine c_nil ?_
 refine c_seq ?_
 refine c_seq (c_region ?_)
 refine pl_val (.int .i64 r4) (y_move rfl) ?_
 refine pl_val (.bool (decide (r4 < 0))) (y_lss rfl rfl) ?_
 refine c_nil ?_
 rcases bif_some hs with ⟨hc5, hs⟩ | ⟨hc5, hs⟩
 ·skip
  refine c_condT (congrArg Value.bool hc5) ?_
  refine c_seq (c_region ?_)
  refine pl_val (.bool true) (y_assign rfl) ?_
  refine c_nil ?_
  refine wp_ret ?_
  cases hs
  exact ⟨_, fr_ovl 96 ⟨rfl, trivial⟩, hC⟩
 ·skip
  refine c_condF (congrArg Value.bool hc5) ?_
  refine wp_skip ?_
  refine c_seq (c_region ?_)
  refine pl_val (.agg #[(.int .i64 aA.1), (.slice pa0 pn0 pc0)]) (y_load rfl ((box_load Ag24 Sz24 hb2 [] [(.int .i64 aA.1), (.slice pa0 pn0 pc0)] [] rfl rfl (fun h => nomatch h)) _ (Chg.refl _ _))) ?_
  obtain ⟨r7, hr7, hs⟩ := bind_some hs
  refine pl_call Bd11 rfl (c_laws_toAlgebra (M := M) (aA.1, aA.2) h0 hO.fut hr7) ?_
  rintro _ w6 ⟨a6x0, n6x0, c6x0, f6x0, rfl, hC6, hv6x0, hOc6⟩
  have h0 := h0.ext hC6
  have hb2 := hb2.chg hC6 (fun h => nomatch h)
  have hC := hC.ext hC6
  have hO := Own.join0 hO hC6 hOc6
  have hO := hO.perm (R := f6x0 ++ (([g2]) ++ ([]))) (by simp)
  obtain ⟨M10, eM10, hs10, hk10, hO, hv10⟩ := frz_own (Frz.os (Frz.pr Frz.int (Frz.os Frz.int))) hv6x0 hO
  have h0 := h0.sub (M' := M10) hs10
  have hK := hk10
  obtain ⟨r11, hr11, hs⟩ := bind_some hs
  refine pl_call Bd18 rfl (c_spec_PairRelations (M := M10) (r7.1, r7.2) hv10 hO.fut hr11) ?_
  rintro _ w9 ⟨a9x0, n9x0, c9x0, rfl, hC9, hv9x0⟩
  have hK := hK.trans (show Keeps w M10 (Past M10 w6 w9) from Keeps.past hC.size)
  have h0 := h0.ext hC9
  have hb2 := hb2.chg hC9 (fun h => nomatch h)
  have hv10 := hv10.ext hC9
  have hC := hC.ext hC9
  have hO := hO.past hC9
  have h0 := h0.sub (M' := (Past M10 w6 w9)) (fun g hg => .inl hg.1)
  have hv10 := hv10.sub (M' := (Past M10 w6 w9)) (fun g hg => .inl hg.1)
  refine pl_val (.tuple #[(.slice a9x0 n9x0 c9x0), (.bool r11.2)]) (y_move rfl) ?_
  refine pl_val (.slice a9x0 n9x0 c9x0) (y_extract rfl (by kernel_rfl)) ?_
  refine pl_val (.bool r11.2) (y_extract rfl (by kernel_rfl)) ?_
  refine pl_val (.slice a9x0 n9x0 c9x0) (y_assign rfl) ?_
  refine pl_val (.bool r11.2) (y_assign rfl) ?_
  refine c_nil ?_
  refine c_seq (c_region ?_)
  refine pl_val (.agg #[(.int .i64 aA.1), (.slice pa0 pn0 pc0)]) (y_load rfl ((box_load Ag24 Sz24 hb2 [] [(.int .i64 aA.1), (.slice pa0 pn0 pc0)] [] rfl rfl (fun h => nomatch h)) _ (Chg.refl _ _))) ?_
  obtain ⟨r14, hr14, hs⟩ := bind_some hs
  refine pl_call Bd11 rfl (c_laws_toAlgebra (M := (Past M10 w6 w9)) (aA.1, aA.2) h0 hO.fut hr14) ?_
  rintro _ w13 ⟨a13x0, n13x0, c13x0, f13x0, rfl, hC13, hv13x0, hOc13⟩
  have h0 := h0.ext hC13
  have hb2 := hb2.chg hC13 (fun h => nomatch h)
  have hv9x0 := hv9x0.ext hC13
  have hC := hC.ext hC13
  have hO := Own.join0 hO hC13 hOc13
  have hO := hO.perm (R := f13x0 ++ (([g2]) ++ ([]))) (by simp)
  obtain ⟨w16, g16, ew16, eg16, hC16, hb16⟩ := new_block w13 [(.int .i64 0), (.slice none 0 0)] 34
  refine pl_val (w' := w16) (.pointer (some ⟨g16, 0, none⟩)) (y_alloc (by rw [ew16, eg16]; kernel_rfl)) ?_
  have h0 := h0.ext hC16
  have hb2 := hb2.chg hC16 (fun h => nomatch h)
  have hv9x0 := hv9x0.ext hC16
  have hv13x0 := hv13x0.ext hC16
  have hC := hC.ext hC16
  have hO := hO.new1 hC16 eg16 hb16.lt
  obtain ⟨w17, hst17, hC17, hb17⟩ := box_store (P := Try.prog) hb16 [] [(.int .i64 0), (.slice none 0 0)] [] [(.int .i64 r14.1), (.slice a13x0 n13x0 c13x0)] rfl rfl (by intro u hu; simp only [List.mem_cons, List.not_mem_nil, or_false] at hu; rcases hu with rfl | rfl <;> rfl)
  refine pl_skip (w' := w17) (ys_store rfl rfl (hst17 _ _ rfl Sz34)) ?_
  have h0 := h0.mut hC17 (fun g hg => hO.inM g ((fun _ h => h) g hg)) (fun _ _ h => nomatch h)
  have hb2 := hb2.chg hC17 (fun hg => hO.apart _ ((fun _ h => h) _ hg) (mem_r (mem_l (List.mem_singleton.2 rfl))))
  have hv9x0 := hv9x0.mut hC17 (fun g hg => hO.inM g ((fun _ h => h) g hg)) (fun _ _ h => nomatch h)
  have hv13x0 := hv13x0.mut hC17 (fun g hg => hO.inM g ((fun _ h => h) g hg)) (fun g hg e => hO.apart g ((fun _ h => h) g hg) (mem_l (e)))
  have hC := hC.step hC17 (fun g hg => hO.inN g ((fun _ h => h) g hg))
  have hO := hO.ext hC17
  have hb17 : BoxV w17 g16 34 [(.int .i64 r14.1), (.slice a13x0 n13x0 c13x0)] := hb17
  refine c_nil ?_
  refine c_seq (c_region ?_)
  refine pl_val (.agg #[(.int .i64 r14.1), (.slice a13x0 n13x0 c13x0)]) (y_load rfl ((box_load Ag34 Sz34 hb17 [] [(.int .i64 r14.1), (.slice a13x0 n13x0 c13x0)] [] rfl rfl (fun h => nomatch h)) _ (Chg.refl _ _))) ?_
  have hO := hO.fr1
  obtain ⟨r19, hr19, hs⟩ := bind_some hs
  refine pl_call Bd19 rfl (c_impl_PairRelations (M := (Less (Past M10 w6 w9) f13x0)) (r14.1, r14.2) (((Frz.os (Frz.pr Frz.int (Frz.os Frz.int)))).val hv13x0 Less.sub Less.not) hO.less.fut hr19) ?_
  rintro _ w18 ⟨a18x0, n18x0, c18x0, f18x0, rfl, hC18, hv18x0, hOc18⟩
  have h0 := h0.ext hC18
  have hb2 := hb2.chg hC18 (fun h => nomatch h)
  have hv9x0 := hv9x0.ext hC18
  have hv13x0 := hv13x0.ext hC18
  have hb17 := hb17.chg hC18 (fun h => nomatch h)
  have hC := hC.ext hC18
  have hO := Own.join0 hO hC18 hOc18
  have hO := hO.perm (R := f18x0 ++ (f13x0 ++ (([g16]) ++ (([g2]) ++ ([]))))) (by simp)
  have hv18x0 := hv18x0.free (M' := (Past M10 w6 w9)) (Free.os (Free.pr Free.int (Free.os (Free.os Free.int))))
  refine pl_val (.tuple #[(.slice a18x0 n18x0 c18x0), (.bool r19.2)]) (y_move rfl) ?_
  refine pl_val (.slice a18x0 n18x0 c18x0) (y_extract rfl (by kernel_rfl)) ?_
  refine pl_val (.bool r19.2) (y_extract rfl (by kernel_rfl)) ?_
  refine pl_val (.slice a18x0 n18x0 c18x0) (y_assign rfl) ?_
  refine pl_val (.bool r19.2) (y_assign rfl) ?_
  refine c_nil ?_
  refine c_seq ?_
  refine c_seq ?_
  obtain ⟨s21, hm23, hs⟩ := bind_some hs
  refine c_mid (I := fun a w22 => ∃ (σ : Nat → Value), a = fr 96 (ovl σ [(1, (.pointer (some ⟨g2, 0, none⟩))), (2, (.bool false)), (4, (.slice a9x0 n9x0 c9x0)), (5, (.bool r11.2)), (6, (.pointer (some ⟨g16, 0, none⟩))), (7, (.slice a18x0 n18x0 c18x0)), (8, (.bool r19.2)), (40, (.bool s21))]) ∧ Chg [] w18 w22) ?_ ?_
  ·replace hs := hm23
   have hMid := Chg.refl [] w18
   refine c_region ?_
   refine pl_val (.slice a18x0 n18x0 c18x0) (y_move rfl) ?_
   refine pl_val (.slice a9x0 n9x0 c9x0) (y_move rfl) ?_
   obtain ⟨r25, hr25, hs⟩ := bind_some hs
   refine pl_call Bd20 rfl (c_laws_eqRelationS (M := (Less (Past M10 w6 w9) f18x0)) r19.1 r11.1 (((Frz.os (Frz.pr Frz.int (Frz.os (Frz.os Frz.int))))).val hv18x0 Less.sub Less.not) (hv9x0.sub Less.sub) hO.less.fut hr25) ?_
   rintro _ w24 ⟨rfl, hC24⟩
   have h0 := h0.ext hC24
   have hb2 := hb2.chg hC24 (fun h => nomatch h)
   have hv9x0 := hv9x0.ext hC24
   have hv13x0 := hv13x0.ext hC24
   have hb17 := hb17.chg hC24 (fun h => nomatch h)
   have hv18x0 := hv18x0.ext hC24
   have hMid := hMid.ext hC24
   have hC := hC.ext hC24
   have hO := hO.ext hC24
   refine pl_val (.bool (!r25)) (y_not rfl) ?_
   refine pl_val (.bool (!r25)) (y_move rfl) ?_
   rcases bif_some hs with ⟨hc26, hs⟩ | ⟨hc26, hs⟩
   ·skip
    refine pl_not (tg := 36) (by kernel_rfl) (congrArg Value.bool hc26) ?_
    refine pl_not (tg := 36) (by kernel_rfl) (congrArg Value.bool hc26) ?_
    refine pl_not (tg := 36) (by kernel_rfl) (congrArg Value.bool hc26) ?_
    refine pl_val (.bool true) (y_pick_t (congrArg Value.bool hc26) rfl) ?_
    refine c_nil ?_
    cases hs
    exact ⟨_, fr_ovl 96 ⟨rfl, rfl, rfl, rfl, rfl, rfl, rfl, rfl, trivial⟩, hMid⟩
   ·skip
    refine pl_yes (.bool r19.2) (tg := 36) (by kernel_rfl) (congrArg Value.bool hc26) (y_move rfl) ?_
    refine pl_yes (.bool r11.2) (tg := 36) (by kernel_rfl) (congrArg Value.bool hc26) (y_move rfl) ?_
    refine pl_yes (.bool (!(r19.2 == r11.2))) (tg := 36) (by kernel_rfl) (congrArg Value.bool hc26) (y_bneq Try.underlying4 rfl rfl) ?_
    refine pl_val (.bool (!(r19.2 == r11.2))) (y_pick_f (congrArg Value.bool hc26) rfl) ?_
    refine c_nil ?_
    cases hs
    exact ⟨_, fr_ovl 96 ⟨rfl, rfl, rfl, rfl, rfl, rfl, rfl, rfl, trivial⟩, hMid⟩
  ·rintro a1 w22 ⟨σ, rfl, hCs21⟩
   have h0 := h0.ext hCs21
   have hb2 := hb2.chg hCs21 (fun h => nomatch h)
   have hv9x0 := hv9x0.ext hCs21
   have hv13x0 := hv13x0.ext hCs21
   have hb17 := hb17.chg hCs21 (fun h => nomatch h)
   have hv18x0 := hv18x0.ext hCs21
   have hC := hC.ext hCs21
   have hO := hO.ext hCs21
   rcases bif_some hs with ⟨hc27, hs⟩ | ⟨hc27, hs⟩
   ·skip
    refine c_condT (congrArg Value.bool hc27) ?_
    refine c_seq (c_region ?_)
    refine pl_val (.bool false) (y_assign rfl) ?_
    refine c_nil ?_
    refine wp_ret ?_
    cases hs
    exact ⟨_, fr_ovl 96 ⟨rfl, trivial⟩, hC⟩
   ·skip
    refine c_condF (congrArg Value.bool hc27) ?_
    refine wp_skip ?_
    refine c_seq ?_
    refine c_seq ?_
    refine x_start [] Mx rfl ?_
    have hCw34 := Chg.drew w22
    generalize World.drew w22 = w34 at hCw34 ⊢
    have h0 := h0.ext hCw34
    have hb2 := hb2.chg hCw34 (fun h => nomatch h)
    have hv9x0 := hv9x0.ext hCw34
    have hv13x0 := hv13x0.ext hCw34
    have hb17 := hb17.chg hCw34 (fun h => nomatch h)
    have hv18x0 := hv18x0.ext hCw34
    have hC := hC.ext hCw34
    have hO := hO.ext hCw34
    have hS := Chg.refl [] w34
    refine x_l 0 (.agg #[(.int .i64 r14.1), (.slice a13x0 n13x0 c13x0)]) rfl (by kernel_rfl)  (fun w' hw' => y_load rfl ((box_load Ag34 Sz34 hb17 [] [(.int .i64 r14.1), (.slice a13x0 n13x0 c13x0)] [] rfl rfl (fun h => nomatch h)) w' hw')) hS ?_
    refine x_l 1 (.agg #[(.int .i64 aA.1), (.slice pa0 pn0 pc0)]) rfl (by kernel_rfl)  (fun w' hw' => y_load rfl ((box_load Ag24 Sz24 hb2 [] [(.int .i64 aA.1), (.slice pa0 pn0 pc0)] [] rfl rfl (fun h => nomatch h)) w' hw')) hS ?_
    refine x_one (i := 2) (by kernel_rfl) ?_
    obtain ⟨r36, hr36, hs⟩ := bind_some hs
    refine xk_call (b := false) rfl  Bd11 rfl (c_laws_toAlgebra (M := (Past M10 w6 w9)) (aA.1, aA.2) h0 hO.fut hr36) rfl (by rintro _ _ _ ⟨a35x0, n35x0, c35x0, f35x0, rfl, hC35, hv35x0, hOc35⟩; exact hS.ext hC35) ?_
    rintro _ w35 ⟨a35x0, n35x0, c35x0, f35x0, rfl, hC35, hv35x0, hOc35⟩
    have h0 := h0.ext hC35
    have hb2 := hb2.chg hC35 (fun h => nomatch h)
    have hv9x0 := hv9x0.ext hC35
    have hv13x0 := hv13x0.ext hC35
    have hb17 := hb17.chg hC35 (fun h => nomatch h)
    have hv18x0 := hv18x0.ext hC35
    have hC := hC.ext hC35
    have hO := Own.join0 hO hC35 hOc35
    have hO := hO.perm (R := f35x0 ++ (f18x0 ++ (f13x0 ++ (([g16]) ++ (([g2]) ++ ([])))))) (by simp)
    have hS := hS.ext hC35
    refine x_one (i := 3) (by kernel_rfl) ?_
    have hO := hO.fr2
    obtain ⟨r39, hr39, hs⟩ := bind_some hs
    refine xk_call (b := false) rfl  Bd14 rfl (c_laws_eqAlgebra (M := (Less (Less (Past M10 w6 w9) f13x0) f35x0)) (r14.1, r14.2) (r36.1, r36.2) ((((Frz.os (Frz.pr Frz.int (Frz.os Frz.int)))).val hv13x0 Less.sub Less.not).sub Less.sub) (((Frz.os (Frz.pr Frz.int (Frz.os Frz.int)))).val (hv35x0.sub Less.sub) Less.sub Less.not) (hO.less).less.fut hr39) rfl (by rintro _ _ _ ⟨rfl, hC38⟩; exact hS.ext hC38) ?_
    rintro _ w38 ⟨rfl, hC38⟩
    have h0 := h0.ext hC38
    have hb2 := hb2.chg hC38 (fun h => nomatch h)
    have hv9x0 := hv9x0.ext hC38
    have hv13x0 := hv13x0.ext hC38
    have hb17 := hb17.chg hC38 (fun h => nomatch h)
    have hv18x0 := hv18x0.ext hC38
    have hv35x0 := hv35x0.ext hC38
    have hC := hC.ext hC38
    have hO := hO.ext hC38
    have hS := hS.ext hC38
    refine x_p 4 (.bool (!r39)) rfl (by kernel_rfl)  (fun _ => y_not rfl) (fun _ => hS) ?_
    refine x_end (by kernel_rfl) ?_
    clear hS
    rcases bif_some hs with ⟨hc40, hs⟩ | ⟨hc40, hs⟩
    ·skip
     refine c_condT (congrArg Value.bool hc40) ?_
     refine c_seq (c_region ?_)
     refine pl_val (.bool false) (y_assign rfl) ?_
     refine c_nil ?_
     refine wp_ret ?_
     cases hs
     exact ⟨_, fr_ovl 96 ⟨rfl, trivial⟩, hC⟩
    ·skip
     refine c_condF (congrArg Value.bool hc40) ?_
     refine wp_skip ?_
     refine c_seq (c_region ?_)
     refine pl_val (.int .i64 1) (y_assign rfl) ?_
     refine c_nil ?_
     refine c_seq (c_region ?_)
     refine pl_val (.agg #[(.int .i64 r14.1), (.slice a13x0 n13x0 c13x0)]) (y_load rfl ((box_load Ag34 Sz34 hb17 [] [(.int .i64 r14.1), (.slice a13x0 n13x0 c13x0)] [] rfl rfl (fun h => nomatch h)) _ (Chg.refl _ _))) ?_
     refine pl_val (.int .i64 1) (y_move rfl) ?_
     have hL41 := hO
     have hI41 := Own.lend (F := (f13x0 ++ ([]))) (R := f35x0 ++ (f18x0 ++ (([g16]) ++ (([g2]) ++ ([]))))) (Own.perm (hL41) (by simp))
     obtain ⟨r42, hr42, hs⟩ := bind_some hs
     refine pl_call Bd21 rfl (c_laws_markAlgebra (M := (Past M10 w6 w9)) (r14.1, r14.2) 1 hv13x0 hI41 hI41.fut hr42) ?_
     rintro _ w41 ⟨fi41x0, rfl, hC41, hvi41x0, hOc41⟩
     have hO := hO.perm (R := (f13x0 ++ ([])) ++ (f35x0 ++ (f18x0 ++ (([g16]) ++ (([g2]) ++ ([])))))) (by simp)
     have h0 := h0.mut hC41 (fun g hg => hO.inM g ((fun _ h => h) g hg)) (fun _ _ h => nomatch h)
     have hb2 := hb2.chg hC41 (fun hg => hO.apart _ ((fun _ h => h) _ hg) (mem_r (mem_r (mem_r (mem_l (List.mem_singleton.2 rfl))))))
     have hv9x0 := hv9x0.mut hC41 (fun g hg => hO.inM g ((fun _ h => h) g hg)) (fun _ _ h => nomatch h)
     have hb17 := hb17.chg hC41 (fun hg => hO.apart _ ((fun _ h => h) _ hg) (mem_r (mem_r (mem_l (List.mem_singleton.2 rfl)))))
     have hv18x0 := hv18x0.mut hC41 (fun g hg => hO.inM g ((fun _ h => h) g hg)) (fun g hg e => hO.apart g ((fun _ h => h) g hg) (mem_r (mem_l (e))))
     have hv35x0 := hv35x0.mut hC41 (fun g hg => hO.inM g ((fun _ h => h) g hg)) (fun g hg e => hO.apart g ((fun _ h => h) g hg) (mem_l (e)))
     have hC := hC.step hC41 (fun g hg => hO.inN g ((fun _ h => h) g hg))
     have hO := Own.join hO hC41 hOc41
     have hO := hO.perm (R := fi41x0 ++ (f35x0 ++ (f18x0 ++ (([g16]) ++ (([g2]) ++ ([])))))) (by simp)
     refine pl_val (.int .i64 r42.1) (y_assign rfl) ?_
     refine c_nil ?_
     refine c_seq ?_
     refine c_seq ?_
     obtain ⟨s43, hm45, hs⟩ := bind_some hs
     refine c_mid (I := fun a w44 => ∃ (σ : Nat → Value), a = fr 96 (ovl σ [(1, (.pointer (some ⟨g2, 0, none⟩))), (2, (.bool false)), (4, (.slice a9x0 n9x0 c9x0)), (5, (.bool r11.2)), (7, (.slice a18x0 n18x0 c18x0)), (61, (.bool s43))]) ∧ Chg [] w41 w44) ?_ ?_
     ·replace hs := hm45
      have hMid := Chg.refl [] w41
      refine c_region ?_
      refine pl_val (.int .i64 r42.1) (y_move rfl) ?_
      refine pl_val (.bool (decide (r42.1 < 0))) (y_lss rfl rfl) ?_
      refine pl_val (.bool (decide (r42.1 < 0))) (y_move rfl) ?_
      rcases bif_some hs with ⟨hc46, hs⟩ | ⟨hc46, hs⟩
      ·skip
       refine pl_not (tg := 51) (by kernel_rfl) (congrArg Value.bool hc46) ?_
       refine pl_not (tg := 51) (by kernel_rfl) (congrArg Value.bool hc46) ?_
       refine pl_not (tg := 51) (by kernel_rfl) (congrArg Value.bool hc46) ?_
       refine pl_not (tg := 51) (by kernel_rfl) (congrArg Value.bool hc46) ?_
       refine pl_val (.bool true) (y_pick_t (congrArg Value.bool hc46) rfl) ?_
       refine pl_val (.bool true) (y_move rfl) ?_
       refine pl_not (tg := 57) (by kernel_rfl) (by rfl) ?_
       refine pl_not (tg := 57) (by kernel_rfl) (by rfl) ?_
       refine pl_not (tg := 57) (by kernel_rfl) (by rfl) ?_
       refine pl_val (.bool true) (y_pick_t (by rfl) rfl) ?_
       refine c_nil ?_
       cases hs
       exact ⟨_, fr_ovl 96 ⟨rfl, rfl, rfl, rfl, rfl, rfl, trivial⟩, hMid⟩
      ·skip
       refine pl_yes (.slice a18x0 n18x0 c18x0) (tg := 51) (by kernel_rfl) (congrArg Value.bool hc46) (y_move rfl) ?_
       refine pl_yes (.slice a9x0 n9x0 c9x0) (tg := 51) (by kernel_rfl) (congrArg Value.bool hc46) (y_move rfl) ?_
       have hO := hO.fr2
       obtain ⟨r48, hr48, hs⟩ := bind_some hs
       refine pl_cally (tg := 51) (by kernel_rfl) (congrArg Value.bool hc46) Bd20 rfl (c_laws_eqRelationS (M := (Less (Past M10 w6 w9) f18x0)) r19.1 r11.1 (((Frz.os (Frz.pr Frz.int (Frz.os (Frz.os Frz.int))))).val hv18x0 Less.sub Less.not) (hv9x0.sub Less.sub) hO.less.fut hr48) ?_
       rintro _ w47 ⟨rfl, hC47⟩
       have h0 := h0.ext hC47
       have hb2 := hb2.chg hC47 (fun h => nomatch h)
       have hv9x0 := hv9x0.ext hC47
       have hvi41x0 := hvi41x0.ext hC47
       have hb17 := hb17.chg hC47 (fun h => nomatch h)
       have hv18x0 := hv18x0.ext hC47
       have hv35x0 := hv35x0.ext hC47
       have hMid := hMid.ext hC47
       have hC := hC.ext hC47
       have hO := hO.ext hC47
       refine pl_yes (.bool (!r48)) (tg := 51) (by kernel_rfl) (congrArg Value.bool hc46) (y_not rfl) ?_
       refine pl_val (.bool (!r48)) (y_pick_f (congrArg Value.bool hc46) rfl) ?_
       refine pl_val (.bool (!r48)) (y_move rfl) ?_
       rcases bif_some hs with ⟨hc49, hs⟩ | ⟨hc49, hs⟩
       ·skip
        refine pl_not (tg := 57) (by kernel_rfl) (congrArg Value.bool hc49) ?_
        refine pl_not (tg := 57) (by kernel_rfl) (congrArg Value.bool hc49) ?_
        refine pl_not (tg := 57) (by kernel_rfl) (congrArg Value.bool hc49) ?_
        refine pl_val (.bool true) (y_pick_t (congrArg Value.bool hc49) rfl) ?_
        refine c_nil ?_
        cases hs
        exact ⟨_, fr_ovl 96 ⟨rfl, rfl, rfl, rfl, rfl, rfl, trivial⟩, hMid⟩
       ·skip
        refine pl_yes (.bool r19.2) (tg := 57) (by kernel_rfl) (congrArg Value.bool hc49) (y_move rfl) ?_
        refine pl_yes (.bool r11.2) (tg := 57) (by kernel_rfl) (congrArg Value.bool hc49) (y_move rfl) ?_
        refine pl_yes (.bool (!(r19.2 == r11.2))) (tg := 57) (by kernel_rfl) (congrArg Value.bool hc49) (y_bneq Try.underlying4 rfl rfl) ?_
        refine pl_val (.bool (!(r19.2 == r11.2))) (y_pick_f (congrArg Value.bool hc49) rfl) ?_
        refine c_nil ?_
        cases hs
        exact ⟨_, fr_ovl 96 ⟨rfl, rfl, rfl, rfl, rfl, rfl, trivial⟩, hMid⟩
     ·rintro a1 w44 ⟨σ, rfl, hCs43⟩
      have h0 := h0.ext hCs43
      have hb2 := hb2.chg hCs43 (fun h => nomatch h)
      have hv9x0 := hv9x0.ext hCs43
      have hvi41x0 := hvi41x0.ext hCs43
      have hb17 := hb17.chg hCs43 (fun h => nomatch h)
      have hv18x0 := hv18x0.ext hCs43
      have hv35x0 := hv35x0.ext hCs43
      have hC := hC.ext hCs43
      have hO := hO.ext hCs43
      rcases bif_some hs with ⟨hc50, hs⟩ | ⟨hc50, hs⟩
      ·skip
       refine c_condT (congrArg Value.bool hc50) ?_
       refine c_seq (c_region ?_)
       refine pl_val (.bool false) (y_assign rfl) ?_
       refine c_nil ?_
       refine wp_ret ?_
       cases hs
       exact ⟨_, fr_ovl 96 ⟨rfl, trivial⟩, hC⟩
      ·skip
       refine c_condF (congrArg Value.bool hc50) ?_
       refine wp_skip ?_
       refine c_seq (c_region ?_)
       refine pl_val (.int .i64 1) (y_assign rfl) ?_
       refine c_nil ?_
       refine c_seq (c_region ?_)
       refine pl_val (.slice a18x0 n18x0 c18x0) (y_move rfl) ?_
       refine pl_val (.int .i64 1) (y_move rfl) ?_
       have hO := hO.fr2
       have hL51 := hO
       have hI51 := Own.lend (F := (f18x0 ++ ([]))) (R := fi41x0 ++ (f35x0 ++ (([g16]) ++ (([g2]) ++ ([]))))) (Own.perm (hL51) (by simp))
       obtain ⟨r52, hr52, hs⟩ := bind_some hs
       refine pl_call Bd22 rfl (c_laws_markRelationS (M := (Past M10 w6 w9)) r19.1 1 hv18x0 hI51 hI51.fut hr52) ?_
       rintro _ w51 ⟨fi51x0, rfl, hC51, hvi51x0, hOc51⟩
       have hO := hO.perm (R := (f18x0 ++ ([])) ++ (fi41x0 ++ (f35x0 ++ (([g16]) ++ (([g2]) ++ ([])))))) (by simp)
       have h0 := h0.mut hC51 (fun g hg => hO.inM g ((fun _ h => h) g hg)) (fun _ _ h => nomatch h)
       have hb2 := hb2.chg hC51 (fun hg => hO.apart _ ((fun _ h => h) _ hg) (mem_r (mem_r (mem_r (mem_l (List.mem_singleton.2 rfl))))))
       have hv9x0 := hv9x0.mut hC51 (fun g hg => hO.inM g ((fun _ h => h) g hg)) (fun _ _ h => nomatch h)
       have hvi41x0 := hvi41x0.mut hC51 (fun g hg => hO.inM g ((fun _ h => h) g hg)) (fun g hg e => hO.apart g ((fun _ h => h) g hg) (mem_l (e)))
       have hb17 := hb17.chg hC51 (fun hg => hO.apart _ ((fun _ h => h) _ hg) (mem_r (mem_r (mem_l (List.mem_singleton.2 rfl)))))
       have hv35x0 := hv35x0.mut hC51 (fun g hg => hO.inM g ((fun _ h => h) g hg)) (fun g hg e => hO.apart g ((fun _ h => h) g hg) (mem_r (mem_l (e))))
       have hC := hC.step hC51 (fun g hg => hO.inN g ((fun _ h => h) g hg))
       have hO := Own.join hO hC51 hOc51
       have hO := hO.perm (R := fi51x0 ++ (fi41x0 ++ (f35x0 ++ (([g16]) ++ (([g2]) ++ ([])))))) (by simp)
       refine pl_val (.int .i64 r52.1) (y_assign rfl) ?_
       refine c_nil ?_
       refine c_seq (c_region ?_)
       refine pl_val (.int .i64 1) (y_assign rfl) ?_
       refine c_nil ?_
       refine c_seq (c_region ?_)
       refine pl_val (.slice a18x0 n18x0 c18x0) (y_move rfl) ?_
       refine pl_val (.int .i64 1) (y_move rfl) ?_
       obtain ⟨r54, hr54, hs⟩ := bind_some hs
       refine pl_call Bd23 rfl (c_laws_heldRelationS (M := (Less (Past M10 w6 w9) fi51x0)) r52.2 1 (((Frz.os (Frz.pr Frz.int (Frz.os (Frz.os Frz.int))))).val hvi51x0 Less.sub Less.not) hO.less.fut hr54) ?_
       rintro _ w53 ⟨rfl, hC53⟩
       have h0 := h0.ext hC53
       have hb2 := hb2.chg hC53 (fun h => nomatch h)
       have hv9x0 := hv9x0.ext hC53
       have hvi41x0 := hvi41x0.ext hC53
       have hb17 := hb17.chg hC53 (fun h => nomatch h)
       have hvi51x0 := hvi51x0.ext hC53
       have hv35x0 := hv35x0.ext hC53
       have hC := hC.ext hC53
       have hO := hO.ext hC53
       refine pl_val (.int .i64 r54) (y_assign rfl) ?_
       refine c_nil ?_
       refine c_seq ?_
       refine c_seq (c_region ?_)
       refine pl_val (.int .i64 r54) (y_move rfl) ?_
       refine pl_val (.bool (decide (r54 < 0))) (y_lss rfl rfl) ?_
       refine c_nil ?_
       rcases bif_some hs with ⟨hc55, hs⟩ | ⟨hc55, hs⟩
       ·skip
        refine c_condT (congrArg Value.bool hc55) ?_
        refine c_seq (c_region ?_)
        refine pl_val (.bool false) (y_assign rfl) ?_
        refine c_nil ?_
        refine wp_ret ?_
        cases hs
        exact ⟨_, fr_ovl 96 ⟨rfl, trivial⟩, hC⟩
       ·skip
        refine c_condF (congrArg Value.bool hc55) ?_
        refine wp_skip ?_
        refine c_seq ?_
        refine c_seq (c_region ?_)
        refine pl_val (.int .i64 r54) (y_move rfl) ?_
        refine pl_val (.int .i64 r52.1) (y_move rfl) ?_
        refine pl_val (.bool (r54 != r52.1)) (y_neq rfl rfl) ?_
        refine c_nil ?_
        rcases bif_some hs with ⟨hc56, hs⟩ | ⟨hc56, hs⟩
        ·skip
         refine c_condT (congrArg Value.bool hc56) ?_
         refine c_seq (c_region ?_)
         refine pl_val (.bool false) (y_assign rfl) ?_
         refine c_nil ?_
         refine wp_ret ?_
         cases hs
         exact ⟨_, fr_ovl 96 ⟨rfl, trivial⟩, hC⟩
        ·skip
         refine c_condF (congrArg Value.bool hc56) ?_
         refine wp_skip ?_
         refine c_seq (c_region ?_)
         refine pl_val (.agg #[(.int .i64 aA.1), (.slice pa0 pn0 pc0)]) (y_load rfl ((box_load Ag24 Sz24 hb2 [] [(.int .i64 aA.1), (.slice pa0 pn0 pc0)] [] rfl rfl (fun h => nomatch h)) _ (Chg.refl _ _))) ?_
         obtain ⟨r58, hr58, hs⟩ := bind_some hs
         refine pl_call Bd11 rfl (c_laws_toAlgebra (M := (Past M10 w6 w9)) (aA.1, aA.2) h0 hO.fut hr58) ?_
         rintro _ w57 ⟨a57x0, n57x0, c57x0, f57x0, rfl, hC57, hv57x0, hOc57⟩
         have h0 := h0.ext hC57
         have hb2 := hb2.chg hC57 (fun h => nomatch h)
         have hv9x0 := hv9x0.ext hC57
         have hvi41x0 := hvi41x0.ext hC57
         have hb17 := hb17.chg hC57 (fun h => nomatch h)
         have hvi51x0 := hvi51x0.ext hC57
         have hv35x0 := hv35x0.ext hC57
         have hC := hC.ext hC57
         have hO := Own.join0 hO hC57 hOc57
         have hO := hO.perm (R := f57x0 ++ (fi51x0 ++ (fi41x0 ++ (f35x0 ++ (([g16]) ++ (([g2]) ++ ([]))))))) (by simp)
         obtain ⟨r61, hr61, hs⟩ := bind_some hs
         refine pl_call Bd19 rfl (c_impl_PairRelations (M := (Less (Past M10 w6 w9) f57x0)) (r58.1, r58.2) (((Frz.os (Frz.pr Frz.int (Frz.os Frz.int)))).val hv57x0 Less.sub Less.not) hO.less.fut hr61) ?_
         rintro _ w60 ⟨a60x0, n60x0, c60x0, f60x0, rfl, hC60, hv60x0, hOc60⟩
         have h0 := h0.ext hC60
         have hb2 := hb2.chg hC60 (fun h => nomatch h)
         have hv9x0 := hv9x0.ext hC60
         have hvi41x0 := hvi41x0.ext hC60
         have hb17 := hb17.chg hC60 (fun h => nomatch h)
         have hvi51x0 := hvi51x0.ext hC60
         have hv35x0 := hv35x0.ext hC60
         have hv57x0 := hv57x0.ext hC60
         have hC := hC.ext hC60
         have hO := Own.join0 hO hC60 hOc60
         have hO := hO.perm (R := f60x0 ++ (f57x0 ++ (fi51x0 ++ (fi41x0 ++ (f35x0 ++ (([g16]) ++ (([g2]) ++ ([])))))))) (by simp)
         have hv60x0 := hv60x0.free (M' := (Past M10 w6 w9)) (Free.os (Free.pr Free.int (Free.os (Free.os Free.int))))
         refine pl_val (.tuple #[(.slice a60x0 n60x0 c60x0), (.bool r61.2)]) (y_move rfl) ?_
         refine pl_val (.slice a60x0 n60x0 c60x0) (y_extract rfl (by kernel_rfl)) ?_
         refine pl_val (.bool r61.2) (y_extract rfl (by kernel_rfl)) ?_
         refine pl_val (.slice a60x0 n60x0 c60x0) (y_assign rfl) ?_
         refine pl_val (.bool r61.2) (y_assign rfl) ?_
         refine c_nil ?_
         refine c_seq ?_
         refine c_seq ?_
         obtain ⟨s63, hm66, hs⟩ := bind_some hs
         refine c_mid (I := fun a w65 => ∃ (σ : Nat → Value), a = fr 96 (ovl σ [(2, (.bool false)), (7, (.slice a18x0 n18x0 c18x0)), (10, (.int .i64 r52.1)), (11, (.int .i64 r54)), (87, (.bool s63))]) ∧ Chg [] w60 w65) ?_ ?_
         ·replace hs := hm66
          have hMid := Chg.refl [] w60
          refine c_region ?_
          refine pl_val (.slice a60x0 n60x0 c60x0) (y_move rfl) ?_
          refine pl_val (.slice a9x0 n9x0 c9x0) (y_move rfl) ?_
          obtain ⟨r68, hr68, hs⟩ := bind_some hs
          refine pl_call Bd20 rfl (c_laws_eqRelationS (M := (Less (Past M10 w6 w9) f60x0)) r61.1 r11.1 (((Frz.os (Frz.pr Frz.int (Frz.os (Frz.os Frz.int))))).val hv60x0 Less.sub Less.not) (hv9x0.sub Less.sub) hO.less.fut hr68) ?_
          rintro _ w67 ⟨rfl, hC67⟩
          have hb2 := hb2.chg hC67 (fun h => nomatch h)
          have hv9x0 := hv9x0.ext hC67
          have hvi41x0 := hvi41x0.ext hC67
          have hb17 := hb17.chg hC67 (fun h => nomatch h)
          have hvi51x0 := hvi51x0.ext hC67
          have hv35x0 := hv35x0.ext hC67
          have hv57x0 := hv57x0.ext hC67
          have hv60x0 := hv60x0.ext hC67
          have hMid := hMid.ext hC67
          have hC := hC.ext hC67
          have hO := hO.ext hC67
          refine pl_val (.bool (!r68)) (y_not rfl) ?_
          refine pl_val (.bool (!r68)) (y_move rfl) ?_
          rcases bif_some hs with ⟨hc69, hs⟩ | ⟨hc69, hs⟩
          ·skip
           refine pl_not (tg := 83) (by kernel_rfl) (congrArg Value.bool hc69) ?_
           refine pl_not (tg := 83) (by kernel_rfl) (congrArg Value.bool hc69) ?_
           refine pl_not (tg := 83) (by kernel_rfl) (congrArg Value.bool hc69) ?_
           refine pl_val (.bool true) (y_pick_t (congrArg Value.bool hc69) rfl) ?_
           refine c_nil ?_
           cases hs
           exact ⟨_, fr_ovl 96 ⟨rfl, rfl, rfl, rfl, rfl, trivial⟩, hMid⟩
          ·skip
           refine pl_yes (.bool r61.2) (tg := 83) (by kernel_rfl) (congrArg Value.bool hc69) (y_move rfl) ?_
           refine pl_yes (.bool r11.2) (tg := 83) (by kernel_rfl) (congrArg Value.bool hc69) (y_move rfl) ?_
           refine pl_yes (.bool (!(r61.2 == r11.2))) (tg := 83) (by kernel_rfl) (congrArg Value.bool hc69) (y_bneq Try.underlying4 rfl rfl) ?_
           refine pl_val (.bool (!(r61.2 == r11.2))) (y_pick_f (congrArg Value.bool hc69) rfl) ?_
           refine c_nil ?_
           cases hs
           exact ⟨_, fr_ovl 96 ⟨rfl, rfl, rfl, rfl, rfl, trivial⟩, hMid⟩
         ·rintro a1 w65 ⟨σ, rfl, hCs63⟩
          have hb2 := hb2.chg hCs63 (fun h => nomatch h)
          have hvi41x0 := hvi41x0.ext hCs63
          have hb17 := hb17.chg hCs63 (fun h => nomatch h)
          have hvi51x0 := hvi51x0.ext hCs63
          have hv35x0 := hv35x0.ext hCs63
          have hv57x0 := hv57x0.ext hCs63
          have hv60x0 := hv60x0.ext hCs63
          have hC := hC.ext hCs63
          have hO := hO.ext hCs63
          rcases bif_some hs with ⟨hc70, hs⟩ | ⟨hc70, hs⟩
          ·skip
           refine c_condT (congrArg Value.bool hc70) ?_
           refine c_seq (c_region ?_)
           refine pl_val (.bool false) (y_assign rfl) ?_
           refine c_nil ?_
           refine wp_ret ?_
           cases hs
           exact ⟨_, fr_ovl 96 ⟨rfl, trivial⟩, hC⟩
          ·skip
           refine c_condF (congrArg Value.bool hc70) ?_
           refine wp_skip ?_
           refine c_seq (c_region ?_)
           refine pl_val (.int .i64 1) (y_assign rfl) ?_
           refine c_nil ?_
           refine c_seq (c_region ?_)
           refine pl_val (.slice a18x0 n18x0 c18x0) (y_move rfl) ?_
           refine pl_val (.int .i64 1) (y_move rfl) ?_
           have hO := hO.fr2
           obtain ⟨r72, hr72, hs⟩ := bind_some hs
           refine pl_call Bd23 rfl (c_laws_heldRelationS (M := (Less (Past M10 w6 w9) fi51x0)) r52.2 1 (((Frz.os (Frz.pr Frz.int (Frz.os (Frz.os Frz.int))))).val hvi51x0 Less.sub Less.not) hO.less.fut hr72) ?_
           rintro _ w71 ⟨rfl, hC71⟩
           have hb2 := hb2.chg hC71 (fun h => nomatch h)
           have hvi41x0 := hvi41x0.ext hC71
           have hb17 := hb17.chg hC71 (fun h => nomatch h)
           have hvi51x0 := hvi51x0.ext hC71
           have hv35x0 := hv35x0.ext hC71
           have hv57x0 := hv57x0.ext hC71
           have hv60x0 := hv60x0.ext hC71
           have hC := hC.ext hC71
           have hO := hO.ext hC71
           refine pl_val (.int .i64 r72) (y_assign rfl) ?_
           refine c_nil ?_
           refine c_seq ?_
           refine c_seq (c_region ?_)
           refine pl_val (.int .i64 r72) (y_move rfl) ?_
           refine pl_val (.bool (decide (r72 < 0))) (y_lss rfl rfl) ?_
           refine c_nil ?_
           rcases bif_some hs with ⟨hc73, hs⟩ | ⟨hc73, hs⟩
           ·skip
            refine c_condT (congrArg Value.bool hc73) ?_
            refine c_seq (c_region ?_)
            refine pl_val (.bool false) (y_assign rfl) ?_
            refine c_nil ?_
            refine wp_ret ?_
            cases hs
            exact ⟨_, fr_ovl 96 ⟨rfl, trivial⟩, hC⟩
           ·skip
            refine c_condF (congrArg Value.bool hc73) ?_
            refine wp_skip ?_
            refine c_seq ?_
            refine c_seq (c_region ?_)
            refine pl_val (.int .i64 r72) (y_move rfl) ?_
            refine pl_val (.int .i64 r52.1) (y_move rfl) ?_
            refine pl_val (.bool (r72 != r52.1)) (y_neq rfl rfl) ?_
            refine c_nil ?_
            rcases bif_some hs with ⟨hc74, hs⟩ | ⟨hc74, hs⟩
            ·skip
             refine c_condT (congrArg Value.bool hc74) ?_
             refine c_seq (c_region ?_)
             refine pl_val (.bool false) (y_assign rfl) ?_
             refine c_nil ?_
             refine wp_ret ?_
             cases hs
             exact ⟨_, fr_ovl 96 ⟨rfl, trivial⟩, hC⟩
            ·skip
             refine c_condF (congrArg Value.bool hc74) ?_
             refine wp_skip ?_
             refine c_seq (c_region ?_)
             refine pl_val (.bool true) (y_assign rfl) ?_
             refine c_nil ?_
             refine wp_ret ?_
             cases hs
             exact ⟨_, fr_ovl 96 ⟨rfl, trivial⟩, hC⟩

end Go.Proofs
