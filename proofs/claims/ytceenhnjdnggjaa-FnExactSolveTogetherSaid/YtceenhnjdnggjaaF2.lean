/- What functions of the program compute, as plain functions, and that a call gives just that. Conditions: those named in each theorem. -/
import Derived.Test.YtceenhnjdnggjaaF1
set_option linter.unusedVariables false
namespace Go.Proofs
open Go.G Go.RowKit
set_option maxRecDepth 100000

def k_laws_eqOp (M : Nat → Prop) (w0 : World) (r : Bool) (a : Act) (w : World) : Prop :=
  ∃ (σ : Nat → Value) , a = fr 16 (ovl σ [(4, (.bool r))]) ∧ Chg [] w0 w
def s_laws_eqOp (a_ : Int × (List Int)) (b : Int × (List Int)) : Option (Bool) :=
  (bif (a_.1 != b.1) then some false else (s_laws_eqIntS a_.2 b.2).bind fun r7 =>
  (bif (!r7) then some false else some true))
set_option maxHeartbeats 4000000 in
theorem c_laws_eqOp {M : Nat → Prop} {w : World} {pa0 : Option Addr} {pn0 pc0 : Nat} {pa1 : Option Addr} {pn1 pc1 : Nat} (a_ : Int × (List Int)) (b : Int × (List Int)) (h0 : (RT.rs (RT.int .i64)).val M w (.slice pa0 pn0 pc0) a_.2 ([])) (h1 : (RT.rs (RT.int .i64)).val M w (.slice pa1 pn1 pc1) b.2 ([])) (hM : ∀ g, w.heap.size ≤ g → M g) {r : Bool} (hs : s_laws_eqOp a_ b = some r) :
    Gives Try.prog 155 [(.agg #[(.int .i64 a_.1), (.slice pa0 pn0 pc0)]), (.agg #[(.int .i64 b.1), (.slice pa1 pn1 pc1)])] w (fun v w' => v = (.bool r) ∧ Chg [] w w') := by
  refine calls_fr Try.func155 rfl Try.ntmps155 (Nat.le_of_ble_eq_true rfl) ?_
  have hO := Own.start (N := Nw w []) hM Nw.fut
  have hC := Chg.refl [] w
  unfold s_laws_eqOp at hs
  refine wp_mono (Q := KPost (k_laws_eqOp M w r)) ?_ (fun e a w1 h => ?_)
  rotate_left
  · cases e
    case ret =>
      obtain ⟨σ, rfl, hrest⟩ := h
      exact ret1x Try.results155 (res_tmp rfl) ⟨rfl, hrest⟩
    all_goals exact (h : False).elim
  refine c_seq ?_
  refine c_region ?_
  obtain ⟨w3, g3, ew3, eg3, hC3, hb3⟩ := new_block w [(.int .i64 a_.1), (.slice pa0 pn0 pc0)] 82
  refine pl_val (w' := w3) (.pointer (some ⟨g3, 0, none⟩)) (y_box rfl (by rw [ew3, eg3]; kernel_rfl)) ?_
  have h0 := h0.ext hC3
  have h1 := h1.ext hC3
  have hC := hC.ext hC3
  have hO := hO.new (X' := [g3]) hC3 (fun q hq => by rw [List.mem_singleton.1 hq, eg3]; exact Nat.le_refl _) (List.nodup_cons.2 ⟨(fun h => nomatch h), List.nodup_nil⟩) (fun q hq => by rw [List.mem_singleton.1 hq]; exact hb3.lt)
  obtain ⟨w4, g4, ew4, eg4, hC4, hb4⟩ := new_block w3 [(.int .i64 b.1), (.slice pa1 pn1 pc1)] 82
  refine pl_val (w' := w4) (.pointer (some ⟨g4, 0, none⟩)) (y_box rfl (by rw [ew4, eg4]; kernel_rfl)) ?_
  have h0 := h0.ext hC4
  have h1 := h1.ext hC4
  have hb3 := hb3.chg hC4 (fun h => nomatch h)
  have hC := hC.ext hC4
  have hO := hO.new (X' := [g4]) hC4 (fun q hq => by rw [List.mem_singleton.1 hq, eg4]; exact Nat.le_refl _) (List.nodup_cons.2 ⟨(fun h => nomatch h), List.nodup_nil⟩) (fun q hq => by rw [List.mem_singleton.1 hq]; exact hb4.lt)
  refine pl_val (.bool false) (y_assign rfl) ?_
  refine c_nil ?_
  refine c_seq ?_
  refine c_seq ?_
  refine c_region ?_
  refine pl_val (.pointer (some ⟨g3, 0, none⟩)) (y_faddr rfl Fa82x0) ?_
  refine pl_val (.int .i64 a_.1) (y_load rfl ((box_load Ag3 Sz3 hb3 [] [(.int .i64 a_.1)] [(.slice pa0 pn0 pc0)] rfl rfl (fun _ => rfl)) _ (Chg.refl _ _))) ?_
  refine pl_val (.pointer (some ⟨g4, 0, none⟩)) (y_faddr rfl Fa82x0) ?_
  refine pl_val (.int .i64 b.1) (y_load rfl ((box_load Ag3 Sz3 hb4 [] [(.int .i64 b.1)] [(.slice pa1 pn1 pc1)] rfl rfl (fun _ => rfl)) _ (Chg.refl _ _))) ?_
  refine pl_val (.bool (a_.1 != b.1)) (y_neq rfl rfl) ?_
  refine c_nil ?_
  rcases bif_some hs with ⟨hc5, hs⟩ | ⟨hc5, hs⟩
  · skip
    refine c_condT (congrArg Value.bool hc5) ?_
    refine c_seq ?_
    refine c_region ?_
    refine pl_val (.bool false) (y_assign rfl) ?_
    refine c_nil ?_
    refine wp_ret ?_
    cases hs
    exact ⟨_, fr_ovl 16 ⟨rfl, trivial⟩, hC⟩
  · skip
    refine c_condF (congrArg Value.bool hc5) ?_
    refine wp_skip ?_
    refine c_seq ?_
    refine c_seq ?_
    refine c_region ?_
    refine pl_val (.pointer (some ⟨g3, 1, none⟩)) (y_faddr rfl Fa82x1) ?_
    refine pl_val (.slice pa0 pn0 pc0) (y_load rfl ((box_load Ag22 Sz22 hb3 [(.int .i64 a_.1)] [(.slice pa0 pn0 pc0)] [] rfl rfl (fun _ => rfl)) _ (Chg.refl _ _))) ?_
    refine pl_val (.pointer (some ⟨g4, 1, none⟩)) (y_faddr rfl Fa82x1) ?_
    refine pl_val (.slice pa1 pn1 pc1) (y_load rfl ((box_load Ag22 Sz22 hb4 [(.int .i64 b.1)] [(.slice pa1 pn1 pc1)] [] rfl rfl (fun _ => rfl)) _ (Chg.refl _ _))) ?_
    obtain ⟨r7, hr7, hs⟩ := bind_some hs
    refine pl_call Bd18 rfl (c_laws_eqIntS (M := M) a_.2 b.2 h0 h1 hO.fut hr7) ?_
    rintro _ w6 ⟨rfl, hC6⟩
    have h0 := h0.ext hC6
    have h1 := h1.ext hC6
    have hb3 := hb3.chg hC6 (fun h => nomatch h)
    have hb4 := hb4.chg hC6 (fun h => nomatch h)
    have hC := hC.ext hC6
    have hO := hO.ext hC6
    refine pl_val (.bool (!r7)) (y_not rfl) ?_
    refine c_nil ?_
    rcases bif_some hs with ⟨hc8, hs⟩ | ⟨hc8, hs⟩
    · skip
      refine c_condT (congrArg Value.bool hc8) ?_
      refine c_seq ?_
      refine c_region ?_
      refine pl_val (.bool false) (y_assign rfl) ?_
      refine c_nil ?_
      refine wp_ret ?_
      cases hs
      exact ⟨_, fr_ovl 16 ⟨rfl, trivial⟩, hC⟩
    · skip
      refine c_condF (congrArg Value.bool hc8) ?_
      refine wp_skip ?_
      refine c_seq ?_
      refine c_region ?_
      refine pl_val (.bool true) (y_assign rfl) ?_
      refine c_nil ?_
      refine wp_ret ?_
      cases hs
      exact ⟨_, fr_ovl 16 ⟨rfl, trivial⟩, hC⟩

theorem Bd155 : Bodied Try.prog 155 := bodied Try.func155 (by kernel_rfl) rfl

def k_laws_eqOpS (M : Nat → Prop) (w0 : World) (r : Bool) (a : Act) (w : World) : Prop :=
  ∃ (σ : Nat → Value) , a = fr 27 (ovl σ [(4, (.bool r))]) ∧ Chg [] w0 w
def s_laws_eqOpS (a_ : List (Int × (List Int))) (b : List (Int × (List Int))) : Option (Bool) :=
  (bif ((a_.length : Int) != (b.length : Int)) then some false else (forC (S := Unit) (R := Bool) (fun k18 s16 =>
  (idx a_ k18).bind fun x23 =>
  (idx b k18).bind fun x27 =>
  (s_laws_eqOp (x23.1, x23.2) (x27.1, x27.2)).bind fun r32 =>
  (bif (!r32) then some (.rt false) else some (.nx ()))) 0 (a_.length : Int) ()).bind fun o20 => after o20 (fun r_ => some r_) (fun s16 =>
  some true))
set_option maxHeartbeats 4000000 in
theorem c_laws_eqOpS {M : Nat → Prop} {w : World} {pa0 : Option Addr} {pn0 pc0 : Nat} {pa1 : Option Addr} {pn1 pc1 : Nat} (a_ : List (Int × (List Int))) (b : List (Int × (List Int))) (h0 : (RT.rs (RT.pr (RT.int .i64) (RT.rs (RT.int .i64)))).val M w (.slice pa0 pn0 pc0) a_ ([])) (h1 : (RT.rs (RT.pr (RT.int .i64) (RT.rs (RT.int .i64)))).val M w (.slice pa1 pn1 pc1) b ([])) (hM : ∀ g, w.heap.size ≤ g → M g) {r : Bool} (hs : s_laws_eqOpS a_ b = some r) :
    Gives Try.prog 102 [(.slice pa0 pn0 pc0), (.slice pa1 pn1 pc1)] w (fun v w' => v = (.bool r) ∧ Chg [] w w') := by
  refine calls_fr Try.func102 rfl Try.ntmps102 (Nat.le_of_ble_eq_true rfl) ?_
  have hO := Own.start (N := Nw w []) hM Nw.fut
  have hC := Chg.refl [] w
  unfold s_laws_eqOpS at hs
  refine wp_mono (Q := KPost (k_laws_eqOpS M w r)) ?_ (fun e a w1 h => ?_)
  rotate_left
  · cases e
    case ret =>
      obtain ⟨σ, rfl, hrest⟩ := h
      exact ret1x Try.results102 (res_tmp rfl) ⟨rfl, hrest⟩
    all_goals exact (h : False).elim
  refine c_seq ?_
  refine c_region ?_
  refine pl_val (.bool false) (y_assign rfl) ?_
  refine c_nil ?_
  refine c_seq ?_
  refine c_seq ?_
  refine c_region ?_
  refine pl_val (.slice pa0 pn0 pc0) (y_move rfl) ?_
  refine pl_val (.int .i64 (a_.length : Int)) (y_len' Sl60 (rs_len h0) rfl) ?_
  refine pl_val (.slice pa1 pn1 pc1) (y_move rfl) ?_
  refine pl_val (.int .i64 (b.length : Int)) (y_len' Sl60 (rs_len h1) rfl) ?_
  refine pl_val (.bool ((a_.length : Int) != (b.length : Int))) (y_neq rfl rfl) ?_
  refine c_nil ?_
  rcases bif_some hs with ⟨hc3, hs⟩ | ⟨hc3, hs⟩
  · skip
    refine c_condT (congrArg Value.bool hc3) ?_
    refine c_seq ?_
    refine c_region ?_
    refine pl_val (.bool false) (y_assign rfl) ?_
    refine c_nil ?_
    refine wp_ret ?_
    cases hs
    exact ⟨_, fr_ovl 27 ⟨rfl, trivial⟩, hC⟩
  · skip
    refine c_condF (congrArg Value.bool hc3) ?_
    refine wp_skip ?_
    refine c_seq ?_
    refine c_seq ?_
    refine c_region ?_
    refine pl_val (.int .i64 0) (y_assign rfl) ?_
    refine c_nil ?_
    obtain ⟨o20, hl21, hs⟩ := bind_some hs
    refine wp_block ?_
    refine wp_forC (id := 0) (a_.length : Int) (I := fun k18 s16 a w17 => ∃ (σ : Nat → Value), a = fr 27 (ovl σ [(0, (.slice pa0 pn0 pc0)), (1, (.slice pa1 pn1 pc1)), (5, (.int .i64 k18))]) ∧ Chg [] w w17 ∧ Own (Nw w []) M w17 ([]) ∧ (RT.rs (RT.pr (RT.int .i64) (RT.rs (RT.int .i64)))).val M w17 (.slice pa0 pn0 pc0) a_ ([]) ∧ (RT.rs (RT.pr (RT.int .i64) (RT.rs (RT.int .i64)))).val M w17 (.slice pa1 pn1 pc1) b ([])) (J := fun s16 a w17 => ∃ (σ : Nat → Value), a = fr 27 (ovl σ []) ∧ Chg [] w w17 ∧ Own (Nw w []) M w17 ([]) ∧ (RT.rs (RT.pr (RT.int .i64) (RT.rs (RT.int .i64)))).val M w17 (.slice pa0 pn0 pc0) a_ ([]) ∧ (RT.rs (RT.pr (RT.int .i64) (RT.rs (RT.int .i64)))).val M w17 (.slice pa1 pn1 pc1) b ([])) (K := (k_laws_eqOpS M w)) ?_ ?_ 0 () o20 _ _ ?_ hl21 ?_
    · rintro k18 s16 a w17 ⟨σ, rfl, hC, hO, h0, h1⟩ hlt
      refine c_seq ?_
      refine c_seq ?_
      refine c_region ?_
      refine pl_val (.int .i64 k18) (y_move rfl) ?_
      refine pl_val (.slice pa0 pn0 pc0) (y_move rfl) ?_
      refine pl_val (.int .i64 (a_.length : Int)) (y_len' Sl60 (rs_len h0) rfl) ?_
      refine pl_val (.bool (decide (k18 < (a_.length : Int)))) (y_lss rfl rfl) ?_
      refine c_nil ?_
      refine c_condF (congrArg Value.bool (decide_eq_false hlt)) ?_
      refine wp_exit ?_
      exact ⟨rfl, _, fr_ovl 27 trivial, hC, hO, h0, h1⟩
    · rintro k18 s16 o20 a w17 ⟨σ, rfl, hC, hO, h0, h1⟩ hlt hw hs
      refine c_seq ?_
      refine c_seq ?_
      refine c_region ?_
      refine pl_val (.int .i64 k18) (y_move rfl) ?_
      refine pl_val (.slice pa0 pn0 pc0) (y_move rfl) ?_
      refine pl_val (.int .i64 (a_.length : Int)) (y_len' Sl60 (rs_len h0) rfl) ?_
      refine pl_val (.bool (decide (k18 < (a_.length : Int)))) (y_lss rfl rfl) ?_
      refine c_nil ?_
      refine c_condT (congrArg Value.bool (decide_eq_true hlt)) ?_
      refine wp_skip ?_
      refine c_seq ?_
      refine wp_block ?_
      refine c_seq ?_
      refine x_start [] Mx rfl ?_
      have hCw22 := Chg.drew w17
      generalize World.drew w17 = w22 at hCw22 ⊢
      have h0 := h0.ext hCw22
      have h1 := h1.ext hCw22
      have hC := hC.ext hCw22
      have hO := hO.ext hCw22
      have hS := Chg.refl [] w22
      refine x_p 0 (.slice pa0 pn0 pc0) rfl (by kernel_rfl)  (fun _ => y_move rfl) (fun _ => hS) ?_
      refine x_p 1 (.int .i64 k18) rfl (by kernel_rfl)  (fun _ => y_move rfl) (fun _ => hS) ?_
      obtain ⟨x23, hx23, hs⟩ := bind_some hs
      obtain ⟨b24, o24, hp24, ha24⟩ := rs_idx Sl60 Sz82 h0 hx23
      refine x_p 2 (.pointer (some ⟨b24, o24, none⟩)) rfl (by kernel_rfl)  (fun _ => hp24 _ _ _ _ _ _ _ _ _ rfl rfl) (fun _ => hS) ?_
      obtain ⟨v25, hl25, hv25⟩ := at_load Ag82 Sz82 (by intro h; cases h) ha24
      obtain ⟨cs25, rfl, hr25⟩ := hv25
      obtain ⟨cc25x1, cd25x1, rfl, hh25x1, ht25x1⟩ := pr_open hr25
      obtain rfl := int_rel hh25x1
      obtain ⟨a25x2, n25x2, c25x2, rfl, hv25x2⟩ := rs_rel ht25x1
      refine x_l 3 (.agg #[(.int .i64 x23.1), (.slice a25x2 n25x2 c25x2)]) rfl (by kernel_rfl)  (fun w' hw' => y_load rfl (hl25 w' hw')) hS ?_
      refine x_p 4 (.slice pa1 pn1 pc1) rfl (by kernel_rfl)  (fun _ => y_move rfl) (fun _ => hS) ?_
      refine x_p 5 (.int .i64 k18) rfl (by kernel_rfl)  (fun _ => y_move rfl) (fun _ => hS) ?_
      obtain ⟨x27, hx27, hs⟩ := bind_some hs
      obtain ⟨b28, o28, hp28, ha28⟩ := rs_idx Sl60 Sz82 h1 hx27
      refine x_p 6 (.pointer (some ⟨b28, o28, none⟩)) rfl (by kernel_rfl)  (fun _ => hp28 _ _ _ _ _ _ _ _ _ rfl rfl) (fun _ => hS) ?_
      obtain ⟨v29, hl29, hv29⟩ := at_load Ag82 Sz82 (by intro h; cases h) ha28
      obtain ⟨cs29, rfl, hr29⟩ := hv29
      obtain ⟨cc29x1, cd29x1, rfl, hh29x1, ht29x1⟩ := pr_open hr29
      obtain rfl := int_rel hh29x1
      obtain ⟨a29x2, n29x2, c29x2, rfl, hv29x2⟩ := rs_rel ht29x1
      refine x_l 7 (.agg #[(.int .i64 x27.1), (.slice a29x2 n29x2 c29x2)]) rfl (by kernel_rfl)  (fun w' hw' => y_load rfl (hl29 w' hw')) hS ?_
      refine x_one (i := 8) (by kernel_rfl) ?_
      obtain ⟨r32, hr32, hs⟩ := bind_some hs
      refine xk_call (b := false) rfl  Bd155 rfl (c_laws_eqOp (M := M) (x23.1, x23.2) (x27.1, x27.2) hv25x2 hv29x2 hO.fut hr32) rfl (by rintro _ _ _ ⟨rfl, hC31⟩; exact hS.ext hC31) ?_
      rintro _ w31 ⟨rfl, hC31⟩
      have h0 := h0.ext hC31
      have h1 := h1.ext hC31
      have hv25x2 := hv25x2.ext hC31
      have hv29x2 := hv29x2.ext hC31
      have hC := hC.ext hC31
      have hO := hO.ext hC31
      have hS := hS.ext hC31
      refine x_p 9 (.bool (!r32)) rfl (by kernel_rfl)  (fun _ => y_not rfl) (fun _ => hS) ?_
      refine x_end (by kernel_rfl) ?_
      clear hS
      rcases bif_some hs with ⟨hc33, hs⟩ | ⟨hc33, hs⟩
      · skip
        refine c_condT (congrArg Value.bool hc33) ?_
        refine c_seq ?_
        refine c_region ?_
        refine pl_val (.bool false) (y_assign rfl) ?_
        refine c_nil ?_
        refine wp_ret ?_
        cases hs
        exact ⟨_, fr_ovl 27 ⟨rfl, trivial⟩, hC⟩
      · skip
        refine c_condF (congrArg Value.bool hc33) ?_
        refine wp_skip ?_
        refine c_region ?_
        refine pl_val (.int .i64 k18) (y_move rfl) ?_
        refine pl_val (.int .i64 (w64 (k18 + 1))) (y_add rfl rfl) ?_
        refine pl_val (.int .i64 (w64 (k18 + 1))) (y_assign rfl) ?_
        refine c_nil ?_
        cases hs
        exact ⟨_, fr_ovl 27 ⟨rfl, rfl, congrArg (Value.int .i64) hw, trivial⟩, hC, hO, h0, h1⟩
    · skip
      exact ⟨_, fr_ovl 27 ⟨rfl, rfl, rfl, trivial⟩, hC, hO, h0, h1⟩
    · cases o20 with
      | nx _ => exact True.intro
      | rt r_ =>
        have hs := after_rt hs
        intro a1 w1 hK
        cases hs
        exact hK
      | br s16 =>
        have hs := after_br hs
        rintro a1 w17 ⟨σ, rfl, hC, hO, h0, h1⟩
        refine c_seq ?_
        refine c_region ?_
        refine pl_val (.bool true) (y_assign rfl) ?_
        refine c_nil ?_
        refine wp_ret ?_
        cases hs
        exact ⟨_, fr_ovl 27 ⟨rfl, trivial⟩, hC⟩

theorem Bd102 : Bodied Try.prog 102 := bodied Try.func102 (by kernel_rfl) rfl

def k_laws_eqAlgebra (M : Nat → Prop) (w0 : World) (r : Bool) (a : Act) (w : World) : Prop :=
  ∃ (σ : Nat → Value) , a = fr 16 (ovl σ [(4, (.bool r))]) ∧ Chg [] w0 w
def s_laws_eqAlgebra (a_ : Int × (List (Int × (List Int)))) (b : Int × (List (Int × (List Int)))) : Option (Bool) :=
  (bif (a_.1 != b.1) then some false else (s_laws_eqOpS a_.2 b.2).bind fun r7 =>
  (bif (!r7) then some false else some true))
set_option maxHeartbeats 4000000 in
theorem c_laws_eqAlgebra {M : Nat → Prop} {w : World} {pa0 : Option Addr} {pn0 pc0 : Nat} {pa1 : Option Addr} {pn1 pc1 : Nat} (a_ : Int × (List (Int × (List Int)))) (b : Int × (List (Int × (List Int)))) (h0 : (RT.rs (RT.pr (RT.int .i64) (RT.rs (RT.int .i64)))).val M w (.slice pa0 pn0 pc0) a_.2 ([])) (h1 : (RT.rs (RT.pr (RT.int .i64) (RT.rs (RT.int .i64)))).val M w (.slice pa1 pn1 pc1) b.2 ([])) (hM : ∀ g, w.heap.size ≤ g → M g) {r : Bool} (hs : s_laws_eqAlgebra a_ b = some r) :
    Gives Try.prog 40 [(.agg #[(.int .i64 a_.1), (.slice pa0 pn0 pc0)]), (.agg #[(.int .i64 b.1), (.slice pa1 pn1 pc1)])] w (fun v w' => v = (.bool r) ∧ Chg [] w w') := by
  refine calls_fr Try.func40 rfl Try.ntmps40 (Nat.le_of_ble_eq_true rfl) ?_
  have hO := Own.start (N := Nw w []) hM Nw.fut
  have hC := Chg.refl [] w
  unfold s_laws_eqAlgebra at hs
  refine wp_mono (Q := KPost (k_laws_eqAlgebra M w r)) ?_ (fun e a w1 h => ?_)
  rotate_left
  · cases e
    case ret =>
      obtain ⟨σ, rfl, hrest⟩ := h
      exact ret1x Try.results40 (res_tmp rfl) ⟨rfl, hrest⟩
    all_goals exact (h : False).elim
  refine c_seq ?_
  refine c_region ?_
  obtain ⟨w3, g3, ew3, eg3, hC3, hb3⟩ := new_block w [(.int .i64 a_.1), (.slice pa0 pn0 pc0)] 62
  refine pl_val (w' := w3) (.pointer (some ⟨g3, 0, none⟩)) (y_box rfl (by rw [ew3, eg3]; kernel_rfl)) ?_
  have h0 := h0.ext hC3
  have h1 := h1.ext hC3
  have hC := hC.ext hC3
  have hO := hO.new (X' := [g3]) hC3 (fun q hq => by rw [List.mem_singleton.1 hq, eg3]; exact Nat.le_refl _) (List.nodup_cons.2 ⟨(fun h => nomatch h), List.nodup_nil⟩) (fun q hq => by rw [List.mem_singleton.1 hq]; exact hb3.lt)
  obtain ⟨w4, g4, ew4, eg4, hC4, hb4⟩ := new_block w3 [(.int .i64 b.1), (.slice pa1 pn1 pc1)] 62
  refine pl_val (w' := w4) (.pointer (some ⟨g4, 0, none⟩)) (y_box rfl (by rw [ew4, eg4]; kernel_rfl)) ?_
  have h0 := h0.ext hC4
  have h1 := h1.ext hC4
  have hb3 := hb3.chg hC4 (fun h => nomatch h)
  have hC := hC.ext hC4
  have hO := hO.new (X' := [g4]) hC4 (fun q hq => by rw [List.mem_singleton.1 hq, eg4]; exact Nat.le_refl _) (List.nodup_cons.2 ⟨(fun h => nomatch h), List.nodup_nil⟩) (fun q hq => by rw [List.mem_singleton.1 hq]; exact hb4.lt)
  refine pl_val (.bool false) (y_assign rfl) ?_
  refine c_nil ?_
  refine c_seq ?_
  refine c_seq ?_
  refine c_region ?_
  refine pl_val (.pointer (some ⟨g3, 0, none⟩)) (y_faddr rfl Fa62x0) ?_
  refine pl_val (.int .i64 a_.1) (y_load rfl ((box_load Ag3 Sz3 hb3 [] [(.int .i64 a_.1)] [(.slice pa0 pn0 pc0)] rfl rfl (fun _ => rfl)) _ (Chg.refl _ _))) ?_
  refine pl_val (.pointer (some ⟨g4, 0, none⟩)) (y_faddr rfl Fa62x0) ?_
  refine pl_val (.int .i64 b.1) (y_load rfl ((box_load Ag3 Sz3 hb4 [] [(.int .i64 b.1)] [(.slice pa1 pn1 pc1)] rfl rfl (fun _ => rfl)) _ (Chg.refl _ _))) ?_
  refine pl_val (.bool (a_.1 != b.1)) (y_neq rfl rfl) ?_
  refine c_nil ?_
  rcases bif_some hs with ⟨hc5, hs⟩ | ⟨hc5, hs⟩
  · skip
    refine c_condT (congrArg Value.bool hc5) ?_
    refine c_seq ?_
    refine c_region ?_
    refine pl_val (.bool false) (y_assign rfl) ?_
    refine c_nil ?_
    refine wp_ret ?_
    cases hs
    exact ⟨_, fr_ovl 16 ⟨rfl, trivial⟩, hC⟩
  · skip
    refine c_condF (congrArg Value.bool hc5) ?_
    refine wp_skip ?_
    refine c_seq ?_
    refine c_seq ?_
    refine c_region ?_
    refine pl_val (.pointer (some ⟨g3, 1, none⟩)) (y_faddr rfl Fa62x1) ?_
    refine pl_val (.slice pa0 pn0 pc0) (y_load rfl ((box_load Ag60 Sz60 hb3 [(.int .i64 a_.1)] [(.slice pa0 pn0 pc0)] [] rfl rfl (fun _ => rfl)) _ (Chg.refl _ _))) ?_
    refine pl_val (.pointer (some ⟨g4, 1, none⟩)) (y_faddr rfl Fa62x1) ?_
    refine pl_val (.slice pa1 pn1 pc1) (y_load rfl ((box_load Ag60 Sz60 hb4 [(.int .i64 b.1)] [(.slice pa1 pn1 pc1)] [] rfl rfl (fun _ => rfl)) _ (Chg.refl _ _))) ?_
    obtain ⟨r7, hr7, hs⟩ := bind_some hs
    refine pl_call Bd102 rfl (c_laws_eqOpS (M := M) a_.2 b.2 h0 h1 hO.fut hr7) ?_
    rintro _ w6 ⟨rfl, hC6⟩
    have h0 := h0.ext hC6
    have h1 := h1.ext hC6
    have hb3 := hb3.chg hC6 (fun h => nomatch h)
    have hb4 := hb4.chg hC6 (fun h => nomatch h)
    have hC := hC.ext hC6
    have hO := hO.ext hC6
    refine pl_val (.bool (!r7)) (y_not rfl) ?_
    refine c_nil ?_
    rcases bif_some hs with ⟨hc8, hs⟩ | ⟨hc8, hs⟩
    · skip
      refine c_condT (congrArg Value.bool hc8) ?_
      refine c_seq ?_
      refine c_region ?_
      refine pl_val (.bool false) (y_assign rfl) ?_
      refine c_nil ?_
      refine wp_ret ?_
      cases hs
      exact ⟨_, fr_ovl 16 ⟨rfl, trivial⟩, hC⟩
    · skip
      refine c_condF (congrArg Value.bool hc8) ?_
      refine wp_skip ?_
      refine c_seq ?_
      refine c_region ?_
      refine pl_val (.bool true) (y_assign rfl) ?_
      refine c_nil ?_
      refine wp_ret ?_
      cases hs
      exact ⟨_, fr_ovl 16 ⟨rfl, trivial⟩, hC⟩

def k_laws_eqIntSS (M : Nat → Prop) (w0 : World) (r : Bool) (a : Act) (w : World) : Prop :=
  ∃ (σ : Nat → Value) , a = fr 27 (ovl σ [(4, (.bool r))]) ∧ Chg [] w0 w
def s_laws_eqIntSS (a_ : List (List Int)) (b : List (List Int)) : Option (Bool) :=
  (bif ((a_.length : Int) != (b.length : Int)) then some false else (forC (S := Unit) (R := Bool) (fun k18 s16 =>
  (idx a_ k18).bind fun x23 =>
  (idx b k18).bind fun x27 =>
  (s_laws_eqIntS x23 x27).bind fun r32 =>
  (bif (!r32) then some (.rt false) else some (.nx ()))) 0 (a_.length : Int) ()).bind fun o20 => after o20 (fun r_ => some r_) (fun s16 =>
  some true))
set_option maxHeartbeats 4000000 in
theorem c_laws_eqIntSS {M : Nat → Prop} {w : World} {pa0 : Option Addr} {pn0 pc0 : Nat} {pa1 : Option Addr} {pn1 pc1 : Nat} (a_ : List (List Int)) (b : List (List Int)) (h0 : (RT.rs (RT.rs (RT.int .i64))).val M w (.slice pa0 pn0 pc0) a_ ([])) (h1 : (RT.rs (RT.rs (RT.int .i64))).val M w (.slice pa1 pn1 pc1) b ([])) (hM : ∀ g, w.heap.size ≤ g → M g) {r : Bool} (hs : s_laws_eqIntSS a_ b = some r) :
    Gives Try.prog 52 [(.slice pa0 pn0 pc0), (.slice pa1 pn1 pc1)] w (fun v w' => v = (.bool r) ∧ Chg [] w w') := by
  refine calls_fr Try.func52 rfl Try.ntmps52 (Nat.le_of_ble_eq_true rfl) ?_
  have hO := Own.start (N := Nw w []) hM Nw.fut
  have hC := Chg.refl [] w
  unfold s_laws_eqIntSS at hs
  refine wp_mono (Q := KPost (k_laws_eqIntSS M w r)) ?_ (fun e a w1 h => ?_)
  rotate_left
  · cases e
    case ret =>
      obtain ⟨σ, rfl, hrest⟩ := h
      exact ret1x Try.results52 (res_tmp rfl) ⟨rfl, hrest⟩
    all_goals exact (h : False).elim
  refine c_seq ?_
  refine c_region ?_
  refine pl_val (.bool false) (y_assign rfl) ?_
  refine c_nil ?_
  refine c_seq ?_
  refine c_seq ?_
  refine c_region ?_
  refine pl_val (.slice pa0 pn0 pc0) (y_move rfl) ?_
  refine pl_val (.int .i64 (a_.length : Int)) (y_len' Sl29 (rs_len h0) rfl) ?_
  refine pl_val (.slice pa1 pn1 pc1) (y_move rfl) ?_
  refine pl_val (.int .i64 (b.length : Int)) (y_len' Sl29 (rs_len h1) rfl) ?_
  refine pl_val (.bool ((a_.length : Int) != (b.length : Int))) (y_neq rfl rfl) ?_
  refine c_nil ?_
  rcases bif_some hs with ⟨hc3, hs⟩ | ⟨hc3, hs⟩
  · skip
    refine c_condT (congrArg Value.bool hc3) ?_
    refine c_seq ?_
    refine c_region ?_
    refine pl_val (.bool false) (y_assign rfl) ?_
    refine c_nil ?_
    refine wp_ret ?_
    cases hs
    exact ⟨_, fr_ovl 27 ⟨rfl, trivial⟩, hC⟩
  · skip
    refine c_condF (congrArg Value.bool hc3) ?_
    refine wp_skip ?_
    refine c_seq ?_
    refine c_seq ?_
    refine c_region ?_
    refine pl_val (.int .i64 0) (y_assign rfl) ?_
    refine c_nil ?_
    obtain ⟨o20, hl21, hs⟩ := bind_some hs
    refine wp_block ?_
    refine wp_forC (id := 0) (a_.length : Int) (I := fun k18 s16 a w17 => ∃ (σ : Nat → Value), a = fr 27 (ovl σ [(0, (.slice pa0 pn0 pc0)), (1, (.slice pa1 pn1 pc1)), (5, (.int .i64 k18))]) ∧ Chg [] w w17 ∧ Own (Nw w []) M w17 ([]) ∧ (RT.rs (RT.rs (RT.int .i64))).val M w17 (.slice pa0 pn0 pc0) a_ ([]) ∧ (RT.rs (RT.rs (RT.int .i64))).val M w17 (.slice pa1 pn1 pc1) b ([])) (J := fun s16 a w17 => ∃ (σ : Nat → Value), a = fr 27 (ovl σ []) ∧ Chg [] w w17 ∧ Own (Nw w []) M w17 ([]) ∧ (RT.rs (RT.rs (RT.int .i64))).val M w17 (.slice pa0 pn0 pc0) a_ ([]) ∧ (RT.rs (RT.rs (RT.int .i64))).val M w17 (.slice pa1 pn1 pc1) b ([])) (K := (k_laws_eqIntSS M w)) ?_ ?_ 0 () o20 _ _ ?_ hl21 ?_
    · rintro k18 s16 a w17 ⟨σ, rfl, hC, hO, h0, h1⟩ hlt
      refine c_seq ?_
      refine c_seq ?_
      refine c_region ?_
      refine pl_val (.int .i64 k18) (y_move rfl) ?_
      refine pl_val (.slice pa0 pn0 pc0) (y_move rfl) ?_
      refine pl_val (.int .i64 (a_.length : Int)) (y_len' Sl29 (rs_len h0) rfl) ?_
      refine pl_val (.bool (decide (k18 < (a_.length : Int)))) (y_lss rfl rfl) ?_
      refine c_nil ?_
      refine c_condF (congrArg Value.bool (decide_eq_false hlt)) ?_
      refine wp_exit ?_
      exact ⟨rfl, _, fr_ovl 27 trivial, hC, hO, h0, h1⟩
    · rintro k18 s16 o20 a w17 ⟨σ, rfl, hC, hO, h0, h1⟩ hlt hw hs
      refine c_seq ?_
      refine c_seq ?_
      refine c_region ?_
      refine pl_val (.int .i64 k18) (y_move rfl) ?_
      refine pl_val (.slice pa0 pn0 pc0) (y_move rfl) ?_
      refine pl_val (.int .i64 (a_.length : Int)) (y_len' Sl29 (rs_len h0) rfl) ?_
      refine pl_val (.bool (decide (k18 < (a_.length : Int)))) (y_lss rfl rfl) ?_
      refine c_nil ?_
      refine c_condT (congrArg Value.bool (decide_eq_true hlt)) ?_
      refine wp_skip ?_
      refine c_seq ?_
      refine wp_block ?_
      refine c_seq ?_
      refine x_start [] Mx rfl ?_
      have hCw22 := Chg.drew w17
      generalize World.drew w17 = w22 at hCw22 ⊢
      have h0 := h0.ext hCw22
      have h1 := h1.ext hCw22
      have hC := hC.ext hCw22
      have hO := hO.ext hCw22
      have hS := Chg.refl [] w22
      refine x_p 0 (.slice pa0 pn0 pc0) rfl (by kernel_rfl)  (fun _ => y_move rfl) (fun _ => hS) ?_
      refine x_p 1 (.int .i64 k18) rfl (by kernel_rfl)  (fun _ => y_move rfl) (fun _ => hS) ?_
      obtain ⟨x23, hx23, hs⟩ := bind_some hs
      obtain ⟨b24, o24, hp24, ha24⟩ := rs_idx Sl29 Sz22 h0 hx23
      refine x_p 2 (.pointer (some ⟨b24, o24, none⟩)) rfl (by kernel_rfl)  (fun _ => hp24 _ _ _ _ _ _ _ _ _ rfl rfl) (fun _ => hS) ?_
      obtain ⟨v25, hl25, hv25⟩ := at_load Ag22 Sz22 (fun _ => rfl) ha24
      obtain ⟨a25, n25, c25, rfl⟩ := rs_sl hv25
      refine x_l 3 (.slice a25 n25 c25) rfl (by kernel_rfl)  (fun w' hw' => y_load rfl (hl25 w' hw')) hS ?_
      refine x_p 4 (.slice pa1 pn1 pc1) rfl (by kernel_rfl)  (fun _ => y_move rfl) (fun _ => hS) ?_
      refine x_p 5 (.int .i64 k18) rfl (by kernel_rfl)  (fun _ => y_move rfl) (fun _ => hS) ?_
      obtain ⟨x27, hx27, hs⟩ := bind_some hs
      obtain ⟨b28, o28, hp28, ha28⟩ := rs_idx Sl29 Sz22 h1 hx27
      refine x_p 6 (.pointer (some ⟨b28, o28, none⟩)) rfl (by kernel_rfl)  (fun _ => hp28 _ _ _ _ _ _ _ _ _ rfl rfl) (fun _ => hS) ?_
      obtain ⟨v29, hl29, hv29⟩ := at_load Ag22 Sz22 (fun _ => rfl) ha28
      obtain ⟨a29, n29, c29, rfl⟩ := rs_sl hv29
      refine x_l 7 (.slice a29 n29 c29) rfl (by kernel_rfl)  (fun w' hw' => y_load rfl (hl29 w' hw')) hS ?_
      refine x_one (i := 8) (by kernel_rfl) ?_
      obtain ⟨r32, hr32, hs⟩ := bind_some hs
      refine xk_call (b := false) rfl  Bd18 rfl (c_laws_eqIntS (M := M) x23 x27 hv25 hv29 hO.fut hr32) rfl (by rintro _ _ _ ⟨rfl, hC31⟩; exact hS.ext hC31) ?_
      rintro _ w31 ⟨rfl, hC31⟩
      have h0 := h0.ext hC31
      have h1 := h1.ext hC31
      have hv25 := hv25.ext hC31
      have hv29 := hv29.ext hC31
      have hC := hC.ext hC31
      have hO := hO.ext hC31
      have hS := hS.ext hC31
      refine x_p 9 (.bool (!r32)) rfl (by kernel_rfl)  (fun _ => y_not rfl) (fun _ => hS) ?_
      refine x_end (by kernel_rfl) ?_
      clear hS
      rcases bif_some hs with ⟨hc33, hs⟩ | ⟨hc33, hs⟩
      · skip
        refine c_condT (congrArg Value.bool hc33) ?_
        refine c_seq ?_
        refine c_region ?_
        refine pl_val (.bool false) (y_assign rfl) ?_
        refine c_nil ?_
        refine wp_ret ?_
        cases hs
        exact ⟨_, fr_ovl 27 ⟨rfl, trivial⟩, hC⟩
      · skip
        refine c_condF (congrArg Value.bool hc33) ?_
        refine wp_skip ?_
        refine c_region ?_
        refine pl_val (.int .i64 k18) (y_move rfl) ?_
        refine pl_val (.int .i64 (w64 (k18 + 1))) (y_add rfl rfl) ?_
        refine pl_val (.int .i64 (w64 (k18 + 1))) (y_assign rfl) ?_
        refine c_nil ?_
        cases hs
        exact ⟨_, fr_ovl 27 ⟨rfl, rfl, congrArg (Value.int .i64) hw, trivial⟩, hC, hO, h0, h1⟩
    · skip
      exact ⟨_, fr_ovl 27 ⟨rfl, rfl, rfl, trivial⟩, hC, hO, h0, h1⟩
    · cases o20 with
      | nx _ => exact True.intro
      | rt r_ =>
        have hs := after_rt hs
        intro a1 w1 hK
        cases hs
        exact hK
      | br s16 =>
        have hs := after_br hs
        rintro a1 w17 ⟨σ, rfl, hC, hO, h0, h1⟩
        refine c_seq ?_
        refine c_region ?_
        refine pl_val (.bool true) (y_assign rfl) ?_
        refine c_nil ?_
        refine wp_ret ?_
        cases hs
        exact ⟨_, fr_ovl 27 ⟨rfl, trivial⟩, hC⟩

theorem Ag55 : AggT Try.prog 55 true := fun _ => by kernel_rfl

theorem Sz55 : SzT Try.prog 55 2 := ⟨_, rfl, rfl⟩

theorem Bd35 : Bodied Try.prog 35 := bodied Try.func35 (by kernel_rfl) rfl

theorem Bd48 : Bodied Try.prog 48 := bodied Try.func48 (by kernel_rfl) rfl

theorem Bd37 : Bodied Try.prog 37 := bodied Try.func37 (by kernel_rfl) rfl

theorem Bd50 : Bodied Try.prog 50 := bodied Try.func50 (by kernel_rfl) rfl

theorem Bd49 : Bodied Try.prog 49 := bodied Try.func49 (by kernel_rfl) rfl

theorem Bd51 : Bodied Try.prog 51 := bodied Try.func51 (by kernel_rfl) rfl

theorem Bd40 : Bodied Try.prog 40 := bodied Try.func40 (by kernel_rfl) rfl

theorem Bd52 : Bodied Try.prog 52 := bodied Try.func52 (by kernel_rfl) rfl

def k_laws_FnExactSolveTogether (M : Nat → Prop) (w0 : World) (r : Bool) (a : Act) (w : World) : Prop :=
  ∃ (σ : Nat → Value) , a = fr 74 (ovl σ [(6, (.bool r))]) ∧ Chg [] w0 w
def s_laws_FnExactSolveTogether (aA : Int × (List (Int × (List Int)))) (aCongruences : List (List Int)) (aElements : List Int) : Option (Bool) :=
  (bif (decide (1048576 < (aElements.length : Int))) then some true else (s_laws_szAlgebra (aA.1, aA.2) 1048576).bind fun r7 =>
  (bif (decide (r7 < 0)) then some true else (s_laws_szIntSS aCongruences r7).bind fun r10 =>
  (bif (decide (r10 < 0)) then some true else (s_laws_toAlgebra (aA.1, aA.2)).bind fun r13 =>
  (s_laws_toIntSS aCongruences).bind fun r16 =>
  (s_laws_toIntS aElements).bind fun r19 =>
  (s_spec_SolveTogether (r13.1, r13.2) r16 r19).bind fun r22 =>
  (s_laws_toAlgebra (aA.1, aA.2)).bind fun r24 =>
  (s_laws_toIntSS aCongruences).bind fun r29 =>
  (s_laws_toIntS aElements).bind fun r32 =>
  (s_impl_SolveTogether (r24.1, r24.2) r29 r32).bind fun r35 =>
  (bif ((r35.1 != r22.1) || (!(r35.2 == r22.2))) then some false else (s_laws_toAlgebra (aA.1, aA.2)).bind fun r49 =>
  (s_laws_eqAlgebra (r24.1, r24.2) (r49.1, r49.2)).bind fun r52 =>
  (bif (!r52) then some false else (s_laws_toIntSS aCongruences).bind fun r55 =>
  (s_laws_eqIntSS r29 r55).bind fun r58 =>
  (bif (!r58) then some false else (s_laws_toIntS aElements).bind fun r61 =>
  (s_laws_eqIntS r32 r61).bind fun r64 =>
  (bif (!r64) then some false else some true)))))))
set_option maxHeartbeats 4000000 in
theorem c_laws_FnExactSolveTogether {M : Nat → Prop} {w : World} {pa0 : Option Addr} {pn0 pc0 : Nat} {pa1 : Option Addr} {pn1 pc1 : Nat} {pa2 : Option Addr} {pn2 pc2 : Nat} (aA : Int × (List (Int × (List Int)))) (aCongruences : List (List Int)) (aElements : List Int) (h0 : (RT.rs (RT.pr (RT.int .i64) (RT.rs (RT.int .i64)))).val M w (.slice pa0 pn0 pc0) aA.2 ([])) (h1 : (RT.rs (RT.rs (RT.int .i64))).val M w (.slice pa1 pn1 pc1) aCongruences ([])) (h2 : (RT.rs (RT.int .i64)).val M w (.slice pa2 pn2 pc2) aElements ([])) (hM : ∀ g, w.heap.size ≤ g → M g) {r : Bool} (hs : s_laws_FnExactSolveTogether aA aCongruences aElements = some r) :
    Gives Try.prog 10 [(.agg #[(.int .i64 aA.1), (.slice pa0 pn0 pc0)]), (.slice pa1 pn1 pc1), (.slice pa2 pn2 pc2)] w (fun v w' => v = (.bool r) ∧ Chg [] w w') := by
  refine calls_fr Try.func10 rfl Try.ntmps10 (Nat.le_of_ble_eq_true rfl) ?_
  have hO := Own.start (N := Nw w []) hM Nw.fut
  have hC := Chg.refl [] w
  unfold s_laws_FnExactSolveTogether at hs
  refine wp_mono (Q := KPost (k_laws_FnExactSolveTogether M w r)) ?_ (fun e a w1 h => ?_)
  rotate_left
  · cases e
    case ret =>
      obtain ⟨σ, rfl, hrest⟩ := h
      exact ret1x Try.results10 (res_tmp rfl) ⟨rfl, hrest⟩
    all_goals exact (h : False).elim
  refine c_seq ?_
  refine c_region ?_
  obtain ⟨w4, g4, ew4, eg4, hC4, hb4⟩ := new_block w [(.int .i64 aA.1), (.slice pa0 pn0 pc0)] 55
  refine pl_val (w' := w4) (.pointer (some ⟨g4, 0, none⟩)) (y_box rfl (by rw [ew4, eg4]; kernel_rfl)) ?_
  have h0 := h0.ext hC4
  have h1 := h1.ext hC4
  have h2 := h2.ext hC4
  have hC := hC.ext hC4
  have hO := hO.new (X' := [g4]) hC4 (fun q hq => by rw [List.mem_singleton.1 hq, eg4]; exact Nat.le_refl _) (List.nodup_cons.2 ⟨(fun h => nomatch h), List.nodup_nil⟩) (fun q hq => by rw [List.mem_singleton.1 hq]; exact hb4.lt)
  refine pl_val (.bool false) (y_assign rfl) ?_
  refine c_nil ?_
  refine c_seq ?_
  refine c_seq ?_
  refine c_region ?_
  refine pl_val (.slice pa2 pn2 pc2) (y_move rfl) ?_
  refine pl_val (.int .i64 (aElements.length : Int)) (y_len' Sl22 (rs_len h2) rfl) ?_
  refine pl_val (.bool (decide (1048576 < (aElements.length : Int)))) (y_gtr rfl rfl) ?_
  refine c_nil ?_
  rcases bif_some hs with ⟨hc5, hs⟩ | ⟨hc5, hs⟩
  · skip
    refine c_condT (congrArg Value.bool hc5) ?_
    refine c_seq ?_
    refine c_region ?_
    refine pl_val (.bool true) (y_assign rfl) ?_
    refine c_nil ?_
    refine wp_ret ?_
    cases hs
    exact ⟨_, fr_ovl 74 ⟨rfl, trivial⟩, hC⟩
  · skip
    refine c_condF (congrArg Value.bool hc5) ?_
    refine wp_skip ?_
    refine c_seq ?_
    refine c_region ?_
    refine pl_val (.int .i64 1048576) (y_assign rfl) ?_
    refine c_nil ?_
    refine c_seq ?_
    refine c_region ?_
    refine pl_val (.agg #[(.int .i64 aA.1), (.slice pa0 pn0 pc0)]) (y_load rfl ((box_load Ag55 Sz55 hb4 [] [(.int .i64 aA.1), (.slice pa0 pn0 pc0)] [] rfl rfl (fun h => nomatch h)) _ (Chg.refl _ _))) ?_
    refine pl_val (.int .i64 1048576) (y_move rfl) ?_
    obtain ⟨r7, hr7, hs⟩ := bind_some hs
    refine pl_call Bd35 rfl (c_laws_szAlgebra (M := M) (aA.1, aA.2) 1048576 h0 hO.fut hr7) ?_
    rintro _ w6 ⟨rfl, hC6⟩
    have h0 := h0.ext hC6
    have h1 := h1.ext hC6
    have h2 := h2.ext hC6
    have hb4 := hb4.chg hC6 (fun h => nomatch h)
    have hC := hC.ext hC6
    have hO := hO.ext hC6
    refine pl_val (.int .i64 r7) (y_assign rfl) ?_
    refine c_nil ?_
    refine c_seq ?_
    refine c_seq ?_
    refine c_region ?_
    refine pl_val (.int .i64 r7) (y_move rfl) ?_
    refine pl_val (.bool (decide (r7 < 0))) (y_lss rfl rfl) ?_
    refine c_nil ?_
    rcases bif_some hs with ⟨hc8, hs⟩ | ⟨hc8, hs⟩
    · skip
      refine c_condT (congrArg Value.bool hc8) ?_
      refine c_seq ?_
      refine c_region ?_
      refine pl_val (.bool true) (y_assign rfl) ?_
      refine c_nil ?_
      refine wp_ret ?_
      cases hs
      exact ⟨_, fr_ovl 74 ⟨rfl, trivial⟩, hC⟩
    · skip
      refine c_condF (congrArg Value.bool hc8) ?_
      refine wp_skip ?_
      refine c_seq ?_
      refine c_region ?_
      refine pl_val (.slice pa1 pn1 pc1) (y_move rfl) ?_
      refine pl_val (.int .i64 r7) (y_move rfl) ?_
      obtain ⟨r10, hr10, hs⟩ := bind_some hs
      refine pl_call Bd48 rfl (c_laws_szIntSS (M := M) aCongruences r7 h1 hO.fut hr10) ?_
      rintro _ w9 ⟨rfl, hC9⟩
      have h0 := h0.ext hC9
      have h1 := h1.ext hC9
      have h2 := h2.ext hC9
      have hb4 := hb4.chg hC9 (fun h => nomatch h)
      have hC := hC.ext hC9
      have hO := hO.ext hC9
      refine pl_val (.int .i64 r10) (y_assign rfl) ?_
      refine c_nil ?_
      refine c_seq ?_
      refine c_seq ?_
      refine c_region ?_
      refine pl_val (.int .i64 r10) (y_move rfl) ?_
      refine pl_val (.bool (decide (r10 < 0))) (y_lss rfl rfl) ?_
      refine c_nil ?_
      rcases bif_some hs with ⟨hc11, hs⟩ | ⟨hc11, hs⟩
      · skip
        refine c_condT (congrArg Value.bool hc11) ?_
        refine c_seq ?_
        refine c_region ?_
        refine pl_val (.bool true) (y_assign rfl) ?_
        refine c_nil ?_
        refine wp_ret ?_
        cases hs
        exact ⟨_, fr_ovl 74 ⟨rfl, trivial⟩, hC⟩
      · skip
        refine c_condF (congrArg Value.bool hc11) ?_
        refine wp_skip ?_
        refine c_seq ?_
        refine c_region ?_
        refine pl_val (.agg #[(.int .i64 aA.1), (.slice pa0 pn0 pc0)]) (y_load rfl ((box_load Ag55 Sz55 hb4 [] [(.int .i64 aA.1), (.slice pa0 pn0 pc0)] [] rfl rfl (fun h => nomatch h)) _ (Chg.refl _ _))) ?_
        obtain ⟨r13, hr13, hs⟩ := bind_some hs
        refine pl_call Bd37 rfl (c_laws_toAlgebra (M := M) (aA.1, aA.2) h0 hO.fut hr13) ?_
        rintro _ w12 ⟨a12x0, n12x0, c12x0, f12x0, rfl, hC12, hv12x0, hOc12⟩
        have h0 := h0.ext hC12
        have h1 := h1.ext hC12
        have h2 := h2.ext hC12
        have hb4 := hb4.chg hC12 (fun h => nomatch h)
        have hC := hC.ext hC12
        have hO := Own.join0 hO hC12 hOc12
        have hO := hO.perm (R := f12x0 ++ (([g4]) ++ ([]))) (by simp)
        refine pl_val (.slice pa1 pn1 pc1) (y_move rfl) ?_
        obtain ⟨r16, hr16, hs⟩ := bind_some hs
        refine pl_call Bd50 rfl (c_laws_toIntSS (M := M) aCongruences h1 hO.fut hr16) ?_
        rintro _ w15 ⟨a15x0, n15x0, c15x0, f15x0, rfl, hC15, hv15x0, hOc15⟩
        have h0 := h0.ext hC15
        have h1 := h1.ext hC15
        have h2 := h2.ext hC15
        have hb4 := hb4.chg hC15 (fun h => nomatch h)
        have hv12x0 := hv12x0.ext hC15
        have hC := hC.ext hC15
        have hO := Own.join0 hO hC15 hOc15
        have hO := hO.perm (R := f15x0 ++ (f12x0 ++ (([g4]) ++ ([])))) (by simp)
        refine pl_val (.slice pa2 pn2 pc2) (y_move rfl) ?_
        obtain ⟨r19, hr19, hs⟩ := bind_some hs
        refine pl_call Bd16 rfl (c_laws_toIntS (M := M) aElements h2 hO.fut hr19) ?_
        rintro _ w18 ⟨a18x0, n18x0, c18x0, f18x0, rfl, hC18, hv18x0, hOc18⟩
        have h0 := h0.ext hC18
        have h1 := h1.ext hC18
        have h2 := h2.ext hC18
        have hb4 := hb4.chg hC18 (fun h => nomatch h)
        have hv12x0 := hv12x0.ext hC18
        have hv15x0 := hv15x0.ext hC18
        have hC := hC.ext hC18
        have hO := Own.join0 hO hC18 hOc18
        have hO := hO.perm (R := f18x0 ++ (f15x0 ++ (f12x0 ++ (([g4]) ++ ([]))))) (by simp)
        have hO := hO.fr1
        have hO := hO.fr2
        obtain ⟨r22, hr22, hs⟩ := bind_some hs
        refine pl_call Bd49 rfl (c_spec_SolveTogether (M := (Less (Less (Less M f12x0) f15x0) f18x0)) (r13.1, r13.2) r16 r19 (((((Frz.os (Frz.pr Frz.int (Frz.os Frz.int)))).val hv12x0 Less.sub Less.not).sub Less.sub).sub Less.sub) ((((Frz.os (Frz.os Frz.int))).val (hv15x0.sub Less.sub) Less.sub Less.not).sub Less.sub) (((Frz.os Frz.int)).val ((hv18x0.sub Less.sub).sub Less.sub) Less.sub Less.not) ((hO.less).less).less.fut hr22) ?_
        rintro _ w21 ⟨rfl, hC21⟩
        have h0 := h0.ext hC21
        have h1 := h1.ext hC21
        have h2 := h2.ext hC21
        have hb4 := hb4.chg hC21 (fun h => nomatch h)
        have hv12x0 := hv12x0.ext hC21
        have hv15x0 := hv15x0.ext hC21
        have hv18x0 := hv18x0.ext hC21
        have hC := hC.ext hC21
        have hO := hO.ext hC21
        refine pl_val (.tuple #[(.int .i64 r22.1), (.bool r22.2)]) (y_move rfl) ?_
        refine pl_val (.int .i64 r22.1) (y_extract rfl (by kernel_rfl)) ?_
        refine pl_val (.bool r22.2) (y_extract rfl (by kernel_rfl)) ?_
        refine pl_val (.int .i64 r22.1) (y_assign rfl) ?_
        refine pl_val (.bool r22.2) (y_assign rfl) ?_
        refine c_nil ?_
        refine c_seq ?_
        refine c_region ?_
        refine pl_val (.agg #[(.int .i64 aA.1), (.slice pa0 pn0 pc0)]) (y_load rfl ((box_load Ag55 Sz55 hb4 [] [(.int .i64 aA.1), (.slice pa0 pn0 pc0)] [] rfl rfl (fun h => nomatch h)) _ (Chg.refl _ _))) ?_
        obtain ⟨r24, hr24, hs⟩ := bind_some hs
        refine pl_call Bd37 rfl (c_laws_toAlgebra (M := M) (aA.1, aA.2) h0 hO.fut hr24) ?_
        rintro _ w23 ⟨a23x0, n23x0, c23x0, f23x0, rfl, hC23, hv23x0, hOc23⟩
        have h0 := h0.ext hC23
        have h1 := h1.ext hC23
        have h2 := h2.ext hC23
        have hb4 := hb4.chg hC23 (fun h => nomatch h)
        have hv12x0 := hv12x0.ext hC23
        have hv15x0 := hv15x0.ext hC23
        have hv18x0 := hv18x0.ext hC23
        have hC := hC.ext hC23
        have hO := Own.join0 hO hC23 hOc23
        have hO := hO.perm (R := f23x0 ++ (f12x0 ++ (f15x0 ++ (f18x0 ++ (([g4]) ++ ([])))))) (by simp)
        obtain ⟨w26, g26, ew26, eg26, hC26, hb26⟩ := new_block w23 [(.int .i64 0), (.slice none 0 0)] 62
        refine pl_val (w' := w26) (.pointer (some ⟨g26, 0, none⟩)) (y_alloc (by rw [ew26, eg26]; kernel_rfl)) ?_
        have h0 := h0.ext hC26
        have h1 := h1.ext hC26
        have h2 := h2.ext hC26
        have hb4 := hb4.chg hC26 (fun h => nomatch h)
        have hv12x0 := hv12x0.ext hC26
        have hv15x0 := hv15x0.ext hC26
        have hv18x0 := hv18x0.ext hC26
        have hv23x0 := hv23x0.ext hC26
        have hC := hC.ext hC26
        have hO := hO.new (X' := [g26]) hC26 (fun q hq => by rw [List.mem_singleton.1 hq, eg26]; exact Nat.le_refl _) (List.nodup_cons.2 ⟨(fun h => nomatch h), List.nodup_nil⟩) (fun q hq => by rw [List.mem_singleton.1 hq]; exact hb26.lt)
        obtain ⟨w27, hst27, hC27, hb27⟩ := box_store (P := Try.prog) hb26 [] [(.int .i64 0), (.slice none 0 0)] [] [(.int .i64 r24.1), (.slice a23x0 n23x0 c23x0)] rfl rfl (by intro u hu; simp only [List.mem_cons, List.not_mem_nil, or_false] at hu; rcases hu with rfl | rfl <;> rfl)
        refine pl_skip (w' := w27) (ys_store rfl rfl (hst27 _ _ rfl Sz62)) ?_
        have h0 := h0.mut hC27 (fun g hg => hO.inM g ((fun _ h => h) g hg)) (fun _ _ h => nomatch h)
        have h1 := h1.mut hC27 (fun g hg => hO.inM g ((fun _ h => h) g hg)) (fun _ _ h => nomatch h)
        have h2 := h2.mut hC27 (fun g hg => hO.inM g ((fun _ h => h) g hg)) (fun _ _ h => nomatch h)
        have hb4 := hb4.chg hC27 (fun hg => hO.apart _ ((fun _ h => h) _ hg) (mem_r (mem_r (mem_r (mem_r (mem_l (List.mem_singleton.2 rfl)))))))
        have hv12x0 := hv12x0.mut hC27 (fun g hg => hO.inM g ((fun _ h => h) g hg)) (fun g hg e => hO.apart g ((fun _ h => h) g hg) (mem_r (mem_l (e))))
        have hv15x0 := hv15x0.mut hC27 (fun g hg => hO.inM g ((fun _ h => h) g hg)) (fun g hg e => hO.apart g ((fun _ h => h) g hg) (mem_r (mem_r (mem_l (e)))))
        have hv18x0 := hv18x0.mut hC27 (fun g hg => hO.inM g ((fun _ h => h) g hg)) (fun g hg e => hO.apart g ((fun _ h => h) g hg) (mem_r (mem_r (mem_r (mem_l (e))))))
        have hv23x0 := hv23x0.mut hC27 (fun g hg => hO.inM g ((fun _ h => h) g hg)) (fun g hg e => hO.apart g ((fun _ h => h) g hg) (mem_l (e)))
        have hC := hC.step hC27 (fun g hg => hO.inN g ((fun _ h => h) g hg))
        have hO := hO.ext hC27
        have hb27 : BoxV w27 g26 62 [(.int .i64 r24.1), (.slice a23x0 n23x0 c23x0)] := hb27
        refine c_nil ?_
        refine c_seq ?_
        refine c_region ?_
        refine pl_val (.slice pa1 pn1 pc1) (y_move rfl) ?_
        obtain ⟨r29, hr29, hs⟩ := bind_some hs
        refine pl_call Bd50 rfl (c_laws_toIntSS (M := M) aCongruences h1 hO.fut hr29) ?_
        rintro _ w28 ⟨a28x0, n28x0, c28x0, f28x0, rfl, hC28, hv28x0, hOc28⟩
        have h0 := h0.ext hC28
        have h1 := h1.ext hC28
        have h2 := h2.ext hC28
        have hb4 := hb4.chg hC28 (fun h => nomatch h)
        have hv12x0 := hv12x0.ext hC28
        have hv15x0 := hv15x0.ext hC28
        have hv18x0 := hv18x0.ext hC28
        have hv23x0 := hv23x0.ext hC28
        have hb27 := hb27.chg hC28 (fun h => nomatch h)
        have hC := hC.ext hC28
        have hO := Own.join0 hO hC28 hOc28
        have hO := hO.perm (R := f28x0 ++ (([g26]) ++ (f23x0 ++ (f12x0 ++ (f15x0 ++ (f18x0 ++ (([g4]) ++ ([])))))))) (by simp)
        refine pl_val (.slice a28x0 n28x0 c28x0) (y_assign rfl) ?_
        refine c_nil ?_
        refine c_seq ?_
        refine c_region ?_
        refine pl_val (.slice pa2 pn2 pc2) (y_move rfl) ?_
        obtain ⟨r32, hr32, hs⟩ := bind_some hs
        refine pl_call Bd16 rfl (c_laws_toIntS (M := M) aElements h2 hO.fut hr32) ?_
        rintro _ w31 ⟨a31x0, n31x0, c31x0, f31x0, rfl, hC31, hv31x0, hOc31⟩
        have h0 := h0.ext hC31
        have h1 := h1.ext hC31
        have h2 := h2.ext hC31
        have hb4 := hb4.chg hC31 (fun h => nomatch h)
        have hv12x0 := hv12x0.ext hC31
        have hv15x0 := hv15x0.ext hC31
        have hv18x0 := hv18x0.ext hC31
        have hv23x0 := hv23x0.ext hC31
        have hb27 := hb27.chg hC31 (fun h => nomatch h)
        have hv28x0 := hv28x0.ext hC31
        have hC := hC.ext hC31
        have hO := Own.join0 hO hC31 hOc31
        have hO := hO.perm (R := f31x0 ++ (f28x0 ++ (([g26]) ++ (f23x0 ++ (f12x0 ++ (f15x0 ++ (f18x0 ++ (([g4]) ++ ([]))))))))) (by simp)
        refine pl_val (.slice a31x0 n31x0 c31x0) (y_assign rfl) ?_
        refine c_nil ?_
        refine c_seq ?_
        refine c_region ?_
        refine pl_val (.agg #[(.int .i64 r24.1), (.slice a23x0 n23x0 c23x0)]) (y_load rfl ((box_load Ag62 Sz62 hb27 [] [(.int .i64 r24.1), (.slice a23x0 n23x0 c23x0)] [] rfl rfl (fun h => nomatch h)) _ (Chg.refl _ _))) ?_
        refine pl_val (.slice a28x0 n28x0 c28x0) (y_move rfl) ?_
        refine pl_val (.slice a31x0 n31x0 c31x0) (y_move rfl) ?_
        have hO := hO.fr1
        have hO := hO.fr3
        obtain ⟨r35, hr35, hs⟩ := bind_some hs
        refine pl_call Bd51 rfl (c_impl_SolveTogether (M := (Less (Less (Less M f23x0) f28x0) f31x0)) (r24.1, r24.2) r29 r32 (((((Frz.os (Frz.pr Frz.int (Frz.os Frz.int)))).val hv23x0 Less.sub Less.not).sub Less.sub).sub Less.sub) ((((Frz.os (Frz.os Frz.int))).val (hv28x0.sub Less.sub) Less.sub Less.not).sub Less.sub) (((Frz.os Frz.int)).val ((hv31x0.sub Less.sub).sub Less.sub) Less.sub Less.not) ((hO.less).less).less.fut hr35) ?_
        rintro _ w34 ⟨rfl, hC34⟩
        have h0 := h0.ext hC34
        have h1 := h1.ext hC34
        have h2 := h2.ext hC34
        have hb4 := hb4.chg hC34 (fun h => nomatch h)
        have hv12x0 := hv12x0.ext hC34
        have hv15x0 := hv15x0.ext hC34
        have hv18x0 := hv18x0.ext hC34
        have hv23x0 := hv23x0.ext hC34
        have hb27 := hb27.chg hC34 (fun h => nomatch h)
        have hv28x0 := hv28x0.ext hC34
        have hv31x0 := hv31x0.ext hC34
        have hC := hC.ext hC34
        have hO := hO.ext hC34
        refine pl_val (.tuple #[(.int .i64 r35.1), (.bool r35.2)]) (y_move rfl) ?_
        refine pl_val (.int .i64 r35.1) (y_extract rfl (by kernel_rfl)) ?_
        refine pl_val (.bool r35.2) (y_extract rfl (by kernel_rfl)) ?_
        refine pl_val (.int .i64 r35.1) (y_assign rfl) ?_
        refine pl_val (.bool r35.2) (y_assign rfl) ?_
        refine c_nil ?_
        refine c_seq ?_
        refine c_seq ?_
        refine c_mid (I := fun a w37 => ∃ (σ : Nat → Value), a = fr 74 (ovl σ [(1, (.slice pa1 pn1 pc1)), (2, (.slice pa2 pn2 pc2)), (3, (.pointer (some ⟨g4, 0, none⟩))), (6, (.bool false)), (10, (.pointer (some ⟨g26, 0, none⟩))), (11, (.slice a28x0 n28x0 c28x0)), (12, (.slice a31x0 n31x0 c31x0)), (58, (.bool ((r35.1 != r22.1) || (!(r35.2 == r22.2)))))]) ∧ Chg [] w34 w37) ?_ ?_
        · have hMid := Chg.refl [] w34
          refine c_region ?_
          refine pl_val (.int .i64 r35.1) (y_move rfl) ?_
          refine pl_val (.int .i64 r22.1) (y_move rfl) ?_
          refine pl_val (.bool (r35.1 != r22.1)) (y_neq rfl rfl) ?_
          refine pl_val (.bool (r35.1 != r22.1)) (y_move rfl) ?_
          rcases Bool.eq_false_or_eq_true ((r35.1 != r22.1)) with hc39 | hc39
          · skip
            refine pl_not (tg := 54) (by kernel_rfl) (congrArg Value.bool hc39) ?_
            refine pl_not (tg := 54) (by kernel_rfl) (congrArg Value.bool hc39) ?_
            refine pl_not (tg := 54) (by kernel_rfl) (congrArg Value.bool hc39) ?_
            refine pl_val (.bool ((r35.1 != r22.1) || (!(r35.2 == r22.2)))) (y_pick_t (congrArg Value.bool hc39) (congrArg Value.bool (by rw [hc39]; rfl))) ?_
            refine c_nil ?_
            exact ⟨_, fr_ovl 74 ⟨rfl, rfl, rfl, rfl, rfl, rfl, rfl, rfl, trivial⟩, hMid⟩
          · skip
            refine pl_yes (.bool r35.2) (tg := 54) (by kernel_rfl) (congrArg Value.bool hc39) (y_move rfl) ?_
            refine pl_yes (.bool r22.2) (tg := 54) (by kernel_rfl) (congrArg Value.bool hc39) (y_move rfl) ?_
            refine pl_yes (.bool (!(r35.2 == r22.2))) (tg := 54) (by kernel_rfl) (congrArg Value.bool hc39) (y_bneq Try.underlying4 rfl rfl) ?_
            refine pl_val (.bool ((r35.1 != r22.1) || (!(r35.2 == r22.2)))) (y_pick_f (congrArg Value.bool hc39) (congrArg Value.bool (by rw [hc39]; rfl))) ?_
            refine c_nil ?_
            exact ⟨_, fr_ovl 74 ⟨rfl, rfl, rfl, rfl, rfl, rfl, rfl, rfl, trivial⟩, hMid⟩
        · rintro a1 w37 ⟨σ, rfl, hCs36⟩
          have h0 := h0.ext hCs36
          have h1 := h1.ext hCs36
          have h2 := h2.ext hCs36
          have hb4 := hb4.chg hCs36 (fun h => nomatch h)
          have hv12x0 := hv12x0.ext hCs36
          have hv15x0 := hv15x0.ext hCs36
          have hv18x0 := hv18x0.ext hCs36
          have hv23x0 := hv23x0.ext hCs36
          have hb27 := hb27.chg hCs36 (fun h => nomatch h)
          have hv28x0 := hv28x0.ext hCs36
          have hv31x0 := hv31x0.ext hCs36
          have hC := hC.ext hCs36
          have hO := hO.ext hCs36
          rcases bif_some hs with ⟨hc40, hs⟩ | ⟨hc40, hs⟩
          · skip
            refine c_condT (congrArg Value.bool hc40) ?_
            refine c_seq ?_
            refine c_region ?_
            refine pl_val (.bool false) (y_assign rfl) ?_
            refine c_nil ?_
            refine wp_ret ?_
            cases hs
            exact ⟨_, fr_ovl 74 ⟨rfl, trivial⟩, hC⟩
          · skip
            refine c_condF (congrArg Value.bool hc40) ?_
            refine wp_skip ?_
            refine c_seq ?_
            refine c_seq ?_
            refine x_start [] Mx rfl ?_
            have hCw47 := Chg.drew w37
            generalize World.drew w37 = w47 at hCw47 ⊢
            have h0 := h0.ext hCw47
            have h1 := h1.ext hCw47
            have h2 := h2.ext hCw47
            have hb4 := hb4.chg hCw47 (fun h => nomatch h)
            have hv12x0 := hv12x0.ext hCw47
            have hv15x0 := hv15x0.ext hCw47
            have hv18x0 := hv18x0.ext hCw47
            have hv23x0 := hv23x0.ext hCw47
            have hb27 := hb27.chg hCw47 (fun h => nomatch h)
            have hv28x0 := hv28x0.ext hCw47
            have hv31x0 := hv31x0.ext hCw47
            have hC := hC.ext hCw47
            have hO := hO.ext hCw47
            have hS := Chg.refl [] w47
            refine x_l 0 (.agg #[(.int .i64 r24.1), (.slice a23x0 n23x0 c23x0)]) rfl (by kernel_rfl)  (fun w' hw' => y_load rfl ((box_load Ag62 Sz62 hb27 [] [(.int .i64 r24.1), (.slice a23x0 n23x0 c23x0)] [] rfl rfl (fun h => nomatch h)) w' hw')) hS ?_
            refine x_l 1 (.agg #[(.int .i64 aA.1), (.slice pa0 pn0 pc0)]) rfl (by kernel_rfl)  (fun w' hw' => y_load rfl ((box_load Ag55 Sz55 hb4 [] [(.int .i64 aA.1), (.slice pa0 pn0 pc0)] [] rfl rfl (fun h => nomatch h)) w' hw')) hS ?_
            refine x_one (i := 2) (by kernel_rfl) ?_
            obtain ⟨r49, hr49, hs⟩ := bind_some hs
            refine xk_call (b := false) rfl  Bd37 rfl (c_laws_toAlgebra (M := M) (aA.1, aA.2) h0 hO.fut hr49) rfl (by rintro _ _ _ ⟨a48x0, n48x0, c48x0, f48x0, rfl, hC48, hv48x0, hOc48⟩; exact hS.ext hC48) ?_
            rintro _ w48 ⟨a48x0, n48x0, c48x0, f48x0, rfl, hC48, hv48x0, hOc48⟩
            have h0 := h0.ext hC48
            have h1 := h1.ext hC48
            have h2 := h2.ext hC48
            have hb4 := hb4.chg hC48 (fun h => nomatch h)
            have hv12x0 := hv12x0.ext hC48
            have hv15x0 := hv15x0.ext hC48
            have hv18x0 := hv18x0.ext hC48
            have hv23x0 := hv23x0.ext hC48
            have hb27 := hb27.chg hC48 (fun h => nomatch h)
            have hv28x0 := hv28x0.ext hC48
            have hv31x0 := hv31x0.ext hC48
            have hC := hC.ext hC48
            have hO := Own.join0 hO hC48 hOc48
            have hO := hO.perm (R := f48x0 ++ (f23x0 ++ (f28x0 ++ (f31x0 ++ (([g26]) ++ (f12x0 ++ (f15x0 ++ (f18x0 ++ (([g4]) ++ ([])))))))))) (by simp)
            have hS := hS.ext hC48
            refine x_one (i := 3) (by kernel_rfl) ?_
            have hO := hO.fr1
            obtain ⟨r52, hr52, hs⟩ := bind_some hs
            refine xk_call (b := false) rfl  Bd40 rfl (c_laws_eqAlgebra (M := (Less (Less M f23x0) f48x0)) (r24.1, r24.2) (r49.1, r49.2) ((((Frz.os (Frz.pr Frz.int (Frz.os Frz.int)))).val hv23x0 Less.sub Less.not).sub Less.sub) (((Frz.os (Frz.pr Frz.int (Frz.os Frz.int)))).val (hv48x0.sub Less.sub) Less.sub Less.not) (hO.less).less.fut hr52) rfl (by rintro _ _ _ ⟨rfl, hC51⟩; exact hS.ext hC51) ?_
            rintro _ w51 ⟨rfl, hC51⟩
            have h0 := h0.ext hC51
            have h1 := h1.ext hC51
            have h2 := h2.ext hC51
            have hb4 := hb4.chg hC51 (fun h => nomatch h)
            have hv12x0 := hv12x0.ext hC51
            have hv15x0 := hv15x0.ext hC51
            have hv18x0 := hv18x0.ext hC51
            have hv23x0 := hv23x0.ext hC51
            have hb27 := hb27.chg hC51 (fun h => nomatch h)
            have hv28x0 := hv28x0.ext hC51
            have hv31x0 := hv31x0.ext hC51
            have hv48x0 := hv48x0.ext hC51
            have hC := hC.ext hC51
            have hO := hO.ext hC51
            have hS := hS.ext hC51
            refine x_p 4 (.bool (!r52)) rfl (by kernel_rfl)  (fun _ => y_not rfl) (fun _ => hS) ?_
            refine x_end (by kernel_rfl) ?_
            clear hS
            rcases bif_some hs with ⟨hc53, hs⟩ | ⟨hc53, hs⟩
            · skip
              refine c_condT (congrArg Value.bool hc53) ?_
              refine c_seq ?_
              refine c_region ?_
              refine pl_val (.bool false) (y_assign rfl) ?_
              refine c_nil ?_
              refine wp_ret ?_
              cases hs
              exact ⟨_, fr_ovl 74 ⟨rfl, trivial⟩, hC⟩
            · skip
              refine c_condF (congrArg Value.bool hc53) ?_
              refine wp_skip ?_
              refine c_seq ?_
              refine c_seq ?_
              refine c_region ?_
              refine pl_val (.slice a28x0 n28x0 c28x0) (y_move rfl) ?_
              refine pl_val (.slice pa1 pn1 pc1) (y_move rfl) ?_
              obtain ⟨r55, hr55, hs⟩ := bind_some hs
              refine pl_call Bd50 rfl (c_laws_toIntSS (M := M) aCongruences h1 hO.fut hr55) ?_
              rintro _ w54 ⟨a54x0, n54x0, c54x0, f54x0, rfl, hC54, hv54x0, hOc54⟩
              have h0 := h0.ext hC54
              have h1 := h1.ext hC54
              have h2 := h2.ext hC54
              have hb4 := hb4.chg hC54 (fun h => nomatch h)
              have hv12x0 := hv12x0.ext hC54
              have hv15x0 := hv15x0.ext hC54
              have hv18x0 := hv18x0.ext hC54
              have hv23x0 := hv23x0.ext hC54
              have hb27 := hb27.chg hC54 (fun h => nomatch h)
              have hv28x0 := hv28x0.ext hC54
              have hv31x0 := hv31x0.ext hC54
              have hv48x0 := hv48x0.ext hC54
              have hC := hC.ext hC54
              have hO := Own.join0 hO hC54 hOc54
              have hO := hO.perm (R := f54x0 ++ (f23x0 ++ (f48x0 ++ (f28x0 ++ (f31x0 ++ (([g26]) ++ (f12x0 ++ (f15x0 ++ (f18x0 ++ (([g4]) ++ ([]))))))))))) (by simp)
              have hO := hO.fr3
              obtain ⟨r58, hr58, hs⟩ := bind_some hs
              refine pl_call Bd52 rfl (c_laws_eqIntSS (M := (Less (Less M f28x0) f54x0)) r29 r55 ((((Frz.os (Frz.os Frz.int))).val hv28x0 Less.sub Less.not).sub Less.sub) (((Frz.os (Frz.os Frz.int))).val (hv54x0.sub Less.sub) Less.sub Less.not) (hO.less).less.fut hr58) ?_
              rintro _ w57 ⟨rfl, hC57⟩
              have h0 := h0.ext hC57
              have h1 := h1.ext hC57
              have h2 := h2.ext hC57
              have hb4 := hb4.chg hC57 (fun h => nomatch h)
              have hv12x0 := hv12x0.ext hC57
              have hv15x0 := hv15x0.ext hC57
              have hv18x0 := hv18x0.ext hC57
              have hv23x0 := hv23x0.ext hC57
              have hb27 := hb27.chg hC57 (fun h => nomatch h)
              have hv28x0 := hv28x0.ext hC57
              have hv31x0 := hv31x0.ext hC57
              have hv48x0 := hv48x0.ext hC57
              have hv54x0 := hv54x0.ext hC57
              have hC := hC.ext hC57
              have hO := hO.ext hC57
              refine pl_val (.bool (!r58)) (y_not rfl) ?_
              refine c_nil ?_
              rcases bif_some hs with ⟨hc59, hs⟩ | ⟨hc59, hs⟩
              · skip
                refine c_condT (congrArg Value.bool hc59) ?_
                refine c_seq ?_
                refine c_region ?_
                refine pl_val (.bool false) (y_assign rfl) ?_
                refine c_nil ?_
                refine wp_ret ?_
                cases hs
                exact ⟨_, fr_ovl 74 ⟨rfl, trivial⟩, hC⟩
              · skip
                refine c_condF (congrArg Value.bool hc59) ?_
                refine wp_skip ?_
                refine c_seq ?_
                refine c_seq ?_
                refine c_region ?_
                refine pl_val (.slice a31x0 n31x0 c31x0) (y_move rfl) ?_
                refine pl_val (.slice pa2 pn2 pc2) (y_move rfl) ?_
                obtain ⟨r61, hr61, hs⟩ := bind_some hs
                refine pl_call Bd16 rfl (c_laws_toIntS (M := M) aElements h2 hO.fut hr61) ?_
                rintro _ w60 ⟨a60x0, n60x0, c60x0, f60x0, rfl, hC60, hv60x0, hOc60⟩
                have h2 := h2.ext hC60
                have hb4 := hb4.chg hC60 (fun h => nomatch h)
                have hv12x0 := hv12x0.ext hC60
                have hv15x0 := hv15x0.ext hC60
                have hv18x0 := hv18x0.ext hC60
                have hv23x0 := hv23x0.ext hC60
                have hb27 := hb27.chg hC60 (fun h => nomatch h)
                have hv28x0 := hv28x0.ext hC60
                have hv31x0 := hv31x0.ext hC60
                have hv48x0 := hv48x0.ext hC60
                have hv54x0 := hv54x0.ext hC60
                have hC := hC.ext hC60
                have hO := Own.join0 hO hC60 hOc60
                have hO := hO.perm (R := f60x0 ++ (f28x0 ++ (f54x0 ++ (f23x0 ++ (f48x0 ++ (f31x0 ++ (([g26]) ++ (f12x0 ++ (f15x0 ++ (f18x0 ++ (([g4]) ++ ([])))))))))))) (by simp)
                have hO := hO.fr5
                obtain ⟨r64, hr64, hs⟩ := bind_some hs
                refine pl_call Bd18 rfl (c_laws_eqIntS (M := (Less (Less M f31x0) f60x0)) r32 r61 ((((Frz.os Frz.int)).val hv31x0 Less.sub Less.not).sub Less.sub) (((Frz.os Frz.int)).val (hv60x0.sub Less.sub) Less.sub Less.not) (hO.less).less.fut hr64) ?_
                rintro _ w63 ⟨rfl, hC63⟩
                have h2 := h2.ext hC63
                have hb4 := hb4.chg hC63 (fun h => nomatch h)
                have hv12x0 := hv12x0.ext hC63
                have hv15x0 := hv15x0.ext hC63
                have hv18x0 := hv18x0.ext hC63
                have hv23x0 := hv23x0.ext hC63
                have hb27 := hb27.chg hC63 (fun h => nomatch h)
                have hv28x0 := hv28x0.ext hC63
                have hv31x0 := hv31x0.ext hC63
                have hv48x0 := hv48x0.ext hC63
                have hv54x0 := hv54x0.ext hC63
                have hv60x0 := hv60x0.ext hC63
                have hC := hC.ext hC63
                have hO := hO.ext hC63
                refine pl_val (.bool (!r64)) (y_not rfl) ?_
                refine c_nil ?_
                rcases bif_some hs with ⟨hc65, hs⟩ | ⟨hc65, hs⟩
                · skip
                  refine c_condT (congrArg Value.bool hc65) ?_
                  refine c_seq ?_
                  refine c_region ?_
                  refine pl_val (.bool false) (y_assign rfl) ?_
                  refine c_nil ?_
                  refine wp_ret ?_
                  cases hs
                  exact ⟨_, fr_ovl 74 ⟨rfl, trivial⟩, hC⟩
                · skip
                  refine c_condF (congrArg Value.bool hc65) ?_
                  refine wp_skip ?_
                  refine c_seq ?_
                  refine c_region ?_
                  refine pl_val (.bool true) (y_assign rfl) ?_
                  refine c_nil ?_
                  refine wp_ret ?_
                  cases hs
                  exact ⟨_, fr_ovl 74 ⟨rfl, trivial⟩, hC⟩

end Go.Proofs
