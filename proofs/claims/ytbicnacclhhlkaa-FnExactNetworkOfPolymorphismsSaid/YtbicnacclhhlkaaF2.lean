/- What functions of the program compute, as plain functions, and that a call gives just that. Conditions: those named in each theorem. -/
import Derived.Test.YtbicnacclhhlkaaF1
set_option linter.unusedVariables false
namespace Go.Proofs
open Go.G Go.RowKit
set_option maxRecDepth 100000

def k_impl_sameRelation (M : Nat → Prop) (w0 : World) (r : Bool) (a : Act) (w : World) : Prop :=
  ∃ (σ : Nat → Value) , a = fr 38 (ovl σ [(4, (.bool r))]) ∧ Chg [] w0 w
def s_impl_sameRelation (r_ : Int × (List (List Int))) (s_ : Int × (List (List Int))) : Option (Bool) :=
  (bif ((r_.1 != s_.1) || ((r_.2.length : Int) != (s_.2.length : Int))) then some false else (forC (S := Unit) (R := Bool) (fun k23 s21 =>
  (idx r_.2 k23).bind fun x27 =>
  (idx s_.2 k23).bind fun x31 =>
  (s_impl_sameList x27 x31).bind fun r36 =>
  (bif (!r36) then some (.rt false) else some (.nx ()))) 0 (r_.2.length : Int) ()).bind fun o25 => after o25 (fun r_ => some r_) (fun s21 =>
  some true))
set_option maxHeartbeats 4000000 in
theorem c_impl_sameRelation {M : Nat → Prop} {w : World} {pa0 : Option Addr} {pn0 pc0 : Nat} {pa1 : Option Addr} {pn1 pc1 : Nat} (r_ : Int × (List (List Int))) (s_ : Int × (List (List Int))) (h0 : (RT.rs (RT.rs (RT.int .i64))).val M w (.slice pa0 pn0 pc0) r_.2 ([])) (h1 : (RT.rs (RT.rs (RT.int .i64))).val M w (.slice pa1 pn1 pc1) s_.2 ([])) (hM : ∀ g, w.heap.size ≤ g → M g) {r : Bool} (hs : s_impl_sameRelation r_ s_ = some r) :
    Gives Try.prog 123 [(.agg #[(.int .i64 r_.1), (.slice pa0 pn0 pc0)]), (.agg #[(.int .i64 s_.1), (.slice pa1 pn1 pc1)])] w (fun v w' => v = (.bool r) ∧ Chg [] w w') := by
 refine calls_fr Try.func123 rfl Try.ntmps123 (Nat.le_of_ble_eq_true rfl) ?_
 have hO := Own.start (N := Nw w []) hM Nw.fut
 have hC := Chg.refl [] w
 unfold s_impl_sameRelation at hs
 refine wp_mono (Q := KPost (k_impl_sameRelation M w r)) ?_ (fun e a c3 h => ?_)
 rotate_left
 ·cases e
  case ret =>
   obtain ⟨σ, rfl, hrest⟩ := h
   exact ret1x Try.results123 (res_tmp rfl) ⟨rfl, hrest⟩
  all_goals exact (h : False).elim
 refine c_sr ?_
 obtain ⟨b8, a7, c4, b9, a9, a4⟩ := new_block w [(.int .i64 r_.1), (.slice pa0 pn0 pc0)] 54
 refine pl_val (w' := b8) (.pointer (some ⟨a7, 0, none⟩)) (y_box rfl (by rw [c4, b9]; kernel_rfl)) ?_
 have h0 := h0.ext a9
 have h1 := h1.ext a9
 have hC := hC.ext a9
 have hO := hO.new1 a9 b9 a4.lt
 obtain ⟨b2, a3, c5, c0, a8, a1⟩ := new_block b8 [(.int .i64 s_.1), (.slice pa1 pn1 pc1)] 54
 refine pl_val (w' := b2) (.pointer (some ⟨a3, 0, none⟩)) (y_box rfl (by rw [c5, c0]; kernel_rfl)) ?_
 have h0 := h0.ext a8
 have h1 := h1.ext a8
 have a4 := a4.cn a8
 have hC := hC.ext a8
 have hO := hO.new1 a8 c0 a1.lt
 refine pl_val (.bool false) (y_assign rfl) ?_
 refine c_nil ?_
 refine c_seq ?_
 refine c_seq ?_
 refine c_mid (I := fun a c1 => ∃ (σ : Nat → Value), a = fr 38 (ovl σ [(2, (.pointer (some ⟨a7, 0, none⟩))), (3, (.pointer (some ⟨a3, 0, none⟩))), (4, (.bool false)), (20, (.bool ((r_.1 != s_.1) || ((r_.2.length : Int) != (s_.2.length : Int)))))]) ∧ Chg [] b2 c1) ?_ ?_
 ·have hMid := Chg.refl [] b2
  refine c_region ?_
  refine pl_val (.pointer (some ⟨a7, 0, none⟩)) (y_faddr rfl Fa54x0) ?_
  refine pl_val (.int .i64 r_.1) (y_load rfl ((box_load Ag3 Sz3 a4 [] [(.int .i64 r_.1)] [(.slice pa0 pn0 pc0)] rfl rfl (fun _ => rfl)) _ (Chg.refl _ _))) ?_
  refine pl_val (.pointer (some ⟨a3, 0, none⟩)) (y_faddr rfl Fa54x0) ?_
  refine pl_val (.int .i64 s_.1) (y_load rfl ((box_load Ag3 Sz3 a1 [] [(.int .i64 s_.1)] [(.slice pa1 pn1 pc1)] rfl rfl (fun _ => rfl)) _ (Chg.refl _ _))) ?_
  refine pl_val (.bool (r_.1 != s_.1)) (y_neq rfl rfl) ?_
  refine pl_val (.bool (r_.1 != s_.1)) (y_move rfl) ?_
  rcases Bool.eq_false_or_eq_true ((r_.1 != s_.1)) with a0 | a0
  ·skip
   refine pl_not (tg := 12) (by kernel_rfl) (congrArg Value.bool a0) ?_
   refine pl_not (tg := 12) (by kernel_rfl) (congrArg Value.bool a0) ?_
   refine pl_not (tg := 12) (by kernel_rfl) (congrArg Value.bool a0) ?_
   refine pl_not (tg := 12) (by kernel_rfl) (congrArg Value.bool a0) ?_
   refine pl_not (tg := 12) (by kernel_rfl) (congrArg Value.bool a0) ?_
   refine pl_not (tg := 12) (by kernel_rfl) (congrArg Value.bool a0) ?_
   refine pl_not (tg := 12) (by kernel_rfl) (congrArg Value.bool a0) ?_
   refine pl_val (.bool ((r_.1 != s_.1) || ((r_.2.length : Int) != (s_.2.length : Int)))) (y_pick_t (congrArg Value.bool a0) (congrArg Value.bool (by rw [a0]; rfl))) ?_
   refine c_nil ?_
   exact ⟨_, fr_ovl 38 ⟨rfl, rfl, rfl, rfl, trivial⟩, hMid⟩
  refine pl_yes (.pointer (some ⟨a7, 1, none⟩)) (tg := 12) (by kernel_rfl) (congrArg Value.bool a0) (y_faddr rfl Fa54x1) ?_
  refine pl_yes (.slice pa0 pn0 pc0) (tg := 12) (by kernel_rfl) (congrArg Value.bool a0) (y_load rfl ((box_load Ag47 Sz47 a4 [(.int .i64 r_.1)] [(.slice pa0 pn0 pc0)] [] rfl rfl (fun _ => rfl)) _ (Chg.refl _ _))) ?_
  refine pl_yes (.int .i64 (r_.2.length : Int)) (tg := 12) (by kernel_rfl) (congrArg Value.bool a0) (y_len' Sl47 (rs_len h0) rfl) ?_
  refine pl_yes (.pointer (some ⟨a3, 1, none⟩)) (tg := 12) (by kernel_rfl) (congrArg Value.bool a0) (y_faddr rfl Fa54x1) ?_
  refine pl_yes (.slice pa1 pn1 pc1) (tg := 12) (by kernel_rfl) (congrArg Value.bool a0) (y_load rfl ((box_load Ag47 Sz47 a1 [(.int .i64 s_.1)] [(.slice pa1 pn1 pc1)] [] rfl rfl (fun _ => rfl)) _ (Chg.refl _ _))) ?_
  refine pl_yes (.int .i64 (s_.2.length : Int)) (tg := 12) (by kernel_rfl) (congrArg Value.bool a0) (y_len' Sl47 (rs_len h1) rfl) ?_
  refine pl_yes (.bool ((r_.2.length : Int) != (s_.2.length : Int))) (tg := 12) (by kernel_rfl) (congrArg Value.bool a0) (y_neq rfl rfl) ?_
  refine pl_val (.bool ((r_.1 != s_.1) || ((r_.2.length : Int) != (s_.2.length : Int)))) (y_pick_f (congrArg Value.bool a0) (congrArg Value.bool (by rw [a0]; rfl))) ?_
  refine c_nil ?_
  exact ⟨_, fr_ovl 38 ⟨rfl, rfl, rfl, rfl, trivial⟩, hMid⟩
 rintro c2 c1 ⟨σ, rfl, a6⟩
 have h0 := h0.ext a6
 have h1 := h1.ext a6
 have a4 := a4.cn a6
 have a1 := a1.cn a6
 have hC := hC.ext a6
 have hO := hO.ext a6
 rcases bif_some hs with ⟨b3, hs⟩ | ⟨b3, hs⟩
 ·refine c_condT (congrArg Value.bool b3) ?_
  refine c_sr ?_
  refine pl_val (.bool false) (y_assign rfl) ?_
  refine c_nil ?_
  refine wp_ret ?_
  cases hs
  exact ⟨_, fr_ovl 38 ⟨rfl, trivial⟩, hC⟩
 refine c_condF (congrArg Value.bool b3) ?_
 refine wp_skip ?_
 refine c_seq ?_
 refine c_sr ?_
 refine pl_val (.pointer (some ⟨a7, 1, none⟩)) (y_faddr rfl Fa54x1) ?_
 refine pl_val (.slice pa0 pn0 pc0) (y_load rfl ((box_load Ag47 Sz47 a4 [(.int .i64 r_.1)] [(.slice pa0 pn0 pc0)] [] rfl rfl (fun _ => rfl)) _ (Chg.refl _ _))) ?_
 refine pl_val (.int .i64 (r_.2.length : Int)) (y_len' Sl47 (rs_len h0) rfl) ?_
 refine pl_val (.int .i64 0) (y_move rfl) ?_
 refine c_nil ?_
 have hO := hO.fr1
 have hO := hO.drop
 obtain ⟨o25, c6, hs⟩ := bind_some hs
 refine wp_block ?_
 refine wp_forC (id := 0) (r_.2.length : Int) (I := fun k23 s21 a a2 => ∃ (σ : Nat → Value), a = fr 38 (ovl σ [(3, (.pointer (some ⟨a3, 0, none⟩))), (22, (.slice pa0 pn0 pc0)), (23, (.int .i64 (r_.2.length : Int))), (24, (.int .i64 k23))]) ∧ Chg [] w a2 ∧ Own (Nw w []) M a2 (([a3]) ++ []) ∧ (RT.rs (RT.rs (RT.int .i64))).val M a2 (.slice pa0 pn0 pc0) r_.2 ([]) ∧ (RT.rs (RT.rs (RT.int .i64))).val M a2 (.slice pa1 pn1 pc1) s_.2 ([]) ∧ BoxV a2 a3 54 [(.int .i64 s_.1), (.slice pa1 pn1 pc1)]) (J := fun s21 a a2 => ∃ (σ : Nat → Value), a = fr 38 (ovl σ []) ∧ Chg [] w a2 ∧ Own (Nw w []) M a2 (([a3]) ++ []) ∧ (RT.rs (RT.rs (RT.int .i64))).val M a2 (.slice pa0 pn0 pc0) r_.2 ([]) ∧ (RT.rs (RT.rs (RT.int .i64))).val M a2 (.slice pa1 pn1 pc1) s_.2 ([]) ∧ BoxV a2 a3 54 [(.int .i64 s_.1), (.slice pa1 pn1 pc1)]) (K := (k_impl_sameRelation M w)) ?_ ?_ 0 () o25 _ _ ?_ c6 ?_
 ·rintro k23 s21 a a2 ⟨σ, rfl, hC, hO, h0, h1, a1⟩ hlt
  refine c_sr ?_
  refine pl_val (.bool (decide (k23 < (r_.2.length : Int)))) (y_lss rfl rfl) ?_
  refine c_nil ?_
  refine c_seq ?_
  refine c_condF (congrArg Value.bool (decide_eq_false hlt)) ?_
  refine wp_exit ?_
  exact ⟨rfl, _, fr_ovl 38 trivial, hC, hO, h0, h1, a1⟩
 ·rintro k23 s21 o25 a a2 ⟨σ, rfl, hC, hO, h0, h1, a1⟩ hlt hw hs
  refine c_sr ?_
  refine pl_val (.bool (decide (k23 < (r_.2.length : Int)))) (y_lss rfl rfl) ?_
  refine c_nil ?_
  refine c_seq ?_
  refine c_condT (congrArg Value.bool (decide_eq_true hlt)) ?_
  refine wp_skip ?_
  refine c_seq ?_
  refine wp_block ?_
  refine c_sr ?_
  refine pl_val (.int .i64 k23) (y_move rfl) ?_
  obtain ⟨x27, c7, hs⟩ := bind_some hs
  obtain ⟨c8, c9, d0, d1⟩ := rs_idx Sl47 Sz41 h0 c7
  refine pl_val (.pointer (some ⟨c8, c9, none⟩)) (d0 _ _ _ _ _ _ _ _ _ rfl rfl) ?_
  obtain ⟨e3, d2, b0⟩ := at_load Ag41 Sz41 (fun _ => rfl) d1
  obtain ⟨b4, b5, b6, rfl⟩ := rs_sl b0
  refine pl_val (.slice b4 b5 b6) (y_load rfl (d2 _ (Chg.refl _ _))) ?_
  refine pl_val (.int .i64 k23) (y_assign rfl) ?_
  refine pl_val (.slice b4 b5 b6) (y_assign rfl) ?_
  refine c_nil ?_
  refine c_sr ?_
  refine pl_val (.slice b4 b5 b6) (y_move rfl) ?_
  refine pl_val (.pointer (some ⟨a3, 1, none⟩)) (y_faddr rfl Fa54x1) ?_
  refine pl_val (.slice pa1 pn1 pc1) (y_load rfl ((box_load Ag47 Sz47 a1 [(.int .i64 s_.1)] [(.slice pa1 pn1 pc1)] [] rfl rfl (fun _ => rfl)) _ (Chg.refl _ _))) ?_
  refine pl_val (.int .i64 k23) (y_move rfl) ?_
  obtain ⟨x31, d3, hs⟩ := bind_some hs
  obtain ⟨d4, d5, d6, d7⟩ := rs_idx Sl47 Sz41 h1 d3
  refine pl_val (.pointer (some ⟨d4, d5, none⟩)) (d6 _ _ _ _ _ _ _ _ _ rfl rfl) ?_
  obtain ⟨e4, d8, b1⟩ := at_load Ag41 Sz41 (fun _ => rfl) d7
  obtain ⟨d9, e0, e1, rfl⟩ := rs_sl b1
  refine pl_val (.slice d9 e0 e1) (y_load rfl (d8 _ (Chg.refl _ _))) ?_
  obtain ⟨r36, e2, hs⟩ := bind_some hs
  refine pl_call Bd119 rfl (c_impl_sameList (M := M) x27 x31 b0 b1 hO.fut e2) ?_
  rintro _ e5 ⟨rfl, a5⟩
  have h0 := h0.ext a5
  have h1 := h1.ext a5
  have a1 := a1.cn a5
  have b0 := b0.ext a5
  have b1 := b1.ext a5
  have hC := hC.ext a5
  have hO := hO.ext a5
  refine pl_val (.bool (!r36)) (y_not rfl) ?_
  refine c_nil ?_
  rcases bif_some hs with ⟨b7, hs⟩ | ⟨b7, hs⟩
  ·refine c_condT (congrArg Value.bool b7) ?_
   refine c_sr ?_
   refine pl_val (.bool false) (y_assign rfl) ?_
   refine c_nil ?_
   refine wp_ret ?_
   cases hs
   exact ⟨_, fr_ovl 38 ⟨rfl, trivial⟩, hC⟩
  refine c_condF (congrArg Value.bool b7) ?_
  refine wp_skip ?_
  refine c_region ?_
  refine pl_val (.int .i64 (w64 (k23 + 1))) (y_add rfl rfl) ?_
  refine pl_val (.int .i64 (w64 (k23 + 1))) (y_move rfl) ?_
  refine c_nil ?_
  cases hs
  exact ⟨_, fr_ovl 38 ⟨rfl, rfl, rfl, congrArg (Value.int .i64) hw, trivial⟩, hC, hO, h0, h1, a1⟩
 ·skip
  exact ⟨_, fr_ovl 38 ⟨rfl, rfl, rfl, rfl, trivial⟩, hC, hO, h0, h1, a1⟩
 cases o25 with
 | nx _ => exact True.intro
 | rt r_ =>
  have hs := after_rt hs
  intro c2 c3 hK
  cases hs
  exact hK
 | br s21 =>
  have hs := after_br hs
  rintro c2 a2 ⟨σ, rfl, hC, hO, h0, h1, a1⟩
  refine c_sr ?_
  refine pl_val (.bool true) (y_assign rfl) ?_
  refine c_nil ?_
  refine wp_ret ?_
  cases hs
  exact ⟨_, fr_ovl 38 ⟨rfl, trivial⟩, hC⟩

theorem Bd123 : Bodied Try.prog 123 := bodied Try.func123 (by kernel_rfl) rfl

def k_impl_hasConstraint (M : Nat → Prop) (w0 : World) (r : Bool) (a : Act) (w : World) : Prop :=
  ∃ (σ : Nat → Value) , a = fr 26 (ovl σ [(4, (.bool r))]) ∧ Chg [] w0 w
def s_impl_hasConstraint (list : List ((List Int) × (Int × (List (List Int))))) (c : (List Int) × (Int × (List (List Int)))) : Option (Bool) :=
  (forR (S := Unit) (R := Bool) (fun _ x20 s17 =>
  (s_impl_sameList c.1 x20.1).bind fun r30 =>
  (bif r30 then (s_impl_sameRelation (c.2.1, c.2.2) (x20.2.1, x20.2.2)).bind fun r33 =>
  (bif r33 then some (.rt true) else some (.nx ())) else some (.nx ()))) 0 list ()).bind fun o21 => after o21 (fun r_ => some r_) (fun s17 =>
  some false)
set_option maxHeartbeats 4000000 in
theorem c_impl_hasConstraint {M : Nat → Prop} {w : World} {pa0 : Option Addr} {pn0 pc0 : Nat} {pa1 : Option Addr} {pn1 pc1 : Nat} {pa2 : Option Addr} {pn2 pc2 : Nat} (list : List ((List Int) × (Int × (List (List Int))))) (c : (List Int) × (Int × (List (List Int)))) (h0 : (RT.rs (RT.pr (RT.rs (RT.int .i64)) (RT.pr (RT.int .i64) (RT.rs (RT.rs (RT.int .i64)))))).val M w (.slice pa0 pn0 pc0) list ([])) (h1 : (RT.rs (RT.int .i64)).val M w (.slice pa1 pn1 pc1) c.1 ([])) (h2 : (RT.rs (RT.rs (RT.int .i64))).val M w (.slice pa2 pn2 pc2) c.2.2 ([])) (hM : ∀ g, w.heap.size ≤ g → M g) {r : Bool} (hs : s_impl_hasConstraint list c = some r) :
    Gives Try.prog 92 [(.slice pa0 pn0 pc0), (.agg #[(.slice pa1 pn1 pc1), (.int .i64 c.2.1), (.slice pa2 pn2 pc2)])] w (fun v w' => v = (.bool r) ∧ Chg [] w w') := by
 refine calls_fr Try.func92 rfl Try.ntmps92 (Nat.le_of_ble_eq_true rfl) ?_
 have hO := Own.start (N := Nw w []) hM Nw.fut
 have hC := Chg.refl [] w
 unfold s_impl_hasConstraint at hs
 refine wp_mono (Q := KPost (k_impl_hasConstraint M w r)) ?_ (fun e a c5 h => ?_)
 rotate_left
 ·cases e
  case ret =>
   obtain ⟨σ, rfl, hrest⟩ := h
   exact ret1x Try.results92 (res_tmp rfl) ⟨rfl, hrest⟩
  all_goals exact (h : False).elim
 refine c_sr ?_
 obtain ⟨c6, a8, c7, c1, b8, a0⟩ := new_block w [(.slice pa1 pn1 pc1), (.int .i64 c.2.1), (.slice pa2 pn2 pc2)] 56
 refine pl_val (w' := c6) (.pointer (some ⟨a8, 0, none⟩)) (y_box rfl (by rw [c7, c1]; kernel_rfl)) ?_
 have h0 := h0.ext b8
 have h1 := h1.ext b8
 have h2 := h2.ext b8
 have hC := hC.ext b8
 have hO := hO.new1 b8 c1 a0.lt
 refine pl_val (.bool false) (y_assign rfl) ?_
 refine c_nil ?_
 refine c_seq ?_
 refine c_sr ?_
 refine pl_val (.slice pa0 pn0 pc0) (y_move rfl) ?_
 refine pl_val (.int .i64 (list.length : Int)) (y_len' Sl28 (rs_len h0) rfl) ?_
 refine pl_val (.int .i64 0) (y_move rfl) ?_
 refine c_nil ?_
 obtain ⟨o21, c8, hs⟩ := bind_some hs
 refine wp_block ?_
 refine wp_forR (id := 0) (I := fun i_ xs_ s17 a a1 => ∃ a3 : Nat, i_ = (a3 : Int) ∧ List.drop a3 list = xs_ ∧ (∃ (σ : Nat → Value), a = fr 26 (ovl σ [(3, (.pointer (some ⟨a8, 0, none⟩))), (7, (.slice pa0 pn0 pc0)), (8, (.int .i64 (list.length : Int))), (9, (.int .i64 (a3 : Int)))]) ∧ Chg [] w a1 ∧ Own (Nw w []) M a1 (([a8]) ++ []) ∧ (RT.rs (RT.pr (RT.rs (RT.int .i64)) (RT.pr (RT.int .i64) (RT.rs (RT.rs (RT.int .i64)))))).val M a1 (.slice pa0 pn0 pc0) list ([]) ∧ (RT.rs (RT.int .i64)).val M a1 (.slice pa1 pn1 pc1) c.1 ([]) ∧ (RT.rs (RT.rs (RT.int .i64))).val M a1 (.slice pa2 pn2 pc2) c.2.2 ([]) ∧ BoxV a1 a8 56 [(.slice pa1 pn1 pc1), (.int .i64 c.2.1), (.slice pa2 pn2 pc2)])) (J := fun s17 a a1 => ∃ (σ : Nat → Value), a = fr 26 (ovl σ []) ∧ Chg [] w a1 ∧ Own (Nw w []) M a1 (([a8]) ++ []) ∧ (RT.rs (RT.pr (RT.rs (RT.int .i64)) (RT.pr (RT.int .i64) (RT.rs (RT.rs (RT.int .i64)))))).val M a1 (.slice pa0 pn0 pc0) list ([]) ∧ (RT.rs (RT.int .i64)).val M a1 (.slice pa1 pn1 pc1) c.1 ([]) ∧ (RT.rs (RT.rs (RT.int .i64))).val M a1 (.slice pa2 pn2 pc2) c.2.2 ([]) ∧ BoxV a1 a8 56 [(.slice pa1 pn1 pc1), (.int .i64 c.2.1), (.slice pa2 pn2 pc2)]) (K := (k_impl_hasConstraint M w)) ?_ ?_ list 0 () o21 _ _ ?_ c8 ?_
 ·rintro _ s17 a a1 ⟨a3, rfl, hd, σ, rfl, hC, hO, h0, h1, h2, a0⟩
  have hlt := drop_nil_ge hd
  refine c_sr ?_
  refine pl_val (.bool (decide ((a3 : Int) < (list.length : Int)))) (y_lss rfl rfl) ?_
  refine c_nil ?_
  refine c_seq ?_
  refine c_condF (congrArg Value.bool (decide_eq_false hlt)) ?_
  refine wp_exit ?_
  exact ⟨rfl, _, fr_ovl 26 trivial, hC, hO, h0, h1, h2, a0⟩
 ·rintro _ x20 xs_ s17 o21 a a1 ⟨a3, rfl, hd, σ, rfl, hC, hO, h0, h1, h2, a0⟩ hs
  have hlt := drop_cons_lt hd
  have c9 := drop_cons_idx hd
  refine c_sr ?_
  refine pl_val (.bool (decide ((a3 : Int) < (list.length : Int)))) (y_lss rfl rfl) ?_
  refine c_nil ?_
  refine c_seq ?_
  refine c_condT (congrArg Value.bool (decide_eq_true hlt)) ?_
  refine wp_skip ?_
  refine c_seq ?_
  refine wp_block ?_
  refine c_sr ?_
  obtain ⟨d0, d1, d2, d3⟩ := rs_idx Sl28 Sz56 h0 c9
  refine pl_val (.pointer (some ⟨d0, d1, none⟩)) (d2 _ _ _ _ _ _ _ _ _ rfl rfl) ?_
  obtain ⟨e7, d4, d5⟩ := at_load Ag56 Sz56 (by intro h; cases h) d3
  obtain ⟨e8, rfl, d6⟩ := d5
  obtain ⟨e9, f0, rfl, d7, d8⟩ := pr_open d6
  obtain ⟨b2, b3, b4, rfl, a4⟩ := rs_rel d7
  obtain ⟨f1, f2, rfl, d9, e0⟩ := pr_open d8
  obtain rfl := int_rel d9
  obtain ⟨b5, b6, b7, rfl, a5⟩ := rs_rel e0
  refine pl_val (.agg #[(.slice b2 b3 b4), (.int .i64 x20.2.1), (.slice b5 b6 b7)]) (y_load rfl (d4 _ (Chg.refl _ _))) ?_
  obtain ⟨e1, b9, e2, c2, a9, c3⟩ := new_block a1 [(.slice none 0 0), (.int .i64 0), (.slice none 0 0)] 56
  refine pl_val (w' := e1) (.pointer (some ⟨b9, 0, none⟩)) (y_alloc (by rw [e2, c2]; kernel_rfl)) ?_
  have h0 := h0.ext a9
  have h1 := h1.ext a9
  have h2 := h2.ext a9
  have a0 := a0.cn a9
  have a4 := a4.ext a9
  have a5 := a5.ext a9
  have hC := hC.ext a9
  have hO := hO.new1 a9 c2 c3.lt
  obtain ⟨c4, e3, b0, b1⟩ := box_store (P := Try.prog) c3 [] [(.slice none 0 0), (.int .i64 0), (.slice none 0 0)] [] [(.slice b2 b3 b4), (.int .i64 x20.2.1), (.slice b5 b6 b7)] rfl rfl (by intro u hu; simp only [List.mem_cons, List.not_mem_nil, or_false] at hu; rcases hu with rfl | rfl | rfl <;> rfl)
  refine pl_skip (w' := c4) (ys_store rfl rfl (e3 _ _ rfl Sz56)) ?_
  have h0 := h0.mt b0 hO same_
  have h1 := h1.mt b0 hO same_
  have h2 := h2.mt b0 hO same_
  have a0 := a0.ap b0 hO same_ (mem_l (List.mem_singleton.2 rfl))
  have a4 := a4.mt b0 hO same_
  have a5 := a5.mt b0 hO same_
  have hC := hC.st b0 hO same_
  have hO := hO.ext b0
  have b1 : BoxV c4 b9 56 [(.slice b2 b3 b4), (.int .i64 x20.2.1), (.slice b5 b6 b7)] := b1
  refine c_nil ?_
  refine c_sr ?_
  refine pl_val (.pointer (some ⟨a8, 0, none⟩)) (y_faddr rfl Fa56x0) ?_
  refine pl_val (.slice pa1 pn1 pc1) (y_load rfl ((box_load Ag41 Sz41 a0 [] [(.slice pa1 pn1 pc1)] [(.int .i64 c.2.1), (.slice pa2 pn2 pc2)] rfl rfl (fun _ => rfl)) _ (Chg.refl _ _))) ?_
  refine pl_val (.pointer (some ⟨b9, 0, none⟩)) (y_faddr rfl Fa56x0) ?_
  refine pl_val (.slice b2 b3 b4) (y_load rfl ((box_load Ag41 Sz41 b1 [] [(.slice b2 b3 b4)] [(.int .i64 x20.2.1), (.slice b5 b6 b7)] rfl rfl (fun _ => rfl)) _ (Chg.refl _ _))) ?_
  obtain ⟨r30, e4, hs⟩ := bind_some hs
  refine pl_call Bd119 rfl (c_impl_sameList (M := M) c.1 x20.1 h1 a4 hO.fut e4) ?_
  rintro _ f3 ⟨rfl, a6⟩
  have h0 := h0.ext a6
  have h1 := h1.ext a6
  have h2 := h2.ext a6
  have a0 := a0.cn a6
  have a4 := a4.ext a6
  have a5 := a5.ext a6
  have b1 := b1.cn a6
  have hC := hC.ext a6
  have hO := hO.ext a6
  refine pl_val (.bool r30) (y_move rfl) ?_
  rcases bif_some hs with ⟨a2, hs⟩ | ⟨a2, hs⟩
  ·skip
   refine pl_yes (.pointer (some ⟨a8, 1, none⟩)) (tg := 18) (by kernel_rfl) (congrArg Value.bool a2) (y_faddr rfl Fa56x1) ?_
   refine pl_yes (.agg #[(.int .i64 c.2.1), (.slice pa2 pn2 pc2)]) (tg := 18) (by kernel_rfl) (congrArg Value.bool a2) (y_load rfl ((box_load Ag54 Sz54 a0 [(.slice pa1 pn1 pc1)] [(.int .i64 c.2.1), (.slice pa2 pn2 pc2)] [] rfl rfl (fun h => nomatch h)) _ (Chg.refl _ _))) ?_
   refine pl_yes (.pointer (some ⟨b9, 1, none⟩)) (tg := 18) (by kernel_rfl) (congrArg Value.bool a2) (y_faddr rfl Fa56x1) ?_
   refine pl_yes (.agg #[(.int .i64 x20.2.1), (.slice b5 b6 b7)]) (tg := 18) (by kernel_rfl) (congrArg Value.bool a2) (y_load rfl ((box_load Ag54 Sz54 b1 [(.slice b2 b3 b4)] [(.int .i64 x20.2.1), (.slice b5 b6 b7)] [] rfl rfl (fun h => nomatch h)) _ (Chg.refl _ _))) ?_
   obtain ⟨r33, e5, hs⟩ := bind_some hs
   refine pl_cally (tg := 18) (by kernel_rfl) (congrArg Value.bool a2) Bd123 rfl (c_impl_sameRelation (M := M) (c.2.1, c.2.2) (x20.2.1, x20.2.2) h2 a5 hO.fut e5) ?_
   rintro _ f4 ⟨rfl, a7⟩
   have h0 := h0.ext a7
   have h1 := h1.ext a7
   have h2 := h2.ext a7
   have a0 := a0.cn a7
   have a4 := a4.ext a7
   have a5 := a5.ext a7
   have b1 := b1.cn a7
   have hC := hC.ext a7
   have hO := hO.ext a7
   refine pl_val (.bool r33) (y_pick_t (congrArg Value.bool a2) rfl) ?_
   refine c_nil ?_
   rcases bif_some hs with ⟨c0, hs⟩ | ⟨c0, hs⟩
   ·refine c_condT (congrArg Value.bool c0) ?_
    refine c_sr ?_
    refine pl_val (.bool true) (y_assign rfl) ?_
    refine c_nil ?_
    refine wp_ret ?_
    cases hs
    exact ⟨_, fr_ovl 26 ⟨rfl, trivial⟩, hC⟩
   refine c_condF (congrArg Value.bool c0) ?_
   refine wp_skip ?_
   refine c_region ?_
   refine pl_val (.int .i64 (w64 ((a3 : Int) + 1))) (y_add rfl rfl) ?_
   refine pl_val (.int .i64 (w64 ((a3 : Int) + 1))) (y_move rfl) ?_
   refine c_nil ?_
   cases hs
   have hO := hO.drop
   exact ⟨_, rfl, drop_cons_next hd, _, fr_ovl 26 ⟨rfl, rfl, rfl, congrArg (Value.int .i64) (w64_succ hlt (Int.natCast_nonneg _) (rs_max h0)), trivial⟩, hC, hO, h0, h1, h2, a0⟩
  refine pl_not (tg := 18) (by kernel_rfl) (congrArg Value.bool a2) ?_
  refine pl_not (tg := 18) (by kernel_rfl) (congrArg Value.bool a2) ?_
  refine pl_not (tg := 18) (by kernel_rfl) (congrArg Value.bool a2) ?_
  refine pl_not (tg := 18) (by kernel_rfl) (congrArg Value.bool a2) ?_
  refine pl_not (tg := 18) (by kernel_rfl) (congrArg Value.bool a2) ?_
  refine pl_val (.bool false) (y_pick_f (congrArg Value.bool a2) rfl) ?_
  refine c_nil ?_
  refine c_condF (by rfl) ?_
  refine wp_skip ?_
  refine c_region ?_
  refine pl_val (.int .i64 (w64 ((a3 : Int) + 1))) (y_add rfl rfl) ?_
  refine pl_val (.int .i64 (w64 ((a3 : Int) + 1))) (y_move rfl) ?_
  refine c_nil ?_
  cases hs
  have hO := hO.drop
  exact ⟨_, rfl, drop_cons_next hd, _, fr_ovl 26 ⟨rfl, rfl, rfl, congrArg (Value.int .i64) (w64_succ hlt (Int.natCast_nonneg _) (rs_max h0)), trivial⟩, hC, hO, h0, h1, h2, a0⟩
 ·skip
  exact ⟨0, rfl, rfl, _, fr_ovl 26 ⟨rfl, rfl, rfl, rfl, trivial⟩, hC, hO, h0, h1, h2, a0⟩
 cases o21 with
 | nx _ => exact True.intro
 | rt r_ =>
  have hs := after_rt hs
  intro e6 c5 hK
  cases hs
  exact hK
 | br s17 =>
  have hs := after_br hs
  rintro e6 a1 ⟨σ, rfl, hC, hO, h0, h1, h2, a0⟩
  refine c_sr ?_
  refine pl_val (.bool false) (y_assign rfl) ?_
  refine c_nil ?_
  refine wp_ret ?_
  cases hs
  exact ⟨_, fr_ovl 26 ⟨rfl, trivial⟩, hC⟩

theorem Bd60 : Bodied Try.prog 60 := bodied Try.func60 (by kernel_rfl) rfl

theorem Bd61 : Bodied Try.prog 61 := bodied Try.func61 (by kernel_rfl) rfl

theorem Bd90 : Bodied Try.prog 90 := bodied Try.func90 (by kernel_rfl) rfl

theorem Bd91 : Bodied Try.prog 91 := bodied Try.func91 (by kernel_rfl) rfl

theorem Bd92 : Bodied Try.prog 92 := bodied Try.func92 (by kernel_rfl) rfl

def k_impl_NetworkOfPolymorphisms (M : Nat → Prop) (w0 : World) (r : (Int × Int × (List ((List Int) × (Int × (List (List Int)))))) × Bool) (a : Act) (w : World) : Prop :=
  ∃ (σ : Nat → Value) (rg6 : Nat) (ra0 : Option Addr) (rn0 rc0 : Nat) (rf0 : List Nat), a = fr 110 (ovl σ [(6, (.pointer (some ⟨rg6, 0, none⟩))), (7, (.bool r.2))]) ∧ BoxV w rg6 30 [(.int .i64 r.1.1), (.int .i64 r.1.2.1), (.slice ra0 rn0 rc0)] ∧ Chg [] w0 w ∧ (RT.os 56 (RT.pr (RT.os 3 (RT.int .i64)) (RT.pr (RT.int .i64) (RT.os 41 (RT.os 3 (RT.int .i64)))))).val M w (.slice ra0 rn0 rc0) r.1.2.2 rf0 ∧ Own (Nw w0 []) (fun _ => True) w (rf0 ++ ([]))
def s_impl_NetworkOfPolymorphisms (n : Int) (rels : List (Int × (List (List Int)))) (k : Int) : Option ((Int × Int × (List ((List Int) × (Int × (List (List Int)))))) × Bool) :=
  ((s_impl_canAsk n rels k).bind fun r7 =>
  (bif (!r7) then some true else (s_impl_isPolyRange n k).bind fun r10 =>
  some (!r10))).bind fun s3 =>
  (bif s3 then some ((0, 0, []), false) else (s_impl_power n k).bind fun r14 =>
  (forR (S := (List ((List Int) × (Int × (List (List Int)))))) (R := (Int × Int × (List ((List Int) × (Int × (List (List Int)))))) × Bool) (fun _ x1550 s1547 =>
  (iter (S := Int × (List ((List Int) × (Int × (List (List Int)))))) (R := (Int × Int × (List ((List Int) × (Int × (List (List Int)))))) × Bool) (fun s2060 =>
  (s_impl_power (x1550.2.length : Int) k).bind fun r2071 =>
  (bif (decide (s2060.1 < r2071)) then (mks x1550.1 (0 : Int)).bind fun y2075 =>
  (s_impl_cloneRelation (x1550.1, x1550.2)).bind fun r2078 =>
  (s_impl_argsAt s2060.1 k (x1550.2.length : Int)).bind fun r2158 =>
  (forR (S := (List Int)) (R := (Int × Int × (List ((List Int) × (Int × (List (List Int)))))) × Bool) (fun _ x2256 s2253 =>
  (forC (S := (List Int)) (R := (Int × Int × (List ((List Int) × (Int × (List (List Int)))))) × Bool) (fun k2289 s2287 =>
  (idx s2287 k2289).bind fun x2296 =>
  (idx x1550.2 x2256).bind fun x2298 =>
  (idx x2298 k2289).bind fun x2302 =>
  (idx s2287 k2289).bind fun x2304 =>
  some (.nx (List.set s2287 (Int.toNat k2289) (w64 ((w64 (x2296 * n)) + x2302))))) 0 (s2253.length : Int) s2253).bind fun o2291 => after o2291 (fun r_ => some (.rt r_)) (fun s2287 =>
  some (.nx s2287))) 0 r2158 y2075).bind fun o2257 => after o2257 (fun r_ => some (.rt r_)) (fun s2253 =>
  (s_impl_hasConstraint s2060.2 (s2253, (r2078.1, r2078.2))).bind fun r2308 =>
  (bif r2308 then some (.nx (w64 (s2060.1 + 1), s2060.2)) else (bif ((s2060.2.length : Int) == 40) then some (.rt ((0, 0, []), false)) else (app s2060.2 ([(s2253, (r2078.1, r2078.2))])).bind fun y2315 =>
  some (.nx (w64 (s2060.1 + 1), y2315))))) else some (.br (s2060.1, s2060.2)))) FU (0, s1547)).bind fun o2064 => after o2064 (fun r_ => some (.rt r_)) (fun s2060 =>
  some (.nx s2060.2))) 0 rels ([])).bind fun o1551 => after o1551 (fun r_ => some r_) (fun s1547 =>
  some ((r14, n, s1547), true)))
set_option maxHeartbeats 4000000 in
theorem c_impl_NetworkOfPolymorphisms {M : Nat → Prop} {w : World} {pa0 : Option Addr} {pn0 pc0 : Nat} (n : Int) (rels : List (Int × (List (List Int)))) (k : Int) (h0 : (RT.rs (RT.pr (RT.int .i64) (RT.rs (RT.rs (RT.int .i64))))).val M w (.slice pa0 pn0 pc0) rels ([])) (hM : ∀ g, w.heap.size ≤ g → M g) {r : (Int × Int × (List ((List Int) × (Int × (List (List Int)))))) × Bool} (hs : s_impl_NetworkOfPolymorphisms n rels k = some r) :
    Gives Try.prog 41 [(.int .i64 n), (.slice pa0 pn0 pc0), (.int .i64 k)] w (fun v w' => ∃ (ra0 : Option Addr) (rn0 rc0 : Nat) (rf0 : List Nat), v = (.tuple #[(.agg #[(.int .i64 r.1.1), (.int .i64 r.1.2.1), (.slice ra0 rn0 rc0)]), (.bool r.2)]) ∧ Chg [] w w' ∧ (RT.os 56 (RT.pr (RT.os 3 (RT.int .i64)) (RT.pr (RT.int .i64) (RT.os 41 (RT.os 3 (RT.int .i64)))))).val M w' (.slice ra0 rn0 rc0) r.1.2.2 rf0 ∧ Own (Nw w []) (fun _ => True) w' (rf0 ++ ([]))) := by
 refine calls_fr Try.func41 rfl Try.ntmps41 (Nat.le_of_ble_eq_true rfl) ?_
 have hO := Own.start (N := Nw w []) hM Nw.fut
 have hC := Chg.refl [] w
 unfold s_impl_NetworkOfPolymorphisms at hs
 refine wp_mono (Q := KPost (k_impl_NetworkOfPolymorphisms M w r)) ?_ (fun e a n6 h => ?_)
 rotate_left
 ·cases e
  case ret =>
   obtain ⟨σ, rg6, ra0, rn0, rc0, rf0, rfl, hbrg6, hrest⟩ := h
   exact ret2x Try.results41 (res_cell rfl (box_load Ag30 Sz30 hbrg6 [] _ [] rfl rfl (fun h => nomatch h))) (res_tmp rfl) ⟨ra0, rn0, rc0, rf0, rfl, hrest⟩
  all_goals exact (h : False).elim
 refine c_sr ?_
 obtain ⟨q0, a5, x5, t1, q1, a0⟩ := new_block w [(.int .i64 0), (.int .i64 0), (.slice none 0 0)] 30
 refine pl_val (w' := q0) (.pointer (some ⟨a5, 0, none⟩)) (y_alloc (by rw [x5, t1]; kernel_rfl)) ?_
 have h0 := h0.ext q1
 have hC := hC.ext q1
 have hO := hO.new1 q1 t1 a0.lt
 refine pl_val (.bool false) (y_assign rfl) ?_
 refine c_nil ?_
 refine c_seq ?_
 refine c_seq ?_
 obtain ⟨s3, x6, hs⟩ := bind_some hs
 refine c_mid (I := fun a t2 => ∃ (σ : Nat → Value), a = fr 110 (ovl σ [(0, (.int .i64 n)), (1, (.slice pa0 pn0 pc0)), (2, (.int .i64 k)), (6, (.pointer (some ⟨a5, 0, none⟩))), (7, (.bool false)), (26, (.bool s3))]) ∧ Chg [] q0 t2) ?_ ?_
 ·replace hs := x6
  have hMid := Chg.refl [] q0
  refine c_region ?_
  refine pl_val (.int .i64 n) (y_move rfl) ?_
  refine pl_val (.slice pa0 pn0 pc0) (y_move rfl) ?_
  refine pl_val (.int .i64 k) (y_move rfl) ?_
  obtain ⟨r7, x7, hs⟩ := bind_some hs
  refine pl_call Bd60 rfl (c_impl_canAsk (M := M) n rels k h0 hO.fut x7) ?_
  rintro _ I1 ⟨rfl, k3⟩
  have h0 := h0.ext k3
  have a0 := a0.cn k3
  have hMid := hMid.ext k3
  have hC := hC.ext k3
  have hO := hO.ext k3
  refine pl_val (.bool (!r7)) (y_not rfl) ?_
  refine pl_val (.bool (!r7)) (y_move rfl) ?_
  rcases bif_some hs with ⟨e7, hs⟩ | ⟨e7, hs⟩
  ·skip
   refine pl_not (tg := 21) (by kernel_rfl) (congrArg Value.bool e7) ?_
   refine pl_not (tg := 21) (by kernel_rfl) (congrArg Value.bool e7) ?_
   refine pl_not (tg := 21) (by kernel_rfl) (congrArg Value.bool e7) ?_
   refine pl_not (tg := 21) (by kernel_rfl) (congrArg Value.bool e7) ?_
   refine pl_val (.bool true) (y_pick_t (congrArg Value.bool e7) rfl) ?_
   refine c_nil ?_
   cases hs
   exact ⟨_, fr_ovl 110 ⟨rfl, rfl, rfl, rfl, rfl, rfl, trivial⟩, hMid⟩
  refine pl_yes (.int .i64 n) (tg := 21) (by kernel_rfl) (congrArg Value.bool e7) (y_move rfl) ?_
  refine pl_yes (.int .i64 k) (tg := 21) (by kernel_rfl) (congrArg Value.bool e7) (y_move rfl) ?_
  obtain ⟨r10, x8, hs⟩ := bind_some hs
  refine pl_cally (tg := 21) (by kernel_rfl) (congrArg Value.bool e7) Bd61 rfl (c_impl_isPolyRange (M := M) n k  hO.fut x8) ?_
  rintro _ I2 ⟨rfl, k4⟩
  have h0 := h0.ext k4
  have a0 := a0.cn k4
  have hMid := hMid.ext k4
  have hC := hC.ext k4
  have hO := hO.ext k4
  refine pl_yes (.bool (!r10)) (tg := 21) (by kernel_rfl) (congrArg Value.bool e7) (y_not rfl) ?_
  refine pl_val (.bool (!r10)) (y_pick_f (congrArg Value.bool e7) rfl) ?_
  refine c_nil ?_
  cases hs
  exact ⟨_, fr_ovl 110 ⟨rfl, rfl, rfl, rfl, rfl, rfl, trivial⟩, hMid⟩
 rintro g6 t2 ⟨σ, rfl, n7⟩
 have h0 := h0.ext n7
 have a0 := a0.cn n7
 have hC := hC.ext n7
 have hO := hO.ext n7
 rcases bif_some hs with ⟨q2, hs⟩ | ⟨q2, hs⟩
 ·refine c_condT (congrArg Value.bool q2) ?_
  refine c_sr ?_
  refine pl_val (.agg #[(.int .i64 0), (.int .i64 0), (.slice none 0 0)]) (y_build rfl (by kernel_rfl)) ?_
  obtain ⟨t3, x9, q3, q4⟩ := box_store (P := Try.prog) a0 [] [(.int .i64 0), (.int .i64 0), (.slice none 0 0)] [] [(.int .i64 0), (.int .i64 0), (.slice none 0 0)] rfl rfl (by intro u hu; simp only [List.mem_cons, List.not_mem_nil, or_false] at hu; rcases hu with rfl | rfl | rfl <;> rfl)
  refine pl_skip (w' := t3) (ys_store rfl rfl (x9 _ _ rfl Sz30)) ?_
  have h0 := h0.mt q3 hO same_
  have hC := hC.st q3 hO same_
  have hO := hO.ext q3
  have q4 : BoxV t3 a5 30 [(.int .i64 0), (.int .i64 0), (.slice none 0 0)] := q4
  refine pl_val (.bool false) (y_assign rfl) ?_
  refine c_nil ?_
  refine wp_ret ?_
  cases hs
  have hO := hO.drop
  have hO := hO.nil
  exact ⟨_, a5, none, 0, 0, [], fr_ovl 110 ⟨rfl, rfl, trivial⟩, q4, hC, os_nil, hO.top⟩
 refine c_condF (congrArg Value.bool q2) ?_
 refine wp_skip ?_
 refine c_sr ?_
 refine pl_val (.int .i64 n) (y_move rfl) ?_
 refine pl_val (.int .i64 k) (y_move rfl) ?_
 obtain ⟨r14, y0, hs⟩ := bind_some hs
 refine pl_call Bd65 rfl (c_impl_power (M := M) n k  hO.fut y0) ?_
 rintro _ y1 ⟨rfl, n8⟩
 have h0 := h0.ext n8
 have a0 := a0.cn n8
 have hC := hC.ext n8
 have hO := hO.ext n8
 refine pl_val (.int .i64 n) (y_move rfl) ?_
 refine pl_val (.agg #[(.int .i64 r14), (.int .i64 n), (.slice none 0 0)]) (y_build rfl (by kernel_rfl)) ?_
 obtain ⟨y2, a6, y3, t4, n9, t5⟩ := new_block y1 [(.int .i64 0), (.int .i64 0), (.slice none 0 0)] 30
 refine pl_val (w' := y2) (.pointer (some ⟨a6, 0, none⟩)) (y_alloc (by rw [y3, t4]; kernel_rfl)) ?_
 have h0 := h0.ext n9
 have a0 := a0.cn n9
 have hC := hC.ext n9
 have hO := hO.new1 n9 t4 t5.lt
 obtain ⟨t6, y4, o0, a1⟩ := box_store (P := Try.prog) t5 [] [(.int .i64 0), (.int .i64 0), (.slice none 0 0)] [] [(.int .i64 r14), (.int .i64 n), (.slice none 0 0)] rfl rfl (by intro u hu; simp only [List.mem_cons, List.not_mem_nil, or_false] at hu; rcases hu with rfl | rfl | rfl <;> rfl)
 refine pl_skip (w' := t6) (ys_store rfl rfl (y4 _ _ rfl Sz30)) ?_
 have h0 := h0.mt o0 hO same_
 have a0 := a0.ap o0 hO same_ (mem_l (List.mem_singleton.2 rfl))
 have hC := hC.st o0 hO same_
 have hO := hO.ext o0
 have a1 : BoxV t6 a6 30 [(.int .i64 r14), (.int .i64 n), (.slice none 0 0)] := a1
 refine c_nil ?_
 refine c_seq ?_
 refine c_sr ?_
 refine pl_val (.slice pa0 pn0 pc0) (y_move rfl) ?_
 refine pl_val (.int .i64 (rels.length : Int)) (y_len' Sl37 (rs_len h0) rfl) ?_
 refine pl_val (.int .i64 0) (y_move rfl) ?_
 refine c_nil ?_
 obtain ⟨o1551, y5, hs⟩ := bind_some hs
 refine wp_block ?_
 refine wp_forR (id := 0) (I := fun i_ xs_ s1547 a c8 => ∃ c9 : Nat, i_ = (c9 : Int) ∧ List.drop c9 rels = xs_ ∧ (∃ (σ : Nat → Value) (j5 : Option Addr) (j6 : Nat) (j7 : Nat) (j8 : List Nat), a = fr 110 (ovl σ [(0, (.int .i64 n)), (2, (.int .i64 k)), (6, (.pointer (some ⟨a5, 0, none⟩))), (8, (.pointer (some ⟨a6, 0, none⟩))), (33, (.slice pa0 pn0 pc0)), (34, (.int .i64 (rels.length : Int))), (35, (.int .i64 (c9 : Int)))]) ∧ Chg [] w c8 ∧ Own (Nw w []) M c8 (j8 ++ (([a6]) ++ (([a5]) ++ []))) ∧ (RT.rs (RT.pr (RT.int .i64) (RT.rs (RT.rs (RT.int .i64))))).val M c8 (.slice pa0 pn0 pc0) rels ([]) ∧ BoxV c8 a5 30 [(.int .i64 0), (.int .i64 0), (.slice none 0 0)] ∧ BoxV c8 a6 30 [(.int .i64 r14), (.int .i64 n), (.slice j5 j6 j7)] ∧ (RT.os 56 (RT.pr (RT.os 3 (RT.int .i64)) (RT.pr (RT.int .i64) (RT.os 41 (RT.os 3 (RT.int .i64)))))).val M c8 (.slice j5 j6 j7) s1547 j8)) (J := fun s1547 a c8 => ∃ (σ : Nat → Value) (h8 : Option Addr) (h9 : Nat) (i0 : Nat) (o1 : List Nat), a = fr 110 (ovl σ [(6, (.pointer (some ⟨a5, 0, none⟩))), (8, (.pointer (some ⟨a6, 0, none⟩)))]) ∧ Chg [] w c8 ∧ Own (Nw w []) M c8 (o1 ++ (([a6]) ++ (([a5]) ++ []))) ∧ (RT.rs (RT.pr (RT.int .i64) (RT.rs (RT.rs (RT.int .i64))))).val M c8 (.slice pa0 pn0 pc0) rels ([]) ∧ BoxV c8 a5 30 [(.int .i64 0), (.int .i64 0), (.slice none 0 0)] ∧ BoxV c8 a6 30 [(.int .i64 r14), (.int .i64 n), (.slice h8 h9 i0)] ∧ (RT.os 56 (RT.pr (RT.os 3 (RT.int .i64)) (RT.pr (RT.int .i64) (RT.os 41 (RT.os 3 (RT.int .i64)))))).val M c8 (.slice h8 h9 i0) s1547 o1) (K := (k_impl_NetworkOfPolymorphisms M w)) ?_ ?_ rels 0 ([]) o1551 _ _ ?_ y5 ?_
 ·rintro _ s1547 a c8 ⟨c9, rfl, hd, σ, j5, j6, j7, j8, rfl, hC, hO, h0, a0, a1, i4⟩
  have hlt := drop_nil_ge hd
  refine c_sr ?_
  refine pl_val (.bool (decide ((c9 : Int) < (rels.length : Int)))) (y_lss rfl rfl) ?_
  refine c_nil ?_
  refine c_seq ?_
  refine c_condF (congrArg Value.bool (decide_eq_false hlt)) ?_
  refine wp_exit ?_
  have hO := hO.fr2
  have hO := hO.fr2
  have hO := hO.fr2
  exact ⟨rfl, _, j5, j6, j7, j8, fr_ovl 110 ⟨rfl, rfl, trivial⟩, hC, hO, h0, a0, a1, i4⟩
 ·rintro _ x1550 xs_ s1547 o1551 a c8 ⟨c9, rfl, hd, σ, j5, j6, j7, j8, rfl, hC, hO, h0, a0, a1, i4⟩ hs
  have hlt := drop_cons_lt hd
  have y6 := drop_cons_idx hd
  refine c_sr ?_
  refine pl_val (.bool (decide ((c9 : Int) < (rels.length : Int)))) (y_lss rfl rfl) ?_
  refine c_nil ?_
  refine c_seq ?_
  refine c_condT (congrArg Value.bool (decide_eq_true hlt)) ?_
  refine wp_skip ?_
  refine c_seq ?_
  refine wp_block ?_
  refine c_sr ?_
  obtain ⟨y7, y8, y9, z0⟩ := rs_idx Sl37 Sz54 h0 y6
  refine pl_val (.pointer (some ⟨y7, y8, none⟩)) (y9 _ _ _ _ _ _ _ _ _ rfl rfl) ?_
  obtain ⟨I3, z1, z2⟩ := at_load Ag54 Sz54 (by intro h; cases h) z0
  obtain ⟨I4, rfl, z3⟩ := z2
  obtain ⟨I5, I6, rfl, z4, z5⟩ := pr_open z3
  obtain rfl := int_rel z4
  obtain ⟨b2, b3, b4, rfl, a2⟩ := rs_rel z5
  refine pl_val (.agg #[(.int .i64 x1550.1), (.slice b2 b3 b4)]) (y_load rfl (z1 _ (Chg.refl _ _))) ?_
  obtain ⟨z6, a7, z7, t7, i5, t8⟩ := new_block c8 [(.int .i64 0), (.slice none 0 0)] 54
  refine pl_val (w' := z6) (.pointer (some ⟨a7, 0, none⟩)) (y_alloc (by rw [z7, t7]; kernel_rfl)) ?_
  have h0 := h0.ext i5
  have a0 := a0.cn i5
  have a1 := a1.cn i5
  have i4 := i4.ext i5
  have a2 := a2.ext i5
  have hC := hC.ext i5
  have hO := hO.new1 i5 t7 t8.lt
  obtain ⟨t9, z8, i6, a3⟩ := box_store (P := Try.prog) t8 [] [(.int .i64 0), (.slice none 0 0)] [] [(.int .i64 x1550.1), (.slice b2 b3 b4)] rfl rfl (by intro u hu; simp only [List.mem_cons, List.not_mem_nil, or_false] at hu; rcases hu with rfl | rfl <;> rfl)
  refine pl_skip (w' := t9) (ys_store rfl rfl (z8 _ _ rfl Sz54)) ?_
  have h0 := h0.mt i6 hO same_
  have a0 := a0.ap i6 hO same_ (mem_r (mem_r (mem_l (List.mem_singleton.2 rfl))))
  have a1 := a1.ap i6 hO same_ (mem_r (mem_l (List.mem_singleton.2 rfl)))
  have i4 := i4.ma i6 hO same_ (fun _ e => (mem_l (e)))
  have a2 := a2.mt i6 hO same_
  have hC := hC.st i6 hO same_
  have hO := hO.ext i6
  have a3 : BoxV t9 a7 54 [(.int .i64 x1550.1), (.slice b2 b3 b4)] := a3
  refine c_nil ?_
  refine c_sr ?_
  refine pl_val (.int .i64 0) (y_assign rfl) ?_
  refine c_nil ?_
  obtain ⟨o2064, z9, hs⟩ := bind_some hs
  refine wp_block ?_
  refine wp_iter (id := 2) (I := fun s2060 a c7 => ∃ (σ : Nat → Value) (c0 : Option Addr) (c1 : Nat) (c2 : Nat) (b6 : List Nat), a = fr 110 (ovl σ [(0, (.int .i64 n)), (2, (.int .i64 k)), (6, (.pointer (some ⟨a5, 0, none⟩))), (8, (.pointer (some ⟨a6, 0, none⟩))), (10, (.pointer (some ⟨a7, 0, none⟩))), (11, (.int .i64 s2060.1)), (33, (.slice pa0 pn0 pc0)), (34, (.int .i64 (rels.length : Int))), (35, (.int .i64 (c9 : Int)))]) ∧ Chg [] w c7 ∧ Own (Nw w []) M c7 (b6 ++ (([a7]) ++ (([a6]) ++ (([a5]) ++ [])))) ∧ (RT.rs (RT.pr (RT.int .i64) (RT.rs (RT.rs (RT.int .i64))))).val M c7 (.slice pa0 pn0 pc0) rels ([]) ∧ BoxV c7 a5 30 [(.int .i64 0), (.int .i64 0), (.slice none 0 0)] ∧ BoxV c7 a6 30 [(.int .i64 r14), (.int .i64 n), (.slice c0 c1 c2)] ∧ (RT.rs (RT.rs (RT.int .i64))).val M c7 (.slice b2 b3 b4) x1550.2 ([]) ∧ BoxV c7 a7 54 [(.int .i64 x1550.1), (.slice b2 b3 b4)] ∧ (RT.os 56 (RT.pr (RT.os 3 (RT.int .i64)) (RT.pr (RT.int .i64) (RT.os 41 (RT.os 3 (RT.int .i64)))))).val M c7 (.slice c0 c1 c2) s2060.2 b6) (J := fun s2060 a c7 => ∃ (σ : Nat → Value) (o2 : Option Addr) (o3 : Nat) (o4 : Nat) (o5 : List Nat), a = fr 110 (ovl σ [(0, (.int .i64 n)), (2, (.int .i64 k)), (6, (.pointer (some ⟨a5, 0, none⟩))), (8, (.pointer (some ⟨a6, 0, none⟩))), (33, (.slice pa0 pn0 pc0)), (34, (.int .i64 (rels.length : Int))), (35, (.int .i64 (c9 : Int)))]) ∧ Chg [] w c7 ∧ Own (Nw w []) M c7 (o5 ++ (([a7]) ++ (([a6]) ++ (([a5]) ++ [])))) ∧ (RT.rs (RT.pr (RT.int .i64) (RT.rs (RT.rs (RT.int .i64))))).val M c7 (.slice pa0 pn0 pc0) rels ([]) ∧ BoxV c7 a5 30 [(.int .i64 0), (.int .i64 0), (.slice none 0 0)] ∧ BoxV c7 a6 30 [(.int .i64 r14), (.int .i64 n), (.slice o2 o3 o4)] ∧ (RT.rs (RT.rs (RT.int .i64))).val M c7 (.slice b2 b3 b4) x1550.2 ([]) ∧ BoxV c7 a7 54 [(.int .i64 x1550.1), (.slice b2 b3 b4)] ∧ (RT.os 56 (RT.pr (RT.os 3 (RT.int .i64)) (RT.pr (RT.int .i64) (RT.os 41 (RT.os 3 (RT.int .i64)))))).val M c7 (.slice o2 o3 o4) s2060.2 o5) (K := (k_impl_NetworkOfPolymorphisms M w)) ?_ FU (0, s1547) o2064 _ _ ?_ z9 ?_
  ·rintro s2060 o2064 a c7 ⟨σ, c0, c1, c2, b6, rfl, hC, hO, h0, a0, a1, a2, a3, a4⟩ hs
   refine c_seq ?_
   refine c_sr ?_
   refine pl_val (.int .i64 s2060.1) (y_move rfl) ?_
   refine pl_val (.pointer (some ⟨a7, 1, none⟩)) (y_faddr rfl Fa54x1) ?_
   refine pl_val (.slice b2 b3 b4) (y_load rfl ((box_load Ag47 Sz47 a3 [(.int .i64 x1550.1)] [(.slice b2 b3 b4)] [] rfl rfl (fun _ => rfl)) _ (Chg.refl _ _))) ?_
   refine pl_val (.int .i64 (x1550.2.length : Int)) (y_len' Sl47 (rs_len a2) rfl) ?_
   refine pl_val (.int .i64 k) (y_move rfl) ?_
   obtain ⟨r2071, A0, hs⟩ := bind_some hs
   refine pl_call Bd65 rfl (c_impl_power (M := M) (x1550.2.length : Int) k  hO.fut A0) ?_
   rintro _ u0 ⟨rfl, i1⟩
   have h0 := h0.ext i1
   have a0 := a0.cn i1
   have a1 := a1.cn i1
   have a2 := a2.ext i1
   have a3 := a3.cn i1
   have a4 := a4.ext i1
   have hC := hC.ext i1
   have hO := hO.ext i1
   refine pl_val (.bool (decide (s2060.1 < r2071))) (y_lss rfl rfl) ?_
   refine c_nil ?_
   rcases bif_some hs with ⟨q5, hs⟩ | ⟨q5, hs⟩
   ·refine c_condT (congrArg Value.bool q5) ?_
    refine wp_skip ?_
    refine c_seq ?_
    refine wp_block ?_
    refine c_seq ?_
    obtain ⟨y2075, k5, hs⟩ := bind_some hs
    obtain ⟨r2078, k6, hs⟩ := bind_some hs
    refine c_mid (I := fun a d6 => ∃ (σ : Nat → Value) (b7 : Option Addr) (c4 : Option Addr) (b8 : Nat) (c5 : Nat) (k7 : List Nat) (d0 : List Nat) (c3 : Nat) (b9 : Nat) (c6 : Nat), a = fr 110 (ovl σ [(0, (.int .i64 n)), (2, (.int .i64 k)), (6, (.pointer (some ⟨a5, 0, none⟩))), (8, (.pointer (some ⟨a6, 0, none⟩))), (10, (.pointer (some ⟨a7, 0, none⟩))), (11, (.int .i64 s2060.1)), (12, (.pointer (some ⟨c3, 0, none⟩))), (33, (.slice pa0 pn0 pc0)), (34, (.int .i64 (rels.length : Int))), (35, (.int .i64 (c9 : Int)))]) ∧ Chg [] w d6 ∧ Own (Nw w []) M d6 (([c3]) ++ (d0 ++ (k7 ++ (b6 ++ (([a7]) ++ (([a6]) ++ (([a5]) ++ []))))))) ∧ (RT.rs (RT.pr (RT.int .i64) (RT.rs (RT.rs (RT.int .i64))))).val M d6 (.slice pa0 pn0 pc0) rels ([]) ∧ BoxV d6 a5 30 [(.int .i64 0), (.int .i64 0), (.slice none 0 0)] ∧ BoxV d6 a6 30 [(.int .i64 r14), (.int .i64 n), (.slice c0 c1 c2)] ∧ (RT.rs (RT.rs (RT.int .i64))).val M d6 (.slice b2 b3 b4) x1550.2 ([]) ∧ BoxV d6 a7 54 [(.int .i64 x1550.1), (.slice b2 b3 b4)] ∧ (RT.os 56 (RT.pr (RT.os 3 (RT.int .i64)) (RT.pr (RT.int .i64) (RT.os 41 (RT.os 3 (RT.int .i64)))))).val M d6 (.slice c0 c1 c2) s2060.2 b6 ∧ (RT.os 3 (RT.int .i64)).val M d6 (.slice b7 b9 b8) y2075 k7 ∧ (RT.os 41 (RT.os 3 (RT.int .i64))).val M d6 (.slice c4 c6 c5) r2078.2 d0 ∧ BoxV d6 c3 56 [(.slice b7 b9 b8), (.int .i64 r2078.1), (.slice c4 c6 c5)]) ?_ ?_
    ·skip
     refine x_start [7] Mx rfl ?_
     have g7 := Chg.drew u0
     generalize World.drew u0 = q6 at g7 ⊢
     have h0 := h0.ext g7
     have a0 := a0.cn g7
     have a1 := a1.cn g7
     have a2 := a2.ext g7
     have a3 := a3.cn g7
     have a4 := a4.ext g7
     have hC := hC.ext g7
     have hO := hO.ext g7
     have hS := Chg.refl [] q6
     refine x_p 0 (.pointer (some ⟨a7, 0, none⟩)) rfl (by kernel_rfl)  (fun _ => y_faddr rfl Fa54x0) (fun _ => hS) ?_
     refine x_l 1 (.int .i64 x1550.1) rfl (by kernel_rfl)  (fun w' hw' => y_load rfl ((box_load Ag3 Sz3 a3 [] [(.int .i64 x1550.1)] [(.slice b2 b3 b4)] rfl rfl (fun _ => rfl)) w' hw')) hS ?_
     refine x_l 3 (.agg #[(.int .i64 x1550.1), (.slice b2 b3 b4)]) rfl (by kernel_rfl)  (fun w' hw' => y_load rfl ((box_load Ag54 Sz54 a3 [] [(.int .i64 x1550.1), (.slice b2 b3 b4)] [] rfl rfl (fun h => nomatch h)) w' hw')) hS ?_
     refine x_many [2, 4, 6] (by kernel_rfl) (fun h => nomatch h) (all3 ?_ ?_ ?_)
     ·skip
      obtain ⟨g8, g9, h1, u1, o6, A1, f7, A2, d1⟩ := mk_os (M := M) (w := q6) (r := (RT.int .i64)) Rw41 k5 (fun _ _ => ⟨rfl, rfl⟩)
      refine xk_val (w' := u1) (b := false) (.slice g8 g9 h1) rfl  (y_make rfl rfl A1) rfl (fun _ => hS.ext f7) ?_
      have h0 := h0.ext f7
      have a0 := a0.cn f7
      have a1 := a1.cn f7
      have a2 := a2.ext f7
      have a3 := a3.cn f7
      have a4 := a4.ext f7
      have hC := hC.ext f7
      have hO := hO.new f7 A2 (os_nodup d1) d1.fpl
      have hS := hS.ext f7
      refine x_two (i := 4) (j := 6) (by kernel_rfl) ?_ ?_
      ·skip
       refine xk_call (b := false) rfl  Bd90 rfl (c_impl_cloneRelation (M := M) (x1550.1, x1550.2) a2 hO.fut k6) rfl (by rintro _ _ _ ⟨k8, k9, l0, q7, rfl, d7, j9, u2⟩; exact hS.ext d7) ?_
       rintro _ A3 ⟨k8, k9, l0, q7, rfl, d7, j9, u2⟩
       have h0 := h0.ext d7
       have a0 := a0.cn d7
       have a1 := a1.cn d7
       have a2 := a2.ext d7
       have a3 := a3.cn d7
       have a4 := a4.ext d7
       have d1 := d1.ext d7
       have hC := hC.ext d7
       have hO := Own.join0 hO d7 u2
       have hO := hO.perm (R := q7 ++ (o6 ++ (b6 ++ (([a7]) ++ (([a6]) ++ (([a5]) ++ ([]))))))) (by simp)
       have hS := hS.ext d7
       refine x_p 5 (.agg #[(.slice g8 g9 h1), (.int .i64 r2078.1), (.slice k8 k9 l0)]) rfl (by kernel_rfl)  (fun _ => y_build rfl (by kernel_rfl)) (fun _ => hS) ?_
       refine x_one (i := 6) (by kernel_rfl) ?_
       obtain ⟨A4, q8, A5, u3, d8, u4⟩ := new_block A3 [(.slice none 0 0), (.int .i64 0), (.slice none 0 0)] 56
       refine xk_val (w' := A4) (b := false) (.pointer (some ⟨q8, 0, none⟩)) rfl  (y_alloc (by rw [A5, u3]; kernel_rfl)) rfl (fun _ => hS.ext d8) ?_
       have h0 := h0.ext d8
       have a0 := a0.cn d8
       have a1 := a1.cn d8
       have a2 := a2.ext d8
       have a3 := a3.cn d8
       have a4 := a4.ext d8
       have d1 := d1.ext d8
       have j9 := j9.ext d8
       have hC := hC.ext d8
       have hO := hO.new1 d8 u3 u4.lt
       have hS := hS.ext d8
       refine x_one (i := 7) (by kernel_rfl) ?_
       obtain ⟨u5, A6, f8, q9⟩ := box_store (P := Try.prog) u4 [] [(.slice none 0 0), (.int .i64 0), (.slice none 0 0)] [] [(.slice g8 g9 h1), (.int .i64 r2078.1), (.slice k8 k9 l0)] rfl rfl (by intro u hu; simp only [List.mem_cons, List.not_mem_nil, or_false] at hu; rcases hu with rfl | rfl | rfl <;> rfl)
       refine xk_skip (w' := u5) (b := true) rfl (ys_store rfl rfl (A6 _ _ rfl Sz56)) rfl (fun h => nomatch h) ?_
       have h0 := h0.mt f8 hO same_
       have a0 := a0.ap f8 hO same_ (mem_r (mem_r (mem_r (mem_r (mem_r (mem_l (List.mem_singleton.2 rfl)))))))
       have a1 := a1.ap f8 hO same_ (mem_r (mem_r (mem_r (mem_r (mem_l (List.mem_singleton.2 rfl))))))
       have a2 := a2.mt f8 hO same_
       have a3 := a3.ap f8 hO same_ (mem_r (mem_r (mem_r (mem_l (List.mem_singleton.2 rfl)))))
       have a4 := a4.ma f8 hO same_ (fun _ e => (mem_r (mem_r (mem_l (e)))))
       have d1 := d1.ma f8 hO same_ (fun _ e => (mem_r (mem_l (e))))
       have j9 := j9.ma f8 hO same_ (fun _ e => (mem_l (e)))
       have hC := hC.st f8 hO same_
       have hO := hO.ext f8
       have q9 : BoxV u5 q8 56 [(.slice g8 g9 h1), (.int .i64 r2078.1), (.slice k8 k9 l0)] := q9
       refine x_end (by kernel_rfl) ?_
       clear hS
       have hO := hO.fr6
       have hO := hO.fr6
       have hO := hO.fr6
       have hO := hO.fr6
       have hO := hO.fr6
       have hO := hO.fr6
       have hO := hO.fr6
       exact ⟨_, g8, k8, h1, l0, o6, q7, q8, g9, k9, fr_ovl 110 ⟨rfl, rfl, rfl, rfl, rfl, rfl, rfl, rfl, rfl, rfl, trivial⟩, hC, hO, h0, a0, a1, a2, a3, a4, d1, j9, q9⟩
      ·skip
       obtain ⟨A7, o7, A8, u6, e8, o8⟩ := new_block u1 [(.slice none 0 0), (.int .i64 0), (.slice none 0 0)] 56
       refine xk_val (w' := A7) (b := false) (.pointer (some ⟨o7, 0, none⟩)) rfl  (y_alloc (by rw [A8, u6]; kernel_rfl)) rfl (fun _ => hS.ext e8) ?_
       have h0 := h0.ext e8
       have a0 := a0.cn e8
       have a1 := a1.cn e8
       have a2 := a2.ext e8
       have a3 := a3.cn e8
       have a4 := a4.ext e8
       have d1 := d1.ext e8
       have hC := hC.ext e8
       have hO := hO.new1 e8 u6 o8.lt
       have hS := hS.ext e8
       refine x_one (i := 4) (by kernel_rfl) ?_
       refine xk_call (b := false) rfl  Bd90 rfl (c_impl_cloneRelation (M := M) (x1550.1, x1550.2) a2 hO.fut k6) rfl (by rintro _ _ _ ⟨l1, l2, l3, r0, rfl, d3, o9, u7⟩; exact hS.ext d3) ?_
       rintro _ I7 ⟨l1, l2, l3, r0, rfl, d3, o9, u7⟩
       have h0 := h0.ext d3
       have a0 := a0.cn d3
       have a1 := a1.cn d3
       have a2 := a2.ext d3
       have a3 := a3.cn d3
       have a4 := a4.ext d3
       have d1 := d1.ext d3
       have o8 := o8.cn d3
       have hC := hC.ext d3
       have hO := Own.join0 hO d3 u7
       have hO := hO.perm (R := r0 ++ (([o7]) ++ (o6 ++ (b6 ++ (([a7]) ++ (([a6]) ++ (([a5]) ++ ([])))))))) (by simp)
       have hS := hS.ext d3
       refine x_p 5 (.agg #[(.slice g8 g9 h1), (.int .i64 r2078.1), (.slice l1 l2 l3)]) rfl (by kernel_rfl)  (fun _ => y_build rfl (by kernel_rfl)) (fun _ => hS) ?_
       refine x_one (i := 7) (by kernel_rfl) ?_
       obtain ⟨u9, A9, f9, r1⟩ := box_store (P := Try.prog) o8 [] [(.slice none 0 0), (.int .i64 0), (.slice none 0 0)] [] [(.slice g8 g9 h1), (.int .i64 r2078.1), (.slice l1 l2 l3)] rfl rfl (by intro u hu; simp only [List.mem_cons, List.not_mem_nil, or_false] at hu; rcases hu with rfl | rfl | rfl <;> rfl)
       refine xk_skip (w' := u9) (b := true) rfl (ys_store rfl rfl (A9 _ _ rfl Sz56)) rfl (fun h => nomatch h) ?_
       have hO := hO.fr1
       have h0 := h0.mt f9 hO same_
       have a0 := a0.ap f9 hO same_ (mem_r (mem_r (mem_r (mem_r (mem_r (mem_l (List.mem_singleton.2 rfl)))))))
       have a1 := a1.ap f9 hO same_ (mem_r (mem_r (mem_r (mem_r (mem_l (List.mem_singleton.2 rfl))))))
       have a2 := a2.mt f9 hO same_
       have a3 := a3.ap f9 hO same_ (mem_r (mem_r (mem_r (mem_l (List.mem_singleton.2 rfl)))))
       have a4 := a4.ma f9 hO same_ (fun _ e => (mem_r (mem_r (mem_l (e)))))
       have d1 := d1.ma f9 hO same_ (fun _ e => (mem_r (mem_l (e))))
       have o9 := o9.ma f9 hO same_ (fun _ e => (mem_l (e)))
       have hC := hC.st f9 hO same_
       have hO := hO.ext f9
       have r1 : BoxV u9 o7 56 [(.slice g8 g9 h1), (.int .i64 r2078.1), (.slice l1 l2 l3)] := r1
       refine x_end (by kernel_rfl) ?_
       clear hS
       have hO := hO.fr6
       have hO := hO.fr6
       have hO := hO.fr6
       have hO := hO.fr6
       have hO := hO.fr6
       have hO := hO.fr6
       have hO := hO.fr6
       exact ⟨_, g8, l1, h1, l3, o6, r0, o7, g9, l2, fr_ovl 110 ⟨rfl, rfl, rfl, rfl, rfl, rfl, rfl, rfl, rfl, rfl, trivial⟩, hC, hO, h0, a0, a1, a2, a3, a4, d1, o9, r1⟩
     ·skip
      refine xk_call (b := false) rfl  Bd90 rfl (c_impl_cloneRelation (M := M) (x1550.1, x1550.2) a2 hO.fut k6) rfl (by rintro _ _ _ ⟨h2, h3, h4, p0, rfl, e9, d2, v0⟩; exact hS.ext e9) ?_
      rintro _ v1 ⟨h2, h3, h4, p0, rfl, e9, d2, v0⟩
      have h0 := h0.ext e9
      have a0 := a0.cn e9
      have a1 := a1.cn e9
      have a2 := a2.ext e9
      have a3 := a3.cn e9
      have a4 := a4.ext e9
      have hC := hC.ext e9
      have hO := Own.join0 hO e9 v0
      have hO := hO.perm (R := p0 ++ (b6 ++ (([a7]) ++ (([a6]) ++ (([a5]) ++ ([])))))) (by simp)
      have hS := hS.ext e9
      refine x_two (i := 2) (j := 6) (by kernel_rfl) ?_ ?_
      ·skip
       obtain ⟨l4, l5, l6, v2, B0, B1, f0, B2, i7⟩ := mk_os (M := M) (w := v1) (r := (RT.int .i64)) Rw41 k5 (fun _ _ => ⟨rfl, rfl⟩)
       refine xk_val (w' := v2) (b := false) (.slice l4 l5 l6) rfl  (y_make rfl rfl B1) rfl (fun _ => hS.ext f0) ?_
       have h0 := h0.ext f0
       have a0 := a0.cn f0
       have a1 := a1.cn f0
       have a2 := a2.ext f0
       have a3 := a3.cn f0
       have a4 := a4.ext f0
       have d2 := d2.ext f0
       have hC := hC.ext f0
       have hO := hO.new f0 B2 (os_nodup i7) i7.fpl
       have hS := hS.ext f0
       refine x_p 5 (.agg #[(.slice l4 l5 l6), (.int .i64 r2078.1), (.slice h2 h3 h4)]) rfl (by kernel_rfl)  (fun _ => y_build rfl (by kernel_rfl)) (fun _ => hS) ?_
       refine x_one (i := 6) (by kernel_rfl) ?_
       obtain ⟨B3, r2, B4, v3, d9, v4⟩ := new_block v2 [(.slice none 0 0), (.int .i64 0), (.slice none 0 0)] 56
       refine xk_val (w' := B3) (b := false) (.pointer (some ⟨r2, 0, none⟩)) rfl  (y_alloc (by rw [B4, v3]; kernel_rfl)) rfl (fun _ => hS.ext d9) ?_
       have h0 := h0.ext d9
       have a0 := a0.cn d9
       have a1 := a1.cn d9
       have a2 := a2.ext d9
       have a3 := a3.cn d9
       have a4 := a4.ext d9
       have d2 := d2.ext d9
       have i7 := i7.ext d9
       have hC := hC.ext d9
       have hO := hO.new1 d9 v3 v4.lt
       have hS := hS.ext d9
       refine x_one (i := 7) (by kernel_rfl) ?_
       obtain ⟨v5, B5, g0, r3⟩ := box_store (P := Try.prog) v4 [] [(.slice none 0 0), (.int .i64 0), (.slice none 0 0)] [] [(.slice l4 l5 l6), (.int .i64 r2078.1), (.slice h2 h3 h4)] rfl rfl (by intro u hu; simp only [List.mem_cons, List.not_mem_nil, or_false] at hu; rcases hu with rfl | rfl | rfl <;> rfl)
       refine xk_skip (w' := v5) (b := true) rfl (ys_store rfl rfl (B5 _ _ rfl Sz56)) rfl (fun h => nomatch h) ?_
       have h0 := h0.mt g0 hO same_
       have a0 := a0.ap g0 hO same_ (mem_r (mem_r (mem_r (mem_r (mem_r (mem_l (List.mem_singleton.2 rfl)))))))
       have a1 := a1.ap g0 hO same_ (mem_r (mem_r (mem_r (mem_r (mem_l (List.mem_singleton.2 rfl))))))
       have a2 := a2.mt g0 hO same_
       have a3 := a3.ap g0 hO same_ (mem_r (mem_r (mem_r (mem_l (List.mem_singleton.2 rfl)))))
       have a4 := a4.ma g0 hO same_ (fun _ e => (mem_r (mem_r (mem_l (e)))))
       have d2 := d2.ma g0 hO same_ (fun _ e => (mem_r (mem_l (e))))
       have i7 := i7.ma g0 hO same_ (fun _ e => (mem_l (e)))
       have hC := hC.st g0 hO same_
       have hO := hO.ext g0
       have r3 : BoxV v5 r2 56 [(.slice l4 l5 l6), (.int .i64 r2078.1), (.slice h2 h3 h4)] := r3
       refine x_end (by kernel_rfl) ?_
       clear hS
       have hO := hO.fr6
       have hO := hO.fr6
       have hO := hO.fr6
       have hO := hO.fr6
       have hO := hO.fr5
       have hO := hO.fr6
       have hO := hO.fr6
       exact ⟨_, l4, h2, l6, h4, B0, p0, r2, l5, h3, fr_ovl 110 ⟨rfl, rfl, rfl, rfl, rfl, rfl, rfl, rfl, rfl, rfl, trivial⟩, hC, hO, h0, a0, a1, a2, a3, a4, i7, d2, r3⟩
      ·skip
       obtain ⟨v6, r4, B6, v7, f1, p1⟩ := new_block v1 [(.slice none 0 0), (.int .i64 0), (.slice none 0 0)] 56
       refine xk_val (w' := v6) (b := false) (.pointer (some ⟨r4, 0, none⟩)) rfl  (y_alloc (by rw [B6, v7]; kernel_rfl)) rfl (fun _ => hS.ext f1) ?_
       have h0 := h0.ext f1
       have a0 := a0.cn f1
       have a1 := a1.cn f1
       have a2 := a2.ext f1
       have a3 := a3.cn f1
       have a4 := a4.ext f1
       have d2 := d2.ext f1
       have hC := hC.ext f1
       have hO := hO.new1 f1 v7 p1.lt
       have hS := hS.ext f1
       refine x_one (i := 2) (by kernel_rfl) ?_
       obtain ⟨l7, l8, l9, B7, B8, B9, e0, C0, m0⟩ := mk_os (M := M) (w := v6) (r := (RT.int .i64)) Rw41 k5 (fun _ _ => ⟨rfl, rfl⟩)
       refine xk_val (w' := B7) (b := false) (.slice l7 l8 l9) rfl  (y_make rfl rfl B9) rfl (fun _ => hS.ext e0) ?_
       have h0 := h0.ext e0
       have a0 := a0.cn e0
       have a1 := a1.cn e0
       have a2 := a2.ext e0
       have a3 := a3.cn e0
       have a4 := a4.ext e0
       have d2 := d2.ext e0
       have p1 := p1.cn e0
       have hC := hC.ext e0
       have hO := hO.new e0 C0 (os_nodup m0) m0.fpl
       have hS := hS.ext e0
       refine x_p 5 (.agg #[(.slice l7 l8 l9), (.int .i64 r2078.1), (.slice h2 h3 h4)]) rfl (by kernel_rfl)  (fun _ => y_build rfl (by kernel_rfl)) (fun _ => hS) ?_
       refine x_one (i := 7) (by kernel_rfl) ?_
       obtain ⟨v8, C1, g1, r5⟩ := box_store (P := Try.prog) p1 [] [(.slice none 0 0), (.int .i64 0), (.slice none 0 0)] [] [(.slice l7 l8 l9), (.int .i64 r2078.1), (.slice h2 h3 h4)] rfl rfl (by intro u hu; simp only [List.mem_cons, List.not_mem_nil, or_false] at hu; rcases hu with rfl | rfl | rfl <;> rfl)
       refine xk_skip (w' := v8) (b := true) rfl (ys_store rfl rfl (C1 _ _ rfl Sz56)) rfl (fun h => nomatch h) ?_
       have hO := hO.fr1
       have h0 := h0.mt g1 hO same_
       have a0 := a0.ap g1 hO same_ (mem_r (mem_r (mem_r (mem_r (mem_r (mem_l (List.mem_singleton.2 rfl)))))))
       have a1 := a1.ap g1 hO same_ (mem_r (mem_r (mem_r (mem_r (mem_l (List.mem_singleton.2 rfl))))))
       have a2 := a2.mt g1 hO same_
       have a3 := a3.ap g1 hO same_ (mem_r (mem_r (mem_r (mem_l (List.mem_singleton.2 rfl)))))
       have a4 := a4.ma g1 hO same_ (fun _ e => (mem_r (mem_r (mem_l (e)))))
       have d2 := d2.ma g1 hO same_ (fun _ e => (mem_r (mem_l (e))))
       have m0 := m0.ma g1 hO same_ (fun _ e => (mem_l (e)))
       have hC := hC.st g1 hO same_
       have hO := hO.ext g1
       have r5 : BoxV v8 r4 56 [(.slice l7 l8 l9), (.int .i64 r2078.1), (.slice h2 h3 h4)] := r5
       refine x_end (by kernel_rfl) ?_
       clear hS
       have hO := hO.fr6
       have hO := hO.fr6
       have hO := hO.fr6
       have hO := hO.fr6
       have hO := hO.fr5
       have hO := hO.fr6
       have hO := hO.fr6
       exact ⟨_, l7, h2, l9, h4, B8, p0, r4, l8, h3, fr_ovl 110 ⟨rfl, rfl, rfl, rfl, rfl, rfl, rfl, rfl, rfl, rfl, trivial⟩, hC, hO, h0, a0, a1, a2, a3, a4, m0, d2, r5⟩
     ·skip
      obtain ⟨v9, i9, C2, w1, g2, f2⟩ := new_block q6 [(.slice none 0 0), (.int .i64 0), (.slice none 0 0)] 56
      refine xk_val (w' := v9) (b := false) (.pointer (some ⟨i9, 0, none⟩)) rfl  (y_alloc (by rw [C2, w1]; kernel_rfl)) rfl (fun _ => hS.ext g2) ?_
      have h0 := h0.ext g2
      have a0 := a0.cn g2
      have a1 := a1.cn g2
      have a2 := a2.ext g2
      have a3 := a3.cn g2
      have a4 := a4.ext g2
      have hC := hC.ext g2
      have hO := hO.new1 g2 w1 f2.lt
      have hS := hS.ext g2
      refine x_two (i := 2) (j := 4) (by kernel_rfl) ?_ ?_
      ·skip
       obtain ⟨m1, m2, m3, C3, w2, C4, f3, C5, j0⟩ := mk_os (M := M) (w := v9) (r := (RT.int .i64)) Rw41 k5 (fun _ _ => ⟨rfl, rfl⟩)
       refine xk_val (w' := C3) (b := false) (.slice m1 m2 m3) rfl  (y_make rfl rfl C4) rfl (fun _ => hS.ext f3) ?_
       have h0 := h0.ext f3
       have a0 := a0.cn f3
       have a1 := a1.cn f3
       have a2 := a2.ext f3
       have a3 := a3.cn f3
       have a4 := a4.ext f3
       have f2 := f2.cn f3
       have hC := hC.ext f3
       have hO := hO.new f3 C5 (os_nodup j0) j0.fpl
       have hS := hS.ext f3
       refine x_one (i := 4) (by kernel_rfl) ?_
       refine xk_call (b := false) rfl  Bd90 rfl (c_impl_cloneRelation (M := M) (x1550.1, x1550.2) a2 hO.fut k6) rfl (by rintro _ _ _ ⟨m4, m5, m6, r6, rfl, d4, p2, w3⟩; exact hS.ext d4) ?_
       rintro _ I8 ⟨m4, m5, m6, r6, rfl, d4, p2, w3⟩
       have h0 := h0.ext d4
       have a0 := a0.cn d4
       have a1 := a1.cn d4
       have a2 := a2.ext d4
       have a3 := a3.cn d4
       have a4 := a4.ext d4
       have f2 := f2.cn d4
       have j0 := j0.ext d4
       have hC := hC.ext d4
       have hO := Own.join0 hO d4 w3
       have hO := hO.perm (R := r6 ++ (w2 ++ (([i9]) ++ (b6 ++ (([a7]) ++ (([a6]) ++ (([a5]) ++ ([])))))))) (by simp)
       have hS := hS.ext d4
       refine x_p 5 (.agg #[(.slice m1 m2 m3), (.int .i64 r2078.1), (.slice m4 m5 m6)]) rfl (by kernel_rfl)  (fun _ => y_build rfl (by kernel_rfl)) (fun _ => hS) ?_
       refine x_one (i := 7) (by kernel_rfl) ?_
       obtain ⟨w4, C6, g3, r8⟩ := box_store (P := Try.prog) f2 [] [(.slice none 0 0), (.int .i64 0), (.slice none 0 0)] [] [(.slice m1 m2 m3), (.int .i64 r2078.1), (.slice m4 m5 m6)] rfl rfl (by intro u hu; simp only [List.mem_cons, List.not_mem_nil, or_false] at hu; rcases hu with rfl | rfl | rfl <;> rfl)
       refine xk_skip (w' := w4) (b := true) rfl (ys_store rfl rfl (C6 _ _ rfl Sz56)) rfl (fun h => nomatch h) ?_
       have hO := hO.fr2
       have h0 := h0.mt g3 hO same_
       have a0 := a0.ap g3 hO same_ (mem_r (mem_r (mem_r (mem_r (mem_r (mem_l (List.mem_singleton.2 rfl)))))))
       have a1 := a1.ap g3 hO same_ (mem_r (mem_r (mem_r (mem_r (mem_l (List.mem_singleton.2 rfl))))))
       have a2 := a2.mt g3 hO same_
       have a3 := a3.ap g3 hO same_ (mem_r (mem_r (mem_r (mem_l (List.mem_singleton.2 rfl)))))
       have a4 := a4.ma g3 hO same_ (fun _ e => (mem_r (mem_r (mem_l (e)))))
       have j0 := j0.ma g3 hO same_ (fun _ e => (mem_r (mem_l (e))))
       have p2 := p2.ma g3 hO same_ (fun _ e => (mem_l (e)))
       have hC := hC.st g3 hO same_
       have hO := hO.ext g3
       have r8 : BoxV w4 i9 56 [(.slice m1 m2 m3), (.int .i64 r2078.1), (.slice m4 m5 m6)] := r8
       refine x_end (by kernel_rfl) ?_
       clear hS
       have hO := hO.fr6
       have hO := hO.fr6
       have hO := hO.fr6
       have hO := hO.fr6
       have hO := hO.fr6
       have hO := hO.fr6
       have hO := hO.fr6
       exact ⟨_, m1, m4, m3, m6, w2, r6, i9, m2, m5, fr_ovl 110 ⟨rfl, rfl, rfl, rfl, rfl, rfl, rfl, rfl, rfl, rfl, trivial⟩, hC, hO, h0, a0, a1, a2, a3, a4, j0, p2, r8⟩
      ·skip
       refine xk_call (b := false) rfl  Bd90 rfl (c_impl_cloneRelation (M := M) (x1550.1, x1550.2) a2 hO.fut k6) rfl (by rintro _ _ _ ⟨m7, m8, m9, r9, rfl, e1, k0, w5⟩; exact hS.ext e1) ?_
       rintro _ C7 ⟨m7, m8, m9, r9, rfl, e1, k0, w5⟩
       have h0 := h0.ext e1
       have a0 := a0.cn e1
       have a1 := a1.cn e1
       have a2 := a2.ext e1
       have a3 := a3.cn e1
       have a4 := a4.ext e1
       have f2 := f2.cn e1
       have hC := hC.ext e1
       have hO := Own.join0 hO e1 w5
       have hO := hO.perm (R := r9 ++ (([i9]) ++ (b6 ++ (([a7]) ++ (([a6]) ++ (([a5]) ++ ([]))))))) (by simp)
       have hS := hS.ext e1
       refine x_one (i := 2) (by kernel_rfl) ?_
       obtain ⟨n0, n1, n2, C8, C9, D0, e2, D1, n3⟩ := mk_os (M := M) (w := C7) (r := (RT.int .i64)) Rw41 k5 (fun _ _ => ⟨rfl, rfl⟩)
       refine xk_val (w' := C8) (b := false) (.slice n0 n1 n2) rfl  (y_make rfl rfl D0) rfl (fun _ => hS.ext e2) ?_
       have h0 := h0.ext e2
       have a0 := a0.cn e2
       have a1 := a1.cn e2
       have a2 := a2.ext e2
       have a3 := a3.cn e2
       have a4 := a4.ext e2
       have f2 := f2.cn e2
       have k0 := k0.ext e2
       have hC := hC.ext e2
       have hO := hO.new e2 D1 (os_nodup n3) n3.fpl
       have hS := hS.ext e2
       refine x_p 5 (.agg #[(.slice n0 n1 n2), (.int .i64 r2078.1), (.slice m7 m8 m9)]) rfl (by kernel_rfl)  (fun _ => y_build rfl (by kernel_rfl)) (fun _ => hS) ?_
       refine x_one (i := 7) (by kernel_rfl) ?_
       obtain ⟨w6, D2, g4, s0⟩ := box_store (P := Try.prog) f2 [] [(.slice none 0 0), (.int .i64 0), (.slice none 0 0)] [] [(.slice n0 n1 n2), (.int .i64 r2078.1), (.slice m7 m8 m9)] rfl rfl (by intro u hu; simp only [List.mem_cons, List.not_mem_nil, or_false] at hu; rcases hu with rfl | rfl | rfl <;> rfl)
       refine xk_skip (w' := w6) (b := true) rfl (ys_store rfl rfl (D2 _ _ rfl Sz56)) rfl (fun h => nomatch h) ?_
       have hO := hO.fr2
       have h0 := h0.mt g4 hO same_
       have a0 := a0.ap g4 hO same_ (mem_r (mem_r (mem_r (mem_r (mem_r (mem_l (List.mem_singleton.2 rfl)))))))
       have a1 := a1.ap g4 hO same_ (mem_r (mem_r (mem_r (mem_r (mem_l (List.mem_singleton.2 rfl))))))
       have a2 := a2.mt g4 hO same_
       have a3 := a3.ap g4 hO same_ (mem_r (mem_r (mem_r (mem_l (List.mem_singleton.2 rfl)))))
       have a4 := a4.ma g4 hO same_ (fun _ e => (mem_r (mem_r (mem_l (e)))))
       have k0 := k0.ma g4 hO same_ (fun _ e => (mem_r (mem_l (e))))
       have n3 := n3.ma g4 hO same_ (fun _ e => (mem_l (e)))
       have hC := hC.st g4 hO same_
       have hO := hO.ext g4
       have s0 : BoxV w6 i9 56 [(.slice n0 n1 n2), (.int .i64 r2078.1), (.slice m7 m8 m9)] := s0
       refine x_end (by kernel_rfl) ?_
       clear hS
       have hO := hO.fr6
       have hO := hO.fr6
       have hO := hO.fr6
       have hO := hO.fr6
       have hO := hO.fr5
       have hO := hO.fr6
       have hO := hO.fr6
       exact ⟨_, n0, m7, n2, m9, C9, r9, i9, n1, m8, fr_ovl 110 ⟨rfl, rfl, rfl, rfl, rfl, rfl, rfl, rfl, rfl, rfl, trivial⟩, hC, hO, h0, a0, a1, a2, a3, a4, n3, k0, s0⟩
    rintro g6 d6 ⟨σ, b7, c4, b8, c5, k7, d0, c3, b9, c6, rfl, hC, hO, h0, a0, a1, a2, a3, a4, s1, b5, a8⟩
    refine c_seq ?_
    refine c_sr ?_
    refine pl_val (.int .i64 s2060.1) (y_move rfl) ?_
    refine pl_val (.int .i64 k) (y_move rfl) ?_
    refine pl_val (.pointer (some ⟨a7, 1, none⟩)) (y_faddr rfl Fa54x1) ?_
    refine pl_val (.slice b2 b3 b4) (y_load rfl ((box_load Ag47 Sz47 a3 [(.int .i64 x1550.1)] [(.slice b2 b3 b4)] [] rfl rfl (fun _ => rfl)) _ (Chg.refl _ _))) ?_
    refine pl_val (.int .i64 (x1550.2.length : Int)) (y_len' Sl47 (rs_len a2) rfl) ?_
    obtain ⟨r2158, D3, hs⟩ := bind_some hs
    refine pl_call Bd91 rfl (c_impl_argsAt (M := M) s2060.1 k (x1550.2.length : Int)  hO.fut D3) ?_
    rintro _ I9 ⟨j1, j2, j3, g5, rfl, f4, b0, D4⟩
    have h0 := h0.ext f4
    have a0 := a0.cn f4
    have a1 := a1.cn f4
    have a2 := a2.ext f4
    have a3 := a3.cn f4
    have a4 := a4.ext f4
    have s1 := s1.ext f4
    have b5 := b5.ext f4
    have a8 := a8.cn f4
    have hC := hC.ext f4
    have hO := Own.join0 hO f4 D4
    have hO := hO.perm (R := g5 ++ (([c3]) ++ (d0 ++ (k7 ++ (b6 ++ (([a7]) ++ (([a6]) ++ (([a5]) ++ ([]))))))))) (by simp)
    refine pl_val (.int .i64 (r2158.length : Int)) (y_len' Sl41 (os_len b0) rfl) ?_
    refine pl_val (.int .i64 0) (y_move rfl) ?_
    refine c_nil ?_
    obtain ⟨o2257, D5, hs⟩ := bind_some hs
    refine wp_block ?_
    refine wp_forR (id := 4) (I := fun i_ xs_ s2253 a b1 => ∃ e3 : Nat, i_ = (e3 : Int) ∧ List.drop e3 r2158 = xs_ ∧ (∃ (σ : Nat → Value) (k1 : List Nat), a = fr 110 (ovl σ [(0, (.int .i64 n)), (2, (.int .i64 k)), (6, (.pointer (some ⟨a5, 0, none⟩))), (8, (.pointer (some ⟨a6, 0, none⟩))), (10, (.pointer (some ⟨a7, 0, none⟩))), (11, (.int .i64 s2060.1)), (12, (.pointer (some ⟨c3, 0, none⟩))), (33, (.slice pa0 pn0 pc0)), (34, (.int .i64 (rels.length : Int))), (35, (.int .i64 (c9 : Int))), (59, (.slice j1 j2 j3)), (60, (.int .i64 (r2158.length : Int))), (61, (.int .i64 (e3 : Int)))]) ∧ Chg [] w b1 ∧ Own (Nw w []) M b1 (g5 ++ (([c3]) ++ (d0 ++ (k1 ++ (b6 ++ (([a7]) ++ (([a6]) ++ (([a5]) ++ [])))))))) ∧ (RT.rs (RT.pr (RT.int .i64) (RT.rs (RT.rs (RT.int .i64))))).val M b1 (.slice pa0 pn0 pc0) rels ([]) ∧ BoxV b1 a5 30 [(.int .i64 0), (.int .i64 0), (.slice none 0 0)] ∧ BoxV b1 a6 30 [(.int .i64 r14), (.int .i64 n), (.slice c0 c1 c2)] ∧ (RT.rs (RT.rs (RT.int .i64))).val M b1 (.slice b2 b3 b4) x1550.2 ([]) ∧ BoxV b1 a7 54 [(.int .i64 x1550.1), (.slice b2 b3 b4)] ∧ (RT.os 56 (RT.pr (RT.os 3 (RT.int .i64)) (RT.pr (RT.int .i64) (RT.os 41 (RT.os 3 (RT.int .i64)))))).val M b1 (.slice c0 c1 c2) s2060.2 b6 ∧ (RT.os 3 (RT.int .i64)).val M b1 (.slice b7 b9 b8) s2253 k1 ∧ (RT.os 41 (RT.os 3 (RT.int .i64))).val M b1 (.slice c4 c6 c5) r2078.2 d0 ∧ BoxV b1 c3 56 [(.slice b7 b9 b8), (.int .i64 r2078.1), (.slice c4 c6 c5)] ∧ (RT.os 3 (RT.int .i64)).val M b1 (.slice j1 j2 j3) r2158 g5)) (J := fun s2253 a b1 => ∃ (σ : Nat → Value) (j4 : List Nat), a = fr 110 (ovl σ [(0, (.int .i64 n)), (2, (.int .i64 k)), (6, (.pointer (some ⟨a5, 0, none⟩))), (8, (.pointer (some ⟨a6, 0, none⟩))), (10, (.pointer (some ⟨a7, 0, none⟩))), (11, (.int .i64 s2060.1)), (12, (.pointer (some ⟨c3, 0, none⟩))), (33, (.slice pa0 pn0 pc0)), (34, (.int .i64 (rels.length : Int))), (35, (.int .i64 (c9 : Int)))]) ∧ Chg [] w b1 ∧ Own (Nw w []) M b1 (g5 ++ (([c3]) ++ (d0 ++ (j4 ++ (b6 ++ (([a7]) ++ (([a6]) ++ (([a5]) ++ [])))))))) ∧ (RT.rs (RT.pr (RT.int .i64) (RT.rs (RT.rs (RT.int .i64))))).val M b1 (.slice pa0 pn0 pc0) rels ([]) ∧ BoxV b1 a5 30 [(.int .i64 0), (.int .i64 0), (.slice none 0 0)] ∧ BoxV b1 a6 30 [(.int .i64 r14), (.int .i64 n), (.slice c0 c1 c2)] ∧ (RT.rs (RT.rs (RT.int .i64))).val M b1 (.slice b2 b3 b4) x1550.2 ([]) ∧ BoxV b1 a7 54 [(.int .i64 x1550.1), (.slice b2 b3 b4)] ∧ (RT.os 56 (RT.pr (RT.os 3 (RT.int .i64)) (RT.pr (RT.int .i64) (RT.os 41 (RT.os 3 (RT.int .i64)))))).val M b1 (.slice c0 c1 c2) s2060.2 b6 ∧ (RT.os 3 (RT.int .i64)).val M b1 (.slice b7 b9 b8) s2253 j4 ∧ (RT.os 41 (RT.os 3 (RT.int .i64))).val M b1 (.slice c4 c6 c5) r2078.2 d0 ∧ BoxV b1 c3 56 [(.slice b7 b9 b8), (.int .i64 r2078.1), (.slice c4 c6 c5)] ∧ (RT.os 3 (RT.int .i64)).val M b1 (.slice j1 j2 j3) r2158 g5) (K := (k_impl_NetworkOfPolymorphisms M w)) ?_ ?_ r2158 0 y2075 o2257 _ _ ?_ D5 ?_
    ·rintro _ s2253 a b1 ⟨e3, rfl, hd, σ, k1, rfl, hC, hO, h0, a0, a1, a2, a3, a4, p3, b5, a8, b0⟩
     have hlt := drop_nil_ge hd
     refine c_sr ?_
     refine pl_val (.bool (decide ((e3 : Int) < (r2158.length : Int)))) (y_lss rfl rfl) ?_
     refine c_nil ?_
     refine c_seq ?_
     refine c_condF (congrArg Value.bool (decide_eq_false hlt)) ?_
     refine wp_exit ?_
     have hO := hO.fr7
     have hO := hO.fr7
     have hO := hO.fr7
     have hO := hO.fr7
     have hO := hO.fr7
     have hO := hO.fr7
     have hO := hO.fr7
     have hO := hO.fr7
     exact ⟨rfl, _, k1, fr_ovl 110 ⟨rfl, rfl, rfl, rfl, rfl, rfl, rfl, rfl, rfl, rfl, trivial⟩, hC, hO, h0, a0, a1, a2, a3, a4, p3, b5, a8, b0⟩
    ·rintro _ x2256 xs_ s2253 o2257 a b1 ⟨e3, rfl, hd, σ, k1, rfl, hC, hO, h0, a0, a1, a2, a3, a4, p3, b5, a8, b0⟩ hs
     have hlt := drop_cons_lt hd
     have D6 := drop_cons_idx hd
     refine c_sr ?_
     refine pl_val (.bool (decide ((e3 : Int) < (r2158.length : Int)))) (y_lss rfl rfl) ?_
     refine c_nil ?_
     refine c_seq ?_
     refine c_condT (congrArg Value.bool (decide_eq_true hlt)) ?_
     refine wp_skip ?_
     refine c_seq ?_
     refine wp_block ?_
     refine c_sr ?_
     obtain ⟨D7, J0, J1, J2, D8, D9, J3⟩ := os_idx Sl41 Sz3 b0 D6
     refine pl_val (.pointer (some ⟨D7, 0 + Int.toNat (e3 : Int) * 1, none⟩)) (D8 _ _ _ _ _ _ _ _ _ rfl rfl) ?_
     refine pl_val (.int .i64 x2256) (y_load rfl ((at_load_int Ag3 Sz3 D9) _ (Chg.refl _ _))) ?_
     refine pl_val (.int .i64 x2256) (y_assign rfl) ?_
     refine c_nil ?_
     refine c_sr ?_
     refine pl_val (.pointer (some ⟨c3, 0, none⟩)) (y_faddr rfl Fa56x0) ?_
     refine pl_val (.slice b7 b9 b8) (y_load rfl ((box_load Ag41 Sz41 a8 [] [(.slice b7 b9 b8)] [(.int .i64 r2078.1), (.slice c4 c6 c5)] rfl rfl (fun _ => rfl)) _ (Chg.refl _ _))) ?_
     refine pl_val (.int .i64 (s2253.length : Int)) (y_len' Sl41 (os_len p3) rfl) ?_
     refine pl_val (.int .i64 0) (y_move rfl) ?_
     refine c_nil ?_
     obtain ⟨o2291, E0, hs⟩ := bind_some hs
     refine wp_block ?_
     refine wp_forC (id := 6) (s2253.length : Int) (I := fun k2289 s2287 a a9 => ∃ (σ : Nat → Value) (k2 : List Nat), a = fr 110 (ovl σ [(0, (.int .i64 n)), (2, (.int .i64 k)), (6, (.pointer (some ⟨a5, 0, none⟩))), (8, (.pointer (some ⟨a6, 0, none⟩))), (10, (.pointer (some ⟨a7, 0, none⟩))), (11, (.int .i64 s2060.1)), (12, (.pointer (some ⟨c3, 0, none⟩))), (14, (.int .i64 x2256)), (33, (.slice pa0 pn0 pc0)), (34, (.int .i64 (rels.length : Int))), (35, (.int .i64 (c9 : Int))), (59, (.slice j1 j2 j3)), (60, (.int .i64 (r2158.length : Int))), (61, (.int .i64 (e3 : Int))), (67, (.int .i64 (s2253.length : Int))), (68, (.int .i64 k2289))]) ∧ Chg [] w a9 ∧ Own (Nw w []) M a9 (g5 ++ (([c3]) ++ (d0 ++ (k2 ++ (b6 ++ (([a7]) ++ (([a6]) ++ (([a5]) ++ [])))))))) ∧ (RT.rs (RT.pr (RT.int .i64) (RT.rs (RT.rs (RT.int .i64))))).val M a9 (.slice pa0 pn0 pc0) rels ([]) ∧ BoxV a9 a5 30 [(.int .i64 0), (.int .i64 0), (.slice none 0 0)] ∧ BoxV a9 a6 30 [(.int .i64 r14), (.int .i64 n), (.slice c0 c1 c2)] ∧ (RT.rs (RT.rs (RT.int .i64))).val M a9 (.slice b2 b3 b4) x1550.2 ([]) ∧ BoxV a9 a7 54 [(.int .i64 x1550.1), (.slice b2 b3 b4)] ∧ (RT.os 56 (RT.pr (RT.os 3 (RT.int .i64)) (RT.pr (RT.int .i64) (RT.os 41 (RT.os 3 (RT.int .i64)))))).val M a9 (.slice c0 c1 c2) s2060.2 b6 ∧ (RT.os 3 (RT.int .i64)).val M a9 (.slice b7 b9 b8) s2287 k2 ∧ (RT.os 41 (RT.os 3 (RT.int .i64))).val M a9 (.slice c4 c6 c5) r2078.2 d0 ∧ BoxV a9 c3 56 [(.slice b7 b9 b8), (.int .i64 r2078.1), (.slice c4 c6 c5)] ∧ (RT.os 3 (RT.int .i64)).val M a9 (.slice j1 j2 j3) r2158 g5) (J := fun s2287 a a9 => ∃ (σ : Nat → Value) (p4 : List Nat), a = fr 110 (ovl σ [(0, (.int .i64 n)), (2, (.int .i64 k)), (6, (.pointer (some ⟨a5, 0, none⟩))), (8, (.pointer (some ⟨a6, 0, none⟩))), (10, (.pointer (some ⟨a7, 0, none⟩))), (11, (.int .i64 s2060.1)), (12, (.pointer (some ⟨c3, 0, none⟩))), (33, (.slice pa0 pn0 pc0)), (34, (.int .i64 (rels.length : Int))), (35, (.int .i64 (c9 : Int))), (59, (.slice j1 j2 j3)), (60, (.int .i64 (r2158.length : Int))), (61, (.int .i64 (e3 : Int)))]) ∧ Chg [] w a9 ∧ Own (Nw w []) M a9 (g5 ++ (([c3]) ++ (d0 ++ (p4 ++ (b6 ++ (([a7]) ++ (([a6]) ++ (([a5]) ++ [])))))))) ∧ (RT.rs (RT.pr (RT.int .i64) (RT.rs (RT.rs (RT.int .i64))))).val M a9 (.slice pa0 pn0 pc0) rels ([]) ∧ BoxV a9 a5 30 [(.int .i64 0), (.int .i64 0), (.slice none 0 0)] ∧ BoxV a9 a6 30 [(.int .i64 r14), (.int .i64 n), (.slice c0 c1 c2)] ∧ (RT.rs (RT.rs (RT.int .i64))).val M a9 (.slice b2 b3 b4) x1550.2 ([]) ∧ BoxV a9 a7 54 [(.int .i64 x1550.1), (.slice b2 b3 b4)] ∧ (RT.os 56 (RT.pr (RT.os 3 (RT.int .i64)) (RT.pr (RT.int .i64) (RT.os 41 (RT.os 3 (RT.int .i64)))))).val M a9 (.slice c0 c1 c2) s2060.2 b6 ∧ (RT.os 3 (RT.int .i64)).val M a9 (.slice b7 b9 b8) s2287 p4 ∧ (RT.os 41 (RT.os 3 (RT.int .i64))).val M a9 (.slice c4 c6 c5) r2078.2 d0 ∧ BoxV a9 c3 56 [(.slice b7 b9 b8), (.int .i64 r2078.1), (.slice c4 c6 c5)] ∧ (RT.os 3 (RT.int .i64)).val M a9 (.slice j1 j2 j3) r2158 g5) (K := (k_impl_NetworkOfPolymorphisms M w)) ?_ ?_ 0 s2253 o2291 _ _ ?_ E0 ?_
     ·rintro k2289 s2287 a a9 ⟨σ, k2, rfl, hC, hO, h0, a0, a1, a2, a3, a4, h5, b5, a8, b0⟩ hlt
      refine c_sr ?_
      refine pl_val (.bool (decide (k2289 < (s2253.length : Int)))) (y_lss rfl rfl) ?_
      refine c_nil ?_
      refine c_seq ?_
      refine c_condF (congrArg Value.bool (decide_eq_false hlt)) ?_
      refine wp_exit ?_
      have hO := hO.fr7
      have hO := hO.fr7
      have hO := hO.fr7
      have hO := hO.fr7
      have hO := hO.fr7
      have hO := hO.fr7
      have hO := hO.fr7
      have hO := hO.fr7
      exact ⟨rfl, _, k2, fr_ovl 110 ⟨rfl, rfl, rfl, rfl, rfl, rfl, rfl, rfl, rfl, rfl, rfl, rfl, rfl, trivial⟩, hC, hO, h0, a0, a1, a2, a3, a4, h5, b5, a8, b0⟩
     ·rintro k2289 s2287 o2291 a a9 ⟨σ, k2, rfl, hC, hO, h0, a0, a1, a2, a3, a4, h5, b5, a8, b0⟩ hlt hw hs
      refine c_sr ?_
      refine pl_val (.bool (decide (k2289 < (s2253.length : Int)))) (y_lss rfl rfl) ?_
      refine c_nil ?_
      refine c_seq ?_
      refine c_condT (congrArg Value.bool (decide_eq_true hlt)) ?_
      refine wp_skip ?_
      refine c_seq ?_
      refine wp_block ?_
      refine c_sr ?_
      refine pl_val (.int .i64 k2289) (y_move rfl) ?_
      refine pl_val (.int .i64 k2289) (y_assign rfl) ?_
      refine c_nil ?_
      refine x_start [20] Mx rfl ?_
      have d5 := Chg.drew a9
      generalize World.drew a9 = E1 at d5 ⊢
      have h0 := h0.ext d5
      have a0 := a0.cn d5
      have a1 := a1.cn d5
      have a2 := a2.ext d5
      have a3 := a3.cn d5
      have a4 := a4.ext d5
      have h5 := h5.ext d5
      have b5 := b5.ext d5
      have a8 := a8.cn d5
      have b0 := b0.ext d5
      have hC := hC.ext d5
      have hO := hO.ext d5
      have hS := Chg.refl [] E1
      refine x_p 0 (.pointer (some ⟨c3, 0, none⟩)) rfl (by kernel_rfl)  (fun _ => y_faddr rfl Fa56x0) (fun _ => hS) ?_
      refine x_l 1 (.slice b7 b9 b8) rfl (by kernel_rfl)  (fun w' hw' => y_load rfl ((box_load Ag41 Sz41 a8 [] [(.slice b7 b9 b8)] [(.int .i64 r2078.1), (.slice c4 c6 c5)] rfl rfl (fun _ => rfl)) w' hw')) hS ?_
      refine x_p 2 (.int .i64 k2289) rfl (by kernel_rfl)  (fun _ => y_move rfl) (fun _ => hS) ?_
      refine x_p 3 (.pointer (some ⟨c3, 0, none⟩)) rfl (by kernel_rfl)  (fun _ => y_faddr rfl Fa56x0) (fun _ => hS) ?_
      refine x_l 4 (.slice b7 b9 b8) rfl (by kernel_rfl)  (fun w' hw' => y_load rfl ((box_load Ag41 Sz41 a8 [] [(.slice b7 b9 b8)] [(.int .i64 r2078.1), (.slice c4 c6 c5)] rfl rfl (fun _ => rfl)) w' hw')) hS ?_
      refine x_p 5 (.int .i64 k2289) rfl (by kernel_rfl)  (fun _ => y_move rfl) (fun _ => hS) ?_
      obtain ⟨x2296, E2, hs⟩ := bind_some hs
      obtain ⟨E3, J4, J5, J6, E4, E5, J7⟩ := os_idx Sl41 Sz3 h5 E2
      refine x_p 6 (.pointer (some ⟨E3, 0 + Int.toNat k2289 * 1, none⟩)) rfl (by kernel_rfl)  (fun _ => E4 _ _ _ _ _ _ _ _ _ rfl rfl) (fun _ => hS) ?_
      refine x_l 7 (.int .i64 x2296) rfl (by kernel_rfl)  (fun w' hw' => y_load rfl ((at_load_int Ag3 Sz3 E5) w' hw')) hS ?_
      refine x_p 8 (.int .i64 n) rfl (by kernel_rfl)  (fun _ => y_move rfl) (fun _ => hS) ?_
      refine x_p 9 (.int .i64 (w64 (x2296 * n))) rfl (by kernel_rfl)  (fun _ => y_mul rfl rfl) (fun _ => hS) ?_
      refine x_p 10 (.pointer (some ⟨a7, 1, none⟩)) rfl (by kernel_rfl)  (fun _ => y_faddr rfl Fa54x1) (fun _ => hS) ?_
      refine x_l 11 (.slice b2 b3 b4) rfl (by kernel_rfl)  (fun w' hw' => y_load rfl ((box_load Ag47 Sz47 a3 [(.int .i64 x1550.1)] [(.slice b2 b3 b4)] [] rfl rfl (fun _ => rfl)) w' hw')) hS ?_
      refine x_p 12 (.int .i64 x2256) rfl (by kernel_rfl)  (fun _ => y_move rfl) (fun _ => hS) ?_
      obtain ⟨x2298, E6, hs⟩ := bind_some hs
      obtain ⟨E7, E8, E9, F0⟩ := rs_idx Sl47 Sz41 a2 E6
      refine x_p 13 (.pointer (some ⟨E7, E8, none⟩)) rfl (by kernel_rfl)  (fun _ => E9 _ _ _ _ _ _ _ _ _ rfl rfl) (fun _ => hS) ?_
      obtain ⟨J8, F1, p5⟩ := at_load Ag41 Sz41 (fun _ => rfl) F0
      obtain ⟨F2, F3, F4, rfl⟩ := rs_sl p5
      refine x_l 14 (.slice F2 F3 F4) rfl (by kernel_rfl)  (fun w' hw' => y_load rfl (F1 w' hw')) hS ?_
      refine x_p 15 (.int .i64 k2289) rfl (by kernel_rfl)  (fun _ => y_move rfl) (fun _ => hS) ?_
      obtain ⟨x2302, F5, hs⟩ := bind_some hs
      obtain ⟨F6, F7, F8, F9⟩ := rs_idx Sl41 Sz3 p5 F5
      refine x_p 16 (.pointer (some ⟨F6, F7, none⟩)) rfl (by kernel_rfl)  (fun _ => F8 _ _ _ _ _ _ _ _ _ rfl rfl) (fun _ => hS) ?_
      refine x_l 17 (.int .i64 x2302) rfl (by kernel_rfl)  (fun w' hw' => y_load rfl ((at_load_int Ag3 Sz3 F9) w' hw')) hS ?_
      refine x_p 18 (.int .i64 (w64 ((w64 (x2296 * n)) + x2302))) rfl (by kernel_rfl)  (fun _ => y_add rfl rfl) (fun _ => hS) ?_
      obtain ⟨x2304, G0, hs⟩ := bind_some hs
      obtain ⟨w7, J9, w8, G1, G2, K0, K1⟩ := os_idx Sl41 Sz3 h5 G0
      refine x_p 19 (.pointer (some ⟨w7, 0 + Int.toNat k2289 * 1, none⟩)) rfl (by kernel_rfl)  (fun _ => G2 _ _ _ _ _ _ _ _ _ rfl rfl) (fun _ => hS) ?_
      refine x_one (i := 20) (by kernel_rfl) ?_
      have hO := hO.fr3
      obtain ⟨G3, G4, G5, e4, G6, s2⟩ := os_store (P := Try.prog) (c' := [(.int .i64 (w64 ((w64 (x2296 * n)) + x2302)))]) w8 h5 G1 (fun g hg => hO.inM g (os_block h5 g (by simpa using hg))) ⟨rfl, rfl⟩ List.nodup_nil (fun _ h => nomatch h) (fun _ h => .inl h)
      have f5 : ∀ q ∈ [w7], q ∈ k2 := fun q hq => os_block h5 q (by rw [w8]; exact hq)
      refine xk_skip (w' := G3) (b := true) rfl (ys_store rfl rfl (G5 _ _ rfl Sz3)) rfl (fun h => nomatch h) ?_
      have h0 := h0.mt e4 hO f5
      have a0 := a0.ap e4 hO f5 (mem_r (mem_r (mem_r (mem_r (mem_r (mem_r (mem_l (List.mem_singleton.2 rfl))))))))
      have a1 := a1.ap e4 hO f5 (mem_r (mem_r (mem_r (mem_r (mem_r (mem_l (List.mem_singleton.2 rfl)))))))
      have a2 := a2.mt e4 hO f5
      have a3 := a3.ap e4 hO f5 (mem_r (mem_r (mem_r (mem_r (mem_l (List.mem_singleton.2 rfl))))))
      have a4 := a4.ma e4 hO f5 (fun _ e => (mem_r (mem_r (mem_r (mem_l (e))))))
      have b5 := b5.ma e4 hO f5 (fun _ e => (mem_r (mem_r (mem_l (e)))))
      have a8 := a8.ap e4 hO f5 (mem_r (mem_l (List.mem_singleton.2 rfl)))
      have b0 := b0.ma e4 hO f5 (fun _ e => (mem_l (e)))
      have p5 := p5.mt e4 hO f5
      have hC := hC.st e4 hO f5
      have hO := hO.grow e4 (fun q hq => .inl ((G6 q hq).resolve_right (fun h => nomatch h))) (os_nodup s2) s2.fpl
      refine x_end (by kernel_rfl) ?_
      clear hS
      refine c_region ?_
      refine pl_val (.int .i64 (w64 (k2289 + 1))) (y_add rfl rfl) ?_
      refine pl_val (.int .i64 (w64 (k2289 + 1))) (y_move rfl) ?_
      refine c_nil ?_
      cases hs
      have hO := hO.fr7
      have hO := hO.fr7
      have hO := hO.fr7
      have hO := hO.fr7
      have hO := hO.fr4
      have hO := hO.fr7
      have hO := hO.fr7
      have hO := hO.fr7
      exact ⟨_, G4, fr_ovl 110 ⟨rfl, rfl, rfl, rfl, rfl, rfl, rfl, rfl, rfl, rfl, rfl, rfl, rfl, rfl, rfl, congrArg (Value.int .i64) hw, trivial⟩, hC, hO, h0, a0, a1, a2, a3, a4, s2, b5, a8, b0⟩
     ·skip
      have hO := hO.fr7
      have hO := hO.fr7
      have hO := hO.fr7
      have hO := hO.fr7
      have hO := hO.fr7
      have hO := hO.fr7
      have hO := hO.fr7
      have hO := hO.fr7
      exact ⟨_, k1, fr_ovl 110 ⟨rfl, rfl, rfl, rfl, rfl, rfl, rfl, rfl, rfl, rfl, rfl, rfl, rfl, rfl, rfl, rfl, trivial⟩, hC, hO, h0, a0, a1, a2, a3, a4, p3, b5, a8, b0⟩
     cases o2291 with
     | nx _ => exact True.intro
     | rt r_ =>
      have hs := after_rt hs
      intro g6 n6 hK
      cases hs
      exact hK
     | br s2287 =>
      have hs := after_br hs
      rintro g6 a9 ⟨σ, p4, rfl, hC, hO, h0, a0, a1, a2, a3, a4, G7, b5, a8, b0⟩
      refine c_region ?_
      refine pl_val (.int .i64 (w64 ((e3 : Int) + 1))) (y_add rfl rfl) ?_
      refine pl_val (.int .i64 (w64 ((e3 : Int) + 1))) (y_move rfl) ?_
      refine c_nil ?_
      cases hs
      have hO := hO.fr7
      have hO := hO.fr7
      have hO := hO.fr7
      have hO := hO.fr7
      have hO := hO.fr7
      have hO := hO.fr7
      have hO := hO.fr7
      have hO := hO.fr7
      exact ⟨_, rfl, drop_cons_next hd, _, p4, fr_ovl 110 ⟨rfl, rfl, rfl, rfl, rfl, rfl, rfl, rfl, rfl, rfl, rfl, rfl, congrArg (Value.int .i64) (w64_succ hlt (Int.natCast_nonneg _) (os_max b0)), trivial⟩, hC, hO, h0, a0, a1, a2, a3, a4, G7, b5, a8, b0⟩
    ·skip
     have hO := hO.fr7
     have hO := hO.fr7
     have hO := hO.fr7
     have hO := hO.fr7
     have hO := hO.fr7
     have hO := hO.fr7
     have hO := hO.fr7
     have hO := hO.fr7
     exact ⟨0, rfl, rfl, _, k7, fr_ovl 110 ⟨rfl, rfl, rfl, rfl, rfl, rfl, rfl, rfl, rfl, rfl, rfl, rfl, rfl, trivial⟩, hC, hO, h0, a0, a1, a2, a3, a4, s1, b5, a8, b0⟩
    cases o2257 with
    | nx _ => exact True.intro
    | rt r_ =>
     have hs := after_rt hs
     intro g6 n6 hK
     cases hs
     exact hK
    | br s2253 =>
     have hs := after_br hs
     rintro g6 b1 ⟨σ, j4, rfl, hC, hO, h0, a0, a1, a2, a3, a4, i2, b5, a8, b0⟩
     refine c_seq ?_
     refine c_sr ?_
     refine pl_val (.pointer (some ⟨a6, 2, none⟩)) (y_faddr rfl Fa30x2) ?_
     refine pl_val (.slice c0 c1 c2) (y_load rfl ((box_load Ag28 Sz28 a1 [(.int .i64 r14), (.int .i64 n)] [(.slice c0 c1 c2)] [] rfl rfl (fun _ => rfl)) _ (Chg.refl _ _))) ?_
     refine pl_val (.agg #[(.slice b7 b9 b8), (.int .i64 r2078.1), (.slice c4 c6 c5)]) (y_load rfl ((box_load Ag56 Sz56 a8 [] [(.slice b7 b9 b8), (.int .i64 r2078.1), (.slice c4 c6 c5)] [] rfl rfl (fun h => nomatch h)) _ (Chg.refl _ _))) ?_
     have hO := hO.fr2
     have hO := hO.fr3
     have hO := hO.fr4
     obtain ⟨r2308, G8, hs⟩ := bind_some hs
     refine pl_call Bd92 rfl (c_impl_hasConstraint (M := (Less (Less (Less M b6) j4) d0)) s2060.2 (s2253, (r2078.1, r2078.2)) (((((Frz.os (Frz.pr (Frz.os Frz.int) (Frz.pr Frz.int (Frz.os (Frz.os Frz.int)))))).val a4 Less.sub Less.not).sub Less.sub).sub Less.sub) ((((Frz.os Frz.int)).val (i2.sub Less.sub) Less.sub Less.not).sub Less.sub) (((Frz.os (Frz.os Frz.int))).val ((b5.sub Less.sub).sub Less.sub) Less.sub Less.not) ((hO.less).less).less.fut G8) ?_
     rintro _ G9 ⟨rfl, e5⟩
     have h0 := h0.ext e5
     have a0 := a0.cn e5
     have a1 := a1.cn e5
     have a2 := a2.ext e5
     have a3 := a3.cn e5
     have a4 := a4.ext e5
     have i2 := i2.ext e5
     have b5 := b5.ext e5
     have a8 := a8.cn e5
     have b0 := b0.ext e5
     have hC := hC.ext e5
     have hO := hO.ext e5
     refine c_nil ?_
     rcases bif_some hs with ⟨s4, hs⟩ | ⟨s4, hs⟩
     ·refine c_condT (congrArg Value.bool s4) ?_
      refine wp_exit ?_
      refine c_region ?_
      refine pl_val (.int .i64 s2060.1) (y_move rfl) ?_
      refine pl_val (.int .i64 (w64 (s2060.1 + 1))) (y_add rfl rfl) ?_
      refine pl_val (.int .i64 (w64 (s2060.1 + 1))) (y_assign rfl) ?_
      refine c_nil ?_
      cases hs
      have hO := hO.fr1
      have hO := hO.drop
      have hO := hO.fr1
      have hO := hO.drop
      have hO := hO.fr1
      have hO := hO.drop
      have hO := hO.fr1
      have hO := hO.drop
      have hO := hO.fr3
      have hO := hO.fr3
      have hO := hO.fr3
      have hO := hO.fr3
      exact ⟨_, c0, c1, c2, b6, fr_ovl 110 ⟨rfl, rfl, rfl, rfl, rfl, rfl, rfl, rfl, rfl, trivial⟩, hC, hO, h0, a0, a1, a2, a3, a4⟩
     refine c_condF (congrArg Value.bool s4) ?_
     refine wp_skip ?_
     refine c_seq ?_
     refine c_sr ?_
     refine pl_val (.pointer (some ⟨a6, 2, none⟩)) (y_faddr rfl Fa30x2) ?_
     refine pl_val (.slice c0 c1 c2) (y_load rfl ((box_load Ag28 Sz28 a1 [(.int .i64 r14), (.int .i64 n)] [(.slice c0 c1 c2)] [] rfl rfl (fun _ => rfl)) _ (Chg.refl _ _))) ?_
     refine pl_val (.int .i64 (s2060.2.length : Int)) (y_len' Sl28 (os_len a4) rfl) ?_
     refine pl_val (.bool ((s2060.2.length : Int) == 40)) (y_eql rfl rfl) ?_
     refine c_nil ?_
     rcases bif_some hs with ⟨s5, hs⟩ | ⟨s5, hs⟩
     ·refine c_condT (congrArg Value.bool s5) ?_
      refine c_sr ?_
      refine pl_val (.agg #[(.int .i64 0), (.int .i64 0), (.slice none 0 0)]) (y_build rfl (by kernel_rfl)) ?_
      obtain ⟨w9, H0, f6, s6⟩ := box_store (P := Try.prog) a0 [] [(.int .i64 0), (.int .i64 0), (.slice none 0 0)] [] [(.int .i64 0), (.int .i64 0), (.slice none 0 0)] rfl rfl (by intro u hu; simp only [List.mem_cons, List.not_mem_nil, or_false] at hu; rcases hu with rfl | rfl | rfl <;> rfl)
      refine pl_skip (w' := w9) (ys_store rfl rfl (H0 _ _ rfl Sz30)) ?_
      have hO := hO.fr7
      have h0 := h0.mt f6 hO same_
      have a1 := a1.ap f6 hO same_ (mem_r (mem_r (mem_r (mem_r (mem_r (mem_r (mem_l (List.mem_singleton.2 rfl))))))))
      have a2 := a2.mt f6 hO same_
      have a3 := a3.ap f6 hO same_ (mem_r (mem_r (mem_r (mem_r (mem_r (mem_l (List.mem_singleton.2 rfl)))))))
      have a4 := a4.ma f6 hO same_ (fun _ e => (mem_l (e)))
      have i2 := i2.ma f6 hO same_ (fun _ e => (mem_r (mem_l (e))))
      have b5 := b5.ma f6 hO same_ (fun _ e => (mem_r (mem_r (mem_l (e)))))
      have a8 := a8.ap f6 hO same_ (mem_r (mem_r (mem_r (mem_r (mem_l (List.mem_singleton.2 rfl))))))
      have b0 := b0.ma f6 hO same_ (fun _ e => (mem_r (mem_r (mem_r (mem_l (e))))))
      have hC := hC.st f6 hO same_
      have hO := hO.ext f6
      have s6 : BoxV w9 a5 30 [(.int .i64 0), (.int .i64 0), (.slice none 0 0)] := s6
      refine pl_val (.bool false) (y_assign rfl) ?_
      refine c_nil ?_
      refine wp_ret ?_
      cases hs
      have hO := hO.drop
      have hO := hO.drop
      have hO := hO.drop
      have hO := hO.drop
      have hO := hO.drop
      have hO := hO.drop
      have hO := hO.drop
      have hO := hO.drop
      have hO := hO.nil
      exact ⟨_, a5, none, 0, 0, [], fr_ovl 110 ⟨rfl, rfl, trivial⟩, s6, hC, os_nil, hO.top⟩
     refine c_condF (congrArg Value.bool s5) ?_
     refine wp_skip ?_
     refine c_region ?_
     refine pl_val (.pointer (some ⟨a6, 2, none⟩)) (y_faddr rfl Fa30x2) ?_
     refine pl_val (.slice c0 c1 c2) (y_load rfl ((box_load Ag28 Sz28 a1 [(.int .i64 r14), (.int .i64 n)] [(.slice c0 c1 c2)] [] rfl rfl (fun _ => rfl)) _ (Chg.refl _ _))) ?_
     refine pl_val (.agg #[(.slice b7 b9 b8), (.int .i64 r2078.1), (.slice c4 c6 c5)]) (y_load rfl ((box_load Ag56 Sz56 a8 [] [(.slice b7 b9 b8), (.int .i64 r2078.1), (.slice c4 c6 c5)] [] rfl rfl (fun h => nomatch h)) _ (Chg.refl _ _))) ?_
     obtain ⟨x0, p6, H1, x1, e6, x2⟩ := new_block G9 [(.slice b7 b9 b8), (.int .i64 r2078.1), (.slice c4 c6 c5)] 56
     refine pl_val (w' := x0) (.slice (some ⟨p6, 0, none⟩) 1 1) (y_bslice rfl (by rw [H1, x1]; kernel_rfl)) ?_
     have h0 := h0.ext e6
     have a0 := a0.cn e6
     have a1 := a1.cn e6
     have a2 := a2.ext e6
     have a3 := a3.cn e6
     have a4 := a4.ext e6
     have i2 := i2.ext e6
     have b5 := b5.ext e6
     have a8 := a8.cn e6
     have b0 := b0.ext e6
     have hC := hC.ext e6
     have hO := hO.fr2
     have hO := hO.fr2
     have hO := hO.new1 e6 x1 x2.lt
     have hO := hO.perm (R := (p6 :: ((j4 ++ d0) ++ ([]))) ++ (b6 ++ (g5 ++ (([c3]) ++ (([a7]) ++ (([a6]) ++ (([a5]) ++ ([])))))))) (by simp)
     have H2 := hO.nd
     have s7 := os_of_box (r := (RT.pr (RT.os 3 (RT.int .i64)) (RT.pr (RT.int .i64) (RT.os 41 (RT.os 3 (RT.int .i64)))))) (M := M) (css := [[(.slice b7 b9 b8), (.int .i64 r2078.1), (.slice c4 c6 c5)]]) (fps := [(j4 ++ d0 : List Nat)]) (xs := ([(s2253, (r2078.1, r2078.2))] : List ((List Int) × (Int × (List (List Int)))))) x2 ⟨⟨_, _, _, _, rfl, rfl, (os_unval i2), ⟨_, _, _, _, rfl, rfl, ⟨rfl, rfl⟩, (os_unval b5)⟩⟩, trivial⟩ (Nat.le_of_ble_eq_true rfl) H2
     have s7 : (RT.os 56 (RT.pr (RT.os 3 (RT.int .i64)) (RT.pr (RT.int .i64) (RT.os 41 (RT.os 3 (RT.int .i64)))))).val M x0 (.slice (some ⟨p6, 0, none⟩) 1 1) [(s2253, (r2078.1, r2078.2))] (p6 :: ((j4 ++ d0) ++ ([]))) := s7
     obtain ⟨y2315, H3, hs⟩ := bind_some hs
     have hO := hO.fr1
     obtain ⟨p7, p8, p9, H4, H5, H6, h6, H7, n4⟩ := app_os Rw28 H3 a4 s7 hO.inM (fun g hg hq => hO.apart g hq (mem_l hg))
     have i3 := os_block a4
     refine pl_val (w' := H4) (.slice p7 p8 p9) (y_append rfl rfl (H6 _)) ?_
     have hO := hO.fr1
     have hO := hO.fr1
     have h0 := h0.mt h6 hO i3
     have a0 := a0.ap h6 hO i3 (mem_r (mem_r (mem_r (mem_r (mem_r (mem_l (List.mem_singleton.2 rfl)))))))
     have a1 := a1.ap h6 hO i3 (mem_r (mem_r (mem_r (mem_r (mem_l (List.mem_singleton.2 rfl))))))
     have a2 := a2.mt h6 hO i3
     have a3 := a3.ap h6 hO i3 (mem_r (mem_r (mem_r (mem_l (List.mem_singleton.2 rfl)))))
     have a8 := a8.ap h6 hO i3 (mem_r (mem_r (mem_l (List.mem_singleton.2 rfl))))
     have b0 := b0.ma h6 hO i3 (fun _ e => (mem_r (mem_l (e))))
     have hC := hC.st h6 hO i3
     have hO := hO.eat h6 H7 (os_nodup n4) n4.fpl
     refine pl_val (.pointer (some ⟨a6, 2, none⟩)) (y_faddr rfl Fa30x2) ?_
     obtain ⟨x3, H8, h7, s8⟩ := box_store (P := Try.prog) a1 [(.int .i64 r14), (.int .i64 n)] [(.slice c0 c1 c2)] [] [(.slice p7 p8 p9)] rfl rfl (by intro u hu; simp only [List.mem_cons, List.not_mem_nil, or_false] at hu; rcases hu with rfl <;> rfl)
     refine pl_skip (w' := x3) (ys_store rfl rfl (H8 _ _ rfl Sz28)) ?_
     have hO := hO.fr4
     have h0 := h0.mt h7 hO same_
     have a0 := a0.ap h7 hO same_ (mem_r (mem_r (mem_r (mem_r (mem_l (List.mem_singleton.2 rfl))))))
     have a2 := a2.mt h7 hO same_
     have a3 := a3.ap h7 hO same_ (mem_r (mem_r (mem_r (mem_l (List.mem_singleton.2 rfl)))))
     have a8 := a8.ap h7 hO same_ (mem_r (mem_r (mem_l (List.mem_singleton.2 rfl))))
     have b0 := b0.ma h7 hO same_ (fun _ e => (mem_r (mem_l (e))))
     have n4 := n4.ma h7 hO same_ (fun _ e => (mem_l (e)))
     have hC := hC.st h7 hO same_
     have hO := hO.ext h7
     have s8 : BoxV x3 a6 30 [(.int .i64 r14), (.int .i64 n), (.slice p7 p8 p9)] := s8
     refine c_nil ?_
     refine c_region ?_
     refine pl_val (.int .i64 s2060.1) (y_move rfl) ?_
     refine pl_val (.int .i64 (w64 (s2060.1 + 1))) (y_add rfl rfl) ?_
     refine pl_val (.int .i64 (w64 (s2060.1 + 1))) (y_assign rfl) ?_
     refine c_nil ?_
     cases hs
     have hO := hO.fr2
     have hO := hO.drop
     have hO := hO.fr2
     have hO := hO.drop
     have hO := hO.fr3
     have hO := hO.fr1
     have hO := hO.fr3
     have hO := hO.fr3
     exact ⟨_, p7, p8, p9, H5, fr_ovl 110 ⟨rfl, rfl, rfl, rfl, rfl, rfl, rfl, rfl, rfl, trivial⟩, hC, hO, h0, a0, s8, a2, a3, n4⟩
   refine c_condF (congrArg Value.bool q5) ?_
   refine wp_exit ?_
   cases hs
   have hO := hO.fr3
   have hO := hO.fr3
   have hO := hO.fr3
   have hO := hO.fr3
   exact ⟨rfl, _, c0, c1, c2, b6, fr_ovl 110 ⟨rfl, rfl, rfl, rfl, rfl, rfl, rfl, trivial⟩, hC, hO, h0, a0, a1, a2, a3, a4⟩
  ·skip
   have hO := hO.fr3
   have hO := hO.fr3
   have hO := hO.fr2
   have hO := hO.fr3
   exact ⟨_, j5, j6, j7, j8, fr_ovl 110 ⟨rfl, rfl, rfl, rfl, rfl, rfl, rfl, rfl, rfl, trivial⟩, hC, hO, h0, a0, a1, a2, a3, i4⟩
  cases o2064 with
  | nx _ => exact True.intro
  | rt r_ =>
   have hs := after_rt hs
   intro g6 n6 hK
   cases hs
   exact hK
  | br s2060 =>
   have hs := after_br hs
   rintro g6 c7 ⟨σ, o2, o3, o4, o5, rfl, hC, hO, h0, a0, a1, a2, a3, H9⟩
   refine c_region ?_
   refine pl_val (.int .i64 (w64 ((c9 : Int) + 1))) (y_add rfl rfl) ?_
   refine pl_val (.int .i64 (w64 ((c9 : Int) + 1))) (y_move rfl) ?_
   refine c_nil ?_
   cases hs
   have hO := hO.fr1
   have hO := hO.drop
   have hO := hO.fr2
   have hO := hO.fr2
   have hO := hO.fr2
   exact ⟨_, rfl, drop_cons_next hd, _, o2, o3, o4, o5, fr_ovl 110 ⟨rfl, rfl, rfl, rfl, rfl, rfl, congrArg (Value.int .i64) (w64_succ hlt (Int.natCast_nonneg _) (rs_max h0)), trivial⟩, hC, hO, h0, a0, a1, H9⟩
 ·skip
  have hO := hO.fr1
  have hO := hO.fr1
  have hO := hO.nil
  exact ⟨0, rfl, rfl, _, none, 0, 0, [], fr_ovl 110 ⟨rfl, rfl, rfl, rfl, rfl, rfl, rfl, trivial⟩, hC, hO, h0, a0, a1, os_nil⟩
 cases o1551 with
 | nx _ => exact True.intro
 | rt r_ =>
  have hs := after_rt hs
  intro g6 n6 hK
  cases hs
  exact hK
 | br s1547 =>
  have hs := after_br hs
  rintro g6 c8 ⟨σ, h8, h9, i0, o1, rfl, hC, hO, h0, a0, a1, s9⟩
  refine c_sr ?_
  refine pl_val (.agg #[(.int .i64 r14), (.int .i64 n), (.slice h8 h9 i0)]) (y_load rfl ((box_load Ag30 Sz30 a1 [] [(.int .i64 r14), (.int .i64 n), (.slice h8 h9 i0)] [] rfl rfl (fun h => nomatch h)) _ (Chg.refl _ _))) ?_
  obtain ⟨x4, I0, n5, t0⟩ := box_store (P := Try.prog) a0 [] [(.int .i64 0), (.int .i64 0), (.slice none 0 0)] [] [(.int .i64 r14), (.int .i64 n), (.slice h8 h9 i0)] rfl rfl (by intro u hu; simp only [List.mem_cons, List.not_mem_nil, or_false] at hu; rcases hu with rfl | rfl | rfl <;> rfl)
  refine pl_skip (w' := x4) (ys_store rfl rfl (I0 _ _ rfl Sz30)) ?_
  have hO := hO.fr2
  have h0 := h0.mt n5 hO same_
  have a1 := a1.ap n5 hO same_ (mem_r (mem_l (List.mem_singleton.2 rfl)))
  have s9 := s9.ma n5 hO same_ (fun _ e => (mem_l (e)))
  have hC := hC.st n5 hO same_
  have hO := hO.ext n5
  have t0 : BoxV x4 a5 30 [(.int .i64 r14), (.int .i64 n), (.slice h8 h9 i0)] := t0
  refine pl_val (.bool true) (y_assign rfl) ?_
  refine c_nil ?_
  refine wp_ret ?_
  cases hs
  have hO := hO.drop
  have hO := hO.fr1
  have hO := hO.drop
  exact ⟨_, a5, h8, h9, i0, o1, fr_ovl 110 ⟨rfl, rfl, trivial⟩, t0, hC, s9, hO.top⟩

def k_laws_eqIntS (M : Nat → Prop) (w0 : World) (r : Bool) (a : Act) (w : World) : Prop :=
  ∃ (σ : Nat → Value) , a = fr 26 (ovl σ [(4, (.bool r))]) ∧ Chg [] w0 w
def s_laws_eqIntS (a_ : List Int) (b : List Int) : Option (Bool) :=
  (bif ((a_.length : Int) != (b.length : Int)) then some false else (forC (S := Unit) (R := Bool) (fun k12 s10 =>
  (idx a_ k12).bind fun x17 =>
  (idx b k12).bind fun x19 =>
  (bif (x17 != x19) then some (.rt false) else some (.nx ()))) 0 (a_.length : Int) ()).bind fun o14 => after o14 (fun r_ => some r_) (fun s10 =>
  some true))
set_option maxHeartbeats 4000000 in
theorem c_laws_eqIntS {M : Nat → Prop} {w : World} {pa0 : Option Addr} {pn0 pc0 : Nat} {pa1 : Option Addr} {pn1 pc1 : Nat} (a_ : List Int) (b : List Int) (h0 : (RT.rs (RT.int .i64)).val M w (.slice pa0 pn0 pc0) a_ ([])) (h1 : (RT.rs (RT.int .i64)).val M w (.slice pa1 pn1 pc1) b ([])) (hM : ∀ g, w.heap.size ≤ g → M g) {r : Bool} (hs : s_laws_eqIntS a_ b = some r) :
    Gives Try.prog 24 [(.slice pa0 pn0 pc0), (.slice pa1 pn1 pc1)] w (fun v w' => v = (.bool r) ∧ Chg [] w w') := by
 refine calls_fr Try.func24 rfl Try.ntmps24 (Nat.le_of_ble_eq_true rfl) ?_
 have hO := Own.start (N := Nw w []) hM Nw.fut
 have hC := Chg.refl [] w
 unfold s_laws_eqIntS at hs
 refine wp_mono (Q := KPost (k_laws_eqIntS M w r)) ?_ (fun e a a4 h => ?_)
 rotate_left
 ·cases e
  case ret =>
   obtain ⟨σ, rfl, hrest⟩ := h
   exact ret1x Try.results24 (res_tmp rfl) ⟨rfl, hrest⟩
  all_goals exact (h : False).elim
 refine c_sr ?_
 refine pl_val (.bool false) (y_assign rfl) ?_
 refine c_nil ?_
 refine c_seq ?_
 refine c_sr ?_
 refine pl_val (.slice pa0 pn0 pc0) (y_move rfl) ?_
 refine pl_val (.int .i64 (a_.length : Int)) (y_len' Sl41 (rs_len h0) rfl) ?_
 refine pl_val (.slice pa1 pn1 pc1) (y_move rfl) ?_
 refine pl_val (.int .i64 (b.length : Int)) (y_len' Sl41 (rs_len h1) rfl) ?_
 refine pl_val (.bool ((a_.length : Int) != (b.length : Int))) (y_neq rfl rfl) ?_
 refine c_nil ?_
 rcases bif_some hs with ⟨a2, hs⟩ | ⟨a2, hs⟩
 ·refine c_condT (congrArg Value.bool a2) ?_
  refine c_sr ?_
  refine pl_val (.bool false) (y_assign rfl) ?_
  refine c_nil ?_
  refine wp_ret ?_
  cases hs
  exact ⟨_, fr_ovl 26 ⟨rfl, trivial⟩, hC⟩
 refine c_condF (congrArg Value.bool a2) ?_
 refine wp_skip ?_
 refine c_seq ?_
 refine c_sr ?_
 refine pl_val (.int .i64 0) (y_assign rfl) ?_
 refine c_nil ?_
 obtain ⟨o14, a5, hs⟩ := bind_some hs
 refine wp_block ?_
 refine wp_forC (id := 0) (a_.length : Int) (I := fun k12 s10 a a0 => ∃ (σ : Nat → Value), a = fr 26 (ovl σ [(0, (.slice pa0 pn0 pc0)), (1, (.slice pa1 pn1 pc1)), (5, (.int .i64 k12))]) ∧ Chg [] w a0 ∧ Own (Nw w []) M a0 ([]) ∧ (RT.rs (RT.int .i64)).val M a0 (.slice pa0 pn0 pc0) a_ ([]) ∧ (RT.rs (RT.int .i64)).val M a0 (.slice pa1 pn1 pc1) b ([])) (J := fun s10 a a0 => ∃ (σ : Nat → Value), a = fr 26 (ovl σ []) ∧ Chg [] w a0 ∧ Own (Nw w []) M a0 ([]) ∧ (RT.rs (RT.int .i64)).val M a0 (.slice pa0 pn0 pc0) a_ ([]) ∧ (RT.rs (RT.int .i64)).val M a0 (.slice pa1 pn1 pc1) b ([])) (K := (k_laws_eqIntS M w)) ?_ ?_ 0 () o14 _ _ ?_ a5 ?_
 ·rintro k12 s10 a a0 ⟨σ, rfl, hC, hO, h0, h1⟩ hlt
  refine c_seq ?_
  refine c_sr ?_
  refine pl_val (.int .i64 k12) (y_move rfl) ?_
  refine pl_val (.slice pa0 pn0 pc0) (y_move rfl) ?_
  refine pl_val (.int .i64 (a_.length : Int)) (y_len' Sl41 (rs_len h0) rfl) ?_
  refine pl_val (.bool (decide (k12 < (a_.length : Int)))) (y_lss rfl rfl) ?_
  refine c_nil ?_
  refine c_condF (congrArg Value.bool (decide_eq_false hlt)) ?_
  refine wp_exit ?_
  exact ⟨rfl, _, fr_ovl 26 trivial, hC, hO, h0, h1⟩
 ·rintro k12 s10 o14 a a0 ⟨σ, rfl, hC, hO, h0, h1⟩ hlt hw hs
  refine c_seq ?_
  refine c_sr ?_
  refine pl_val (.int .i64 k12) (y_move rfl) ?_
  refine pl_val (.slice pa0 pn0 pc0) (y_move rfl) ?_
  refine pl_val (.int .i64 (a_.length : Int)) (y_len' Sl41 (rs_len h0) rfl) ?_
  refine pl_val (.bool (decide (k12 < (a_.length : Int)))) (y_lss rfl rfl) ?_
  refine c_nil ?_
  refine c_condT (congrArg Value.bool (decide_eq_true hlt)) ?_
  refine wp_skip ?_
  refine c_seq ?_
  refine wp_block ?_
  refine c_seq ?_
  refine x_start [] Mx rfl ?_
  have a1 := Chg.drew a0
  generalize World.drew a0 = a6 at a1 ⊢
  have h0 := h0.ext a1
  have h1 := h1.ext a1
  have hC := hC.ext a1
  have hO := hO.ext a1
  have hS := Chg.refl [] a6
  refine x_p 0 (.slice pa0 pn0 pc0) rfl (by kernel_rfl)  (fun _ => y_move rfl) (fun _ => hS) ?_
  refine x_p 1 (.int .i64 k12) rfl (by kernel_rfl)  (fun _ => y_move rfl) (fun _ => hS) ?_
  obtain ⟨x17, a7, hs⟩ := bind_some hs
  obtain ⟨a8, a9, b0, b1⟩ := rs_idx Sl41 Sz3 h0 a7
  refine x_p 2 (.pointer (some ⟨a8, a9, none⟩)) rfl (by kernel_rfl)  (fun _ => b0 _ _ _ _ _ _ _ _ _ rfl rfl) (fun _ => hS) ?_
  refine x_l 3 (.int .i64 x17) rfl (by kernel_rfl)  (fun w' hw' => y_load rfl ((at_load_int Ag3 Sz3 b1) w' hw')) hS ?_
  refine x_p 4 (.slice pa1 pn1 pc1) rfl (by kernel_rfl)  (fun _ => y_move rfl) (fun _ => hS) ?_
  refine x_p 5 (.int .i64 k12) rfl (by kernel_rfl)  (fun _ => y_move rfl) (fun _ => hS) ?_
  obtain ⟨x19, b2, hs⟩ := bind_some hs
  obtain ⟨b3, b4, b5, b6⟩ := rs_idx Sl41 Sz3 h1 b2
  refine x_p 6 (.pointer (some ⟨b3, b4, none⟩)) rfl (by kernel_rfl)  (fun _ => b5 _ _ _ _ _ _ _ _ _ rfl rfl) (fun _ => hS) ?_
  refine x_l 7 (.int .i64 x19) rfl (by kernel_rfl)  (fun w' hw' => y_load rfl ((at_load_int Ag3 Sz3 b6) w' hw')) hS ?_
  refine x_p 8 (.bool (x17 != x19)) rfl (by kernel_rfl)  (fun _ => y_neq rfl rfl) (fun _ => hS) ?_
  refine x_end (by kernel_rfl) ?_
  clear hS
  rcases bif_some hs with ⟨a3, hs⟩ | ⟨a3, hs⟩
  ·refine c_condT (congrArg Value.bool a3) ?_
   refine c_sr ?_
   refine pl_val (.bool false) (y_assign rfl) ?_
   refine c_nil ?_
   refine wp_ret ?_
   cases hs
   exact ⟨_, fr_ovl 26 ⟨rfl, trivial⟩, hC⟩
  refine c_condF (congrArg Value.bool a3) ?_
  refine wp_skip ?_
  refine c_region ?_
  refine pl_val (.int .i64 k12) (y_move rfl) ?_
  refine pl_val (.int .i64 (w64 (k12 + 1))) (y_add rfl rfl) ?_
  refine pl_val (.int .i64 (w64 (k12 + 1))) (y_assign rfl) ?_
  refine c_nil ?_
  cases hs
  exact ⟨_, fr_ovl 26 ⟨rfl, rfl, congrArg (Value.int .i64) hw, trivial⟩, hC, hO, h0, h1⟩
 ·skip
  exact ⟨_, fr_ovl 26 ⟨rfl, rfl, rfl, trivial⟩, hC, hO, h0, h1⟩
 cases o14 with
 | nx _ => exact True.intro
 | rt r_ =>
  have hs := after_rt hs
  intro b7 a4 hK
  cases hs
  exact hK
 | br s10 =>
  have hs := after_br hs
  rintro b7 a0 ⟨σ, rfl, hC, hO, h0, h1⟩
  refine c_sr ?_
  refine pl_val (.bool true) (y_assign rfl) ?_
  refine c_nil ?_
  refine wp_ret ?_
  cases hs
  exact ⟨_, fr_ovl 26 ⟨rfl, trivial⟩, hC⟩

theorem Bd24 : Bodied Try.prog 24 := bodied Try.func24 (by kernel_rfl) rfl

def k_laws_eqIntSS (M : Nat → Prop) (w0 : World) (r : Bool) (a : Act) (w : World) : Prop :=
  ∃ (σ : Nat → Value) , a = fr 27 (ovl σ [(4, (.bool r))]) ∧ Chg [] w0 w
def s_laws_eqIntSS (a_ : List (List Int)) (b : List (List Int)) : Option (Bool) :=
  (bif ((a_.length : Int) != (b.length : Int)) then some false else (forC (S := Unit) (R := Bool) (fun k18 s16 =>
  (idx a_ k18).bind fun x23 =>
  (idx b k18).bind fun x27 =>
  (s_laws_eqIntS x23 x27).bind fun r32 =>
  (bif (!r32) then some (.rt false) else some (.nx ()))) 0 (a_.length : Int) ()).bind fun o20 => after o20 (fun r_ => some r_) (fun s16 =>
  some true))
set_option maxHeartbeats 4000000 in
theorem c_laws_eqIntSS {M : Nat → Prop} {w : World} {pa0 : Option Addr} {pn0 pc0 : Nat} {pa1 : Option Addr} {pn1 pc1 : Nat} (a_ : List (List Int)) (b : List (List Int)) (h0 : (RT.rs (RT.rs (RT.int .i64))).val M w (.slice pa0 pn0 pc0) a_ ([])) (h1 : (RT.rs (RT.rs (RT.int .i64))).val M w (.slice pa1 pn1 pc1) b ([])) (hM : ∀ g, w.heap.size ≤ g → M g) {r : Bool} (hs : s_laws_eqIntSS a_ b = some r) :
    Gives Try.prog 37 [(.slice pa0 pn0 pc0), (.slice pa1 pn1 pc1)] w (fun v w' => v = (.bool r) ∧ Chg [] w w') := by
 refine calls_fr Try.func37 rfl Try.ntmps37 (Nat.le_of_ble_eq_true rfl) ?_
 have hO := Own.start (N := Nw w []) hM Nw.fut
 have hC := Chg.refl [] w
 unfold s_laws_eqIntSS at hs
 refine wp_mono (Q := KPost (k_laws_eqIntSS M w r)) ?_ (fun e a a7 h => ?_)
 rotate_left
 ·cases e
  case ret =>
   obtain ⟨σ, rfl, hrest⟩ := h
   exact ret1x Try.results37 (res_tmp rfl) ⟨rfl, hrest⟩
  all_goals exact (h : False).elim
 refine c_sr ?_
 refine pl_val (.bool false) (y_assign rfl) ?_
 refine c_nil ?_
 refine c_seq ?_
 refine c_sr ?_
 refine pl_val (.slice pa0 pn0 pc0) (y_move rfl) ?_
 refine pl_val (.int .i64 (a_.length : Int)) (y_len' Sl47 (rs_len h0) rfl) ?_
 refine pl_val (.slice pa1 pn1 pc1) (y_move rfl) ?_
 refine pl_val (.int .i64 (b.length : Int)) (y_len' Sl47 (rs_len h1) rfl) ?_
 refine pl_val (.bool ((a_.length : Int) != (b.length : Int))) (y_neq rfl rfl) ?_
 refine c_nil ?_
 rcases bif_some hs with ⟨a5, hs⟩ | ⟨a5, hs⟩
 ·refine c_condT (congrArg Value.bool a5) ?_
  refine c_sr ?_
  refine pl_val (.bool false) (y_assign rfl) ?_
  refine c_nil ?_
  refine wp_ret ?_
  cases hs
  exact ⟨_, fr_ovl 27 ⟨rfl, trivial⟩, hC⟩
 refine c_condF (congrArg Value.bool a5) ?_
 refine wp_skip ?_
 refine c_seq ?_
 refine c_sr ?_
 refine pl_val (.int .i64 0) (y_assign rfl) ?_
 refine c_nil ?_
 obtain ⟨o20, a8, hs⟩ := bind_some hs
 refine wp_block ?_
 refine wp_forC (id := 0) (a_.length : Int) (I := fun k18 s16 a a0 => ∃ (σ : Nat → Value), a = fr 27 (ovl σ [(0, (.slice pa0 pn0 pc0)), (1, (.slice pa1 pn1 pc1)), (5, (.int .i64 k18))]) ∧ Chg [] w a0 ∧ Own (Nw w []) M a0 ([]) ∧ (RT.rs (RT.rs (RT.int .i64))).val M a0 (.slice pa0 pn0 pc0) a_ ([]) ∧ (RT.rs (RT.rs (RT.int .i64))).val M a0 (.slice pa1 pn1 pc1) b ([])) (J := fun s16 a a0 => ∃ (σ : Nat → Value), a = fr 27 (ovl σ []) ∧ Chg [] w a0 ∧ Own (Nw w []) M a0 ([]) ∧ (RT.rs (RT.rs (RT.int .i64))).val M a0 (.slice pa0 pn0 pc0) a_ ([]) ∧ (RT.rs (RT.rs (RT.int .i64))).val M a0 (.slice pa1 pn1 pc1) b ([])) (K := (k_laws_eqIntSS M w)) ?_ ?_ 0 () o20 _ _ ?_ a8 ?_
 ·rintro k18 s16 a a0 ⟨σ, rfl, hC, hO, h0, h1⟩ hlt
  refine c_seq ?_
  refine c_sr ?_
  refine pl_val (.int .i64 k18) (y_move rfl) ?_
  refine pl_val (.slice pa0 pn0 pc0) (y_move rfl) ?_
  refine pl_val (.int .i64 (a_.length : Int)) (y_len' Sl47 (rs_len h0) rfl) ?_
  refine pl_val (.bool (decide (k18 < (a_.length : Int)))) (y_lss rfl rfl) ?_
  refine c_nil ?_
  refine c_condF (congrArg Value.bool (decide_eq_false hlt)) ?_
  refine wp_exit ?_
  exact ⟨rfl, _, fr_ovl 27 trivial, hC, hO, h0, h1⟩
 ·rintro k18 s16 o20 a a0 ⟨σ, rfl, hC, hO, h0, h1⟩ hlt hw hs
  refine c_seq ?_
  refine c_sr ?_
  refine pl_val (.int .i64 k18) (y_move rfl) ?_
  refine pl_val (.slice pa0 pn0 pc0) (y_move rfl) ?_
  refine pl_val (.int .i64 (a_.length : Int)) (y_len' Sl47 (rs_len h0) rfl) ?_
  refine pl_val (.bool (decide (k18 < (a_.length : Int)))) (y_lss rfl rfl) ?_
  refine c_nil ?_
  refine c_condT (congrArg Value.bool (decide_eq_true hlt)) ?_
  refine wp_skip ?_
  refine c_seq ?_
  refine wp_block ?_
  refine c_seq ?_
  refine x_start [] Mx rfl ?_
  have a2 := Chg.drew a0
  generalize World.drew a0 = a9 at a2 ⊢
  have h0 := h0.ext a2
  have h1 := h1.ext a2
  have hC := hC.ext a2
  have hO := hO.ext a2
  have hS := Chg.refl [] a9
  refine x_p 0 (.slice pa0 pn0 pc0) rfl (by kernel_rfl)  (fun _ => y_move rfl) (fun _ => hS) ?_
  refine x_p 1 (.int .i64 k18) rfl (by kernel_rfl)  (fun _ => y_move rfl) (fun _ => hS) ?_
  obtain ⟨x23, b0, hs⟩ := bind_some hs
  obtain ⟨b1, b2, b3, b4⟩ := rs_idx Sl47 Sz41 h0 b0
  refine x_p 2 (.pointer (some ⟨b1, b2, none⟩)) rfl (by kernel_rfl)  (fun _ => b3 _ _ _ _ _ _ _ _ _ rfl rfl) (fun _ => hS) ?_
  obtain ⟨d0, b5, a3⟩ := at_load Ag41 Sz41 (fun _ => rfl) b4
  obtain ⟨b6, b7, b8, rfl⟩ := rs_sl a3
  refine x_l 3 (.slice b6 b7 b8) rfl (by kernel_rfl)  (fun w' hw' => y_load rfl (b5 w' hw')) hS ?_
  refine x_p 4 (.slice pa1 pn1 pc1) rfl (by kernel_rfl)  (fun _ => y_move rfl) (fun _ => hS) ?_
  refine x_p 5 (.int .i64 k18) rfl (by kernel_rfl)  (fun _ => y_move rfl) (fun _ => hS) ?_
  obtain ⟨x27, b9, hs⟩ := bind_some hs
  obtain ⟨c0, c1, c2, c3⟩ := rs_idx Sl47 Sz41 h1 b9
  refine x_p 6 (.pointer (some ⟨c0, c1, none⟩)) rfl (by kernel_rfl)  (fun _ => c2 _ _ _ _ _ _ _ _ _ rfl rfl) (fun _ => hS) ?_
  obtain ⟨d1, c4, a4⟩ := at_load Ag41 Sz41 (fun _ => rfl) c3
  obtain ⟨c5, c6, c7, rfl⟩ := rs_sl a4
  refine x_l 7 (.slice c5 c6 c7) rfl (by kernel_rfl)  (fun w' hw' => y_load rfl (c4 w' hw')) hS ?_
  refine x_one (i := 8) (by kernel_rfl) ?_
  obtain ⟨r32, c8, hs⟩ := bind_some hs
  refine xk_call (b := false) rfl  Bd24 rfl (c_laws_eqIntS (M := M) x23 x27 a3 a4 hO.fut c8) rfl (by rintro _ _ _ ⟨rfl, a1⟩; exact hS.ext a1) ?_
  rintro _ d2 ⟨rfl, a1⟩
  have h0 := h0.ext a1
  have h1 := h1.ext a1
  have a3 := a3.ext a1
  have a4 := a4.ext a1
  have hC := hC.ext a1
  have hO := hO.ext a1
  have hS := hS.ext a1
  refine x_p 9 (.bool (!r32)) rfl (by kernel_rfl)  (fun _ => y_not rfl) (fun _ => hS) ?_
  refine x_end (by kernel_rfl) ?_
  clear hS
  rcases bif_some hs with ⟨a6, hs⟩ | ⟨a6, hs⟩
  ·refine c_condT (congrArg Value.bool a6) ?_
   refine c_sr ?_
   refine pl_val (.bool false) (y_assign rfl) ?_
   refine c_nil ?_
   refine wp_ret ?_
   cases hs
   exact ⟨_, fr_ovl 27 ⟨rfl, trivial⟩, hC⟩
  refine c_condF (congrArg Value.bool a6) ?_
  refine wp_skip ?_
  refine c_region ?_
  refine pl_val (.int .i64 k18) (y_move rfl) ?_
  refine pl_val (.int .i64 (w64 (k18 + 1))) (y_add rfl rfl) ?_
  refine pl_val (.int .i64 (w64 (k18 + 1))) (y_assign rfl) ?_
  refine c_nil ?_
  cases hs
  exact ⟨_, fr_ovl 27 ⟨rfl, rfl, congrArg (Value.int .i64) hw, trivial⟩, hC, hO, h0, h1⟩
 ·skip
  exact ⟨_, fr_ovl 27 ⟨rfl, rfl, rfl, trivial⟩, hC, hO, h0, h1⟩
 cases o20 with
 | nx _ => exact True.intro
 | rt r_ =>
  have hs := after_rt hs
  intro c9 a7 hK
  cases hs
  exact hK
 | br s16 =>
  have hs := after_br hs
  rintro c9 a0 ⟨σ, rfl, hC, hO, h0, h1⟩
  refine c_sr ?_
  refine pl_val (.bool true) (y_assign rfl) ?_
  refine c_nil ?_
  refine wp_ret ?_
  cases hs
  exact ⟨_, fr_ovl 27 ⟨rfl, trivial⟩, hC⟩

theorem Bd37 : Bodied Try.prog 37 := bodied Try.func37 (by kernel_rfl) rfl

def k_laws_eqRelation (M : Nat → Prop) (w0 : World) (r : Bool) (a : Act) (w : World) : Prop :=
  ∃ (σ : Nat → Value) , a = fr 16 (ovl σ [(4, (.bool r))]) ∧ Chg [] w0 w
def s_laws_eqRelation (a_ : Int × (List (List Int))) (b : Int × (List (List Int))) : Option (Bool) :=
  (bif (a_.1 != b.1) then some false else (s_laws_eqIntSS a_.2 b.2).bind fun r7 =>
  (bif (!r7) then some false else some true))
set_option maxHeartbeats 4000000 in
theorem c_laws_eqRelation {M : Nat → Prop} {w : World} {pa0 : Option Addr} {pn0 pc0 : Nat} {pa1 : Option Addr} {pn1 pc1 : Nat} (a_ : Int × (List (List Int))) (b : Int × (List (List Int))) (h0 : (RT.rs (RT.rs (RT.int .i64))).val M w (.slice pa0 pn0 pc0) a_.2 ([])) (h1 : (RT.rs (RT.rs (RT.int .i64))).val M w (.slice pa1 pn1 pc1) b.2 ([])) (hM : ∀ g, w.heap.size ≤ g → M g) {r : Bool} (hs : s_laws_eqRelation a_ b = some r) :
    Gives Try.prog 67 [(.agg #[(.int .i64 a_.1), (.slice pa0 pn0 pc0)]), (.agg #[(.int .i64 b.1), (.slice pa1 pn1 pc1)])] w (fun v w' => v = (.bool r) ∧ Chg [] w w') := by
 refine calls_fr Try.func67 rfl Try.ntmps67 (Nat.le_of_ble_eq_true rfl) ?_
 have hO := Own.start (N := Nw w []) hM Nw.fut
 have hC := Chg.refl [] w
 unfold s_laws_eqRelation at hs
 refine wp_mono (Q := KPost (k_laws_eqRelation M w r)) ?_ (fun e a b6 h => ?_)
 rotate_left
 ·cases e
  case ret =>
   obtain ⟨σ, rfl, hrest⟩ := h
   exact ret1x Try.results67 (res_tmp rfl) ⟨rfl, hrest⟩
  all_goals exact (h : False).elim
 refine c_sr ?_
 obtain ⟨a9, a5, b2, b0, a4, a0⟩ := new_block w [(.int .i64 a_.1), (.slice pa0 pn0 pc0)] 54
 refine pl_val (w' := a9) (.pointer (some ⟨a5, 0, none⟩)) (y_box rfl (by rw [b2, b0]; kernel_rfl)) ?_
 have h0 := h0.ext a4
 have h1 := h1.ext a4
 have hC := hC.ext a4
 have hO := hO.new1 a4 b0 a0.lt
 obtain ⟨b3, a6, b4, b1, a2, a3⟩ := new_block a9 [(.int .i64 b.1), (.slice pa1 pn1 pc1)] 54
 refine pl_val (w' := b3) (.pointer (some ⟨a6, 0, none⟩)) (y_box rfl (by rw [b4, b1]; kernel_rfl)) ?_
 have h0 := h0.ext a2
 have h1 := h1.ext a2
 have a0 := a0.cn a2
 have hC := hC.ext a2
 have hO := hO.new1 a2 b1 a3.lt
 refine pl_val (.bool false) (y_assign rfl) ?_
 refine c_nil ?_
 refine c_seq ?_
 refine c_sr ?_
 refine pl_val (.pointer (some ⟨a5, 0, none⟩)) (y_faddr rfl Fa54x0) ?_
 refine pl_val (.int .i64 a_.1) (y_load rfl ((box_load Ag3 Sz3 a0 [] [(.int .i64 a_.1)] [(.slice pa0 pn0 pc0)] rfl rfl (fun _ => rfl)) _ (Chg.refl _ _))) ?_
 refine pl_val (.pointer (some ⟨a6, 0, none⟩)) (y_faddr rfl Fa54x0) ?_
 refine pl_val (.int .i64 b.1) (y_load rfl ((box_load Ag3 Sz3 a3 [] [(.int .i64 b.1)] [(.slice pa1 pn1 pc1)] rfl rfl (fun _ => rfl)) _ (Chg.refl _ _))) ?_
 refine pl_val (.bool (a_.1 != b.1)) (y_neq rfl rfl) ?_
 refine c_nil ?_
 rcases bif_some hs with ⟨a7, hs⟩ | ⟨a7, hs⟩
 ·refine c_condT (congrArg Value.bool a7) ?_
  refine c_sr ?_
  refine pl_val (.bool false) (y_assign rfl) ?_
  refine c_nil ?_
  refine wp_ret ?_
  cases hs
  exact ⟨_, fr_ovl 16 ⟨rfl, trivial⟩, hC⟩
 refine c_condF (congrArg Value.bool a7) ?_
 refine wp_skip ?_
 refine c_seq ?_
 refine c_sr ?_
 refine pl_val (.pointer (some ⟨a5, 1, none⟩)) (y_faddr rfl Fa54x1) ?_
 refine pl_val (.slice pa0 pn0 pc0) (y_load rfl ((box_load Ag47 Sz47 a0 [(.int .i64 a_.1)] [(.slice pa0 pn0 pc0)] [] rfl rfl (fun _ => rfl)) _ (Chg.refl _ _))) ?_
 refine pl_val (.pointer (some ⟨a6, 1, none⟩)) (y_faddr rfl Fa54x1) ?_
 refine pl_val (.slice pa1 pn1 pc1) (y_load rfl ((box_load Ag47 Sz47 a3 [(.int .i64 b.1)] [(.slice pa1 pn1 pc1)] [] rfl rfl (fun _ => rfl)) _ (Chg.refl _ _))) ?_
 obtain ⟨r7, b5, hs⟩ := bind_some hs
 refine pl_call Bd37 rfl (c_laws_eqIntSS (M := M) a_.2 b.2 h0 h1 hO.fut b5) ?_
 rintro _ b7 ⟨rfl, a1⟩
 have h0 := h0.ext a1
 have h1 := h1.ext a1
 have a0 := a0.cn a1
 have a3 := a3.cn a1
 have hC := hC.ext a1
 have hO := hO.ext a1
 refine pl_val (.bool (!r7)) (y_not rfl) ?_
 refine c_nil ?_
 have hO := hO.drop
 have hO := hO.drop
 rcases bif_some hs with ⟨a8, hs⟩ | ⟨a8, hs⟩
 ·refine c_condT (congrArg Value.bool a8) ?_
  refine c_sr ?_
  refine pl_val (.bool false) (y_assign rfl) ?_
  refine c_nil ?_
  refine wp_ret ?_
  cases hs
  exact ⟨_, fr_ovl 16 ⟨rfl, trivial⟩, hC⟩
 refine c_condF (congrArg Value.bool a8) ?_
 refine wp_skip ?_
 refine c_sr ?_
 refine pl_val (.bool true) (y_assign rfl) ?_
 refine c_nil ?_
 refine wp_ret ?_
 cases hs
 exact ⟨_, fr_ovl 16 ⟨rfl, trivial⟩, hC⟩

theorem Bd67 : Bodied Try.prog 67 := bodied Try.func67 (by kernel_rfl) rfl

def k_laws_eqConstraint (M : Nat → Prop) (w0 : World) (r : Bool) (a : Act) (w : World) : Prop :=
  ∃ (σ : Nat → Value) , a = fr 17 (ovl σ [(4, (.bool r))]) ∧ Chg [] w0 w
def s_laws_eqConstraint (a_ : (List Int) × (Int × (List (List Int)))) (b : (List Int) × (Int × (List (List Int)))) : Option (Bool) :=
  (s_laws_eqIntS a_.1 b.1).bind fun r8 =>
  (bif (!r8) then some false else (s_laws_eqRelation (a_.2.1, a_.2.2) (b.2.1, b.2.2)).bind fun r11 =>
  (bif (!r11) then some false else some true))
set_option maxHeartbeats 4000000 in
theorem c_laws_eqConstraint {M : Nat → Prop} {w : World} {pa0 : Option Addr} {pn0 pc0 : Nat} {pa1 : Option Addr} {pn1 pc1 : Nat} {pa2 : Option Addr} {pn2 pc2 : Nat} {pa3 : Option Addr} {pn3 pc3 : Nat} (a_ : (List Int) × (Int × (List (List Int)))) (b : (List Int) × (Int × (List (List Int)))) (h0 : (RT.rs (RT.int .i64)).val M w (.slice pa0 pn0 pc0) a_.1 ([])) (h1 : (RT.rs (RT.rs (RT.int .i64))).val M w (.slice pa1 pn1 pc1) a_.2.2 ([])) (h2 : (RT.rs (RT.int .i64)).val M w (.slice pa2 pn2 pc2) b.1 ([])) (h3 : (RT.rs (RT.rs (RT.int .i64))).val M w (.slice pa3 pn3 pc3) b.2.2 ([])) (hM : ∀ g, w.heap.size ≤ g → M g) {r : Bool} (hs : s_laws_eqConstraint a_ b = some r) :
    Gives Try.prog 29 [(.agg #[(.slice pa0 pn0 pc0), (.int .i64 a_.2.1), (.slice pa1 pn1 pc1)]), (.agg #[(.slice pa2 pn2 pc2), (.int .i64 b.2.1), (.slice pa3 pn3 pc3)])] w (fun v w' => v = (.bool r) ∧ Chg [] w w') := by
 refine calls_fr Try.func29 rfl Try.ntmps29 (Nat.le_of_ble_eq_true rfl) ?_
 have hO := Own.start (N := Nw w []) hM Nw.fut
 have hC := Chg.refl [] w
 unfold s_laws_eqConstraint at hs
 refine wp_mono (Q := KPost (k_laws_eqConstraint M w r)) ?_ (fun e a b8 h => ?_)
 rotate_left
 ·cases e
  case ret =>
   obtain ⟨σ, rfl, hrest⟩ := h
   exact ret1x Try.results29 (res_tmp rfl) ⟨rfl, hrest⟩
  all_goals exact (h : False).elim
 refine c_sr ?_
 obtain ⟨b0, a6, b3, b1, a5, a0⟩ := new_block w [(.slice pa0 pn0 pc0), (.int .i64 a_.2.1), (.slice pa1 pn1 pc1)] 56
 refine pl_val (w' := b0) (.pointer (some ⟨a6, 0, none⟩)) (y_box rfl (by rw [b3, b1]; kernel_rfl)) ?_
 have h0 := h0.ext a5
 have h1 := h1.ext a5
 have h2 := h2.ext a5
 have h3 := h3.ext a5
 have hC := hC.ext a5
 have hO := hO.new1 a5 b1 a0.lt
 obtain ⟨b4, a7, b5, b2, a3, a4⟩ := new_block b0 [(.slice pa2 pn2 pc2), (.int .i64 b.2.1), (.slice pa3 pn3 pc3)] 56
 refine pl_val (w' := b4) (.pointer (some ⟨a7, 0, none⟩)) (y_box rfl (by rw [b5, b2]; kernel_rfl)) ?_
 have h0 := h0.ext a3
 have h1 := h1.ext a3
 have h2 := h2.ext a3
 have h3 := h3.ext a3
 have a0 := a0.cn a3
 have hC := hC.ext a3
 have hO := hO.new1 a3 b2 a4.lt
 refine pl_val (.bool false) (y_assign rfl) ?_
 refine c_nil ?_
 refine c_seq ?_
 refine c_sr ?_
 refine pl_val (.pointer (some ⟨a6, 0, none⟩)) (y_faddr rfl Fa56x0) ?_
 refine pl_val (.slice pa0 pn0 pc0) (y_load rfl ((box_load Ag41 Sz41 a0 [] [(.slice pa0 pn0 pc0)] [(.int .i64 a_.2.1), (.slice pa1 pn1 pc1)] rfl rfl (fun _ => rfl)) _ (Chg.refl _ _))) ?_
 refine pl_val (.pointer (some ⟨a7, 0, none⟩)) (y_faddr rfl Fa56x0) ?_
 refine pl_val (.slice pa2 pn2 pc2) (y_load rfl ((box_load Ag41 Sz41 a4 [] [(.slice pa2 pn2 pc2)] [(.int .i64 b.2.1), (.slice pa3 pn3 pc3)] rfl rfl (fun _ => rfl)) _ (Chg.refl _ _))) ?_
 obtain ⟨r8, b6, hs⟩ := bind_some hs
 refine pl_call Bd24 rfl (c_laws_eqIntS (M := M) a_.1 b.1 h0 h2 hO.fut b6) ?_
 rintro _ b9 ⟨rfl, a1⟩
 have h0 := h0.ext a1
 have h1 := h1.ext a1
 have h2 := h2.ext a1
 have h3 := h3.ext a1
 have a0 := a0.cn a1
 have a4 := a4.cn a1
 have hC := hC.ext a1
 have hO := hO.ext a1
 refine pl_val (.bool (!r8)) (y_not rfl) ?_
 refine c_nil ?_
 rcases bif_some hs with ⟨a8, hs⟩ | ⟨a8, hs⟩
 ·refine c_condT (congrArg Value.bool a8) ?_
  refine c_sr ?_
  refine pl_val (.bool false) (y_assign rfl) ?_
  refine c_nil ?_
  refine wp_ret ?_
  cases hs
  exact ⟨_, fr_ovl 17 ⟨rfl, trivial⟩, hC⟩
 refine c_condF (congrArg Value.bool a8) ?_
 refine wp_skip ?_
 refine c_seq ?_
 refine c_sr ?_
 refine pl_val (.pointer (some ⟨a6, 1, none⟩)) (y_faddr rfl Fa56x1) ?_
 refine pl_val (.agg #[(.int .i64 a_.2.1), (.slice pa1 pn1 pc1)]) (y_load rfl ((box_load Ag54 Sz54 a0 [(.slice pa0 pn0 pc0)] [(.int .i64 a_.2.1), (.slice pa1 pn1 pc1)] [] rfl rfl (fun h => nomatch h)) _ (Chg.refl _ _))) ?_
 refine pl_val (.pointer (some ⟨a7, 1, none⟩)) (y_faddr rfl Fa56x1) ?_
 refine pl_val (.agg #[(.int .i64 b.2.1), (.slice pa3 pn3 pc3)]) (y_load rfl ((box_load Ag54 Sz54 a4 [(.slice pa2 pn2 pc2)] [(.int .i64 b.2.1), (.slice pa3 pn3 pc3)] [] rfl rfl (fun h => nomatch h)) _ (Chg.refl _ _))) ?_
 obtain ⟨r11, b7, hs⟩ := bind_some hs
 refine pl_call Bd67 rfl (c_laws_eqRelation (M := M) (a_.2.1, a_.2.2) (b.2.1, b.2.2) h1 h3 hO.fut b7) ?_
 rintro _ c0 ⟨rfl, a2⟩
 have h0 := h0.ext a2
 have h1 := h1.ext a2
 have h2 := h2.ext a2
 have h3 := h3.ext a2
 have a0 := a0.cn a2
 have a4 := a4.cn a2
 have hC := hC.ext a2
 have hO := hO.ext a2
 refine pl_val (.bool (!r11)) (y_not rfl) ?_
 refine c_nil ?_
 have hO := hO.drop
 have hO := hO.drop
 rcases bif_some hs with ⟨a9, hs⟩ | ⟨a9, hs⟩
 ·refine c_condT (congrArg Value.bool a9) ?_
  refine c_sr ?_
  refine pl_val (.bool false) (y_assign rfl) ?_
  refine c_nil ?_
  refine wp_ret ?_
  cases hs
  exact ⟨_, fr_ovl 17 ⟨rfl, trivial⟩, hC⟩
 refine c_condF (congrArg Value.bool a9) ?_
 refine wp_skip ?_
 refine c_sr ?_
 refine pl_val (.bool true) (y_assign rfl) ?_
 refine c_nil ?_
 refine wp_ret ?_
 cases hs
 exact ⟨_, fr_ovl 17 ⟨rfl, trivial⟩, hC⟩

theorem Bd29 : Bodied Try.prog 29 := bodied Try.func29 (by kernel_rfl) rfl

def k_laws_eqConstraintS (M : Nat → Prop) (w0 : World) (r : Bool) (a : Act) (w : World) : Prop :=
  ∃ (σ : Nat → Value) , a = fr 27 (ovl σ [(4, (.bool r))]) ∧ Chg [] w0 w
def s_laws_eqConstraintS (a_ : List ((List Int) × (Int × (List (List Int))))) (b : List ((List Int) × (Int × (List (List Int))))) : Option (Bool) :=
  (bif ((a_.length : Int) != (b.length : Int)) then some false else (forC (S := Unit) (R := Bool) (fun k20 s18 =>
  (idx a_ k20).bind fun x25 =>
  (idx b k20).bind fun x30 =>
  (s_laws_eqConstraint (x25.1, (x25.2.1, x25.2.2)) (x30.1, (x30.2.1, x30.2.2))).bind fun r36 =>
  (bif (!r36) then some (.rt false) else some (.nx ()))) 0 (a_.length : Int) ()).bind fun o22 => after o22 (fun r_ => some r_) (fun s18 =>
  some true))
set_option maxHeartbeats 4000000 in
theorem c_laws_eqConstraintS {M : Nat → Prop} {w : World} {pa0 : Option Addr} {pn0 pc0 : Nat} {pa1 : Option Addr} {pn1 pc1 : Nat} (a_ : List ((List Int) × (Int × (List (List Int))))) (b : List ((List Int) × (Int × (List (List Int))))) (h0 : (RT.rs (RT.pr (RT.rs (RT.int .i64)) (RT.pr (RT.int .i64) (RT.rs (RT.rs (RT.int .i64)))))).val M w (.slice pa0 pn0 pc0) a_ ([])) (h1 : (RT.rs (RT.pr (RT.rs (RT.int .i64)) (RT.pr (RT.int .i64) (RT.rs (RT.rs (RT.int .i64)))))).val M w (.slice pa1 pn1 pc1) b ([])) (hM : ∀ g, w.heap.size ≤ g → M g) {r : Bool} (hs : s_laws_eqConstraintS a_ b = some r) :
    Gives Try.prog 54 [(.slice pa0 pn0 pc0), (.slice pa1 pn1 pc1)] w (fun v w' => v = (.bool r) ∧ Chg [] w w') := by
 refine calls_fr Try.func54 rfl Try.ntmps54 (Nat.le_of_ble_eq_true rfl) ?_
 have hO := Own.start (N := Nw w []) hM Nw.fut
 have hC := Chg.refl [] w
 unfold s_laws_eqConstraintS at hs
 refine wp_mono (Q := KPost (k_laws_eqConstraintS M w r)) ?_ (fun e a a9 h => ?_)
 rotate_left
 ·cases e
  case ret =>
   obtain ⟨σ, rfl, hrest⟩ := h
   exact ret1x Try.results54 (res_tmp rfl) ⟨rfl, hrest⟩
  all_goals exact (h : False).elim
 refine c_sr ?_
 refine pl_val (.bool false) (y_assign rfl) ?_
 refine c_nil ?_
 refine c_seq ?_
 refine c_sr ?_
 refine pl_val (.slice pa0 pn0 pc0) (y_move rfl) ?_
 refine pl_val (.int .i64 (a_.length : Int)) (y_len' Sl28 (rs_len h0) rfl) ?_
 refine pl_val (.slice pa1 pn1 pc1) (y_move rfl) ?_
 refine pl_val (.int .i64 (b.length : Int)) (y_len' Sl28 (rs_len h1) rfl) ?_
 refine pl_val (.bool ((a_.length : Int) != (b.length : Int))) (y_neq rfl rfl) ?_
 refine c_nil ?_
 rcases bif_some hs with ⟨a3, hs⟩ | ⟨a3, hs⟩
 ·refine c_condT (congrArg Value.bool a3) ?_
  refine c_sr ?_
  refine pl_val (.bool false) (y_assign rfl) ?_
  refine c_nil ?_
  refine wp_ret ?_
  cases hs
  exact ⟨_, fr_ovl 27 ⟨rfl, trivial⟩, hC⟩
 refine c_condF (congrArg Value.bool a3) ?_
 refine wp_skip ?_
 refine c_seq ?_
 refine c_sr ?_
 refine pl_val (.int .i64 0) (y_assign rfl) ?_
 refine c_nil ?_
 obtain ⟨o22, b0, hs⟩ := bind_some hs
 refine wp_block ?_
 refine wp_forC (id := 0) (a_.length : Int) (I := fun k20 s18 a a0 => ∃ (σ : Nat → Value), a = fr 27 (ovl σ [(0, (.slice pa0 pn0 pc0)), (1, (.slice pa1 pn1 pc1)), (5, (.int .i64 k20))]) ∧ Chg [] w a0 ∧ Own (Nw w []) M a0 ([]) ∧ (RT.rs (RT.pr (RT.rs (RT.int .i64)) (RT.pr (RT.int .i64) (RT.rs (RT.rs (RT.int .i64)))))).val M a0 (.slice pa0 pn0 pc0) a_ ([]) ∧ (RT.rs (RT.pr (RT.rs (RT.int .i64)) (RT.pr (RT.int .i64) (RT.rs (RT.rs (RT.int .i64)))))).val M a0 (.slice pa1 pn1 pc1) b ([])) (J := fun s18 a a0 => ∃ (σ : Nat → Value), a = fr 27 (ovl σ []) ∧ Chg [] w a0 ∧ Own (Nw w []) M a0 ([]) ∧ (RT.rs (RT.pr (RT.rs (RT.int .i64)) (RT.pr (RT.int .i64) (RT.rs (RT.rs (RT.int .i64)))))).val M a0 (.slice pa0 pn0 pc0) a_ ([]) ∧ (RT.rs (RT.pr (RT.rs (RT.int .i64)) (RT.pr (RT.int .i64) (RT.rs (RT.rs (RT.int .i64)))))).val M a0 (.slice pa1 pn1 pc1) b ([])) (K := (k_laws_eqConstraintS M w)) ?_ ?_ 0 () o22 _ _ ?_ b0 ?_
 ·rintro k20 s18 a a0 ⟨σ, rfl, hC, hO, h0, h1⟩ hlt
  refine c_seq ?_
  refine c_sr ?_
  refine pl_val (.int .i64 k20) (y_move rfl) ?_
  refine pl_val (.slice pa0 pn0 pc0) (y_move rfl) ?_
  refine pl_val (.int .i64 (a_.length : Int)) (y_len' Sl28 (rs_len h0) rfl) ?_
  refine pl_val (.bool (decide (k20 < (a_.length : Int)))) (y_lss rfl rfl) ?_
  refine c_nil ?_
  refine c_condF (congrArg Value.bool (decide_eq_false hlt)) ?_
  refine wp_exit ?_
  exact ⟨rfl, _, fr_ovl 27 trivial, hC, hO, h0, h1⟩
 ·rintro k20 s18 o22 a a0 ⟨σ, rfl, hC, hO, h0, h1⟩ hlt hw hs
  refine c_seq ?_
  refine c_sr ?_
  refine pl_val (.int .i64 k20) (y_move rfl) ?_
  refine pl_val (.slice pa0 pn0 pc0) (y_move rfl) ?_
  refine pl_val (.int .i64 (a_.length : Int)) (y_len' Sl28 (rs_len h0) rfl) ?_
  refine pl_val (.bool (decide (k20 < (a_.length : Int)))) (y_lss rfl rfl) ?_
  refine c_nil ?_
  refine c_condT (congrArg Value.bool (decide_eq_true hlt)) ?_
  refine wp_skip ?_
  refine c_seq ?_
  refine wp_block ?_
  refine c_seq ?_
  refine x_start [] Mx rfl ?_
  have a2 := Chg.drew a0
  generalize World.drew a0 = b1 at a2 ⊢
  have h0 := h0.ext a2
  have h1 := h1.ext a2
  have hC := hC.ext a2
  have hO := hO.ext a2
  have hS := Chg.refl [] b1
  refine x_p 0 (.slice pa0 pn0 pc0) rfl (by kernel_rfl)  (fun _ => y_move rfl) (fun _ => hS) ?_
  refine x_p 1 (.int .i64 k20) rfl (by kernel_rfl)  (fun _ => y_move rfl) (fun _ => hS) ?_
  obtain ⟨x25, b2, hs⟩ := bind_some hs
  obtain ⟨b3, b4, b5, b6⟩ := rs_idx Sl28 Sz56 h0 b2
  refine x_p 2 (.pointer (some ⟨b3, b4, none⟩)) rfl (by kernel_rfl)  (fun _ => b5 _ _ _ _ _ _ _ _ _ rfl rfl) (fun _ => hS) ?_
  obtain ⟨f0, b7, b8⟩ := at_load Ag56 Sz56 (by intro h; cases h) b6
  obtain ⟨f1, rfl, b9⟩ := b8
  obtain ⟨f2, f3, rfl, c0, c1⟩ := pr_open b9
  obtain ⟨c2, c3, c4, rfl, a4⟩ := rs_rel c0
  obtain ⟨f4, f5, rfl, c5, c6⟩ := pr_open c1
  obtain rfl := int_rel c5
  obtain ⟨c7, c8, c9, rfl, a5⟩ := rs_rel c6
  refine x_l 3 (.agg #[(.slice c2 c3 c4), (.int .i64 x25.2.1), (.slice c7 c8 c9)]) rfl (by kernel_rfl)  (fun w' hw' => y_load rfl (b7 w' hw')) hS ?_
  refine x_p 4 (.slice pa1 pn1 pc1) rfl (by kernel_rfl)  (fun _ => y_move rfl) (fun _ => hS) ?_
  refine x_p 5 (.int .i64 k20) rfl (by kernel_rfl)  (fun _ => y_move rfl) (fun _ => hS) ?_
  obtain ⟨x30, d0, hs⟩ := bind_some hs
  obtain ⟨d1, d2, d3, d4⟩ := rs_idx Sl28 Sz56 h1 d0
  refine x_p 6 (.pointer (some ⟨d1, d2, none⟩)) rfl (by kernel_rfl)  (fun _ => d3 _ _ _ _ _ _ _ _ _ rfl rfl) (fun _ => hS) ?_
  obtain ⟨f6, d5, d6⟩ := at_load Ag56 Sz56 (by intro h; cases h) d4
  obtain ⟨f7, rfl, d7⟩ := d6
  obtain ⟨f8, f9, rfl, d8, d9⟩ := pr_open d7
  obtain ⟨e0, e1, e2, rfl, a6⟩ := rs_rel d8
  obtain ⟨g0, g1, rfl, e3, e4⟩ := pr_open d9
  obtain rfl := int_rel e3
  obtain ⟨e5, e6, e7, rfl, a7⟩ := rs_rel e4
  refine x_l 7 (.agg #[(.slice e0 e1 e2), (.int .i64 x30.2.1), (.slice e5 e6 e7)]) rfl (by kernel_rfl)  (fun w' hw' => y_load rfl (d5 w' hw')) hS ?_
  refine x_one (i := 8) (by kernel_rfl) ?_
  obtain ⟨r36, e8, hs⟩ := bind_some hs
  refine xk_call (b := false) rfl  Bd29 rfl (c_laws_eqConstraint (M := M) (x25.1, (x25.2.1, x25.2.2)) (x30.1, (x30.2.1, x30.2.2)) a4 a5 a6 a7 hO.fut e8) rfl (by rintro _ _ _ ⟨rfl, a1⟩; exact hS.ext a1) ?_
  rintro _ g2 ⟨rfl, a1⟩
  have h0 := h0.ext a1
  have h1 := h1.ext a1
  have a4 := a4.ext a1
  have a5 := a5.ext a1
  have a6 := a6.ext a1
  have a7 := a7.ext a1
  have hC := hC.ext a1
  have hO := hO.ext a1
  have hS := hS.ext a1
  refine x_p 9 (.bool (!r36)) rfl (by kernel_rfl)  (fun _ => y_not rfl) (fun _ => hS) ?_
  refine x_end (by kernel_rfl) ?_
  clear hS
  rcases bif_some hs with ⟨a8, hs⟩ | ⟨a8, hs⟩
  ·refine c_condT (congrArg Value.bool a8) ?_
   refine c_sr ?_
   refine pl_val (.bool false) (y_assign rfl) ?_
   refine c_nil ?_
   refine wp_ret ?_
   cases hs
   exact ⟨_, fr_ovl 27 ⟨rfl, trivial⟩, hC⟩
  refine c_condF (congrArg Value.bool a8) ?_
  refine wp_skip ?_
  refine c_region ?_
  refine pl_val (.int .i64 k20) (y_move rfl) ?_
  refine pl_val (.int .i64 (w64 (k20 + 1))) (y_add rfl rfl) ?_
  refine pl_val (.int .i64 (w64 (k20 + 1))) (y_assign rfl) ?_
  refine c_nil ?_
  cases hs
  exact ⟨_, fr_ovl 27 ⟨rfl, rfl, congrArg (Value.int .i64) hw, trivial⟩, hC, hO, h0, h1⟩
 ·skip
  exact ⟨_, fr_ovl 27 ⟨rfl, rfl, rfl, trivial⟩, hC, hO, h0, h1⟩
 cases o22 with
 | nx _ => exact True.intro
 | rt r_ =>
  have hs := after_rt hs
  intro e9 a9 hK
  cases hs
  exact hK
 | br s18 =>
  have hs := after_br hs
  rintro e9 a0 ⟨σ, rfl, hC, hO, h0, h1⟩
  refine c_sr ?_
  refine pl_val (.bool true) (y_assign rfl) ?_
  refine c_nil ?_
  refine wp_ret ?_
  cases hs
  exact ⟨_, fr_ovl 27 ⟨rfl, trivial⟩, hC⟩

theorem Fa30x0 : ∀ (a : Addr) (w : World), (Instr.fieldAt 30 (.pointer (some a)) 0).run Try.prog w = .ok (.pointer (some (a.add 0))) w := fun _ _ => by kernel_rfl

theorem Fa30x1 : ∀ (a : Addr) (w : World), (Instr.fieldAt 30 (.pointer (some a)) 1).run Try.prog w = .ok (.pointer (some (a.add 1))) w := fun _ _ => by kernel_rfl

theorem Bd54 : Bodied Try.prog 54 := bodied Try.func54 (by kernel_rfl) rfl

def k_laws_eqNetwork (M : Nat → Prop) (w0 : World) (r : Bool) (a : Act) (w : World) : Prop :=
  ∃ (σ : Nat → Value) , a = fr 21 (ovl σ [(4, (.bool r))]) ∧ Chg [] w0 w
def s_laws_eqNetwork (a_ : Int × Int × (List ((List Int) × (Int × (List (List Int)))))) (b : Int × Int × (List ((List Int) × (Int × (List (List Int)))))) : Option (Bool) :=
  (bif (a_.1 != b.1) then some false else (bif (a_.2.1 != b.2.1) then some false else (s_laws_eqConstraintS a_.2.2 b.2.2).bind fun r8 =>
  (bif (!r8) then some false else some true)))
set_option maxHeartbeats 4000000 in
theorem c_laws_eqNetwork {M : Nat → Prop} {w : World} {pa0 : Option Addr} {pn0 pc0 : Nat} {pa1 : Option Addr} {pn1 pc1 : Nat} (a_ : Int × Int × (List ((List Int) × (Int × (List (List Int)))))) (b : Int × Int × (List ((List Int) × (Int × (List (List Int)))))) (h0 : (RT.rs (RT.pr (RT.rs (RT.int .i64)) (RT.pr (RT.int .i64) (RT.rs (RT.rs (RT.int .i64)))))).val M w (.slice pa0 pn0 pc0) a_.2.2 ([])) (h1 : (RT.rs (RT.pr (RT.rs (RT.int .i64)) (RT.pr (RT.int .i64) (RT.rs (RT.rs (RT.int .i64)))))).val M w (.slice pa1 pn1 pc1) b.2.2 ([])) (hM : ∀ g, w.heap.size ≤ g → M g) {r : Bool} (hs : s_laws_eqNetwork a_ b = some r) :
    Gives Try.prog 15 [(.agg #[(.int .i64 a_.1), (.int .i64 a_.2.1), (.slice pa0 pn0 pc0)]), (.agg #[(.int .i64 b.1), (.int .i64 b.2.1), (.slice pa1 pn1 pc1)])] w (fun v w' => v = (.bool r) ∧ Chg [] w w') := by
 refine calls_fr Try.func15 rfl Try.ntmps15 (Nat.le_of_ble_eq_true rfl) ?_
 have hO := Own.start (N := Nw w []) hM Nw.fut
 have hC := Chg.refl [] w
 unfold s_laws_eqNetwork at hs
 refine wp_mono (Q := KPost (k_laws_eqNetwork M w r)) ?_ (fun e a b7 h => ?_)
 rotate_left
 ·cases e
  case ret =>
   obtain ⟨σ, rfl, hrest⟩ := h
   exact ret1x Try.results15 (res_tmp rfl) ⟨rfl, hrest⟩
  all_goals exact (h : False).elim
 refine c_sr ?_
 obtain ⟨b0, a4, b3, b1, a5, a0⟩ := new_block w [(.int .i64 a_.1), (.int .i64 a_.2.1), (.slice pa0 pn0 pc0)] 30
 refine pl_val (w' := b0) (.pointer (some ⟨a4, 0, none⟩)) (y_box rfl (by rw [b3, b1]; kernel_rfl)) ?_
 have h0 := h0.ext a5
 have h1 := h1.ext a5
 have hC := hC.ext a5
 have hO := hO.new1 a5 b1 a0.lt
 obtain ⟨b4, a6, b5, b2, a3, a1⟩ := new_block b0 [(.int .i64 b.1), (.int .i64 b.2.1), (.slice pa1 pn1 pc1)] 30
 refine pl_val (w' := b4) (.pointer (some ⟨a6, 0, none⟩)) (y_box rfl (by rw [b5, b2]; kernel_rfl)) ?_
 have h0 := h0.ext a3
 have h1 := h1.ext a3
 have a0 := a0.cn a3
 have hC := hC.ext a3
 have hO := hO.new1 a3 b2 a1.lt
 refine pl_val (.bool false) (y_assign rfl) ?_
 refine c_nil ?_
 refine c_seq ?_
 refine c_sr ?_
 refine pl_val (.pointer (some ⟨a4, 0, none⟩)) (y_faddr rfl Fa30x0) ?_
 refine pl_val (.int .i64 a_.1) (y_load rfl ((box_load Ag3 Sz3 a0 [] [(.int .i64 a_.1)] [(.int .i64 a_.2.1), (.slice pa0 pn0 pc0)] rfl rfl (fun _ => rfl)) _ (Chg.refl _ _))) ?_
 refine pl_val (.pointer (some ⟨a6, 0, none⟩)) (y_faddr rfl Fa30x0) ?_
 refine pl_val (.int .i64 b.1) (y_load rfl ((box_load Ag3 Sz3 a1 [] [(.int .i64 b.1)] [(.int .i64 b.2.1), (.slice pa1 pn1 pc1)] rfl rfl (fun _ => rfl)) _ (Chg.refl _ _))) ?_
 refine pl_val (.bool (a_.1 != b.1)) (y_neq rfl rfl) ?_
 refine c_nil ?_
 rcases bif_some hs with ⟨a7, hs⟩ | ⟨a7, hs⟩
 ·refine c_condT (congrArg Value.bool a7) ?_
  refine c_sr ?_
  refine pl_val (.bool false) (y_assign rfl) ?_
  refine c_nil ?_
  refine wp_ret ?_
  cases hs
  exact ⟨_, fr_ovl 21 ⟨rfl, trivial⟩, hC⟩
 refine c_condF (congrArg Value.bool a7) ?_
 refine wp_skip ?_
 refine c_seq ?_
 refine c_sr ?_
 refine pl_val (.pointer (some ⟨a4, 1, none⟩)) (y_faddr rfl Fa30x1) ?_
 refine pl_val (.int .i64 a_.2.1) (y_load rfl ((box_load Ag3 Sz3 a0 [(.int .i64 a_.1)] [(.int .i64 a_.2.1)] [(.slice pa0 pn0 pc0)] rfl rfl (fun _ => rfl)) _ (Chg.refl _ _))) ?_
 refine pl_val (.pointer (some ⟨a6, 1, none⟩)) (y_faddr rfl Fa30x1) ?_
 refine pl_val (.int .i64 b.2.1) (y_load rfl ((box_load Ag3 Sz3 a1 [(.int .i64 b.1)] [(.int .i64 b.2.1)] [(.slice pa1 pn1 pc1)] rfl rfl (fun _ => rfl)) _ (Chg.refl _ _))) ?_
 refine pl_val (.bool (a_.2.1 != b.2.1)) (y_neq rfl rfl) ?_
 refine c_nil ?_
 rcases bif_some hs with ⟨a8, hs⟩ | ⟨a8, hs⟩
 ·refine c_condT (congrArg Value.bool a8) ?_
  refine c_sr ?_
  refine pl_val (.bool false) (y_assign rfl) ?_
  refine c_nil ?_
  refine wp_ret ?_
  cases hs
  exact ⟨_, fr_ovl 21 ⟨rfl, trivial⟩, hC⟩
 refine c_condF (congrArg Value.bool a8) ?_
 refine wp_skip ?_
 refine c_seq ?_
 refine c_sr ?_
 refine pl_val (.pointer (some ⟨a4, 2, none⟩)) (y_faddr rfl Fa30x2) ?_
 refine pl_val (.slice pa0 pn0 pc0) (y_load rfl ((box_load Ag28 Sz28 a0 [(.int .i64 a_.1), (.int .i64 a_.2.1)] [(.slice pa0 pn0 pc0)] [] rfl rfl (fun _ => rfl)) _ (Chg.refl _ _))) ?_
 refine pl_val (.pointer (some ⟨a6, 2, none⟩)) (y_faddr rfl Fa30x2) ?_
 refine pl_val (.slice pa1 pn1 pc1) (y_load rfl ((box_load Ag28 Sz28 a1 [(.int .i64 b.1), (.int .i64 b.2.1)] [(.slice pa1 pn1 pc1)] [] rfl rfl (fun _ => rfl)) _ (Chg.refl _ _))) ?_
 obtain ⟨r8, b6, hs⟩ := bind_some hs
 refine pl_call Bd54 rfl (c_laws_eqConstraintS (M := M) a_.2.2 b.2.2 h0 h1 hO.fut b6) ?_
 rintro _ b8 ⟨rfl, a2⟩
 have h0 := h0.ext a2
 have h1 := h1.ext a2
 have a0 := a0.cn a2
 have a1 := a1.cn a2
 have hC := hC.ext a2
 have hO := hO.ext a2
 refine pl_val (.bool (!r8)) (y_not rfl) ?_
 refine c_nil ?_
 have hO := hO.drop
 have hO := hO.drop
 rcases bif_some hs with ⟨a9, hs⟩ | ⟨a9, hs⟩
 ·refine c_condT (congrArg Value.bool a9) ?_
  refine c_sr ?_
  refine pl_val (.bool false) (y_assign rfl) ?_
  refine c_nil ?_
  refine wp_ret ?_
  cases hs
  exact ⟨_, fr_ovl 21 ⟨rfl, trivial⟩, hC⟩
 refine c_condF (congrArg Value.bool a9) ?_
 refine wp_skip ?_
 refine c_sr ?_
 refine pl_val (.bool true) (y_assign rfl) ?_
 refine c_nil ?_
 refine wp_ret ?_
 cases hs
 exact ⟨_, fr_ovl 21 ⟨rfl, trivial⟩, hC⟩

def k_laws_eqRelationS (M : Nat → Prop) (w0 : World) (r : Bool) (a : Act) (w : World) : Prop :=
  ∃ (σ : Nat → Value) , a = fr 27 (ovl σ [(4, (.bool r))]) ∧ Chg [] w0 w
def s_laws_eqRelationS (a_ : List (Int × (List (List Int)))) (b : List (Int × (List (List Int)))) : Option (Bool) :=
  (bif ((a_.length : Int) != (b.length : Int)) then some false else (forC (S := Unit) (R := Bool) (fun k18 s16 =>
  (idx a_ k18).bind fun x23 =>
  (idx b k18).bind fun x27 =>
  (s_laws_eqRelation (x23.1, x23.2) (x27.1, x27.2)).bind fun r32 =>
  (bif (!r32) then some (.rt false) else some (.nx ()))) 0 (a_.length : Int) ()).bind fun o20 => after o20 (fun r_ => some r_) (fun s16 =>
  some true))
set_option maxHeartbeats 4000000 in
theorem c_laws_eqRelationS {M : Nat → Prop} {w : World} {pa0 : Option Addr} {pn0 pc0 : Nat} {pa1 : Option Addr} {pn1 pc1 : Nat} (a_ : List (Int × (List (List Int)))) (b : List (Int × (List (List Int)))) (h0 : (RT.rs (RT.pr (RT.int .i64) (RT.rs (RT.rs (RT.int .i64))))).val M w (.slice pa0 pn0 pc0) a_ ([])) (h1 : (RT.rs (RT.pr (RT.int .i64) (RT.rs (RT.rs (RT.int .i64))))).val M w (.slice pa1 pn1 pc1) b ([])) (hM : ∀ g, w.heap.size ≤ g → M g) {r : Bool} (hs : s_laws_eqRelationS a_ b = some r) :
    Gives Try.prog 20 [(.slice pa0 pn0 pc0), (.slice pa1 pn1 pc1)] w (fun v w' => v = (.bool r) ∧ Chg [] w w') := by
 refine calls_fr Try.func20 rfl Try.ntmps20 (Nat.le_of_ble_eq_true rfl) ?_
 have hO := Own.start (N := Nw w []) hM Nw.fut
 have hC := Chg.refl [] w
 unfold s_laws_eqRelationS at hs
 refine wp_mono (Q := KPost (k_laws_eqRelationS M w r)) ?_ (fun e a a7 h => ?_)
 rotate_left
 ·cases e
  case ret =>
   obtain ⟨σ, rfl, hrest⟩ := h
   exact ret1x Try.results20 (res_tmp rfl) ⟨rfl, hrest⟩
  all_goals exact (h : False).elim
 refine c_sr ?_
 refine pl_val (.bool false) (y_assign rfl) ?_
 refine c_nil ?_
 refine c_seq ?_
 refine c_sr ?_
 refine pl_val (.slice pa0 pn0 pc0) (y_move rfl) ?_
 refine pl_val (.int .i64 (a_.length : Int)) (y_len' Sl37 (rs_len h0) rfl) ?_
 refine pl_val (.slice pa1 pn1 pc1) (y_move rfl) ?_
 refine pl_val (.int .i64 (b.length : Int)) (y_len' Sl37 (rs_len h1) rfl) ?_
 refine pl_val (.bool ((a_.length : Int) != (b.length : Int))) (y_neq rfl rfl) ?_
 refine c_nil ?_
 rcases bif_some hs with ⟨a3, hs⟩ | ⟨a3, hs⟩
 ·refine c_condT (congrArg Value.bool a3) ?_
  refine c_sr ?_
  refine pl_val (.bool false) (y_assign rfl) ?_
  refine c_nil ?_
  refine wp_ret ?_
  cases hs
  exact ⟨_, fr_ovl 27 ⟨rfl, trivial⟩, hC⟩
 refine c_condF (congrArg Value.bool a3) ?_
 refine wp_skip ?_
 refine c_seq ?_
 refine c_sr ?_
 refine pl_val (.int .i64 0) (y_assign rfl) ?_
 refine c_nil ?_
 obtain ⟨o20, a8, hs⟩ := bind_some hs
 refine wp_block ?_
 refine wp_forC (id := 0) (a_.length : Int) (I := fun k18 s16 a a0 => ∃ (σ : Nat → Value), a = fr 27 (ovl σ [(0, (.slice pa0 pn0 pc0)), (1, (.slice pa1 pn1 pc1)), (5, (.int .i64 k18))]) ∧ Chg [] w a0 ∧ Own (Nw w []) M a0 ([]) ∧ (RT.rs (RT.pr (RT.int .i64) (RT.rs (RT.rs (RT.int .i64))))).val M a0 (.slice pa0 pn0 pc0) a_ ([]) ∧ (RT.rs (RT.pr (RT.int .i64) (RT.rs (RT.rs (RT.int .i64))))).val M a0 (.slice pa1 pn1 pc1) b ([])) (J := fun s16 a a0 => ∃ (σ : Nat → Value), a = fr 27 (ovl σ []) ∧ Chg [] w a0 ∧ Own (Nw w []) M a0 ([]) ∧ (RT.rs (RT.pr (RT.int .i64) (RT.rs (RT.rs (RT.int .i64))))).val M a0 (.slice pa0 pn0 pc0) a_ ([]) ∧ (RT.rs (RT.pr (RT.int .i64) (RT.rs (RT.rs (RT.int .i64))))).val M a0 (.slice pa1 pn1 pc1) b ([])) (K := (k_laws_eqRelationS M w)) ?_ ?_ 0 () o20 _ _ ?_ a8 ?_
 ·rintro k18 s16 a a0 ⟨σ, rfl, hC, hO, h0, h1⟩ hlt
  refine c_seq ?_
  refine c_sr ?_
  refine pl_val (.int .i64 k18) (y_move rfl) ?_
  refine pl_val (.slice pa0 pn0 pc0) (y_move rfl) ?_
  refine pl_val (.int .i64 (a_.length : Int)) (y_len' Sl37 (rs_len h0) rfl) ?_
  refine pl_val (.bool (decide (k18 < (a_.length : Int)))) (y_lss rfl rfl) ?_
  refine c_nil ?_
  refine c_condF (congrArg Value.bool (decide_eq_false hlt)) ?_
  refine wp_exit ?_
  exact ⟨rfl, _, fr_ovl 27 trivial, hC, hO, h0, h1⟩
 ·rintro k18 s16 o20 a a0 ⟨σ, rfl, hC, hO, h0, h1⟩ hlt hw hs
  refine c_seq ?_
  refine c_sr ?_
  refine pl_val (.int .i64 k18) (y_move rfl) ?_
  refine pl_val (.slice pa0 pn0 pc0) (y_move rfl) ?_
  refine pl_val (.int .i64 (a_.length : Int)) (y_len' Sl37 (rs_len h0) rfl) ?_
  refine pl_val (.bool (decide (k18 < (a_.length : Int)))) (y_lss rfl rfl) ?_
  refine c_nil ?_
  refine c_condT (congrArg Value.bool (decide_eq_true hlt)) ?_
  refine wp_skip ?_
  refine c_seq ?_
  refine wp_block ?_
  refine c_seq ?_
  refine x_start [] Mx rfl ?_
  have a2 := Chg.drew a0
  generalize World.drew a0 = a9 at a2 ⊢
  have h0 := h0.ext a2
  have h1 := h1.ext a2
  have hC := hC.ext a2
  have hO := hO.ext a2
  have hS := Chg.refl [] a9
  refine x_p 0 (.slice pa0 pn0 pc0) rfl (by kernel_rfl)  (fun _ => y_move rfl) (fun _ => hS) ?_
  refine x_p 1 (.int .i64 k18) rfl (by kernel_rfl)  (fun _ => y_move rfl) (fun _ => hS) ?_
  obtain ⟨x23, b0, hs⟩ := bind_some hs
  obtain ⟨b1, b2, b3, b4⟩ := rs_idx Sl37 Sz54 h0 b0
  refine x_p 2 (.pointer (some ⟨b1, b2, none⟩)) rfl (by kernel_rfl)  (fun _ => b3 _ _ _ _ _ _ _ _ _ rfl rfl) (fun _ => hS) ?_
  obtain ⟨d8, b5, b6⟩ := at_load Ag54 Sz54 (by intro h; cases h) b4
  obtain ⟨d9, rfl, b7⟩ := b6
  obtain ⟨e0, e1, rfl, b8, b9⟩ := pr_open b7
  obtain rfl := int_rel b8
  obtain ⟨c0, c1, c2, rfl, a4⟩ := rs_rel b9
  refine x_l 3 (.agg #[(.int .i64 x23.1), (.slice c0 c1 c2)]) rfl (by kernel_rfl)  (fun w' hw' => y_load rfl (b5 w' hw')) hS ?_
  refine x_p 4 (.slice pa1 pn1 pc1) rfl (by kernel_rfl)  (fun _ => y_move rfl) (fun _ => hS) ?_
  refine x_p 5 (.int .i64 k18) rfl (by kernel_rfl)  (fun _ => y_move rfl) (fun _ => hS) ?_
  obtain ⟨x27, c3, hs⟩ := bind_some hs
  obtain ⟨c4, c5, c6, c7⟩ := rs_idx Sl37 Sz54 h1 c3
  refine x_p 6 (.pointer (some ⟨c4, c5, none⟩)) rfl (by kernel_rfl)  (fun _ => c6 _ _ _ _ _ _ _ _ _ rfl rfl) (fun _ => hS) ?_
  obtain ⟨e2, c8, c9⟩ := at_load Ag54 Sz54 (by intro h; cases h) c7
  obtain ⟨e3, rfl, d0⟩ := c9
  obtain ⟨e4, e5, rfl, d1, d2⟩ := pr_open d0
  obtain rfl := int_rel d1
  obtain ⟨d3, d4, d5, rfl, a5⟩ := rs_rel d2
  refine x_l 7 (.agg #[(.int .i64 x27.1), (.slice d3 d4 d5)]) rfl (by kernel_rfl)  (fun w' hw' => y_load rfl (c8 w' hw')) hS ?_
  refine x_one (i := 8) (by kernel_rfl) ?_
  obtain ⟨r32, d6, hs⟩ := bind_some hs
  refine xk_call (b := false) rfl  Bd67 rfl (c_laws_eqRelation (M := M) (x23.1, x23.2) (x27.1, x27.2) a4 a5 hO.fut d6) rfl (by rintro _ _ _ ⟨rfl, a1⟩; exact hS.ext a1) ?_
  rintro _ e6 ⟨rfl, a1⟩
  have h0 := h0.ext a1
  have h1 := h1.ext a1
  have a4 := a4.ext a1
  have a5 := a5.ext a1
  have hC := hC.ext a1
  have hO := hO.ext a1
  have hS := hS.ext a1
  refine x_p 9 (.bool (!r32)) rfl (by kernel_rfl)  (fun _ => y_not rfl) (fun _ => hS) ?_
  refine x_end (by kernel_rfl) ?_
  clear hS
  rcases bif_some hs with ⟨a6, hs⟩ | ⟨a6, hs⟩
  ·refine c_condT (congrArg Value.bool a6) ?_
   refine c_sr ?_
   refine pl_val (.bool false) (y_assign rfl) ?_
   refine c_nil ?_
   refine wp_ret ?_
   cases hs
   exact ⟨_, fr_ovl 27 ⟨rfl, trivial⟩, hC⟩
  refine c_condF (congrArg Value.bool a6) ?_
  refine wp_skip ?_
  refine c_region ?_
  refine pl_val (.int .i64 k18) (y_move rfl) ?_
  refine pl_val (.int .i64 (w64 (k18 + 1))) (y_add rfl rfl) ?_
  refine pl_val (.int .i64 (w64 (k18 + 1))) (y_assign rfl) ?_
  refine c_nil ?_
  cases hs
  exact ⟨_, fr_ovl 27 ⟨rfl, rfl, congrArg (Value.int .i64) hw, trivial⟩, hC, hO, h0, h1⟩
 ·skip
  exact ⟨_, fr_ovl 27 ⟨rfl, rfl, rfl, trivial⟩, hC, hO, h0, h1⟩
 cases o20 with
 | nx _ => exact True.intro
 | rt r_ =>
  have hs := after_rt hs
  intro d7 a7 hK
  cases hs
  exact hK
 | br s16 =>
  have hs := after_br hs
  rintro d7 a0 ⟨σ, rfl, hC, hO, h0, h1⟩
  refine c_sr ?_
  refine pl_val (.bool true) (y_assign rfl) ?_
  refine c_nil ?_
  refine wp_ret ?_
  cases hs
  exact ⟨_, fr_ovl 27 ⟨rfl, trivial⟩, hC⟩

def k_laws_markIntS (M : Nat → Prop) (w0 : World) (qa0 : Option Addr) (qn0 qc0 : Nat) (qf0 : List Nat) (r : Int × (List Int)) (a : Act) (w : World) : Prop :=
  ∃ (σ : Nat → Value) (rfi0 : List Nat), a = fr 19 (ovl σ [(4, (.int .i64 r.1))]) ∧ Chg (qf0 ++ ([])) w0 w ∧ (RT.os 3 (RT.int .i64)).val M w (.slice qa0 qn0 qc0) r.2 rfi0 ∧ Own (Nw w0 (qf0 ++ ([]))) (fun _ => True) w (rfi0 ++ ([]))
def s_laws_markIntS (a_ : List Int) (k : Int) : Option (Int × (List Int)) :=
  (iter (S := Int × Int × (List Int)) (R := Int × (List Int)) (fun s25 =>
  (bif (decide (s25.2.1 < (s25.2.2.length : Int))) then (idx s25.2.2 s25.2.1).bind fun x34 =>
  some (.nx (w64 (s25.1 + 1), w64 (s25.2.1 + 1), List.set s25.2.2 (Int.toNat s25.2.1) s25.1)) else some (.br (s25.1, s25.2.1, s25.2.2)))) FU (k, 0, a_)).bind fun o29 => after o29 (fun r_ => some r_) (fun s25 =>
  some (s25.1, s25.2.2))
set_option maxHeartbeats 4000000 in
theorem c_laws_markIntS {M : Nat → Prop} {w : World} {pa0 : Option Addr} {pn0 pc0 : Nat} {pf0 : List Nat} (a_ : List Int) (k : Int) (h0 : (RT.os 3 (RT.int .i64)).val M w (.slice pa0 pn0 pc0) a_ pf0) (hI : Own (Nw w (pf0 ++ ([]))) M w (pf0 ++ ([]))) (hM : ∀ g, w.heap.size ≤ g → M g) {r : Int × (List Int)} (hs : s_laws_markIntS a_ k = some r) :
    Gives Try.prog 33 [(.slice pa0 pn0 pc0), (.int .i64 k)] w (fun v w' => ∃ (rfi0 : List Nat), v = (.int .i64 r.1) ∧ Chg (pf0 ++ ([])) w w' ∧ (RT.os 3 (RT.int .i64)).val M w' (.slice pa0 pn0 pc0) r.2 rfi0 ∧ Own (Nw w (pf0 ++ ([]))) (fun _ => True) w' (rfi0 ++ ([]))) := by
 refine calls_fr Try.func33 rfl Try.ntmps33 (Nat.le_of_ble_eq_true rfl) ?_
 have hO := hI
 have hC := Chg.refl (pf0 ++ ([])) w
 unfold s_laws_markIntS at hs
 refine wp_mono (Q := KPost (k_laws_markIntS M w pa0 pn0 pc0 pf0 r)) ?_ (fun e a a9 h => ?_)
 rotate_left
 ·cases e
  case ret =>
   obtain ⟨σ, rfi0, rfl, hrest⟩ := h
   exact ret1x Try.results33 (res_tmp rfl) ⟨rfi0, rfl, hrest⟩
  all_goals exact (h : False).elim
 refine c_sr ?_
 refine pl_val (.int .i64 0) (y_assign rfl) ?_
 refine c_nil ?_
 refine c_seq ?_
 refine c_sr ?_
 refine pl_val (.int .i64 0) (y_assign rfl) ?_
 refine c_nil ?_
 obtain ⟨o29, b0, hs⟩ := bind_some hs
 refine wp_block ?_
 refine wp_iter (id := 0) (I := fun s25 a a0 => ∃ (σ : Nat → Value) (a2 : List Nat), a = fr 19 (ovl σ [(0, (.slice pa0 pn0 pc0)), (1, (.int .i64 s25.1)), (5, (.int .i64 s25.2.1))]) ∧ Chg (pf0 ++ ([])) w a0 ∧ Own (Nw w (pf0 ++ ([]))) M a0 (a2 ++ []) ∧ (RT.os 3 (RT.int .i64)).val M a0 (.slice pa0 pn0 pc0) s25.2.2 a2) (J := fun s25 a a0 => ∃ (σ : Nat → Value) (a3 : List Nat), a = fr 19 (ovl σ [(1, (.int .i64 s25.1))]) ∧ Chg (pf0 ++ ([])) w a0 ∧ Own (Nw w (pf0 ++ ([]))) M a0 (a3 ++ []) ∧ (RT.os 3 (RT.int .i64)).val M a0 (.slice pa0 pn0 pc0) s25.2.2 a3) (K := (k_laws_markIntS M w pa0 pn0 pc0 pf0)) ?_ FU (k, 0, a_) o29 _ _ ?_ b0 ?_
 ·rintro s25 o29 a a0 ⟨σ, a2, rfl, hC, hO, a1⟩ hs
  refine c_seq ?_
  refine c_sr ?_
  refine pl_val (.int .i64 s25.2.1) (y_move rfl) ?_
  refine pl_val (.slice pa0 pn0 pc0) (y_move rfl) ?_
  refine pl_val (.int .i64 (s25.2.2.length : Int)) (y_len' Sl41 (os_len a1) rfl) ?_
  refine pl_val (.bool (decide (s25.2.1 < (s25.2.2.length : Int)))) (y_lss rfl rfl) ?_
  refine c_nil ?_
  rcases bif_some hs with ⟨a4, hs⟩ | ⟨a4, hs⟩
  ·refine c_condT (congrArg Value.bool a4) ?_
   refine wp_skip ?_
   refine c_seq ?_
   refine wp_block ?_
   refine c_sr ?_
   refine pl_val (.slice pa0 pn0 pc0) (y_move rfl) ?_
   refine pl_val (.int .i64 s25.2.1) (y_move rfl) ?_
   refine pl_val (.int .i64 s25.1) (y_move rfl) ?_
   obtain ⟨x34, b1, hs⟩ := bind_some hs
   obtain ⟨a6, c1, a7, b2, b3, c2, c3⟩ := os_idx Sl41 Sz3 a1 b1
   refine pl_val (.pointer (some ⟨a6, 0 + Int.toNat s25.2.1 * 1, none⟩)) (b3 _ _ _ _ _ _ _ _ _ rfl rfl) ?_
   obtain ⟨b4, b5, b6, a8, b7, a5⟩ := os_store (P := Try.prog) (c' := [(.int .i64 s25.1)]) a7 a1 b2 (fun g hg => hO.inM g (os_block a1 g (by simpa using hg))) ⟨rfl, rfl⟩ List.nodup_nil (fun _ h => nomatch h) (fun _ h => .inl h)
   have b8 : ∀ q ∈ [a6], q ∈ a2 := fun q hq => os_block a1 q (by rw [a7]; exact hq)
   refine pl_skip (w' := b4) (ys_store rfl rfl (b6 _ _ rfl Sz3)) ?_
   have hC := hC.st a8 hO b8
   have hO := hO.grow a8 (fun q hq => .inl ((b7 q hq).resolve_right (fun h => nomatch h))) (os_nodup a5) a5.fpl
   refine c_nil ?_
   refine c_region ?_
   refine pl_val (.int .i64 s25.1) (y_move rfl) ?_
   refine pl_val (.int .i64 (w64 (s25.1 + 1))) (y_add rfl rfl) ?_
   refine pl_val (.int .i64 (w64 (s25.1 + 1))) (y_assign rfl) ?_
   refine c_nil ?_
   refine c_region ?_
   refine pl_val (.int .i64 s25.2.1) (y_move rfl) ?_
   refine pl_val (.int .i64 (w64 (s25.2.1 + 1))) (y_add rfl rfl) ?_
   refine pl_val (.int .i64 (w64 (s25.2.1 + 1))) (y_assign rfl) ?_
   refine c_nil ?_
   cases hs
   exact ⟨_, b5, fr_ovl 19 ⟨rfl, rfl, rfl, trivial⟩, hC, hO, a5⟩
  refine c_condF (congrArg Value.bool a4) ?_
  refine wp_exit ?_
  cases hs
  exact ⟨rfl, _, a2, fr_ovl 19 ⟨rfl, trivial⟩, hC, hO, a1⟩
 ·skip
  exact ⟨_, pf0, fr_ovl 19 ⟨rfl, rfl, rfl, trivial⟩, hC, hO, h0⟩
 cases o29 with
 | nx _ => exact True.intro
 | rt r_ =>
  have hs := after_rt hs
  intro b9 a9 hK
  cases hs
  exact hK
 | br s25 =>
  have hs := after_br hs
  rintro b9 a0 ⟨σ, a3, rfl, hC, hO, c0⟩
  refine c_sr ?_
  refine pl_val (.int .i64 s25.1) (y_move rfl) ?_
  refine pl_val (.int .i64 s25.1) (y_assign rfl) ?_
  refine c_nil ?_
  refine wp_ret ?_
  cases hs
  exact ⟨_, a3, fr_ovl 19 ⟨rfl, trivial⟩, hC, c0, hO.top⟩

theorem Bd33 : Bodied Try.prog 33 := bodied Try.func33 (by kernel_rfl) rfl

def k_laws_markIntSS (M : Nat → Prop) (w0 : World) (qa0 : Option Addr) (qn0 qc0 : Nat) (qf0 : List Nat) (r : Int × (List (List Int))) (a : Act) (w : World) : Prop :=
  ∃ (σ : Nat → Value) (rfi0 : List Nat), a = fr 19 (ovl σ [(4, (.int .i64 r.1))]) ∧ Chg (qf0 ++ ([])) w0 w ∧ (RT.os 41 (RT.os 3 (RT.int .i64))).val M w (.slice qa0 qn0 qc0) r.2 rfi0 ∧ Own (Nw w0 (qf0 ++ ([]))) (fun _ => True) w (rfi0 ++ ([]))
def s_laws_markIntSS (a_ : List (List Int)) (k : Int) : Option (Int × (List (List Int))) :=
  (iter (S := Int × Int × (List (List Int))) (R := Int × (List (List Int))) (fun s37 =>
  (bif (decide (s37.2.1 < (s37.2.2.length : Int))) then (idx s37.2.2 s37.2.1).bind fun x46 =>
  (s_laws_markIntS x46 s37.1).bind fun r51 =>
  some (.nx (r51.1, w64 (s37.2.1 + 1), List.set s37.2.2 (Int.toNat s37.2.1) r51.2)) else some (.br (s37.1, s37.2.1, s37.2.2)))) FU (k, 0, a_)).bind fun o41 => after o41 (fun r_ => some r_) (fun s37 =>
  some (s37.1, s37.2.2))
set_option maxHeartbeats 4000000 in
theorem c_laws_markIntSS {M : Nat → Prop} {w : World} {pa0 : Option Addr} {pn0 pc0 : Nat} {pf0 : List Nat} (a_ : List (List Int)) (k : Int) (h0 : (RT.os 41 (RT.os 3 (RT.int .i64))).val M w (.slice pa0 pn0 pc0) a_ pf0) (hI : Own (Nw w (pf0 ++ ([]))) M w (pf0 ++ ([]))) (hM : ∀ g, w.heap.size ≤ g → M g) {r : Int × (List (List Int))} (hs : s_laws_markIntSS a_ k = some r) :
    Gives Try.prog 38 [(.slice pa0 pn0 pc0), (.int .i64 k)] w (fun v w' => ∃ (rfi0 : List Nat), v = (.int .i64 r.1) ∧ Chg (pf0 ++ ([])) w w' ∧ (RT.os 41 (RT.os 3 (RT.int .i64))).val M w' (.slice pa0 pn0 pc0) r.2 rfi0 ∧ Own (Nw w (pf0 ++ ([]))) (fun _ => True) w' (rfi0 ++ ([]))) := by
 refine calls_fr Try.func38 rfl Try.ntmps38 (Nat.le_of_ble_eq_true rfl) ?_
 have hO := hI
 have hC := Chg.refl (pf0 ++ ([])) w
 unfold s_laws_markIntSS at hs
 refine wp_mono (Q := KPost (k_laws_markIntSS M w pa0 pn0 pc0 pf0 r)) ?_ (fun e a b5 h => ?_)
 rotate_left
 ·cases e
  case ret =>
   obtain ⟨σ, rfi0, rfl, hrest⟩ := h
   exact ret1x Try.results38 (res_tmp rfl) ⟨rfi0, rfl, hrest⟩
  all_goals exact (h : False).elim
 refine c_sr ?_
 refine pl_val (.int .i64 0) (y_assign rfl) ?_
 refine c_nil ?_
 refine c_seq ?_
 refine c_sr ?_
 refine pl_val (.int .i64 0) (y_assign rfl) ?_
 refine c_nil ?_
 obtain ⟨o41, b6, hs⟩ := bind_some hs
 refine wp_block ?_
 refine wp_iter (id := 0) (I := fun s37 a a0 => ∃ (σ : Nat → Value) (a1 : List Nat), a = fr 19 (ovl σ [(0, (.slice pa0 pn0 pc0)), (1, (.int .i64 s37.1)), (5, (.int .i64 s37.2.1))]) ∧ Chg (pf0 ++ ([])) w a0 ∧ Own (Nw w (pf0 ++ ([]))) M a0 (a1 ++ []) ∧ (RT.os 41 (RT.os 3 (RT.int .i64))).val M a0 (.slice pa0 pn0 pc0) s37.2.2 a1) (J := fun s37 a a0 => ∃ (σ : Nat → Value) (a3 : List Nat), a = fr 19 (ovl σ [(1, (.int .i64 s37.1))]) ∧ Chg (pf0 ++ ([])) w a0 ∧ Own (Nw w (pf0 ++ ([]))) M a0 (a3 ++ []) ∧ (RT.os 41 (RT.os 3 (RT.int .i64))).val M a0 (.slice pa0 pn0 pc0) s37.2.2 a3) (K := (k_laws_markIntSS M w pa0 pn0 pc0 pf0)) ?_ FU (k, 0, a_) o41 _ _ ?_ b6 ?_
 ·rintro s37 o41 a a0 ⟨σ, a1, rfl, hC, hO, a4⟩ hs
  refine c_seq ?_
  refine c_sr ?_
  refine pl_val (.int .i64 s37.2.1) (y_move rfl) ?_
  refine pl_val (.slice pa0 pn0 pc0) (y_move rfl) ?_
  refine pl_val (.int .i64 (s37.2.2.length : Int)) (y_len' Sl47 (os_len a4) rfl) ?_
  refine pl_val (.bool (decide (s37.2.1 < (s37.2.2.length : Int)))) (y_lss rfl rfl) ?_
  refine c_nil ?_
  rcases bif_some hs with ⟨a5, hs⟩ | ⟨a5, hs⟩
  ·refine c_condT (congrArg Value.bool a5) ?_
   refine wp_skip ?_
   refine c_seq ?_
   refine wp_block ?_
   refine c_region ?_
   refine pl_val (.slice pa0 pn0 pc0) (y_move rfl) ?_
   refine pl_val (.int .i64 s37.2.1) (y_move rfl) ?_
   obtain ⟨x46, a8, hs⟩ := bind_some hs
   obtain ⟨b7, d9, b8, e0, b9, c0, c1⟩ := os_idx Sl47 Sz41 a4 a8
   have c2 := own_row (Frz.os Frz.int) c0 c1
   refine pl_val (.pointer (some ⟨b7, 0 + Int.toNat s37.2.1 * 1, none⟩)) (b9 _ _ _ _ _ _ _ _ _ rfl rfl) ?_
   obtain ⟨e1, c3, hrow48, c4⟩ := at_load1 Ag41 Sz41 rfl rfl c2
   obtain ⟨a9, b0, b1, rfl⟩ := rs_sl c4
   refine pl_val (.slice a9 b0 b1) (y_load rfl (c3 _ (Chg.refl _ _))) ?_
   refine pl_val (.int .i64 s37.1) (y_move rfl) ?_
   obtain ⟨a2, c5, c6, c7, hput50⟩ := os_put b8 a4 a8 hrow48 rfl hO.inM
   have c8 : (RT.os 3 (RT.int .i64)).val M a0 (.slice a9 b0 b1) x46 a2 := ⟨[_], rfl, c5⟩
   have b2 : ∀ q ∈ (a2 ++ ([])), q ∈ a1 := fun q hq => c6 q (by simpa using hq)
   have c9 : List.Nodup (a2 ++ ([])) := by simpa using c7
   have d0 := hO
   have b3 := Own.part (X := (a2 ++ ([]))) (d0) b2 c9
   obtain ⟨r51, d1, hs⟩ := bind_some hs
   refine pl_call Bd33 rfl (c_laws_markIntS (M := M) x46 s37.1 c8 b3 b3.fut d1) ?_
   rintro _ d2 ⟨d3, rfl, a6, d4, b4⟩
   obtain ⟨d5, a7, d6⟩ := hput50 d2 (a2 ++ ([])) r51.2 d3 a6 (fun q hq => by simpa using hq) (os_unval d4) (by simpa using b4.1) (fun q hq => (b4.2.1 q (by simpa using hq)).2.2.imp (fun h => by simpa using h) id)
   have hC := hC.st a6 hO b2
   have hO := hO.grow a6 d6 (os_nodup a7) a7.fpl
   refine pl_val (.int .i64 r51.1) (y_assign rfl) ?_
   refine c_nil ?_
   refine c_region ?_
   refine pl_val (.int .i64 s37.2.1) (y_move rfl) ?_
   refine pl_val (.int .i64 (w64 (s37.2.1 + 1))) (y_add rfl rfl) ?_
   refine pl_val (.int .i64 (w64 (s37.2.1 + 1))) (y_assign rfl) ?_
   refine c_nil ?_
   cases hs
   exact ⟨_, d5, fr_ovl 19 ⟨rfl, rfl, rfl, trivial⟩, hC, hO, a7⟩
  refine c_condF (congrArg Value.bool a5) ?_
  refine wp_exit ?_
  cases hs
  exact ⟨rfl, _, a1, fr_ovl 19 ⟨rfl, trivial⟩, hC, hO, a4⟩
 ·skip
  exact ⟨_, pf0, fr_ovl 19 ⟨rfl, rfl, rfl, trivial⟩, hC, hO, h0⟩
 cases o41 with
 | nx _ => exact True.intro
 | rt r_ =>
  have hs := after_rt hs
  intro d7 b5 hK
  cases hs
  exact hK
 | br s37 =>
  have hs := after_br hs
  rintro d7 a0 ⟨σ, a3, rfl, hC, hO, d8⟩
  refine c_sr ?_
  refine pl_val (.int .i64 s37.1) (y_move rfl) ?_
  refine pl_val (.int .i64 s37.1) (y_assign rfl) ?_
  refine c_nil ?_
  refine wp_ret ?_
  cases hs
  exact ⟨_, a3, fr_ovl 19 ⟨rfl, trivial⟩, hC, d8, hO.top⟩

theorem Bd38 : Bodied Try.prog 38 := bodied Try.func38 (by kernel_rfl) rfl

def k_laws_markRelationS (M : Nat → Prop) (w0 : World) (qa0 : Option Addr) (qn0 qc0 : Nat) (qf0 : List Nat) (r : Int × (List (Int × (List (List Int))))) (a : Act) (w : World) : Prop :=
  ∃ (σ : Nat → Value) (rfi0 : List Nat), a = fr 27 (ovl σ [(4, (.int .i64 r.1))]) ∧ Chg (qf0 ++ ([])) w0 w ∧ (RT.os 54 (RT.pr (RT.int .i64) (RT.os 41 (RT.os 3 (RT.int .i64))))).val M w (.slice qa0 qn0 qc0) r.2 rfi0 ∧ Own (Nw w0 (qf0 ++ ([]))) (fun _ => True) w (rfi0 ++ ([]))
def s_laws_markRelationS (a_ : List (Int × (List (List Int)))) (k : Int) : Option (Int × (List (Int × (List (List Int))))) :=
  (iter (S := Int × Int × (List (Int × (List (List Int))))) (R := Int × (List (Int × (List (List Int))))) (fun s57 =>
  (bif (decide (s57.2.1 < (s57.2.2.length : Int))) then (idx s57.2.2 s57.2.1).bind fun x67 =>
  (idx (List.set s57.2.2 (Int.toNat s57.2.1) (s57.1, x67.2)) s57.2.1).bind fun x71 =>
  (s_laws_markIntSS x71.2 (w64 (s57.1 + 1))).bind fun r77 =>
  some (.nx (r77.1, w64 (s57.2.1 + 1), List.set (List.set s57.2.2 (Int.toNat s57.2.1) (s57.1, x67.2)) (Int.toNat s57.2.1) (x71.1, r77.2))) else some (.br (s57.1, s57.2.1, s57.2.2)))) FU (k, 0, a_)).bind fun o61 => after o61 (fun r_ => some r_) (fun s57 =>
  some (s57.1, s57.2.2))
set_option maxHeartbeats 4000000 in
theorem c_laws_markRelationS {M : Nat → Prop} {w : World} {pa0 : Option Addr} {pn0 pc0 : Nat} {pf0 : List Nat} (a_ : List (Int × (List (List Int)))) (k : Int) (h0 : (RT.os 54 (RT.pr (RT.int .i64) (RT.os 41 (RT.os 3 (RT.int .i64))))).val M w (.slice pa0 pn0 pc0) a_ pf0) (hI : Own (Nw w (pf0 ++ ([]))) M w (pf0 ++ ([]))) (hM : ∀ g, w.heap.size ≤ g → M g) {r : Int × (List (Int × (List (List Int))))} (hs : s_laws_markRelationS a_ k = some r) :
    Gives Try.prog 42 [(.slice pa0 pn0 pc0), (.int .i64 k)] w (fun v w' => ∃ (rfi0 : List Nat), v = (.int .i64 r.1) ∧ Chg (pf0 ++ ([])) w w' ∧ (RT.os 54 (RT.pr (RT.int .i64) (RT.os 41 (RT.os 3 (RT.int .i64))))).val M w' (.slice pa0 pn0 pc0) r.2 rfi0 ∧ Own (Nw w (pf0 ++ ([]))) (fun _ => True) w' (rfi0 ++ ([]))) := by
 refine calls_fr Try.func42 rfl Try.ntmps42 (Nat.le_of_ble_eq_true rfl) ?_
 have hO := hI
 have hC := Chg.refl (pf0 ++ ([])) w
 unfold s_laws_markRelationS at hs
 refine wp_mono (Q := KPost (k_laws_markRelationS M w pa0 pn0 pc0 pf0 r)) ?_ (fun e a c7 h => ?_)
 rotate_left
 ·cases e
  case ret =>
   obtain ⟨σ, rfi0, rfl, hrest⟩ := h
   exact ret1x Try.results42 (res_tmp rfl) ⟨rfi0, rfl, hrest⟩
  all_goals exact (h : False).elim
 refine c_sr ?_
 refine pl_val (.int .i64 0) (y_assign rfl) ?_
 refine c_nil ?_
 refine c_seq ?_
 refine c_sr ?_
 refine pl_val (.int .i64 0) (y_assign rfl) ?_
 refine c_nil ?_
 obtain ⟨o61, c8, hs⟩ := bind_some hs
 refine wp_block ?_
 refine wp_iter (id := 0) (I := fun s57 a a0 => ∃ (σ : Nat → Value) (a1 : List Nat), a = fr 27 (ovl σ [(0, (.slice pa0 pn0 pc0)), (1, (.int .i64 s57.1)), (5, (.int .i64 s57.2.1))]) ∧ Chg (pf0 ++ ([])) w a0 ∧ Own (Nw w (pf0 ++ ([]))) M a0 (a1 ++ []) ∧ (RT.os 54 (RT.pr (RT.int .i64) (RT.os 41 (RT.os 3 (RT.int .i64))))).val M a0 (.slice pa0 pn0 pc0) s57.2.2 a1) (J := fun s57 a a0 => ∃ (σ : Nat → Value) (a4 : List Nat), a = fr 27 (ovl σ [(1, (.int .i64 s57.1))]) ∧ Chg (pf0 ++ ([])) w a0 ∧ Own (Nw w (pf0 ++ ([]))) M a0 (a4 ++ []) ∧ (RT.os 54 (RT.pr (RT.int .i64) (RT.os 41 (RT.os 3 (RT.int .i64))))).val M a0 (.slice pa0 pn0 pc0) s57.2.2 a4) (K := (k_laws_markRelationS M w pa0 pn0 pc0 pf0)) ?_ FU (k, 0, a_) o61 _ _ ?_ c8 ?_
 ·rintro s57 o61 a a0 ⟨σ, a1, rfl, hC, hO, a5⟩ hs
  refine c_seq ?_
  refine c_sr ?_
  refine pl_val (.int .i64 s57.2.1) (y_move rfl) ?_
  refine pl_val (.slice pa0 pn0 pc0) (y_move rfl) ?_
  refine pl_val (.int .i64 (s57.2.2.length : Int)) (y_len' Sl37 (os_len a5) rfl) ?_
  refine pl_val (.bool (decide (s57.2.1 < (s57.2.2.length : Int)))) (y_lss rfl rfl) ?_
  refine c_nil ?_
  rcases bif_some hs with ⟨b1, hs⟩ | ⟨b1, hs⟩
  ·refine c_condT (congrArg Value.bool b1) ?_
   refine wp_skip ?_
   refine c_seq ?_
   refine wp_block ?_
   refine c_sr ?_
   refine pl_val (.slice pa0 pn0 pc0) (y_move rfl) ?_
   refine pl_val (.int .i64 s57.2.1) (y_move rfl) ?_
   refine pl_val (.int .i64 s57.1) (y_move rfl) ?_
   obtain ⟨x67, b5, hs⟩ := bind_some hs
   obtain ⟨a2, h2, c9, h3, d0, d1, d2⟩ := os_idx Sl37 Sz54 a5 b5
   have d3 := own_row (Frz.pr Frz.int (Frz.os (Frz.os Frz.int))) d1 d2
   refine pl_val (.pointer (some ⟨a2, 0 + Int.toNat s57.2.1 * 2, none⟩)) (d0 _ _ _ _ _ _ _ _ _ rfl rfl) ?_
   obtain ⟨h4, _⟩ := pr_at d3
   refine pl_val (.pointer (some ⟨a2, (0 + Int.toNat s57.2.1 * 2) + 0, none⟩)) (y_faddr rfl Fa54x0) ?_
   obtain ⟨b6, h5, d4, h6, d5, h7, d6, d7, h8, d8, b7, d9, hput70⟩ := os_focus c9 a5 b5 hO.inM
   obtain ⟨h9, b8, i0, e0, rfl, rfl, e1, b9⟩ := d7
   obtain ⟨rfl, rfl⟩ := e1
   have i1 := RT.len _ b9
   obtain ⟨b2, c0, a6, e2⟩ := box_store (P := Try.prog) d6 (b6) [(Value.int .i64 x67.1)] (b8 ++ (d4)) [(Value.int .i64 s57.1)] (by simp) rfl (by intro u hu; rw [List.mem_singleton.1 hu]; rfl)
   have e3 : (b6).length = ((0 + Int.toNat s57.2.1 * 2) + 0) := by
    simp only [List.length_append, d5]
    try rfl
   rw [e3] at c0
   have e4 : ∀ q ∈ [a2], M q ∨ (a0).heap.size ≤ q := fun q hq => .inl (by rw [List.mem_singleton.1 hq]; exact hO.inM _ b7)
   obtain ⟨e5, a7, e6⟩ := hput70 b2 [a2] ([(Value.int .i64 s57.1)] ++ b8) (s57.1, x67.2) (([] : List Nat) ++ e0) a6 (fun q hq => .inl (List.mem_singleton.1 hq)) (by simpa using e2) ⟨_, _, _, _, rfl, rfl, ⟨rfl, rfl⟩, (RT.mono _ b9 a6 e4 (fun q hq hq' => d9 (by rw [List.mem_singleton.1 hq] at hq'; simp [hq'])) (fun _ h => .inl h))⟩ d8 (fun q hq => .inl hq)
   refine pl_skip (w' := b2) (ys_store rfl rfl (c0 _ _ rfl Sz3)) ?_
   have e7 : ∀ q ∈ [a2], q ∈ a1 := fun q hq => by rw [List.mem_singleton.1 hq]; exact b7
   have hC := hC.st a6 hO e7
   have hO := hO.grow a6 e6 (os_nodup a7) a7.fpl
   refine c_nil ?_
   refine c_sr ?_
   refine pl_val (.int .i64 s57.1) (y_move rfl) ?_
   refine pl_val (.int .i64 (w64 (s57.1 + 1))) (y_add rfl rfl) ?_
   refine pl_val (.int .i64 (w64 (s57.1 + 1))) (y_assign rfl) ?_
   refine c_nil ?_
   refine c_region ?_
   refine pl_val (.slice pa0 pn0 pc0) (y_move rfl) ?_
   refine pl_val (.int .i64 s57.2.1) (y_move rfl) ?_
   obtain ⟨x71, c1, hs⟩ := bind_some hs
   obtain ⟨c2, i2, e8, i3, e9, f0, f1⟩ := os_idx Sl37 Sz54 a7 c1
   have c3 := own_row (Frz.pr Frz.int (Frz.os (Frz.os Frz.int))) f0 f1
   refine pl_val (.pointer (some ⟨c2, 0 + Int.toNat s57.2.1 * 2, none⟩)) (e9 _ _ _ _ _ _ _ _ _ rfl rfl) ?_
   obtain ⟨_, i4⟩ := pr_at c3
   refine pl_val (.pointer (some ⟨c2, (0 + Int.toNat s57.2.1 * 2) + 1, none⟩)) (y_faddr rfl Fa54x1) ?_
   obtain ⟨i5, hrow74, f2⟩ := at_open c3
   obtain ⟨i6, i7, rfl, f3, f4⟩ := pr_open f2
   obtain rfl := int_rel f3
   obtain ⟨a8, a9, b0, rfl, i9⟩ := rs_rel f4
   refine pl_val (.slice a8 a9 b0) (y_load rfl ((part_load (l1 := [(.int .i64 x71.1)]) (c := [(.slice a8 a9 b0)]) (l2 := []) Ag47 Sz47 hrow74 rfl rfl (fun _ => rfl)) _ (Chg.refl _ _))) ?_
   refine pl_val (.int .i64 (w64 (s57.1 + 1))) (y_move rfl) ?_
   obtain ⟨j0, f5, f6, f7, hput76⟩ := os_put e8 a7 c1 hrow74 rfl hO.inM
   obtain ⟨j1, a3, rfl, f8, f9⟩ := pr_split (c := [(.int .i64 x71.1)]) (d := [(.slice a8 a9 b0)]) f5 rfl
   obtain rfl := int_fp f8
   have g0 : (RT.os 41 (RT.os 3 (RT.int .i64))).val M b2 (.slice a8 a9 b0) x71.2 a3 := ⟨[_], rfl, f9⟩
   have c4 : ∀ q ∈ (a3 ++ ([])), q ∈ e5 := fun q hq => f6 q (by simpa using hq)
   have g1 : List.Nodup (a3 ++ ([])) := by simpa using f7
   have g2 := hO
   have c5 := Own.part (X := (a3 ++ ([]))) (g2) c4 g1
   obtain ⟨r77, g3, hs⟩ := bind_some hs
   refine pl_call Bd38 rfl (c_laws_markIntSS (M := M) x71.2 (w64 (s57.1 + 1)) g0 c5 c5.fut g3) ?_
   rintro _ g4 ⟨g5, rfl, b3, g6, c6⟩
   obtain ⟨g7, b4, g8⟩ := hput76 g4 (a3 ++ ([])) (x71.1, r77.2) (([] : List Nat) ++ g5) b3 (fun q hq => by simpa using hq) ⟨_, _, _, _, rfl, rfl, ⟨rfl, rfl⟩, (os_unval g6)⟩ (by simpa using c6.1) (fun q hq => (c6.2.1 q (by simpa using hq)).2.2.imp (fun h => by simpa using h) id)
   have hC := hC.st b3 hO c4
   have hO := hO.grow b3 g8 (os_nodup b4) b4.fpl
   refine pl_val (.int .i64 r77.1) (y_assign rfl) ?_
   refine c_nil ?_
   refine c_region ?_
   refine pl_val (.int .i64 s57.2.1) (y_move rfl) ?_
   refine pl_val (.int .i64 (w64 (s57.2.1 + 1))) (y_add rfl rfl) ?_
   refine pl_val (.int .i64 (w64 (s57.2.1 + 1))) (y_assign rfl) ?_
   refine c_nil ?_
   cases hs
   exact ⟨_, g7, fr_ovl 27 ⟨rfl, rfl, rfl, trivial⟩, hC, hO, b4⟩
  refine c_condF (congrArg Value.bool b1) ?_
  refine wp_exit ?_
  cases hs
  exact ⟨rfl, _, a1, fr_ovl 27 ⟨rfl, trivial⟩, hC, hO, a5⟩
 ·skip
  exact ⟨_, pf0, fr_ovl 27 ⟨rfl, rfl, rfl, trivial⟩, hC, hO, h0⟩
 cases o61 with
 | nx _ => exact True.intro
 | rt r_ =>
  have hs := after_rt hs
  intro g9 c7 hK
  cases hs
  exact hK
 | br s57 =>
  have hs := after_br hs
  rintro g9 a0 ⟨σ, a4, rfl, hC, hO, h1⟩
  refine c_sr ?_
  refine pl_val (.int .i64 s57.1) (y_move rfl) ?_
  refine pl_val (.int .i64 s57.1) (y_assign rfl) ?_
  refine c_nil ?_
  refine wp_ret ?_
  cases hs
  exact ⟨_, a4, fr_ovl 27 ⟨rfl, trivial⟩, hC, h1, hO.top⟩

def k_laws_markConstraintS (M : Nat → Prop) (w0 : World) (qa0 : Option Addr) (qn0 qc0 : Nat) (qf0 : List Nat) (r : Int × (List ((List Int) × (Int × (List (List Int)))))) (a : Act) (w : World) : Prop :=
  ∃ (σ : Nat → Value) (rfi0 : List Nat), a = fr 36 (ovl σ [(4, (.int .i64 r.1))]) ∧ Chg (qf0 ++ ([])) w0 w ∧ (RT.os 56 (RT.pr (RT.os 3 (RT.int .i64)) (RT.pr (RT.int .i64) (RT.os 41 (RT.os 3 (RT.int .i64)))))).val M w (.slice qa0 qn0 qc0) r.2 rfi0 ∧ Own (Nw w0 (qf0 ++ ([]))) (fun _ => True) w (rfi0 ++ ([]))
def s_laws_markConstraintS (a_ : List ((List Int) × (Int × (List (List Int))))) (k : Int) : Option (Int × (List ((List Int) × (Int × (List (List Int)))))) :=
  (iter (S := Int × Int × (List ((List Int) × (Int × (List (List Int)))))) (R := Int × (List ((List Int) × (Int × (List (List Int)))))) (fun s102 =>
  (bif (decide (s102.2.1 < (s102.2.2.length : Int))) then (idx s102.2.2 s102.2.1).bind fun x111 =>
  (s_laws_markIntS x111.1 s102.1).bind fun r118 =>
  (idx (List.set s102.2.2 (Int.toNat s102.2.1) (r118.2, (x111.2.1, x111.2.2))) s102.2.1).bind fun x119 =>
  (idx (List.set (List.set s102.2.2 (Int.toNat s102.2.1) (r118.2, (x111.2.1, x111.2.2))) (Int.toNat s102.2.1) (x119.1, (r118.1, x119.2.2))) s102.2.1).bind fun x124 =>
  (s_laws_markIntSS x124.2.2 (w64 (r118.1 + 1))).bind fun r132 =>
  some (.nx (r132.1, w64 (s102.2.1 + 1), List.set (List.set (List.set s102.2.2 (Int.toNat s102.2.1) (r118.2, (x111.2.1, x111.2.2))) (Int.toNat s102.2.1) (x119.1, (r118.1, x119.2.2))) (Int.toNat s102.2.1) (x124.1, (x124.2.1, r132.2)))) else some (.br (s102.1, s102.2.1, s102.2.2)))) FU (k, 0, a_)).bind fun o106 => after o106 (fun r_ => some r_) (fun s102 =>
  some (s102.1, s102.2.2))
set_option maxHeartbeats 4000000 in
theorem c_laws_markConstraintS {M : Nat → Prop} {w : World} {pa0 : Option Addr} {pn0 pc0 : Nat} {pf0 : List Nat} (a_ : List ((List Int) × (Int × (List (List Int))))) (k : Int) (h0 : (RT.os 56 (RT.pr (RT.os 3 (RT.int .i64)) (RT.pr (RT.int .i64) (RT.os 41 (RT.os 3 (RT.int .i64)))))).val M w (.slice pa0 pn0 pc0) a_ pf0) (hI : Own (Nw w (pf0 ++ ([]))) M w (pf0 ++ ([]))) (hM : ∀ g, w.heap.size ≤ g → M g) {r : Int × (List ((List Int) × (Int × (List (List Int)))))} (hs : s_laws_markConstraintS a_ k = some r) :
    Gives Try.prog 84 [(.slice pa0 pn0 pc0), (.int .i64 k)] w (fun v w' => ∃ (rfi0 : List Nat), v = (.int .i64 r.1) ∧ Chg (pf0 ++ ([])) w w' ∧ (RT.os 56 (RT.pr (RT.os 3 (RT.int .i64)) (RT.pr (RT.int .i64) (RT.os 41 (RT.os 3 (RT.int .i64)))))).val M w' (.slice pa0 pn0 pc0) r.2 rfi0 ∧ Own (Nw w (pf0 ++ ([]))) (fun _ => True) w' (rfi0 ++ ([]))) := by
 refine calls_fr Try.func84 rfl Try.ntmps84 (Nat.le_of_ble_eq_true rfl) ?_
 have hO := hI
 have hC := Chg.refl (pf0 ++ ([])) w
 unfold s_laws_markConstraintS at hs
 refine wp_mono (Q := KPost (k_laws_markConstraintS M w pa0 pn0 pc0 pf0 r)) ?_ (fun e a f8 h => ?_)
 rotate_left
 ·cases e
  case ret =>
   obtain ⟨σ, rfi0, rfl, hrest⟩ := h
   exact ret1x Try.results84 (res_tmp rfl) ⟨rfi0, rfl, hrest⟩
  all_goals exact (h : False).elim
 refine c_sr ?_
 refine pl_val (.int .i64 0) (y_assign rfl) ?_
 refine c_nil ?_
 refine c_seq ?_
 refine c_sr ?_
 refine pl_val (.int .i64 0) (y_assign rfl) ?_
 refine c_nil ?_
 obtain ⟨o106, f9, hs⟩ := bind_some hs
 refine wp_block ?_
 refine wp_iter (id := 0) (I := fun s102 a a0 => ∃ (σ : Nat → Value) (a4 : List Nat), a = fr 36 (ovl σ [(0, (.slice pa0 pn0 pc0)), (1, (.int .i64 s102.1)), (5, (.int .i64 s102.2.1))]) ∧ Chg (pf0 ++ ([])) w a0 ∧ Own (Nw w (pf0 ++ ([]))) M a0 (a4 ++ []) ∧ (RT.os 56 (RT.pr (RT.os 3 (RT.int .i64)) (RT.pr (RT.int .i64) (RT.os 41 (RT.os 3 (RT.int .i64)))))).val M a0 (.slice pa0 pn0 pc0) s102.2.2 a4) (J := fun s102 a a0 => ∃ (σ : Nat → Value) (a9 : List Nat), a = fr 36 (ovl σ [(1, (.int .i64 s102.1))]) ∧ Chg (pf0 ++ ([])) w a0 ∧ Own (Nw w (pf0 ++ ([]))) M a0 (a9 ++ []) ∧ (RT.os 56 (RT.pr (RT.os 3 (RT.int .i64)) (RT.pr (RT.int .i64) (RT.os 41 (RT.os 3 (RT.int .i64)))))).val M a0 (.slice pa0 pn0 pc0) s102.2.2 a9) (K := (k_laws_markConstraintS M w pa0 pn0 pc0 pf0)) ?_ FU (k, 0, a_) o106 _ _ ?_ f9 ?_
 ·rintro s102 o106 a a0 ⟨σ, a4, rfl, hC, hO, b0⟩ hs
  refine c_seq ?_
  refine c_sr ?_
  refine pl_val (.int .i64 s102.2.1) (y_move rfl) ?_
  refine pl_val (.slice pa0 pn0 pc0) (y_move rfl) ?_
  refine pl_val (.int .i64 (s102.2.2.length : Int)) (y_len' Sl28 (os_len b0) rfl) ?_
  refine pl_val (.bool (decide (s102.2.1 < (s102.2.2.length : Int)))) (y_lss rfl rfl) ?_
  refine c_nil ?_
  rcases bif_some hs with ⟨c1, hs⟩ | ⟨c1, hs⟩
  ·refine c_condT (congrArg Value.bool c1) ?_
   refine wp_skip ?_
   refine c_seq ?_
   refine wp_block ?_
   refine c_sr ?_
   refine pl_val (.slice pa0 pn0 pc0) (y_move rfl) ?_
   refine pl_val (.int .i64 s102.2.1) (y_move rfl) ?_
   obtain ⟨x111, d4, hs⟩ := bind_some hs
   obtain ⟨d5, m9, g0, n0, g1, g2, g3⟩ := os_idx Sl28 Sz56 b0 d4
   have d6 := own_row (Frz.pr (Frz.os Frz.int) (Frz.pr Frz.int (Frz.os (Frz.os Frz.int)))) g2 g3
   refine pl_val (.pointer (some ⟨d5, 0 + Int.toNat s102.2.1 * 3, none⟩)) (g1 _ _ _ _ _ _ _ _ _ rfl rfl) ?_
   obtain ⟨n1, _⟩ := pr_at d6
   refine pl_val (.pointer (some ⟨d5, (0 + Int.toNat s102.2.1 * 3) + 0, none⟩)) (y_faddr rfl Fa56x0) ?_
   obtain ⟨n2, hrow114, g4⟩ := at_open d6
   obtain ⟨n3, n4, rfl, g5, g6⟩ := pr_open g4
   obtain ⟨b1, b2, b3, rfl, n5⟩ := rs_rel g5
   obtain ⟨n6, n7, rfl, g7, g8⟩ := pr_open g6
   obtain rfl := int_rel g7
   obtain ⟨c2, c3, c4, rfl, n8⟩ := rs_rel g8
   refine pl_val (.slice b1 b2 b3) (y_load rfl ((part_load (l1 := []) (c := [(.slice b1 b2 b3)]) (l2 := [(.int .i64 x111.2.1), (.slice c2 c3 c4)]) Ag41 Sz41 hrow114 rfl rfl (fun _ => rfl)) _ (Chg.refl _ _))) ?_
   refine pl_val (.int .i64 s102.1) (y_move rfl) ?_
   obtain ⟨n9, g9, h1, c5, hput117⟩ := os_put g0 b0 d4 hrow114 rfl hO.inM
   obtain ⟨a1, o0, rfl, h2, h3⟩ := pr_split (c := [(.slice b1 b2 b3)]) (d := [(.int .i64 x111.2.1), (.slice c2 c3 c4)]) g9 rfl
   obtain ⟨o1, b4, rfl, h4, d7⟩ := pr_split (c := [(.int .i64 x111.2.1)]) (d := [(.slice c2 c3 c4)]) h3 rfl
   obtain rfl := int_fp h4
   have h5 : (RT.os 3 (RT.int .i64)).val M a0 (.slice b1 b2 b3) x111.1 a1 := ⟨[_], rfl, h2⟩
   have c6 : ∀ q ∈ (a1 ++ ([])), q ∈ a4 := fun q hq => h1 q (by simp only [List.mem_append, List.not_mem_nil, or_false] at hq; simp [hq])
   have h6 : List.Nodup (a1 ++ ([])) := by simpa using (List.nodup_append.1 (show List.Nodup (a1 ++ b4) by simpa using c5)).1
   have h7 := hO
   have d8 := Own.part (X := (a1 ++ ([]))) (h7) c6 h6
   obtain ⟨r118, h8, hs⟩ := bind_some hs
   refine pl_call Bd33 rfl (c_laws_markIntS (M := M) x111.1 s102.1 h5 d8 d8.fut h8) ?_
   rintro _ d9 ⟨e0, rfl, b5, h9, c7⟩
   obtain ⟨i0, b6, i1⟩ := hput117 d9 (a1 ++ ([])) (r118.2, (x111.2.1, x111.2.2)) (e0 ++ (([] : List Nat) ++ b4)) b5 (fun q hq => by simp only [List.mem_append, List.not_mem_nil, or_false] at hq; simp [hq]) ⟨_, _, _, _, rfl, rfl, (os_unval h9), ⟨_, _, _, _, rfl, rfl, ⟨rfl, rfl⟩, (RT.mono _ d7 b5 (fun q hq => .inl (hO.inM q (c6 q hq))) (fun q hq hq' => (fun A B (hd : (A ++ B).Nodup) (ha : q ∈ A) (hb : q ∈ B) => (List.nodup_append.1 hd).2.2 q ha q hb rfl) a1 b4 (by simpa using c5) (by simpa using hq) hq') (fun _ h => .inl h))⟩⟩ (by simpa using nd_first (X := a1) (X' := e0) (s := (a0).heap.size) (show List.Nodup (a1 ++ b4) by simpa using c5) (by simpa using c7.1) (fun q hq => (c7.2.1 q (by simpa using hq)).2.2.imp (fun h => by simpa using h) id) (fun q hq => RT.fpl _ d7 q hq)) (fun q hq => by simp only [List.mem_append, List.not_mem_nil, or_false, false_or] at hq ⊢; rcases hq with hq | hq <;> first | exact .inl (by simp [hq]) | exact ((fun q hq => (c7.2.1 q (by simpa using hq)).2.2.imp (fun h => by simpa using h) id) q hq).imp (fun h => by simp [h]) id)
   have hC := hC.st b5 hO c6
   have hO := hO.grow b5 i1 (os_nodup b6) b6.fpl
   refine pl_val (.int .i64 r118.1) (y_assign rfl) ?_
   refine c_nil ?_
   refine c_sr ?_
   refine pl_val (.slice pa0 pn0 pc0) (y_move rfl) ?_
   refine pl_val (.int .i64 s102.2.1) (y_move rfl) ?_
   refine pl_val (.int .i64 r118.1) (y_move rfl) ?_
   obtain ⟨x119, e1, hs⟩ := bind_some hs
   obtain ⟨a3, o2, i2, o3, i3, i4, i5⟩ := os_idx Sl28 Sz56 b6 e1
   have i6 := own_row (Frz.pr (Frz.os Frz.int) (Frz.pr Frz.int (Frz.os (Frz.os Frz.int)))) i4 i5
   refine pl_val (.pointer (some ⟨a3, 0 + Int.toNat s102.2.1 * 3, none⟩)) (i3 _ _ _ _ _ _ _ _ _ rfl rfl) ?_
   obtain ⟨_, i7⟩ := pr_at i6
   refine pl_val (.pointer (some ⟨a3, (0 + Int.toNat s102.2.1 * 3) + 1, none⟩)) (y_faddr rfl Fa56x1) ?_
   obtain ⟨o4, _⟩ := pr_at i7
   refine pl_val (.pointer (some ⟨a3, ((0 + Int.toNat s102.2.1 * 3) + 1) + 0, none⟩)) (y_faddr rfl Fa54x0) ?_
   obtain ⟨e2, o5, i9, o6, j0, o7, j1, j2, o8, j3, e3, e4, hput123⟩ := os_focus i2 b6 e1 hO.inM
   obtain ⟨c8, o9, j4, p0, rfl, rfl, e5, j5⟩ := j2
   obtain ⟨p1, e6, p2, j6, rfl, rfl, j7, e7⟩ := j5
   obtain ⟨rfl, rfl⟩ := j7
   have j8 := RT.len _ e5
   have p3 := RT.len _ e7
   obtain ⟨b7, e8, a5, j9⟩ := box_store (P := Try.prog) j1 (e2 ++ c8) [(Value.int .i64 x119.2.1)] (e6 ++ (i9)) [(Value.int .i64 r118.1)] (by simp) rfl (by intro u hu; rw [List.mem_singleton.1 hu]; rfl)
   have k0 : (e2 ++ c8).length = (((0 + Int.toNat s102.2.1 * 3) + 1) + 0) := by
    simp only [List.length_append, j0, j8]
    try rfl
   rw [k0] at e8
   have e9 : ∀ q ∈ [a3], M q ∨ (d9).heap.size ≤ q := fun q hq => .inl (by rw [List.mem_singleton.1 hq]; exact hO.inM _ e3)
   obtain ⟨k1, b8, k2⟩ := hput123 b7 [a3] (c8 ++ ([(Value.int .i64 r118.1)] ++ e6)) (x119.1, (r118.1, x119.2.2)) (j4 ++ (([] : List Nat) ++ j6)) a5 (fun q hq => .inl (List.mem_singleton.1 hq)) (by simpa using j9) ⟨_, _, _, _, rfl, rfl, (RT.mono _ e5 a5 e9 (fun q hq hq' => e4 (by rw [List.mem_singleton.1 hq] at hq'; simp [hq'])) (fun _ h => .inl h)), ⟨_, _, _, _, rfl, rfl, ⟨rfl, rfl⟩, (RT.mono _ e7 a5 e9 (fun q hq hq' => e4 (by rw [List.mem_singleton.1 hq] at hq'; simp [hq'])) (fun _ h => .inl h))⟩⟩ j3 (fun q hq => .inl hq)
   refine pl_skip (w' := b7) (ys_store rfl rfl (e8 _ _ rfl Sz3)) ?_
   have k3 : ∀ q ∈ [a3], q ∈ i0 := fun q hq => by rw [List.mem_singleton.1 hq]; exact e3
   have hC := hC.st a5 hO k3
   have hO := hO.grow a5 k2 (os_nodup b8) b8.fpl
   refine c_nil ?_
   refine c_sr ?_
   refine pl_val (.int .i64 r118.1) (y_move rfl) ?_
   refine pl_val (.int .i64 (w64 (r118.1 + 1))) (y_add rfl rfl) ?_
   refine pl_val (.int .i64 (w64 (r118.1 + 1))) (y_assign rfl) ?_
   refine c_nil ?_
   refine c_region ?_
   refine pl_val (.slice pa0 pn0 pc0) (y_move rfl) ?_
   refine pl_val (.int .i64 s102.2.1) (y_move rfl) ?_
   obtain ⟨x124, f0, hs⟩ := bind_some hs
   obtain ⟨c9, p4, k4, p5, k5, k6, k7⟩ := os_idx Sl28 Sz56 b8 f0
   have f1 := own_row (Frz.pr (Frz.os Frz.int) (Frz.pr Frz.int (Frz.os (Frz.os Frz.int)))) k6 k7
   refine pl_val (.pointer (some ⟨c9, 0 + Int.toNat s102.2.1 * 3, none⟩)) (k5 _ _ _ _ _ _ _ _ _ rfl rfl) ?_
   obtain ⟨_, k8⟩ := pr_at f1
   refine pl_val (.pointer (some ⟨c9, (0 + Int.toNat s102.2.1 * 3) + 1, none⟩)) (y_faddr rfl Fa56x1) ?_
   obtain ⟨_, p6⟩ := pr_at k8
   refine pl_val (.pointer (some ⟨c9, ((0 + Int.toNat s102.2.1 * 3) + 1) + 1, none⟩)) (y_faddr rfl Fa54x1) ?_
   obtain ⟨p7, hrow128, k9⟩ := at_open f1
   obtain ⟨p8, p9, rfl, l0, l1⟩ := pr_open k9
   obtain ⟨f2, f3, f4, rfl, q0⟩ := rs_rel l0
   obtain ⟨q1, q2, rfl, l2, l3⟩ := pr_open l1
   obtain rfl := int_rel l2
   obtain ⟨a6, a7, a8, rfl, q3⟩ := rs_rel l3
   refine pl_val (.slice a6 a7 a8) (y_load rfl ((part_load (l1 := [(.slice f2 f3 f4), (.int .i64 x124.2.1)]) (c := [(.slice a6 a7 a8)]) (l2 := []) Ag47 Sz47 hrow128 rfl rfl (fun _ => rfl)) _ (Chg.refl _ _))) ?_
   refine pl_val (.int .i64 (w64 (r118.1 + 1))) (y_move rfl) ?_
   obtain ⟨q4, l4, l5, d0, hput131⟩ := os_put k4 b8 f0 hrow128 rfl hO.inM
   obtain ⟨b9, q5, rfl, f5, l6⟩ := pr_split (c := [(.slice f2 f3 f4)]) (d := [(.int .i64 x124.2.1), (.slice a6 a7 a8)]) l4 rfl
   obtain ⟨q6, a2, rfl, l7, l8⟩ := pr_split (c := [(.int .i64 x124.2.1)]) (d := [(.slice a6 a7 a8)]) l6 rfl
   obtain rfl := int_fp l7
   have l9 : (RT.os 41 (RT.os 3 (RT.int .i64))).val M b7 (.slice a6 a7 a8) x124.2.2 a2 := ⟨[_], rfl, l8⟩
   have d1 : ∀ q ∈ (a2 ++ ([])), q ∈ k1 := fun q hq => l5 q (by simp only [List.mem_append, List.not_mem_nil, or_false] at hq; simp [hq])
   have m0 : List.Nodup (a2 ++ ([])) := by simpa using (List.nodup_append.1 (show List.Nodup (b9 ++ a2) by simpa using d0)).2.1
   have m1 := hO
   have f6 := Own.part (X := (a2 ++ ([]))) (m1) d1 m0
   obtain ⟨r132, m2, hs⟩ := bind_some hs
   refine pl_call Bd38 rfl (c_laws_markIntSS (M := M) x124.2.2 (w64 (r118.1 + 1)) l9 f6 f6.fut m2) ?_
   rintro _ m3 ⟨f7, rfl, c0, m4, d2⟩
   obtain ⟨m5, d3, m6⟩ := hput131 m3 (a2 ++ ([])) (x124.1, (x124.2.1, r132.2)) (b9 ++ (([] : List Nat) ++ f7)) c0 (fun q hq => by simp only [List.mem_append, List.not_mem_nil, or_false] at hq; simp [hq]) ⟨_, _, _, _, rfl, rfl, (RT.mono _ f5 c0 (fun q hq => .inl (hO.inM q (d1 q hq))) (fun q hq hq' => (fun A B (hd : (A ++ B).Nodup) (ha : q ∈ A) (hb : q ∈ B) => (List.nodup_append.1 hd).2.2 q ha q hb rfl) b9 a2 (by simpa using d0) hq' (by simpa using hq)) (fun _ h => .inl h)), ⟨_, _, _, _, rfl, rfl, ⟨rfl, rfl⟩, (os_unval m4)⟩⟩ (by simpa using nd_last (X := a2) (X' := f7) (s := (b7).heap.size) (show List.Nodup (b9 ++ a2) by simpa using d0) (by simpa using d2.1) (fun q hq => (d2.2.1 q (by simpa using hq)).2.2.imp (fun h => by simpa using h) id) (fun q hq => RT.fpl _ f5 q hq)) (fun q hq => by simp only [List.mem_append, List.not_mem_nil, or_false, false_or] at hq ⊢; rcases hq with hq | hq <;> first | exact .inl (by simp [hq]) | exact ((fun q hq => (d2.2.1 q (by simpa using hq)).2.2.imp (fun h => by simpa using h) id) q hq).imp (fun h => by simp [h]) id)
   have hC := hC.st c0 hO d1
   have hO := hO.grow c0 m6 (os_nodup d3) d3.fpl
   refine pl_val (.int .i64 r132.1) (y_assign rfl) ?_
   refine c_nil ?_
   refine c_region ?_
   refine pl_val (.int .i64 s102.2.1) (y_move rfl) ?_
   refine pl_val (.int .i64 (w64 (s102.2.1 + 1))) (y_add rfl rfl) ?_
   refine pl_val (.int .i64 (w64 (s102.2.1 + 1))) (y_assign rfl) ?_
   refine c_nil ?_
   cases hs
   exact ⟨_, m5, fr_ovl 36 ⟨rfl, rfl, rfl, trivial⟩, hC, hO, d3⟩
  refine c_condF (congrArg Value.bool c1) ?_
  refine wp_exit ?_
  cases hs
  exact ⟨rfl, _, a4, fr_ovl 36 ⟨rfl, trivial⟩, hC, hO, b0⟩
 ·skip
  exact ⟨_, pf0, fr_ovl 36 ⟨rfl, rfl, rfl, trivial⟩, hC, hO, h0⟩
 cases o106 with
 | nx _ => exact True.intro
 | rt r_ =>
  have hs := after_rt hs
  intro m7 f8 hK
  cases hs
  exact hK
 | br s102 =>
  have hs := after_br hs
  rintro m7 a0 ⟨σ, a9, rfl, hC, hO, m8⟩
  refine c_sr ?_
  refine pl_val (.int .i64 s102.1) (y_move rfl) ?_
  refine pl_val (.int .i64 s102.1) (y_assign rfl) ?_
  refine c_nil ?_
  refine wp_ret ?_
  cases hs
  exact ⟨_, a9, fr_ovl 36 ⟨rfl, trivial⟩, hC, m8, hO.top⟩

theorem Bd84 : Bodied Try.prog 84 := bodied Try.func84 (by kernel_rfl) rfl

def k_laws_markNetwork (M : Nat → Prop) (w0 : World) (qa0 : Option Addr) (qn0 qc0 : Nat) (qf0 : List Nat) (r : Int × (List ((List Int) × (Int × (List (List Int)))))) (a : Act) (w : World) : Prop :=
  ∃ (σ : Nat → Value) (rfi0 : List Nat), a = fr 10 (ovl σ [(4, (.int .i64 r.1))]) ∧ Chg (qf0 ++ ([])) w0 w ∧ (RT.os 56 (RT.pr (RT.os 3 (RT.int .i64)) (RT.pr (RT.int .i64) (RT.os 41 (RT.os 3 (RT.int .i64)))))).val M w (.slice qa0 qn0 qc0) r.2 rfi0 ∧ Own (Nw w0 (qf0 ++ ([]))) (fun _ => True) w (rfi0 ++ ([]))
def s_laws_markNetwork (a_ : Int × Int × (List ((List Int) × (Int × (List (List Int)))))) (k : Int) : Option (Int × (List ((List Int) × (Int × (List (List Int)))))) :=
  (s_laws_markConstraintS a_.2.2 k).bind fun r4 =>
  some (r4.1, r4.2)
set_option maxHeartbeats 4000000 in
theorem c_laws_markNetwork {M : Nat → Prop} {w : World} {pa0 : Option Addr} {pn0 pc0 : Nat} {pf0 : List Nat} (a_ : Int × Int × (List ((List Int) × (Int × (List (List Int)))))) (k : Int) (h0 : (RT.os 56 (RT.pr (RT.os 3 (RT.int .i64)) (RT.pr (RT.int .i64) (RT.os 41 (RT.os 3 (RT.int .i64)))))).val M w (.slice pa0 pn0 pc0) a_.2.2 pf0) (hI : Own (Nw w (pf0 ++ ([]))) M w (pf0 ++ ([]))) (hM : ∀ g, w.heap.size ≤ g → M g) {r : Int × (List ((List Int) × (Int × (List (List Int)))))} (hs : s_laws_markNetwork a_ k = some r) :
    Gives Try.prog 32 [(.agg #[(.int .i64 a_.1), (.int .i64 a_.2.1), (.slice pa0 pn0 pc0)]), (.int .i64 k)] w (fun v w' => ∃ (rfi0 : List Nat), v = (.int .i64 r.1) ∧ Chg (pf0 ++ ([])) w w' ∧ (RT.os 56 (RT.pr (RT.os 3 (RT.int .i64)) (RT.pr (RT.int .i64) (RT.os 41 (RT.os 3 (RT.int .i64)))))).val M w' (.slice pa0 pn0 pc0) r.2 rfi0 ∧ Own (Nw w (pf0 ++ ([]))) (fun _ => True) w' (rfi0 ++ ([]))) := by
 refine calls_fr Try.func32 rfl Try.ntmps32 (Nat.le_of_ble_eq_true rfl) ?_
 have hO := hI
 have hC := Chg.refl (pf0 ++ ([])) w
 unfold s_laws_markNetwork at hs
 refine wp_mono (Q := KPost (k_laws_markNetwork M w pa0 pn0 pc0 pf0 r)) ?_ (fun e a b3 h => ?_)
 rotate_left
 ·cases e
  case ret =>
   obtain ⟨σ, rfi0, rfl, hrest⟩ := h
   exact ret1x Try.results32 (res_tmp rfl) ⟨rfi0, rfl, hrest⟩
  all_goals exact (h : False).elim
 refine c_sr ?_
 obtain ⟨a7, a0, a8, a4, a2, a1⟩ := new_block w [(.int .i64 a_.1), (.int .i64 a_.2.1), (.slice pa0 pn0 pc0)] 30
 refine pl_val (w' := a7) (.pointer (some ⟨a0, 0, none⟩)) (y_box rfl (by rw [a8, a4]; kernel_rfl)) ?_
 have h0 := h0.ext a2
 have hC := hC.ext a2
 have hO := hO.new1 a2 a4 a1.lt
 refine pl_val (.int .i64 0) (y_assign rfl) ?_
 refine c_nil ?_
 refine c_sr ?_
 refine pl_val (.pointer (some ⟨a0, 2, none⟩)) (y_faddr rfl Fa30x2) ?_
 refine pl_val (.slice pa0 pn0 pc0) (y_load rfl ((box_load Ag28 Sz28 a1 [(.int .i64 a_.1), (.int .i64 a_.2.1)] [(.slice pa0 pn0 pc0)] [] rfl rfl (fun _ => rfl)) _ (Chg.refl _ _))) ?_
 refine pl_val (.int .i64 k) (y_move rfl) ?_
 have hO := hO.fr1
 have a9 := hO
 have a5 := Own.lend (F := (pf0 ++ ([]))) (R := ([a0]) ++ ([])) (Own.perm (a9) (by simp))
 obtain ⟨r4, b0, hs⟩ := bind_some hs
 refine pl_call Bd84 rfl (c_laws_markConstraintS (M := M) a_.2.2 k h0 a5 a5.fut b0) ?_
 rintro _ b4 ⟨a6, rfl, a3, b1, b2⟩
 have hO := hO.perm (R := (pf0 ++ ([])) ++ (([a0]) ++ ([]))) (by simp)
 have a1 := a1.ap a3 hO same_ (mem_l (List.mem_singleton.2 rfl))
 have hC := hC.st a3 hO same_
 have hO := Own.join hO a3 b2
 have hO := hO.perm (R := a6 ++ (([a0]) ++ ([]))) (by simp)
 refine pl_val (.int .i64 r4.1) (y_assign rfl) ?_
 refine c_nil ?_
 have hO := hO.fr1
 have hO := hO.drop
 refine c_sr ?_
 refine pl_val (.int .i64 r4.1) (y_move rfl) ?_
 refine pl_val (.int .i64 r4.1) (y_assign rfl) ?_
 refine c_nil ?_
 refine wp_ret ?_
 cases hs
 exact ⟨_, a6, fr_ovl 10 ⟨rfl, trivial⟩, hC, b1, hO.top⟩

def k_laws_heldIntS (M : Nat → Prop) (w0 : World) (r : Int) (a : Act) (w : World) : Prop :=
  ∃ (σ : Nat → Value) , a = fr 21 (ovl σ [(4, (.int .i64 r))]) ∧ Chg [] w0 w
def s_laws_heldIntS (a_ : List Int) (k : Int) : Option (Int) :=
  (forC (S := Int) (R := Int) (fun k7 s5 =>
  (idx a_ k7).bind fun x11 =>
  (bif (x11 != s5) then some (.rt (-1)) else some (.nx (w64 (s5 + 1))))) 0 (a_.length : Int) k).bind fun o9 => after o9 (fun r_ => some r_) (fun s5 =>
  some s5)
set_option maxHeartbeats 4000000 in
theorem c_laws_heldIntS {M : Nat → Prop} {w : World} {pa0 : Option Addr} {pn0 pc0 : Nat} (a_ : List Int) (k : Int) (h0 : (RT.rs (RT.int .i64)).val M w (.slice pa0 pn0 pc0) a_ ([])) (hM : ∀ g, w.heap.size ≤ g → M g) {r : Int} (hs : s_laws_heldIntS a_ k = some r) :
    Gives Try.prog 34 [(.slice pa0 pn0 pc0), (.int .i64 k)] w (fun v w' => v = (.int .i64 r) ∧ Chg [] w w') := by
 refine calls_fr Try.func34 rfl Try.ntmps34 (Nat.le_of_ble_eq_true rfl) ?_
 have hO := Own.start (N := Nw w []) hM Nw.fut
 have hC := Chg.refl [] w
 unfold s_laws_heldIntS at hs
 refine wp_mono (Q := KPost (k_laws_heldIntS M w r)) ?_ (fun e a a2 h => ?_)
 rotate_left
 ·cases e
  case ret =>
   obtain ⟨σ, rfl, hrest⟩ := h
   exact ret1x Try.results34 (res_tmp rfl) ⟨rfl, hrest⟩
  all_goals exact (h : False).elim
 refine c_sr ?_
 refine pl_val (.int .i64 0) (y_assign rfl) ?_
 refine c_nil ?_
 refine c_seq ?_
 refine c_sr ?_
 refine pl_val (.int .i64 0) (y_assign rfl) ?_
 refine c_nil ?_
 obtain ⟨o9, a3, hs⟩ := bind_some hs
 refine wp_block ?_
 refine wp_forC (id := 0) (a_.length : Int) (I := fun k7 s5 a a0 => ∃ (σ : Nat → Value), a = fr 21 (ovl σ [(0, (.slice pa0 pn0 pc0)), (1, (.int .i64 s5)), (5, (.int .i64 k7))]) ∧ Chg [] w a0 ∧ Own (Nw w []) M a0 ([]) ∧ (RT.rs (RT.int .i64)).val M a0 (.slice pa0 pn0 pc0) a_ ([])) (J := fun s5 a a0 => ∃ (σ : Nat → Value), a = fr 21 (ovl σ [(1, (.int .i64 s5))]) ∧ Chg [] w a0 ∧ Own (Nw w []) M a0 ([]) ∧ (RT.rs (RT.int .i64)).val M a0 (.slice pa0 pn0 pc0) a_ ([])) (K := (k_laws_heldIntS M w)) ?_ ?_ 0 k o9 _ _ ?_ a3 ?_
 ·rintro k7 s5 a a0 ⟨σ, rfl, hC, hO, h0⟩ hlt
  refine c_seq ?_
  refine c_sr ?_
  refine pl_val (.int .i64 k7) (y_move rfl) ?_
  refine pl_val (.slice pa0 pn0 pc0) (y_move rfl) ?_
  refine pl_val (.int .i64 (a_.length : Int)) (y_len' Sl41 (rs_len h0) rfl) ?_
  refine pl_val (.bool (decide (k7 < (a_.length : Int)))) (y_lss rfl rfl) ?_
  refine c_nil ?_
  refine c_condF (congrArg Value.bool (decide_eq_false hlt)) ?_
  refine wp_exit ?_
  exact ⟨rfl, _, fr_ovl 21 ⟨rfl, trivial⟩, hC, hO, h0⟩
 ·rintro k7 s5 o9 a a0 ⟨σ, rfl, hC, hO, h0⟩ hlt hw hs
  refine c_seq ?_
  refine c_sr ?_
  refine pl_val (.int .i64 k7) (y_move rfl) ?_
  refine pl_val (.slice pa0 pn0 pc0) (y_move rfl) ?_
  refine pl_val (.int .i64 (a_.length : Int)) (y_len' Sl41 (rs_len h0) rfl) ?_
  refine pl_val (.bool (decide (k7 < (a_.length : Int)))) (y_lss rfl rfl) ?_
  refine c_nil ?_
  refine c_condT (congrArg Value.bool (decide_eq_true hlt)) ?_
  refine wp_skip ?_
  refine c_seq ?_
  refine wp_block ?_
  refine c_seq ?_
  refine c_sr ?_
  refine pl_val (.slice pa0 pn0 pc0) (y_move rfl) ?_
  refine pl_val (.int .i64 k7) (y_move rfl) ?_
  obtain ⟨x11, a4, hs⟩ := bind_some hs
  obtain ⟨a5, a6, a7, a8⟩ := rs_idx Sl41 Sz3 h0 a4
  refine pl_val (.pointer (some ⟨a5, a6, none⟩)) (a7 _ _ _ _ _ _ _ _ _ rfl rfl) ?_
  refine pl_val (.int .i64 x11) (y_load rfl ((at_load_int Ag3 Sz3 a8) _ (Chg.refl _ _))) ?_
  refine pl_val (.int .i64 s5) (y_move rfl) ?_
  refine pl_val (.bool (x11 != s5)) (y_neq rfl rfl) ?_
  refine c_nil ?_
  rcases bif_some hs with ⟨a1, hs⟩ | ⟨a1, hs⟩
  ·refine c_condT (congrArg Value.bool a1) ?_
   refine c_sr ?_
   refine pl_val (.int .i64 (-1)) (y_assign rfl) ?_
   refine c_nil ?_
   refine wp_ret ?_
   cases hs
   exact ⟨_, fr_ovl 21 ⟨rfl, trivial⟩, hC⟩
  refine c_condF (congrArg Value.bool a1) ?_
  refine wp_skip ?_
  refine c_region ?_
  refine pl_val (.int .i64 s5) (y_move rfl) ?_
  refine pl_val (.int .i64 (w64 (s5 + 1))) (y_add rfl rfl) ?_
  refine pl_val (.int .i64 (w64 (s5 + 1))) (y_assign rfl) ?_
  refine c_nil ?_
  refine c_region ?_
  refine pl_val (.int .i64 k7) (y_move rfl) ?_
  refine pl_val (.int .i64 (w64 (k7 + 1))) (y_add rfl rfl) ?_
  refine pl_val (.int .i64 (w64 (k7 + 1))) (y_assign rfl) ?_
  refine c_nil ?_
  cases hs
  exact ⟨_, fr_ovl 21 ⟨rfl, rfl, congrArg (Value.int .i64) hw, trivial⟩, hC, hO, h0⟩
 ·skip
  exact ⟨_, fr_ovl 21 ⟨rfl, rfl, rfl, trivial⟩, hC, hO, h0⟩
 cases o9 with
 | nx _ => exact True.intro
 | rt r_ =>
  have hs := after_rt hs
  intro a9 a2 hK
  cases hs
  exact hK
 | br s5 =>
  have hs := after_br hs
  rintro a9 a0 ⟨σ, rfl, hC, hO, h0⟩
  refine c_sr ?_
  refine pl_val (.int .i64 s5) (y_move rfl) ?_
  refine pl_val (.int .i64 s5) (y_assign rfl) ?_
  refine c_nil ?_
  refine wp_ret ?_
  cases hs
  exact ⟨_, fr_ovl 21 ⟨rfl, trivial⟩, hC⟩

theorem Bd34 : Bodied Try.prog 34 := bodied Try.func34 (by kernel_rfl) rfl

def k_laws_heldIntSS (M : Nat → Prop) (w0 : World) (r : Int) (a : Act) (w : World) : Prop :=
  ∃ (σ : Nat → Value) , a = fr 21 (ovl σ [(4, (.int .i64 r))]) ∧ Chg [] w0 w
def s_laws_heldIntSS (a_ : List (List Int)) (k : Int) : Option (Int) :=
  (forC (S := Int) (R := Int) (fun k11 s9 =>
  (idx a_ k11).bind fun x15 =>
  (s_laws_heldIntS x15 s9).bind fun r20 =>
  (bif (decide (r20 < 0)) then some (.rt (-1)) else some (.nx r20))) 0 (a_.length : Int) k).bind fun o13 => after o13 (fun r_ => some r_) (fun s9 =>
  some s9)
set_option maxHeartbeats 4000000 in
theorem c_laws_heldIntSS {M : Nat → Prop} {w : World} {pa0 : Option Addr} {pn0 pc0 : Nat} (a_ : List (List Int)) (k : Int) (h0 : (RT.rs (RT.rs (RT.int .i64))).val M w (.slice pa0 pn0 pc0) a_ ([])) (hM : ∀ g, w.heap.size ≤ g → M g) {r : Int} (hs : s_laws_heldIntSS a_ k = some r) :
    Gives Try.prog 39 [(.slice pa0 pn0 pc0), (.int .i64 k)] w (fun v w' => v = (.int .i64 r) ∧ Chg [] w w') := by
 refine calls_fr Try.func39 rfl Try.ntmps39 (Nat.le_of_ble_eq_true rfl) ?_
 have hO := Own.start (N := Nw w []) hM Nw.fut
 have hC := Chg.refl [] w
 unfold s_laws_heldIntSS at hs
 refine wp_mono (Q := KPost (k_laws_heldIntSS M w r)) ?_ (fun e a a4 h => ?_)
 rotate_left
 ·cases e
  case ret =>
   obtain ⟨σ, rfl, hrest⟩ := h
   exact ret1x Try.results39 (res_tmp rfl) ⟨rfl, hrest⟩
  all_goals exact (h : False).elim
 refine c_sr ?_
 refine pl_val (.int .i64 0) (y_assign rfl) ?_
 refine c_nil ?_
 refine c_seq ?_
 refine c_sr ?_
 refine pl_val (.int .i64 0) (y_assign rfl) ?_
 refine c_nil ?_
 obtain ⟨o13, a5, hs⟩ := bind_some hs
 refine wp_block ?_
 refine wp_forC (id := 0) (a_.length : Int) (I := fun k11 s9 a a0 => ∃ (σ : Nat → Value), a = fr 21 (ovl σ [(0, (.slice pa0 pn0 pc0)), (1, (.int .i64 s9)), (5, (.int .i64 k11))]) ∧ Chg [] w a0 ∧ Own (Nw w []) M a0 ([]) ∧ (RT.rs (RT.rs (RT.int .i64))).val M a0 (.slice pa0 pn0 pc0) a_ ([])) (J := fun s9 a a0 => ∃ (σ : Nat → Value), a = fr 21 (ovl σ [(1, (.int .i64 s9))]) ∧ Chg [] w a0 ∧ Own (Nw w []) M a0 ([]) ∧ (RT.rs (RT.rs (RT.int .i64))).val M a0 (.slice pa0 pn0 pc0) a_ ([])) (K := (k_laws_heldIntSS M w)) ?_ ?_ 0 k o13 _ _ ?_ a5 ?_
 ·rintro k11 s9 a a0 ⟨σ, rfl, hC, hO, h0⟩ hlt
  refine c_seq ?_
  refine c_sr ?_
  refine pl_val (.int .i64 k11) (y_move rfl) ?_
  refine pl_val (.slice pa0 pn0 pc0) (y_move rfl) ?_
  refine pl_val (.int .i64 (a_.length : Int)) (y_len' Sl47 (rs_len h0) rfl) ?_
  refine pl_val (.bool (decide (k11 < (a_.length : Int)))) (y_lss rfl rfl) ?_
  refine c_nil ?_
  refine c_condF (congrArg Value.bool (decide_eq_false hlt)) ?_
  refine wp_exit ?_
  exact ⟨rfl, _, fr_ovl 21 ⟨rfl, trivial⟩, hC, hO, h0⟩
 ·rintro k11 s9 o13 a a0 ⟨σ, rfl, hC, hO, h0⟩ hlt hw hs
  refine c_seq ?_
  refine c_sr ?_
  refine pl_val (.int .i64 k11) (y_move rfl) ?_
  refine pl_val (.slice pa0 pn0 pc0) (y_move rfl) ?_
  refine pl_val (.int .i64 (a_.length : Int)) (y_len' Sl47 (rs_len h0) rfl) ?_
  refine pl_val (.bool (decide (k11 < (a_.length : Int)))) (y_lss rfl rfl) ?_
  refine c_nil ?_
  refine c_condT (congrArg Value.bool (decide_eq_true hlt)) ?_
  refine wp_skip ?_
  refine c_seq ?_
  refine wp_block ?_
  refine c_sr ?_
  refine pl_val (.slice pa0 pn0 pc0) (y_move rfl) ?_
  refine pl_val (.int .i64 k11) (y_move rfl) ?_
  obtain ⟨x15, a6, hs⟩ := bind_some hs
  obtain ⟨a7, a8, a9, b0⟩ := rs_idx Sl47 Sz41 h0 a6
  refine pl_val (.pointer (some ⟨a7, a8, none⟩)) (a9 _ _ _ _ _ _ _ _ _ rfl rfl) ?_
  obtain ⟨b7, b1, a1⟩ := at_load Ag41 Sz41 (fun _ => rfl) b0
  obtain ⟨b2, b3, b4, rfl⟩ := rs_sl a1
  refine pl_val (.slice b2 b3 b4) (y_load rfl (b1 _ (Chg.refl _ _))) ?_
  refine pl_val (.int .i64 s9) (y_move rfl) ?_
  obtain ⟨r20, b5, hs⟩ := bind_some hs
  refine pl_call Bd34 rfl (c_laws_heldIntS (M := M) x15 s9 a1 hO.fut b5) ?_
  rintro _ b8 ⟨rfl, a2⟩
  have h0 := h0.ext a2
  have a1 := a1.ext a2
  have hC := hC.ext a2
  have hO := hO.ext a2
  refine pl_val (.int .i64 r20) (y_assign rfl) ?_
  refine c_nil ?_
  refine c_sr ?_
  refine pl_val (.int .i64 r20) (y_move rfl) ?_
  refine pl_val (.bool (decide (r20 < 0))) (y_lss rfl rfl) ?_
  refine c_nil ?_
  rcases bif_some hs with ⟨a3, hs⟩ | ⟨a3, hs⟩
  ·refine c_condT (congrArg Value.bool a3) ?_
   refine c_sr ?_
   refine pl_val (.int .i64 (-1)) (y_assign rfl) ?_
   refine c_nil ?_
   refine wp_ret ?_
   cases hs
   exact ⟨_, fr_ovl 21 ⟨rfl, trivial⟩, hC⟩
  refine c_condF (congrArg Value.bool a3) ?_
  refine wp_skip ?_
  refine c_region ?_
  refine pl_val (.int .i64 k11) (y_move rfl) ?_
  refine pl_val (.int .i64 (w64 (k11 + 1))) (y_add rfl rfl) ?_
  refine pl_val (.int .i64 (w64 (k11 + 1))) (y_assign rfl) ?_
  refine c_nil ?_
  cases hs
  exact ⟨_, fr_ovl 21 ⟨rfl, rfl, congrArg (Value.int .i64) hw, trivial⟩, hC, hO, h0⟩
 ·skip
  exact ⟨_, fr_ovl 21 ⟨rfl, rfl, rfl, trivial⟩, hC, hO, h0⟩
 cases o13 with
 | nx _ => exact True.intro
 | rt r_ =>
  have hs := after_rt hs
  intro b6 a4 hK
  cases hs
  exact hK
 | br s9 =>
  have hs := after_br hs
  rintro b6 a0 ⟨σ, rfl, hC, hO, h0⟩
  refine c_sr ?_
  refine pl_val (.int .i64 s9) (y_move rfl) ?_
  refine pl_val (.int .i64 s9) (y_assign rfl) ?_
  refine c_nil ?_
  refine wp_ret ?_
  cases hs
  exact ⟨_, fr_ovl 21 ⟨rfl, trivial⟩, hC⟩

theorem Bd39 : Bodied Try.prog 39 := bodied Try.func39 (by kernel_rfl) rfl

end Go.Proofs
