/- What functions of the program compute, as plain functions, and that a call gives just that. Conditions: those named in each theorem. -/
import Derived.Test.YtbicnacclhhlkaaF0
set_option linter.unusedVariables false
namespace Go.Proofs
open Go.G Go.RowKit
set_option maxRecDepth 100000

def k_spec_l1Same (M : Nat → Prop) (w0 : World) (r : Bool) (a : Act) (w : World) : Prop :=
  ∃ (σ : Nat → Value) , a = fr 26 (ovl σ [(4, (.bool r))]) ∧ Chg [] w0 w
def s_spec_l1Same (a_ : List Int) (b : List Int) : Option (Bool) :=
  (bif ((a_.length : Int) != (b.length : Int)) then some false else (forC (S := Unit) (R := Bool) (fun k12 s10 =>
  (idx a_ k12).bind fun x17 =>
  (idx b k12).bind fun x19 =>
  (bif (x17 != x19) then some (.rt false) else some (.nx ()))) 0 (a_.length : Int) ()).bind fun o14 => after o14 (fun r_ => some r_) (fun s10 =>
  some true))
set_option maxHeartbeats 4000000 in
theorem c_spec_l1Same {M : Nat → Prop} {w : World} {pa0 : Option Addr} {pn0 pc0 : Nat} {pa1 : Option Addr} {pn1 pc1 : Nat} (a_ : List Int) (b : List Int) (h0 : (RT.rs (RT.int .i64)).val M w (.slice pa0 pn0 pc0) a_ ([])) (h1 : (RT.rs (RT.int .i64)).val M w (.slice pa1 pn1 pc1) b ([])) (hM : ∀ g, w.heap.size ≤ g → M g) {r : Bool} (hs : s_spec_l1Same a_ b = some r) :
    Gives Try.prog 87 [(.slice pa0 pn0 pc0), (.slice pa1 pn1 pc1)] w (fun v w' => v = (.bool r) ∧ Chg [] w w') := by
 refine calls_fr Try.func87 rfl Try.ntmps87 (Nat.le_of_ble_eq_true rfl) ?_
 have hO := Own.start (N := Nw w []) hM Nw.fut
 have hC := Chg.refl [] w
 unfold s_spec_l1Same at hs
 refine wp_mono (Q := KPost (k_spec_l1Same M w r)) ?_ (fun e a a4 h => ?_)
 rotate_left
 ·cases e
  case ret =>
   obtain ⟨σ, rfl, hrest⟩ := h
   exact ret1x Try.results87 (res_tmp rfl) ⟨rfl, hrest⟩
  all_goals exact (h : False).elim
 refine c_sr ?_
 refine pl_val (.bool false) (y_assign rfl) ?_
 refine c_nil ?_
 refine c_seq ?_
 refine c_sr ?_
 refine pl_val (.slice pa0 pn0 pc0) (y_move rfl) ?_
 refine pl_val (.int .i64 (a_.length : Int)) (y_len' Sl41 (rs_len h0) rfl) ?_
 refine pl_val (.slice pa1 pn1 pc1) (y_move rfl) ?_
 refine pl_val (.int .i64 (b.length : Int)) (y_len' Sl41 (rs_len h1) rfl) ?_
 refine pl_val (.bool ((a_.length : Int) != (b.length : Int))) (y_neq rfl rfl) ?_
 refine c_nil ?_
 rcases bif_some hs with ⟨a2, hs⟩ | ⟨a2, hs⟩
 ·refine c_condT (congrArg Value.bool a2) ?_
  refine c_sr ?_
  refine pl_val (.bool false) (y_assign rfl) ?_
  refine c_nil ?_
  refine wp_ret ?_
  cases hs
  exact ⟨_, fr_ovl 26 ⟨rfl, trivial⟩, hC⟩
 refine c_condF (congrArg Value.bool a2) ?_
 refine wp_skip ?_
 refine c_seq ?_
 refine c_sr ?_
 refine pl_val (.int .i64 0) (y_assign rfl) ?_
 refine c_nil ?_
 obtain ⟨o14, a5, hs⟩ := bind_some hs
 refine wp_block ?_
 refine wp_forC (id := 0) (a_.length : Int) (I := fun k12 s10 a a0 => ∃ (σ : Nat → Value), a = fr 26 (ovl σ [(0, (.slice pa0 pn0 pc0)), (1, (.slice pa1 pn1 pc1)), (5, (.int .i64 k12))]) ∧ Chg [] w a0 ∧ Own (Nw w []) M a0 ([]) ∧ (RT.rs (RT.int .i64)).val M a0 (.slice pa0 pn0 pc0) a_ ([]) ∧ (RT.rs (RT.int .i64)).val M a0 (.slice pa1 pn1 pc1) b ([])) (J := fun s10 a a0 => ∃ (σ : Nat → Value), a = fr 26 (ovl σ []) ∧ Chg [] w a0 ∧ Own (Nw w []) M a0 ([]) ∧ (RT.rs (RT.int .i64)).val M a0 (.slice pa0 pn0 pc0) a_ ([]) ∧ (RT.rs (RT.int .i64)).val M a0 (.slice pa1 pn1 pc1) b ([])) (K := (k_spec_l1Same M w)) ?_ ?_ 0 () o14 _ _ ?_ a5 ?_
 ·rintro k12 s10 a a0 ⟨σ, rfl, hC, hO, h0, h1⟩ hlt
  refine c_seq ?_
  refine c_sr ?_
  refine pl_val (.int .i64 k12) (y_move rfl) ?_
  refine pl_val (.slice pa0 pn0 pc0) (y_move rfl) ?_
  refine pl_val (.int .i64 (a_.length : Int)) (y_len' Sl41 (rs_len h0) rfl) ?_
  refine pl_val (.bool (decide (k12 < (a_.length : Int)))) (y_lss rfl rfl) ?_
  refine c_nil ?_
  refine c_condF (congrArg Value.bool (decide_eq_false hlt)) ?_
  refine wp_exit ?_
  exact ⟨rfl, _, fr_ovl 26 trivial, hC, hO, h0, h1⟩
 ·rintro k12 s10 o14 a a0 ⟨σ, rfl, hC, hO, h0, h1⟩ hlt hw hs
  refine c_seq ?_
  refine c_sr ?_
  refine pl_val (.int .i64 k12) (y_move rfl) ?_
  refine pl_val (.slice pa0 pn0 pc0) (y_move rfl) ?_
  refine pl_val (.int .i64 (a_.length : Int)) (y_len' Sl41 (rs_len h0) rfl) ?_
  refine pl_val (.bool (decide (k12 < (a_.length : Int)))) (y_lss rfl rfl) ?_
  refine c_nil ?_
  refine c_condT (congrArg Value.bool (decide_eq_true hlt)) ?_
  refine wp_skip ?_
  refine c_seq ?_
  refine wp_block ?_
  refine c_seq ?_
  refine x_start [] Mx rfl ?_
  have a1 := Chg.drew a0
  generalize World.drew a0 = a6 at a1 ⊢
  have h0 := h0.ext a1
  have h1 := h1.ext a1
  have hC := hC.ext a1
  have hO := hO.ext a1
  have hS := Chg.refl [] a6
  refine x_p 0 (.slice pa0 pn0 pc0) rfl (by kernel_rfl)  (fun _ => y_move rfl) (fun _ => hS) ?_
  refine x_p 1 (.int .i64 k12) rfl (by kernel_rfl)  (fun _ => y_move rfl) (fun _ => hS) ?_
  obtain ⟨x17, a7, hs⟩ := bind_some hs
  obtain ⟨a8, a9, b0, b1⟩ := rs_idx Sl41 Sz3 h0 a7
  refine x_p 2 (.pointer (some ⟨a8, a9, none⟩)) rfl (by kernel_rfl)  (fun _ => b0 _ _ _ _ _ _ _ _ _ rfl rfl) (fun _ => hS) ?_
  refine x_l 3 (.int .i64 x17) rfl (by kernel_rfl)  (fun w' hw' => y_load rfl ((at_load_int Ag3 Sz3 b1) w' hw')) hS ?_
  refine x_p 4 (.slice pa1 pn1 pc1) rfl (by kernel_rfl)  (fun _ => y_move rfl) (fun _ => hS) ?_
  refine x_p 5 (.int .i64 k12) rfl (by kernel_rfl)  (fun _ => y_move rfl) (fun _ => hS) ?_
  obtain ⟨x19, b2, hs⟩ := bind_some hs
  obtain ⟨b3, b4, b5, b6⟩ := rs_idx Sl41 Sz3 h1 b2
  refine x_p 6 (.pointer (some ⟨b3, b4, none⟩)) rfl (by kernel_rfl)  (fun _ => b5 _ _ _ _ _ _ _ _ _ rfl rfl) (fun _ => hS) ?_
  refine x_l 7 (.int .i64 x19) rfl (by kernel_rfl)  (fun w' hw' => y_load rfl ((at_load_int Ag3 Sz3 b6) w' hw')) hS ?_
  refine x_p 8 (.bool (x17 != x19)) rfl (by kernel_rfl)  (fun _ => y_neq rfl rfl) (fun _ => hS) ?_
  refine x_end (by kernel_rfl) ?_
  clear hS
  rcases bif_some hs with ⟨a3, hs⟩ | ⟨a3, hs⟩
  ·refine c_condT (congrArg Value.bool a3) ?_
   refine c_sr ?_
   refine pl_val (.bool false) (y_assign rfl) ?_
   refine c_nil ?_
   refine wp_ret ?_
   cases hs
   exact ⟨_, fr_ovl 26 ⟨rfl, trivial⟩, hC⟩
  refine c_condF (congrArg Value.bool a3) ?_
  refine wp_skip ?_
  refine c_region ?_
  refine pl_val (.int .i64 k12) (y_move rfl) ?_
  refine pl_val (.int .i64 (w64 (k12 + 1))) (y_add rfl rfl) ?_
  refine pl_val (.int .i64 (w64 (k12 + 1))) (y_assign rfl) ?_
  refine c_nil ?_
  cases hs
  exact ⟨_, fr_ovl 26 ⟨rfl, rfl, congrArg (Value.int .i64) hw, trivial⟩, hC, hO, h0, h1⟩
 ·skip
  exact ⟨_, fr_ovl 26 ⟨rfl, rfl, rfl, trivial⟩, hC, hO, h0, h1⟩
 cases o14 with
 | nx _ => exact True.intro
 | rt r_ =>
  have hs := after_rt hs
  intro b7 a4 hK
  cases hs
  exact hK
 | br s10 =>
  have hs := after_br hs
  rintro b7 a0 ⟨σ, rfl, hC, hO, h0, h1⟩
  refine c_sr ?_
  refine pl_val (.bool true) (y_assign rfl) ?_
  refine c_nil ?_
  refine wp_ret ?_
  cases hs
  exact ⟨_, fr_ovl 26 ⟨rfl, trivial⟩, hC⟩

theorem Bd87 : Bodied Try.prog 87 := bodied Try.func87 (by kernel_rfl) rfl

def k_spec_l8Find (M : Nat → Prop) (w0 : World) (r : Int × Bool) (a : Act) (w : World) : Prop :=
  ∃ (σ : Nat → Value) , a = fr 40 (ovl σ [(4, (.int .i64 r.1)), (5, (.bool r.2))]) ∧ Chg [] w0 w
def s_spec_l8Find (list : List (List Int)) (t : List Int) : Option (Int × Bool) :=
  (iter (S := Int × Int) (R := Int × Bool) (fun s11 =>
  (bif (decide (s11.1 < s11.2)) then (idx list (w64 (Int.tdiv (w64 (s11.1 + s11.2)) 2))).bind fun x18 =>
  (s_spec_l3Less x18 t).bind fun r23 =>
  (bif r23 then some (.nx (w64 ((w64 (Int.tdiv (w64 (s11.1 + s11.2)) 2)) + 1), s11.2)) else some (.nx (s11.1, w64 (Int.tdiv (w64 (s11.1 + s11.2)) 2)))) else some (.br (s11.1, s11.2)))) FU (0, (list.length : Int))).bind fun o15 => after o15 (fun r_ => some r_) (fun s11 =>
  (bif (decide (s11.1 < (list.length : Int))) then (idx list s11.1).bind fun x26 =>
  (s_spec_l1Same x26 t).bind fun r31 =>
  some (s11.1, r31) else some (s11.1, false)))
set_option maxHeartbeats 4000000 in
theorem c_spec_l8Find {M : Nat → Prop} {w : World} {pa0 : Option Addr} {pn0 pc0 : Nat} {pa1 : Option Addr} {pn1 pc1 : Nat} (list : List (List Int)) (t : List Int) (h0 : (RT.rs (RT.rs (RT.int .i64))).val M w (.slice pa0 pn0 pc0) list ([])) (h1 : (RT.rs (RT.int .i64)).val M w (.slice pa1 pn1 pc1) t ([])) (hM : ∀ g, w.heap.size ≤ g → M g) {r : Int × Bool} (hs : s_spec_l8Find list t = some r) :
    Gives Try.prog 117 [(.slice pa0 pn0 pc0), (.slice pa1 pn1 pc1)] w (fun v w' => v = (.tuple #[(.int .i64 r.1), (.bool r.2)]) ∧ Chg [] w w') := by
 refine calls_fr Try.func117 rfl Try.ntmps117 (Nat.le_of_ble_eq_true rfl) ?_
 have hO := Own.start (N := Nw w []) hM Nw.fut
 have hC := Chg.refl [] w
 unfold s_spec_l8Find at hs
 refine wp_mono (Q := KPost (k_spec_l8Find M w r)) ?_ (fun e a a8 h => ?_)
 rotate_left
 ·cases e
  case ret =>
   obtain ⟨σ, rfl, hrest⟩ := h
   exact ret2x Try.results117 (res_tmp rfl) (res_tmp rfl) ⟨rfl, hrest⟩
  all_goals exact (h : False).elim
 refine c_sr ?_
 refine pl_val (.int .i64 0) (y_assign rfl) ?_
 refine pl_val (.bool false) (y_assign rfl) ?_
 refine c_nil ?_
 refine c_sr ?_
 refine pl_val (.slice pa0 pn0 pc0) (y_move rfl) ?_
 refine pl_val (.int .i64 (list.length : Int)) (y_len' Sl47 (rs_len h0) rfl) ?_
 refine pl_val (.int .i64 0) (y_assign rfl) ?_
 refine pl_val (.int .i64 (list.length : Int)) (y_assign rfl) ?_
 refine c_nil ?_
 refine c_seq ?_
 obtain ⟨o15, a9, hs⟩ := bind_some hs
 refine wp_block ?_
 refine wp_iter (id := 0) (I := fun s11 a a1 => ∃ (σ : Nat → Value), a = fr 40 (ovl σ [(0, (.slice pa0 pn0 pc0)), (1, (.slice pa1 pn1 pc1)), (6, (.int .i64 s11.1)), (7, (.int .i64 s11.2))]) ∧ Chg [] w a1 ∧ Own (Nw w []) M a1 ([]) ∧ (RT.rs (RT.rs (RT.int .i64))).val M a1 (.slice pa0 pn0 pc0) list ([]) ∧ (RT.rs (RT.int .i64)).val M a1 (.slice pa1 pn1 pc1) t ([])) (J := fun s11 a a1 => ∃ (σ : Nat → Value), a = fr 40 (ovl σ [(0, (.slice pa0 pn0 pc0)), (1, (.slice pa1 pn1 pc1)), (6, (.int .i64 s11.1))]) ∧ Chg [] w a1 ∧ Own (Nw w []) M a1 ([]) ∧ (RT.rs (RT.rs (RT.int .i64))).val M a1 (.slice pa0 pn0 pc0) list ([]) ∧ (RT.rs (RT.int .i64)).val M a1 (.slice pa1 pn1 pc1) t ([])) (K := (k_spec_l8Find M w)) ?_ FU (0, (list.length : Int)) o15 _ _ ?_ a9 ?_
 ·rintro s11 o15 a a1 ⟨σ, rfl, hC, hO, h0, h1⟩ hs
  refine c_seq ?_
  refine c_sr ?_
  refine pl_val (.int .i64 s11.1) (y_move rfl) ?_
  refine pl_val (.int .i64 s11.2) (y_move rfl) ?_
  refine pl_val (.bool (decide (s11.1 < s11.2))) (y_lss rfl rfl) ?_
  refine c_nil ?_
  rcases bif_some hs with ⟨a6, hs⟩ | ⟨a6, hs⟩
  ·refine c_condT (congrArg Value.bool a6) ?_
   refine wp_skip ?_
   refine wp_block ?_
   refine c_sr ?_
   refine pl_val (.int .i64 s11.1) (y_move rfl) ?_
   refine pl_val (.int .i64 s11.2) (y_move rfl) ?_
   refine pl_val (.int .i64 (w64 (s11.1 + s11.2))) (y_add rfl rfl) ?_
   refine pl_val (.int .i64 (w64 (Int.tdiv (w64 (s11.1 + s11.2)) 2))) (y_quo rfl rfl (by decide)) ?_
   refine pl_val (.int .i64 (w64 (Int.tdiv (w64 (s11.1 + s11.2)) 2))) (y_assign rfl) ?_
   refine c_nil ?_
   refine c_sr ?_
   refine pl_val (.slice pa0 pn0 pc0) (y_move rfl) ?_
   refine pl_val (.int .i64 (w64 (Int.tdiv (w64 (s11.1 + s11.2)) 2))) (y_move rfl) ?_
   obtain ⟨x18, b0, hs⟩ := bind_some hs
   obtain ⟨b1, b2, b3, b4⟩ := rs_idx Sl47 Sz41 h0 b0
   refine pl_val (.pointer (some ⟨b1, b2, none⟩)) (b3 _ _ _ _ _ _ _ _ _ rfl rfl) ?_
   obtain ⟨d1, b5, a4⟩ := at_load Ag41 Sz41 (fun _ => rfl) b4
   obtain ⟨b6, b7, b8, rfl⟩ := rs_sl a4
   refine pl_val (.slice b6 b7 b8) (y_load rfl (b5 _ (Chg.refl _ _))) ?_
   refine pl_val (.slice pa1 pn1 pc1) (y_move rfl) ?_
   obtain ⟨r23, b9, hs⟩ := bind_some hs
   refine pl_call Bd135 rfl (c_spec_l3Less (M := M) x18 t a4 h1 hO.fut b9) ?_
   rintro _ d2 ⟨rfl, a2⟩
   have h0 := h0.ext a2
   have h1 := h1.ext a2
   have a4 := a4.ext a2
   have hC := hC.ext a2
   have hO := hO.ext a2
   refine c_nil ?_
   rcases bif_some hs with ⟨a7, hs⟩ | ⟨a7, hs⟩
   ·refine c_condT (congrArg Value.bool a7) ?_
    refine c_region ?_
    refine pl_val (.int .i64 (w64 (Int.tdiv (w64 (s11.1 + s11.2)) 2))) (y_move rfl) ?_
    refine pl_val (.int .i64 (w64 ((w64 (Int.tdiv (w64 (s11.1 + s11.2)) 2)) + 1))) (y_add rfl rfl) ?_
    refine pl_val (.int .i64 (w64 ((w64 (Int.tdiv (w64 (s11.1 + s11.2)) 2)) + 1))) (y_assign rfl) ?_
    refine c_nil ?_
    cases hs
    exact ⟨_, fr_ovl 40 ⟨rfl, rfl, rfl, rfl, trivial⟩, hC, hO, h0, h1⟩
   refine c_condF (congrArg Value.bool a7) ?_
   refine c_region ?_
   refine pl_val (.int .i64 (w64 (Int.tdiv (w64 (s11.1 + s11.2)) 2))) (y_move rfl) ?_
   refine pl_val (.int .i64 (w64 (Int.tdiv (w64 (s11.1 + s11.2)) 2))) (y_assign rfl) ?_
   refine c_nil ?_
   cases hs
   exact ⟨_, fr_ovl 40 ⟨rfl, rfl, rfl, rfl, trivial⟩, hC, hO, h0, h1⟩
  refine c_condF (congrArg Value.bool a6) ?_
  refine wp_exit ?_
  cases hs
  exact ⟨rfl, _, fr_ovl 40 ⟨rfl, rfl, rfl, trivial⟩, hC, hO, h0, h1⟩
 ·skip
  exact ⟨_, fr_ovl 40 ⟨rfl, rfl, rfl, rfl, trivial⟩, hC, hO, h0, h1⟩
 cases o15 with
 | nx _ => exact True.intro
 | rt r_ =>
  have hs := after_rt hs
  intro c0 a8 hK
  cases hs
  exact hK
 | br s11 =>
  have hs := after_br hs
  rintro c0 a1 ⟨σ, rfl, hC, hO, h0, h1⟩
  refine c_sr ?_
  refine pl_val (.int .i64 s11.1) (y_move rfl) ?_
  refine pl_val (.int .i64 s11.1) (y_move rfl) ?_
  refine pl_val (.slice pa0 pn0 pc0) (y_move rfl) ?_
  refine pl_val (.int .i64 (list.length : Int)) (y_len' Sl47 (rs_len h0) rfl) ?_
  refine pl_val (.bool (decide (s11.1 < (list.length : Int)))) (y_lss rfl rfl) ?_
  refine pl_val (.bool (decide (s11.1 < (list.length : Int)))) (y_move rfl) ?_
  rcases bif_some hs with ⟨a0, hs⟩ | ⟨a0, hs⟩
  ·skip
   refine pl_yes (.slice pa0 pn0 pc0) (tg := 32) (by kernel_rfl) (congrArg Value.bool a0) (y_move rfl) ?_
   refine pl_yes (.int .i64 s11.1) (tg := 32) (by kernel_rfl) (congrArg Value.bool a0) (y_move rfl) ?_
   obtain ⟨x26, c1, hs⟩ := bind_some hs
   obtain ⟨c2, c3, c4, c5⟩ := rs_idx Sl47 Sz41 h0 c1
   refine pl_yes (.pointer (some ⟨c2, c3, none⟩)) (tg := 32) (by kernel_rfl) (congrArg Value.bool a0) (c4 _ _ _ _ _ _ _ _ _ rfl rfl) ?_
   obtain ⟨d3, c6, a5⟩ := at_load Ag41 Sz41 (fun _ => rfl) c5
   obtain ⟨c7, c8, c9, rfl⟩ := rs_sl a5
   refine pl_yes (.slice c7 c8 c9) (tg := 32) (by kernel_rfl) (congrArg Value.bool a0) (y_load rfl (c6 _ (Chg.refl _ _))) ?_
   refine pl_yes (.slice pa1 pn1 pc1) (tg := 32) (by kernel_rfl) (congrArg Value.bool a0) (y_move rfl) ?_
   obtain ⟨r31, d0, hs⟩ := bind_some hs
   refine pl_cally (tg := 32) (by kernel_rfl) (congrArg Value.bool a0) Bd87 rfl (c_spec_l1Same (M := M) x26 t a5 h1 hO.fut d0) ?_
   rintro _ d4 ⟨rfl, a3⟩
   have h0 := h0.ext a3
   have h1 := h1.ext a3
   have a5 := a5.ext a3
   have hC := hC.ext a3
   have hO := hO.ext a3
   refine pl_val (.bool r31) (y_pick_t (congrArg Value.bool a0) rfl) ?_
   refine pl_val (.int .i64 s11.1) (y_assign rfl) ?_
   refine pl_val (.bool r31) (y_assign rfl) ?_
   refine c_nil ?_
   refine wp_ret ?_
   cases hs
   exact ⟨_, fr_ovl 40 ⟨rfl, rfl, trivial⟩, hC⟩
  refine pl_not (tg := 32) (by kernel_rfl) (congrArg Value.bool a0) ?_
  refine pl_not (tg := 32) (by kernel_rfl) (congrArg Value.bool a0) ?_
  refine pl_not (tg := 32) (by kernel_rfl) (congrArg Value.bool a0) ?_
  refine pl_not (tg := 32) (by kernel_rfl) (congrArg Value.bool a0) ?_
  refine pl_not (tg := 32) (by kernel_rfl) (congrArg Value.bool a0) ?_
  refine pl_not (tg := 32) (by kernel_rfl) (congrArg Value.bool a0) ?_
  refine pl_val (.bool false) (y_pick_f (congrArg Value.bool a0) rfl) ?_
  refine pl_val (.int .i64 s11.1) (y_assign rfl) ?_
  refine pl_val (.bool false) (y_assign rfl) ?_
  refine c_nil ?_
  refine wp_ret ?_
  cases hs
  exact ⟨_, fr_ovl 40 ⟨rfl, rfl, trivial⟩, hC⟩

theorem Bd117 : Bodied Try.prog 117 := bodied Try.func117 (by kernel_rfl) rfl

def k_spec_l13Has (M : Nat → Prop) (w0 : World) (r : Bool) (a : Act) (w : World) : Prop :=
  ∃ (σ : Nat → Value) , a = fr 20 (ovl σ [(4, (.bool r))]) ∧ Chg [] w0 w
def s_spec_l13Has (r_ : Int × (List (List Int))) (t : List Int) : Option (Bool) :=
  (bif ((t.length : Int) != r_.1) then some false else (s_spec_l8Find r_.2 t).bind fun r6 =>
  some r6.2)
set_option maxHeartbeats 4000000 in
theorem c_spec_l13Has {M : Nat → Prop} {w : World} {pa0 : Option Addr} {pn0 pc0 : Nat} {pa1 : Option Addr} {pn1 pc1 : Nat} (r_ : Int × (List (List Int))) (t : List Int) (h0 : (RT.rs (RT.rs (RT.int .i64))).val M w (.slice pa0 pn0 pc0) r_.2 ([])) (h1 : (RT.rs (RT.int .i64)).val M w (.slice pa1 pn1 pc1) t ([])) (hM : ∀ g, w.heap.size ≤ g → M g) {r : Bool} (hs : s_spec_l13Has r_ t = some r) :
    Gives Try.prog 77 [(.agg #[(.int .i64 r_.1), (.slice pa0 pn0 pc0)]), (.slice pa1 pn1 pc1)] w (fun v w' => v = (.bool r) ∧ Chg [] w w') := by
 refine calls_fr Try.func77 rfl Try.ntmps77 (Nat.le_of_ble_eq_true rfl) ?_
 have hO := Own.start (N := Nw w []) hM Nw.fut
 have hC := Chg.refl [] w
 unfold s_spec_l13Has at hs
 refine wp_mono (Q := KPost (k_spec_l13Has M w r)) ?_ (fun e a a9 h => ?_)
 rotate_left
 ·cases e
  case ret =>
   obtain ⟨σ, rfl, hrest⟩ := h
   exact ret1x Try.results77 (res_tmp rfl) ⟨rfl, hrest⟩
  all_goals exact (h : False).elim
 refine c_sr ?_
 obtain ⟨a6, a3, a7, a5, a2, a0⟩ := new_block w [(.int .i64 r_.1), (.slice pa0 pn0 pc0)] 54
 refine pl_val (w' := a6) (.pointer (some ⟨a3, 0, none⟩)) (y_box rfl (by rw [a7, a5]; kernel_rfl)) ?_
 have h0 := h0.ext a2
 have h1 := h1.ext a2
 have hC := hC.ext a2
 have hO := hO.new1 a2 a5 a0.lt
 refine pl_val (.bool false) (y_assign rfl) ?_
 refine c_nil ?_
 refine c_seq ?_
 refine c_sr ?_
 refine pl_val (.slice pa1 pn1 pc1) (y_move rfl) ?_
 refine pl_val (.int .i64 (t.length : Int)) (y_len' Sl41 (rs_len h1) rfl) ?_
 refine pl_val (.pointer (some ⟨a3, 0, none⟩)) (y_faddr rfl Fa54x0) ?_
 refine pl_val (.int .i64 r_.1) (y_load rfl ((box_load Ag3 Sz3 a0 [] [(.int .i64 r_.1)] [(.slice pa0 pn0 pc0)] rfl rfl (fun _ => rfl)) _ (Chg.refl _ _))) ?_
 refine pl_val (.bool ((t.length : Int) != r_.1)) (y_neq rfl rfl) ?_
 refine c_nil ?_
 rcases bif_some hs with ⟨a4, hs⟩ | ⟨a4, hs⟩
 ·refine c_condT (congrArg Value.bool a4) ?_
  refine c_sr ?_
  refine pl_val (.bool false) (y_assign rfl) ?_
  refine c_nil ?_
  refine wp_ret ?_
  cases hs
  exact ⟨_, fr_ovl 20 ⟨rfl, trivial⟩, hC⟩
 refine c_condF (congrArg Value.bool a4) ?_
 refine wp_skip ?_
 refine c_sr ?_
 refine pl_val (.pointer (some ⟨a3, 1, none⟩)) (y_faddr rfl Fa54x1) ?_
 refine pl_val (.slice pa0 pn0 pc0) (y_load rfl ((box_load Ag47 Sz47 a0 [(.int .i64 r_.1)] [(.slice pa0 pn0 pc0)] [] rfl rfl (fun _ => rfl)) _ (Chg.refl _ _))) ?_
 refine pl_val (.slice pa1 pn1 pc1) (y_move rfl) ?_
 obtain ⟨r6, a8, hs⟩ := bind_some hs
 refine pl_call Bd117 rfl (c_spec_l8Find (M := M) r_.2 t h0 h1 hO.fut a8) ?_
 rintro _ b0 ⟨rfl, a1⟩
 have h0 := h0.ext a1
 have h1 := h1.ext a1
 have a0 := a0.cn a1
 have hC := hC.ext a1
 have hO := hO.ext a1
 refine pl_val (.tuple #[(.int .i64 r6.1), (.bool r6.2)]) (y_move rfl) ?_
 refine pl_val (.int .i64 r6.1) (y_extract rfl (by kernel_rfl)) ?_
 refine pl_val (.bool r6.2) (y_extract rfl (by kernel_rfl)) ?_
 refine pl_val (.int .i64 r6.1) (y_assign rfl) ?_
 refine pl_val (.bool r6.2) (y_assign rfl) ?_
 refine c_nil ?_
 refine c_sr ?_
 refine pl_val (.bool r6.2) (y_move rfl) ?_
 refine pl_val (.bool r6.2) (y_assign rfl) ?_
 refine c_nil ?_
 refine wp_ret ?_
 cases hs
 exact ⟨_, fr_ovl 20 ⟨rfl, trivial⟩, hC⟩

theorem Bd77 : Bodied Try.prog 77 := bodied Try.func77 (by kernel_rfl) rfl

def k_spec_l19Satisfies (M : Nat → Prop) (w0 : World) (r : Bool) (a : Act) (w : World) : Prop :=
  ∃ (σ : Nat → Value) , a = fr 30 (ovl σ [(4, (.bool r))]) ∧ Chg [] w0 w
def s_spec_l19Satisfies (c : (List Int) × (Int × (List (List Int)))) (values : List Int) : Option (Bool) :=
  (forC (S := (List Int)) (R := Bool) (fun k20 s18 =>
  (idx c.1 k20).bind fun x28 =>
  (idx values x28).bind fun x30 =>
  (app s18 ([x30])).bind fun y35 =>
  some (.nx y35)) 0 (c.1.length : Int) ([])).bind fun o22 => after o22 (fun r_ => some r_) (fun s18 =>
  (s_spec_l13Has (c.2.1, c.2.2) s18).bind fun r38 =>
  some r38)
set_option maxHeartbeats 4000000 in
theorem c_spec_l19Satisfies {M : Nat → Prop} {w : World} {pa0 : Option Addr} {pn0 pc0 : Nat} {pa1 : Option Addr} {pn1 pc1 : Nat} {pa2 : Option Addr} {pn2 pc2 : Nat} (c : (List Int) × (Int × (List (List Int)))) (values : List Int) (h0 : (RT.rs (RT.int .i64)).val M w (.slice pa0 pn0 pc0) c.1 ([])) (h1 : (RT.rs (RT.rs (RT.int .i64))).val M w (.slice pa1 pn1 pc1) c.2.2 ([])) (h2 : (RT.rs (RT.int .i64)).val M w (.slice pa2 pn2 pc2) values ([])) (hM : ∀ g, w.heap.size ≤ g → M g) {r : Bool} (hs : s_spec_l19Satisfies c values = some r) :
    Gives Try.prog 130 [(.agg #[(.slice pa0 pn0 pc0), (.int .i64 c.2.1), (.slice pa1 pn1 pc1)]), (.slice pa2 pn2 pc2)] w (fun v w' => v = (.bool r) ∧ Chg [] w w') := by
 refine calls_fr Try.func130 rfl Try.ntmps130 (Nat.le_of_ble_eq_true rfl) ?_
 have hO := Own.start (N := Nw w []) hM Nw.fut
 have hC := Chg.refl [] w
 unfold s_spec_l19Satisfies at hs
 refine wp_mono (Q := KPost (k_spec_l19Satisfies M w r)) ?_ (fun e a d5 h => ?_)
 rotate_left
 ·cases e
  case ret =>
   obtain ⟨σ, rfl, hrest⟩ := h
   exact ret1x Try.results130 (res_tmp rfl) ⟨rfl, hrest⟩
  all_goals exact (h : False).elim
 refine c_sr ?_
 obtain ⟨c7, a2, d6, c8, b2, a0⟩ := new_block w [(.slice pa0 pn0 pc0), (.int .i64 c.2.1), (.slice pa1 pn1 pc1)] 56
 refine pl_val (w' := c7) (.pointer (some ⟨a2, 0, none⟩)) (y_box rfl (by rw [d6, c8]; kernel_rfl)) ?_
 have h0 := h0.ext b2
 have h1 := h1.ext b2
 have h2 := h2.ext b2
 have hC := hC.ext b2
 have hO := hO.new1 b2 c8 a0.lt
 refine pl_val (.bool false) (y_assign rfl) ?_
 refine c_nil ?_
 refine c_sr ?_
 obtain ⟨c9, a5, d7, d0, a6, d1⟩ := new_block c7 [] 3
 refine pl_val (w' := c9) (.slice (some ⟨a5, 0, none⟩) 0 0) (y_bslice rfl (by rw [d7, d0]; kernel_rfl)) ?_
 have h0 := h0.ext a6
 have h1 := h1.ext a6
 have h2 := h2.ext a6
 have a0 := a0.cn a6
 have hC := hC.ext a6
 have hO := hO.new1 a6 d0 d1.lt
 have b9 := os_of_box (r := (RT.int .i64)) (M := M) (css := []) (fps := []) (xs := ([] : List Int)) d1 trivial (Nat.zero_le _) (List.nodup_cons.2 ⟨(fun h => nomatch h), List.nodup_nil⟩)
 have b9 : (RT.os 3 (RT.int .i64)).val M c9 (.slice (some ⟨a5, 0, none⟩) 0 0) [] [a5] := b9
 refine pl_val (.slice (some ⟨a5, 0, none⟩) 0 0) (y_assign rfl) ?_
 refine c_nil ?_
 refine c_seq ?_
 refine c_sr ?_
 refine pl_val (.int .i64 0) (y_assign rfl) ?_
 refine c_nil ?_
 obtain ⟨o22, d8, hs⟩ := bind_some hs
 refine wp_block ?_
 refine wp_forC (id := 0) (c.1.length : Int) (I := fun k20 s18 a a1 => ∃ (σ : Nat → Value) (a7 : Option Addr) (a8 : Nat) (a9 : Nat) (b3 : List Nat), a = fr 30 (ovl σ [(1, (.slice pa2 pn2 pc2)), (2, (.pointer (some ⟨a2, 0, none⟩))), (5, (.slice a7 a8 a9)), (6, (.int .i64 k20))]) ∧ Chg [] w a1 ∧ Own (Nw w []) M a1 (b3 ++ (([a2]) ++ [])) ∧ (RT.rs (RT.int .i64)).val M a1 (.slice pa0 pn0 pc0) c.1 ([]) ∧ (RT.rs (RT.rs (RT.int .i64))).val M a1 (.slice pa1 pn1 pc1) c.2.2 ([]) ∧ (RT.rs (RT.int .i64)).val M a1 (.slice pa2 pn2 pc2) values ([]) ∧ BoxV a1 a2 56 [(.slice pa0 pn0 pc0), (.int .i64 c.2.1), (.slice pa1 pn1 pc1)] ∧ (RT.os 3 (RT.int .i64)).val M a1 (.slice a7 a8 a9) s18 b3) (J := fun s18 a a1 => ∃ (σ : Nat → Value) (b5 : Option Addr) (b6 : Nat) (b7 : Nat) (b8 : List Nat), a = fr 30 (ovl σ [(2, (.pointer (some ⟨a2, 0, none⟩))), (5, (.slice b5 b6 b7))]) ∧ Chg [] w a1 ∧ Own (Nw w []) M a1 (b8 ++ (([a2]) ++ [])) ∧ (RT.rs (RT.int .i64)).val M a1 (.slice pa0 pn0 pc0) c.1 ([]) ∧ (RT.rs (RT.rs (RT.int .i64))).val M a1 (.slice pa1 pn1 pc1) c.2.2 ([]) ∧ (RT.rs (RT.int .i64)).val M a1 (.slice pa2 pn2 pc2) values ([]) ∧ BoxV a1 a2 56 [(.slice pa0 pn0 pc0), (.int .i64 c.2.1), (.slice pa1 pn1 pc1)] ∧ (RT.os 3 (RT.int .i64)).val M a1 (.slice b5 b6 b7) s18 b8) (K := (k_spec_l19Satisfies M w)) ?_ ?_ 0 ([]) o22 _ _ ?_ d8 ?_
 ·rintro k20 s18 a a1 ⟨σ, a7, a8, a9, b3, rfl, hC, hO, h0, h1, h2, a0, b0⟩ hlt
  refine c_seq ?_
  refine c_sr ?_
  refine pl_val (.int .i64 k20) (y_move rfl) ?_
  refine pl_val (.pointer (some ⟨a2, 0, none⟩)) (y_faddr rfl Fa56x0) ?_
  refine pl_val (.slice pa0 pn0 pc0) (y_load rfl ((box_load Ag41 Sz41 a0 [] [(.slice pa0 pn0 pc0)] [(.int .i64 c.2.1), (.slice pa1 pn1 pc1)] rfl rfl (fun _ => rfl)) _ (Chg.refl _ _))) ?_
  refine pl_val (.int .i64 (c.1.length : Int)) (y_len' Sl41 (rs_len h0) rfl) ?_
  refine pl_val (.bool (decide (k20 < (c.1.length : Int)))) (y_lss rfl rfl) ?_
  refine c_nil ?_
  refine c_condF (congrArg Value.bool (decide_eq_false hlt)) ?_
  refine wp_exit ?_
  have hO := hO.fr1
  have hO := hO.fr1
  exact ⟨rfl, _, a7, a8, a9, b3, fr_ovl 30 ⟨rfl, rfl, trivial⟩, hC, hO, h0, h1, h2, a0, b0⟩
 ·rintro k20 s18 o22 a a1 ⟨σ, a7, a8, a9, b3, rfl, hC, hO, h0, h1, h2, a0, b0⟩ hlt hw hs
  refine c_seq ?_
  refine c_sr ?_
  refine pl_val (.int .i64 k20) (y_move rfl) ?_
  refine pl_val (.pointer (some ⟨a2, 0, none⟩)) (y_faddr rfl Fa56x0) ?_
  refine pl_val (.slice pa0 pn0 pc0) (y_load rfl ((box_load Ag41 Sz41 a0 [] [(.slice pa0 pn0 pc0)] [(.int .i64 c.2.1), (.slice pa1 pn1 pc1)] rfl rfl (fun _ => rfl)) _ (Chg.refl _ _))) ?_
  refine pl_val (.int .i64 (c.1.length : Int)) (y_len' Sl41 (rs_len h0) rfl) ?_
  refine pl_val (.bool (decide (k20 < (c.1.length : Int)))) (y_lss rfl rfl) ?_
  refine c_nil ?_
  refine c_condT (congrArg Value.bool (decide_eq_true hlt)) ?_
  refine wp_skip ?_
  refine c_seq ?_
  refine wp_block ?_
  refine c_region ?_
  refine pl_val (.slice a7 a8 a9) (y_move rfl) ?_
  refine pl_val (.slice pa2 pn2 pc2) (y_move rfl) ?_
  refine pl_val (.pointer (some ⟨a2, 0, none⟩)) (y_faddr rfl Fa56x0) ?_
  refine pl_val (.slice pa0 pn0 pc0) (y_load rfl ((box_load Ag41 Sz41 a0 [] [(.slice pa0 pn0 pc0)] [(.int .i64 c.2.1), (.slice pa1 pn1 pc1)] rfl rfl (fun _ => rfl)) _ (Chg.refl _ _))) ?_
  refine pl_val (.int .i64 k20) (y_move rfl) ?_
  obtain ⟨x28, d9, hs⟩ := bind_some hs
  obtain ⟨e0, e1, e2, e3⟩ := rs_idx Sl41 Sz3 h0 d9
  refine pl_val (.pointer (some ⟨e0, e1, none⟩)) (e2 _ _ _ _ _ _ _ _ _ rfl rfl) ?_
  refine pl_val (.int .i64 x28) (y_load rfl ((at_load_int Ag3 Sz3 e3) _ (Chg.refl _ _))) ?_
  obtain ⟨x30, e4, hs⟩ := bind_some hs
  obtain ⟨e5, e6, e7, e8⟩ := rs_idx Sl41 Sz3 h2 e4
  refine pl_val (.pointer (some ⟨e5, e6, none⟩)) (e7 _ _ _ _ _ _ _ _ _ rfl rfl) ?_
  refine pl_val (.int .i64 x30) (y_load rfl ((at_load_int Ag3 Sz3 e8) _ (Chg.refl _ _))) ?_
  obtain ⟨d2, c0, e9, d3, a3, d4⟩ := new_block a1 [(.int .i64 x30)] 3
  refine pl_val (w' := d2) (.slice (some ⟨c0, 0, none⟩) 1 1) (y_bslice rfl (by rw [e9, d3]; kernel_rfl)) ?_
  have h0 := h0.ext a3
  have h1 := h1.ext a3
  have h2 := h2.ext a3
  have a0 := a0.cn a3
  have b0 := b0.ext a3
  have hC := hC.ext a3
  have hO := hO.new1 a3 d3 d4.lt
  have c1 := os_of_box (r := (RT.int .i64)) (M := M) (css := [[(.int .i64 x30)]]) (fps := [([] : List Nat)]) (xs := ([x30] : List Int)) d4 ⟨⟨rfl, rfl⟩, trivial⟩ (Nat.le_of_ble_eq_true rfl) (List.nodup_cons.2 ⟨(fun h => nomatch h), List.nodup_nil⟩)
  have c1 : (RT.os 3 (RT.int .i64)).val M d2 (.slice (some ⟨c0, 0, none⟩) 1 1) [x30] [c0] := c1
  obtain ⟨y35, f0, hs⟩ := bind_some hs
  have hO := hO.fr1
  obtain ⟨c2, c3, c4, f1, f2, f3, b1, f4, c5⟩ := app_os Rw41 f0 b0 c1 hO.inM (fun g hg hq => hO.apart g hq (mem_l hg))
  have b4 := os_block b0
  refine pl_val (w' := f1) (.slice c2 c3 c4) (y_append rfl rfl (f3 _)) ?_
  have hO := hO.fr1
  have hO := hO.fr1
  have h0 := h0.mt b1 hO b4
  have h1 := h1.mt b1 hO b4
  have h2 := h2.mt b1 hO b4
  have a0 := a0.ap b1 hO b4 (mem_r (mem_l (List.mem_singleton.2 rfl)))
  have hC := hC.st b1 hO b4
  have hO := hO.eat b1 f4 (os_nodup c5) c5.fpl
  refine pl_val (.slice c2 c3 c4) (y_assign rfl) ?_
  refine c_nil ?_
  refine c_region ?_
  refine pl_val (.int .i64 k20) (y_move rfl) ?_
  refine pl_val (.int .i64 (w64 (k20 + 1))) (y_add rfl rfl) ?_
  refine pl_val (.int .i64 (w64 (k20 + 1))) (y_assign rfl) ?_
  refine c_nil ?_
  cases hs
  have hO := hO.fr1
  have hO := hO.fr1
  exact ⟨_, c2, c3, c4, f2, fr_ovl 30 ⟨rfl, rfl, rfl, congrArg (Value.int .i64) hw, trivial⟩, hC, hO, h0, h1, h2, a0, c5⟩
 ·skip
  have hO := hO.fr1
  have hO := hO.fr1
  exact ⟨_, (some ⟨a5, 0, none⟩), 0, 0, ([a5]), fr_ovl 30 ⟨rfl, rfl, rfl, rfl, trivial⟩, hC, hO, h0, h1, h2, a0, b9⟩
 cases o22 with
 | nx _ => exact True.intro
 | rt r_ =>
  have hs := after_rt hs
  intro f5 d5 hK
  cases hs
  exact hK
 | br s18 =>
  have hs := after_br hs
  rintro f5 a1 ⟨σ, b5, b6, b7, b8, rfl, hC, hO, h0, h1, h2, a0, c6⟩
  refine c_sr ?_
  refine pl_val (.pointer (some ⟨a2, 1, none⟩)) (y_faddr rfl Fa56x1) ?_
  refine pl_val (.agg #[(.int .i64 c.2.1), (.slice pa1 pn1 pc1)]) (y_load rfl ((box_load Ag54 Sz54 a0 [(.slice pa0 pn0 pc0)] [(.int .i64 c.2.1), (.slice pa1 pn1 pc1)] [] rfl rfl (fun h => nomatch h)) _ (Chg.refl _ _))) ?_
  refine pl_val (.slice b5 b6 b7) (y_move rfl) ?_
  obtain ⟨r38, f6, hs⟩ := bind_some hs
  refine pl_call Bd77 rfl (c_spec_l13Has (M := (Less M b8)) (c.2.1, c.2.2) s18 (h1.sub Less.sub) (((Frz.os Frz.int)).val c6 Less.sub Less.not) hO.less.fut f6) ?_
  rintro _ f7 ⟨rfl, a4⟩
  have h0 := h0.ext a4
  have h1 := h1.ext a4
  have h2 := h2.ext a4
  have a0 := a0.cn a4
  have c6 := c6.ext a4
  have hC := hC.ext a4
  have hO := hO.ext a4
  refine pl_val (.bool r38) (y_assign rfl) ?_
  refine c_nil ?_
  refine wp_ret ?_
  cases hs
  exact ⟨_, fr_ovl 30 ⟨rfl, trivial⟩, hC⟩

theorem Ag76 : AggT Try.prog 76 true := fun _ => by kernel_rfl

theorem Sz76 : SzT Try.prog 76 4 := ⟨_, rfl, rfl⟩

theorem Fa76x1 : ∀ (a : Addr) (w : World), (Instr.fieldAt 76 (.pointer (some a)) 1).run Try.prog w = .ok (.pointer (some (a.add 1))) w := fun _ _ => by kernel_rfl

theorem Fa76x0 : ∀ (a : Addr) (w : World), (Instr.fieldAt 76 (.pointer (some a)) 0).run Try.prog w = .ok (.pointer (some (a.add 0))) w := fun _ _ => by kernel_rfl

theorem Fa76x2 : ∀ (a : Addr) (w : World), (Instr.fieldAt 76 (.pointer (some a)) 2).run Try.prog w = .ok (.pointer (some (a.add 2))) w := fun _ _ => by kernel_rfl

theorem Bd121 : Bodied Try.prog 121 := bodied Try.func121 (by kernel_rfl) rfl

theorem Fa76x3 : ∀ (a : Addr) (w : World), (Instr.fieldAt 76 (.pointer (some a)) 3).run Try.prog w = .ok (.pointer (some (a.add 3))) w := fun _ _ => by kernel_rfl

theorem Ag4 : AggT Try.prog 4 false := fun _ => by kernel_rfl

theorem Sz4 : SzT Try.prog 4 1 := ⟨_, rfl, rfl⟩

theorem Bd130 : Bodied Try.prog 130 := bodied Try.func130 (by kernel_rfl) rfl

theorem Bd101 : Bodied Try.prog 101 := bodied Try.func101 (by kernel_rfl) rfl

def k_spec_l19Go__take4 (M : Nat → Prop) (w0 : World) (qa0 : Option Addr) (qn0 qc0 : Nat) (qf0 : List Nat) (r : ((List (List Int)) × Int × Int × Bool)) (a : Act) (w : World) : Prop :=
  ∃ (σ : Nat → Value) (rg10 : Nat) (ra0 : Option Addr) (rn0 rc0 : Nat) (rf0 : List Nat), a = fr 102 (ovl σ [(10, (.pointer (some ⟨rg10, 0, none⟩)))]) ∧ BoxV w rg10 76 [(.slice ra0 rn0 rc0), (.int .i64 r.2.1), (.int .i64 r.2.2.1), (.bool r.2.2.2)] ∧ Chg (qf0 ++ ([])) w0 w ∧ (RT.os 41 (RT.os 3 (RT.int .i64))).val M w (.slice ra0 rn0 rc0) r.1 rf0 ∧ Own (Nw w0 (qf0 ++ ([]))) (fun _ => True) w (rf0 ++ ([]))
def s_spec_l19Go__take4 : Nat → (Int) → (List (List ((List Int) × (Int × (List (List Int)))))) → (List Int) → (List Int) → ((List (List Int)) × Int × Int × Bool) → Option (((List (List Int)) × Int × Int × Bool))
  | 0, _, _, _, _, _ => none
  | fu_ + 1, size, at_, partial_, begun, s_ =>
  (bif ((begun.length : Int) == (at_.length : Int)) then (bif (decide ((s_.1.length : Int) < s_.2.2.1)) then (s_spec_l1Own begun).bind fun r37 =>
  (app s_.1 ([r37])).bind fun y42 =>
  some y42 else some s_.1).bind fun s29 =>
  some (s29, w64 (s_.2.1 + 1), s_.2.2.1, s_.2.2.2) else (iter (S := Int × (List (List Int)) × Int × Int × Bool) (R := ((List (List Int)) × Int × Int × Bool)) (fun s197 =>
  (bif ((decide (s197.1 < size)) && (!(s197.2.2.2.2 && (decide (0 < s197.2.2.1))))) then ((idx partial_ (begun.length : Int)).bind fun x216 =>
  (bif (decide (0 ≤ x216)) then (idx partial_ (begun.length : Int)).bind fun x219 =>
  some (x219 != s197.1) else some false)).bind fun s213 =>
  (bif s213 then some (.nx (w64 (s197.1 + 1), s197.2.1, s197.2.2.1, s197.2.2.2.1, s197.2.2.2.2)) else (s_spec_l1Own begun).bind fun r223 =>
  (app r223 ([s197.1])).bind fun y228 =>
  (iter (S := Bool × Int) (R := ((List (List Int)) × Int × Int × Bool)) (fun s250 =>
  ((idx at_ (begun.length : Int)).bind fun x259 =>
  (bif (decide (s250.2 < (x259.length : Int))) then some s250.1 else some false)).bind fun s256 =>
  (bif s256 then (idx at_ (begun.length : Int)).bind fun x265 =>
  (idx x265 s250.2).bind fun x269 =>
  (s_spec_l19Satisfies (x269.1, (x269.2.1, x269.2.2)) y228).bind fun r275 =>
  some (.nx (r275, w64 (s250.2 + 1))) else some (.br (s250.1, s250.2)))) FU (true, 0)).bind fun o254 => after o254 (fun r_ => some (.rt r_)) (fun s250 =>
  (bif s250.1 then (s_spec_l19Go__take4 fu_ size at_ partial_ y228 (s197.2.1, s197.2.2.1, s197.2.2.2.1, s197.2.2.2.2)).bind fun r278 =>
  some (.nx (w64 (s197.1 + 1), r278.1, r278.2.1, r278.2.2.1, r278.2.2.2)) else some (.nx (w64 (s197.1 + 1), s197.2.1, s197.2.2.1, s197.2.2.2.1, s197.2.2.2.2))))) else some (.br (s197.1, s197.2.1, s197.2.2.1, s197.2.2.2.1, s197.2.2.2.2)))) FU (0, s_.1, s_.2.1, s_.2.2.1, s_.2.2.2)).bind fun o201 => after o201 (fun r_ => some r_) (fun s197 =>
  some (s197.2.1, s197.2.2.1, s197.2.2.2.1, s197.2.2.2.2)))
set_option maxHeartbeats 4000000 in
theorem c_spec_l19Go__take4 : ∀ (fu_ : Nat) {M : Nat → Prop} {w : World} {pa0 : Option Addr} {pn0 pc0 : Nat} {pa1 : Option Addr} {pn1 pc1 : Nat} {pa2 : Option Addr} {pn2 pc2 : Nat} {pa3 : Option Addr} {pn3 pc3 : Nat} {pf3 : List Nat} (size : Int) (at_ : List (List ((List Int) × (Int × (List (List Int)))))) (partial_ : List Int) (begun : List Int) (s_ : (List (List Int)) × Int × Int × Bool) (h0 : (RT.rs (RT.rs (RT.pr (RT.rs (RT.int .i64)) (RT.pr (RT.int .i64) (RT.rs (RT.rs (RT.int .i64))))))).val M w (.slice pa0 pn0 pc0) at_ ([])) (h1 : (RT.rs (RT.int .i64)).val M w (.slice pa1 pn1 pc1) partial_ ([])) (h2 : (RT.rs (RT.int .i64)).val M w (.slice pa2 pn2 pc2) begun ([])) (h3 : (RT.os 41 (RT.os 3 (RT.int .i64))).val M w (.slice pa3 pn3 pc3) s_.1 pf3) (hI : Own (Nw w (pf3 ++ ([]))) M w (pf3 ++ ([]))) (hM : ∀ g, w.heap.size ≤ g → M g) {r : ((List (List Int)) × Int × Int × Bool)} (hs : s_spec_l19Go__take4 fu_ size at_ partial_ begun s_ = some r), Gives Try.prog 101 [(.int .i64 size), (.slice pa0 pn0 pc0), (.slice pa1 pn1 pc1), (.slice pa2 pn2 pc2), (.agg #[(.slice pa3 pn3 pc3), (.int .i64 s_.2.1), (.int .i64 s_.2.2.1), (.bool s_.2.2.2)])] w (fun v w' => ∃ (ra0 : Option Addr) (rn0 rc0 : Nat) (rf0 : List Nat), v = (.agg #[(.slice ra0 rn0 rc0), (.int .i64 r.2.1), (.int .i64 r.2.2.1), (.bool r.2.2.2)]) ∧ Chg (pf3 ++ ([])) w w' ∧ (RT.os 41 (RT.os 3 (RT.int .i64))).val M w' (.slice ra0 rn0 rc0) r.1 rf0 ∧ Own (Nw w (pf3 ++ ([]))) (fun _ => True) w' (rf0 ++ ([]))) := by
 intro fu_
 induction fu_ with
 | zero => intro M w pa0 pn0 pc0 pa1 pn1 pc1 pa2 pn2 pc2 pa3 pn3 pc3 pf3 size at_ partial_ begun s_ h0 h1 h2 h3 hI hM r hs; exact (nomatch hs)
 | succ fu_ c_ih =>
 intro M w pa0 pn0 pc0 pa1 pn1 pc1 pa2 pn2 pc2 pa3 pn3 pc3 pf3 size at_ partial_ begun s_ h0 h1 h2 h3 hI hM r hs
 refine calls_fr Try.func101 rfl Try.ntmps101 (Nat.le_of_ble_eq_true rfl) ?_
 have hO := hI
 have hC := Chg.refl (pf3 ++ ([])) w
 rw [s_spec_l19Go__take4] at hs
 refine wp_mono (Q := KPost (k_spec_l19Go__take4 M w pa3 pn3 pc3 pf3 r)) ?_ (fun e a j3 h => ?_)
 rotate_left
 ·cases e
  case ret =>
   obtain ⟨σ, rg10, ra0, rn0, rc0, rf0, rfl, hbrg10, hrest⟩ := h
   exact ret1x Try.results101 (res_cell rfl (box_load Ag76 Sz76 hbrg10 [] _ [] rfl rfl (fun h => nomatch h))) ⟨ra0, rn0, rc0, rf0, rfl, hrest⟩
  all_goals exact (h : False).elim
 refine c_sr ?_
 obtain ⟨j4, a2, l3, j5, e7, a1⟩ := new_block w [(.slice pa3 pn3 pc3), (.int .i64 s_.2.1), (.int .i64 s_.2.2.1), (.bool s_.2.2.2)] 76
 refine pl_val (w' := j4) (.pointer (some ⟨a2, 0, none⟩)) (y_box rfl (by rw [l3, j5]; kernel_rfl)) ?_
 have h0 := h0.ext e7
 have h1 := h1.ext e7
 have h2 := h2.ext e7
 have h3 := h3.ext e7
 have hC := hC.ext e7
 have hO := hO.new1 e7 j5 a1.lt
 obtain ⟨l4, a3, l5, j6, d9, a0⟩ := new_block j4 [(.slice none 0 0), (.int .i64 0), (.int .i64 0), (.bool false)] 76
 refine pl_val (w' := l4) (.pointer (some ⟨a3, 0, none⟩)) (y_alloc (by rw [l5, j6]; kernel_rfl)) ?_
 have h0 := h0.ext d9
 have h1 := h1.ext d9
 have h2 := h2.ext d9
 have h3 := h3.ext d9
 have a1 := a1.cn d9
 have hC := hC.ext d9
 have hO := hO.new1 d9 j6 a0.lt
 refine c_nil ?_
 refine c_sr ?_
 refine pl_val (.slice pa2 pn2 pc2) (y_move rfl) ?_
 refine pl_val (.int .i64 (begun.length : Int)) (y_len' Sl41 (rs_len h2) rfl) ?_
 refine pl_val (.int .i64 (begun.length : Int)) (y_assign rfl) ?_
 refine c_nil ?_
 refine c_seq ?_
 refine c_sr ?_
 refine pl_val (.int .i64 (begun.length : Int)) (y_move rfl) ?_
 refine pl_val (.slice pa0 pn0 pc0) (y_move rfl) ?_
 refine pl_val (.int .i64 (at_.length : Int)) (y_len' Sl117 (rs_len h0) rfl) ?_
 refine pl_val (.bool ((begun.length : Int) == (at_.length : Int))) (y_eql rfl rfl) ?_
 refine c_nil ?_
 rcases bif_some hs with ⟨g4, hs⟩ | ⟨g4, hs⟩
 ·refine c_condT (congrArg Value.bool g4) ?_
  refine c_sr ?_
  refine pl_val (.pointer (some ⟨a2, 1, none⟩)) (y_faddr rfl Fa76x1) ?_
  refine pl_val (.int .i64 s_.2.1) (y_load rfl ((box_load Ag3 Sz3 a1 [(.slice pa3 pn3 pc3)] [(.int .i64 s_.2.1)] [(.int .i64 s_.2.2.1), (.bool s_.2.2.2)] rfl rfl (fun _ => rfl)) _ (Chg.refl _ _))) ?_
  refine pl_val (.int .i64 (w64 (s_.2.1 + 1))) (y_add rfl rfl) ?_
  refine pl_val (.pointer (some ⟨a2, 1, none⟩)) (y_faddr rfl Fa76x1) ?_
  obtain ⟨f3, l6, e0, a7⟩ := box_store (P := Try.prog) a1 [(.slice pa3 pn3 pc3)] [(.int .i64 s_.2.1)] [(.int .i64 s_.2.2.1), (.bool s_.2.2.2)] [(.int .i64 (w64 (s_.2.1 + 1)))] rfl rfl (by intro u hu; simp only [List.mem_cons, List.not_mem_nil, or_false] at hu; rcases hu with rfl <;> rfl)
  refine pl_skip (w' := f3) (ys_store rfl rfl (l6 _ _ rfl Sz3)) ?_
  have hO := hO.fr1
  have h0 := h0.mt e0 hO same_
  have h1 := h1.mt e0 hO same_
  have h2 := h2.mt e0 hO same_
  have h3 := h3.ma e0 hO same_ (fun _ e => (mem_r (mem_l (e))))
  have a0 := a0.ap e0 hO same_ (mem_l (List.mem_singleton.2 rfl))
  have hC := hC.st e0 hO same_
  have hO := hO.ext e0
  have a7 : BoxV f3 a2 76 [(.slice pa3 pn3 pc3), (.int .i64 (w64 (s_.2.1 + 1))), (.int .i64 s_.2.2.1), (.bool s_.2.2.2)] := a7
  refine c_nil ?_
  refine c_seq ?_
  refine c_sr ?_
  refine pl_val (.pointer (some ⟨a2, 0, none⟩)) (y_faddr rfl Fa76x0) ?_
  refine pl_val (.slice pa3 pn3 pc3) (y_load rfl ((box_load Ag47 Sz47 a7 [] [(.slice pa3 pn3 pc3)] [(.int .i64 (w64 (s_.2.1 + 1))), (.int .i64 s_.2.2.1), (.bool s_.2.2.2)] rfl rfl (fun _ => rfl)) _ (Chg.refl _ _))) ?_
  refine pl_val (.int .i64 (s_.1.length : Int)) (y_len' Sl47 (os_len h3) rfl) ?_
  refine pl_val (.pointer (some ⟨a2, 2, none⟩)) (y_faddr rfl Fa76x2) ?_
  refine pl_val (.int .i64 s_.2.2.1) (y_load rfl ((box_load Ag3 Sz3 a7 [(.slice pa3 pn3 pc3), (.int .i64 (w64 (s_.2.1 + 1)))] [(.int .i64 s_.2.2.1)] [(.bool s_.2.2.2)] rfl rfl (fun _ => rfl)) _ (Chg.refl _ _))) ?_
  refine pl_val (.bool (decide ((s_.1.length : Int) < s_.2.2.1))) (y_lss rfl rfl) ?_
  refine c_nil ?_
  obtain ⟨s29, l7, hs⟩ := bind_some hs
  refine c_mid (I := fun a b9 => ∃ (σ : Nat → Value) (c6 : Option Addr) (c7 : Nat) (c8 : Nat) (f4 : List Nat), a = fr 102 (ovl σ [(0, (.int .i64 size)), (1, (.slice pa0 pn0 pc0)), (2, (.slice pa1 pn1 pc1)), (3, (.slice pa2 pn2 pc2)), (9, (.pointer (some ⟨a2, 0, none⟩))), (10, (.pointer (some ⟨a3, 0, none⟩))), (11, (.int .i64 (begun.length : Int)))]) ∧ Chg (pf3 ++ ([])) w b9 ∧ Own (Nw w (pf3 ++ ([]))) M b9 (f4 ++ (([a2]) ++ (([a3]) ++ []))) ∧ (RT.rs (RT.rs (RT.pr (RT.rs (RT.int .i64)) (RT.pr (RT.int .i64) (RT.rs (RT.rs (RT.int .i64))))))).val M b9 (.slice pa0 pn0 pc0) at_ ([]) ∧ (RT.rs (RT.int .i64)).val M b9 (.slice pa1 pn1 pc1) partial_ ([]) ∧ (RT.rs (RT.int .i64)).val M b9 (.slice pa2 pn2 pc2) begun ([]) ∧ BoxV b9 a2 76 [(.slice c6 c7 c8), (.int .i64 (w64 (s_.2.1 + 1))), (.int .i64 s_.2.2.1), (.bool s_.2.2.2)] ∧ BoxV b9 a3 76 [(.slice none 0 0), (.int .i64 0), (.int .i64 0), (.bool false)] ∧ (RT.os 41 (RT.os 3 (RT.int .i64))).val M b9 (.slice c6 c7 c8) s29 f4) ?_ ?_
  ·replace hs := l7
   rcases bif_some hs with ⟨g5, hs⟩ | ⟨g5, hs⟩
   ·refine c_condT (congrArg Value.bool g5) ?_
    refine x_start [5, 7] Mx rfl ?_
    have c0 := Chg.drew f3
    generalize World.drew f3 = l8 at c0 ⊢
    have h0 := h0.ext c0
    have h1 := h1.ext c0
    have h2 := h2.ext c0
    have h3 := h3.ext c0
    have a7 := a7.cn c0
    have a0 := a0.cn c0
    have hC := hC.ext c0
    have hO := hO.ext c0
    have hS := Chg.refl [] l8
    refine x_p 0 (.pointer (some ⟨a2, 0, none⟩)) rfl (by kernel_rfl)  (fun _ => y_faddr rfl Fa76x0) (fun _ => hS) ?_
    refine x_l 1 (.slice pa3 pn3 pc3) rfl (by kernel_rfl)  (fun w' hw' => y_load rfl ((box_load Ag47 Sz47 a7 [] [(.slice pa3 pn3 pc3)] [(.int .i64 (w64 (s_.2.1 + 1))), (.int .i64 s_.2.2.1), (.bool s_.2.2.2)] rfl rfl (fun _ => rfl)) w' hw')) hS ?_
    refine x_p 2 (.slice pa2 pn2 pc2) rfl (by kernel_rfl)  (fun _ => y_move rfl) (fun _ => hS) ?_
    refine x_one (i := 3) (by kernel_rfl) ?_
    obtain ⟨r37, l9, hs⟩ := bind_some hs
    refine xk_call (b := false) rfl  Bd121 rfl (c_spec_l1Own (M := M) begun h2 hO.fut l9) rfl (by rintro _ _ _ ⟨g6, g7, g8, e9, rfl, b6, f5, j7⟩; exact hS.ext b6) ?_
    rintro _ m0 ⟨g6, g7, g8, e9, rfl, b6, f5, j7⟩
    have h0 := h0.ext b6
    have h1 := h1.ext b6
    have h2 := h2.ext b6
    have h3 := h3.ext b6
    have a7 := a7.cn b6
    have a0 := a0.cn b6
    have hC := hC.ext b6
    have hO := Own.join0 hO b6 j7
    have hO := hO.perm (R := e9 ++ (([a2]) ++ (([a3]) ++ (pf3 ++ ([]))))) (by simp)
    have hS := hS.ext b6
    refine x_one (i := 4) (by kernel_rfl) ?_
    obtain ⟨j8, f6, m1, j9, b7, k0⟩ := new_block m0 [(.slice g6 g7 g8)] 41
    refine xk_val (w' := j8) (b := false) (.slice (some ⟨f6, 0, none⟩) 1 1) rfl  (y_bslice rfl (by rw [m1, j9]; kernel_rfl)) rfl (fun _ => hS.ext b7) ?_
    have h0 := h0.ext b7
    have h1 := h1.ext b7
    have h2 := h2.ext b7
    have h3 := h3.ext b7
    have a7 := a7.cn b7
    have a0 := a0.cn b7
    have f5 := f5.ext b7
    have hC := hC.ext b7
    have hO := hO.new1 b7 j9 k0.lt
    have hO := hO.perm (R := (f6 :: ((e9) ++ ([]))) ++ (([a2]) ++ (([a3]) ++ (pf3 ++ ([]))))) (by simp)
    have m2 := hO.nd
    have g9 := os_of_box (r := (RT.os 3 (RT.int .i64))) (M := M) (css := [[(.slice g6 g7 g8)]]) (fps := [(e9 : List Nat)]) (xs := ([r37] : List (List Int))) k0 ⟨(os_unval f5), trivial⟩ (Nat.le_of_ble_eq_true rfl) m2
    have g9 : (RT.os 41 (RT.os 3 (RT.int .i64))).val M j8 (.slice (some ⟨f6, 0, none⟩) 1 1) [r37] (f6 :: ((e9) ++ ([]))) := g9
    have hS := hS.ext b7
    refine x_one (i := 5) (by kernel_rfl) ?_
    obtain ⟨y42, m3, hs⟩ := bind_some hs
    have hO := hO.fr3
    obtain ⟨f7, f8, f9, m4, m5, m6, e1, m7, f0⟩ := app_os Rw47 m3 h3 g9 hO.inM (fun g hg hq => hO.apart g hq (mem_l hg))
    have e8 := os_block h3
    refine xk_val (w' := m4) (b := true) (.slice f7 f8 f9) rfl  (y_append rfl rfl (m6 _)) rfl (fun h => nomatch h) ?_
    have hO := hO.fr1
    have hO := hO.fr1
    have h0 := h0.mt e1 hO e8
    have h1 := h1.mt e1 hO e8
    have h2 := h2.mt e1 hO e8
    have a7 := a7.ap e1 hO e8 (mem_r (mem_l (List.mem_singleton.2 rfl)))
    have a0 := a0.ap e1 hO e8 (mem_r (mem_r (mem_l (List.mem_singleton.2 rfl))))
    have hC := hC.st e1 hO e8
    have hO := hO.eat e1 m7 (os_nodup f0) f0.fpl
    refine x_p 6 (.pointer (some ⟨a2, 0, none⟩)) rfl (by kernel_rfl)  (fun _ => y_faddr rfl Fa76x0) (fun h => nomatch h) ?_
    refine x_one (i := 7) (by kernel_rfl) ?_
    obtain ⟨k1, m8, e2, h4⟩ := box_store (P := Try.prog) a7 [] [(.slice pa3 pn3 pc3)] [(.int .i64 (w64 (s_.2.1 + 1))), (.int .i64 s_.2.2.1), (.bool s_.2.2.2)] [(.slice f7 f8 f9)] rfl rfl (by intro u hu; simp only [List.mem_cons, List.not_mem_nil, or_false] at hu; rcases hu with rfl <;> rfl)
    refine xk_skip (w' := k1) (b := true) rfl (ys_store rfl rfl (m8 _ _ rfl Sz47)) rfl (fun h => nomatch h) ?_
    have hO := hO.fr1
    have h0 := h0.mt e2 hO same_
    have h1 := h1.mt e2 hO same_
    have h2 := h2.mt e2 hO same_
    have a0 := a0.ap e2 hO same_ (mem_r (mem_l (List.mem_singleton.2 rfl)))
    have f0 := f0.ma e2 hO same_ (fun _ e => (mem_l (e)))
    have hC := hC.st e2 hO same_
    have hO := hO.ext e2
    have h4 : BoxV k1 a2 76 [(.slice f7 f8 f9), (.int .i64 (w64 (s_.2.1 + 1))), (.int .i64 s_.2.2.1), (.bool s_.2.2.2)] := h4
    refine x_end (by kernel_rfl) ?_
    clear hS
    cases hs
    have hO := hO.fr2
    have hO := hO.fr1
    have hO := hO.fr2
    exact ⟨_, f7, f8, f9, m5, fr_ovl 102 ⟨rfl, rfl, rfl, rfl, rfl, rfl, rfl, trivial⟩, hC, hO, h0, h1, h2, h4, a0, f0⟩
   refine c_condF (congrArg Value.bool g5) ?_
   refine wp_skip ?_
   cases hs
   have hO := hO.fr1
   have hO := hO.fr1
   have hO := hO.fr2
   exact ⟨_, pa3, pn3, pc3, pf3, fr_ovl 102 ⟨rfl, rfl, rfl, rfl, rfl, rfl, rfl, trivial⟩, hC, hO, h0, h1, h2, a7, a0, h3⟩
  rintro e3 b9 ⟨σ, c6, c7, c8, f4, rfl, hC, hO, h0, h1, h2, a7, a0, h5⟩
  refine c_sr ?_
  refine pl_val (.agg #[(.slice c6 c7 c8), (.int .i64 (w64 (s_.2.1 + 1))), (.int .i64 s_.2.2.1), (.bool s_.2.2.2)]) (y_load rfl ((box_load Ag76 Sz76 a7 [] [(.slice c6 c7 c8), (.int .i64 (w64 (s_.2.1 + 1))), (.int .i64 s_.2.2.1), (.bool s_.2.2.2)] [] rfl rfl (fun h => nomatch h)) _ (Chg.refl _ _))) ?_
  obtain ⟨k2, m9, e4, h6⟩ := box_store (P := Try.prog) a0 [] [(.slice none 0 0), (.int .i64 0), (.int .i64 0), (.bool false)] [] [(.slice c6 c7 c8), (.int .i64 (w64 (s_.2.1 + 1))), (.int .i64 s_.2.2.1), (.bool s_.2.2.2)] rfl rfl (by intro u hu; simp only [List.mem_cons, List.not_mem_nil, or_false] at hu; rcases hu with rfl | rfl | rfl | rfl <;> rfl)
  refine pl_skip (w' := k2) (ys_store rfl rfl (m9 _ _ rfl Sz76)) ?_
  have hO := hO.fr2
  have h0 := h0.mt e4 hO same_
  have h1 := h1.mt e4 hO same_
  have h2 := h2.mt e4 hO same_
  have a7 := a7.ap e4 hO same_ (mem_r (mem_l (List.mem_singleton.2 rfl)))
  have h5 := h5.ma e4 hO same_ (fun _ e => (mem_l (e)))
  have hC := hC.st e4 hO same_
  have hO := hO.ext e4
  have h6 : BoxV k2 a3 76 [(.slice c6 c7 c8), (.int .i64 (w64 (s_.2.1 + 1))), (.int .i64 s_.2.2.1), (.bool s_.2.2.2)] := h6
  refine c_nil ?_
  refine wp_ret ?_
  cases hs
  have hO := hO.drop
  have hO := hO.fr1
  have hO := hO.drop
  exact ⟨_, a3, c6, c7, c8, f4, fr_ovl 102 ⟨rfl, trivial⟩, h6, hC, h5, hO.top⟩
 refine c_condF (congrArg Value.bool g4) ?_
 refine wp_skip ?_
 refine c_seq ?_
 refine c_sr ?_
 refine pl_val (.int .i64 0) (y_assign rfl) ?_
 refine c_nil ?_
 obtain ⟨o201, n0, hs⟩ := bind_some hs
 refine wp_block ?_
 refine wp_iter (id := 0) (I := fun s197 a a6 => ∃ (σ : Nat → Value) (b0 : Option Addr) (b1 : Nat) (b2 : Nat) (b4 : List Nat), a = fr 102 (ovl σ [(0, (.int .i64 size)), (1, (.slice pa0 pn0 pc0)), (2, (.slice pa1 pn1 pc1)), (3, (.slice pa2 pn2 pc2)), (9, (.pointer (some ⟨a2, 0, none⟩))), (10, (.pointer (some ⟨a3, 0, none⟩))), (11, (.int .i64 (begun.length : Int))), (12, (.int .i64 s197.1))]) ∧ Chg (pf3 ++ ([])) w a6 ∧ Own (Nw w (pf3 ++ ([]))) M a6 (b4 ++ (([a3]) ++ (([a2]) ++ []))) ∧ (RT.rs (RT.rs (RT.pr (RT.rs (RT.int .i64)) (RT.pr (RT.int .i64) (RT.rs (RT.rs (RT.int .i64))))))).val M a6 (.slice pa0 pn0 pc0) at_ ([]) ∧ (RT.rs (RT.int .i64)).val M a6 (.slice pa1 pn1 pc1) partial_ ([]) ∧ (RT.rs (RT.int .i64)).val M a6 (.slice pa2 pn2 pc2) begun ([]) ∧ BoxV a6 a2 76 [(.slice b0 b1 b2), (.int .i64 s197.2.2.1), (.int .i64 s197.2.2.2.1), (.bool s197.2.2.2.2)] ∧ BoxV a6 a3 76 [(.slice none 0 0), (.int .i64 0), (.int .i64 0), (.bool false)] ∧ (RT.os 41 (RT.os 3 (RT.int .i64))).val M a6 (.slice b0 b1 b2) s197.2.1 b4) (J := fun s197 a a6 => ∃ (σ : Nat → Value) (c9 : Option Addr) (d0 : Nat) (d1 : Nat) (g0 : List Nat), a = fr 102 (ovl σ [(9, (.pointer (some ⟨a2, 0, none⟩))), (10, (.pointer (some ⟨a3, 0, none⟩)))]) ∧ Chg (pf3 ++ ([])) w a6 ∧ Own (Nw w (pf3 ++ ([]))) M a6 (g0 ++ (([a3]) ++ (([a2]) ++ []))) ∧ (RT.rs (RT.rs (RT.pr (RT.rs (RT.int .i64)) (RT.pr (RT.int .i64) (RT.rs (RT.rs (RT.int .i64))))))).val M a6 (.slice pa0 pn0 pc0) at_ ([]) ∧ (RT.rs (RT.int .i64)).val M a6 (.slice pa1 pn1 pc1) partial_ ([]) ∧ (RT.rs (RT.int .i64)).val M a6 (.slice pa2 pn2 pc2) begun ([]) ∧ BoxV a6 a2 76 [(.slice c9 d0 d1), (.int .i64 s197.2.2.1), (.int .i64 s197.2.2.2.1), (.bool s197.2.2.2.2)] ∧ BoxV a6 a3 76 [(.slice none 0 0), (.int .i64 0), (.int .i64 0), (.bool false)] ∧ (RT.os 41 (RT.os 3 (RT.int .i64))).val M a6 (.slice c9 d0 d1) s197.2.1 g0) (K := (k_spec_l19Go__take4 M w pa3 pn3 pc3 pf3)) ?_ FU (0, s_.1, s_.2.1, s_.2.2.1, s_.2.2.2) o201 _ _ ?_ n0 ?_
 ·rintro s197 o201 a a6 ⟨σ, b0, b1, b2, b4, rfl, hC, hO, h0, h1, h2, a1, a0, a4⟩ hs
  refine c_seq ?_
  refine c_seq ?_
  refine c_mid (I := fun a g1 => ∃ (σ : Nat → Value), a = fr 102 (ovl σ [(0, (.int .i64 size)), (1, (.slice pa0 pn0 pc0)), (2, (.slice pa1 pn1 pc1)), (3, (.slice pa2 pn2 pc2)), (9, (.pointer (some ⟨a2, 0, none⟩))), (10, (.pointer (some ⟨a3, 0, none⟩))), (11, (.int .i64 (begun.length : Int))), (12, (.int .i64 s197.1)), (52, (.bool ((decide (s197.1 < size)) && (!(s197.2.2.2.2 && (decide (0 < s197.2.2.1)))))))]) ∧ Chg [] a6 g1) ?_ ?_
  ·have hMid := Chg.refl [] a6
   refine c_region ?_
   refine pl_val (.int .i64 s197.1) (y_move rfl) ?_
   refine pl_val (.int .i64 size) (y_move rfl) ?_
   refine pl_val (.bool (decide (s197.1 < size))) (y_lss rfl rfl) ?_
   refine pl_val (.bool (decide (s197.1 < size))) (y_move rfl) ?_
   rcases Bool.eq_false_or_eq_true ((decide (s197.1 < size))) with a8 | a8
   ·skip
    refine pl_yes (.pointer (some ⟨a2, 3, none⟩)) (tg := 43) (by kernel_rfl) (congrArg Value.bool a8) (y_faddr rfl Fa76x3) ?_
    refine pl_yes (.bool s197.2.2.2.2) (tg := 43) (by kernel_rfl) (congrArg Value.bool a8) (y_load rfl ((box_load Ag4 Sz4 a1 [(.slice b0 b1 b2), (.int .i64 s197.2.2.1), (.int .i64 s197.2.2.2.1)] [(.bool s197.2.2.2.2)] [] rfl rfl (fun _ => rfl)) _ (Chg.refl _ _))) ?_
    refine pl_yes (.bool s197.2.2.2.2) (tg := 43) (by kernel_rfl) (congrArg Value.bool a8) (y_move rfl) ?_
    rcases Bool.eq_false_or_eq_true (s197.2.2.2.2) with b8 | b8
    ·skip
     refine pl_yes (.pointer (some ⟨a2, 1, none⟩)) (tg := 46) (by kernel_rfl) (congrArg Value.bool b8) (y_faddr rfl Fa76x1) ?_
     refine pl_yes (.int .i64 s197.2.2.1) (tg := 46) (by kernel_rfl) (congrArg Value.bool b8) (y_load rfl ((box_load Ag3 Sz3 a1 [(.slice b0 b1 b2)] [(.int .i64 s197.2.2.1)] [(.int .i64 s197.2.2.2.1), (.bool s197.2.2.2.2)] rfl rfl (fun _ => rfl)) _ (Chg.refl _ _))) ?_
     refine pl_yes (.bool (decide (0 < s197.2.2.1))) (tg := 46) (by kernel_rfl) (congrArg Value.bool b8) (y_gtr rfl rfl) ?_
     refine pl_yes (.bool (s197.2.2.2.2 && (decide (0 < s197.2.2.1)))) (tg := 43) (by kernel_rfl) (congrArg Value.bool a8) (y_pick_t (congrArg Value.bool b8) (congrArg Value.bool (by rw [b8]; rfl))) ?_
     refine pl_yes (.bool (!(s197.2.2.2.2 && (decide (0 < s197.2.2.1))))) (tg := 43) (by kernel_rfl) (congrArg Value.bool a8) (y_not rfl) ?_
     refine pl_val (.bool ((decide (s197.1 < size)) && (!(s197.2.2.2.2 && (decide (0 < s197.2.2.1)))))) (y_pick_t (congrArg Value.bool a8) (congrArg Value.bool (by rw [a8]; rfl))) ?_
     refine c_nil ?_
     exact ⟨_, fr_ovl 102 ⟨rfl, rfl, rfl, rfl, rfl, rfl, rfl, rfl, rfl, trivial⟩, hMid⟩
    refine pl_not (tg := 46) (by kernel_rfl) (congrArg Value.bool b8) ?_
    refine pl_not (tg := 46) (by kernel_rfl) (congrArg Value.bool b8) ?_
    refine pl_not (tg := 46) (by kernel_rfl) (congrArg Value.bool b8) ?_
    refine pl_yes (.bool (s197.2.2.2.2 && (decide (0 < s197.2.2.1)))) (tg := 43) (by kernel_rfl) (congrArg Value.bool a8) (y_pick_f (congrArg Value.bool b8) (congrArg Value.bool (by rw [b8]; rfl))) ?_
    refine pl_yes (.bool (!(s197.2.2.2.2 && (decide (0 < s197.2.2.1))))) (tg := 43) (by kernel_rfl) (congrArg Value.bool a8) (y_not rfl) ?_
    refine pl_val (.bool ((decide (s197.1 < size)) && (!(s197.2.2.2.2 && (decide (0 < s197.2.2.1)))))) (y_pick_t (congrArg Value.bool a8) (congrArg Value.bool (by rw [a8]; rfl))) ?_
    refine c_nil ?_
    exact ⟨_, fr_ovl 102 ⟨rfl, rfl, rfl, rfl, rfl, rfl, rfl, rfl, rfl, trivial⟩, hMid⟩
   refine pl_not (tg := 43) (by kernel_rfl) (congrArg Value.bool a8) ?_
   refine pl_not (tg := 43) (by kernel_rfl) (congrArg Value.bool a8) ?_
   refine pl_not (tg := 43) (by kernel_rfl) (congrArg Value.bool a8) ?_
   refine pl_nou (tg := 46) (by kernel_rfl) rfl ?_
   refine pl_nou (tg := 46) (by kernel_rfl) rfl ?_
   refine pl_nou (tg := 46) (by kernel_rfl) rfl ?_
   refine pl_not (tg := 43) (by kernel_rfl) (congrArg Value.bool a8) ?_
   refine pl_not (tg := 43) (by kernel_rfl) (congrArg Value.bool a8) ?_
   refine pl_val (.bool ((decide (s197.1 < size)) && (!(s197.2.2.2.2 && (decide (0 < s197.2.2.1)))))) (y_pick_f (congrArg Value.bool a8) (congrArg Value.bool (by rw [a8]; rfl))) ?_
   refine c_nil ?_
   exact ⟨_, fr_ovl 102 ⟨rfl, rfl, rfl, rfl, rfl, rfl, rfl, rfl, rfl, trivial⟩, hMid⟩
  rintro e3 g1 ⟨σ, rfl, d2⟩
  have h0 := h0.ext d2
  have h1 := h1.ext d2
  have h2 := h2.ext d2
  have a1 := a1.cn d2
  have a0 := a0.cn d2
  have a4 := a4.ext d2
  have hC := hC.ext d2
  have hO := hO.ext d2
  rcases bif_some hs with ⟨h7, hs⟩ | ⟨h7, hs⟩
  ·refine c_condT (congrArg Value.bool h7) ?_
   refine wp_skip ?_
   refine c_seq ?_
   refine wp_block ?_
   refine c_seq ?_
   refine c_seq ?_
   obtain ⟨s213, n1, hs⟩ := bind_some hs
   refine c_mid (I := fun a k3 => ∃ (σ : Nat → Value), a = fr 102 (ovl σ [(0, (.int .i64 size)), (1, (.slice pa0 pn0 pc0)), (2, (.slice pa1 pn1 pc1)), (3, (.slice pa2 pn2 pc2)), (9, (.pointer (some ⟨a2, 0, none⟩))), (10, (.pointer (some ⟨a3, 0, none⟩))), (11, (.int .i64 (begun.length : Int))), (12, (.int .i64 s197.1)), (67, (.bool s213))]) ∧ Chg [] g1 k3) ?_ ?_
   ·replace hs := n1
    have hMid := Chg.refl [] g1
    refine c_region ?_
    refine pl_val (.slice pa1 pn1 pc1) (y_move rfl) ?_
    refine pl_val (.int .i64 (begun.length : Int)) (y_move rfl) ?_
    obtain ⟨x216, n2, hs⟩ := bind_some hs
    obtain ⟨n3, n4, n5, n6⟩ := rs_idx Sl41 Sz3 h1 n2
    refine pl_val (.pointer (some ⟨n3, n4, none⟩)) (n5 _ _ _ _ _ _ _ _ _ rfl rfl) ?_
    refine pl_val (.int .i64 x216) (y_load rfl ((at_load_int Ag3 Sz3 n6) _ (Chg.refl _ _))) ?_
    refine pl_val (.bool (decide (0 ≤ x216))) (y_geq rfl rfl) ?_
    refine pl_val (.bool (decide (0 ≤ x216))) (y_move rfl) ?_
    rcases bif_some hs with ⟨b3, hs⟩ | ⟨b3, hs⟩
    ·skip
     refine pl_yes (.slice pa1 pn1 pc1) (tg := 60) (by kernel_rfl) (congrArg Value.bool b3) (y_move rfl) ?_
     refine pl_yes (.int .i64 (begun.length : Int)) (tg := 60) (by kernel_rfl) (congrArg Value.bool b3) (y_move rfl) ?_
     obtain ⟨x219, n7, hs⟩ := bind_some hs
     obtain ⟨n8, n9, o0, o1⟩ := rs_idx Sl41 Sz3 h1 n7
     refine pl_yes (.pointer (some ⟨n8, n9, none⟩)) (tg := 60) (by kernel_rfl) (congrArg Value.bool b3) (o0 _ _ _ _ _ _ _ _ _ rfl rfl) ?_
     refine pl_yes (.int .i64 x219) (tg := 60) (by kernel_rfl) (congrArg Value.bool b3) (y_load rfl ((at_load_int Ag3 Sz3 o1) _ (Chg.refl _ _))) ?_
     refine pl_yes (.int .i64 s197.1) (tg := 60) (by kernel_rfl) (congrArg Value.bool b3) (y_move rfl) ?_
     refine pl_yes (.bool (x219 != s197.1)) (tg := 60) (by kernel_rfl) (congrArg Value.bool b3) (y_neq rfl rfl) ?_
     refine pl_val (.bool (x219 != s197.1)) (y_pick_t (congrArg Value.bool b3) rfl) ?_
     refine c_nil ?_
     cases hs
     exact ⟨_, fr_ovl 102 ⟨rfl, rfl, rfl, rfl, rfl, rfl, rfl, rfl, rfl, trivial⟩, hMid⟩
    refine pl_not (tg := 60) (by kernel_rfl) (congrArg Value.bool b3) ?_
    refine pl_not (tg := 60) (by kernel_rfl) (congrArg Value.bool b3) ?_
    refine pl_not (tg := 60) (by kernel_rfl) (congrArg Value.bool b3) ?_
    refine pl_not (tg := 60) (by kernel_rfl) (congrArg Value.bool b3) ?_
    refine pl_not (tg := 60) (by kernel_rfl) (congrArg Value.bool b3) ?_
    refine pl_not (tg := 60) (by kernel_rfl) (congrArg Value.bool b3) ?_
    refine pl_val (.bool false) (y_pick_f (congrArg Value.bool b3) rfl) ?_
    refine c_nil ?_
    cases hs
    exact ⟨_, fr_ovl 102 ⟨rfl, rfl, rfl, rfl, rfl, rfl, rfl, rfl, rfl, trivial⟩, hMid⟩
   rintro e3 k3 ⟨σ, rfl, d3⟩
   have h0 := h0.ext d3
   have h1 := h1.ext d3
   have h2 := h2.ext d3
   have a1 := a1.cn d3
   have a0 := a0.cn d3
   have a4 := a4.ext d3
   have hC := hC.ext d3
   have hO := hO.ext d3
   rcases bif_some hs with ⟨h8, hs⟩ | ⟨h8, hs⟩
   ·refine c_condT (congrArg Value.bool h8) ?_
    refine wp_exit ?_
    refine c_region ?_
    refine pl_val (.int .i64 s197.1) (y_move rfl) ?_
    refine pl_val (.int .i64 (w64 (s197.1 + 1))) (y_add rfl rfl) ?_
    refine pl_val (.int .i64 (w64 (s197.1 + 1))) (y_assign rfl) ?_
    refine c_nil ?_
    cases hs
    have hO := hO.fr2
    have hO := hO.fr2
    have hO := hO.fr2
    exact ⟨_, b0, b1, b2, b4, fr_ovl 102 ⟨rfl, rfl, rfl, rfl, rfl, rfl, rfl, rfl, trivial⟩, hC, hO, h0, h1, h2, a1, a0, a4⟩
   refine c_condF (congrArg Value.bool h8) ?_
   refine wp_skip ?_
   refine c_sr ?_
   refine pl_val (.slice pa2 pn2 pc2) (y_move rfl) ?_
   obtain ⟨r223, o2, hs⟩ := bind_some hs
   refine pl_call Bd121 rfl (c_spec_l1Own (M := M) begun h2 hO.fut o2) ?_
   rintro _ o3 ⟨t4, t5, t6, o4, rfl, d4, g2, o5⟩
   have h0 := h0.ext d4
   have h1 := h1.ext d4
   have h2 := h2.ext d4
   have a1 := a1.cn d4
   have a0 := a0.cn d4
   have a4 := a4.ext d4
   have hC := hC.ext d4
   have hO := Own.join0 hO d4 o5
   have hO := hO.perm (R := o4 ++ (b4 ++ (([a3]) ++ (([a2]) ++ ([]))))) (by simp)
   refine pl_val (.int .i64 s197.1) (y_move rfl) ?_
   obtain ⟨k4, h9, o6, k5, c1, k6⟩ := new_block o3 [(.int .i64 s197.1)] 3
   refine pl_val (w' := k4) (.slice (some ⟨h9, 0, none⟩) 1 1) (y_bslice rfl (by rw [o6, k5]; kernel_rfl)) ?_
   have h0 := h0.ext c1
   have h1 := h1.ext c1
   have h2 := h2.ext c1
   have a1 := a1.cn c1
   have a0 := a0.cn c1
   have a4 := a4.ext c1
   have g2 := g2.ext c1
   have hC := hC.ext c1
   have hO := hO.new1 c1 k5 k6.lt
   have i0 := os_of_box (r := (RT.int .i64)) (M := M) (css := [[(.int .i64 s197.1)]]) (fps := [([] : List Nat)]) (xs := ([s197.1] : List Int)) k6 ⟨⟨rfl, rfl⟩, trivial⟩ (Nat.le_of_ble_eq_true rfl) (List.nodup_cons.2 ⟨(fun h => nomatch h), List.nodup_nil⟩)
   have i0 : (RT.os 3 (RT.int .i64)).val M k4 (.slice (some ⟨h9, 0, none⟩) 1 1) [s197.1] [h9] := i0
   obtain ⟨y228, o7, hs⟩ := bind_some hs
   have hO := hO.fr1
   obtain ⟨c2, c3, c4, o8, d5, o9, d6, p0, a9⟩ := app_os Rw41 o7 g2 i0 hO.inM (fun g hg hq => hO.apart g hq (mem_l hg))
   have e5 := os_block g2
   refine pl_val (w' := o8) (.slice c2 c3 c4) (y_append rfl rfl (o9 _)) ?_
   have hO := hO.fr1
   have hO := hO.fr1
   have h0 := h0.mt d6 hO e5
   have h1 := h1.mt d6 hO e5
   have h2 := h2.mt d6 hO e5
   have a1 := a1.ap d6 hO e5 (mem_r (mem_r (mem_r (mem_l (List.mem_singleton.2 rfl)))))
   have a0 := a0.ap d6 hO e5 (mem_r (mem_r (mem_l (List.mem_singleton.2 rfl))))
   have a4 := a4.ma d6 hO e5 (fun _ e => (mem_r (mem_l (e))))
   have hC := hC.st d6 hO e5
   have hO := hO.eat d6 p0 (os_nodup a9) a9.fpl
   refine pl_val (.slice c2 c3 c4) (y_assign rfl) ?_
   refine c_nil ?_
   refine c_sr ?_
   refine pl_val (.bool true) (y_assign rfl) ?_
   refine c_nil ?_
   refine c_seq ?_
   refine c_sr ?_
   refine pl_val (.int .i64 0) (y_assign rfl) ?_
   refine c_nil ?_
   obtain ⟨o254, p1, hs⟩ := bind_some hs
   refine wp_block ?_
   refine wp_iter (id := 2) (I := fun s250 a a5 => ∃ (σ : Nat → Value), a = fr 102 (ovl σ [(0, (.int .i64 size)), (1, (.slice pa0 pn0 pc0)), (2, (.slice pa1 pn1 pc1)), (3, (.slice pa2 pn2 pc2)), (9, (.pointer (some ⟨a2, 0, none⟩))), (10, (.pointer (some ⟨a3, 0, none⟩))), (11, (.int .i64 (begun.length : Int))), (12, (.int .i64 s197.1)), (13, (.slice c2 c3 c4)), (14, (.bool s250.1)), (15, (.int .i64 s250.2))]) ∧ Chg (pf3 ++ ([])) w a5 ∧ Own (Nw w (pf3 ++ ([]))) M a5 (d5 ++ (b4 ++ (([a3]) ++ (([a2]) ++ [])))) ∧ (RT.rs (RT.rs (RT.pr (RT.rs (RT.int .i64)) (RT.pr (RT.int .i64) (RT.rs (RT.rs (RT.int .i64))))))).val M a5 (.slice pa0 pn0 pc0) at_ ([]) ∧ (RT.rs (RT.int .i64)).val M a5 (.slice pa1 pn1 pc1) partial_ ([]) ∧ (RT.rs (RT.int .i64)).val M a5 (.slice pa2 pn2 pc2) begun ([]) ∧ BoxV a5 a2 76 [(.slice b0 b1 b2), (.int .i64 s197.2.2.1), (.int .i64 s197.2.2.2.1), (.bool s197.2.2.2.2)] ∧ BoxV a5 a3 76 [(.slice none 0 0), (.int .i64 0), (.int .i64 0), (.bool false)] ∧ (RT.os 41 (RT.os 3 (RT.int .i64))).val M a5 (.slice b0 b1 b2) s197.2.1 b4 ∧ (RT.os 3 (RT.int .i64)).val M a5 (.slice c2 c3 c4) y228 d5) (J := fun s250 a a5 => ∃ (σ : Nat → Value), a = fr 102 (ovl σ [(0, (.int .i64 size)), (1, (.slice pa0 pn0 pc0)), (2, (.slice pa1 pn1 pc1)), (3, (.slice pa2 pn2 pc2)), (9, (.pointer (some ⟨a2, 0, none⟩))), (10, (.pointer (some ⟨a3, 0, none⟩))), (11, (.int .i64 (begun.length : Int))), (12, (.int .i64 s197.1)), (13, (.slice c2 c3 c4)), (14, (.bool s250.1))]) ∧ Chg (pf3 ++ ([])) w a5 ∧ Own (Nw w (pf3 ++ ([]))) M a5 (d5 ++ (b4 ++ (([a3]) ++ (([a2]) ++ [])))) ∧ (RT.rs (RT.rs (RT.pr (RT.rs (RT.int .i64)) (RT.pr (RT.int .i64) (RT.rs (RT.rs (RT.int .i64))))))).val M a5 (.slice pa0 pn0 pc0) at_ ([]) ∧ (RT.rs (RT.int .i64)).val M a5 (.slice pa1 pn1 pc1) partial_ ([]) ∧ (RT.rs (RT.int .i64)).val M a5 (.slice pa2 pn2 pc2) begun ([]) ∧ BoxV a5 a2 76 [(.slice b0 b1 b2), (.int .i64 s197.2.2.1), (.int .i64 s197.2.2.2.1), (.bool s197.2.2.2.2)] ∧ BoxV a5 a3 76 [(.slice none 0 0), (.int .i64 0), (.int .i64 0), (.bool false)] ∧ (RT.os 41 (RT.os 3 (RT.int .i64))).val M a5 (.slice b0 b1 b2) s197.2.1 b4 ∧ (RT.os 3 (RT.int .i64)).val M a5 (.slice c2 c3 c4) y228 d5) (K := (k_spec_l19Go__take4 M w pa3 pn3 pc3 pf3)) ?_ FU (true, 0) o254 _ _ ?_ p1 ?_
   ·rintro s250 o254 a a5 ⟨σ, rfl, hC, hO, h0, h1, h2, a1, a0, a4, a9⟩ hs
    refine c_seq ?_
    refine c_seq ?_
    obtain ⟨s256, p2, hs⟩ := bind_some hs
    refine c_mid (I := fun a k7 => ∃ (σ : Nat → Value), a = fr 102 (ovl σ [(0, (.int .i64 size)), (1, (.slice pa0 pn0 pc0)), (2, (.slice pa1 pn1 pc1)), (3, (.slice pa2 pn2 pc2)), (9, (.pointer (some ⟨a2, 0, none⟩))), (10, (.pointer (some ⟨a3, 0, none⟩))), (11, (.int .i64 (begun.length : Int))), (12, (.int .i64 s197.1)), (13, (.slice c2 c3 c4)), (14, (.bool s250.1)), (15, (.int .i64 s250.2)), (82, (.bool s256))]) ∧ Chg [] a5 k7) ?_ ?_
    ·replace hs := p2
     have hMid := Chg.refl [] a5
     refine c_region ?_
     refine pl_val (.int .i64 s250.2) (y_move rfl) ?_
     refine pl_val (.slice pa0 pn0 pc0) (y_move rfl) ?_
     refine pl_val (.int .i64 (begun.length : Int)) (y_move rfl) ?_
     obtain ⟨x259, p3, hs⟩ := bind_some hs
     obtain ⟨p4, p5, p6, p7⟩ := rs_idx Sl117 Sz28 h0 p3
     refine pl_val (.pointer (some ⟨p4, p5, none⟩)) (p6 _ _ _ _ _ _ _ _ _ rfl rfl) ?_
     obtain ⟨t7, p8, k8⟩ := at_load Ag28 Sz28 (fun _ => rfl) p7
     obtain ⟨p9, q0, q1, rfl⟩ := rs_sl k8
     refine pl_val (.slice p9 q0 q1) (y_load rfl (p8 _ (Chg.refl _ _))) ?_
     refine pl_val (.int .i64 (x259.length : Int)) (y_len' Sl28 (rs_len k8) rfl) ?_
     refine pl_val (.bool (decide (s250.2 < (x259.length : Int)))) (y_lss rfl rfl) ?_
     refine pl_val (.bool (decide (s250.2 < (x259.length : Int)))) (y_move rfl) ?_
     rcases bif_some hs with ⟨f1, hs⟩ | ⟨f1, hs⟩
     ·skip
      refine pl_yes (.bool s250.1) (tg := 80) (by kernel_rfl) (congrArg Value.bool f1) (y_move rfl) ?_
      refine pl_val (.bool s250.1) (y_pick_t (congrArg Value.bool f1) rfl) ?_
      refine c_nil ?_
      cases hs
      exact ⟨_, fr_ovl 102 ⟨rfl, rfl, rfl, rfl, rfl, rfl, rfl, rfl, rfl, rfl, rfl, rfl, trivial⟩, hMid⟩
     refine pl_not (tg := 80) (by kernel_rfl) (congrArg Value.bool f1) ?_
     refine pl_val (.bool false) (y_pick_f (congrArg Value.bool f1) rfl) ?_
     refine c_nil ?_
     cases hs
     exact ⟨_, fr_ovl 102 ⟨rfl, rfl, rfl, rfl, rfl, rfl, rfl, rfl, rfl, rfl, rfl, rfl, trivial⟩, hMid⟩
    rintro e3 k7 ⟨σ, rfl, c5⟩
    have h0 := h0.ext c5
    have h1 := h1.ext c5
    have h2 := h2.ext c5
    have a1 := a1.cn c5
    have a0 := a0.cn c5
    have a4 := a4.ext c5
    have a9 := a9.ext c5
    have hC := hC.ext c5
    have hO := hO.ext c5
    rcases bif_some hs with ⟨i1, hs⟩ | ⟨i1, hs⟩
    ·refine c_condT (congrArg Value.bool i1) ?_
     refine wp_skip ?_
     refine c_seq ?_
     refine wp_block ?_
     refine c_region ?_
     refine pl_val (.slice pa0 pn0 pc0) (y_move rfl) ?_
     refine pl_val (.int .i64 (begun.length : Int)) (y_move rfl) ?_
     obtain ⟨x265, q2, hs⟩ := bind_some hs
     obtain ⟨q3, q4, q5, q6⟩ := rs_idx Sl117 Sz28 h0 q2
     refine pl_val (.pointer (some ⟨q3, q4, none⟩)) (q5 _ _ _ _ _ _ _ _ _ rfl rfl) ?_
     obtain ⟨t8, q7, g3⟩ := at_load Ag28 Sz28 (fun _ => rfl) q6
     obtain ⟨q8, q9, r0, rfl⟩ := rs_sl g3
     refine pl_val (.slice q8 q9 r0) (y_load rfl (q7 _ (Chg.refl _ _))) ?_
     refine pl_val (.int .i64 s250.2) (y_move rfl) ?_
     obtain ⟨x269, r1, hs⟩ := bind_some hs
     obtain ⟨r2, r3, r4, r5⟩ := rs_idx Sl28 Sz56 g3 r1
     refine pl_val (.pointer (some ⟨r2, r3, none⟩)) (r4 _ _ _ _ _ _ _ _ _ rfl rfl) ?_
     obtain ⟨t9, r6, r7⟩ := at_load Ag56 Sz56 (by intro h; cases h) r5
     obtain ⟨u0, rfl, r8⟩ := r7
     obtain ⟨u1, u2, rfl, r9, s0⟩ := pr_open r8
     obtain ⟨s1, s2, s3, rfl, i2⟩ := rs_rel r9
     obtain ⟨u3, u4, rfl, s4, s5⟩ := pr_open s0
     obtain rfl := int_rel s4
     obtain ⟨s6, s7, s8, rfl, i3⟩ := rs_rel s5
     refine pl_val (.agg #[(.slice s1 s2 s3), (.int .i64 x269.2.1), (.slice s6 s7 s8)]) (y_load rfl (r6 _ (Chg.refl _ _))) ?_
     refine pl_val (.slice c2 c3 c4) (y_move rfl) ?_
     obtain ⟨r275, s9, hs⟩ := bind_some hs
     refine pl_call Bd130 rfl (c_spec_l19Satisfies (M := (Less M d5)) (x269.1, (x269.2.1, x269.2.2)) y228 (i2.sub Less.sub) (i3.sub Less.sub) (((Frz.os Frz.int)).val a9 Less.sub Less.not) hO.less.fut s9) ?_
     rintro _ u5 ⟨rfl, b5⟩
     have h0 := h0.ext b5
     have h1 := h1.ext b5
     have h2 := h2.ext b5
     have a1 := a1.cn b5
     have a0 := a0.cn b5
     have a4 := a4.ext b5
     have a9 := a9.ext b5
     have g3 := g3.ext b5
     have i2 := i2.ext b5
     have i3 := i3.ext b5
     have hC := hC.ext b5
     have hO := hO.ext b5
     refine pl_val (.bool r275) (y_assign rfl) ?_
     refine c_nil ?_
     refine c_region ?_
     refine pl_val (.int .i64 s250.2) (y_move rfl) ?_
     refine pl_val (.int .i64 (w64 (s250.2 + 1))) (y_add rfl rfl) ?_
     refine pl_val (.int .i64 (w64 (s250.2 + 1))) (y_assign rfl) ?_
     refine c_nil ?_
     cases hs
     have hO := hO.fr3
     have hO := hO.fr3
     have hO := hO.fr3
     have hO := hO.fr3
     exact ⟨_, fr_ovl 102 ⟨rfl, rfl, rfl, rfl, rfl, rfl, rfl, rfl, rfl, rfl, rfl, trivial⟩, hC, hO, h0, h1, h2, a1, a0, a4, a9⟩
    refine c_condF (congrArg Value.bool i1) ?_
    refine wp_exit ?_
    cases hs
    have hO := hO.fr3
    have hO := hO.fr3
    have hO := hO.fr3
    have hO := hO.fr3
    exact ⟨rfl, _, fr_ovl 102 ⟨rfl, rfl, rfl, rfl, rfl, rfl, rfl, rfl, rfl, rfl, trivial⟩, hC, hO, h0, h1, h2, a1, a0, a4, a9⟩
   ·skip
    have hO := hO.fr3
    have hO := hO.fr3
    have hO := hO.fr3
    have hO := hO.fr3
    exact ⟨_, fr_ovl 102 ⟨rfl, rfl, rfl, rfl, rfl, rfl, rfl, rfl, rfl, rfl, rfl, trivial⟩, hC, hO, h0, h1, h2, a1, a0, a4, a9⟩
   cases o254 with
   | nx _ => exact True.intro
   | rt r_ =>
    have hs := after_rt hs
    intro e3 j3 hK
    cases hs
    exact hK
   | br s250 =>
    have hs := after_br hs
    rintro e3 a5 ⟨σ, rfl, hC, hO, h0, h1, h2, a1, a0, a4, a9⟩
    refine c_sr ?_
    refine pl_val (.bool s250.1) (y_move rfl) ?_
    refine c_nil ?_
    rcases bif_some hs with ⟨i4, hs⟩ | ⟨i4, hs⟩
    ·refine c_condT (congrArg Value.bool i4) ?_
     refine c_region ?_
     refine pl_val (.int .i64 size) (y_move rfl) ?_
     refine pl_val (.slice pa0 pn0 pc0) (y_move rfl) ?_
     refine pl_val (.slice pa1 pn1 pc1) (y_move rfl) ?_
     refine pl_val (.slice c2 c3 c4) (y_move rfl) ?_
     refine pl_val (.agg #[(.slice b0 b1 b2), (.int .i64 s197.2.2.1), (.int .i64 s197.2.2.2.1), (.bool s197.2.2.2.2)]) (y_load rfl ((box_load Ag76 Sz76 a1 [] [(.slice b0 b1 b2), (.int .i64 s197.2.2.1), (.int .i64 s197.2.2.2.1), (.bool s197.2.2.2.2)] [] rfl rfl (fun h => nomatch h)) _ (Chg.refl _ _))) ?_
     have hO := hO.fr1
     have i5 := hO
     have i5 := i5.fr1
     have k9 := Own.lend (F := (b4 ++ ([]))) (R := ([a3]) ++ (([a2]) ++ ([]))) (Own.perm (i5.less) (by simp))
     obtain ⟨r278, t0, hs⟩ := bind_some hs
     refine pl_call Bd101 rfl (c_ih (M := (Less M d5)) size at_ partial_ y228 (s197.2.1, s197.2.2.1, s197.2.2.2.1, s197.2.2.2.2) (h0.sub Less.sub) (h1.sub Less.sub) (((Frz.os Frz.int)).val a9 Less.sub Less.not) (a4.sub Less.sub) k9 k9.fut t0) ?_
     rintro _ u6 ⟨i6, i7, i9, l0, rfl, d7, f2, t1⟩
     have hO := hO.fr1
     have hO := hO.fr1
     have hO := hO.perm (R := (b4 ++ ([])) ++ (d5 ++ (([a3]) ++ (([a2]) ++ ([]))))) (by simp)
     have h0 := h0.mt d7 hO same_
     have h1 := h1.mt d7 hO same_
     have h2 := h2.mt d7 hO same_
     have a1 := a1.ap d7 hO same_ (mem_r (mem_r (mem_l (List.mem_singleton.2 rfl))))
     have a0 := a0.ap d7 hO same_ (mem_r (mem_l (List.mem_singleton.2 rfl)))
     have a9 := a9.ma d7 hO same_ (fun _ e => (mem_l (e)))
     have hC := hC.st d7 hO same_
     have hO := Own.join hO d7 t1
     have hO := hO.perm (R := l0 ++ (d5 ++ (([a3]) ++ (([a2]) ++ ([]))))) (by simp)
     have f2 := f2.free (M' := M) (Free.os (Free.os Free.int))
     obtain ⟨l1, t2, d8, j0⟩ := box_store (P := Try.prog) a1 [] [(.slice b0 b1 b2), (.int .i64 s197.2.2.1), (.int .i64 s197.2.2.2.1), (.bool s197.2.2.2.2)] [] [(.slice i6 i7 i9), (.int .i64 r278.2.1), (.int .i64 r278.2.2.1), (.bool r278.2.2.2)] rfl rfl (by intro u hu; simp only [List.mem_cons, List.not_mem_nil, or_false] at hu; rcases hu with rfl | rfl | rfl | rfl <;> rfl)
     refine pl_skip (w' := l1) (ys_store rfl rfl (t2 _ _ rfl Sz76)) ?_
     have hO := hO.fr3
     have h0 := h0.mt d8 hO same_
     have h1 := h1.mt d8 hO same_
     have h2 := h2.mt d8 hO same_
     have a0 := a0.ap d8 hO same_ (mem_r (mem_r (mem_l (List.mem_singleton.2 rfl))))
     have a9 := a9.ma d8 hO same_ (fun _ e => (mem_r (mem_l (e))))
     have f2 := f2.ma d8 hO same_ (fun _ e => (mem_l (e)))
     have hC := hC.st d8 hO same_
     have hO := hO.ext d8
     have j0 : BoxV l1 a2 76 [(.slice i6 i7 i9), (.int .i64 r278.2.1), (.int .i64 r278.2.2.1), (.bool r278.2.2.2)] := j0
     refine c_nil ?_
     refine c_region ?_
     refine pl_val (.int .i64 s197.1) (y_move rfl) ?_
     refine pl_val (.int .i64 (w64 (s197.1 + 1))) (y_add rfl rfl) ?_
     refine pl_val (.int .i64 (w64 (s197.1 + 1))) (y_assign rfl) ?_
     refine c_nil ?_
     cases hs
     have hO := hO.fr2
     have hO := hO.drop
     have hO := hO.fr2
     have hO := hO.fr2
     exact ⟨_, i6, i7, i9, l0, fr_ovl 102 ⟨rfl, rfl, rfl, rfl, rfl, rfl, rfl, rfl, trivial⟩, hC, hO, h0, h1, h2, j0, a0, f2⟩
    refine c_condF (congrArg Value.bool i4) ?_
    refine wp_skip ?_
    refine c_region ?_
    refine pl_val (.int .i64 s197.1) (y_move rfl) ?_
    refine pl_val (.int .i64 (w64 (s197.1 + 1))) (y_add rfl rfl) ?_
    refine pl_val (.int .i64 (w64 (s197.1 + 1))) (y_assign rfl) ?_
    refine c_nil ?_
    cases hs
    have hO := hO.drop
    have hO := hO.fr2
    have hO := hO.fr2
    have hO := hO.fr2
    exact ⟨_, b0, b1, b2, b4, fr_ovl 102 ⟨rfl, rfl, rfl, rfl, rfl, rfl, rfl, rfl, trivial⟩, hC, hO, h0, h1, h2, a1, a0, a4⟩
  refine c_condF (congrArg Value.bool h7) ?_
  refine wp_exit ?_
  cases hs
  have hO := hO.fr2
  have hO := hO.fr2
  have hO := hO.fr2
  exact ⟨rfl, _, b0, b1, b2, b4, fr_ovl 102 ⟨rfl, rfl, trivial⟩, hC, hO, h0, h1, h2, a1, a0, a4⟩
 ·skip
  have hO := hO.fr1
  have hO := hO.fr1
  have hO := hO.fr2
  exact ⟨_, pa3, pn3, pc3, pf3, fr_ovl 102 ⟨rfl, rfl, rfl, rfl, rfl, rfl, rfl, rfl, trivial⟩, hC, hO, h0, h1, h2, a1, a0, h3⟩
 cases o201 with
 | nx _ => exact True.intro
 | rt r_ =>
  have hs := after_rt hs
  intro e3 j3 hK
  cases hs
  exact hK
 | br s197 =>
  have hs := after_br hs
  rintro e3 a6 ⟨σ, c9, d0, d1, g0, rfl, hC, hO, h0, h1, h2, a1, a0, j1⟩
  refine c_sr ?_
  refine pl_val (.agg #[(.slice c9 d0 d1), (.int .i64 s197.2.2.1), (.int .i64 s197.2.2.2.1), (.bool s197.2.2.2.2)]) (y_load rfl ((box_load Ag76 Sz76 a1 [] [(.slice c9 d0 d1), (.int .i64 s197.2.2.1), (.int .i64 s197.2.2.2.1), (.bool s197.2.2.2.2)] [] rfl rfl (fun h => nomatch h)) _ (Chg.refl _ _))) ?_
  obtain ⟨l2, t3, e6, j2⟩ := box_store (P := Try.prog) a0 [] [(.slice none 0 0), (.int .i64 0), (.int .i64 0), (.bool false)] [] [(.slice c9 d0 d1), (.int .i64 s197.2.2.1), (.int .i64 s197.2.2.2.1), (.bool s197.2.2.2.2)] rfl rfl (by intro u hu; simp only [List.mem_cons, List.not_mem_nil, or_false] at hu; rcases hu with rfl | rfl | rfl | rfl <;> rfl)
  refine pl_skip (w' := l2) (ys_store rfl rfl (t3 _ _ rfl Sz76)) ?_
  have hO := hO.fr1
  have h0 := h0.mt e6 hO same_
  have h1 := h1.mt e6 hO same_
  have h2 := h2.mt e6 hO same_
  have a1 := a1.ap e6 hO same_ (mem_r (mem_l (List.mem_singleton.2 rfl)))
  have j1 := j1.ma e6 hO same_ (fun _ e => (mem_l (e)))
  have hC := hC.st e6 hO same_
  have hO := hO.ext e6
  have j2 : BoxV l2 a3 76 [(.slice c9 d0 d1), (.int .i64 s197.2.2.1), (.int .i64 s197.2.2.2.1), (.bool s197.2.2.2.2)] := j2
  refine c_nil ?_
  refine wp_ret ?_
  cases hs
  have hO := hO.drop
  have hO := hO.fr1
  have hO := hO.drop
  exact ⟨_, a3, c9, d0, d1, g0, fr_ovl 102 ⟨rfl, trivial⟩, j2, hC, j1, hO.top⟩

theorem Bd102 : Bodied Try.prog 102 := bodied Try.func102 (by kernel_rfl) rfl

def k_spec_l19Find (M : Nat → Prop) (w0 : World) (r : ((List (List Int)) × Int × Int × Bool)) (a : Act) (w : World) : Prop :=
  ∃ (σ : Nat → Value) (rg10 : Nat) (ra0 : Option Addr) (rn0 rc0 : Nat) (rf0 : List Nat), a = fr 23 (ovl σ [(10, (.pointer (some ⟨rg10, 0, none⟩)))]) ∧ BoxV w rg10 76 [(.slice ra0 rn0 rc0), (.int .i64 r.2.1), (.int .i64 r.2.2.1), (.bool r.2.2.2)] ∧ Chg [] w0 w ∧ (RT.os 41 (RT.os 3 (RT.int .i64))).val M w (.slice ra0 rn0 rc0) r.1 rf0 ∧ Own (Nw w0 []) (fun _ => True) w (rf0 ++ ([]))
def s_spec_l19Find (net : Int × Int × (List ((List Int) × (Int × (List (List Int)))))) (list : List ((List Int) × (Int × (List (List Int))))) (partial_ : List Int) (most : Int) (one : Bool) : Option (((List (List Int)) × Int × Int × Bool)) :=
  (s_spec_l19Most net.1 list).bind fun r8 =>
  (s_spec_l19Go__take4 FU net.2.1 r8 partial_ ([]) ([], 0, most, one)).bind fun r15 =>
  some (r15.1, r15.2.1, r15.2.2.1, r15.2.2.2)
set_option maxHeartbeats 4000000 in
theorem c_spec_l19Find {M : Nat → Prop} {w : World} {pa0 : Option Addr} {pn0 pc0 : Nat} {pa1 : Option Addr} {pn1 pc1 : Nat} {pa2 : Option Addr} {pn2 pc2 : Nat} (net : Int × Int × (List ((List Int) × (Int × (List (List Int)))))) (list : List ((List Int) × (Int × (List (List Int))))) (partial_ : List Int) (most : Int) (one : Bool) (h0 : (RT.rs (RT.pr (RT.rs (RT.int .i64)) (RT.pr (RT.int .i64) (RT.rs (RT.rs (RT.int .i64)))))).val M w (.slice pa0 pn0 pc0) net.2.2 ([])) (h1 : (RT.rs (RT.pr (RT.rs (RT.int .i64)) (RT.pr (RT.int .i64) (RT.rs (RT.rs (RT.int .i64)))))).val M w (.slice pa1 pn1 pc1) list ([])) (h2 : (RT.rs (RT.int .i64)).val M w (.slice pa2 pn2 pc2) partial_ ([])) (hM : ∀ g, w.heap.size ≤ g → M g) {r : ((List (List Int)) × Int × Int × Bool)} (hs : s_spec_l19Find net list partial_ most one = some r) :
    Gives Try.prog 48 [(.agg #[(.int .i64 net.1), (.int .i64 net.2.1), (.slice pa0 pn0 pc0)]), (.slice pa1 pn1 pc1), (.slice pa2 pn2 pc2), (.int .i64 most), (.bool one)] w (fun v w' => ∃ (ra0 : Option Addr) (rn0 rc0 : Nat) (rf0 : List Nat), v = (.agg #[(.slice ra0 rn0 rc0), (.int .i64 r.2.1), (.int .i64 r.2.2.1), (.bool r.2.2.2)]) ∧ Chg [] w w' ∧ (RT.os 41 (RT.os 3 (RT.int .i64))).val M w' (.slice ra0 rn0 rc0) r.1 rf0 ∧ Own (Nw w []) (fun _ => True) w' (rf0 ++ ([]))) := by
 refine calls_fr Try.func48 rfl Try.ntmps48 (Nat.le_of_ble_eq_true rfl) ?_
 have hO := Own.start (N := Nw w []) hM Nw.fut
 have hC := Chg.refl [] w
 unfold s_spec_l19Find at hs
 refine wp_mono (Q := KPost (k_spec_l19Find M w r)) ?_ (fun e a h3 h => ?_)
 rotate_left
 ·cases e
  case ret =>
   obtain ⟨σ, rg10, ra0, rn0, rc0, rf0, rfl, hbrg10, hrest⟩ := h
   exact ret1x Try.results48 (res_cell rfl (box_load Ag76 Sz76 hbrg10 [] _ [] rfl rfl (fun h => nomatch h))) ⟨ra0, rn0, rc0, rf0, rfl, hrest⟩
  all_goals exact (h : False).elim
 refine c_sr ?_
 obtain ⟨e3, b2, f6, e4, c6, a0⟩ := new_block w [(.int .i64 net.1), (.int .i64 net.2.1), (.slice pa0 pn0 pc0)] 30
 refine pl_val (w' := e3) (.pointer (some ⟨b2, 0, none⟩)) (y_box rfl (by rw [f6, e4]; kernel_rfl)) ?_
 have h0 := h0.ext c6
 have h1 := h1.ext c6
 have h2 := h2.ext c6
 have hC := hC.ext c6
 have hO := hO.new1 c6 e4 a0.lt
 obtain ⟨d3, a4, f7, e5, c0, a1⟩ := new_block e3 [(.slice none 0 0), (.int .i64 0), (.int .i64 0), (.bool false)] 76
 refine pl_val (w' := d3) (.pointer (some ⟨a4, 0, none⟩)) (y_alloc (by rw [f7, e5]; kernel_rfl)) ?_
 have h0 := h0.ext c0
 have h1 := h1.ext c0
 have h2 := h2.ext c0
 have a0 := a0.cn c0
 have hC := hC.ext c0
 have hO := hO.new1 c0 e5 a1.lt
 refine c_nil ?_
 refine c_seq ?_
 refine x_start [12] Mx rfl ?_
 have b7 := Chg.drew d3
 generalize World.drew d3 = a5 at b7 ⊢
 have h0 := h0.ext b7
 have h1 := h1.ext b7
 have h2 := h2.ext b7
 have a0 := a0.cn b7
 have a1 := a1.cn b7
 have hC := hC.ext b7
 have hO := hO.ext b7
 have hS := Chg.refl [] a5
 refine x_p 0 (.pointer (some ⟨b2, 1, none⟩)) rfl (by kernel_rfl)  (fun _ => y_faddr rfl Fa30x1) (fun _ => hS) ?_
 refine x_l 1 (.int .i64 net.2.1) rfl (by kernel_rfl)  (fun w' hw' => y_load rfl ((box_load Ag3 Sz3 a0 [(.int .i64 net.1)] [(.int .i64 net.2.1)] [(.slice pa0 pn0 pc0)] rfl rfl (fun _ => rfl)) w' hw')) hS ?_
 refine x_p 2 (.pointer (some ⟨b2, 0, none⟩)) rfl (by kernel_rfl)  (fun _ => y_faddr rfl Fa30x0) (fun _ => hS) ?_
 refine x_l 3 (.int .i64 net.1) rfl (by kernel_rfl)  (fun w' hw' => y_load rfl ((box_load Ag3 Sz3 a0 [] [(.int .i64 net.1)] [(.int .i64 net.2.1), (.slice pa0 pn0 pc0)] rfl rfl (fun _ => rfl)) w' hw')) hS ?_
 refine x_p 4 (.slice pa1 pn1 pc1) rfl (by kernel_rfl)  (fun _ => y_move rfl) (fun _ => hS) ?_
 refine x_p 6 (.slice pa2 pn2 pc2) rfl (by kernel_rfl)  (fun _ => y_move rfl) (fun _ => hS) ?_
 refine x_p 8 (.int .i64 most) rfl (by kernel_rfl)  (fun _ => y_move rfl) (fun _ => hS) ?_
 refine x_p 9 (.bool one) rfl (by kernel_rfl)  (fun _ => y_move rfl) (fun _ => hS) ?_
 refine x_p 10 (.agg #[(.slice none 0 0), (.int .i64 0), (.int .i64 most), (.bool one)]) rfl (by kernel_rfl)  (fun _ => y_build rfl (by kernel_rfl)) (fun _ => hS) ?_
 refine x_two (i := 5) (j := 7) (by kernel_rfl) ?_ ?_
 ·skip
  obtain ⟨r8, d4, hs⟩ := bind_some hs
  refine xk_call (b := false) rfl  Bd102 rfl (c_spec_l19Most (M := M) net.1 list h1 hO.fut d4) rfl (by rintro _ _ _ ⟨f8, f9, g0, rfl, a8, b8⟩; exact hS.ext a8) ?_
  rintro _ a9 ⟨f8, f9, g0, rfl, a8, b8⟩
  have hK := (show Keeps w M (Past M a5 a9) from Keeps.past hC.size)
  have h0 := h0.ext a8
  have h1 := h1.ext a8
  have h2 := h2.ext a8
  have a0 := a0.cn a8
  have a1 := a1.cn a8
  have hC := hC.ext a8
  have hO := hO.past a8
  have h0 := h0.sub (M' := (Past M a5 a9)) (fun g hg => .inl hg.1)
  have h1 := h1.sub (M' := (Past M a5 a9)) (fun g hg => .inl hg.1)
  have h2 := h2.sub (M' := (Past M a5 a9)) (fun g hg => .inl hg.1)
  have hS := hS.ext a8
  refine x_one (i := 7) (by kernel_rfl) ?_
  obtain ⟨d5, c1, g1, e6, b0, e7⟩ := new_block a9 [] 3
  refine xk_val (w' := d5) (b := false) (.slice (some ⟨c1, 0, none⟩) 0 0) rfl  (y_bslice rfl (by rw [g1, e6]; kernel_rfl)) rfl (fun _ => hS.ext b0) ?_
  have h0 := h0.ext b0
  have h1 := h1.ext b0
  have h2 := h2.ext b0
  have a0 := a0.cn b0
  have a1 := a1.cn b0
  have b8 := b8.ext b0
  have hC := hC.ext b0
  have hO := hO.new1 b0 e6 e7.lt
  have b9 := os_of_box (r := (RT.int .i64)) (M := (Past M a5 a9)) (css := []) (fps := []) (xs := ([] : List Int)) e7 trivial (Nat.zero_le _) (List.nodup_cons.2 ⟨(fun h => nomatch h), List.nodup_nil⟩)
  have b9 : (RT.os 3 (RT.int .i64)).val (Past M a5 a9) d5 (.slice (some ⟨c1, 0, none⟩) 0 0) [] [c1] := b9
  have hS := hS.ext b0
  refine x_one (i := 11) (by kernel_rfl) ?_
  have g2 : (RT.os 41 (RT.os 3 (RT.int .i64))).val (Past M a5 a9) d5 (.slice none 0 0) [] [] := os_nil
  have hO := hO.nil
  have hO := hO.fr1
  have hO := hO.fr1
  have d6 := hO
  have d6 := d6.fr1
  have e8 := Own.lend (F := (([]) ++ ([]))) (R := ([a4]) ++ (([b2]) ++ ([]))) (Own.perm (d6.less) (by simp))
  obtain ⟨r15, d7, hs⟩ := bind_some hs
  refine xk_call (b := false) rfl  Bd101 rfl (c_spec_l19Go__take4 FU (M := (Less (Past M a5 a9) ([c1]))) net.2.1 r8 partial_ ([]) ([], 0, most, one) (b8.sub Less.sub) (h2.sub Less.sub) (((Frz.os Frz.int)).val b9 Less.sub Less.not) (g2.sub Less.sub) e8 e8.fut d7) rfl (by rintro _ _ _ ⟨c7, c8, c9, d8, rfl, a2, c2, e9⟩; exact hS.ext a2) ?_
  rintro _ h4 ⟨c7, c8, c9, d8, rfl, a2, c2, e9⟩
  have hO := hO.fr1
  have hO := hO.fr1
  have hO := hO.perm (R := (([]) ++ ([])) ++ (([c1]) ++ (([a4]) ++ (([b2]) ++ ([]))))) (by simp)
  have h0 := h0.mt a2 hO same_
  have h1 := h1.mt a2 hO same_
  have h2 := h2.mt a2 hO same_
  have a0 := a0.ap a2 hO same_ (mem_r (mem_r (mem_l (List.mem_singleton.2 rfl))))
  have a1 := a1.ap a2 hO same_ (mem_r (mem_l (List.mem_singleton.2 rfl)))
  have b8 := b8.mt a2 hO same_
  have b9 := b9.ma a2 hO same_ (fun _ e => (mem_l (e)))
  have hC := hC.st a2 hO same_
  have hO := Own.join hO a2 e9
  have hO := hO.perm (R := d8 ++ (([c1]) ++ (([a4]) ++ (([b2]) ++ ([]))))) (by simp)
  have c2 := c2.free (M' := (Past M a5 a9)) (Free.os (Free.os Free.int))
  have hS := hS.ext a2
  refine x_one (i := 12) (by kernel_rfl) ?_
  obtain ⟨f0, g3, b3, d9⟩ := box_store (P := Try.prog) a1 [] [(.slice none 0 0), (.int .i64 0), (.int .i64 0), (.bool false)] [] [(.slice c7 c8 c9), (.int .i64 r15.2.1), (.int .i64 r15.2.2.1), (.bool r15.2.2.2)] rfl rfl (by intro u hu; simp only [List.mem_cons, List.not_mem_nil, or_false] at hu; rcases hu with rfl | rfl | rfl | rfl <;> rfl)
  refine xk_skip (w' := f0) (b := true) rfl (ys_store rfl rfl (g3 _ _ rfl Sz76)) rfl (fun h => nomatch h) ?_
  have hO := hO.fr2
  have h0 := h0.mt b3 hO same_
  have h1 := h1.mt b3 hO same_
  have h2 := h2.mt b3 hO same_
  have a0 := a0.ap b3 hO same_ (mem_r (mem_r (mem_l (List.mem_singleton.2 rfl))))
  have b8 := b8.mt b3 hO same_
  have b9 := b9.ma b3 hO same_ (fun _ e => (mem_r (mem_l (e))))
  have c2 := c2.ma b3 hO same_ (fun _ e => (mem_l (e)))
  have hC := hC.st b3 hO same_
  have hO := hO.ext b3
  have d9 : BoxV f0 a4 76 [(.slice c7 c8 c9), (.int .i64 r15.2.1), (.int .i64 r15.2.2.1), (.bool r15.2.2.2)] := d9
  refine x_end (by kernel_rfl) ?_
  clear hS
  refine wp_ret ?_
  cases hs
  have hO := hO.drop
  have hO := hO.fr1
  have hO := hO.drop
  have hO := hO.fr1
  have hO := hO.drop
  exact ⟨_, a4, c7, c8, c9, d8, fr_ovl 23 ⟨rfl, trivial⟩, d9, hC, (c2.free (Free.os (Free.os Free.int))), hO.top⟩
 ·skip
  obtain ⟨b1, c3, g4, f1, b4, f2⟩ := new_block a5 [] 3
  refine xk_val (w' := b1) (b := false) (.slice (some ⟨c3, 0, none⟩) 0 0) rfl  (y_bslice rfl (by rw [g4, f1]; kernel_rfl)) rfl (fun _ => hS.ext b4) ?_
  have h0 := h0.ext b4
  have h1 := h1.ext b4
  have h2 := h2.ext b4
  have a0 := a0.cn b4
  have a1 := a1.cn b4
  have hC := hC.ext b4
  have hO := hO.new1 b4 f1 f2.lt
  have a6 := os_of_box (r := (RT.int .i64)) (M := M) (css := []) (fps := []) (xs := ([] : List Int)) f2 trivial (Nat.zero_le _) (List.nodup_cons.2 ⟨(fun h => nomatch h), List.nodup_nil⟩)
  have a6 : (RT.os 3 (RT.int .i64)).val M b1 (.slice (some ⟨c3, 0, none⟩) 0 0) [] [c3] := a6
  have hS := hS.ext b4
  refine x_one (i := 5) (by kernel_rfl) ?_
  obtain ⟨r8, d4, hs⟩ := bind_some hs
  refine xk_call (b := false) rfl  Bd102 rfl (c_spec_l19Most (M := M) net.1 list h1 hO.fut d4) rfl (by rintro _ _ _ ⟨g5, g6, g7, rfl, a7, c4⟩; exact hS.ext a7) ?_
  rintro _ b5 ⟨g5, g6, g7, rfl, a7, c4⟩
  have hK := (show Keeps w M (Past M b1 b5) from Keeps.past hC.size)
  have h0 := h0.ext a7
  have h1 := h1.ext a7
  have h2 := h2.ext a7
  have a0 := a0.cn a7
  have a1 := a1.cn a7
  have a6 := a6.ext a7
  have hC := hC.ext a7
  have hO := hO.past a7
  have h0 := h0.sub (M' := (Past M b1 b5)) (fun g hg => .inl hg.1)
  have h1 := h1.sub (M' := (Past M b1 b5)) (fun g hg => .inl hg.1)
  have h2 := h2.sub (M' := (Past M b1 b5)) (fun g hg => .inl hg.1)
  have a6 := a6.sub (M' := (Past M b1 b5)) (fun g hg => .inl hg.1)
  have hS := hS.ext a7
  refine x_one (i := 11) (by kernel_rfl) ?_
  have g8 : (RT.os 41 (RT.os 3 (RT.int .i64))).val (Past M b1 b5) b5 (.slice none 0 0) [] [] := os_nil
  have hO := hO.nil
  have hO := hO.fr1
  have hO := hO.fr1
  have e0 := hO
  have e0 := e0.fr1
  have f3 := Own.lend (F := (([]) ++ ([]))) (R := ([a4]) ++ (([b2]) ++ ([]))) (Own.perm (e0.less) (by simp))
  obtain ⟨r15, d7, hs⟩ := bind_some hs
  refine xk_call (b := false) rfl  Bd101 rfl (c_spec_l19Go__take4 FU (M := (Less (Past M b1 b5) ([c3]))) net.2.1 r8 partial_ ([]) ([], 0, most, one) (c4.sub Less.sub) (h2.sub Less.sub) (((Frz.os Frz.int)).val a6 Less.sub Less.not) (g8.sub Less.sub) f3 f3.fut d7) rfl (by rintro _ _ _ ⟨d0, d1, d2, e1, rfl, a3, c5, f4⟩; exact hS.ext a3) ?_
  rintro _ h5 ⟨d0, d1, d2, e1, rfl, a3, c5, f4⟩
  have hO := hO.fr1
  have hO := hO.fr1
  have hO := hO.perm (R := (([]) ++ ([])) ++ (([c3]) ++ (([a4]) ++ (([b2]) ++ ([]))))) (by simp)
  have h0 := h0.mt a3 hO same_
  have h1 := h1.mt a3 hO same_
  have h2 := h2.mt a3 hO same_
  have a0 := a0.ap a3 hO same_ (mem_r (mem_r (mem_l (List.mem_singleton.2 rfl))))
  have a1 := a1.ap a3 hO same_ (mem_r (mem_l (List.mem_singleton.2 rfl)))
  have a6 := a6.ma a3 hO same_ (fun _ e => (mem_l (e)))
  have c4 := c4.mt a3 hO same_
  have hC := hC.st a3 hO same_
  have hO := Own.join hO a3 f4
  have hO := hO.perm (R := e1 ++ (([c3]) ++ (([a4]) ++ (([b2]) ++ ([]))))) (by simp)
  have c5 := c5.free (M' := (Past M b1 b5)) (Free.os (Free.os Free.int))
  have hS := hS.ext a3
  refine x_one (i := 12) (by kernel_rfl) ?_
  obtain ⟨f5, g9, b6, e2⟩ := box_store (P := Try.prog) a1 [] [(.slice none 0 0), (.int .i64 0), (.int .i64 0), (.bool false)] [] [(.slice d0 d1 d2), (.int .i64 r15.2.1), (.int .i64 r15.2.2.1), (.bool r15.2.2.2)] rfl rfl (by intro u hu; simp only [List.mem_cons, List.not_mem_nil, or_false] at hu; rcases hu with rfl | rfl | rfl | rfl <;> rfl)
  refine xk_skip (w' := f5) (b := true) rfl (ys_store rfl rfl (g9 _ _ rfl Sz76)) rfl (fun h => nomatch h) ?_
  have hO := hO.fr2
  have h0 := h0.mt b6 hO same_
  have h1 := h1.mt b6 hO same_
  have h2 := h2.mt b6 hO same_
  have a0 := a0.ap b6 hO same_ (mem_r (mem_r (mem_l (List.mem_singleton.2 rfl))))
  have a6 := a6.ma b6 hO same_ (fun _ e => (mem_r (mem_l (e))))
  have c4 := c4.mt b6 hO same_
  have c5 := c5.ma b6 hO same_ (fun _ e => (mem_l (e)))
  have hC := hC.st b6 hO same_
  have hO := hO.ext b6
  have e2 : BoxV f5 a4 76 [(.slice d0 d1 d2), (.int .i64 r15.2.1), (.int .i64 r15.2.2.1), (.bool r15.2.2.2)] := e2
  refine x_end (by kernel_rfl) ?_
  clear hS
  refine wp_ret ?_
  cases hs
  have hO := hO.drop
  have hO := hO.fr1
  have hO := hO.drop
  have hO := hO.fr1
  have hO := hO.drop
  exact ⟨_, a4, d0, d1, d2, e1, fr_ovl 23 ⟨rfl, trivial⟩, e2, hC, (c5.free (Free.os (Free.os Free.int))), hO.top⟩

theorem Bd49 : Bodied Try.prog 49 := bodied Try.func49 (by kernel_rfl) rfl

theorem Bd48 : Bodied Try.prog 48 := bodied Try.func48 (by kernel_rfl) rfl

def k_spec_l19Can (M : Nat → Prop) (w0 : World) (r : Bool) (a : Act) (w : World) : Prop :=
  ∃ (σ : Nat → Value) , a = fr 13 (ovl σ [(4, (.bool r))]) ∧ Chg [] w0 w
def s_spec_l19Can (net : Int × Int × (List ((List Int) × (Int × (List (List Int)))))) (list : List ((List Int) × (Int × (List (List Int))))) : Option (Bool) :=
  (s_spec_l14Free net.1).bind fun r6 =>
  (s_spec_l19Find (net.1, net.2.1, net.2.2) list r6 1 true).bind fun r9 =>
  some (decide (0 < r9.2.1))
set_option maxHeartbeats 4000000 in
theorem c_spec_l19Can {M : Nat → Prop} {w : World} {pa0 : Option Addr} {pn0 pc0 : Nat} {pa1 : Option Addr} {pn1 pc1 : Nat} (net : Int × Int × (List ((List Int) × (Int × (List (List Int)))))) (list : List ((List Int) × (Int × (List (List Int))))) (h0 : (RT.rs (RT.pr (RT.rs (RT.int .i64)) (RT.pr (RT.int .i64) (RT.rs (RT.rs (RT.int .i64)))))).val M w (.slice pa0 pn0 pc0) net.2.2 ([])) (h1 : (RT.rs (RT.pr (RT.rs (RT.int .i64)) (RT.pr (RT.int .i64) (RT.rs (RT.rs (RT.int .i64)))))).val M w (.slice pa1 pn1 pc1) list ([])) (hM : ∀ g, w.heap.size ≤ g → M g) {r : Bool} (hs : s_spec_l19Can net list = some r) :
    Gives Try.prog 69 [(.agg #[(.int .i64 net.1), (.int .i64 net.2.1), (.slice pa0 pn0 pc0)]), (.slice pa1 pn1 pc1)] w (fun v w' => v = (.bool r) ∧ Chg [] w w') := by
 refine calls_fr Try.func69 rfl Try.ntmps69 (Nat.le_of_ble_eq_true rfl) ?_
 have hO := Own.start (N := Nw w []) hM Nw.fut
 have hC := Chg.refl [] w
 unfold s_spec_l19Can at hs
 refine wp_mono (Q := KPost (k_spec_l19Can M w r)) ?_ (fun e a c4 h => ?_)
 rotate_left
 ·cases e
  case ret =>
   obtain ⟨σ, rfl, hrest⟩ := h
   exact ret1x Try.results69 (res_tmp rfl) ⟨rfl, hrest⟩
  all_goals exact (h : False).elim
 refine c_sr ?_
 obtain ⟨a8, a4, b4, b0, a5, a0⟩ := new_block w [(.int .i64 net.1), (.int .i64 net.2.1), (.slice pa0 pn0 pc0)] 30
 refine pl_val (w' := a8) (.pointer (some ⟨a4, 0, none⟩)) (y_box rfl (by rw [b4, b0]; kernel_rfl)) ?_
 have h0 := h0.ext a5
 have h1 := h1.ext a5
 have hC := hC.ext a5
 have hO := hO.new1 a5 b0 a0.lt
 refine pl_val (.bool false) (y_assign rfl) ?_
 refine c_nil ?_
 refine c_seq ?_
 refine x_start [] Mx rfl ?_
 have a3 := Chg.drew a8
 generalize World.drew a8 = b5 at a3 ⊢
 have h0 := h0.ext a3
 have h1 := h1.ext a3
 have a0 := a0.cn a3
 have hC := hC.ext a3
 have hO := hO.ext a3
 have hS := Chg.refl [] b5
 refine x_l 0 (.agg #[(.int .i64 net.1), (.int .i64 net.2.1), (.slice pa0 pn0 pc0)]) rfl (by kernel_rfl)  (fun w' hw' => y_load rfl ((box_load Ag30 Sz30 a0 [] [(.int .i64 net.1), (.int .i64 net.2.1), (.slice pa0 pn0 pc0)] [] rfl rfl (fun h => nomatch h)) w' hw')) hS ?_
 refine x_p 1 (.slice pa1 pn1 pc1) rfl (by kernel_rfl)  (fun _ => y_move rfl) (fun _ => hS) ?_
 refine x_p 2 (.pointer (some ⟨a4, 0, none⟩)) rfl (by kernel_rfl)  (fun _ => y_faddr rfl Fa30x0) (fun _ => hS) ?_
 refine x_l 3 (.int .i64 net.1) rfl (by kernel_rfl)  (fun w' hw' => y_load rfl ((box_load Ag3 Sz3 a0 [] [(.int .i64 net.1)] [(.int .i64 net.2.1), (.slice pa0 pn0 pc0)] rfl rfl (fun _ => rfl)) w' hw')) hS ?_
 refine x_one (i := 4) (by kernel_rfl) ?_
 obtain ⟨r6, b6, hs⟩ := bind_some hs
 refine xk_call (b := false) rfl  Bd49 rfl (c_spec_l14Free (M := M) net.1  hO.fut b6) rfl (by rintro _ _ _ ⟨b7, b8, b9, a6, rfl, a2, a7, b1⟩; exact hS.ext a2) ?_
 rintro _ c5 ⟨b7, b8, b9, a6, rfl, a2, a7, b1⟩
 have h0 := h0.ext a2
 have h1 := h1.ext a2
 have a0 := a0.cn a2
 have hC := hC.ext a2
 have hO := Own.join0 hO a2 b1
 have hO := hO.perm (R := a6 ++ (([a4]) ++ ([]))) (by simp)
 have hS := hS.ext a2
 refine x_one (i := 5) (by kernel_rfl) ?_
 obtain ⟨r9, c0, hs⟩ := bind_some hs
 refine xk_call (b := false) rfl  Bd48 rfl (c_spec_l19Find (M := (Less M a6)) (net.1, net.2.1, net.2.2) list r6 1 true (h0.sub Less.sub) (h1.sub Less.sub) (((Frz.os Frz.int)).val a7 Less.sub Less.not) hO.less.fut c0) rfl (by rintro _ _ _ ⟨c1, c2, c3, b2, rfl, a1, a9, b3⟩; exact hS.ext a1) ?_
 rintro _ c6 ⟨c1, c2, c3, b2, rfl, a1, a9, b3⟩
 have h0 := h0.ext a1
 have h1 := h1.ext a1
 have a0 := a0.cn a1
 have a7 := a7.ext a1
 have hC := hC.ext a1
 have hO := Own.join0 hO a1 b3
 have hO := hO.perm (R := b2 ++ (a6 ++ (([a4]) ++ ([])))) (by simp)
 have a9 := a9.free (M' := M) (Free.os (Free.os Free.int))
 have hS := hS.ext a1
 refine x_p 6 (.int .i64 r9.2.1) rfl (by kernel_rfl)  (fun _ => y_field rfl (by kernel_rfl)) (fun _ => hS) ?_
 refine x_p 7 (.bool (decide (0 < r9.2.1))) rfl (by kernel_rfl)  (fun _ => y_gtr rfl rfl) (fun _ => hS) ?_
 refine x_p 8 (.bool (decide (0 < r9.2.1))) rfl (by kernel_rfl)  (fun _ => y_assign rfl) (fun _ => hS) ?_
 refine x_end (by kernel_rfl) ?_
 clear hS
 refine wp_ret ?_
 cases hs
 exact ⟨_, fr_ovl 13 ⟨rfl, trivial⟩, hC⟩

theorem Bd47 : Bodied Try.prog 47 := bodied Try.func47 (by kernel_rfl) rfl

theorem Bd68 : Bodied Try.prog 68 := bodied Try.func68 (by kernel_rfl) rfl

theorem Bd69 : Bodied Try.prog 69 := bodied Try.func69 (by kernel_rfl) rfl

def k_spec_IsConflict (M : Nat → Prop) (w0 : World) (r : Bool × Bool) (a : Act) (w : World) : Prop :=
  ∃ (σ : Nat → Value) , a = fr 42 (ovl σ [(4, (.bool r.1)), (5, (.bool r.2))]) ∧ Chg [] w0 w
def s_spec_IsConflict (net : Int × Int × (List ((List Int) × (Int × (List (List Int)))))) (indices : List Int) : Option (Bool × Bool) :=
  ((s_spec_l19Good (net.1, net.2.1, net.2.2)).bind fun r8 =>
  (bif (!r8) then some true else (s_spec_l1Rising indices 0 (w64 ((net.2.2.length : Int) - 1))).bind fun r11 =>
  some (!r11))).bind fun s4 =>
  (bif s4 then some (false, false) else (forC (S := (List ((List Int) × (Int × (List (List Int)))))) (R := Bool × Bool) (fun k50 s48 =>
  (idx indices k50).bind fun x61 =>
  (idx net.2.2 x61).bind fun x63 =>
  (app s48 ([(x63.1, (x63.2.1, x63.2.2))])).bind fun y72 =>
  some (.nx y72)) 0 (indices.length : Int) ([])).bind fun o52 => after o52 (fun r_ => some r_) (fun s48 =>
  (s_spec_l19Can (net.1, net.2.1, net.2.2) s48).bind fun r75 =>
  some ((!r75), true)))
set_option maxHeartbeats 4000000 in
theorem c_spec_IsConflict {M : Nat → Prop} {w : World} {pa0 : Option Addr} {pn0 pc0 : Nat} {pa1 : Option Addr} {pn1 pc1 : Nat} (net : Int × Int × (List ((List Int) × (Int × (List (List Int)))))) (indices : List Int) (h0 : (RT.rs (RT.pr (RT.rs (RT.int .i64)) (RT.pr (RT.int .i64) (RT.rs (RT.rs (RT.int .i64)))))).val M w (.slice pa0 pn0 pc0) net.2.2 ([])) (h1 : (RT.rs (RT.int .i64)).val M w (.slice pa1 pn1 pc1) indices ([])) (hM : ∀ g, w.heap.size ≤ g → M g) {r : Bool × Bool} (hs : s_spec_IsConflict net indices = some r) :
    Gives Try.prog 21 [(.agg #[(.int .i64 net.1), (.int .i64 net.2.1), (.slice pa0 pn0 pc0)]), (.slice pa1 pn1 pc1)] w (fun v w' => v = (.tuple #[(.bool r.1), (.bool r.2)]) ∧ Chg [] w w') := by
 refine calls_fr Try.func21 rfl Try.ntmps21 (Nat.le_of_ble_eq_true rfl) ?_
 have hO := Own.start (N := Nw w []) hM Nw.fut
 have hC := Chg.refl [] w
 unfold s_spec_IsConflict at hs
 refine wp_mono (Q := KPost (k_spec_IsConflict M w r)) ?_ (fun e a f6 h => ?_)
 rotate_left
 ·cases e
  case ret =>
   obtain ⟨σ, rfl, hrest⟩ := h
   exact ret2x Try.results21 (res_tmp rfl) (res_tmp rfl) ⟨rfl, hrest⟩
  all_goals exact (h : False).elim
 refine c_sr ?_
 obtain ⟨c8, a4, f7, e6, c3, a0⟩ := new_block w [(.int .i64 net.1), (.int .i64 net.2.1), (.slice pa0 pn0 pc0)] 30
 refine pl_val (w' := c8) (.pointer (some ⟨a4, 0, none⟩)) (y_box rfl (by rw [f7, e6]; kernel_rfl)) ?_
 have h0 := h0.ext c3
 have h1 := h1.ext c3
 have hC := hC.ext c3
 have hO := hO.new1 c3 e6 a0.lt
 refine pl_val (.bool false) (y_assign rfl) ?_
 refine pl_val (.bool false) (y_assign rfl) ?_
 refine c_nil ?_
 refine c_seq ?_
 refine c_seq ?_
 obtain ⟨s4, f8, hs⟩ := bind_some hs
 refine c_mid (I := fun a c9 => ∃ (σ : Nat → Value), a = fr 42 (ovl σ [(1, (.slice pa1 pn1 pc1)), (2, (.pointer (some ⟨a4, 0, none⟩))), (4, (.bool false)), (5, (.bool false)), (19, (.bool s4))]) ∧ Chg [] c8 c9) ?_ ?_
 ·replace hs := f8
  have hMid := Chg.refl [] c8
  refine c_region ?_
  refine pl_val (.agg #[(.int .i64 net.1), (.int .i64 net.2.1), (.slice pa0 pn0 pc0)]) (y_load rfl ((box_load Ag30 Sz30 a0 [] [(.int .i64 net.1), (.int .i64 net.2.1), (.slice pa0 pn0 pc0)] [] rfl rfl (fun h => nomatch h)) _ (Chg.refl _ _))) ?_
  obtain ⟨r8, f9, hs⟩ := bind_some hs
  refine pl_call Bd47 rfl (c_spec_l19Good (M := M) (net.1, net.2.1, net.2.2) h0 hO.fut f9) ?_
  rintro _ j3 ⟨rfl, b0⟩
  have h0 := h0.ext b0
  have h1 := h1.ext b0
  have a0 := a0.cn b0
  have hMid := hMid.ext b0
  have hC := hC.ext b0
  have hO := hO.ext b0
  refine pl_val (.bool (!r8)) (y_not rfl) ?_
  refine pl_val (.bool (!r8)) (y_move rfl) ?_
  rcases bif_some hs with ⟨a2, hs⟩ | ⟨a2, hs⟩
  ·skip
   refine pl_not (tg := 11) (by kernel_rfl) (congrArg Value.bool a2) ?_
   refine pl_not (tg := 11) (by kernel_rfl) (congrArg Value.bool a2) ?_
   refine pl_not (tg := 11) (by kernel_rfl) (congrArg Value.bool a2) ?_
   refine pl_not (tg := 11) (by kernel_rfl) (congrArg Value.bool a2) ?_
   refine pl_not (tg := 11) (by kernel_rfl) (congrArg Value.bool a2) ?_
   refine pl_not (tg := 11) (by kernel_rfl) (congrArg Value.bool a2) ?_
   refine pl_not (tg := 11) (by kernel_rfl) (congrArg Value.bool a2) ?_
   refine pl_val (.bool true) (y_pick_t (congrArg Value.bool a2) rfl) ?_
   refine c_nil ?_
   cases hs
   exact ⟨_, fr_ovl 42 ⟨rfl, rfl, rfl, rfl, rfl, trivial⟩, hMid⟩
  refine pl_yes (.slice pa1 pn1 pc1) (tg := 11) (by kernel_rfl) (congrArg Value.bool a2) (y_move rfl) ?_
  refine pl_yes (.pointer (some ⟨a4, 2, none⟩)) (tg := 11) (by kernel_rfl) (congrArg Value.bool a2) (y_faddr rfl Fa30x2) ?_
  refine pl_yes (.slice pa0 pn0 pc0) (tg := 11) (by kernel_rfl) (congrArg Value.bool a2) (y_load rfl ((box_load Ag28 Sz28 a0 [(.int .i64 net.1), (.int .i64 net.2.1)] [(.slice pa0 pn0 pc0)] [] rfl rfl (fun _ => rfl)) _ (Chg.refl _ _))) ?_
  refine pl_yes (.int .i64 (net.2.2.length : Int)) (tg := 11) (by kernel_rfl) (congrArg Value.bool a2) (y_len' Sl28 (rs_len h0) rfl) ?_
  refine pl_yes (.int .i64 (w64 ((net.2.2.length : Int) - 1))) (tg := 11) (by kernel_rfl) (congrArg Value.bool a2) (y_sub rfl rfl) ?_
  obtain ⟨r11, g0, hs⟩ := bind_some hs
  refine pl_cally (tg := 11) (by kernel_rfl) (congrArg Value.bool a2) Bd68 rfl (c_spec_l1Rising (M := M) indices 0 (w64 ((net.2.2.length : Int) - 1)) h1 hO.fut g0) ?_
  rintro _ j4 ⟨rfl, b1⟩
  have h0 := h0.ext b1
  have h1 := h1.ext b1
  have a0 := a0.cn b1
  have hMid := hMid.ext b1
  have hC := hC.ext b1
  have hO := hO.ext b1
  refine pl_yes (.bool (!r11)) (tg := 11) (by kernel_rfl) (congrArg Value.bool a2) (y_not rfl) ?_
  refine pl_val (.bool (!r11)) (y_pick_f (congrArg Value.bool a2) rfl) ?_
  refine c_nil ?_
  cases hs
  exact ⟨_, fr_ovl 42 ⟨rfl, rfl, rfl, rfl, rfl, trivial⟩, hMid⟩
 rintro e7 c9 ⟨σ, rfl, b7⟩
 have h0 := h0.ext b7
 have h1 := h1.ext b7
 have a0 := a0.cn b7
 have hC := hC.ext b7
 have hO := hO.ext b7
 rcases bif_some hs with ⟨d0, hs⟩ | ⟨d0, hs⟩
 ·refine c_condT (congrArg Value.bool d0) ?_
  refine c_sr ?_
  refine pl_val (.bool false) (y_assign rfl) ?_
  refine pl_val (.bool false) (y_assign rfl) ?_
  refine c_nil ?_
  refine wp_ret ?_
  cases hs
  exact ⟨_, fr_ovl 42 ⟨rfl, rfl, trivial⟩, hC⟩
 refine c_condF (congrArg Value.bool d0) ?_
 refine wp_skip ?_
 refine c_sr ?_
 obtain ⟨e8, b8, g1, e9, b9, f0⟩ := new_block c9 [] 56
 refine pl_val (w' := e8) (.slice (some ⟨b8, 0, none⟩) 0 0) (y_bslice rfl (by rw [g1, e9]; kernel_rfl)) ?_
 have h0 := h0.ext b9
 have h1 := h1.ext b9
 have a0 := a0.cn b9
 have hC := hC.ext b9
 have hO := hO.new1 b9 e9 f0.lt
 have d1 := os_of_box (r := (RT.pr (RT.os 3 (RT.int .i64)) (RT.pr (RT.int .i64) (RT.os 41 (RT.os 3 (RT.int .i64)))))) (M := M) (css := []) (fps := []) (xs := ([] : List ((List Int) × (Int × (List (List Int)))))) f0 trivial (Nat.zero_le _) (List.nodup_cons.2 ⟨(fun h => nomatch h), List.nodup_nil⟩)
 have d1 : (RT.os 56 (RT.pr (RT.os 3 (RT.int .i64)) (RT.pr (RT.int .i64) (RT.os 41 (RT.os 3 (RT.int .i64)))))).val M e8 (.slice (some ⟨b8, 0, none⟩) 0 0) [] [b8] := d1
 refine pl_val (.slice (some ⟨b8, 0, none⟩) 0 0) (y_assign rfl) ?_
 refine c_nil ?_
 refine c_seq ?_
 refine c_sr ?_
 refine pl_val (.int .i64 0) (y_assign rfl) ?_
 refine c_nil ?_
 obtain ⟨d2, g2, f1, g3, hO, g4⟩ := os_inner (Frz.pr (Frz.os Frz.int) (Frz.pr Frz.int (Frz.os (Frz.os Frz.int)))) d1 hO
 have h0 := h0.sub (M' := d2) f1
 have h1 := h1.sub (M' := d2) f1
 have hK := g3
 obtain ⟨o52, g5, hs⟩ := bind_some hs
 refine wp_block ?_
 refine wp_forC (id := 0) (indices.length : Int) (I := fun k50 s48 a a1 => ∃ (σ : Nat → Value) (a3 : Nat → Prop) (b2 : Option Addr) (b3 : Nat) (b4 : Nat) (c0 : List Nat), a = fr 42 (ovl σ [(1, (.slice pa1 pn1 pc1)), (2, (.pointer (some ⟨a4, 0, none⟩))), (6, (.slice b2 b3 b4)), (7, (.int .i64 k50))]) ∧ Chg [] w a1 ∧ Own (Nw w []) a3 a1 (c0 ++ (([a4]) ++ [])) ∧ Keeps w M a3 ∧ (RT.rs (RT.pr (RT.rs (RT.int .i64)) (RT.pr (RT.int .i64) (RT.rs (RT.rs (RT.int .i64)))))).val a3 a1 (.slice pa0 pn0 pc0) net.2.2 ([]) ∧ (RT.rs (RT.int .i64)).val a3 a1 (.slice pa1 pn1 pc1) indices ([]) ∧ BoxV a1 a4 30 [(.int .i64 net.1), (.int .i64 net.2.1), (.slice pa0 pn0 pc0)] ∧ (RT.os 56 (RT.pr (RT.rs (RT.int .i64)) (RT.pr (RT.int .i64) (RT.rs (RT.rs (RT.int .i64)))))).val a3 a1 (.slice b2 b3 b4) s48 c0) (J := fun s48 a a1 => ∃ (σ : Nat → Value) (a7 : Nat → Prop) (c4 : Option Addr) (c5 : Nat) (c6 : Nat) (c7 : List Nat), a = fr 42 (ovl σ [(2, (.pointer (some ⟨a4, 0, none⟩))), (6, (.slice c4 c5 c6))]) ∧ Chg [] w a1 ∧ Own (Nw w []) a7 a1 (c7 ++ (([a4]) ++ [])) ∧ Keeps w M a7 ∧ (RT.rs (RT.pr (RT.rs (RT.int .i64)) (RT.pr (RT.int .i64) (RT.rs (RT.rs (RT.int .i64)))))).val a7 a1 (.slice pa0 pn0 pc0) net.2.2 ([]) ∧ (RT.rs (RT.int .i64)).val a7 a1 (.slice pa1 pn1 pc1) indices ([]) ∧ BoxV a1 a4 30 [(.int .i64 net.1), (.int .i64 net.2.1), (.slice pa0 pn0 pc0)] ∧ (RT.os 56 (RT.pr (RT.rs (RT.int .i64)) (RT.pr (RT.int .i64) (RT.rs (RT.rs (RT.int .i64)))))).val a7 a1 (.slice c4 c5 c6) s48 c7) (K := (k_spec_IsConflict M w)) ?_ ?_ 0 ([]) o52 _ _ ?_ g5 ?_
 ·rintro k50 s48 a a1 ⟨σ, a3, b2, b3, b4, c0, rfl, hC, hO, hK, h0, h1, a0, a6⟩ hlt
  refine c_seq ?_
  refine c_sr ?_
  refine pl_val (.int .i64 k50) (y_move rfl) ?_
  refine pl_val (.slice pa1 pn1 pc1) (y_move rfl) ?_
  refine pl_val (.int .i64 (indices.length : Int)) (y_len' Sl41 (rs_len h1) rfl) ?_
  refine pl_val (.bool (decide (k50 < (indices.length : Int)))) (y_lss rfl rfl) ?_
  refine c_nil ?_
  refine c_condF (congrArg Value.bool (decide_eq_false hlt)) ?_
  refine wp_exit ?_
  have hO := hO.fr1
  have hO := hO.fr1
  exact ⟨rfl, _, a3, b2, b3, b4, c0, fr_ovl 42 ⟨rfl, rfl, trivial⟩, hC, hO, hK, h0, h1, a0, a6⟩
 ·rintro k50 s48 o52 a a1 ⟨σ, a3, b2, b3, b4, c0, rfl, hC, hO, hK, h0, h1, a0, a6⟩ hlt hw hs
  refine c_seq ?_
  refine c_sr ?_
  refine pl_val (.int .i64 k50) (y_move rfl) ?_
  refine pl_val (.slice pa1 pn1 pc1) (y_move rfl) ?_
  refine pl_val (.int .i64 (indices.length : Int)) (y_len' Sl41 (rs_len h1) rfl) ?_
  refine pl_val (.bool (decide (k50 < (indices.length : Int)))) (y_lss rfl rfl) ?_
  refine c_nil ?_
  refine c_condT (congrArg Value.bool (decide_eq_true hlt)) ?_
  refine wp_skip ?_
  refine c_seq ?_
  refine wp_block ?_
  refine x_start [10] Mx rfl ?_
  have a8 := Chg.drew a1
  generalize World.drew a1 = f2 at a8 ⊢
  have h0 := h0.ext a8
  have h1 := h1.ext a8
  have a0 := a0.cn a8
  have a6 := a6.ext a8
  have hC := hC.ext a8
  have hO := hO.ext a8
  have hS := Chg.refl [] f2
  refine x_p 0 (.slice b2 b3 b4) rfl (by kernel_rfl)  (fun _ => y_move rfl) (fun _ => hS) ?_
  refine x_p 1 (.pointer (some ⟨a4, 2, none⟩)) rfl (by kernel_rfl)  (fun _ => y_faddr rfl Fa30x2) (fun _ => hS) ?_
  refine x_l 2 (.slice pa0 pn0 pc0) rfl (by kernel_rfl)  (fun w' hw' => y_load rfl ((box_load Ag28 Sz28 a0 [(.int .i64 net.1), (.int .i64 net.2.1)] [(.slice pa0 pn0 pc0)] [] rfl rfl (fun _ => rfl)) w' hw')) hS ?_
  refine x_p 3 (.slice pa1 pn1 pc1) rfl (by kernel_rfl)  (fun _ => y_move rfl) (fun _ => hS) ?_
  refine x_p 4 (.int .i64 k50) rfl (by kernel_rfl)  (fun _ => y_move rfl) (fun _ => hS) ?_
  obtain ⟨x61, g6, hs⟩ := bind_some hs
  obtain ⟨g7, g8, g9, h2⟩ := rs_idx Sl41 Sz3 h1 g6
  refine x_p 5 (.pointer (some ⟨g7, g8, none⟩)) rfl (by kernel_rfl)  (fun _ => g9 _ _ _ _ _ _ _ _ _ rfl rfl) (fun _ => hS) ?_
  refine x_l 6 (.int .i64 x61) rfl (by kernel_rfl)  (fun w' hw' => y_load rfl ((at_load_int Ag3 Sz3 h2) w' hw')) hS ?_
  obtain ⟨x63, h3, hs⟩ := bind_some hs
  obtain ⟨h4, h5, h6, h7⟩ := rs_idx Sl28 Sz56 h0 h3
  refine x_p 7 (.pointer (some ⟨h4, h5, none⟩)) rfl (by kernel_rfl)  (fun _ => h6 _ _ _ _ _ _ _ _ _ rfl rfl) (fun _ => hS) ?_
  obtain ⟨j5, h8, h9⟩ := at_load Ag56 Sz56 (by intro h; cases h) h7
  obtain ⟨j6, rfl, i0⟩ := h9
  obtain ⟨j7, j8, rfl, i1, i2⟩ := pr_open i0
  obtain ⟨d3, d4, d5, rfl, c1⟩ := rs_rel i1
  obtain ⟨j9, k0, rfl, i3, i4⟩ := pr_open i2
  obtain rfl := int_rel i3
  obtain ⟨d6, d7, d8, rfl, c2⟩ := rs_rel i4
  refine x_l 8 (.agg #[(.slice d3 d4 d5), (.int .i64 x63.2.1), (.slice d6 d7 d8)]) rfl (by kernel_rfl)  (fun w' hw' => y_load rfl (h8 w' hw')) hS ?_
  refine x_one (i := 9) (by kernel_rfl) ?_
  obtain ⟨f3, d9, i5, f4, a5, f5⟩ := new_block f2 [(.slice d3 d4 d5), (.int .i64 x63.2.1), (.slice d6 d7 d8)] 56
  refine xk_val (w' := f3) (b := false) (.slice (some ⟨d9, 0, none⟩) 1 1) rfl  (y_bslice rfl (by rw [i5, f4]; kernel_rfl)) rfl (fun _ => hS.ext a5) ?_
  have h0 := h0.ext a5
  have h1 := h1.ext a5
  have a0 := a0.cn a5
  have a6 := a6.ext a5
  have c1 := c1.ext a5
  have c2 := c2.ext a5
  have hC := hC.ext a5
  have hO := hO.new1 a5 f4 f5.lt
  have e0 := os_of_box (r := (RT.pr (RT.rs (RT.int .i64)) (RT.pr (RT.int .i64) (RT.rs (RT.rs (RT.int .i64)))))) (M := a3) (css := [[(.slice d3 d4 d5), (.int .i64 x63.2.1), (.slice d6 d7 d8)]]) (fps := [([] : List Nat)]) (xs := ([(x63.1, (x63.2.1, x63.2.2))] : List ((List Int) × (Int × (List (List Int)))))) f5 ⟨⟨_, _, _, _, rfl, rfl, (rs_unval c1), ⟨_, _, _, _, rfl, rfl, ⟨rfl, rfl⟩, (rs_unval c2)⟩⟩, trivial⟩ (Nat.le_of_ble_eq_true rfl) (List.nodup_cons.2 ⟨(fun h => nomatch h), List.nodup_nil⟩)
  have e0 : (RT.os 56 (RT.pr (RT.rs (RT.int .i64)) (RT.pr (RT.int .i64) (RT.rs (RT.rs (RT.int .i64)))))).val a3 f3 (.slice (some ⟨d9, 0, none⟩) 1 1) [(x63.1, (x63.2.1, x63.2.2))] [d9] := e0
  have hS := hS.ext a5
  refine x_one (i := 10) (by kernel_rfl) ?_
  obtain ⟨y72, i6, hs⟩ := bind_some hs
  have hO := hO.fr1
  obtain ⟨e1, e2, e3, i7, i9, j0, a9, j1, e4⟩ := app_os Rw28 i6 a6 e0 hO.inM (fun g hg hq => hO.apart g hq (mem_l hg))
  have b5 := os_block a6
  refine xk_val (w' := i7) (b := true) (.slice e1 e2 e3) rfl  (y_append rfl rfl (j0 _)) rfl (fun h => nomatch h) ?_
  have hO := hO.fr1
  have hO := hO.fr1
  have h0 := h0.mt a9 hO b5
  have h1 := h1.mt a9 hO b5
  have a0 := a0.ap a9 hO b5 (mem_r (mem_l (List.mem_singleton.2 rfl)))
  have c1 := c1.mt a9 hO b5
  have c2 := c2.mt a9 hO b5
  have hC := hC.st a9 hO b5
  have hO := hO.eat a9 j1 (os_nodup e4) e4.fpl
  refine x_p 11 (.slice e1 e2 e3) rfl (by kernel_rfl)  (fun _ => y_assign rfl) (fun h => nomatch h) ?_
  refine x_end (by kernel_rfl) ?_
  clear hS
  refine c_region ?_
  refine pl_val (.int .i64 k50) (y_move rfl) ?_
  refine pl_val (.int .i64 (w64 (k50 + 1))) (y_add rfl rfl) ?_
  refine pl_val (.int .i64 (w64 (k50 + 1))) (y_assign rfl) ?_
  refine c_nil ?_
  cases hs
  have hO := hO.fr1
  have hO := hO.fr1
  exact ⟨_, a3, e1, e2, e3, i9, fr_ovl 42 ⟨rfl, rfl, rfl, congrArg (Value.int .i64) hw, trivial⟩, hC, hO, hK, h0, h1, a0, e4⟩
 ·skip
  have hO := hO.fr1
  have hO := hO.fr1
  exact ⟨_, d2, (some ⟨b8, 0, none⟩), 0, 0, g2, fr_ovl 42 ⟨rfl, rfl, rfl, rfl, trivial⟩, hC, hO, hK, h0, h1, a0, g4⟩
 cases o52 with
 | nx _ => exact True.intro
 | rt r_ =>
  have hs := after_rt hs
  intro e7 f6 hK
  cases hs
  exact hK
 | br s48 =>
  have hs := after_br hs
  rintro e7 a1 ⟨σ, a7, c4, c5, c6, c7, rfl, hC, hO, hK, h0, h1, a0, e5⟩
  refine c_sr ?_
  refine pl_val (.agg #[(.int .i64 net.1), (.int .i64 net.2.1), (.slice pa0 pn0 pc0)]) (y_load rfl ((box_load Ag30 Sz30 a0 [] [(.int .i64 net.1), (.int .i64 net.2.1), (.slice pa0 pn0 pc0)] [] rfl rfl (fun h => nomatch h)) _ (Chg.refl _ _))) ?_
  refine pl_val (.slice c4 c5 c6) (y_move rfl) ?_
  obtain ⟨r75, j2, hs⟩ := bind_some hs
  refine pl_call Bd69 rfl (c_spec_l19Can (M := (Less a7 c7)) (net.1, net.2.1, net.2.2) s48 (h0.sub Less.sub) (((Frz.os (Frz.pr (Frz.rs Frz.int) (Frz.pr Frz.int (Frz.rs (Frz.rs Frz.int)))))).val e5 Less.sub Less.not) hO.less.fut j2) ?_
  rintro _ k1 ⟨rfl, b6⟩
  have h0 := h0.ext b6
  have h1 := h1.ext b6
  have a0 := a0.cn b6
  have e5 := e5.ext b6
  have hC := hC.ext b6
  have hO := hO.ext b6
  refine pl_val (.bool (!r75)) (y_not rfl) ?_
  refine pl_val (.bool (!r75)) (y_assign rfl) ?_
  refine pl_val (.bool true) (y_assign rfl) ?_
  refine c_nil ?_
  refine wp_ret ?_
  cases hs
  exact ⟨_, fr_ovl 42 ⟨rfl, rfl, trivial⟩, hC⟩

def k_impl_isTemplateSize (M : Nat → Prop) (w0 : World) (r : Bool) (a : Act) (w : World) : Prop :=
  ∃ (σ : Nat → Value) , a = fr 9 (ovl σ [(2, (.bool r))]) ∧ Chg [] w0 w
def s_impl_isTemplateSize (n : Int) : Option (Bool) :=
  (bif (decide (1 ≤ n)) then some (decide (n ≤ 4)) else some false)
set_option maxHeartbeats 4000000 in
theorem c_impl_isTemplateSize {M : Nat → Prop} {w : World}  (n : Int)  (hM : ∀ g, w.heap.size ≤ g → M g) {r : Bool} (hs : s_impl_isTemplateSize n = some r) :
    Gives Try.prog 103 [(.int .i64 n)] w (fun v w' => v = (.bool r) ∧ Chg [] w w') := by
 refine calls_fr Try.func103 rfl Try.ntmps103 (Nat.le_of_ble_eq_true rfl) ?_
 have hO := Own.start (N := Nw w []) hM Nw.fut
 have hC := Chg.refl [] w
 unfold s_impl_isTemplateSize at hs
 refine wp_mono (Q := KPost (k_impl_isTemplateSize M w r)) ?_ (fun e a a1 h => ?_)
 rotate_left
 ·cases e
  case ret =>
   obtain ⟨σ, rfl, hrest⟩ := h
   exact ret1x Try.results103 (res_tmp rfl) ⟨rfl, hrest⟩
  all_goals exact (h : False).elim
 refine c_sr ?_
 refine pl_val (.bool false) (y_assign rfl) ?_
 refine c_nil ?_
 refine c_sr ?_
 refine pl_val (.int .i64 n) (y_move rfl) ?_
 refine pl_val (.bool (decide (1 ≤ n))) (y_geq rfl rfl) ?_
 refine pl_val (.bool (decide (1 ≤ n))) (y_move rfl) ?_
 rcases bif_some hs with ⟨a0, hs⟩ | ⟨a0, hs⟩
 ·skip
  refine pl_yes (.int .i64 n) (tg := 5) (by kernel_rfl) (congrArg Value.bool a0) (y_move rfl) ?_
  refine pl_yes (.bool (decide (n ≤ 4))) (tg := 5) (by kernel_rfl) (congrArg Value.bool a0) (y_leq rfl rfl) ?_
  refine pl_val (.bool (decide (n ≤ 4))) (y_pick_t (congrArg Value.bool a0) rfl) ?_
  refine pl_val (.bool (decide (n ≤ 4))) (y_assign rfl) ?_
  refine c_nil ?_
  refine wp_ret ?_
  cases hs
  exact ⟨_, fr_ovl 9 ⟨rfl, trivial⟩, hC⟩
 refine pl_not (tg := 5) (by kernel_rfl) (congrArg Value.bool a0) ?_
 refine pl_not (tg := 5) (by kernel_rfl) (congrArg Value.bool a0) ?_
 refine pl_val (.bool false) (y_pick_f (congrArg Value.bool a0) rfl) ?_
 refine pl_val (.bool false) (y_assign rfl) ?_
 refine c_nil ?_
 refine wp_ret ?_
 cases hs
 exact ⟨_, fr_ovl 9 ⟨rfl, trivial⟩, hC⟩

def k_impl_inSize (M : Nat → Prop) (w0 : World) (r : Bool) (a : Act) (w : World) : Prop :=
  ∃ (σ : Nat → Value) , a = fr 21 (ovl σ [(4, (.bool r))]) ∧ Chg [] w0 w
def s_impl_inSize (list : List Int) (n : Int) : Option (Bool) :=
  (forR (S := Unit) (R := Bool) (fun _ x8 s5 =>
  (bif (decide (x8 < 0)) then some (.rt false) else (bif (decide (n ≤ x8)) then some (.rt false) else some (.nx ())))) 0 list ()).bind fun o9 => after o9 (fun r_ => some r_) (fun s5 =>
  some true)
set_option maxHeartbeats 4000000 in
theorem c_impl_inSize {M : Nat → Prop} {w : World} {pa0 : Option Addr} {pn0 pc0 : Nat} (list : List Int) (n : Int) (h0 : (RT.rs (RT.int .i64)).val M w (.slice pa0 pn0 pc0) list ([])) (hM : ∀ g, w.heap.size ≤ g → M g) {r : Bool} (hs : s_impl_inSize list n = some r) :
    Gives Try.prog 71 [(.slice pa0 pn0 pc0), (.int .i64 n)] w (fun v w' => v = (.bool r) ∧ Chg [] w w') := by
 refine calls_fr Try.func71 rfl Try.ntmps71 (Nat.le_of_ble_eq_true rfl) ?_
 have hO := Own.start (N := Nw w []) hM Nw.fut
 have hC := Chg.refl [] w
 unfold s_impl_inSize at hs
 refine wp_mono (Q := KPost (k_impl_inSize M w r)) ?_ (fun e a a4 h => ?_)
 rotate_left
 ·cases e
  case ret =>
   obtain ⟨σ, rfl, hrest⟩ := h
   exact ret1x Try.results71 (res_tmp rfl) ⟨rfl, hrest⟩
  all_goals exact (h : False).elim
 refine c_sr ?_
 refine pl_val (.bool false) (y_assign rfl) ?_
 refine c_nil ?_
 refine c_seq ?_
 refine c_sr ?_
 refine pl_val (.slice pa0 pn0 pc0) (y_move rfl) ?_
 refine pl_val (.int .i64 (list.length : Int)) (y_len' Sl41 (rs_len h0) rfl) ?_
 refine pl_val (.int .i64 0) (y_move rfl) ?_
 refine c_nil ?_
 obtain ⟨o9, a5, hs⟩ := bind_some hs
 refine wp_block ?_
 refine wp_forR (id := 0) (I := fun i_ xs_ s5 a a0 => ∃ a1 : Nat, i_ = (a1 : Int) ∧ List.drop a1 list = xs_ ∧ (∃ (σ : Nat → Value), a = fr 21 (ovl σ [(1, (.int .i64 n)), (7, (.slice pa0 pn0 pc0)), (8, (.int .i64 (list.length : Int))), (9, (.int .i64 (a1 : Int)))]) ∧ Chg [] w a0 ∧ Own (Nw w []) M a0 ([]) ∧ (RT.rs (RT.int .i64)).val M a0 (.slice pa0 pn0 pc0) list ([]))) (J := fun s5 a a0 => ∃ (σ : Nat → Value), a = fr 21 (ovl σ []) ∧ Chg [] w a0 ∧ Own (Nw w []) M a0 ([]) ∧ (RT.rs (RT.int .i64)).val M a0 (.slice pa0 pn0 pc0) list ([])) (K := (k_impl_inSize M w)) ?_ ?_ list 0 () o9 _ _ ?_ a5 ?_
 ·rintro _ s5 a a0 ⟨a1, rfl, hd, σ, rfl, hC, hO, h0⟩
  have hlt := drop_nil_ge hd
  refine c_sr ?_
  refine pl_val (.bool (decide ((a1 : Int) < (list.length : Int)))) (y_lss rfl rfl) ?_
  refine c_nil ?_
  refine c_seq ?_
  refine c_condF (congrArg Value.bool (decide_eq_false hlt)) ?_
  refine wp_exit ?_
  exact ⟨rfl, _, fr_ovl 21 trivial, hC, hO, h0⟩
 ·rintro _ x8 xs_ s5 o9 a a0 ⟨a1, rfl, hd, σ, rfl, hC, hO, h0⟩ hs
  have hlt := drop_cons_lt hd
  have a6 := drop_cons_idx hd
  refine c_sr ?_
  refine pl_val (.bool (decide ((a1 : Int) < (list.length : Int)))) (y_lss rfl rfl) ?_
  refine c_nil ?_
  refine c_seq ?_
  refine c_condT (congrArg Value.bool (decide_eq_true hlt)) ?_
  refine wp_skip ?_
  refine c_seq ?_
  refine wp_block ?_
  refine c_sr ?_
  obtain ⟨a7, a8, a9, b0⟩ := rs_idx Sl41 Sz3 h0 a6
  refine pl_val (.pointer (some ⟨a7, a8, none⟩)) (a9 _ _ _ _ _ _ _ _ _ rfl rfl) ?_
  refine pl_val (.int .i64 x8) (y_load rfl ((at_load_int Ag3 Sz3 b0) _ (Chg.refl _ _))) ?_
  refine pl_val (.int .i64 x8) (y_assign rfl) ?_
  refine c_nil ?_
  refine c_sr ?_
  refine pl_val (.int .i64 x8) (y_move rfl) ?_
  refine pl_val (.bool (decide (x8 < 0))) (y_lss rfl rfl) ?_
  refine pl_val (.bool (decide (x8 < 0))) (y_move rfl) ?_
  rcases bif_some hs with ⟨a2, hs⟩ | ⟨a2, hs⟩
  ·skip
   refine pl_not (tg := 15) (by kernel_rfl) (congrArg Value.bool a2) ?_
   refine pl_not (tg := 15) (by kernel_rfl) (congrArg Value.bool a2) ?_
   refine pl_not (tg := 15) (by kernel_rfl) (congrArg Value.bool a2) ?_
   refine pl_val (.bool true) (y_pick_t (congrArg Value.bool a2) rfl) ?_
   refine c_nil ?_
   refine c_condT (by rfl) ?_
   refine c_sr ?_
   refine pl_val (.bool false) (y_assign rfl) ?_
   refine c_nil ?_
   refine wp_ret ?_
   cases hs
   exact ⟨_, fr_ovl 21 ⟨rfl, trivial⟩, hC⟩
  refine pl_yes (.int .i64 x8) (tg := 15) (by kernel_rfl) (congrArg Value.bool a2) (y_move rfl) ?_
  refine pl_yes (.int .i64 n) (tg := 15) (by kernel_rfl) (congrArg Value.bool a2) (y_move rfl) ?_
  refine pl_yes (.bool (decide (n ≤ x8))) (tg := 15) (by kernel_rfl) (congrArg Value.bool a2) (y_geq rfl rfl) ?_
  refine pl_val (.bool (decide (n ≤ x8))) (y_pick_f (congrArg Value.bool a2) rfl) ?_
  refine c_nil ?_
  rcases bif_some hs with ⟨a3, hs⟩ | ⟨a3, hs⟩
  ·refine c_condT (congrArg Value.bool a3) ?_
   refine c_sr ?_
   refine pl_val (.bool false) (y_assign rfl) ?_
   refine c_nil ?_
   refine wp_ret ?_
   cases hs
   exact ⟨_, fr_ovl 21 ⟨rfl, trivial⟩, hC⟩
  refine c_condF (congrArg Value.bool a3) ?_
  refine wp_skip ?_
  refine c_region ?_
  refine pl_val (.int .i64 (w64 ((a1 : Int) + 1))) (y_add rfl rfl) ?_
  refine pl_val (.int .i64 (w64 ((a1 : Int) + 1))) (y_move rfl) ?_
  refine c_nil ?_
  cases hs
  exact ⟨_, rfl, drop_cons_next hd, _, fr_ovl 21 ⟨rfl, rfl, rfl, congrArg (Value.int .i64) (w64_succ hlt (Int.natCast_nonneg _) (rs_max h0)), trivial⟩, hC, hO, h0⟩
 ·skip
  exact ⟨0, rfl, rfl, _, fr_ovl 21 ⟨rfl, rfl, rfl, rfl, trivial⟩, hC, hO, h0⟩
 cases o9 with
 | nx _ => exact True.intro
 | rt r_ =>
  have hs := after_rt hs
  intro b1 a4 hK
  cases hs
  exact hK
 | br s5 =>
  have hs := after_br hs
  rintro b1 a0 ⟨σ, rfl, hC, hO, h0⟩
  refine c_sr ?_
  refine pl_val (.bool true) (y_assign rfl) ?_
  refine c_nil ?_
  refine wp_ret ?_
  cases hs
  exact ⟨_, fr_ovl 21 ⟨rfl, trivial⟩, hC⟩

def k_impl_compareLists (M : Nat → Prop) (w0 : World) (r : Int) (a : Act) (w : World) : Prop :=
  ∃ (σ : Nat → Value) , a = fr 48 (ovl σ [(4, (.int .i64 r))]) ∧ Chg [] w0 w
def s_impl_compareLists (s_ : List Int) (t : List Int) : Option (Int) :=
  (iter (S := Int) (R := Int) (fun s25 =>
  (bif ((decide (s25 < (s_.length : Int))) && (decide (s25 < (t.length : Int)))) then (idx s_ s25).bind fun x42 =>
  (idx t s25).bind fun x44 =>
  (bif (x42 != x44) then (idx s_ s25).bind fun x48 =>
  (idx t s25).bind fun x50 =>
  (bif (decide (x48 < x50)) then some (.rt (-1)) else some (.rt 1)) else some (.nx (w64 (s25 + 1)))) else some (.br s25))) FU 0).bind fun o29 => after o29 (fun r_ => some r_) (fun s25 =>
  (bif (decide ((s_.length : Int) < (t.length : Int))) then some (-1) else (bif (decide ((t.length : Int) < (s_.length : Int))) then some 1 else some 0)))
set_option maxHeartbeats 4000000 in
theorem c_impl_compareLists {M : Nat → Prop} {w : World} {pa0 : Option Addr} {pn0 pc0 : Nat} {pa1 : Option Addr} {pn1 pc1 : Nat} (s_ : List Int) (t : List Int) (h0 : (RT.rs (RT.int .i64)).val M w (.slice pa0 pn0 pc0) s_ ([])) (h1 : (RT.rs (RT.int .i64)).val M w (.slice pa1 pn1 pc1) t ([])) (hM : ∀ g, w.heap.size ≤ g → M g) {r : Int} (hs : s_impl_compareLists s_ t = some r) :
    Gives Try.prog 136 [(.slice pa0 pn0 pc0), (.slice pa1 pn1 pc1)] w (fun v w' => v = (.int .i64 r) ∧ Chg [] w w') := by
 refine calls_fr Try.func136 rfl Try.ntmps136 (Nat.le_of_ble_eq_true rfl) ?_
 have hO := Own.start (N := Nw w []) hM Nw.fut
 have hC := Chg.refl [] w
 unfold s_impl_compareLists at hs
 refine wp_mono (Q := KPost (k_impl_compareLists M w r)) ?_ (fun e a b3 h => ?_)
 rotate_left
 ·cases e
  case ret =>
   obtain ⟨σ, rfl, hrest⟩ := h
   exact ret1x Try.results136 (res_tmp rfl) ⟨rfl, hrest⟩
  all_goals exact (h : False).elim
 refine c_sr ?_
 refine pl_val (.int .i64 0) (y_assign rfl) ?_
 refine c_nil ?_
 refine c_seq ?_
 refine c_sr ?_
 refine pl_val (.int .i64 0) (y_assign rfl) ?_
 refine c_nil ?_
 obtain ⟨o29, b4, hs⟩ := bind_some hs
 refine wp_block ?_
 refine wp_iter (id := 0) (I := fun s25 a a0 => ∃ (σ : Nat → Value), a = fr 48 (ovl σ [(0, (.slice pa0 pn0 pc0)), (1, (.slice pa1 pn1 pc1)), (5, (.int .i64 s25))]) ∧ Chg [] w a0 ∧ Own (Nw w []) M a0 ([]) ∧ (RT.rs (RT.int .i64)).val M a0 (.slice pa0 pn0 pc0) s_ ([]) ∧ (RT.rs (RT.int .i64)).val M a0 (.slice pa1 pn1 pc1) t ([])) (J := fun s25 a a0 => ∃ (σ : Nat → Value), a = fr 48 (ovl σ [(0, (.slice pa0 pn0 pc0)), (1, (.slice pa1 pn1 pc1))]) ∧ Chg [] w a0 ∧ Own (Nw w []) M a0 ([]) ∧ (RT.rs (RT.int .i64)).val M a0 (.slice pa0 pn0 pc0) s_ ([]) ∧ (RT.rs (RT.int .i64)).val M a0 (.slice pa1 pn1 pc1) t ([])) (K := (k_impl_compareLists M w)) ?_ FU 0 o29 _ _ ?_ b4 ?_
 ·rintro s25 o29 a a0 ⟨σ, rfl, hC, hO, h0, h1⟩ hs
  refine c_seq ?_
  refine c_seq ?_
  refine c_mid (I := fun a a4 => ∃ (σ : Nat → Value), a = fr 48 (ovl σ [(0, (.slice pa0 pn0 pc0)), (1, (.slice pa1 pn1 pc1)), (5, (.int .i64 s25)), (15, (.bool ((decide (s25 < (s_.length : Int))) && (decide (s25 < (t.length : Int))))))]) ∧ Chg [] a0 a4) ?_ ?_
  ·have hMid := Chg.refl [] a0
   refine c_region ?_
   refine pl_val (.int .i64 s25) (y_move rfl) ?_
   refine pl_val (.slice pa0 pn0 pc0) (y_move rfl) ?_
   refine pl_val (.int .i64 (s_.length : Int)) (y_len' Sl41 (rs_len h0) rfl) ?_
   refine pl_val (.bool (decide (s25 < (s_.length : Int)))) (y_lss rfl rfl) ?_
   refine pl_val (.bool (decide (s25 < (s_.length : Int)))) (y_move rfl) ?_
   rcases Bool.eq_false_or_eq_true ((decide (s25 < (s_.length : Int)))) with a1 | a1
   ·skip
    refine pl_yes (.int .i64 s25) (tg := 10) (by kernel_rfl) (congrArg Value.bool a1) (y_move rfl) ?_
    refine pl_yes (.slice pa1 pn1 pc1) (tg := 10) (by kernel_rfl) (congrArg Value.bool a1) (y_move rfl) ?_
    refine pl_yes (.int .i64 (t.length : Int)) (tg := 10) (by kernel_rfl) (congrArg Value.bool a1) (y_len' Sl41 (rs_len h1) rfl) ?_
    refine pl_yes (.bool (decide (s25 < (t.length : Int)))) (tg := 10) (by kernel_rfl) (congrArg Value.bool a1) (y_lss rfl rfl) ?_
    refine pl_val (.bool ((decide (s25 < (s_.length : Int))) && (decide (s25 < (t.length : Int))))) (y_pick_t (congrArg Value.bool a1) (congrArg Value.bool (by rw [a1]; rfl))) ?_
    refine c_nil ?_
    exact ⟨_, fr_ovl 48 ⟨rfl, rfl, rfl, rfl, trivial⟩, hMid⟩
   refine pl_not (tg := 10) (by kernel_rfl) (congrArg Value.bool a1) ?_
   refine pl_not (tg := 10) (by kernel_rfl) (congrArg Value.bool a1) ?_
   refine pl_not (tg := 10) (by kernel_rfl) (congrArg Value.bool a1) ?_
   refine pl_not (tg := 10) (by kernel_rfl) (congrArg Value.bool a1) ?_
   refine pl_val (.bool ((decide (s25 < (s_.length : Int))) && (decide (s25 < (t.length : Int))))) (y_pick_f (congrArg Value.bool a1) (congrArg Value.bool (by rw [a1]; rfl))) ?_
   refine c_nil ?_
   exact ⟨_, fr_ovl 48 ⟨rfl, rfl, rfl, rfl, trivial⟩, hMid⟩
  rintro b2 a4 ⟨σ, rfl, a5⟩
  have h0 := h0.ext a5
  have h1 := h1.ext a5
  have hC := hC.ext a5
  have hO := hO.ext a5
  rcases bif_some hs with ⟨a6, hs⟩ | ⟨a6, hs⟩
  ·refine c_condT (congrArg Value.bool a6) ?_
   refine wp_skip ?_
   refine c_seq ?_
   refine wp_block ?_
   refine c_seq ?_
   refine x_start [] Mx rfl ?_
   have a2 := Chg.drew a4
   generalize World.drew a4 = a7 at a2 ⊢
   have h0 := h0.ext a2
   have h1 := h1.ext a2
   have hC := hC.ext a2
   have hO := hO.ext a2
   have hS := Chg.refl [] a7
   refine x_p 0 (.slice pa0 pn0 pc0) rfl (by kernel_rfl)  (fun _ => y_move rfl) (fun _ => hS) ?_
   refine x_p 1 (.int .i64 s25) rfl (by kernel_rfl)  (fun _ => y_move rfl) (fun _ => hS) ?_
   obtain ⟨x42, b5, hs⟩ := bind_some hs
   obtain ⟨b6, b7, b8, b9⟩ := rs_idx Sl41 Sz3 h0 b5
   refine x_p 2 (.pointer (some ⟨b6, b7, none⟩)) rfl (by kernel_rfl)  (fun _ => b8 _ _ _ _ _ _ _ _ _ rfl rfl) (fun _ => hS) ?_
   refine x_l 3 (.int .i64 x42) rfl (by kernel_rfl)  (fun w' hw' => y_load rfl ((at_load_int Ag3 Sz3 b9) w' hw')) hS ?_
   refine x_p 4 (.slice pa1 pn1 pc1) rfl (by kernel_rfl)  (fun _ => y_move rfl) (fun _ => hS) ?_
   refine x_p 5 (.int .i64 s25) rfl (by kernel_rfl)  (fun _ => y_move rfl) (fun _ => hS) ?_
   obtain ⟨x44, c0, hs⟩ := bind_some hs
   obtain ⟨c1, c2, c3, c4⟩ := rs_idx Sl41 Sz3 h1 c0
   refine x_p 6 (.pointer (some ⟨c1, c2, none⟩)) rfl (by kernel_rfl)  (fun _ => c3 _ _ _ _ _ _ _ _ _ rfl rfl) (fun _ => hS) ?_
   refine x_l 7 (.int .i64 x44) rfl (by kernel_rfl)  (fun w' hw' => y_load rfl ((at_load_int Ag3 Sz3 c4) w' hw')) hS ?_
   refine x_p 8 (.bool (x42 != x44)) rfl (by kernel_rfl)  (fun _ => y_neq rfl rfl) (fun _ => hS) ?_
   refine x_end (by kernel_rfl) ?_
   clear hS
   rcases bif_some hs with ⟨a8, hs⟩ | ⟨a8, hs⟩
   ·refine c_condT (congrArg Value.bool a8) ?_
    refine c_seq ?_
    refine c_seq ?_
    refine x_start [] Mx rfl ?_
    have a3 := Chg.drew a7
    generalize World.drew a7 = c5 at a3 ⊢
    have h0 := h0.ext a3
    have h1 := h1.ext a3
    have hC := hC.ext a3
    have hO := hO.ext a3
    have hS := Chg.refl [] c5
    refine x_p 0 (.slice pa0 pn0 pc0) rfl (by kernel_rfl)  (fun _ => y_move rfl) (fun _ => hS) ?_
    refine x_p 1 (.int .i64 s25) rfl (by kernel_rfl)  (fun _ => y_move rfl) (fun _ => hS) ?_
    obtain ⟨x48, c6, hs⟩ := bind_some hs
    obtain ⟨c7, c8, c9, d0⟩ := rs_idx Sl41 Sz3 h0 c6
    refine x_p 2 (.pointer (some ⟨c7, c8, none⟩)) rfl (by kernel_rfl)  (fun _ => c9 _ _ _ _ _ _ _ _ _ rfl rfl) (fun _ => hS) ?_
    refine x_l 3 (.int .i64 x48) rfl (by kernel_rfl)  (fun w' hw' => y_load rfl ((at_load_int Ag3 Sz3 d0) w' hw')) hS ?_
    refine x_p 4 (.slice pa1 pn1 pc1) rfl (by kernel_rfl)  (fun _ => y_move rfl) (fun _ => hS) ?_
    refine x_p 5 (.int .i64 s25) rfl (by kernel_rfl)  (fun _ => y_move rfl) (fun _ => hS) ?_
    obtain ⟨x50, d1, hs⟩ := bind_some hs
    obtain ⟨d2, d3, d4, d5⟩ := rs_idx Sl41 Sz3 h1 d1
    refine x_p 6 (.pointer (some ⟨d2, d3, none⟩)) rfl (by kernel_rfl)  (fun _ => d4 _ _ _ _ _ _ _ _ _ rfl rfl) (fun _ => hS) ?_
    refine x_l 7 (.int .i64 x50) rfl (by kernel_rfl)  (fun w' hw' => y_load rfl ((at_load_int Ag3 Sz3 d5) w' hw')) hS ?_
    refine x_p 8 (.bool (decide (x48 < x50))) rfl (by kernel_rfl)  (fun _ => y_lss rfl rfl) (fun _ => hS) ?_
    refine x_end (by kernel_rfl) ?_
    clear hS
    rcases bif_some hs with ⟨a9, hs⟩ | ⟨a9, hs⟩
    ·refine c_condT (congrArg Value.bool a9) ?_
     refine c_sr ?_
     refine pl_val (.int .i64 (-1)) (y_assign rfl) ?_
     refine c_nil ?_
     refine wp_ret ?_
     cases hs
     exact ⟨_, fr_ovl 48 ⟨rfl, trivial⟩, hC⟩
    refine c_condF (congrArg Value.bool a9) ?_
    refine wp_skip ?_
    refine c_sr ?_
    refine pl_val (.int .i64 1) (y_assign rfl) ?_
    refine c_nil ?_
    refine wp_ret ?_
    cases hs
    exact ⟨_, fr_ovl 48 ⟨rfl, trivial⟩, hC⟩
   refine c_condF (congrArg Value.bool a8) ?_
   refine wp_skip ?_
   refine c_region ?_
   refine pl_val (.int .i64 s25) (y_move rfl) ?_
   refine pl_val (.int .i64 (w64 (s25 + 1))) (y_add rfl rfl) ?_
   refine pl_val (.int .i64 (w64 (s25 + 1))) (y_assign rfl) ?_
   refine c_nil ?_
   cases hs
   exact ⟨_, fr_ovl 48 ⟨rfl, rfl, rfl, trivial⟩, hC, hO, h0, h1⟩
  refine c_condF (congrArg Value.bool a6) ?_
  refine wp_exit ?_
  cases hs
  exact ⟨rfl, _, fr_ovl 48 ⟨rfl, rfl, trivial⟩, hC, hO, h0, h1⟩
 ·skip
  exact ⟨_, fr_ovl 48 ⟨rfl, rfl, rfl, trivial⟩, hC, hO, h0, h1⟩
 cases o29 with
 | nx _ => exact True.intro
 | rt r_ =>
  have hs := after_rt hs
  intro b2 b3 hK
  cases hs
  exact hK
 | br s25 =>
  have hs := after_br hs
  rintro b2 a0 ⟨σ, rfl, hC, hO, h0, h1⟩
  refine c_seq ?_
  refine wp_block ?_
  refine c_sr ?_
  refine pl_val (.slice pa0 pn0 pc0) (y_move rfl) ?_
  refine pl_val (.int .i64 (s_.length : Int)) (y_len' Sl41 (rs_len h0) rfl) ?_
  refine pl_val (.slice pa1 pn1 pc1) (y_move rfl) ?_
  refine pl_val (.int .i64 (t.length : Int)) (y_len' Sl41 (rs_len h1) rfl) ?_
  refine pl_val (.bool (decide ((s_.length : Int) < (t.length : Int)))) (y_lss rfl rfl) ?_
  refine pl_val (.bool (decide ((s_.length : Int) < (t.length : Int)))) (y_assign rfl) ?_
  refine c_nil ?_
  rcases bif_some hs with ⟨b0, hs⟩ | ⟨b0, hs⟩
  ·refine c_condT (congrArg Value.bool b0) ?_
   refine c_sr ?_
   refine pl_val (.int .i64 (-1)) (y_assign rfl) ?_
   refine c_nil ?_
   refine wp_ret ?_
   cases hs
   exact ⟨_, fr_ovl 48 ⟨rfl, trivial⟩, hC⟩
  refine c_condF (congrArg Value.bool b0) ?_
  refine c_sr ?_
  refine pl_val (.slice pa0 pn0 pc0) (y_move rfl) ?_
  refine pl_val (.int .i64 (s_.length : Int)) (y_len' Sl41 (rs_len h0) rfl) ?_
  refine pl_val (.slice pa1 pn1 pc1) (y_move rfl) ?_
  refine pl_val (.int .i64 (t.length : Int)) (y_len' Sl41 (rs_len h1) rfl) ?_
  refine pl_val (.bool (decide ((t.length : Int) < (s_.length : Int)))) (y_gtr rfl rfl) ?_
  refine pl_val (.bool (decide ((t.length : Int) < (s_.length : Int)))) (y_assign rfl) ?_
  refine c_nil ?_
  rcases bif_some hs with ⟨b1, hs⟩ | ⟨b1, hs⟩
  ·refine c_condT (congrArg Value.bool b1) ?_
   refine c_sr ?_
   refine pl_val (.int .i64 1) (y_assign rfl) ?_
   refine c_nil ?_
   refine wp_ret ?_
   cases hs
   exact ⟨_, fr_ovl 48 ⟨rfl, trivial⟩, hC⟩
  refine c_condF (congrArg Value.bool b1) ?_
  refine wp_skip ?_
  refine c_sr ?_
  refine pl_val (.int .i64 0) (y_assign rfl) ?_
  refine c_nil ?_
  refine wp_ret ?_
  cases hs
  exact ⟨_, fr_ovl 48 ⟨rfl, trivial⟩, hC⟩

theorem Bd71 : Bodied Try.prog 71 := bodied Try.func71 (by kernel_rfl) rfl

theorem Bd136 : Bodied Try.prog 136 := bodied Try.func136 (by kernel_rfl) rfl

def k_impl_isRelation (M : Nat → Prop) (w0 : World) (r : Bool) (a : Act) (w : World) : Prop :=
  ∃ (σ : Nat → Value) , a = fr 50 (ovl σ [(4, (.bool r))]) ∧ Chg [] w0 w
def s_impl_isRelation (n : Int) (r_ : Int × (List (List Int))) : Option (Bool) :=
  (bif ((decide (r_.1 < 1)) || (decide (3 < r_.1))) then some false else (forC (S := Unit) (R := Bool) (fun k26 s24 =>
  (idx r_.2 k26).bind fun x30 =>
  (bif ((x30.length : Int) != r_.1) then some (.rt false) else (s_impl_inSize x30 n).bind fun r36 =>
  (bif (!r36) then some (.rt false) else (bif (decide (0 < k26)) then (idx r_.2 (w64 (k26 - 1))).bind fun x39 =>
  (s_impl_compareLists x39 x30).bind fun r44 =>
  (bif (decide (0 ≤ r44)) then some (.rt false) else some (.nx ())) else some (.nx ()))))) 0 (r_.2.length : Int) ()).bind fun o28 => after o28 (fun r_ => some r_) (fun s24 =>
  some true))
set_option maxHeartbeats 4000000 in
theorem c_impl_isRelation {M : Nat → Prop} {w : World} {pa0 : Option Addr} {pn0 pc0 : Nat} (n : Int) (r_ : Int × (List (List Int))) (h0 : (RT.rs (RT.rs (RT.int .i64))).val M w (.slice pa0 pn0 pc0) r_.2 ([])) (hM : ∀ g, w.heap.size ≤ g → M g) {r : Bool} (hs : s_impl_isRelation n r_ = some r) :
    Gives Try.prog 118 [(.int .i64 n), (.agg #[(.int .i64 r_.1), (.slice pa0 pn0 pc0)])] w (fun v w' => v = (.bool r) ∧ Chg [] w w') := by
 refine calls_fr Try.func118 rfl Try.ntmps118 (Nat.le_of_ble_eq_true rfl) ?_
 have hO := Own.start (N := Nw w []) hM Nw.fut
 have hC := Chg.refl [] w
 unfold s_impl_isRelation at hs
 refine wp_mono (Q := KPost (k_impl_isRelation M w r)) ?_ (fun e a c2 h => ?_)
 rotate_left
 ·cases e
  case ret =>
   obtain ⟨σ, rfl, hrest⟩ := h
   exact ret1x Try.results118 (res_tmp rfl) ⟨rfl, hrest⟩
  all_goals exact (h : False).elim
 refine c_sr ?_
 obtain ⟨b5, a3, c3, b9, b6, a1⟩ := new_block w [(.int .i64 r_.1), (.slice pa0 pn0 pc0)] 54
 refine pl_val (w' := b5) (.pointer (some ⟨a3, 0, none⟩)) (y_box rfl (by rw [c3, b9]; kernel_rfl)) ?_
 have h0 := h0.ext b6
 have hC := hC.ext b6
 have hO := hO.new1 b6 b9 a1.lt
 refine pl_val (.bool false) (y_assign rfl) ?_
 refine c_nil ?_
 refine c_seq ?_
 refine c_seq ?_
 refine c_mid (I := fun a c0 => ∃ (σ : Nat → Value), a = fr 50 (ovl σ [(0, (.int .i64 n)), (3, (.pointer (some ⟨a3, 0, none⟩))), (4, (.bool false)), (14, (.bool ((decide (r_.1 < 1)) || (decide (3 < r_.1)))))]) ∧ Chg [] b5 c0) ?_ ?_
 ·have hMid := Chg.refl [] b5
  refine c_region ?_
  refine pl_val (.pointer (some ⟨a3, 0, none⟩)) (y_faddr rfl Fa54x0) ?_
  refine pl_val (.int .i64 r_.1) (y_load rfl ((box_load Ag3 Sz3 a1 [] [(.int .i64 r_.1)] [(.slice pa0 pn0 pc0)] rfl rfl (fun _ => rfl)) _ (Chg.refl _ _))) ?_
  refine pl_val (.bool (decide (r_.1 < 1))) (y_lss rfl rfl) ?_
  refine pl_val (.bool (decide (r_.1 < 1))) (y_move rfl) ?_
  rcases Bool.eq_false_or_eq_true ((decide (r_.1 < 1))) with a5 | a5
  ·skip
   refine pl_not (tg := 10) (by kernel_rfl) (congrArg Value.bool a5) ?_
   refine pl_not (tg := 10) (by kernel_rfl) (congrArg Value.bool a5) ?_
   refine pl_not (tg := 10) (by kernel_rfl) (congrArg Value.bool a5) ?_
   refine pl_val (.bool ((decide (r_.1 < 1)) || (decide (3 < r_.1)))) (y_pick_t (congrArg Value.bool a5) (congrArg Value.bool (by rw [a5]; rfl))) ?_
   refine c_nil ?_
   exact ⟨_, fr_ovl 50 ⟨rfl, rfl, rfl, rfl, trivial⟩, hMid⟩
  refine pl_yes (.pointer (some ⟨a3, 0, none⟩)) (tg := 10) (by kernel_rfl) (congrArg Value.bool a5) (y_faddr rfl Fa54x0) ?_
  refine pl_yes (.int .i64 r_.1) (tg := 10) (by kernel_rfl) (congrArg Value.bool a5) (y_load rfl ((box_load Ag3 Sz3 a1 [] [(.int .i64 r_.1)] [(.slice pa0 pn0 pc0)] rfl rfl (fun _ => rfl)) _ (Chg.refl _ _))) ?_
  refine pl_yes (.bool (decide (3 < r_.1))) (tg := 10) (by kernel_rfl) (congrArg Value.bool a5) (y_gtr rfl rfl) ?_
  refine pl_val (.bool ((decide (r_.1 < 1)) || (decide (3 < r_.1)))) (y_pick_f (congrArg Value.bool a5) (congrArg Value.bool (by rw [a5]; rfl))) ?_
  refine c_nil ?_
  exact ⟨_, fr_ovl 50 ⟨rfl, rfl, rfl, rfl, trivial⟩, hMid⟩
 rintro c1 c0 ⟨σ, rfl, b3⟩
 have h0 := h0.ext b3
 have a1 := a1.cn b3
 have hC := hC.ext b3
 have hO := hO.ext b3
 rcases bif_some hs with ⟨b7, hs⟩ | ⟨b7, hs⟩
 ·refine c_condT (congrArg Value.bool b7) ?_
  refine c_sr ?_
  refine pl_val (.bool false) (y_assign rfl) ?_
  refine c_nil ?_
  refine wp_ret ?_
  cases hs
  exact ⟨_, fr_ovl 50 ⟨rfl, trivial⟩, hC⟩
 refine c_condF (congrArg Value.bool b7) ?_
 refine wp_skip ?_
 refine c_seq ?_
 refine c_sr ?_
 refine pl_val (.pointer (some ⟨a3, 1, none⟩)) (y_faddr rfl Fa54x1) ?_
 refine pl_val (.slice pa0 pn0 pc0) (y_load rfl ((box_load Ag47 Sz47 a1 [(.int .i64 r_.1)] [(.slice pa0 pn0 pc0)] [] rfl rfl (fun _ => rfl)) _ (Chg.refl _ _))) ?_
 refine pl_val (.int .i64 (r_.2.length : Int)) (y_len' Sl47 (rs_len h0) rfl) ?_
 refine pl_val (.int .i64 0) (y_move rfl) ?_
 refine c_nil ?_
 obtain ⟨o28, c4, hs⟩ := bind_some hs
 refine wp_block ?_
 refine wp_forC (id := 0) (r_.2.length : Int) (I := fun k26 s24 a a4 => ∃ (σ : Nat → Value), a = fr 50 (ovl σ [(0, (.int .i64 n)), (3, (.pointer (some ⟨a3, 0, none⟩))), (16, (.slice pa0 pn0 pc0)), (17, (.int .i64 (r_.2.length : Int))), (18, (.int .i64 k26))]) ∧ Chg [] w a4 ∧ Own (Nw w []) M a4 (([a3]) ++ []) ∧ (RT.rs (RT.rs (RT.int .i64))).val M a4 (.slice pa0 pn0 pc0) r_.2 ([]) ∧ BoxV a4 a3 54 [(.int .i64 r_.1), (.slice pa0 pn0 pc0)]) (J := fun s24 a a4 => ∃ (σ : Nat → Value), a = fr 50 (ovl σ []) ∧ Chg [] w a4 ∧ Own (Nw w []) M a4 (([a3]) ++ []) ∧ (RT.rs (RT.rs (RT.int .i64))).val M a4 (.slice pa0 pn0 pc0) r_.2 ([]) ∧ BoxV a4 a3 54 [(.int .i64 r_.1), (.slice pa0 pn0 pc0)]) (K := (k_impl_isRelation M w)) ?_ ?_ 0 () o28 _ _ ?_ c4 ?_
 ·rintro k26 s24 a a4 ⟨σ, rfl, hC, hO, h0, a1⟩ hlt
  refine c_sr ?_
  refine pl_val (.bool (decide (k26 < (r_.2.length : Int)))) (y_lss rfl rfl) ?_
  refine c_nil ?_
  refine c_seq ?_
  refine c_condF (congrArg Value.bool (decide_eq_false hlt)) ?_
  refine wp_exit ?_
  exact ⟨rfl, _, fr_ovl 50 trivial, hC, hO, h0, a1⟩
 ·rintro k26 s24 o28 a a4 ⟨σ, rfl, hC, hO, h0, a1⟩ hlt hw hs
  refine c_sr ?_
  refine pl_val (.bool (decide (k26 < (r_.2.length : Int)))) (y_lss rfl rfl) ?_
  refine c_nil ?_
  refine c_seq ?_
  refine c_condT (congrArg Value.bool (decide_eq_true hlt)) ?_
  refine wp_skip ?_
  refine c_seq ?_
  refine wp_block ?_
  refine c_sr ?_
  refine pl_val (.int .i64 k26) (y_move rfl) ?_
  obtain ⟨x30, c5, hs⟩ := bind_some hs
  obtain ⟨c6, c7, c8, c9⟩ := rs_idx Sl47 Sz41 h0 c5
  refine pl_val (.pointer (some ⟨c6, c7, none⟩)) (c8 _ _ _ _ _ _ _ _ _ rfl rfl) ?_
  obtain ⟨e2, d0, a7⟩ := at_load Ag41 Sz41 (fun _ => rfl) c9
  obtain ⟨a9, b0, b1, rfl⟩ := rs_sl a7
  refine pl_val (.slice a9 b0 b1) (y_load rfl (d0 _ (Chg.refl _ _))) ?_
  refine pl_val (.int .i64 k26) (y_assign rfl) ?_
  refine pl_val (.slice a9 b0 b1) (y_assign rfl) ?_
  refine c_nil ?_
  refine c_sr ?_
  refine pl_val (.slice a9 b0 b1) (y_move rfl) ?_
  refine pl_val (.int .i64 (x30.length : Int)) (y_len' Sl41 (rs_len a7) rfl) ?_
  refine pl_val (.pointer (some ⟨a3, 0, none⟩)) (y_faddr rfl Fa54x0) ?_
  refine pl_val (.int .i64 r_.1) (y_load rfl ((box_load Ag3 Sz3 a1 [] [(.int .i64 r_.1)] [(.slice pa0 pn0 pc0)] rfl rfl (fun _ => rfl)) _ (Chg.refl _ _))) ?_
  refine pl_val (.bool ((x30.length : Int) != r_.1)) (y_neq rfl rfl) ?_
  refine pl_val (.bool ((x30.length : Int) != r_.1)) (y_move rfl) ?_
  rcases bif_some hs with ⟨a6, hs⟩ | ⟨a6, hs⟩
  ·skip
   refine pl_not (tg := 28) (by kernel_rfl) (congrArg Value.bool a6) ?_
   refine pl_not (tg := 28) (by kernel_rfl) (congrArg Value.bool a6) ?_
   refine pl_not (tg := 28) (by kernel_rfl) (congrArg Value.bool a6) ?_
   refine pl_not (tg := 28) (by kernel_rfl) (congrArg Value.bool a6) ?_
   refine pl_val (.bool true) (y_pick_t (congrArg Value.bool a6) rfl) ?_
   refine pl_val (.bool true) (y_move rfl) ?_
   refine pl_not (tg := 34) (by kernel_rfl) (by rfl) ?_
   refine pl_not (tg := 34) (by kernel_rfl) (by rfl) ?_
   refine pl_not (tg := 34) (by kernel_rfl) (by rfl) ?_
   refine pl_nou (tg := 37) (by kernel_rfl) rfl ?_
   refine pl_nou (tg := 37) (by kernel_rfl) rfl ?_
   refine pl_nou (tg := 37) (by kernel_rfl) rfl ?_
   refine pl_nou (tg := 37) (by kernel_rfl) rfl ?_
   refine pl_nou (tg := 37) (by kernel_rfl) rfl ?_
   refine pl_nou (tg := 37) (by kernel_rfl) rfl ?_
   refine pl_nou (tg := 37) (by kernel_rfl) rfl ?_
   refine pl_nou (tg := 37) (by kernel_rfl) rfl ?_
   refine pl_nou (tg := 37) (by kernel_rfl) rfl ?_
   refine pl_not (tg := 34) (by kernel_rfl) (by rfl) ?_
   refine pl_val (.bool true) (y_pick_t (by rfl) rfl) ?_
   refine c_nil ?_
   refine c_condT (by rfl) ?_
   refine c_sr ?_
   refine pl_val (.bool false) (y_assign rfl) ?_
   refine c_nil ?_
   refine wp_ret ?_
   cases hs
   exact ⟨_, fr_ovl 50 ⟨rfl, trivial⟩, hC⟩
  refine pl_yes (.slice a9 b0 b1) (tg := 28) (by kernel_rfl) (congrArg Value.bool a6) (y_move rfl) ?_
  refine pl_yes (.int .i64 n) (tg := 28) (by kernel_rfl) (congrArg Value.bool a6) (y_move rfl) ?_
  obtain ⟨r36, d1, hs⟩ := bind_some hs
  refine pl_cally (tg := 28) (by kernel_rfl) (congrArg Value.bool a6) Bd71 rfl (c_impl_inSize (M := M) x30 n a7 hO.fut d1) ?_
  rintro _ e3 ⟨rfl, b2⟩
  have h0 := h0.ext b2
  have a1 := a1.cn b2
  have a7 := a7.ext b2
  have hC := hC.ext b2
  have hO := hO.ext b2
  refine pl_yes (.bool (!r36)) (tg := 28) (by kernel_rfl) (congrArg Value.bool a6) (y_not rfl) ?_
  refine pl_val (.bool (!r36)) (y_pick_f (congrArg Value.bool a6) rfl) ?_
  refine pl_val (.bool (!r36)) (y_move rfl) ?_
  rcases bif_some hs with ⟨a2, hs⟩ | ⟨a2, hs⟩
  ·skip
   refine pl_not (tg := 34) (by kernel_rfl) (congrArg Value.bool a2) ?_
   refine pl_not (tg := 34) (by kernel_rfl) (congrArg Value.bool a2) ?_
   refine pl_not (tg := 34) (by kernel_rfl) (congrArg Value.bool a2) ?_
   refine pl_nou (tg := 37) (by kernel_rfl) rfl ?_
   refine pl_nou (tg := 37) (by kernel_rfl) rfl ?_
   refine pl_nou (tg := 37) (by kernel_rfl) rfl ?_
   refine pl_nou (tg := 37) (by kernel_rfl) rfl ?_
   refine pl_nou (tg := 37) (by kernel_rfl) rfl ?_
   refine pl_nou (tg := 37) (by kernel_rfl) rfl ?_
   refine pl_nou (tg := 37) (by kernel_rfl) rfl ?_
   refine pl_nou (tg := 37) (by kernel_rfl) rfl ?_
   refine pl_nou (tg := 37) (by kernel_rfl) rfl ?_
   refine pl_not (tg := 34) (by kernel_rfl) (congrArg Value.bool a2) ?_
   refine pl_val (.bool true) (y_pick_t (congrArg Value.bool a2) rfl) ?_
   refine c_nil ?_
   refine c_condT (by rfl) ?_
   refine c_sr ?_
   refine pl_val (.bool false) (y_assign rfl) ?_
   refine c_nil ?_
   refine wp_ret ?_
   cases hs
   exact ⟨_, fr_ovl 50 ⟨rfl, trivial⟩, hC⟩
  refine pl_yes (.int .i64 k26) (tg := 34) (by kernel_rfl) (congrArg Value.bool a2) (y_move rfl) ?_
  refine pl_yes (.bool (decide (0 < k26))) (tg := 34) (by kernel_rfl) (congrArg Value.bool a2) (y_gtr rfl rfl) ?_
  refine pl_yes (.bool (decide (0 < k26))) (tg := 34) (by kernel_rfl) (congrArg Value.bool a2) (y_move rfl) ?_
  rcases bif_some hs with ⟨a0, hs⟩ | ⟨a0, hs⟩
  ·skip
   refine pl_yes (.pointer (some ⟨a3, 1, none⟩)) (tg := 37) (by kernel_rfl) (congrArg Value.bool a0) (y_faddr rfl Fa54x1) ?_
   refine pl_yes (.slice pa0 pn0 pc0) (tg := 37) (by kernel_rfl) (congrArg Value.bool a0) (y_load rfl ((box_load Ag47 Sz47 a1 [(.int .i64 r_.1)] [(.slice pa0 pn0 pc0)] [] rfl rfl (fun _ => rfl)) _ (Chg.refl _ _))) ?_
   refine pl_yes (.int .i64 k26) (tg := 37) (by kernel_rfl) (congrArg Value.bool a0) (y_move rfl) ?_
   refine pl_yes (.int .i64 (w64 (k26 - 1))) (tg := 37) (by kernel_rfl) (congrArg Value.bool a0) (y_sub rfl rfl) ?_
   obtain ⟨x39, d2, hs⟩ := bind_some hs
   obtain ⟨d3, d4, d5, d6⟩ := rs_idx Sl47 Sz41 h0 d2
   refine pl_yes (.pointer (some ⟨d3, d4, none⟩)) (tg := 37) (by kernel_rfl) (congrArg Value.bool a0) (d5 _ _ _ _ _ _ _ _ _ rfl rfl) ?_
   obtain ⟨e4, d7, b4⟩ := at_load Ag41 Sz41 (fun _ => rfl) d6
   obtain ⟨d8, d9, e0, rfl⟩ := rs_sl b4
   refine pl_yes (.slice d8 d9 e0) (tg := 37) (by kernel_rfl) (congrArg Value.bool a0) (y_load rfl (d7 _ (Chg.refl _ _))) ?_
   refine pl_yes (.slice a9 b0 b1) (tg := 37) (by kernel_rfl) (congrArg Value.bool a0) (y_move rfl) ?_
   obtain ⟨r44, e1, hs⟩ := bind_some hs
   refine pl_cally (tg := 37) (by kernel_rfl) (congrArg Value.bool a0) Bd136 rfl (c_impl_compareLists (M := M) x39 x30 b4 a7 hO.fut e1) ?_
   rintro _ e5 ⟨rfl, a8⟩
   have h0 := h0.ext a8
   have a1 := a1.cn a8
   have a7 := a7.ext a8
   have b4 := b4.ext a8
   have hC := hC.ext a8
   have hO := hO.ext a8
   refine pl_yes (.bool (decide (0 ≤ r44))) (tg := 37) (by kernel_rfl) (congrArg Value.bool a0) (y_geq rfl rfl) ?_
   refine pl_yes (.bool (decide (0 ≤ r44))) (tg := 34) (by kernel_rfl) (congrArg Value.bool a2) (y_pick_t (congrArg Value.bool a0) rfl) ?_
   refine pl_val (.bool (decide (0 ≤ r44))) (y_pick_f (congrArg Value.bool a2) rfl) ?_
   refine c_nil ?_
   rcases bif_some hs with ⟨b8, hs⟩ | ⟨b8, hs⟩
   ·refine c_condT (congrArg Value.bool b8) ?_
    refine c_sr ?_
    refine pl_val (.bool false) (y_assign rfl) ?_
    refine c_nil ?_
    refine wp_ret ?_
    cases hs
    exact ⟨_, fr_ovl 50 ⟨rfl, trivial⟩, hC⟩
   refine c_condF (congrArg Value.bool b8) ?_
   refine wp_skip ?_
   refine c_region ?_
   refine pl_val (.int .i64 (w64 (k26 + 1))) (y_add rfl rfl) ?_
   refine pl_val (.int .i64 (w64 (k26 + 1))) (y_move rfl) ?_
   refine c_nil ?_
   cases hs
   exact ⟨_, fr_ovl 50 ⟨rfl, rfl, rfl, rfl, congrArg (Value.int .i64) hw, trivial⟩, hC, hO, h0, a1⟩
  refine pl_not (tg := 37) (by kernel_rfl) (congrArg Value.bool a0) ?_
  refine pl_not (tg := 37) (by kernel_rfl) (congrArg Value.bool a0) ?_
  refine pl_not (tg := 37) (by kernel_rfl) (congrArg Value.bool a0) ?_
  refine pl_not (tg := 37) (by kernel_rfl) (congrArg Value.bool a0) ?_
  refine pl_not (tg := 37) (by kernel_rfl) (congrArg Value.bool a0) ?_
  refine pl_not (tg := 37) (by kernel_rfl) (congrArg Value.bool a0) ?_
  refine pl_not (tg := 37) (by kernel_rfl) (congrArg Value.bool a0) ?_
  refine pl_not (tg := 37) (by kernel_rfl) (congrArg Value.bool a0) ?_
  refine pl_not (tg := 37) (by kernel_rfl) (congrArg Value.bool a0) ?_
  refine pl_yes (.bool false) (tg := 34) (by kernel_rfl) (congrArg Value.bool a2) (y_pick_f (congrArg Value.bool a0) rfl) ?_
  refine pl_val (.bool false) (y_pick_f (congrArg Value.bool a2) rfl) ?_
  refine c_nil ?_
  refine c_condF (by rfl) ?_
  refine wp_skip ?_
  refine c_region ?_
  refine pl_val (.int .i64 (w64 (k26 + 1))) (y_add rfl rfl) ?_
  refine pl_val (.int .i64 (w64 (k26 + 1))) (y_move rfl) ?_
  refine c_nil ?_
  cases hs
  exact ⟨_, fr_ovl 50 ⟨rfl, rfl, rfl, rfl, congrArg (Value.int .i64) hw, trivial⟩, hC, hO, h0, a1⟩
 ·skip
  exact ⟨_, fr_ovl 50 ⟨rfl, rfl, rfl, rfl, rfl, trivial⟩, hC, hO, h0, a1⟩
 cases o28 with
 | nx _ => exact True.intro
 | rt r_ =>
  have hs := after_rt hs
  intro c1 c2 hK
  cases hs
  exact hK
 | br s24 =>
  have hs := after_br hs
  rintro c1 a4 ⟨σ, rfl, hC, hO, h0, a1⟩
  refine c_sr ?_
  refine pl_val (.bool true) (y_assign rfl) ?_
  refine c_nil ?_
  refine wp_ret ?_
  cases hs
  exact ⟨_, fr_ovl 50 ⟨rfl, trivial⟩, hC⟩

theorem Bd118 : Bodied Try.prog 118 := bodied Try.func118 (by kernel_rfl) rfl

def k_impl_isConstraint (M : Nat → Prop) (w0 : World) (r : Bool) (a : Act) (w : World) : Prop :=
  ∃ (σ : Nat → Value) , a = fr 26 (ovl σ [(6, (.bool r))]) ∧ Chg [] w0 w
def s_impl_isConstraint (vars : Int) (size : Int) (c : (List Int) × (Int × (List (List Int)))) : Option (Bool) :=
  (s_impl_isRelation size (c.2.1, c.2.2)).bind fun r5 =>
  (bif r5 then (bif ((c.1.length : Int) == c.2.1) then (s_impl_inSize c.1 vars).bind fun r9 =>
  some r9 else some false) else some false)
set_option maxHeartbeats 4000000 in
theorem c_impl_isConstraint {M : Nat → Prop} {w : World} {pa0 : Option Addr} {pn0 pc0 : Nat} {pa1 : Option Addr} {pn1 pc1 : Nat} (vars : Int) (size : Int) (c : (List Int) × (Int × (List (List Int)))) (h0 : (RT.rs (RT.int .i64)).val M w (.slice pa0 pn0 pc0) c.1 ([])) (h1 : (RT.rs (RT.rs (RT.int .i64))).val M w (.slice pa1 pn1 pc1) c.2.2 ([])) (hM : ∀ g, w.heap.size ≤ g → M g) {r : Bool} (hs : s_impl_isConstraint vars size c = some r) :
    Gives Try.prog 78 [(.int .i64 vars), (.int .i64 size), (.agg #[(.slice pa0 pn0 pc0), (.int .i64 c.2.1), (.slice pa1 pn1 pc1)])] w (fun v w' => v = (.bool r) ∧ Chg [] w w') := by
 refine calls_fr Try.func78 rfl Try.ntmps78 (Nat.le_of_ble_eq_true rfl) ?_
 have hO := Own.start (N := Nw w []) hM Nw.fut
 have hC := Chg.refl [] w
 unfold s_impl_isConstraint at hs
 refine wp_mono (Q := KPost (k_impl_isConstraint M w r)) ?_ (fun e a b2 h => ?_)
 rotate_left
 ·cases e
  case ret =>
   obtain ⟨σ, rfl, hrest⟩ := h
   exact ret1x Try.results78 (res_tmp rfl) ⟨rfl, hrest⟩
  all_goals exact (h : False).elim
 refine c_sr ?_
 obtain ⟨a8, a3, a9, a7, a6, a2⟩ := new_block w [(.slice pa0 pn0 pc0), (.int .i64 c.2.1), (.slice pa1 pn1 pc1)] 56
 refine pl_val (w' := a8) (.pointer (some ⟨a3, 0, none⟩)) (y_box rfl (by rw [a9, a7]; kernel_rfl)) ?_
 have h0 := h0.ext a6
 have h1 := h1.ext a6
 have hC := hC.ext a6
 have hO := hO.new1 a6 a7 a2.lt
 refine pl_val (.bool false) (y_assign rfl) ?_
 refine c_nil ?_
 refine c_sr ?_
 refine pl_val (.int .i64 size) (y_move rfl) ?_
 refine pl_val (.pointer (some ⟨a3, 1, none⟩)) (y_faddr rfl Fa56x1) ?_
 refine pl_val (.agg #[(.int .i64 c.2.1), (.slice pa1 pn1 pc1)]) (y_load rfl ((box_load Ag54 Sz54 a2 [(.slice pa0 pn0 pc0)] [(.int .i64 c.2.1), (.slice pa1 pn1 pc1)] [] rfl rfl (fun h => nomatch h)) _ (Chg.refl _ _))) ?_
 obtain ⟨r5, b0, hs⟩ := bind_some hs
 refine pl_call Bd118 rfl (c_impl_isRelation (M := M) size (c.2.1, c.2.2) h1 hO.fut b0) ?_
 rintro _ b3 ⟨rfl, a4⟩
 have h0 := h0.ext a4
 have h1 := h1.ext a4
 have a2 := a2.cn a4
 have hC := hC.ext a4
 have hO := hO.ext a4
 refine pl_val (.bool r5) (y_move rfl) ?_
 rcases bif_some hs with ⟨a0, hs⟩ | ⟨a0, hs⟩
 ·skip
  refine pl_yes (.pointer (some ⟨a3, 0, none⟩)) (tg := 11) (by kernel_rfl) (congrArg Value.bool a0) (y_faddr rfl Fa56x0) ?_
  refine pl_yes (.slice pa0 pn0 pc0) (tg := 11) (by kernel_rfl) (congrArg Value.bool a0) (y_load rfl ((box_load Ag41 Sz41 a2 [] [(.slice pa0 pn0 pc0)] [(.int .i64 c.2.1), (.slice pa1 pn1 pc1)] rfl rfl (fun _ => rfl)) _ (Chg.refl _ _))) ?_
  refine pl_yes (.int .i64 (c.1.length : Int)) (tg := 11) (by kernel_rfl) (congrArg Value.bool a0) (y_len' Sl41 (rs_len h0) rfl) ?_
  refine pl_yes (.pointer (some ⟨a3, 1, none⟩)) (tg := 11) (by kernel_rfl) (congrArg Value.bool a0) (y_faddr rfl Fa56x1) ?_
  refine pl_yes (.pointer (some ⟨a3, 1, none⟩)) (tg := 11) (by kernel_rfl) (congrArg Value.bool a0) (y_faddr rfl Fa54x0) ?_
  refine pl_yes (.int .i64 c.2.1) (tg := 11) (by kernel_rfl) (congrArg Value.bool a0) (y_load rfl ((box_load Ag3 Sz3 a2 [(.slice pa0 pn0 pc0)] [(.int .i64 c.2.1)] [(.slice pa1 pn1 pc1)] rfl rfl (fun _ => rfl)) _ (Chg.refl _ _))) ?_
  refine pl_yes (.bool ((c.1.length : Int) == c.2.1)) (tg := 11) (by kernel_rfl) (congrArg Value.bool a0) (y_eql rfl rfl) ?_
  refine pl_val (.bool ((c.1.length : Int) == c.2.1)) (y_pick_t (congrArg Value.bool a0) rfl) ?_
  refine pl_val (.bool ((c.1.length : Int) == c.2.1)) (y_move rfl) ?_
  rcases bif_some hs with ⟨a1, hs⟩ | ⟨a1, hs⟩
  ·skip
   refine pl_yes (.pointer (some ⟨a3, 0, none⟩)) (tg := 20) (by kernel_rfl) (congrArg Value.bool a1) (y_faddr rfl Fa56x0) ?_
   refine pl_yes (.slice pa0 pn0 pc0) (tg := 20) (by kernel_rfl) (congrArg Value.bool a1) (y_load rfl ((box_load Ag41 Sz41 a2 [] [(.slice pa0 pn0 pc0)] [(.int .i64 c.2.1), (.slice pa1 pn1 pc1)] rfl rfl (fun _ => rfl)) _ (Chg.refl _ _))) ?_
   refine pl_yes (.int .i64 vars) (tg := 20) (by kernel_rfl) (congrArg Value.bool a1) (y_move rfl) ?_
   obtain ⟨r9, b1, hs⟩ := bind_some hs
   refine pl_cally (tg := 20) (by kernel_rfl) (congrArg Value.bool a1) Bd71 rfl (c_impl_inSize (M := M) c.1 vars h0 hO.fut b1) ?_
   rintro _ b4 ⟨rfl, a5⟩
   have h0 := h0.ext a5
   have h1 := h1.ext a5
   have a2 := a2.cn a5
   have hC := hC.ext a5
   have hO := hO.ext a5
   refine pl_val (.bool r9) (y_pick_t (congrArg Value.bool a1) rfl) ?_
   refine pl_val (.bool r9) (y_assign rfl) ?_
   refine c_nil ?_
   refine wp_ret ?_
   cases hs
   exact ⟨_, fr_ovl 26 ⟨rfl, trivial⟩, hC⟩
  refine pl_not (tg := 20) (by kernel_rfl) (congrArg Value.bool a1) ?_
  refine pl_not (tg := 20) (by kernel_rfl) (congrArg Value.bool a1) ?_
  refine pl_not (tg := 20) (by kernel_rfl) (congrArg Value.bool a1) ?_
  refine pl_not (tg := 20) (by kernel_rfl) (congrArg Value.bool a1) ?_
  refine pl_val (.bool false) (y_pick_f (congrArg Value.bool a1) rfl) ?_
  refine pl_val (.bool false) (y_assign rfl) ?_
  refine c_nil ?_
  refine wp_ret ?_
  cases hs
  exact ⟨_, fr_ovl 26 ⟨rfl, trivial⟩, hC⟩
 refine pl_not (tg := 11) (by kernel_rfl) (congrArg Value.bool a0) ?_
 refine pl_not (tg := 11) (by kernel_rfl) (congrArg Value.bool a0) ?_
 refine pl_not (tg := 11) (by kernel_rfl) (congrArg Value.bool a0) ?_
 refine pl_not (tg := 11) (by kernel_rfl) (congrArg Value.bool a0) ?_
 refine pl_not (tg := 11) (by kernel_rfl) (congrArg Value.bool a0) ?_
 refine pl_not (tg := 11) (by kernel_rfl) (congrArg Value.bool a0) ?_
 refine pl_not (tg := 11) (by kernel_rfl) (congrArg Value.bool a0) ?_
 refine pl_val (.bool false) (y_pick_f (congrArg Value.bool a0) rfl) ?_
 refine pl_val (.bool false) (y_move rfl) ?_
 refine pl_not (tg := 20) (by kernel_rfl) (by rfl) ?_
 refine pl_not (tg := 20) (by kernel_rfl) (by rfl) ?_
 refine pl_not (tg := 20) (by kernel_rfl) (by rfl) ?_
 refine pl_not (tg := 20) (by kernel_rfl) (by rfl) ?_
 refine pl_val (.bool false) (y_pick_f (by rfl) rfl) ?_
 refine pl_val (.bool false) (y_assign rfl) ?_
 refine c_nil ?_
 refine wp_ret ?_
 cases hs
 exact ⟨_, fr_ovl 26 ⟨rfl, trivial⟩, hC⟩

theorem Bd103 : Bodied Try.prog 103 := bodied Try.func103 (by kernel_rfl) rfl

theorem Bd78 : Bodied Try.prog 78 := bodied Try.func78 (by kernel_rfl) rfl

def k_impl_IsNetwork (M : Nat → Prop) (w0 : World) (r : Bool) (a : Act) (w : World) : Prop :=
  ∃ (σ : Nat → Value) , a = fr 40 (ovl σ [(2, (.bool r))]) ∧ Chg [] w0 w
def s_impl_IsNetwork (net : Int × Int × (List ((List Int) × (Int × (List (List Int)))))) : Option (Bool) :=
  ((bif (decide (net.1 < 0)) then some true else (bif (decide (9 < net.1)) then some true else (s_impl_isTemplateSize net.2.1).bind fun r9 =>
  (bif (!r9) then some true else some (decide (40 < (net.2.2.length : Int))))))).bind fun s3 =>
  (bif s3 then some false else (forR (S := Unit) (R := Bool) (fun _ x24 s21 =>
  (s_impl_isConstraint net.1 net.2.1 (x24.1, (x24.2.1, x24.2.2))).bind fun r34 =>
  (bif (!r34) then some (.rt false) else some (.nx ()))) 0 net.2.2 ()).bind fun o25 => after o25 (fun r_ => some r_) (fun s21 =>
  some true))
set_option maxHeartbeats 4000000 in
theorem c_impl_IsNetwork {M : Nat → Prop} {w : World} {pa0 : Option Addr} {pn0 pc0 : Nat} (net : Int × Int × (List ((List Int) × (Int × (List (List Int)))))) (h0 : (RT.rs (RT.pr (RT.rs (RT.int .i64)) (RT.pr (RT.int .i64) (RT.rs (RT.rs (RT.int .i64)))))).val M w (.slice pa0 pn0 pc0) net.2.2 ([])) (hM : ∀ g, w.heap.size ≤ g → M g) {r : Bool} (hs : s_impl_IsNetwork net = some r) :
    Gives Try.prog 51 [(.agg #[(.int .i64 net.1), (.int .i64 net.2.1), (.slice pa0 pn0 pc0)])] w (fun v w' => v = (.bool r) ∧ Chg [] w w') := by
 refine calls_fr Try.func51 rfl Try.ntmps51 (Nat.le_of_ble_eq_true rfl) ?_
 have hO := Own.start (N := Nw w []) hM Nw.fut
 have hC := Chg.refl [] w
 unfold s_impl_IsNetwork at hs
 refine wp_mono (Q := KPost (k_impl_IsNetwork M w r)) ?_ (fun e a d2 h => ?_)
 rotate_left
 ·cases e
  case ret =>
   obtain ⟨σ, rfl, hrest⟩ := h
   exact ret1x Try.results51 (res_tmp rfl) ⟨rfl, hrest⟩
  all_goals exact (h : False).elim
 refine c_sr ?_
 obtain ⟨c1, a1, d3, c5, c2, a0⟩ := new_block w [(.int .i64 net.1), (.int .i64 net.2.1), (.slice pa0 pn0 pc0)] 30
 refine pl_val (w' := c1) (.pointer (some ⟨a1, 0, none⟩)) (y_box rfl (by rw [d3, c5]; kernel_rfl)) ?_
 have h0 := h0.ext c2
 have hC := hC.ext c2
 have hO := hO.new1 c2 c5 a0.lt
 refine pl_val (.bool false) (y_assign rfl) ?_
 refine c_nil ?_
 refine c_seq ?_
 refine c_seq ?_
 obtain ⟨s3, d4, hs⟩ := bind_some hs
 refine c_mid (I := fun a c6 => ∃ (σ : Nat → Value), a = fr 40 (ovl σ [(1, (.pointer (some ⟨a1, 0, none⟩))), (2, (.bool false)), (24, (.bool s3))]) ∧ Chg [] c1 c6) ?_ ?_
 ·replace hs := d4
  have hMid := Chg.refl [] c1
  refine c_region ?_
  refine pl_val (.pointer (some ⟨a1, 0, none⟩)) (y_faddr rfl Fa30x0) ?_
  refine pl_val (.int .i64 net.1) (y_load rfl ((box_load Ag3 Sz3 a0 [] [(.int .i64 net.1)] [(.int .i64 net.2.1), (.slice pa0 pn0 pc0)] rfl rfl (fun _ => rfl)) _ (Chg.refl _ _))) ?_
  refine pl_val (.bool (decide (net.1 < 0))) (y_lss rfl rfl) ?_
  refine pl_val (.bool (decide (net.1 < 0))) (y_move rfl) ?_
  rcases bif_some hs with ⟨a5, hs⟩ | ⟨a5, hs⟩
  ·skip
   refine pl_not (tg := 8) (by kernel_rfl) (congrArg Value.bool a5) ?_
   refine pl_not (tg := 8) (by kernel_rfl) (congrArg Value.bool a5) ?_
   refine pl_not (tg := 8) (by kernel_rfl) (congrArg Value.bool a5) ?_
   refine pl_val (.bool true) (y_pick_t (congrArg Value.bool a5) rfl) ?_
   refine pl_val (.bool true) (y_move rfl) ?_
   refine pl_not (tg := 13) (by kernel_rfl) (by rfl) ?_
   refine pl_not (tg := 13) (by kernel_rfl) (by rfl) ?_
   refine pl_not (tg := 13) (by kernel_rfl) (by rfl) ?_
   refine pl_not (tg := 13) (by kernel_rfl) (by rfl) ?_
   refine pl_val (.bool true) (y_pick_t (by rfl) rfl) ?_
   refine pl_val (.bool true) (y_move rfl) ?_
   refine pl_not (tg := 19) (by kernel_rfl) (by rfl) ?_
   refine pl_not (tg := 19) (by kernel_rfl) (by rfl) ?_
   refine pl_not (tg := 19) (by kernel_rfl) (by rfl) ?_
   refine pl_not (tg := 19) (by kernel_rfl) (by rfl) ?_
   refine pl_val (.bool true) (y_pick_t (by rfl) rfl) ?_
   refine c_nil ?_
   cases hs
   exact ⟨_, fr_ovl 40 ⟨rfl, rfl, rfl, trivial⟩, hMid⟩
  refine pl_yes (.pointer (some ⟨a1, 0, none⟩)) (tg := 8) (by kernel_rfl) (congrArg Value.bool a5) (y_faddr rfl Fa30x0) ?_
  refine pl_yes (.int .i64 net.1) (tg := 8) (by kernel_rfl) (congrArg Value.bool a5) (y_load rfl ((box_load Ag3 Sz3 a0 [] [(.int .i64 net.1)] [(.int .i64 net.2.1), (.slice pa0 pn0 pc0)] rfl rfl (fun _ => rfl)) _ (Chg.refl _ _))) ?_
  refine pl_yes (.bool (decide (9 < net.1))) (tg := 8) (by kernel_rfl) (congrArg Value.bool a5) (y_gtr rfl rfl) ?_
  refine pl_val (.bool (decide (9 < net.1))) (y_pick_f (congrArg Value.bool a5) rfl) ?_
  refine pl_val (.bool (decide (9 < net.1))) (y_move rfl) ?_
  rcases bif_some hs with ⟨a3, hs⟩ | ⟨a3, hs⟩
  ·skip
   refine pl_not (tg := 13) (by kernel_rfl) (congrArg Value.bool a3) ?_
   refine pl_not (tg := 13) (by kernel_rfl) (congrArg Value.bool a3) ?_
   refine pl_not (tg := 13) (by kernel_rfl) (congrArg Value.bool a3) ?_
   refine pl_not (tg := 13) (by kernel_rfl) (congrArg Value.bool a3) ?_
   refine pl_val (.bool true) (y_pick_t (congrArg Value.bool a3) rfl) ?_
   refine pl_val (.bool true) (y_move rfl) ?_
   refine pl_not (tg := 19) (by kernel_rfl) (by rfl) ?_
   refine pl_not (tg := 19) (by kernel_rfl) (by rfl) ?_
   refine pl_not (tg := 19) (by kernel_rfl) (by rfl) ?_
   refine pl_not (tg := 19) (by kernel_rfl) (by rfl) ?_
   refine pl_val (.bool true) (y_pick_t (by rfl) rfl) ?_
   refine c_nil ?_
   cases hs
   exact ⟨_, fr_ovl 40 ⟨rfl, rfl, rfl, trivial⟩, hMid⟩
  refine pl_yes (.pointer (some ⟨a1, 1, none⟩)) (tg := 13) (by kernel_rfl) (congrArg Value.bool a3) (y_faddr rfl Fa30x1) ?_
  refine pl_yes (.int .i64 net.2.1) (tg := 13) (by kernel_rfl) (congrArg Value.bool a3) (y_load rfl ((box_load Ag3 Sz3 a0 [(.int .i64 net.1)] [(.int .i64 net.2.1)] [(.slice pa0 pn0 pc0)] rfl rfl (fun _ => rfl)) _ (Chg.refl _ _))) ?_
  obtain ⟨r9, d5, hs⟩ := bind_some hs
  refine pl_cally (tg := 13) (by kernel_rfl) (congrArg Value.bool a3) Bd103 rfl (c_impl_isTemplateSize (M := M) net.2.1  hO.fut d5) ?_
  rintro _ f3 ⟨rfl, b2⟩
  have h0 := h0.ext b2
  have a0 := a0.cn b2
  have hMid := hMid.ext b2
  have hC := hC.ext b2
  have hO := hO.ext b2
  refine pl_yes (.bool (!r9)) (tg := 13) (by kernel_rfl) (congrArg Value.bool a3) (y_not rfl) ?_
  refine pl_val (.bool (!r9)) (y_pick_f (congrArg Value.bool a3) rfl) ?_
  refine pl_val (.bool (!r9)) (y_move rfl) ?_
  rcases bif_some hs with ⟨a4, hs⟩ | ⟨a4, hs⟩
  ·skip
   refine pl_not (tg := 19) (by kernel_rfl) (congrArg Value.bool a4) ?_
   refine pl_not (tg := 19) (by kernel_rfl) (congrArg Value.bool a4) ?_
   refine pl_not (tg := 19) (by kernel_rfl) (congrArg Value.bool a4) ?_
   refine pl_not (tg := 19) (by kernel_rfl) (congrArg Value.bool a4) ?_
   refine pl_val (.bool true) (y_pick_t (congrArg Value.bool a4) rfl) ?_
   refine c_nil ?_
   cases hs
   exact ⟨_, fr_ovl 40 ⟨rfl, rfl, rfl, trivial⟩, hMid⟩
  refine pl_yes (.pointer (some ⟨a1, 2, none⟩)) (tg := 19) (by kernel_rfl) (congrArg Value.bool a4) (y_faddr rfl Fa30x2) ?_
  refine pl_yes (.slice pa0 pn0 pc0) (tg := 19) (by kernel_rfl) (congrArg Value.bool a4) (y_load rfl ((box_load Ag28 Sz28 a0 [(.int .i64 net.1), (.int .i64 net.2.1)] [(.slice pa0 pn0 pc0)] [] rfl rfl (fun _ => rfl)) _ (Chg.refl _ _))) ?_
  refine pl_yes (.int .i64 (net.2.2.length : Int)) (tg := 19) (by kernel_rfl) (congrArg Value.bool a4) (y_len' Sl28 (rs_len h0) rfl) ?_
  refine pl_yes (.bool (decide (40 < (net.2.2.length : Int)))) (tg := 19) (by kernel_rfl) (congrArg Value.bool a4) (y_gtr rfl rfl) ?_
  refine pl_val (.bool (decide (40 < (net.2.2.length : Int)))) (y_pick_f (congrArg Value.bool a4) rfl) ?_
  refine c_nil ?_
  cases hs
  exact ⟨_, fr_ovl 40 ⟨rfl, rfl, rfl, trivial⟩, hMid⟩
 rintro c7 c6 ⟨σ, rfl, c0⟩
 have h0 := h0.ext c0
 have a0 := a0.cn c0
 have hC := hC.ext c0
 have hO := hO.ext c0
 rcases bif_some hs with ⟨c3, hs⟩ | ⟨c3, hs⟩
 ·refine c_condT (congrArg Value.bool c3) ?_
  refine c_sr ?_
  refine pl_val (.bool false) (y_assign rfl) ?_
  refine c_nil ?_
  refine wp_ret ?_
  cases hs
  exact ⟨_, fr_ovl 40 ⟨rfl, trivial⟩, hC⟩
 refine c_condF (congrArg Value.bool c3) ?_
 refine wp_skip ?_
 refine c_seq ?_
 refine c_sr ?_
 refine pl_val (.pointer (some ⟨a1, 2, none⟩)) (y_faddr rfl Fa30x2) ?_
 refine pl_val (.slice pa0 pn0 pc0) (y_load rfl ((box_load Ag28 Sz28 a0 [(.int .i64 net.1), (.int .i64 net.2.1)] [(.slice pa0 pn0 pc0)] [] rfl rfl (fun _ => rfl)) _ (Chg.refl _ _))) ?_
 refine pl_val (.int .i64 (net.2.2.length : Int)) (y_len' Sl28 (rs_len h0) rfl) ?_
 refine pl_val (.int .i64 0) (y_move rfl) ?_
 refine c_nil ?_
 obtain ⟨o25, d6, hs⟩ := bind_some hs
 refine wp_block ?_
 refine wp_forR (id := 0) (I := fun i_ xs_ s21 a a2 => ∃ a6 : Nat, i_ = (a6 : Int) ∧ List.drop a6 net.2.2 = xs_ ∧ (∃ (σ : Nat → Value), a = fr 40 (ovl σ [(1, (.pointer (some ⟨a1, 0, none⟩))), (26, (.slice pa0 pn0 pc0)), (27, (.int .i64 (net.2.2.length : Int))), (28, (.int .i64 (a6 : Int)))]) ∧ Chg [] w a2 ∧ Own (Nw w []) M a2 (([a1]) ++ []) ∧ (RT.rs (RT.pr (RT.rs (RT.int .i64)) (RT.pr (RT.int .i64) (RT.rs (RT.rs (RT.int .i64)))))).val M a2 (.slice pa0 pn0 pc0) net.2.2 ([]) ∧ BoxV a2 a1 30 [(.int .i64 net.1), (.int .i64 net.2.1), (.slice pa0 pn0 pc0)])) (J := fun s21 a a2 => ∃ (σ : Nat → Value), a = fr 40 (ovl σ []) ∧ Chg [] w a2 ∧ Own (Nw w []) M a2 (([a1]) ++ []) ∧ (RT.rs (RT.pr (RT.rs (RT.int .i64)) (RT.pr (RT.int .i64) (RT.rs (RT.rs (RT.int .i64)))))).val M a2 (.slice pa0 pn0 pc0) net.2.2 ([]) ∧ BoxV a2 a1 30 [(.int .i64 net.1), (.int .i64 net.2.1), (.slice pa0 pn0 pc0)]) (K := (k_impl_IsNetwork M w)) ?_ ?_ net.2.2 0 () o25 _ _ ?_ d6 ?_
 ·rintro _ s21 a a2 ⟨a6, rfl, hd, σ, rfl, hC, hO, h0, a0⟩
  have hlt := drop_nil_ge hd
  refine c_sr ?_
  refine pl_val (.bool (decide ((a6 : Int) < (net.2.2.length : Int)))) (y_lss rfl rfl) ?_
  refine c_nil ?_
  refine c_seq ?_
  refine c_condF (congrArg Value.bool (decide_eq_false hlt)) ?_
  refine wp_exit ?_
  exact ⟨rfl, _, fr_ovl 40 trivial, hC, hO, h0, a0⟩
 ·rintro _ x24 xs_ s21 o25 a a2 ⟨a6, rfl, hd, σ, rfl, hC, hO, h0, a0⟩ hs
  have hlt := drop_cons_lt hd
  have d7 := drop_cons_idx hd
  refine c_sr ?_
  refine pl_val (.bool (decide ((a6 : Int) < (net.2.2.length : Int)))) (y_lss rfl rfl) ?_
  refine c_nil ?_
  refine c_seq ?_
  refine c_condT (congrArg Value.bool (decide_eq_true hlt)) ?_
  refine wp_skip ?_
  refine c_seq ?_
  refine wp_block ?_
  refine c_sr ?_
  obtain ⟨d8, d9, e0, e1⟩ := rs_idx Sl28 Sz56 h0 d7
  refine pl_val (.pointer (some ⟨d8, d9, none⟩)) (e0 _ _ _ _ _ _ _ _ _ rfl rfl) ?_
  obtain ⟨f4, e2, e3⟩ := at_load Ag56 Sz56 (by intro h; cases h) e1
  obtain ⟨f5, rfl, e4⟩ := e3
  obtain ⟨f6, f7, rfl, e5, e6⟩ := pr_open e4
  obtain ⟨b3, b4, b5, rfl, a7⟩ := rs_rel e5
  obtain ⟨f8, f9, rfl, e7, e8⟩ := pr_open e6
  obtain rfl := int_rel e7
  obtain ⟨b6, b7, b8, rfl, a8⟩ := rs_rel e8
  refine pl_val (.agg #[(.slice b3 b4 b5), (.int .i64 x24.2.1), (.slice b6 b7 b8)]) (y_load rfl (e2 _ (Chg.refl _ _))) ?_
  obtain ⟨e9, c8, f0, c9, b0, d0⟩ := new_block a2 [(.slice none 0 0), (.int .i64 0), (.slice none 0 0)] 56
  refine pl_val (w' := e9) (.pointer (some ⟨c8, 0, none⟩)) (y_alloc (by rw [f0, c9]; kernel_rfl)) ?_
  have h0 := h0.ext b0
  have a0 := a0.cn b0
  have a7 := a7.ext b0
  have a8 := a8.ext b0
  have hC := hC.ext b0
  have hO := hO.new1 b0 c9 d0.lt
  obtain ⟨d1, f1, b1, b9⟩ := box_store (P := Try.prog) d0 [] [(.slice none 0 0), (.int .i64 0), (.slice none 0 0)] [] [(.slice b3 b4 b5), (.int .i64 x24.2.1), (.slice b6 b7 b8)] rfl rfl (by intro u hu; simp only [List.mem_cons, List.not_mem_nil, or_false] at hu; rcases hu with rfl | rfl | rfl <;> rfl)
  refine pl_skip (w' := d1) (ys_store rfl rfl (f1 _ _ rfl Sz56)) ?_
  have h0 := h0.mt b1 hO same_
  have a0 := a0.ap b1 hO same_ (mem_l (List.mem_singleton.2 rfl))
  have a7 := a7.mt b1 hO same_
  have a8 := a8.mt b1 hO same_
  have hC := hC.st b1 hO same_
  have hO := hO.ext b1
  have b9 : BoxV d1 c8 56 [(.slice b3 b4 b5), (.int .i64 x24.2.1), (.slice b6 b7 b8)] := b9
  refine c_nil ?_
  refine c_sr ?_
  refine pl_val (.pointer (some ⟨a1, 0, none⟩)) (y_faddr rfl Fa30x0) ?_
  refine pl_val (.int .i64 net.1) (y_load rfl ((box_load Ag3 Sz3 a0 [] [(.int .i64 net.1)] [(.int .i64 net.2.1), (.slice pa0 pn0 pc0)] rfl rfl (fun _ => rfl)) _ (Chg.refl _ _))) ?_
  refine pl_val (.pointer (some ⟨a1, 1, none⟩)) (y_faddr rfl Fa30x1) ?_
  refine pl_val (.int .i64 net.2.1) (y_load rfl ((box_load Ag3 Sz3 a0 [(.int .i64 net.1)] [(.int .i64 net.2.1)] [(.slice pa0 pn0 pc0)] rfl rfl (fun _ => rfl)) _ (Chg.refl _ _))) ?_
  refine pl_val (.agg #[(.slice b3 b4 b5), (.int .i64 x24.2.1), (.slice b6 b7 b8)]) (y_load rfl ((box_load Ag56 Sz56 b9 [] [(.slice b3 b4 b5), (.int .i64 x24.2.1), (.slice b6 b7 b8)] [] rfl rfl (fun h => nomatch h)) _ (Chg.refl _ _))) ?_
  obtain ⟨r34, f2, hs⟩ := bind_some hs
  refine pl_call Bd78 rfl (c_impl_isConstraint (M := M) net.1 net.2.1 (x24.1, (x24.2.1, x24.2.2)) a7 a8 hO.fut f2) ?_
  rintro _ g0 ⟨rfl, a9⟩
  have h0 := h0.ext a9
  have a0 := a0.cn a9
  have a7 := a7.ext a9
  have a8 := a8.ext a9
  have b9 := b9.cn a9
  have hC := hC.ext a9
  have hO := hO.ext a9
  refine pl_val (.bool (!r34)) (y_not rfl) ?_
  refine c_nil ?_
  rcases bif_some hs with ⟨c4, hs⟩ | ⟨c4, hs⟩
  ·refine c_condT (congrArg Value.bool c4) ?_
   refine c_sr ?_
   refine pl_val (.bool false) (y_assign rfl) ?_
   refine c_nil ?_
   refine wp_ret ?_
   cases hs
   exact ⟨_, fr_ovl 40 ⟨rfl, trivial⟩, hC⟩
  refine c_condF (congrArg Value.bool c4) ?_
  refine wp_skip ?_
  refine c_region ?_
  refine pl_val (.int .i64 (w64 ((a6 : Int) + 1))) (y_add rfl rfl) ?_
  refine pl_val (.int .i64 (w64 ((a6 : Int) + 1))) (y_move rfl) ?_
  refine c_nil ?_
  cases hs
  have hO := hO.drop
  exact ⟨_, rfl, drop_cons_next hd, _, fr_ovl 40 ⟨rfl, rfl, rfl, congrArg (Value.int .i64) (w64_succ hlt (Int.natCast_nonneg _) (rs_max h0)), trivial⟩, hC, hO, h0, a0⟩
 ·skip
  exact ⟨0, rfl, rfl, _, fr_ovl 40 ⟨rfl, rfl, rfl, rfl, trivial⟩, hC, hO, h0, a0⟩
 cases o25 with
 | nx _ => exact True.intro
 | rt r_ =>
  have hs := after_rt hs
  intro c7 d2 hK
  cases hs
  exact hK
 | br s21 =>
  have hs := after_br hs
  rintro c7 a2 ⟨σ, rfl, hC, hO, h0, a0⟩
  refine c_sr ?_
  refine pl_val (.bool true) (y_assign rfl) ?_
  refine c_nil ?_
  refine wp_ret ?_
  cases hs
  exact ⟨_, fr_ovl 40 ⟨rfl, trivial⟩, hC⟩

def k_impl_rises (M : Nat → Prop) (w0 : World) (r : Bool) (a : Act) (w : World) : Prop :=
  ∃ (σ : Nat → Value) , a = fr 20 (ovl σ [(2, (.bool r))]) ∧ Chg [] w0 w
def s_impl_rises (list : List Int) : Option (Bool) :=
  (forC (S := Unit) (R := Bool) (fun k10 s8 =>
  (idx list (w64 (k10 - 1))).bind fun x15 =>
  (idx list k10).bind fun x17 =>
  (bif (decide (x17 ≤ x15)) then some (.rt false) else some (.nx ()))) 1 (list.length : Int) ()).bind fun o12 => after o12 (fun r_ => some r_) (fun s8 =>
  some true)
set_option maxHeartbeats 4000000 in
theorem c_impl_rises {M : Nat → Prop} {w : World} {pa0 : Option Addr} {pn0 pc0 : Nat} (list : List Int) (h0 : (RT.rs (RT.int .i64)).val M w (.slice pa0 pn0 pc0) list ([])) (hM : ∀ g, w.heap.size ≤ g → M g) {r : Bool} (hs : s_impl_rises list = some r) :
    Gives Try.prog 70 [(.slice pa0 pn0 pc0)] w (fun v w' => v = (.bool r) ∧ Chg [] w w') := by
 refine calls_fr Try.func70 rfl Try.ntmps70 (Nat.le_of_ble_eq_true rfl) ?_
 have hO := Own.start (N := Nw w []) hM Nw.fut
 have hC := Chg.refl [] w
 unfold s_impl_rises at hs
 refine wp_mono (Q := KPost (k_impl_rises M w r)) ?_ (fun e a a3 h => ?_)
 rotate_left
 ·cases e
  case ret =>
   obtain ⟨σ, rfl, hrest⟩ := h
   exact ret1x Try.results70 (res_tmp rfl) ⟨rfl, hrest⟩
  all_goals exact (h : False).elim
 refine c_sr ?_
 refine pl_val (.bool false) (y_assign rfl) ?_
 refine c_nil ?_
 refine c_seq ?_
 refine c_sr ?_
 refine pl_val (.int .i64 1) (y_assign rfl) ?_
 refine c_nil ?_
 obtain ⟨o12, a4, hs⟩ := bind_some hs
 refine wp_block ?_
 refine wp_forC (id := 0) (list.length : Int) (I := fun k10 s8 a a0 => ∃ (σ : Nat → Value), a = fr 20 (ovl σ [(0, (.slice pa0 pn0 pc0)), (3, (.int .i64 k10))]) ∧ Chg [] w a0 ∧ Own (Nw w []) M a0 ([]) ∧ (RT.rs (RT.int .i64)).val M a0 (.slice pa0 pn0 pc0) list ([])) (J := fun s8 a a0 => ∃ (σ : Nat → Value), a = fr 20 (ovl σ []) ∧ Chg [] w a0 ∧ Own (Nw w []) M a0 ([]) ∧ (RT.rs (RT.int .i64)).val M a0 (.slice pa0 pn0 pc0) list ([])) (K := (k_impl_rises M w)) ?_ ?_ 1 () o12 _ _ ?_ a4 ?_
 ·rintro k10 s8 a a0 ⟨σ, rfl, hC, hO, h0⟩ hlt
  refine c_seq ?_
  refine c_sr ?_
  refine pl_val (.int .i64 k10) (y_move rfl) ?_
  refine pl_val (.slice pa0 pn0 pc0) (y_move rfl) ?_
  refine pl_val (.int .i64 (list.length : Int)) (y_len' Sl41 (rs_len h0) rfl) ?_
  refine pl_val (.bool (decide (k10 < (list.length : Int)))) (y_lss rfl rfl) ?_
  refine c_nil ?_
  refine c_condF (congrArg Value.bool (decide_eq_false hlt)) ?_
  refine wp_exit ?_
  exact ⟨rfl, _, fr_ovl 20 trivial, hC, hO, h0⟩
 ·rintro k10 s8 o12 a a0 ⟨σ, rfl, hC, hO, h0⟩ hlt hw hs
  refine c_seq ?_
  refine c_sr ?_
  refine pl_val (.int .i64 k10) (y_move rfl) ?_
  refine pl_val (.slice pa0 pn0 pc0) (y_move rfl) ?_
  refine pl_val (.int .i64 (list.length : Int)) (y_len' Sl41 (rs_len h0) rfl) ?_
  refine pl_val (.bool (decide (k10 < (list.length : Int)))) (y_lss rfl rfl) ?_
  refine c_nil ?_
  refine c_condT (congrArg Value.bool (decide_eq_true hlt)) ?_
  refine wp_skip ?_
  refine c_seq ?_
  refine wp_block ?_
  refine c_seq ?_
  refine x_start [] Mx rfl ?_
  have a1 := Chg.drew a0
  generalize World.drew a0 = a5 at a1 ⊢
  have h0 := h0.ext a1
  have hC := hC.ext a1
  have hO := hO.ext a1
  have hS := Chg.refl [] a5
  refine x_p 0 (.slice pa0 pn0 pc0) rfl (by kernel_rfl)  (fun _ => y_move rfl) (fun _ => hS) ?_
  refine x_p 1 (.int .i64 k10) rfl (by kernel_rfl)  (fun _ => y_move rfl) (fun _ => hS) ?_
  refine x_p 2 (.int .i64 (w64 (k10 - 1))) rfl (by kernel_rfl)  (fun _ => y_sub rfl rfl) (fun _ => hS) ?_
  obtain ⟨x15, a6, hs⟩ := bind_some hs
  obtain ⟨a7, a8, a9, b0⟩ := rs_idx Sl41 Sz3 h0 a6
  refine x_p 3 (.pointer (some ⟨a7, a8, none⟩)) rfl (by kernel_rfl)  (fun _ => a9 _ _ _ _ _ _ _ _ _ rfl rfl) (fun _ => hS) ?_
  refine x_l 4 (.int .i64 x15) rfl (by kernel_rfl)  (fun w' hw' => y_load rfl ((at_load_int Ag3 Sz3 b0) w' hw')) hS ?_
  refine x_p 5 (.slice pa0 pn0 pc0) rfl (by kernel_rfl)  (fun _ => y_move rfl) (fun _ => hS) ?_
  refine x_p 6 (.int .i64 k10) rfl (by kernel_rfl)  (fun _ => y_move rfl) (fun _ => hS) ?_
  obtain ⟨x17, b1, hs⟩ := bind_some hs
  obtain ⟨b2, b3, b4, b5⟩ := rs_idx Sl41 Sz3 h0 b1
  refine x_p 7 (.pointer (some ⟨b2, b3, none⟩)) rfl (by kernel_rfl)  (fun _ => b4 _ _ _ _ _ _ _ _ _ rfl rfl) (fun _ => hS) ?_
  refine x_l 8 (.int .i64 x17) rfl (by kernel_rfl)  (fun w' hw' => y_load rfl ((at_load_int Ag3 Sz3 b5) w' hw')) hS ?_
  refine x_p 9 (.bool (decide (x17 ≤ x15))) rfl (by kernel_rfl)  (fun _ => y_geq rfl rfl) (fun _ => hS) ?_
  refine x_end (by kernel_rfl) ?_
  clear hS
  rcases bif_some hs with ⟨a2, hs⟩ | ⟨a2, hs⟩
  ·refine c_condT (congrArg Value.bool a2) ?_
   refine c_sr ?_
   refine pl_val (.bool false) (y_assign rfl) ?_
   refine c_nil ?_
   refine wp_ret ?_
   cases hs
   exact ⟨_, fr_ovl 20 ⟨rfl, trivial⟩, hC⟩
  refine c_condF (congrArg Value.bool a2) ?_
  refine wp_skip ?_
  refine c_region ?_
  refine pl_val (.int .i64 k10) (y_move rfl) ?_
  refine pl_val (.int .i64 (w64 (k10 + 1))) (y_add rfl rfl) ?_
  refine pl_val (.int .i64 (w64 (k10 + 1))) (y_assign rfl) ?_
  refine c_nil ?_
  cases hs
  exact ⟨_, fr_ovl 20 ⟨rfl, congrArg (Value.int .i64) hw, trivial⟩, hC, hO, h0⟩
 ·skip
  exact ⟨_, fr_ovl 20 ⟨rfl, rfl, trivial⟩, hC, hO, h0⟩
 cases o12 with
 | nx _ => exact True.intro
 | rt r_ =>
  have hs := after_rt hs
  intro b6 a3 hK
  cases hs
  exact hK
 | br s8 =>
  have hs := after_br hs
  rintro b6 a0 ⟨σ, rfl, hC, hO, h0⟩
  refine c_sr ?_
  refine pl_val (.bool true) (y_assign rfl) ?_
  refine c_nil ?_
  refine wp_ret ?_
  cases hs
  exact ⟨_, fr_ovl 20 ⟨rfl, trivial⟩, hC⟩

def k_impl_partOf (M : Nat → Prop) (w0 : World) (r : (Int × Int × (List ((List Int) × (Int × (List (List Int))))))) (a : Act) (w : World) : Prop :=
  ∃ (σ : Nat → Value) (rg4 : Nat) (ra0 : Option Addr) (rn0 rc0 : Nat), a = fr 31 (ovl σ [(4, (.pointer (some ⟨rg4, 0, none⟩)))]) ∧ BoxV w rg4 30 [(.int .i64 r.1), (.int .i64 r.2.1), (.slice ra0 rn0 rc0)] ∧ Chg [] w0 w ∧ (RT.rs (RT.pr (RT.rs (RT.int .i64)) (RT.pr (RT.int .i64) (RT.rs (RT.rs (RT.int .i64)))))).val (Past M w0 w) w (.slice ra0 rn0 rc0) r.2.2 []
def s_impl_partOf (net : Int × Int × (List ((List Int) × (Int × (List (List Int)))))) (indices : List Int) : Option ((Int × Int × (List ((List Int) × (Int × (List (List Int))))))) :=
  (forR (S := (List ((List Int) × (Int × (List (List Int)))))) (R := (Int × Int × (List ((List Int) × (Int × (List (List Int))))))) (fun _ x59 s56 =>
  (idx net.2.2 x59).bind fun x70 =>
  (app s56 ([(x70.1, (x70.2.1, x70.2.2))])).bind fun y78 =>
  some (.nx y78)) 0 indices ([])).bind fun o60 => after o60 (fun r_ => some r_) (fun s56 =>
  some (net.1, net.2.1, s56))
set_option maxHeartbeats 4000000 in
theorem c_impl_partOf {M : Nat → Prop} {w : World} {pa0 : Option Addr} {pn0 pc0 : Nat} {pa1 : Option Addr} {pn1 pc1 : Nat} (net : Int × Int × (List ((List Int) × (Int × (List (List Int)))))) (indices : List Int) (h0 : (RT.rs (RT.pr (RT.rs (RT.int .i64)) (RT.pr (RT.int .i64) (RT.rs (RT.rs (RT.int .i64)))))).val M w (.slice pa0 pn0 pc0) net.2.2 ([])) (h1 : (RT.rs (RT.int .i64)).val M w (.slice pa1 pn1 pc1) indices ([])) (hM : ∀ g, w.heap.size ≤ g → M g) {r : (Int × Int × (List ((List Int) × (Int × (List (List Int))))))} (hs : s_impl_partOf net indices = some r) :
    Gives Try.prog 73 [(.agg #[(.int .i64 net.1), (.int .i64 net.2.1), (.slice pa0 pn0 pc0)]), (.slice pa1 pn1 pc1)] w (fun v w' => ∃ (ra0 : Option Addr) (rn0 rc0 : Nat), v = (.agg #[(.int .i64 r.1), (.int .i64 r.2.1), (.slice ra0 rn0 rc0)]) ∧ Chg [] w w' ∧ (RT.rs (RT.pr (RT.rs (RT.int .i64)) (RT.pr (RT.int .i64) (RT.rs (RT.rs (RT.int .i64)))))).val (Past M w w') w' (.slice ra0 rn0 rc0) r.2.2 []) := by
 refine calls_fr Try.func73 rfl Try.ntmps73 (Nat.le_of_ble_eq_true rfl) ?_
 have hO := Own.start (N := Nw w []) hM Nw.fut
 have hC := Chg.refl [] w
 unfold s_impl_partOf at hs
 refine wp_mono (Q := KPost (k_impl_partOf M w r)) ?_ (fun e a f9 h => ?_)
 rotate_left
 ·cases e
  case ret =>
   obtain ⟨σ, rg4, ra0, rn0, rc0, rfl, hbrg4, hrest⟩ := h
   exact ret1x Try.results73 (res_cell rfl (box_load Ag30 Sz30 hbrg4 [] _ [] rfl rfl (fun h => nomatch h))) ⟨ra0, rn0, rc0, rfl, hrest⟩
  all_goals exact (h : False).elim
 refine c_sr ?_
 obtain ⟨e6, a7, g0, e7, d0, a0⟩ := new_block w [(.int .i64 net.1), (.int .i64 net.2.1), (.slice pa0 pn0 pc0)] 30
 refine pl_val (w' := e6) (.pointer (some ⟨a7, 0, none⟩)) (y_box rfl (by rw [g0, e7]; kernel_rfl)) ?_
 have h0 := h0.ext d0
 have h1 := h1.ext d0
 have hC := hC.ext d0
 have hO := hO.new1 d0 e7 a0.lt
 obtain ⟨e8, a8, g1, e9, c7, a2⟩ := new_block e6 [(.int .i64 0), (.int .i64 0), (.slice none 0 0)] 30
 refine pl_val (w' := e8) (.pointer (some ⟨a8, 0, none⟩)) (y_alloc (by rw [g1, e9]; kernel_rfl)) ?_
 have h0 := h0.ext c7
 have h1 := h1.ext c7
 have a0 := a0.cn c7
 have hC := hC.ext c7
 have hO := hO.new1 c7 e9 a2.lt
 refine c_nil ?_
 refine c_sr ?_
 refine pl_val (.pointer (some ⟨a7, 0, none⟩)) (y_faddr rfl Fa30x0) ?_
 refine pl_val (.int .i64 net.1) (y_load rfl ((box_load Ag3 Sz3 a0 [] [(.int .i64 net.1)] [(.int .i64 net.2.1), (.slice pa0 pn0 pc0)] rfl rfl (fun _ => rfl)) _ (Chg.refl _ _))) ?_
 refine pl_val (.pointer (some ⟨a7, 1, none⟩)) (y_faddr rfl Fa30x1) ?_
 refine pl_val (.int .i64 net.2.1) (y_load rfl ((box_load Ag3 Sz3 a0 [(.int .i64 net.1)] [(.int .i64 net.2.1)] [(.slice pa0 pn0 pc0)] rfl rfl (fun _ => rfl)) _ (Chg.refl _ _))) ?_
 refine pl_val (.agg #[(.int .i64 net.1), (.int .i64 net.2.1), (.slice none 0 0)]) (y_build rfl (by kernel_rfl)) ?_
 obtain ⟨g2, a5, g3, f0, c4, f1⟩ := new_block e8 [(.int .i64 0), (.int .i64 0), (.slice none 0 0)] 30
 refine pl_val (w' := g2) (.pointer (some ⟨a5, 0, none⟩)) (y_alloc (by rw [g3, f0]; kernel_rfl)) ?_
 have h0 := h0.ext c4
 have h1 := h1.ext c4
 have a0 := a0.cn c4
 have a2 := a2.cn c4
 have hC := hC.ext c4
 have hO := hO.new1 c4 f0 f1.lt
 obtain ⟨f2, g4, c5, a3⟩ := box_store (P := Try.prog) f1 [] [(.int .i64 0), (.int .i64 0), (.slice none 0 0)] [] [(.int .i64 net.1), (.int .i64 net.2.1), (.slice none 0 0)] rfl rfl (by intro u hu; simp only [List.mem_cons, List.not_mem_nil, or_false] at hu; rcases hu with rfl | rfl | rfl <;> rfl)
 refine pl_skip (w' := f2) (ys_store rfl rfl (g4 _ _ rfl Sz30)) ?_
 have h0 := h0.mt c5 hO same_
 have h1 := h1.mt c5 hO same_
 have a0 := a0.ap c5 hO same_ (mem_r (mem_l (List.mem_singleton.2 rfl)))
 have a2 := a2.ap c5 hO same_ (mem_l (List.mem_singleton.2 rfl))
 have hC := hC.st c5 hO same_
 have hO := hO.ext c5
 have a3 : BoxV f2 a5 30 [(.int .i64 net.1), (.int .i64 net.2.1), (.slice none 0 0)] := a3
 refine c_nil ?_
 refine c_seq ?_
 refine c_sr ?_
 refine pl_val (.slice pa1 pn1 pc1) (y_move rfl) ?_
 refine pl_val (.int .i64 (indices.length : Int)) (y_len' Sl41 (rs_len h1) rfl) ?_
 refine pl_val (.int .i64 0) (y_move rfl) ?_
 refine c_nil ?_
 obtain ⟨o60, g5, hs⟩ := bind_some hs
 refine wp_block ?_
 refine wp_forR (id := 0) (I := fun i_ xs_ s56 a a1 => ∃ a9 : Nat, i_ = (a9 : Int) ∧ List.drop a9 indices = xs_ ∧ (∃ (σ : Nat → Value) (a6 : Nat → Prop) (b3 : Option Addr) (b4 : Nat) (b5 : Nat) (c8 : List Nat), a = fr 31 (ovl σ [(2, (.pointer (some ⟨a7, 0, none⟩))), (4, (.pointer (some ⟨a8, 0, none⟩))), (5, (.pointer (some ⟨a5, 0, none⟩))), (13, (.slice pa1 pn1 pc1)), (14, (.int .i64 (indices.length : Int))), (15, (.int .i64 (a9 : Int)))]) ∧ Chg [] w a1 ∧ Own (Nw w []) a6 a1 (c8 ++ (([a5]) ++ (([a8]) ++ (([a7]) ++ [])))) ∧ Keeps w M a6 ∧ (RT.rs (RT.pr (RT.rs (RT.int .i64)) (RT.pr (RT.int .i64) (RT.rs (RT.rs (RT.int .i64)))))).val a6 a1 (.slice pa0 pn0 pc0) net.2.2 ([]) ∧ (RT.rs (RT.int .i64)).val a6 a1 (.slice pa1 pn1 pc1) indices ([]) ∧ BoxV a1 a7 30 [(.int .i64 net.1), (.int .i64 net.2.1), (.slice pa0 pn0 pc0)] ∧ BoxV a1 a8 30 [(.int .i64 0), (.int .i64 0), (.slice none 0 0)] ∧ BoxV a1 a5 30 [(.int .i64 net.1), (.int .i64 net.2.1), (.slice b3 b4 b5)] ∧ (RT.os 56 (RT.pr (RT.rs (RT.int .i64)) (RT.pr (RT.int .i64) (RT.rs (RT.rs (RT.int .i64)))))).val a6 a1 (.slice b3 b4 b5) s56 c8)) (J := fun s56 a a1 => ∃ (σ : Nat → Value) (c6 : Nat → Prop) (b6 : Option Addr) (b7 : Nat) (b8 : Nat) (d4 : List Nat), a = fr 31 (ovl σ [(4, (.pointer (some ⟨a8, 0, none⟩))), (5, (.pointer (some ⟨a5, 0, none⟩)))]) ∧ Chg [] w a1 ∧ Own (Nw w []) c6 a1 (d4 ++ (([a5]) ++ (([a8]) ++ (([a7]) ++ [])))) ∧ Keeps w M c6 ∧ (RT.rs (RT.pr (RT.rs (RT.int .i64)) (RT.pr (RT.int .i64) (RT.rs (RT.rs (RT.int .i64)))))).val c6 a1 (.slice pa0 pn0 pc0) net.2.2 ([]) ∧ (RT.rs (RT.int .i64)).val c6 a1 (.slice pa1 pn1 pc1) indices ([]) ∧ BoxV a1 a7 30 [(.int .i64 net.1), (.int .i64 net.2.1), (.slice pa0 pn0 pc0)] ∧ BoxV a1 a8 30 [(.int .i64 0), (.int .i64 0), (.slice none 0 0)] ∧ BoxV a1 a5 30 [(.int .i64 net.1), (.int .i64 net.2.1), (.slice b6 b7 b8)] ∧ (RT.os 56 (RT.pr (RT.rs (RT.int .i64)) (RT.pr (RT.int .i64) (RT.rs (RT.rs (RT.int .i64)))))).val c6 a1 (.slice b6 b7 b8) s56 d4) (K := (k_impl_partOf M w)) ?_ ?_ indices 0 ([]) o60 _ _ ?_ g5 ?_
 ·rintro _ s56 a a1 ⟨a9, rfl, hd, σ, a6, b3, b4, b5, c8, rfl, hC, hO, hK, h0, h1, a0, a2, a3, b9⟩
  have hlt := drop_nil_ge hd
  refine c_sr ?_
  refine pl_val (.bool (decide ((a9 : Int) < (indices.length : Int)))) (y_lss rfl rfl) ?_
  refine c_nil ?_
  refine c_seq ?_
  refine c_condF (congrArg Value.bool (decide_eq_false hlt)) ?_
  refine wp_exit ?_
  have hO := hO.fr3
  have hO := hO.fr3
  have hO := hO.fr3
  have hO := hO.fr3
  exact ⟨rfl, _, a6, b3, b4, b5, c8, fr_ovl 31 ⟨rfl, rfl, trivial⟩, hC, hO, hK, h0, h1, a0, a2, a3, b9⟩
 ·rintro _ x59 xs_ s56 o60 a a1 ⟨a9, rfl, hd, σ, a6, b3, b4, b5, c8, rfl, hC, hO, hK, h0, h1, a0, a2, a3, b9⟩ hs
  have hlt := drop_cons_lt hd
  have g6 := drop_cons_idx hd
  refine c_sr ?_
  refine pl_val (.bool (decide ((a9 : Int) < (indices.length : Int)))) (y_lss rfl rfl) ?_
  refine c_nil ?_
  refine c_seq ?_
  refine c_condT (congrArg Value.bool (decide_eq_true hlt)) ?_
  refine wp_skip ?_
  refine c_seq ?_
  refine wp_block ?_
  refine c_sr ?_
  obtain ⟨g7, g8, g9, h2⟩ := rs_idx Sl41 Sz3 h1 g6
  refine pl_val (.pointer (some ⟨g7, g8, none⟩)) (g9 _ _ _ _ _ _ _ _ _ rfl rfl) ?_
  refine pl_val (.int .i64 x59) (y_load rfl ((at_load_int Ag3 Sz3 h2) _ (Chg.refl _ _))) ?_
  refine pl_val (.int .i64 x59) (y_assign rfl) ?_
  refine c_nil ?_
  refine x_start [8, 10] Mx rfl ?_
  have b0 := Chg.drew a1
  generalize World.drew a1 = f3 at b0 ⊢
  have h0 := h0.ext b0
  have h1 := h1.ext b0
  have a0 := a0.cn b0
  have a2 := a2.cn b0
  have a3 := a3.cn b0
  have b9 := b9.ext b0
  have hC := hC.ext b0
  have hO := hO.ext b0
  have hS := Chg.refl [] f3
  refine x_p 0 (.pointer (some ⟨a5, 2, none⟩)) rfl (by kernel_rfl)  (fun _ => y_faddr rfl Fa30x2) (fun _ => hS) ?_
  refine x_l 1 (.slice b3 b4 b5) rfl (by kernel_rfl)  (fun w' hw' => y_load rfl ((box_load Ag28 Sz28 a3 [(.int .i64 net.1), (.int .i64 net.2.1)] [(.slice b3 b4 b5)] [] rfl rfl (fun _ => rfl)) w' hw')) hS ?_
  refine x_p 2 (.pointer (some ⟨a7, 2, none⟩)) rfl (by kernel_rfl)  (fun _ => y_faddr rfl Fa30x2) (fun _ => hS) ?_
  refine x_l 3 (.slice pa0 pn0 pc0) rfl (by kernel_rfl)  (fun w' hw' => y_load rfl ((box_load Ag28 Sz28 a0 [(.int .i64 net.1), (.int .i64 net.2.1)] [(.slice pa0 pn0 pc0)] [] rfl rfl (fun _ => rfl)) w' hw')) hS ?_
  refine x_p 4 (.int .i64 x59) rfl (by kernel_rfl)  (fun _ => y_move rfl) (fun _ => hS) ?_
  obtain ⟨x70, h3, hs⟩ := bind_some hs
  obtain ⟨h4, h5, h6, h7⟩ := rs_idx Sl28 Sz56 h0 h3
  refine x_p 5 (.pointer (some ⟨h4, h5, none⟩)) rfl (by kernel_rfl)  (fun _ => h6 _ _ _ _ _ _ _ _ _ rfl rfl) (fun _ => hS) ?_
  obtain ⟨j7, h8, h9⟩ := at_load Ag56 Sz56 (by intro h; cases h) h7
  obtain ⟨j8, rfl, i0⟩ := h9
  obtain ⟨j9, k0, rfl, i1, i2⟩ := pr_open i0
  obtain ⟨d5, d6, d7, rfl, c1⟩ := rs_rel i1
  obtain ⟨k1, k2, rfl, i3, i4⟩ := pr_open i2
  obtain rfl := int_rel i3
  obtain ⟨d8, d9, e0, rfl, c2⟩ := rs_rel i4
  refine x_l 6 (.agg #[(.slice d5 d6 d7), (.int .i64 x70.2.1), (.slice d8 d9 e0)]) rfl (by kernel_rfl)  (fun w' hw' => y_load rfl (h8 w' hw')) hS ?_
  refine x_one (i := 7) (by kernel_rfl) ?_
  obtain ⟨f4, e1, i5, f5, a4, f6⟩ := new_block f3 [(.slice d5 d6 d7), (.int .i64 x70.2.1), (.slice d8 d9 e0)] 56
  refine xk_val (w' := f4) (b := false) (.slice (some ⟨e1, 0, none⟩) 1 1) rfl  (y_bslice rfl (by rw [i5, f5]; kernel_rfl)) rfl (fun _ => hS.ext a4) ?_
  have h0 := h0.ext a4
  have h1 := h1.ext a4
  have a0 := a0.cn a4
  have a2 := a2.cn a4
  have a3 := a3.cn a4
  have b9 := b9.ext a4
  have c1 := c1.ext a4
  have c2 := c2.ext a4
  have hC := hC.ext a4
  have hO := hO.new1 a4 f5 f6.lt
  have e2 := os_of_box (r := (RT.pr (RT.rs (RT.int .i64)) (RT.pr (RT.int .i64) (RT.rs (RT.rs (RT.int .i64)))))) (M := a6) (css := [[(.slice d5 d6 d7), (.int .i64 x70.2.1), (.slice d8 d9 e0)]]) (fps := [([] : List Nat)]) (xs := ([(x70.1, (x70.2.1, x70.2.2))] : List ((List Int) × (Int × (List (List Int)))))) f6 ⟨⟨_, _, _, _, rfl, rfl, (rs_unval c1), ⟨_, _, _, _, rfl, rfl, ⟨rfl, rfl⟩, (rs_unval c2)⟩⟩, trivial⟩ (Nat.le_of_ble_eq_true rfl) (List.nodup_cons.2 ⟨(fun h => nomatch h), List.nodup_nil⟩)
  have e2 : (RT.os 56 (RT.pr (RT.rs (RT.int .i64)) (RT.pr (RT.int .i64) (RT.rs (RT.rs (RT.int .i64)))))).val a6 f4 (.slice (some ⟨e1, 0, none⟩) 1 1) [(x70.1, (x70.2.1, x70.2.2))] [e1] := e2
  have hS := hS.ext a4
  refine x_one (i := 8) (by kernel_rfl) ?_
  obtain ⟨y78, i6, hs⟩ := bind_some hs
  have hO := hO.fr1
  obtain ⟨d1, d2, d3, i7, i9, j0, b1, j1, c9⟩ := app_os Rw28 i6 b9 e2 hO.inM (fun g hg hq => hO.apart g hq (mem_l hg))
  have c0 := os_block b9
  refine xk_val (w' := i7) (b := true) (.slice d1 d2 d3) rfl  (y_append rfl rfl (j0 _)) rfl (fun h => nomatch h) ?_
  have hO := hO.fr1
  have hO := hO.fr1
  have h0 := h0.mt b1 hO c0
  have h1 := h1.mt b1 hO c0
  have a0 := a0.ap b1 hO c0 (mem_r (mem_r (mem_r (mem_l (List.mem_singleton.2 rfl)))))
  have a2 := a2.ap b1 hO c0 (mem_r (mem_r (mem_l (List.mem_singleton.2 rfl))))
  have a3 := a3.ap b1 hO c0 (mem_r (mem_l (List.mem_singleton.2 rfl)))
  have c1 := c1.mt b1 hO c0
  have c2 := c2.mt b1 hO c0
  have hC := hC.st b1 hO c0
  have hO := hO.eat b1 j1 (os_nodup c9) c9.fpl
  refine x_p 9 (.pointer (some ⟨a5, 2, none⟩)) rfl (by kernel_rfl)  (fun _ => y_faddr rfl Fa30x2) (fun h => nomatch h) ?_
  refine x_one (i := 10) (by kernel_rfl) ?_
  obtain ⟨f7, j2, b2, e3⟩ := box_store (P := Try.prog) a3 [(.int .i64 net.1), (.int .i64 net.2.1)] [(.slice b3 b4 b5)] [] [(.slice d1 d2 d3)] rfl rfl (by intro u hu; simp only [List.mem_cons, List.not_mem_nil, or_false] at hu; rcases hu with rfl <;> rfl)
  refine xk_skip (w' := f7) (b := true) rfl (ys_store rfl rfl (j2 _ _ rfl Sz28)) rfl (fun h => nomatch h) ?_
  have hO := hO.fr1
  have h0 := h0.mt b2 hO same_
  have h1 := h1.mt b2 hO same_
  have a0 := a0.ap b2 hO same_ (mem_r (mem_r (mem_l (List.mem_singleton.2 rfl))))
  have a2 := a2.ap b2 hO same_ (mem_r (mem_l (List.mem_singleton.2 rfl)))
  have c1 := c1.mt b2 hO same_
  have c2 := c2.mt b2 hO same_
  have c9 := c9.ma b2 hO same_ (fun _ e => (mem_l (e)))
  have hC := hC.st b2 hO same_
  have hO := hO.ext b2
  have e3 : BoxV f7 a5 30 [(.int .i64 net.1), (.int .i64 net.2.1), (.slice d1 d2 d3)] := e3
  refine x_end (by kernel_rfl) ?_
  clear hS
  refine c_region ?_
  refine pl_val (.int .i64 (w64 ((a9 : Int) + 1))) (y_add rfl rfl) ?_
  refine pl_val (.int .i64 (w64 ((a9 : Int) + 1))) (y_move rfl) ?_
  refine c_nil ?_
  cases hs
  have hO := hO.fr3
  have hO := hO.fr3
  have hO := hO.fr2
  have hO := hO.fr3
  exact ⟨_, rfl, drop_cons_next hd, _, a6, d1, d2, d3, i9, fr_ovl 31 ⟨rfl, rfl, rfl, rfl, rfl, congrArg (Value.int .i64) (w64_succ hlt (Int.natCast_nonneg _) (rs_max h1)), trivial⟩, hC, hO, hK, h0, h1, a0, a2, e3, c9⟩
 ·skip
  have hO := hO.fr2
  have hO := hO.fr2
  have hO := hO.fr2
  have hO := hO.nil
  exact ⟨0, rfl, rfl, _, M, none, 0, 0, [], fr_ovl 31 ⟨rfl, rfl, rfl, rfl, rfl, rfl, trivial⟩, hC, hO, Keeps.refl, h0, h1, a0, a2, a3, os_nil⟩
 cases o60 with
 | nx _ => exact True.intro
 | rt r_ =>
  have hs := after_rt hs
  intro j3 f9 hK
  cases hs
  exact hK
 | br s56 =>
  have hs := after_br hs
  rintro j3 a1 ⟨σ, c6, b6, b7, b8, d4, rfl, hC, hO, hK, h0, h1, a0, a2, a3, e4⟩
  refine c_sr ?_
  refine pl_val (.agg #[(.int .i64 net.1), (.int .i64 net.2.1), (.slice b6 b7 b8)]) (y_load rfl ((box_load Ag30 Sz30 a3 [] [(.int .i64 net.1), (.int .i64 net.2.1), (.slice b6 b7 b8)] [] rfl rfl (fun h => nomatch h)) _ (Chg.refl _ _))) ?_
  obtain ⟨f8, j4, c3, e5⟩ := box_store (P := Try.prog) a2 [] [(.int .i64 0), (.int .i64 0), (.slice none 0 0)] [] [(.int .i64 net.1), (.int .i64 net.2.1), (.slice b6 b7 b8)] rfl rfl (by intro u hu; simp only [List.mem_cons, List.not_mem_nil, or_false] at hu; rcases hu with rfl | rfl | rfl <;> rfl)
  refine pl_skip (w' := f8) (ys_store rfl rfl (j4 _ _ rfl Sz30)) ?_
  have hO := hO.fr2
  have h0 := h0.mt c3 hO same_
  have h1 := h1.mt c3 hO same_
  have a0 := a0.ap c3 hO same_ (mem_r (mem_r (mem_l (List.mem_singleton.2 rfl))))
  have a3 := a3.ap c3 hO same_ (mem_r (mem_l (List.mem_singleton.2 rfl)))
  have e4 := e4.ma c3 hO same_ (fun _ e => (mem_l (e)))
  have hC := hC.st c3 hO same_
  have hO := hO.ext c3
  have e5 : BoxV f8 a8 30 [(.int .i64 net.1), (.int .i64 net.2.1), (.slice b6 b7 b8)] := e5
  refine c_nil ?_
  refine wp_ret ?_
  cases hs
  have hO := hO.fr1
  obtain ⟨k3, k4, k5, j5, hO, j6⟩ := frz_own (Frz.os (Frz.pr (Frz.rs Frz.int) (Frz.pr Frz.int (Frz.rs (Frz.rs Frz.int))))) e4 hO
  have hK := hK.trans j5
  exact ⟨_, a8, b6, b7, b8, fr_ovl 31 ⟨rfl, trivial⟩, e5, hC, (Keeps.out hK j6)⟩

def k_impl_freeTable (M : Nat → Prop) (w0 : World) (r : (List Int)) (a : Act) (w : World) : Prop :=
  ∃ (σ : Nat → Value) (ra0 : Option Addr) (rn0 rc0 : Nat) (rf0 : List Nat), a = fr 17 (ovl σ [(2, (.slice ra0 rn0 rc0))]) ∧ Chg [] w0 w ∧ (RT.os 3 (RT.int .i64)).val M w (.slice ra0 rn0 rc0) r rf0 ∧ Own (Nw w0 []) (fun _ => True) w (rf0 ++ ([]))
def s_impl_freeTable (many : Int) : Option ((List Int)) :=
  (mks many (0 : Int)).bind fun y2 =>
  (forC (S := (List Int)) (R := (List Int)) (fun k13 s11 =>
  (idx s11 k13).bind fun x19 =>
  some (.nx (List.set s11 (Int.toNat k13) (-1)))) 0 (y2.length : Int) y2).bind fun o15 => after o15 (fun r_ => some r_) (fun s11 =>
  some s11)
set_option maxHeartbeats 4000000 in
theorem c_impl_freeTable {M : Nat → Prop} {w : World}  (many : Int)  (hM : ∀ g, w.heap.size ≤ g → M g) {r : (List Int)} (hs : s_impl_freeTable many = some r) :
    Gives Try.prog 64 [(.int .i64 many)] w (fun v w' => ∃ (ra0 : Option Addr) (rn0 rc0 : Nat) (rf0 : List Nat), v = (.slice ra0 rn0 rc0) ∧ Chg [] w w' ∧ (RT.os 3 (RT.int .i64)).val M w' (.slice ra0 rn0 rc0) r rf0 ∧ Own (Nw w []) (fun _ => True) w' (rf0 ++ ([]))) := by
 refine calls_fr Try.func64 rfl Try.ntmps64 (Nat.le_of_ble_eq_true rfl) ?_
 have hO := Own.start (N := Nw w []) hM Nw.fut
 have hC := Chg.refl [] w
 unfold s_impl_freeTable at hs
 refine wp_mono (Q := KPost (k_impl_freeTable M w r)) ?_ (fun e a a8 h => ?_)
 rotate_left
 ·cases e
  case ret =>
   obtain ⟨σ, ra0, rn0, rc0, rf0, rfl, hrest⟩ := h
   exact ret1x Try.results64 (res_tmp rfl) ⟨ra0, rn0, rc0, rf0, rfl, hrest⟩
  all_goals exact (h : False).elim
 refine c_sr ?_
 refine pl_val (.slice none 0 0) (y_assign rfl) ?_
 refine c_nil ?_
 refine c_sr ?_
 refine pl_val (.int .i64 many) (y_move rfl) ?_
 obtain ⟨y2, b4, hs⟩ := bind_some hs
 obtain ⟨a0, a1, a2, a8, b5, b6, b0, b7, a6⟩ := mk_os (M := M) (w := w) (r := (RT.int .i64)) Rw41 b4 (fun _ _ => ⟨rfl, rfl⟩)
 refine pl_val (w' := a8) (.slice a0 a1 a2) (y_make rfl rfl b6) ?_
 have hC := hC.ext b0
 have hO := hO.new b0 b7 (os_nodup a6) a6.fpl
 refine pl_val (.slice a0 a1 a2) (y_assign rfl) ?_
 refine c_nil ?_
 refine c_seq ?_
 refine c_sr ?_
 refine pl_val (.slice a0 a1 a2) (y_move rfl) ?_
 refine pl_val (.int .i64 (y2.length : Int)) (y_len' Sl41 (os_len a6) rfl) ?_
 refine pl_val (.int .i64 0) (y_move rfl) ?_
 refine c_nil ?_
 obtain ⟨o15, b8, hs⟩ := bind_some hs
 refine wp_block ?_
 refine wp_forC (id := 0) (y2.length : Int) (I := fun k13 s11 a a3 => ∃ (σ : Nat → Value) (a4 : List Nat), a = fr 17 (ovl σ [(3, (.slice a0 a1 a2)), (8, (.int .i64 (y2.length : Int))), (9, (.int .i64 k13))]) ∧ Chg [] w a3 ∧ Own (Nw w []) M a3 (a4 ++ []) ∧ (RT.os 3 (RT.int .i64)).val M a3 (.slice a0 a1 a2) s11 a4) (J := fun s11 a a3 => ∃ (σ : Nat → Value) (a7 : List Nat), a = fr 17 (ovl σ [(3, (.slice a0 a1 a2))]) ∧ Chg [] w a3 ∧ Own (Nw w []) M a3 (a7 ++ []) ∧ (RT.os 3 (RT.int .i64)).val M a3 (.slice a0 a1 a2) s11 a7) (K := (k_impl_freeTable M w)) ?_ ?_ 0 y2 o15 _ _ ?_ b8 ?_
 ·rintro k13 s11 a a3 ⟨σ, a4, rfl, hC, hO, a5⟩ hlt
  refine c_sr ?_
  refine pl_val (.bool (decide (k13 < (y2.length : Int)))) (y_lss rfl rfl) ?_
  refine c_nil ?_
  refine c_seq ?_
  refine c_condF (congrArg Value.bool (decide_eq_false hlt)) ?_
  refine wp_exit ?_
  exact ⟨rfl, _, a4, fr_ovl 17 ⟨rfl, trivial⟩, hC, hO, a5⟩
 ·rintro k13 s11 o15 a a3 ⟨σ, a4, rfl, hC, hO, a5⟩ hlt hw hs
  refine c_sr ?_
  refine pl_val (.bool (decide (k13 < (y2.length : Int)))) (y_lss rfl rfl) ?_
  refine c_nil ?_
  refine c_seq ?_
  refine c_condT (congrArg Value.bool (decide_eq_true hlt)) ?_
  refine wp_skip ?_
  refine c_seq ?_
  refine wp_block ?_
  refine c_sr ?_
  refine pl_val (.int .i64 k13) (y_move rfl) ?_
  refine pl_val (.int .i64 k13) (y_assign rfl) ?_
  refine c_nil ?_
  refine c_region ?_
  refine pl_val (.slice a0 a1 a2) (y_move rfl) ?_
  refine pl_val (.int .i64 k13) (y_move rfl) ?_
  obtain ⟨x19, b9, hs⟩ := bind_some hs
  obtain ⟨b1, c8, b2, c0, c1, c9, d0⟩ := os_idx Sl41 Sz3 a5 b9
  refine pl_val (.pointer (some ⟨b1, 0 + Int.toNat k13 * 1, none⟩)) (c1 _ _ _ _ _ _ _ _ _ rfl rfl) ?_
  obtain ⟨c2, c3, c4, b3, c5, a9⟩ := os_store (P := Try.prog) (c' := [(.int .i64 (-1))]) b2 a5 c0 (fun g hg => hO.inM g (os_block a5 g (by simpa using hg))) ⟨rfl, rfl⟩ List.nodup_nil (fun _ h => nomatch h) (fun _ h => .inl h)
  have c6 : ∀ q ∈ [b1], q ∈ a4 := fun q hq => os_block a5 q (by rw [b2]; exact hq)
  refine pl_skip (w' := c2) (ys_store rfl rfl (c4 _ _ rfl Sz3)) ?_
  have hC := hC.st b3 hO c6
  have hO := hO.grow b3 (fun q hq => .inl ((c5 q hq).resolve_right (fun h => nomatch h))) (os_nodup a9) a9.fpl
  refine c_nil ?_
  refine c_region ?_
  refine pl_val (.int .i64 (w64 (k13 + 1))) (y_add rfl rfl) ?_
  refine pl_val (.int .i64 (w64 (k13 + 1))) (y_move rfl) ?_
  refine c_nil ?_
  cases hs
  exact ⟨_, c3, fr_ovl 17 ⟨rfl, rfl, congrArg (Value.int .i64) hw, trivial⟩, hC, hO, a9⟩
 ·skip
  exact ⟨_, b5, fr_ovl 17 ⟨rfl, rfl, rfl, trivial⟩, hC, hO, a6⟩
 cases o15 with
 | nx _ => exact True.intro
 | rt r_ =>
  have hs := after_rt hs
  intro a0 a8 hK
  cases hs
  exact hK
 | br s11 =>
  have hs := after_br hs
  rintro a0 a3 ⟨σ, a7, rfl, hC, hO, c7⟩
  refine c_sr ?_
  refine pl_val (.slice a0 a1 a2) (y_move rfl) ?_
  refine pl_val (.slice a0 a1 a2) (y_assign rfl) ?_
  refine c_nil ?_
  refine wp_ret ?_
  cases hs
  exact ⟨_, a0, a1, a2, a7, fr_ovl 17 ⟨rfl, trivial⟩, hC, c7, hO.top⟩

theorem Rw152 : RowT Try.prog 152 5 1 [(.int .u8 0)] := ⟨Try.underlying152, ⟨_, _, rfl, rfl, rfl, rfl, by decide⟩, rfl, by decide⟩

end Go.Proofs
