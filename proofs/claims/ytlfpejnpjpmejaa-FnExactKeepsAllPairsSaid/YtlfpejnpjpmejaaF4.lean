/- What functions of the program compute, as plain functions, and that a call gives just that. Conditions: those named in each theorem. -/
import Derived.Test.YtlfpejnpjpmejaaF3
set_option linter.unusedVariables false
namespace Go.Proofs
open Go.G Go.RowKit
set_option maxRecDepth 100000

def k_impl_compareLists (M : Nat → Prop) (w0 : World) (r : Int) (a : Act) (w : World) : Prop :=
  ∃ (σ : Nat → Value) , a = fr 48 (ovl σ [(4, (.int .i64 r))]) ∧ Chg [] w0 w
def s_impl_compareLists (s_ : List Int) (t : List Int) : Option (Int) :=
  (iter (S := Int) (R := Int) (fun s25 =>
  (bif ((decide (s25 < (s_.length : Int))) && (decide (s25 < (t.length : Int)))) then (idx s_ s25).bind fun x42 =>
  (idx t s25).bind fun x44 =>
  (bif (x42 != x44) then (idx s_ s25).bind fun x48 =>
  (idx t s25).bind fun x50 =>
  (bif (decide (x48 < x50)) then some (.rt (-1)) else some (.rt 1)) else some (.nx (w64 (s25 + 1)))) else some (.br s25))) FU 0).bind fun o29 => after o29 (fun r_ => some r_) (fun s25 =>
  (bif (decide ((s_.length : Int) < (t.length : Int))) then some (-1) else (bif (decide ((t.length : Int) < (s_.length : Int))) then some 1 else some 0)))
set_option maxHeartbeats 4000000 in
theorem c_impl_compareLists {M : Nat → Prop} {w : World} {pa0 : Option Addr} {pn0 pc0 : Nat} {pa1 : Option Addr} {pn1 pc1 : Nat} (s_ : List Int) (t : List Int) (h0 : (RT.rs (RT.int .i64)).val M w (.slice pa0 pn0 pc0) s_ ([])) (h1 : (RT.rs (RT.int .i64)).val M w (.slice pa1 pn1 pc1) t ([])) (hM : ∀ g, w.heap.size ≤ g → M g) {r : Int} (hs : s_impl_compareLists s_ t = some r) :
    Gives Try.prog 96 [(.slice pa0 pn0 pc0), (.slice pa1 pn1 pc1)] w (fun v w' => v = (.int .i64 r) ∧ Chg [] w w') := by
 refine calls_fr Try.func96 rfl Try.ntmps96 (Nat.le_of_ble_eq_true rfl) ?_
 have hO := Own.start (N := Nw w []) hM Nw.fut
 have hC := Chg.refl [] w
 unfold s_impl_compareLists at hs
 refine wp_mono (Q := KPost (k_impl_compareLists M w r)) ?_ (fun e a w1 h => ?_)
 rotate_left
 ·cases e
  case ret =>
   obtain ⟨σ, rfl, hrest⟩ := h
   exact ret1x Try.results96 (res_tmp rfl) ⟨rfl, hrest⟩
  all_goals exact (h : False).elim
 refine c_seq (c_region ?_)
 refine pl_val (.int .i64 0) (y_assign rfl) ?_
 refine c_nil ?_
 refine c_seq ?_
 refine c_seq (c_region ?_)
 refine pl_val (.int .i64 0) (y_assign rfl) ?_
 refine c_nil ?_
 obtain ⟨o29, hl30, hs⟩ := bind_some hs
 refine wp_block ?_
 refine wp_iter (id := 0) (I := fun s25 a w26 => ∃ (σ : Nat → Value), a = fr 48 (ovl σ [(0, (.slice pa0 pn0 pc0)), (1, (.slice pa1 pn1 pc1)), (5, (.int .i64 s25))]) ∧ Chg [] w w26 ∧ Own (Nw w []) M w26 ([]) ∧ (RT.rs (RT.int .i64)).val M w26 (.slice pa0 pn0 pc0) s_ ([]) ∧ (RT.rs (RT.int .i64)).val M w26 (.slice pa1 pn1 pc1) t ([])) (J := fun s25 a w26 => ∃ (σ : Nat → Value), a = fr 48 (ovl σ [(0, (.slice pa0 pn0 pc0)), (1, (.slice pa1 pn1 pc1))]) ∧ Chg [] w w26 ∧ Own (Nw w []) M w26 ([]) ∧ (RT.rs (RT.int .i64)).val M w26 (.slice pa0 pn0 pc0) s_ ([]) ∧ (RT.rs (RT.int .i64)).val M w26 (.slice pa1 pn1 pc1) t ([])) (K := (k_impl_compareLists M w)) ?_ FU 0 o29 _ _ ?_ hl30 ?_
 ·rintro s25 o29 a w26 ⟨σ, rfl, hC, hO, h0, h1⟩ hs
  refine c_seq ?_
  refine c_seq ?_
  refine c_mid (I := fun a w32 => ∃ (σ : Nat → Value), a = fr 48 (ovl σ [(0, (.slice pa0 pn0 pc0)), (1, (.slice pa1 pn1 pc1)), (5, (.int .i64 s25)), (15, (.bool ((decide (s25 < (s_.length : Int))) && (decide (s25 < (t.length : Int))))))]) ∧ Chg [] w26 w32) ?_ ?_
  ·have hMid := Chg.refl [] w26
   refine c_region ?_
   refine pl_val (.int .i64 s25) (y_move rfl) ?_
   refine pl_val (.slice pa0 pn0 pc0) (y_move rfl) ?_
   refine pl_val (.int .i64 (s_.length : Int)) (y_len' Sl25 (rs_len h0) rfl) ?_
   refine pl_val (.bool (decide (s25 < (s_.length : Int)))) (y_lss rfl rfl) ?_
   refine pl_val (.bool (decide (s25 < (s_.length : Int)))) (y_move rfl) ?_
   rcases Bool.eq_false_or_eq_true ((decide (s25 < (s_.length : Int)))) with hc34 | hc34
   ·skip
    refine pl_yes (.int .i64 s25) (tg := 10) (by kernel_rfl) (congrArg Value.bool hc34) (y_move rfl) ?_
    refine pl_yes (.slice pa1 pn1 pc1) (tg := 10) (by kernel_rfl) (congrArg Value.bool hc34) (y_move rfl) ?_
    refine pl_yes (.int .i64 (t.length : Int)) (tg := 10) (by kernel_rfl) (congrArg Value.bool hc34) (y_len' Sl25 (rs_len h1) rfl) ?_
    refine pl_yes (.bool (decide (s25 < (t.length : Int)))) (tg := 10) (by kernel_rfl) (congrArg Value.bool hc34) (y_lss rfl rfl) ?_
    refine pl_val (.bool ((decide (s25 < (s_.length : Int))) && (decide (s25 < (t.length : Int))))) (y_pick_t (congrArg Value.bool hc34) (congrArg Value.bool (by rw [hc34]; rfl))) ?_
    refine c_nil ?_
    exact ⟨_, fr_ovl 48 ⟨rfl, rfl, rfl, rfl, trivial⟩, hMid⟩
   ·skip
    refine pl_not (tg := 10) (by kernel_rfl) (congrArg Value.bool hc34) ?_
    refine pl_not (tg := 10) (by kernel_rfl) (congrArg Value.bool hc34) ?_
    refine pl_not (tg := 10) (by kernel_rfl) (congrArg Value.bool hc34) ?_
    refine pl_not (tg := 10) (by kernel_rfl) (congrArg Value.bool hc34) ?_
    refine pl_val (.bool ((decide (s25 < (s_.length : Int))) && (decide (s25 < (t.length : Int))))) (y_pick_f (congrArg Value.bool hc34) (congrArg Value.bool (by rw [hc34]; rfl))) ?_
    refine c_nil ?_
    exact ⟨_, fr_ovl 48 ⟨rfl, rfl, rfl, rfl, trivial⟩, hMid⟩
  ·rintro a1 w32 ⟨σ, rfl, hCs31⟩
   have h0 := h0.ext hCs31
   have h1 := h1.ext hCs31
   have hC := hC.ext hCs31
   have hO := hO.ext hCs31
   rcases bif_some hs with ⟨hc35, hs⟩ | ⟨hc35, hs⟩
   ·skip
    refine c_condT (congrArg Value.bool hc35) ?_
    refine wp_skip ?_
    refine c_seq ?_
    refine wp_block ?_
    refine c_seq ?_
    refine x_start [] Mx rfl ?_
    have hCw41 := Chg.drew w32
    generalize World.drew w32 = w41 at hCw41 ⊢
    have h0 := h0.ext hCw41
    have h1 := h1.ext hCw41
    have hC := hC.ext hCw41
    have hO := hO.ext hCw41
    have hS := Chg.refl [] w41
    refine x_p 0 (.slice pa0 pn0 pc0) rfl (by kernel_rfl)  (fun _ => y_move rfl) (fun _ => hS) ?_
    refine x_p 1 (.int .i64 s25) rfl (by kernel_rfl)  (fun _ => y_move rfl) (fun _ => hS) ?_
    obtain ⟨x42, hx42, hs⟩ := bind_some hs
    obtain ⟨b43, o43, hp43, ha43⟩ := rs_idx Sl25 Sz3 h0 hx42
    refine x_p 2 (.pointer (some ⟨b43, o43, none⟩)) rfl (by kernel_rfl)  (fun _ => hp43 _ _ _ _ _ _ _ _ _ rfl rfl) (fun _ => hS) ?_
    refine x_l 3 (.int .i64 x42) rfl (by kernel_rfl)  (fun w' hw' => y_load rfl ((at_load_int Ag3 Sz3 ha43) w' hw')) hS ?_
    refine x_p 4 (.slice pa1 pn1 pc1) rfl (by kernel_rfl)  (fun _ => y_move rfl) (fun _ => hS) ?_
    refine x_p 5 (.int .i64 s25) rfl (by kernel_rfl)  (fun _ => y_move rfl) (fun _ => hS) ?_
    obtain ⟨x44, hx44, hs⟩ := bind_some hs
    obtain ⟨b45, o45, hp45, ha45⟩ := rs_idx Sl25 Sz3 h1 hx44
    refine x_p 6 (.pointer (some ⟨b45, o45, none⟩)) rfl (by kernel_rfl)  (fun _ => hp45 _ _ _ _ _ _ _ _ _ rfl rfl) (fun _ => hS) ?_
    refine x_l 7 (.int .i64 x44) rfl (by kernel_rfl)  (fun w' hw' => y_load rfl ((at_load_int Ag3 Sz3 ha45) w' hw')) hS ?_
    refine x_p 8 (.bool (x42 != x44)) rfl (by kernel_rfl)  (fun _ => y_neq rfl rfl) (fun _ => hS) ?_
    refine x_end (by kernel_rfl) ?_
    clear hS
    rcases bif_some hs with ⟨hc46, hs⟩ | ⟨hc46, hs⟩
    ·skip
     refine c_condT (congrArg Value.bool hc46) ?_
     refine c_seq ?_
     refine c_seq ?_
     refine x_start [] Mx rfl ?_
     have hCw47 := Chg.drew w41
     generalize World.drew w41 = w47 at hCw47 ⊢
     have h0 := h0.ext hCw47
     have h1 := h1.ext hCw47
     have hC := hC.ext hCw47
     have hO := hO.ext hCw47
     have hS := Chg.refl [] w47
     refine x_p 0 (.slice pa0 pn0 pc0) rfl (by kernel_rfl)  (fun _ => y_move rfl) (fun _ => hS) ?_
     refine x_p 1 (.int .i64 s25) rfl (by kernel_rfl)  (fun _ => y_move rfl) (fun _ => hS) ?_
     obtain ⟨x48, hx48, hs⟩ := bind_some hs
     obtain ⟨b49, o49, hp49, ha49⟩ := rs_idx Sl25 Sz3 h0 hx48
     refine x_p 2 (.pointer (some ⟨b49, o49, none⟩)) rfl (by kernel_rfl)  (fun _ => hp49 _ _ _ _ _ _ _ _ _ rfl rfl) (fun _ => hS) ?_
     refine x_l 3 (.int .i64 x48) rfl (by kernel_rfl)  (fun w' hw' => y_load rfl ((at_load_int Ag3 Sz3 ha49) w' hw')) hS ?_
     refine x_p 4 (.slice pa1 pn1 pc1) rfl (by kernel_rfl)  (fun _ => y_move rfl) (fun _ => hS) ?_
     refine x_p 5 (.int .i64 s25) rfl (by kernel_rfl)  (fun _ => y_move rfl) (fun _ => hS) ?_
     obtain ⟨x50, hx50, hs⟩ := bind_some hs
     obtain ⟨b51, o51, hp51, ha51⟩ := rs_idx Sl25 Sz3 h1 hx50
     refine x_p 6 (.pointer (some ⟨b51, o51, none⟩)) rfl (by kernel_rfl)  (fun _ => hp51 _ _ _ _ _ _ _ _ _ rfl rfl) (fun _ => hS) ?_
     refine x_l 7 (.int .i64 x50) rfl (by kernel_rfl)  (fun w' hw' => y_load rfl ((at_load_int Ag3 Sz3 ha51) w' hw')) hS ?_
     refine x_p 8 (.bool (decide (x48 < x50))) rfl (by kernel_rfl)  (fun _ => y_lss rfl rfl) (fun _ => hS) ?_
     refine x_end (by kernel_rfl) ?_
     clear hS
     rcases bif_some hs with ⟨hc52, hs⟩ | ⟨hc52, hs⟩
     ·skip
      refine c_condT (congrArg Value.bool hc52) ?_
      refine c_seq (c_region ?_)
      refine pl_val (.int .i64 (-1)) (y_assign rfl) ?_
      refine c_nil ?_
      refine wp_ret ?_
      cases hs
      exact ⟨_, fr_ovl 48 ⟨rfl, trivial⟩, hC⟩
     ·skip
      refine c_condF (congrArg Value.bool hc52) ?_
      refine wp_skip ?_
      refine c_seq (c_region ?_)
      refine pl_val (.int .i64 1) (y_assign rfl) ?_
      refine c_nil ?_
      refine wp_ret ?_
      cases hs
      exact ⟨_, fr_ovl 48 ⟨rfl, trivial⟩, hC⟩
    ·skip
     refine c_condF (congrArg Value.bool hc46) ?_
     refine wp_skip ?_
     refine c_region ?_
     refine pl_val (.int .i64 s25) (y_move rfl) ?_
     refine pl_val (.int .i64 (w64 (s25 + 1))) (y_add rfl rfl) ?_
     refine pl_val (.int .i64 (w64 (s25 + 1))) (y_assign rfl) ?_
     refine c_nil ?_
     cases hs
     exact ⟨_, fr_ovl 48 ⟨rfl, rfl, rfl, trivial⟩, hC, hO, h0, h1⟩
   ·skip
    refine c_condF (congrArg Value.bool hc35) ?_
    refine wp_exit ?_
    cases hs
    exact ⟨rfl, _, fr_ovl 48 ⟨rfl, rfl, trivial⟩, hC, hO, h0, h1⟩
 ·skip
  exact ⟨_, fr_ovl 48 ⟨rfl, rfl, rfl, trivial⟩, hC, hO, h0, h1⟩
 ·cases o29 with
  | nx _ => exact True.intro
  | rt r_ =>
   have hs := after_rt hs
   intro a1 w1 hK
   cases hs
   exact hK
  | br s25 =>
   have hs := after_br hs
   rintro a1 w26 ⟨σ, rfl, hC, hO, h0, h1⟩
   refine c_seq ?_
   refine wp_block ?_
   refine c_seq (c_region ?_)
   refine pl_val (.slice pa0 pn0 pc0) (y_move rfl) ?_
   refine pl_val (.int .i64 (s_.length : Int)) (y_len' Sl25 (rs_len h0) rfl) ?_
   refine pl_val (.slice pa1 pn1 pc1) (y_move rfl) ?_
   refine pl_val (.int .i64 (t.length : Int)) (y_len' Sl25 (rs_len h1) rfl) ?_
   refine pl_val (.bool (decide ((s_.length : Int) < (t.length : Int)))) (y_lss rfl rfl) ?_
   refine pl_val (.bool (decide ((s_.length : Int) < (t.length : Int)))) (y_assign rfl) ?_
   refine c_nil ?_
   rcases bif_some hs with ⟨hc53, hs⟩ | ⟨hc53, hs⟩
   ·skip
    refine c_condT (congrArg Value.bool hc53) ?_
    refine c_seq (c_region ?_)
    refine pl_val (.int .i64 (-1)) (y_assign rfl) ?_
    refine c_nil ?_
    refine wp_ret ?_
    cases hs
    exact ⟨_, fr_ovl 48 ⟨rfl, trivial⟩, hC⟩
   ·skip
    refine c_condF (congrArg Value.bool hc53) ?_
    refine c_seq (c_region ?_)
    refine pl_val (.slice pa0 pn0 pc0) (y_move rfl) ?_
    refine pl_val (.int .i64 (s_.length : Int)) (y_len' Sl25 (rs_len h0) rfl) ?_
    refine pl_val (.slice pa1 pn1 pc1) (y_move rfl) ?_
    refine pl_val (.int .i64 (t.length : Int)) (y_len' Sl25 (rs_len h1) rfl) ?_
    refine pl_val (.bool (decide ((t.length : Int) < (s_.length : Int)))) (y_gtr rfl rfl) ?_
    refine pl_val (.bool (decide ((t.length : Int) < (s_.length : Int)))) (y_assign rfl) ?_
    refine c_nil ?_
    rcases bif_some hs with ⟨hc54, hs⟩ | ⟨hc54, hs⟩
    ·skip
     refine c_condT (congrArg Value.bool hc54) ?_
     refine c_seq (c_region ?_)
     refine pl_val (.int .i64 1) (y_assign rfl) ?_
     refine c_nil ?_
     refine wp_ret ?_
     cases hs
     exact ⟨_, fr_ovl 48 ⟨rfl, trivial⟩, hC⟩
    ·skip
     refine c_condF (congrArg Value.bool hc54) ?_
     refine wp_skip ?_
     refine c_seq (c_region ?_)
     refine pl_val (.int .i64 0) (y_assign rfl) ?_
     refine c_nil ?_
     refine wp_ret ?_
     cases hs
     exact ⟨_, fr_ovl 48 ⟨rfl, trivial⟩, hC⟩

theorem Bd96 : Bodied Try.prog 96 := bodied Try.func96 (by kernel_rfl) rfl

def k_impl_compareTerms (M : Nat → Prop) (w0 : World) (r : Int) (a : Act) (w : World) : Prop :=
  ∃ (σ : Nat → Value) , a = fr 20 (ovl σ [(4, (.int .i64 r))]) ∧ Chg [] w0 w
def s_impl_compareTerms (s_ : List Int) (t : List Int) : Option (Int) :=
  (bif (decide ((s_.length : Int) < (t.length : Int))) then some (-1) else (bif (decide ((t.length : Int) < (s_.length : Int))) then some 1 else (s_impl_compareLists s_ t).bind fun r6 =>
  some r6))
set_option maxHeartbeats 4000000 in
theorem c_impl_compareTerms {M : Nat → Prop} {w : World} {pa0 : Option Addr} {pn0 pc0 : Nat} {pa1 : Option Addr} {pn1 pc1 : Nat} (s_ : List Int) (t : List Int) (h0 : (RT.rs (RT.int .i64)).val M w (.slice pa0 pn0 pc0) s_ ([])) (h1 : (RT.rs (RT.int .i64)).val M w (.slice pa1 pn1 pc1) t ([])) (hM : ∀ g, w.heap.size ≤ g → M g) {r : Int} (hs : s_impl_compareTerms s_ t = some r) :
    Gives Try.prog 78 [(.slice pa0 pn0 pc0), (.slice pa1 pn1 pc1)] w (fun v w' => v = (.int .i64 r) ∧ Chg [] w w') := by
 refine calls_fr Try.func78 rfl Try.ntmps78 (Nat.le_of_ble_eq_true rfl) ?_
 have hO := Own.start (N := Nw w []) hM Nw.fut
 have hC := Chg.refl [] w
 unfold s_impl_compareTerms at hs
 refine wp_mono (Q := KPost (k_impl_compareTerms M w r)) ?_ (fun e a w1 h => ?_)
 rotate_left
 ·cases e
  case ret =>
   obtain ⟨σ, rfl, hrest⟩ := h
   exact ret1x Try.results78 (res_tmp rfl) ⟨rfl, hrest⟩
  all_goals exact (h : False).elim
 refine c_seq (c_region ?_)
 refine pl_val (.int .i64 0) (y_assign rfl) ?_
 refine c_nil ?_
 refine c_seq ?_
 refine wp_block ?_
 refine c_seq (c_region ?_)
 refine pl_val (.slice pa0 pn0 pc0) (y_move rfl) ?_
 refine pl_val (.int .i64 (s_.length : Int)) (y_len' Sl25 (rs_len h0) rfl) ?_
 refine pl_val (.slice pa1 pn1 pc1) (y_move rfl) ?_
 refine pl_val (.int .i64 (t.length : Int)) (y_len' Sl25 (rs_len h1) rfl) ?_
 refine pl_val (.bool (decide ((s_.length : Int) < (t.length : Int)))) (y_lss rfl rfl) ?_
 refine pl_val (.bool (decide ((s_.length : Int) < (t.length : Int)))) (y_assign rfl) ?_
 refine c_nil ?_
 rcases bif_some hs with ⟨hc3, hs⟩ | ⟨hc3, hs⟩
 ·skip
  refine c_condT (congrArg Value.bool hc3) ?_
  refine c_seq (c_region ?_)
  refine pl_val (.int .i64 (-1)) (y_assign rfl) ?_
  refine c_nil ?_
  refine wp_ret ?_
  cases hs
  exact ⟨_, fr_ovl 20 ⟨rfl, trivial⟩, hC⟩
 ·skip
  refine c_condF (congrArg Value.bool hc3) ?_
  refine c_seq (c_region ?_)
  refine pl_val (.slice pa0 pn0 pc0) (y_move rfl) ?_
  refine pl_val (.int .i64 (s_.length : Int)) (y_len' Sl25 (rs_len h0) rfl) ?_
  refine pl_val (.slice pa1 pn1 pc1) (y_move rfl) ?_
  refine pl_val (.int .i64 (t.length : Int)) (y_len' Sl25 (rs_len h1) rfl) ?_
  refine pl_val (.bool (decide ((t.length : Int) < (s_.length : Int)))) (y_gtr rfl rfl) ?_
  refine pl_val (.bool (decide ((t.length : Int) < (s_.length : Int)))) (y_assign rfl) ?_
  refine c_nil ?_
  rcases bif_some hs with ⟨hc4, hs⟩ | ⟨hc4, hs⟩
  ·skip
   refine c_condT (congrArg Value.bool hc4) ?_
   refine c_seq (c_region ?_)
   refine pl_val (.int .i64 1) (y_assign rfl) ?_
   refine c_nil ?_
   refine wp_ret ?_
   cases hs
   exact ⟨_, fr_ovl 20 ⟨rfl, trivial⟩, hC⟩
  ·skip
   refine c_condF (congrArg Value.bool hc4) ?_
   refine wp_skip ?_
   refine c_seq (c_region ?_)
   refine pl_val (.slice pa0 pn0 pc0) (y_move rfl) ?_
   refine pl_val (.slice pa1 pn1 pc1) (y_move rfl) ?_
   obtain ⟨r6, hr6, hs⟩ := bind_some hs
   refine pl_call Bd96 rfl (c_impl_compareLists (M := M) s_ t h0 h1 hO.fut hr6) ?_
   rintro _ w5 ⟨rfl, hC5⟩
   have h0 := h0.ext hC5
   have h1 := h1.ext hC5
   have hC := hC.ext hC5
   have hO := hO.ext hC5
   refine pl_val (.int .i64 r6) (y_assign rfl) ?_
   refine c_nil ?_
   refine wp_ret ?_
   cases hs
   exact ⟨_, fr_ovl 20 ⟨rfl, trivial⟩, hC⟩

theorem Bd74 : Bodied Try.prog 74 := bodied Try.func74 (by kernel_rfl) rfl

theorem Bd68 : Bodied Try.prog 68 := bodied Try.func68 (by kernel_rfl) rfl

theorem Bd75 : Bodied Try.prog 75 := bodied Try.func75 (by kernel_rfl) rfl

theorem Bd76 : Bodied Try.prog 76 := bodied Try.func76 (by kernel_rfl) rfl

theorem Zv4 : ∀ w, (zeroValue 4).run Try.prog w = .ok (Value.bool false) w := fun _ => by kernel_rfl

theorem Ag100 : AggT Try.prog 100 false := fun _ => by kernel_rfl

theorem Sz100 : SzT Try.prog 100 1 := ⟨_, rfl, rfl⟩

theorem Bd78 : Bodied Try.prog 78 := bodied Try.func78 (by kernel_rfl) rfl

def k_impl_sortRows_1__impl_compareTerms (M : Nat → Prop) (w0 : World) (r : Bool) (a : Act) (w : World) : Prop :=
  ∃ (σ : Nat → Value) , a = fr 18 (ovl σ [(6, (.bool r))]) ∧ Chg [] w0 w
def s_impl_sortRows_1__impl_compareTerms (tab1 : List (List Int)) (i : Int) (j : Int) : Option (Bool) :=
  (idx tab1 i).bind fun x5 =>
  (idx tab1 j).bind fun x9 =>
  (s_impl_compareTerms x5 x9).bind fun r14 =>
  some (decide (r14 < 0))
set_option maxHeartbeats 4000000 in
theorem c_impl_sortRows_1__impl_compareTerms {M : Nat → Prop} {w : World} {gv0 : Nat} {pa1 : Option Addr} {pn1 pc1 : Nat} {gv1 : Nat} (tab1 : List (List Int)) (i : Int) (j : Int) (hbgv0 : BoxV w gv0 100 [(.func (.func 78) #[] #[])]) (h1 : (RT.rs (RT.rs (RT.int .i64))).val M w (.slice pa1 pn1 pc1) tab1 ([])) (hbgv1 : BoxV w gv1 49 [(.slice pa1 pn1 pc1)]) (hM : ∀ g, w.heap.size ≤ g → M g) {r : Bool} (hs : s_impl_sortRows_1__impl_compareTerms tab1 i j = some r) :
    Gives Try.prog 95 [(.int .i64 i), (.int .i64 j), (.pointer (some ⟨gv0, 0, none⟩)), (.pointer (some ⟨gv1, 0, none⟩))] w (fun v w' => v = (.bool r) ∧ Chg [] w w') := by
 refine calls_fr Try.func95 rfl Try.ntmps95 (Nat.le_of_ble_eq_true rfl) ?_
 have hO := Own.start (N := Nw w []) hM Nw.fut
 have hC := Chg.refl [] w
 unfold s_impl_sortRows_1__impl_compareTerms at hs
 refine wp_mono (Q := KPost (k_impl_sortRows_1__impl_compareTerms M w r)) ?_ (fun e a w1 h => ?_)
 rotate_left
 ·cases e
  case ret =>
   obtain ⟨σ, rfl, hrest⟩ := h
   exact ret1x Try.results95 (res_tmp rfl) ⟨rfl, hrest⟩
  all_goals exact (h : False).elim
 refine c_seq (c_region ?_)
 refine pl_val (.bool false) (y_assign rfl) ?_
 refine c_nil ?_
 refine c_seq ?_
 refine x_start [] Mx rfl ?_
 have hCw4 := Chg.drew w
 generalize World.drew w = w4 at hCw4 ⊢
 have hbgv0 := hbgv0.chg hCw4 (fun h => nomatch h)
 have h1 := h1.ext hCw4
 have hbgv1 := hbgv1.chg hCw4 (fun h => nomatch h)
 have hC := hC.ext hCw4
 have hO := hO.ext hCw4
 have hS := Chg.refl [] w4
 refine x_l 0 (.func (.func 78) #[] #[]) rfl (by kernel_rfl)  (fun w' hw' => y_load rfl ((box_load Ag100 Sz100 hbgv0 [] [(.func (.func 78) #[] #[])] [] rfl rfl (fun _ => rfl)) w' hw')) hS ?_
 refine x_l 1 (.slice pa1 pn1 pc1) rfl (by kernel_rfl)  (fun w' hw' => y_load rfl ((box_load Ag49 Sz49 hbgv1 [] [(.slice pa1 pn1 pc1)] [] rfl rfl (fun _ => rfl)) w' hw')) hS ?_
 refine x_p 2 (.int .i64 i) rfl (by kernel_rfl)  (fun _ => y_move rfl) (fun _ => hS) ?_
 obtain ⟨x5, hx5, hs⟩ := bind_some hs
 obtain ⟨b6, o6, hp6, ha6⟩ := rs_idx Sl49 Sz25 h1 hx5
 refine x_p 3 (.pointer (some ⟨b6, o6, none⟩)) rfl (by kernel_rfl)  (fun _ => hp6 _ _ _ _ _ _ _ _ _ rfl rfl) (fun _ => hS) ?_
 obtain ⟨v7, hl7, hv7⟩ := at_load Ag25 Sz25 (fun _ => rfl) ha6
 obtain ⟨a7, n7, c7, rfl⟩ := rs_sl hv7
 refine x_l 4 (.slice a7 n7 c7) rfl (by kernel_rfl)  (fun w' hw' => y_load rfl (hl7 w' hw')) hS ?_
 refine x_l 5 (.slice pa1 pn1 pc1) rfl (by kernel_rfl)  (fun w' hw' => y_load rfl ((box_load Ag49 Sz49 hbgv1 [] [(.slice pa1 pn1 pc1)] [] rfl rfl (fun _ => rfl)) w' hw')) hS ?_
 refine x_p 6 (.int .i64 j) rfl (by kernel_rfl)  (fun _ => y_move rfl) (fun _ => hS) ?_
 obtain ⟨x9, hx9, hs⟩ := bind_some hs
 obtain ⟨b10, o10, hp10, ha10⟩ := rs_idx Sl49 Sz25 h1 hx9
 refine x_p 7 (.pointer (some ⟨b10, o10, none⟩)) rfl (by kernel_rfl)  (fun _ => hp10 _ _ _ _ _ _ _ _ _ rfl rfl) (fun _ => hS) ?_
 obtain ⟨v11, hl11, hv11⟩ := at_load Ag25 Sz25 (fun _ => rfl) ha10
 obtain ⟨a11, n11, c11, rfl⟩ := rs_sl hv11
 refine x_l 8 (.slice a11 n11 c11) rfl (by kernel_rfl)  (fun w' hw' => y_load rfl (hl11 w' hw')) hS ?_
 refine x_one (i := 9) (by kernel_rfl) ?_
 obtain ⟨r14, hr14, hs⟩ := bind_some hs
 refine xk_callv (b := false) rfl  (h := rfl) Bd78 rfl (c_impl_compareTerms (M := M) x5 x9 hv7 hv11 hO.fut hr14) rfl (by rintro _ _ _ ⟨rfl, hC13⟩; exact hS.ext hC13) ?_
 rintro _ w13 ⟨rfl, hC13⟩
 have hbgv0 := hbgv0.chg hC13 (fun h => nomatch h)
 have h1 := h1.ext hC13
 have hbgv1 := hbgv1.chg hC13 (fun h => nomatch h)
 have hv7 := hv7.ext hC13
 have hv11 := hv11.ext hC13
 have hC := hC.ext hC13
 have hO := hO.ext hC13
 have hS := hS.ext hC13
 refine x_p 10 (.bool (decide (r14 < 0))) rfl (by kernel_rfl)  (fun _ => y_lss rfl rfl) (fun _ => hS) ?_
 refine x_p 11 (.bool (decide (r14 < 0))) rfl (by kernel_rfl)  (fun _ => y_assign rfl) (fun _ => hS) ?_
 refine x_end (by kernel_rfl) ?_
 clear hS
 refine wp_ret ?_
 cases hs
 exact ⟨_, fr_ovl 18 ⟨rfl, trivial⟩, hC⟩

theorem Fx99 : ∀ args W, (callFunc 99 args).run Try.prog W = (((fun args : Array Value => Extern.ReflectliteValue.unpack (args.getD 0 (.tuple #[]))) args).run Try.prog W).andThen fun v w' => .ok (.value v) w' := fun args W => run_callFunc_extern Try.func99 (by kernel_rfl) (by kernel_rfl) (by kernel_rfl) (e := (fun args : Array Value => Extern.ReflectliteValue.unpack (args.getD 0 (.tuple #[])))) (by kernel_rfl) args W

theorem Ti49 : ∃ i, Try.prog.info? 49 = some i ∧ i.desc = .slice 25 := ⟨(Try.prog.info? 49).get (by kernel_rfl), by kernel_rfl, by kernel_rfl⟩

theorem Sz116 : SzT Try.prog 116 3 := ⟨_, rfl, rfl⟩

theorem Fx100 : ∀ args W, (callFunc 100 args).run Try.prog W = (((Extern.ReflectliteSwapper.swapper "internal/reflectlite" (Extern.ReflectliteValue.valueError "Swapper")) args).run Try.prog W).andThen fun v w' => .ok (.value v) w' := fun args W => run_callFunc_extern Try.func100 (by kernel_rfl) (by kernel_rfl) (by kernel_rfl) (e := (Extern.ReflectliteSwapper.swapper "internal/reflectlite" (Extern.ReflectliteValue.valueError "Swapper"))) (by kernel_rfl) args W

theorem Ke25 : ∀ w, (Extern.Rtype.kind 25).run Try.prog w = .ok 23 w := fun _ => by kernel_rfl

theorem Ag116 : AggT Try.prog 116 true := fun _ => by kernel_rfl

theorem Fx102 : ∀ args W, (callFunc 102 args).run Try.prog W = (((Extern.ReflectliteValue.method (Extern.ReflectliteValue.valueError "reflectlite.Value.Len" 0) Extern.ReflectliteValue.len) args).run Try.prog W).andThen fun v w' => .ok (.value v) w' := fun args W => run_callFunc_extern Try.func102 (by kernel_rfl) (by kernel_rfl) (by kernel_rfl) (e := (Extern.ReflectliteValue.method (Extern.ReflectliteValue.valueError "reflectlite.Value.Len" 0) Extern.ReflectliteValue.len)) (by kernel_rfl) args W

theorem Pk49 : Try.prog.packed 49 = false := by kernel_rfl

theorem Bd101 : Bodied Try.prog 101 := bodied Try.func101 (by kernel_rfl) rfl

def k_sort_SliceStable (M : Nat → Prop) (w0 : World) {α_ : Type} (I_ : World → List α_ → Prop) (G_ : List Nat) (r : (List α_)) (a : Act) (w : World) : Prop :=
  ∃ (σ : Nat → Value) , a = fr 16 (ovl σ []) ∧ Chg (G_ ++ ([])) w0 w ∧ I_ w r
def s_sort_SliceStable {α_ : Type} (ls_ : α_ → α_ → Option Bool) (d_ : List α_) (n_ : Nat) : Option ((List α_)) :=
  (s_sort_stable_func ls_ d_ (n_ : Int)).bind fun r7 =>
  some r7
set_option maxHeartbeats 4000000 in
theorem c_sort_SliceStable {M : Nat → Prop} {w : World} {a_ : Option Addr} {c_ : Nat} {ie_ : TypeInfo} {α_ : Type} {n0_ : Nat} {I_ : World → List α_ → Prop} {G_ : List Nat} {g_ sf_ : Nat} {lb_ : Array Value} (ls_ : α_ → α_ → Option Bool) (d_ : List α_) (n_ : Nat) (hN_ : n0_ ≤ w.heap.size) (hie_ : Try.prog.info? 25 = some ie_) (hf_ : Try.prog.funcs.findIdx? (·.name == "internal/reflectlite" ++ ".Swapper$" ++ toString (Go.Lib.swapperK n_ ie_ 23)) = some sf_) (hE_ : Env Try.prog n0_ I_ G_ ls_ g_ lb_ sf_ (if Go.Lib.swapperK n_ ie_ 23 ≤ 2 then #[] else #[.slice a_ n_ c_, typeHandle Try.prog 25])) (hI_ : I_ w d_) (hI : Own (Nw w (G_ ++ ([]))) M w (G_ ++ ([]))) (hM : ∀ g, w.heap.size ≤ g → M g) {r : (List α_)} (hs : s_sort_SliceStable ls_ d_ n_ = some r) :
    Gives Try.prog 94 [(.iface 49 (.slice a_ n_ c_)), (.func (.func g_) #[] lb_)] w (fun v w' => v = (.tuple #[]) ∧ Chg (G_ ++ ([])) w w' ∧ I_ w' r) := by
 refine calls_fr Try.func94 rfl Try.ntmps94 (Nat.le_of_ble_eq_true rfl) ?_
 have hO := hI
 have hC := Chg.refl (G_ ++ ([])) w
 unfold s_sort_SliceStable at hs
 refine wp_mono (Q := KPostN (k_sort_SliceStable M w I_ G_ r)) ?_ (fun e a w1 h => ?_)
 rotate_left
 ·cases e
  case ret =>
   obtain ⟨σ, rfl, hrest⟩ := h
   exact ret0x Try.results94  ⟨rfl, hrest⟩
  case normal =>
   obtain ⟨σ, rfl, hrest⟩ := h
   exact ret0n Try.results94  ⟨rfl, hrest⟩
  all_goals exact (h : False).elim
 refine c_seq (c_region ?_)
 refine pl_val (.iface 49 (.slice a_ n_ c_)) (y_move rfl) ?_
 obtain ⟨i1, hi1, hd1⟩ := Ti49
 obtain ⟨w1, g1, ew1, eg1, hC1, hb1⟩ := new_block w [(.slice a_ n_ c_)] 49
 refine pl_val (w' := w1) (.agg #[(typeHandle Try.prog 49), (.pointer (some ⟨g1, 0, none⟩)), (.int .u64 151)]) (y_callg rfl rfl (by rw [Fx99]; show Result.andThen (Sem.run Try.prog (Extern.ReflectliteValue.unpack (.iface 49 (.slice a_ n_ c_))) _) _ = _; rw [Go.Lib.run_valueOf_slice 49 25 i1 hi1 hd1, ew1, eg1]; rfl)) ?_
 have hI_ := hE_.ext hI_ hC1 (fun _ h => nomatch h)
 have hC := hC.ext hC1
 have hO := hO.new1 hC1 eg1 hb1.lt
 obtain ⟨w2, g2, ew2, eg2, hC2, hb2⟩ := new_block w1 [(.pointer none), (.pointer none), (.int .u64 0)] 116
 refine pl_val (w' := w2) (.pointer (some ⟨g2, 0, none⟩)) (y_alloc (by rw [ew2, eg2]; kernel_rfl)) ?_
 have hI_ := hE_.ext hI_ hC2 (fun _ h => nomatch h)
 have hb1 := hb1.chg hC2 (fun h => nomatch h)
 have hC := hC.ext hC2
 have hO := hO.new1 hC2 eg2 hb2.lt
 obtain ⟨w3, hst3, hC3, hb3⟩ := box_store (P := Try.prog) hb2 [] [(.pointer none), (.pointer none), (.int .u64 0)] [] [(typeHandle Try.prog 49), (.pointer (some ⟨g1, 0, none⟩)), (.int .u64 151)] rfl rfl (by intro u hu; simp only [List.mem_cons, List.not_mem_nil, or_false] at hu; rcases hu with rfl | rfl | rfl <;> rfl)
 refine pl_skip (w' := w3) (ys_store rfl rfl (hst3 _ _ rfl Sz116)) ?_
 have hI_ := hE_.ext hI_ hC3 (fun q hq => Nat.le_trans hN_ ((hO.inN q ((fun _ h => h) q hq)).resolve_left (fun e => hO.apart q ((fun _ h => h) q hq) (mem_r (mem_l (nil_mem q e))))))
 have hb1 := hb1.chg hC3 (fun hg => hO.apart _ ((fun _ h => h) _ hg) (mem_l (List.mem_singleton.2 rfl)))
 have hC := hC.step hC3 (fun g hg => hO.inN g ((fun _ h => h) g hg))
 have hO := hO.ext hC3
 have hb3 : BoxV w3 g2 116 [(typeHandle Try.prog 49), (.pointer (some ⟨g1, 0, none⟩)), (.int .u64 151)] := hb3
 refine c_nil ?_
 refine c_seq (c_region ?_)
 refine pl_val (.iface 49 (.slice a_ n_ c_)) (y_move rfl) ?_
 obtain ⟨i4, hi4, hd4⟩ := Ti49
 refine pl_val (.func (.func sf_) #[] (if Go.Lib.swapperK n_ ie_ 23 ≤ 2 then #[] else #[.slice a_ n_ c_, typeHandle Try.prog 25])) ((y_callg rfl rfl (by rw [Fx100]; show Result.andThen (Sem.run Try.prog (Extern.ReflectliteSwapper.swapper "internal/reflectlite" (Extern.ReflectliteValue.valueError "Swapper") #[(.iface 49 (.slice a_ n_ c_))]) _) _ = _; rw [Go.Lib.run_swapper_slice 49 25 i4 ie_ hi4 hd4 hie_ 23 Ke25 a_ n_ c_ sf_ hf_]; rfl))) ?_
 refine pl_val (.func (.func sf_) #[] (if Go.Lib.swapperK n_ ie_ 23 ≤ 2 then #[] else #[.slice a_ n_ c_, typeHandle Try.prog 25])) (y_assign rfl) ?_
 refine c_nil ?_
 refine c_region ?_
 refine pl_val (.func (.func g_) #[] lb_) (y_move rfl) ?_
 refine pl_val (.func (.func sf_) #[] (if Go.Lib.swapperK n_ ie_ 23 ≤ 2 then #[] else #[.slice a_ n_ c_, typeHandle Try.prog 25])) (y_move rfl) ?_
 refine pl_val (.agg #[(.func (.func g_) #[] lb_), (.func (.func sf_) #[] (if Go.Lib.swapperK n_ ie_ 23 ≤ 2 then #[] else #[.slice a_ n_ c_, typeHandle Try.prog 25]))]) (y_build rfl (by kernel_rfl)) ?_
 refine pl_val (.agg #[(typeHandle Try.prog 49), (.pointer (some ⟨g1, 0, none⟩)), (.int .u64 151)]) (y_load rfl ((box_load Ag116 Sz116 hb3 [] [(typeHandle Try.prog 49), (.pointer (some ⟨g1, 0, none⟩)), (.int .u64 151)] [] rfl rfl (fun h => nomatch h)) _ (Chg.refl _ _))) ?_
 obtain ⟨i5, hi5, hd5⟩ := Ti49
 refine pl_val (.int .i64 (n_ : Int)) ((y_callg rfl rfl (by rw [Fx102]; show Result.andThen (Sem.run Try.prog (Extern.ReflectliteValue.method (Extern.ReflectliteValue.valueError "reflectlite.Value.Len" 0) Extern.ReflectliteValue.len #[(.agg #[(typeHandle Try.prog 49), (.pointer (some ⟨g1, 0, none⟩)), (.int .u64 151)])]) _) _ = _; rw [Go.Lib.run_valueLen_slice 49 25 i5 hi5 hd5 Pk49 _ _ _ _ _ (box_cell hb1)]; rfl))) ?_
 have hO := hO.fr2
 have hI6 := Own.lend (F := (G_ ++ ([]))) (R := ([g2]) ++ (([g1]) ++ ([]))) (Own.perm hO (by simp))
 obtain ⟨r7, hr7, hs⟩ := bind_some hs
 refine pl_call Bd101 rfl (c_sort_stable_func (M := M) ls_ d_ (n_ : Int) (Nat.le_trans hN_ hC.size) hE_ hI_ hI6 hO.fut hr7) ?_
 rintro _ w6 ⟨rfl, hC6, hv6⟩
 have hb1 := hb1.chg hC6 (fun hg => hO.apart _ (nil_mem _ hg) (mem_r (mem_l (List.mem_singleton.2 rfl))))
 have hb3 := hb3.chg hC6 (fun hg => hO.apart _ (nil_mem _ hg) (mem_l (List.mem_singleton.2 rfl)))
 have hC := hC.step hC6 (fun g hg => hO.inN g (nil_mem g hg))
 have hO := hO.ext hC6
 refine c_nil ?_
 cases hs
 exact ⟨_, fr_ovl 16 trivial, hC, hv6⟩

theorem Ei25 : ∃ ie, Try.prog.info? 25 = some ie ∧ ie.size = 1 ∧ ie.hasPointers = true ∧ (ie.bytes == 8) = false := ⟨(Try.prog.info? 25).get (by kernel_rfl), by kernel_rfl, by kernel_rfl, by kernel_rfl, by kernel_rfl⟩

theorem Fs2 : ∀ W, (callFunc 105 #[.int .i64 0, .int .i64 0]).run Try.prog W = .ok (.value (.tuple #[])) W := fun W => (run_callFunc_extern Try.func105 (by kernel_rfl) (by kernel_rfl) (by kernel_rfl) (e := (Extern.find Try.f105).get (by kernel_rfl)) (by kernel_rfl) _ W).trans (by kernel_rfl)

theorem Fx112 : ∀ args W, (callFunc 112 args).run Try.prog W = (((Extern.ReflectliteSwapper.swap false) args).run Try.prog W).andThen fun v w' => .ok (.value v) w' := fun args W => run_callFunc_extern Try.func112 (by kernel_rfl) (by kernel_rfl) (by kernel_rfl) (e := (Extern.ReflectliteSwapper.swap false)) (by kernel_rfl) args W

theorem Sn1 : Try.prog.funcs.findIdx? (·.name == "internal/reflectlite" ++ ".Swapper$" ++ toString 1) = some 104 := by kernel_rfl

theorem Sn2 : Try.prog.funcs.findIdx? (·.name == "internal/reflectlite" ++ ".Swapper$" ++ toString 2) = some 105 := by kernel_rfl

theorem Sn9 : Try.prog.funcs.findIdx? (·.name == "internal/reflectlite" ++ ".Swapper$" ++ toString 9) = some 112 := by kernel_rfl

theorem Bd95 : Bodied Try.prog 95 := bodied Try.func95 (by kernel_rfl) rfl

theorem Bd94 : Bodied Try.prog 94 := bodied Try.func94 (by kernel_rfl) rfl

def k_impl_sortRows__impl_compareTerms (M : Nat → Prop) (w0 : World) (qa0 : Option Addr) (qn0 qc0 : Nat) (qf0 : List Nat) (r : (List (List Int))) (a : Act) (w : World) : Prop :=
  ∃ (σ : Nat → Value) (rfi0 : List Nat), a = fr 8 (ovl σ []) ∧ Chg (qf0 ++ ([])) w0 w ∧ (RT.os 25 (RT.os 3 (RT.int .i64))).val M w (.slice qa0 qn0 qc0) r rfi0 ∧ Own (Nw w0 (qf0 ++ ([]))) (fun _ => True) w (rfi0 ++ ([]))
def s_impl_sortRows__impl_compareTerms (rows : List (List Int)) : Option ((List (List Int))) :=
  (s_sort_SliceStable (fun x_ y_ => (s_impl_compareTerms x_ y_).bind fun r_ => some (decide (r_ < 0))) rows (rows.length)).bind fun r5 =>
  some r5
set_option maxHeartbeats 4000000 in
theorem c_impl_sortRows__impl_compareTerms {M : Nat → Prop} {w : World} {pa0 : Option Addr} {pn0 pc0 : Nat} {pf0 : List Nat} (rows : List (List Int)) (h0 : (RT.os 25 (RT.os 3 (RT.int .i64))).val M w (.slice pa0 pn0 pc0) rows pf0) (hI : Own (Nw w (pf0 ++ ([]))) M w (pf0 ++ ([]))) (hM : ∀ g, w.heap.size ≤ g → M g) {r : (List (List Int))} (hs : s_impl_sortRows__impl_compareTerms rows = some r) :
    Gives Try.prog 77 [(.slice pa0 pn0 pc0), (.func (.func 78) #[] #[])] w (fun v w' => ∃ (rfi0 : List Nat), v = (.tuple #[]) ∧ Chg (pf0 ++ ([])) w w' ∧ (RT.os 25 (RT.os 3 (RT.int .i64))).val M w' (.slice pa0 pn0 pc0) r rfi0 ∧ Own (Nw w (pf0 ++ ([]))) (fun _ => True) w' (rfi0 ++ ([]))) := by
 refine calls_fr Try.func77 rfl Try.ntmps77 (Nat.le_of_ble_eq_true rfl) ?_
 have hO := hI
 have hC := Chg.refl (pf0 ++ ([])) w
 unfold s_impl_sortRows__impl_compareTerms at hs
 refine wp_mono (Q := KPostN (k_impl_sortRows__impl_compareTerms M w pa0 pn0 pc0 pf0 r)) ?_ (fun e a w1 h => ?_)
 rotate_left
 ·cases e
  case ret =>
   obtain ⟨σ, rfi0, rfl, hrest⟩ := h
   exact ret0x Try.results77  ⟨rfi0, rfl, hrest⟩
  case normal =>
   obtain ⟨σ, rfi0, rfl, hrest⟩ := h
   exact ret0n Try.results77  ⟨rfi0, rfl, hrest⟩
  all_goals exact (h : False).elim
 refine c_seq (c_region ?_)
 obtain ⟨w2, g2, ew2, eg2, hC2, hb2⟩ := new_block w [(.slice pa0 pn0 pc0)] 49
 refine pl_val (w' := w2) (.pointer (some ⟨g2, 0, none⟩)) (y_box rfl (by rw [ew2, eg2]; kernel_rfl)) ?_
 have h0 := h0.ext hC2
 have hC := hC.ext hC2
 have hO := hO.new1 hC2 eg2 hb2.lt
 obtain ⟨w3, g3, ew3, eg3, hC3, hb3⟩ := new_block w2 [(.func (.func 78) #[] #[])] 100
 refine pl_val (w' := w3) (.pointer (some ⟨g3, 0, none⟩)) (y_box rfl (by rw [ew3, eg3]; kernel_rfl)) ?_
 have h0 := h0.ext hC3
 have hb2 := hb2.chg hC3 (fun h => nomatch h)
 have hC := hC.ext hC3
 have hO := hO.new1 hC3 eg3 hb3.lt
 refine c_nil ?_
 refine c_region ?_
 refine pl_val (.slice pa0 pn0 pc0) (y_load rfl ((box_load Ag49 Sz49 hb2 [] [(.slice pa0 pn0 pc0)] [] rfl rfl (fun _ => rfl)) _ (Chg.refl _ _))) ?_
 refine pl_val (.iface 49 (.slice pa0 pn0 pc0)) (y_iface Try.underlying49 rfl) ?_
 refine pl_val (.func (.func 95) #[] #[(.pointer (some ⟨g3, 0, none⟩)), (.pointer (some ⟨g2, 0, none⟩))]) (y_func rfl rfl) ?_
 have hO := hO.fr2
 obtain ⟨ie4, hie4, hz4, hp4, hb4⟩ := Ei25
 have hl4 := os_n h0
 obtain ⟨sf4, hf4, hE4⟩ := sort_env (P := Try.prog) (ke := 23) (M := M) (gO := g3) (gR := g2) (tO := 100) (tR := 49) (fv := (.func (.func 78) #[] #[])) (ls := (fun x_ y_ => (s_impl_compareTerms x_ y_).bind fun r_ => some (decide (r_ < 0)))) (g := 95) (lb := #[(.pointer (some ⟨g3, 0, none⟩)), (.pointer (some ⟨g2, 0, none⟩))]) rfl hie4 hz4 Ag25 hp4 hb4 rfl Sn1 Sn2 Sn9 Fs2 Fx112 Bd95 hO.inM (fun hg => hO.apart _ hg (mem_l (List.mem_singleton.2 rfl))) (fun hg => hO.apart _ hg (mem_r (mem_l (List.mem_singleton.2 rfl)))) (fun h hm ho hr hf hl => c_impl_sortRows_1__impl_compareTerms (M := Less M _) _ _ _ ho (((Frz.os (Frz.os Frz.int))).val h Less.sub Less.not) hr (less_fut hf h.fpl) (show s_impl_sortRows_1__impl_compareTerms _ _ _ = some _ from hl)) h0 (n0 := (w3).heap.size) hO.lt hb3.lt hb2.lt hO.fut
 have hJ4 : SortI (RT.os 3 (RT.int .i64)) 25 M pa0 pn0 pc0 pf0 g3 g2 100 49 (.func (.func 78) #[] #[]) w3 rows := ⟨⟨_, h0, List.Perm.refl _⟩, hb3, hb2, hO.fut⟩
 have hI4 := Own.lend (F := (pf0 ++ ([]))) (R := ([g3]) ++ (([g2]) ++ ([]))) (Own.perm hO (by simp))
 obtain ⟨r5, hr5, hs⟩ := bind_some hs
 refine pl_call Bd94 rfl (c_sort_SliceStable (M := M) (fun x_ y_ => (s_impl_compareTerms x_ y_).bind fun r_ => some (decide (r_ < 0))) rows pn0 (Nat.le_refl _) hie4 hf4 hE4 hJ4 hI4 hO.fut (by rw [hl4]; exact hr5)) ?_
 rintro _ w4 ⟨rfl, hC4, ⟨⟨f4, hv4, hp4⟩, _, _, _⟩⟩
 have hb2 := hb2.chg hC4 (fun hg => hO.apart _ (nil_mem _ hg) (mem_r (mem_l (List.mem_singleton.2 rfl))))
 have hb3 := hb3.chg hC4 (fun hg => hO.apart _ (nil_mem _ hg) (mem_l (List.mem_singleton.2 rfl)))
 have hC := hC.step hC4 (fun g hg => hO.inN g (nil_mem g hg))
 have hO := hO.grow hC4 (fun q hq => .inl (hp4.mem_iff.1 hq)) (os_nodup hv4) hv4.fpl
 refine c_nil ?_
 cases hs
 have hO := hO.fr1
 have hO := hO.drop
 have hO := hO.fr1
 have hO := hO.drop
 exact ⟨_, f4, fr_ovl 8 trivial, hC, hv4, hO.top⟩

theorem Bd77 : Bodied Try.prog 77 := bodied Try.func77 (by kernel_rfl) rfl

theorem Rw43 : RowT Try.prog 43 51 2 [(.int .i64 0), (.slice none 0 0)] := ⟨Try.underlying43, ⟨_, _, rfl, rfl, rfl, rfl, by decide⟩, rfl, by decide⟩

def k_impl_pairRelations (M : Nat → Prop) (w0 : World) (r : (List (Int × (List (List Int)))) × Bool) (a : Act) (w : World) : Prop :=
  ∃ (σ : Nat → Value) (ra0 : Option Addr) (rn0 rc0 : Nat) (rf0 : List Nat), a = fr 120 (ovl σ [(4, (.slice ra0 rn0 rc0)), (5, (.bool r.2))]) ∧ Chg [] w0 w ∧ (RT.os 51 (RT.pr (RT.int .i64) (RT.os 25 (RT.os 3 (RT.int .i64))))).val M w (.slice ra0 rn0 rc0) r.1 rf0 ∧ Own (Nw w0 []) (fun _ => True) w (rf0 ++ ([]))
def s_impl_pairRelations (n : Int) (ops : List (Int × (List Int))) : Option ((List (Int × (List (List Int)))) × Bool) :=
  (mks (w64 (n * n)) (false : Bool)).bind fun y3 =>
  (s_impl_closePairs__take2 n ops y3).bind fun r6 =>
  (s_impl_marked r6).bind fun r9 =>
  (idx ([r9]) 0).bind fun x15 =>
  (s_impl_keyOf x15).bind fun r20 =>
  (iter (S := (List (List Int)) × Int × (List (ByteArray × Bool))) (R := (List (Int × (List (List Int)))) × Bool) (fun s724 =>
  (bif (decide (s724.2.1 < (s724.1.length : Int))) then (forC (S := (List (List Int)) × (List (ByteArray × Bool))) (R := (List (Int × (List (List Int)))) × Bool) (fun k846 s844 =>
  (idx s844.1 s724.2.1).bind fun x856 =>
  (s_impl_hasNot x856 k846).bind fun r861 =>
  (bif (!r861) then some (.nx (s844.1, s844.2)) else (idx s844.1 s724.2.1).bind fun x863 =>
  (s_impl_marks x863 (w64 (n * n))).bind fun r868 =>
  (idx r868 k846).bind fun x870 =>
  (s_impl_closePairs__take2 n ops (List.set r868 (Int.toNat k846) true)).bind fun r874 =>
  (s_impl_marked r874).bind fun r877 =>
  (s_impl_keyOf r877).bind fun r880 =>
  (bif (!((mget s844.2 r880).getD false)) then (app s844.1 ([r877])).bind fun y904 =>
  some (y904, mput s844.2 r880 true) else some (s844.1, s844.2)).bind fun s893 =>
  (bif (decide (200 < (s893.1.length : Int))) then some (.rt ([], false)) else some (.nx (s893.1, s893.2))))) 0 (w64 (n * n)) (s724.1, s724.2.2)).bind fun o848 => after o848 (fun r_ => some (.rt r_)) (fun s844 =>
  some (.nx (s844.1, w64 (s724.2.1 + 1), s844.2))) else some (.br (s724.1, s724.2.1, s724.2.2)))) FU ([r9], 0, mput ([]) r20 true)).bind fun o728 => after o728 (fun r_ => some r_) (fun s724 =>
  (s_impl_sortRows__impl_compareTerms s724.1).bind fun r908 =>
  (forR (S := (List (Int × (List (List Int))))) (R := (List (Int × (List (List Int)))) × Bool) (fun _ x976 s973 =>
  (forR (S := (List (List Int))) (R := (List (Int × (List (List Int)))) × Bool) (fun _ x1019 s1016 =>
  (nz n).bind fun u1028 =>
  (nz n).bind fun u1029 =>
  (app s1016 ([[w64 (Int.tdiv x1019 n), Int.tmod x1019 n]])).bind fun y1035 =>
  some (.nx y1035)) 0 x976 ([])).bind fun o1020 => after o1020 (fun r_ => some (.rt r_)) (fun s1016 =>
  (app s973 ([(2, s1016)])).bind fun y1041 =>
  some (.nx y1041))) 0 r908 ([])).bind fun o977 => after o977 (fun r_ => some r_) (fun s973 =>
  some (s973, true)))
set_option maxHeartbeats 4000000 in
theorem c_impl_pairRelations {M : Nat → Prop} {w : World} {pa0 : Option Addr} {pn0 pc0 : Nat} (n : Int) (ops : List (Int × (List Int))) (h0 : (RT.rs (RT.pr (RT.int .i64) (RT.rs (RT.int .i64)))).val M w (.slice pa0 pn0 pc0) ops ([])) (hM : ∀ g, w.heap.size ≤ g → M g) {r : (List (Int × (List (List Int)))) × Bool} (hs : s_impl_pairRelations n ops = some r) :
    Gives Try.prog 60 [(.int .i64 n), (.slice pa0 pn0 pc0)] w (fun v w' => ∃ (ra0 : Option Addr) (rn0 rc0 : Nat) (rf0 : List Nat), v = (.tuple #[(.slice ra0 rn0 rc0), (.bool r.2)]) ∧ Chg [] w w' ∧ (RT.os 51 (RT.pr (RT.int .i64) (RT.os 25 (RT.os 3 (RT.int .i64))))).val M w' (.slice ra0 rn0 rc0) r.1 rf0 ∧ Own (Nw w []) (fun _ => True) w' (rf0 ++ ([]))) := by
 refine calls_fr Try.func60 rfl Try.ntmps60 (Nat.le_of_ble_eq_true rfl) ?_
 have hO := Own.start (N := Nw w []) hM Nw.fut
 have hC := Chg.refl [] w
 unfold s_impl_pairRelations at hs
 refine wp_mono (Q := KPost (k_impl_pairRelations M w r)) ?_ (fun e a w1 h => ?_)
 rotate_left
 ·cases e
  case ret =>
   obtain ⟨σ, ra0, rn0, rc0, rf0, rfl, hrest⟩ := h
   exact ret2x Try.results60 (res_tmp rfl) (res_tmp rfl) ⟨ra0, rn0, rc0, rf0, rfl, hrest⟩
  all_goals exact (h : False).elim
 refine c_seq (c_region ?_)
 refine pl_val (.slice none 0 0) (y_assign rfl) ?_
 refine pl_val (.bool false) (y_assign rfl) ?_
 refine c_nil ?_
 refine c_seq (c_region ?_)
 refine pl_val (.int .i64 n) (y_move rfl) ?_
 refine pl_val (.slice pa0 pn0 pc0) (y_move rfl) ?_
 refine pl_val (.int .i64 n) (y_move rfl) ?_
 refine pl_val (.int .i64 n) (y_move rfl) ?_
 refine pl_val (.int .i64 (w64 (n * n))) (y_mul rfl rfl) ?_
 obtain ⟨y3, hy3, hs⟩ := bind_some hs
 obtain ⟨a2, n2, c2, w2, f2, hm2, hC2, hfr2, hv2⟩ := mk_os (M := M) (w := w) (r := RT.bool) Rw86 hy3 (fun _ _ => ⟨rfl, rfl⟩)
 refine pl_val (w' := w2) (.slice a2 n2 c2) (y_make rfl rfl hm2) ?_
 have h0 := h0.ext hC2
 have hC := hC.ext hC2
 have hO := hO.new hC2 hfr2 (os_nodup hv2) hv2.fpl
 have hL5 := hO
 have hI5 := Own.lend (F := (f2 ++ ([]))) (R := []) (Own.perm (hL5) (by simp))
 obtain ⟨r6, hr6, hs⟩ := bind_some hs
 refine pl_call Bd74 rfl (c_impl_closePairs__take2 (M := M) n ops y3 h0 hv2 hI5 hI5.fut hr6) ?_
 rintro _ w5 ⟨a5x0, n5x0, c5x0, f5x0, rfl, hC5, hv5x0, hOc5⟩
 have hO := hO.perm (R := (f2 ++ ([])) ++ ([])) (by simp)
 have h0 := h0.mut hC5 (fun g hg => hO.inM g ((fun _ h => h) g hg)) (fun _ _ h => nomatch h)
 have hC := hC.step hC5 (fun g hg => hO.inN g ((fun _ h => h) g hg))
 have hO := Own.join hO hC5 hOc5
 have hO := hO.perm (R := f5x0 ++ ([])) (by simp)
 obtain ⟨r9, hr9, hs⟩ := bind_some hs
 refine pl_call Bd65 rfl (c_impl_marked (M := (Less M f5x0)) r6 (((Frz.os Frz.bool)).val hv5x0 Less.sub Less.not) hO.less.fut hr9) ?_
 rintro _ w8 ⟨a8x0, n8x0, c8x0, f8x0, rfl, hC8, hv8x0, hOc8⟩
 have h0 := h0.ext hC8
 have hv5x0 := hv5x0.ext hC8
 have hC := hC.ext hC8
 have hO := Own.join0 hO hC8 hOc8
 have hO := hO.perm (R := f8x0 ++ (f5x0 ++ ([]))) (by simp)
 have hv8x0 := hv8x0.free (M' := M) (Free.os Free.int)
 obtain ⟨w11, g11, ew11, eg11, hC11, hb11⟩ := new_block w8 [(.slice a8x0 n8x0 c8x0)] 25
 refine pl_val (w' := w11) (.slice (some ⟨g11, 0, none⟩) 1 1) (y_bslice rfl (by rw [ew11, eg11]; kernel_rfl)) ?_
 have h0 := h0.ext hC11
 have hv5x0 := hv5x0.ext hC11
 have hv8x0 := hv8x0.ext hC11
 have hC := hC.ext hC11
 have hO := hO.new1 hC11 eg11 hb11.lt
 have hO := hO.perm (R := (g11 :: ((f8x0) ++ ([]))) ++ (f5x0 ++ ([]))) (by simp)
 have hnd11 := hO.nd
 have hv11 := os_of_box (r := (RT.os 3 (RT.int .i64))) (M := M) (css := [[(.slice a8x0 n8x0 c8x0)]]) (fps := [(f8x0 : List Nat)]) (xs := ([r9] : List (List Int))) hb11 ⟨(os_unval hv8x0), trivial⟩ (Nat.le_of_ble_eq_true rfl) hnd11
 have hv11 : (RT.os 25 (RT.os 3 (RT.int .i64))).val M w11 (.slice (some ⟨g11, 0, none⟩) 1 1) [r9] (g11 :: ((f8x0) ++ ([]))) := hv11
 refine pl_val (.slice (some ⟨g11, 0, none⟩) 1 1) (y_assign rfl) ?_
 refine c_nil ?_
 refine c_seq (c_region ?_)
 obtain ⟨w13, b13, ew13, eb13, hC13, hv13⟩ := mo_make (enc := Value.bool) (M := M) w11
 refine pl_val (w' := w13) (.map (some b13)) (by rw [ew13, eb13]; exact y_mmap) ?_
 have h0 := h0.ext hC13
 have hv5x0 := hv5x0.ext hC13
 have hv11 := hv11.ext hC13
 have hC := hC.ext hC13
 have hO := hO.new (X' := [b13]) hC13 (fun q hq => by rw [List.mem_singleton.1 hq, eb13]; exact Nat.le_refl _) (List.nodup_cons.2 ⟨(fun h => nomatch h), List.nodup_nil⟩) hv13.fpl
 refine pl_val (.slice (some ⟨g11, 0, none⟩) 1 1) (y_move rfl) ?_
 obtain ⟨x15, hx15, hs⟩ := bind_some hs
 obtain ⟨g16, f16, hg16, hk16, hp16, ha16, hf16⟩ := os_idx Sl49 Sz25 hv11 hx15
 have hb16 := own_row (Frz.os Frz.int) ha16 hf16
 refine pl_val (.pointer (some ⟨g16, 0 + Int.toNat 0 * 1, none⟩)) (hp16 _ _ _ _ _ _ _ _ _ rfl rfl) ?_
 obtain ⟨v17, hl17, hrow17, hv17⟩ := at_load1 Ag25 Sz25 rfl rfl hb16
 obtain ⟨a17, n17, c17, rfl⟩ := rs_sl hv17
 refine pl_val (.slice a17 n17 c17) (y_load rfl (hl17 _ (Chg.refl _ _))) ?_
 have hO := hO.fr1
 obtain ⟨r20, hr20, hs⟩ := bind_some hs
 refine pl_call Bd68 rfl (c_impl_keyOf (M := (Less M (g11 :: ((f8x0) ++ ([]))))) x15 hv17 hO.less.fut hr20) ?_
 rintro _ w19 ⟨rfl, hC19⟩
 have h0 := h0.ext hC19
 have hv5x0 := hv5x0.ext hC19
 have hv11 := hv11.ext hC19
 have hv13 := hv13.ext hC19
 have hv17 := hv17.ext hC19
 have hrow17 := hrow17.chg hC19 (fun h => nomatch h)
 have hC := hC.ext hC19
 have hO := hO.ext hC19
 have hO := hO.fr1
 obtain ⟨w21, hst21, hC21, hv21⟩ := mo_put (P := Try.prog) (t := 88) (key := r20) (x := true) Try.underlying88 Try.underlying9 hv13
 refine pl_skip (w' := w21) (ys_ins rfl rfl rfl hst21) ?_
 have h0 := h0.mut hC21 (fun g hg => hO.inM g ((fun _ h => h) g hg)) (fun _ _ h => nomatch h)
 have hv5x0 := hv5x0.mut hC21 (fun g hg => hO.inM g ((fun _ h => h) g hg)) (fun g hg e => hO.apart g ((fun _ h => h) g hg) (mem_r (mem_l (e))))
 have hv11 := hv11.mut hC21 (fun g hg => hO.inM g ((fun _ h => h) g hg)) (fun g hg e => hO.apart g ((fun _ h => h) g hg) (mem_l (e)))
 have hv17 := hv17.mut hC21 (fun g hg => ⟨hO.inM g ((fun _ h => h) g hg), fun e => hO.apart g ((fun _ h => h) g hg) (mem_l (e))⟩) (fun _ _ h => nomatch h)
 have hC := hC.step hC21 (fun g hg => hO.inN g ((fun _ h => h) g hg))
 have hO := hO.ext hC21
 refine pl_val (.map (some b13)) (y_move rfl) ?_
 refine pl_val (.map (some b13)) (y_assign rfl) ?_
 refine c_nil ?_
 refine c_seq ?_
 refine c_seq (c_region ?_)
 refine pl_val (.int .i64 0) (y_assign rfl) ?_
 refine c_nil ?_
 have hO := hO.fr2
 have hO := hO.drop
 obtain ⟨o728, hl729, hs⟩ := bind_some hs
 refine wp_block ?_
 refine wp_iter (id := 0) (I := fun s724 a w725 => ∃ (σ : Nat → Value) (a730 : Option Addr) (n730 : Nat) (c730 : Nat) (f730 : List Nat) (f732 : List Nat), a = fr 120 (ovl σ [(0, (.int .i64 n)), (1, (.slice pa0 pn0 pc0)), (6, (.slice a730 n730 c730)), (7, (.map (some b13))), (8, (.int .i64 s724.2.1))]) ∧ Chg [] w w725 ∧ Own (Nw w []) M w725 (f730 ++ (f732 ++ [])) ∧ (RT.rs (RT.pr (RT.int .i64) (RT.rs (RT.int .i64)))).val M w725 (.slice pa0 pn0 pc0) ops ([]) ∧ (RT.mo Value.bool).val M w725 (.map (some b13)) s724.2.2 f732 ∧ (RT.os 25 (RT.os 3 (RT.int .i64))).val M w725 (.slice a730 n730 c730) s724.1 f730) (J := fun s724 a w725 => ∃ (σ : Nat → Value) (a733 : Option Addr) (n733 : Nat) (c733 : Nat) (f733 : List Nat) (f735 : List Nat), a = fr 120 (ovl σ [(0, (.int .i64 n)), (6, (.slice a733 n733 c733))]) ∧ Chg [] w w725 ∧ Own (Nw w []) M w725 (f733 ++ (f735 ++ [])) ∧ (RT.rs (RT.pr (RT.int .i64) (RT.rs (RT.int .i64)))).val M w725 (.slice pa0 pn0 pc0) ops ([]) ∧ (RT.mo Value.bool).val M w725 (.map (some b13)) s724.2.2 f735 ∧ (RT.os 25 (RT.os 3 (RT.int .i64))).val M w725 (.slice a733 n733 c733) s724.1 f733) (K := (k_impl_pairRelations M w)) ?_ FU ([r9], 0, mput ([]) r20 true) o728 _ _ ?_ hl729 ?_
 ·rintro s724 o728 a w725 ⟨σ, a730, n730, c730, f730, f732, rfl, hC, hO, h0, hv732, hv730⟩ hs
  refine c_seq ?_
  refine c_seq (c_region ?_)
  refine pl_val (.int .i64 s724.2.1) (y_move rfl) ?_
  refine pl_val (.slice a730 n730 c730) (y_move rfl) ?_
  refine pl_val (.int .i64 (s724.1.length : Int)) (y_len' Sl49 (os_len hv730) rfl) ?_
  refine pl_val (.bool (decide (s724.2.1 < (s724.1.length : Int)))) (y_lss rfl rfl) ?_
  refine c_nil ?_
  rcases bif_some hs with ⟨hc736, hs⟩ | ⟨hc736, hs⟩
  ·skip
   refine c_condT (congrArg Value.bool hc736) ?_
   refine wp_skip ?_
   refine c_seq ?_
   refine wp_block ?_
   refine c_seq (c_region ?_)
   refine pl_val (.int .i64 0) (y_assign rfl) ?_
   refine c_nil ?_
   obtain ⟨o848, hl849, hs⟩ := bind_some hs
   refine wp_block ?_
   refine wp_forC (id := 2) (w64 (n * n)) (I := fun k846 s844 a w845 => ∃ (σ : Nat → Value) (a850 : Option Addr) (n850 : Nat) (c850 : Nat) (f850 : List Nat) (f852 : List Nat), a = fr 120 (ovl σ [(0, (.int .i64 n)), (1, (.slice pa0 pn0 pc0)), (6, (.slice a850 n850 c850)), (7, (.map (some b13))), (8, (.int .i64 s724.2.1)), (9, (.int .i64 k846))]) ∧ Chg [] w w845 ∧ Own (Nw w []) M w845 (f850 ++ (f852 ++ [])) ∧ (RT.rs (RT.pr (RT.int .i64) (RT.rs (RT.int .i64)))).val M w845 (.slice pa0 pn0 pc0) ops ([]) ∧ (RT.mo Value.bool).val M w845 (.map (some b13)) s844.2 f852 ∧ (RT.os 25 (RT.os 3 (RT.int .i64))).val M w845 (.slice a850 n850 c850) s844.1 f850) (J := fun s844 a w845 => ∃ (σ : Nat → Value) (a853 : Option Addr) (n853 : Nat) (c853 : Nat) (f853 : List Nat) (f855 : List Nat), a = fr 120 (ovl σ [(0, (.int .i64 n)), (1, (.slice pa0 pn0 pc0)), (6, (.slice a853 n853 c853)), (7, (.map (some b13))), (8, (.int .i64 s724.2.1))]) ∧ Chg [] w w845 ∧ Own (Nw w []) M w845 (f853 ++ (f855 ++ [])) ∧ (RT.rs (RT.pr (RT.int .i64) (RT.rs (RT.int .i64)))).val M w845 (.slice pa0 pn0 pc0) ops ([]) ∧ (RT.mo Value.bool).val M w845 (.map (some b13)) s844.2 f855 ∧ (RT.os 25 (RT.os 3 (RT.int .i64))).val M w845 (.slice a853 n853 c853) s844.1 f853) (K := (k_impl_pairRelations M w)) ?_ ?_ 0 (s724.1, s724.2.2) o848 _ _ ?_ hl849 ?_
   ·rintro k846 s844 a w845 ⟨σ, a850, n850, c850, f850, f852, rfl, hC, hO, h0, hv852, hv850⟩ hlt
    refine c_seq ?_
    refine c_seq (c_region ?_)
    refine pl_val (.int .i64 k846) (y_move rfl) ?_
    refine pl_val (.int .i64 n) (y_move rfl) ?_
    refine pl_val (.int .i64 n) (y_move rfl) ?_
    refine pl_val (.int .i64 (w64 (n * n))) (y_mul rfl rfl) ?_
    refine pl_val (.bool (decide (k846 < (w64 (n * n))))) (y_lss rfl rfl) ?_
    refine c_nil ?_
    refine c_condF (congrArg Value.bool (decide_eq_false hlt)) ?_
    refine wp_exit ?_
    have hO := hO.fr1
    have hO := hO.fr1
    exact ⟨rfl, _, a850, n850, c850, f850, f852, fr_ovl 120 ⟨rfl, rfl, rfl, rfl, rfl, trivial⟩, hC, hO, h0, hv852, hv850⟩
   ·rintro k846 s844 o848 a w845 ⟨σ, a850, n850, c850, f850, f852, rfl, hC, hO, h0, hv852, hv850⟩ hlt hw hs
    refine c_seq ?_
    refine c_seq (c_region ?_)
    refine pl_val (.int .i64 k846) (y_move rfl) ?_
    refine pl_val (.int .i64 n) (y_move rfl) ?_
    refine pl_val (.int .i64 n) (y_move rfl) ?_
    refine pl_val (.int .i64 (w64 (n * n))) (y_mul rfl rfl) ?_
    refine pl_val (.bool (decide (k846 < (w64 (n * n))))) (y_lss rfl rfl) ?_
    refine c_nil ?_
    refine c_condT (congrArg Value.bool (decide_eq_true hlt)) ?_
    refine wp_skip ?_
    refine c_seq ?_
    refine wp_block ?_
    refine c_seq ?_
    refine c_seq (c_region ?_)
    refine pl_val (.slice a850 n850 c850) (y_move rfl) ?_
    refine pl_val (.int .i64 s724.2.1) (y_move rfl) ?_
    obtain ⟨x856, hx856, hs⟩ := bind_some hs
    obtain ⟨g857, f857, hg857, hk857, hp857, ha857, hf857⟩ := os_idx Sl49 Sz25 hv850 hx856
    have hb857 := own_row (Frz.os Frz.int) ha857 hf857
    refine pl_val (.pointer (some ⟨g857, 0 + Int.toNat s724.2.1 * 1, none⟩)) (hp857 _ _ _ _ _ _ _ _ _ rfl rfl) ?_
    obtain ⟨v858, hl858, hrow858, hv858⟩ := at_load1 Ag25 Sz25 rfl rfl hb857
    obtain ⟨a858, n858, c858, rfl⟩ := rs_sl hv858
    refine pl_val (.slice a858 n858 c858) (y_load rfl (hl858 _ (Chg.refl _ _))) ?_
    refine pl_val (.int .i64 k846) (y_move rfl) ?_
    obtain ⟨r861, hr861, hs⟩ := bind_some hs
    refine pl_call Bd75 rfl (c_impl_hasNot (M := (Less M f850)) x856 k846 hv858 hO.less.fut hr861) ?_
    rintro _ w860 ⟨rfl, hC860⟩
    have h0 := h0.ext hC860
    have hv852 := hv852.ext hC860
    have hv850 := hv850.ext hC860
    have hv858 := hv858.ext hC860
    have hrow858 := hrow858.chg hC860 (fun h => nomatch h)
    have hC := hC.ext hC860
    have hO := hO.ext hC860
    refine pl_val (.bool (!r861)) (y_not rfl) ?_
    refine c_nil ?_
    rcases bif_some hs with ⟨hc862, hs⟩ | ⟨hc862, hs⟩
    ·skip
     refine c_condT (congrArg Value.bool hc862) ?_
     refine wp_exit ?_
     refine c_region ?_
     refine pl_val (.int .i64 k846) (y_move rfl) ?_
     refine pl_val (.int .i64 (w64 (k846 + 1))) (y_add rfl rfl) ?_
     refine pl_val (.int .i64 (w64 (k846 + 1))) (y_assign rfl) ?_
     refine c_nil ?_
     cases hs
     have hO := hO.fr1
     have hO := hO.fr1
     exact ⟨_, a850, n850, c850, f850, f852, fr_ovl 120 ⟨rfl, rfl, rfl, rfl, rfl, congrArg (Value.int .i64) hw, trivial⟩, hC, hO, h0, hv852, hv850⟩
    ·skip
     refine c_condF (congrArg Value.bool hc862) ?_
     refine wp_skip ?_
     refine c_seq (c_region ?_)
     refine pl_val (.slice a850 n850 c850) (y_move rfl) ?_
     refine pl_val (.int .i64 s724.2.1) (y_move rfl) ?_
     obtain ⟨x863, hx863, hs⟩ := bind_some hs
     obtain ⟨g864, f864, hg864, hk864, hp864, ha864, hf864⟩ := os_idx Sl49 Sz25 hv850 hx863
     have hb864 := own_row (Frz.os Frz.int) ha864 hf864
     refine pl_val (.pointer (some ⟨g864, 0 + Int.toNat s724.2.1 * 1, none⟩)) (hp864 _ _ _ _ _ _ _ _ _ rfl rfl) ?_
     obtain ⟨v865, hl865, hrow865, hv865⟩ := at_load1 Ag25 Sz25 rfl rfl hb864
     obtain ⟨a865, n865, c865, rfl⟩ := rs_sl hv865
     refine pl_val (.slice a865 n865 c865) (y_load rfl (hl865 _ (Chg.refl _ _))) ?_
     refine pl_val (.int .i64 n) (y_move rfl) ?_
     refine pl_val (.int .i64 n) (y_move rfl) ?_
     refine pl_val (.int .i64 (w64 (n * n))) (y_mul rfl rfl) ?_
     obtain ⟨r868, hr868, hs⟩ := bind_some hs
     refine pl_call Bd76 rfl (c_impl_marks (M := (Less M f850)) x863 (w64 (n * n)) hv865 hO.less.fut hr868) ?_
     rintro _ w867 ⟨a867x0, n867x0, c867x0, f867x0, rfl, hC867, hv867x0, hOc867⟩
     have h0 := h0.ext hC867
     have hv852 := hv852.ext hC867
     have hv850 := hv850.ext hC867
     have hv865 := hv865.ext hC867
     have hrow865 := hrow865.chg hC867 (fun h => nomatch h)
     have hC := hC.ext hC867
     have hO := Own.join0 hO hC867 hOc867
     have hO := hO.perm (R := f867x0 ++ (f850 ++ (f852 ++ ([])))) (by simp)
     have hv867x0 := hv867x0.free (M' := M) (Free.os Free.bool)
     refine pl_val (.slice a867x0 n867x0 c867x0) (y_assign rfl) ?_
     refine c_nil ?_
     refine c_seq (c_region ?_)
     refine pl_val (.slice a867x0 n867x0 c867x0) (y_move rfl) ?_
     refine pl_val (.int .i64 k846) (y_move rfl) ?_
     obtain ⟨x870, hx870, hs⟩ := bind_some hs
     obtain ⟨g871, f871, hg871, hk871, hp871, ha871, hf871⟩ := os_idx Sl86 Sz4 hv867x0 hx870
     refine pl_val (.pointer (some ⟨g871, 0 + Int.toNat k846 * 1, none⟩)) (hp871 _ _ _ _ _ _ _ _ _ rfl rfl) ?_
     obtain ⟨w872, f872, hst872, hC872, hf872, hv872⟩ := os_store (P := Try.prog) (c' := [(.bool true)]) hg871 hv867x0 hk871 (fun g hg => hO.inM g (os_block hv867x0 g (by simpa using hg))) ⟨rfl, rfl⟩ List.nodup_nil (fun _ h => nomatch h) (fun _ h => .inl h)
     have hG872 : ∀ q ∈ [g871], q ∈ f867x0 := fun q hq => os_block hv867x0 q (by rw [hg871]; exact hq)
     refine pl_skip (w' := w872) (ys_store rfl rfl (hst872 _ _ rfl Sz4)) ?_
     have h0 := h0.mut hC872 (fun g hg => hO.inM g (hG872 g hg)) (fun _ _ h => nomatch h)
     have hv852 := hv852.mut hC872 (fun g hg => hO.inM g (hG872 g hg)) (fun g hg e => hO.apart g (hG872 g hg) (mem_r (mem_l (e))))
     have hv850 := hv850.mut hC872 (fun g hg => hO.inM g (hG872 g hg)) (fun g hg e => hO.apart g (hG872 g hg) (mem_l (e)))
     have hC := hC.step hC872 (fun g hg => hO.inN g (hG872 g hg))
     have hO := hO.grow hC872 (fun q hq => .inl ((hf872 q hq).resolve_right (fun h => nomatch h))) (os_nodup hv872) hv872.fpl
     refine c_nil ?_
     refine c_seq (c_region ?_)
     refine pl_val (.int .i64 n) (y_move rfl) ?_
     refine pl_val (.slice pa0 pn0 pc0) (y_move rfl) ?_
     refine pl_val (.slice a867x0 n867x0 c867x0) (y_move rfl) ?_
     have hL873 := hO
     have hI873 := Own.lend (F := (f872 ++ ([]))) (R := f850 ++ (f852 ++ ([]))) (Own.perm (hL873) (by simp))
     obtain ⟨r874, hr874, hs⟩ := bind_some hs
     refine pl_call Bd74 rfl (c_impl_closePairs__take2 (M := M) n ops (List.set r868 (Int.toNat k846) true) h0 hv872 hI873 hI873.fut hr874) ?_
     rintro _ w873 ⟨a873x0, n873x0, c873x0, f873x0, rfl, hC873, hv873x0, hOc873⟩
     have hO := hO.perm (R := (f872 ++ ([])) ++ (f850 ++ (f852 ++ ([])))) (by simp)
     have h0 := h0.mut hC873 (fun g hg => hO.inM g ((fun _ h => h) g hg)) (fun _ _ h => nomatch h)
     have hv852 := hv852.mut hC873 (fun g hg => hO.inM g ((fun _ h => h) g hg)) (fun g hg e => hO.apart g ((fun _ h => h) g hg) (mem_r (mem_l (e))))
     have hv850 := hv850.mut hC873 (fun g hg => hO.inM g ((fun _ h => h) g hg)) (fun g hg e => hO.apart g ((fun _ h => h) g hg) (mem_l (e)))
     have hC := hC.step hC873 (fun g hg => hO.inN g ((fun _ h => h) g hg))
     have hO := Own.join hO hC873 hOc873
     have hO := hO.perm (R := f873x0 ++ (f850 ++ (f852 ++ ([])))) (by simp)
     obtain ⟨r877, hr877, hs⟩ := bind_some hs
     refine pl_call Bd65 rfl (c_impl_marked (M := (Less M f873x0)) r874 (((Frz.os Frz.bool)).val hv873x0 Less.sub Less.not) hO.less.fut hr877) ?_
     rintro _ w876 ⟨a876x0, n876x0, c876x0, f876x0, rfl, hC876, hv876x0, hOc876⟩
     have h0 := h0.ext hC876
     have hv852 := hv852.ext hC876
     have hv850 := hv850.ext hC876
     have hv873x0 := hv873x0.ext hC876
     have hC := hC.ext hC876
     have hO := Own.join0 hO hC876 hOc876
     have hO := hO.perm (R := f876x0 ++ (f873x0 ++ (f850 ++ (f852 ++ ([]))))) (by simp)
     have hv876x0 := hv876x0.free (M' := M) (Free.os Free.int)
     refine pl_val (.slice a876x0 n876x0 c876x0) (y_assign rfl) ?_
     refine c_nil ?_
     refine c_seq ?_
     refine c_seq (c_region ?_)
     refine pl_val (.slice a876x0 n876x0 c876x0) (y_move rfl) ?_
     obtain ⟨r880, hr880, hs⟩ := bind_some hs
     refine pl_call Bd68 rfl (c_impl_keyOf (M := (Less M f876x0)) r877 (((Frz.os Frz.int)).val hv876x0 Less.sub Less.not) hO.less.fut hr880) ?_
     rintro _ w879 ⟨rfl, hC879⟩
     have h0 := h0.ext hC879
     have hv852 := hv852.ext hC879
     have hv850 := hv850.ext hC879
     have hv873x0 := hv873x0.ext hC879
     have hv876x0 := hv876x0.ext hC879
     have hC := hC.ext hC879
     have hO := hO.ext hC879
     refine pl_val (.string r880) (y_assign rfl) ?_
     refine c_nil ?_
     refine c_seq (c_region ?_)
     refine pl_val (.map (some b13)) (y_move rfl) ?_
     refine pl_val (.string r880) (y_move rfl) ?_
     refine pl_val (.bool ((mget s844.2 r880).getD false)) (y_look (enc := Value.bool) Try.underlying88 Try.underlying9 Zv4 (mo_at hv852) rfl rfl) ?_
     refine pl_val (.bool (!((mget s844.2 r880).getD false))) (y_not rfl) ?_
     refine c_nil ?_
     obtain ⟨s893, hm895, hs⟩ := bind_some hs
     refine c_mid (I := fun a w894 => ∃ (σ : Nat → Value) (a896 : Option Addr) (n896 : Nat) (c896 : Nat) (f896 : List Nat) (f898 : List Nat), a = fr 120 (ovl σ [(0, (.int .i64 n)), (1, (.slice pa0 pn0 pc0)), (6, (.slice a896 n896 c896)), (7, (.map (some b13))), (8, (.int .i64 s724.2.1)), (9, (.int .i64 k846))]) ∧ Chg [] w w894 ∧ Own (Nw w []) M w894 (f896 ++ (f898 ++ [])) ∧ (RT.rs (RT.pr (RT.int .i64) (RT.rs (RT.int .i64)))).val M w894 (.slice pa0 pn0 pc0) ops ([]) ∧ (RT.mo Value.bool).val M w894 (.map (some b13)) s893.2 f898 ∧ (RT.os 25 (RT.os 3 (RT.int .i64))).val M w894 (.slice a896 n896 c896) s893.1 f896) ?_ ?_
     ·replace hs := hm895
      rcases bif_some hs with ⟨hc899, hs⟩ | ⟨hc899, hs⟩
      ·skip
       refine c_condT (congrArg Value.bool hc899) ?_
       refine c_seq (c_region ?_)
       refine pl_val (.map (some b13)) (y_move rfl) ?_
       refine pl_val (.string r880) (y_move rfl) ?_
       have hO := hO.fr3
       obtain ⟨w900, hst900, hC900, hv900⟩ := mo_put (P := Try.prog) (t := 88) (key := r880) (x := true) Try.underlying88 Try.underlying9 hv852
       refine pl_skip (w' := w900) (ys_put rfl rfl rfl hst900) ?_
       have h0 := h0.mut hC900 (fun g hg => hO.inM g ((fun _ h => h) g hg)) (fun _ _ h => nomatch h)
       have hv850 := hv850.mut hC900 (fun g hg => hO.inM g ((fun _ h => h) g hg)) (fun g hg e => hO.apart g ((fun _ h => h) g hg) (mem_r (mem_r (mem_l (e)))))
       have hv873x0 := hv873x0.mut hC900 (fun g hg => hO.inM g ((fun _ h => h) g hg)) (fun g hg e => hO.apart g ((fun _ h => h) g hg) (mem_r (mem_l (e))))
       have hv876x0 := hv876x0.mut hC900 (fun g hg => hO.inM g ((fun _ h => h) g hg)) (fun g hg e => hO.apart g ((fun _ h => h) g hg) (mem_l (e)))
       have hC := hC.step hC900 (fun g hg => hO.inN g ((fun _ h => h) g hg))
       have hO := hO.ext hC900
       refine c_nil ?_
       refine c_region ?_
       refine pl_val (.slice a850 n850 c850) (y_move rfl) ?_
       refine pl_val (.slice a876x0 n876x0 c876x0) (y_move rfl) ?_
       obtain ⟨w901, g901, ew901, eg901, hC901, hb901⟩ := new_block w900 [(.slice a876x0 n876x0 c876x0)] 25
       refine pl_val (w' := w901) (.slice (some ⟨g901, 0, none⟩) 1 1) (y_bslice rfl (by rw [ew901, eg901]; kernel_rfl)) ?_
       have h0 := h0.ext hC901
       have hv900 := hv900.ext hC901
       have hv850 := hv850.ext hC901
       have hv873x0 := hv873x0.ext hC901
       have hv876x0 := hv876x0.ext hC901
       have hC := hC.ext hC901
       have hO := hO.fr1
       have hO := hO.new1 hC901 eg901 hb901.lt
       have hO := hO.perm (R := (g901 :: ((f876x0) ++ ([]))) ++ (f852 ++ (f873x0 ++ (f850 ++ ([]))))) (by simp)
       have hnd901 := hO.nd
       have hv901 := os_of_box (r := (RT.os 3 (RT.int .i64))) (M := M) (css := [[(.slice a876x0 n876x0 c876x0)]]) (fps := [(f876x0 : List Nat)]) (xs := ([r877] : List (List Int))) hb901 ⟨(os_unval hv876x0), trivial⟩ (Nat.le_of_ble_eq_true rfl) hnd901
       have hv901 : (RT.os 25 (RT.os 3 (RT.int .i64))).val M w901 (.slice (some ⟨g901, 0, none⟩) 1 1) [r877] (g901 :: ((f876x0) ++ ([]))) := hv901
       obtain ⟨y904, hy904, hs⟩ := bind_some hs
       have hO := hO.fr3
       obtain ⟨a903, n903, c903, w903, f903, hr903, hC903, hf903, hv903⟩ := app_os Rw49 hy904 hv850 hv901 hO.inM (fun g hg hq => hO.apart g hq (mem_l hg))
       have hG903 := os_block hv850
       refine pl_val (w' := w903) (.slice a903 n903 c903) (y_append rfl rfl (hr903 _)) ?_
       have hO := hO.fr1
       have hO := hO.fr1
       have h0 := h0.mut hC903 (fun g hg => hO.inM g (hG903 g hg)) (fun _ _ h => nomatch h)
       have hv900 := hv900.mut hC903 (fun g hg => hO.inM g (hG903 g hg)) (fun g hg e => hO.apart g (hG903 g hg) (mem_r (mem_l (e))))
       have hv873x0 := hv873x0.mut hC903 (fun g hg => hO.inM g (hG903 g hg)) (fun g hg e => hO.apart g (hG903 g hg) (mem_r (mem_r (mem_l (e)))))
       have hC := hC.step hC903 (fun g hg => hO.inN g (hG903 g hg))
       have hO := hO.eat hC903 hf903 (os_nodup hv903) hv903.fpl
       refine pl_val (.slice a903 n903 c903) (y_assign rfl) ?_
       refine c_nil ?_
       cases hs
       have hO := hO.fr2
       have hO := hO.drop
       have hO := hO.fr1
       have hO := hO.fr1
       exact ⟨_, a903, n903, c903, f903, f852, fr_ovl 120 ⟨rfl, rfl, rfl, rfl, rfl, rfl, trivial⟩, hC, hO, h0, hv900, hv903⟩
      ·skip
       refine c_condF (congrArg Value.bool hc899) ?_
       refine wp_skip ?_
       cases hs
       have hO := hO.drop
       have hO := hO.drop
       have hO := hO.fr1
       have hO := hO.fr1
       exact ⟨_, a850, n850, c850, f850, f852, fr_ovl 120 ⟨rfl, rfl, rfl, rfl, rfl, rfl, trivial⟩, hC, hO, h0, hv852, hv850⟩
     ·rintro a1 w894 ⟨σ, a896, n896, c896, f896, f898, rfl, hC, hO, h0, hv898, hv896⟩
      refine c_seq (c_region ?_)
      refine pl_val (.slice a896 n896 c896) (y_move rfl) ?_
      refine pl_val (.int .i64 (s893.1.length : Int)) (y_len' Sl49 (os_len hv896) rfl) ?_
      refine pl_val (.bool (decide (200 < (s893.1.length : Int)))) (y_gtr rfl rfl) ?_
      refine c_nil ?_
      rcases bif_some hs with ⟨hc906, hs⟩ | ⟨hc906, hs⟩
      ·skip
       refine c_condT (congrArg Value.bool hc906) ?_
       refine c_seq (c_region ?_)
       refine pl_val (.slice none 0 0) (y_assign rfl) ?_
       refine pl_val (.bool false) (y_assign rfl) ?_
       refine c_nil ?_
       refine wp_ret ?_
       cases hs
       have hO := hO.drop
       have hO := hO.drop
       have hO := hO.nil
       exact ⟨_, none, 0, 0, [], fr_ovl 120 ⟨rfl, rfl, trivial⟩, hC, os_nil, hO.top⟩
      ·skip
       refine c_condF (congrArg Value.bool hc906) ?_
       refine wp_skip ?_
       refine c_region ?_
       refine pl_val (.int .i64 k846) (y_move rfl) ?_
       refine pl_val (.int .i64 (w64 (k846 + 1))) (y_add rfl rfl) ?_
       refine pl_val (.int .i64 (w64 (k846 + 1))) (y_assign rfl) ?_
       refine c_nil ?_
       cases hs
       have hO := hO.fr1
       have hO := hO.fr1
       exact ⟨_, a896, n896, c896, f896, f898, fr_ovl 120 ⟨rfl, rfl, rfl, rfl, rfl, congrArg (Value.int .i64) hw, trivial⟩, hC, hO, h0, hv898, hv896⟩
   ·skip
    have hO := hO.fr1
    have hO := hO.fr1
    exact ⟨_, a730, n730, c730, f730, f732, fr_ovl 120 ⟨rfl, rfl, rfl, rfl, rfl, rfl, trivial⟩, hC, hO, h0, hv732, hv730⟩
   ·cases o848 with
    | nx _ => exact True.intro
    | rt r_ =>
     have hs := after_rt hs
     intro a1 w1 hK
     cases hs
     exact hK
    | br s844 =>
     have hs := after_br hs
     rintro a1 w845 ⟨σ, a853, n853, c853, f853, f855, rfl, hC, hO, h0, hv855, hv853⟩
     refine c_region ?_
     refine pl_val (.int .i64 s724.2.1) (y_move rfl) ?_
     refine pl_val (.int .i64 (w64 (s724.2.1 + 1))) (y_add rfl rfl) ?_
     refine pl_val (.int .i64 (w64 (s724.2.1 + 1))) (y_assign rfl) ?_
     refine c_nil ?_
     cases hs
     have hO := hO.fr1
     have hO := hO.fr1
     exact ⟨_, a853, n853, c853, f853, f855, fr_ovl 120 ⟨rfl, rfl, rfl, rfl, rfl, trivial⟩, hC, hO, h0, hv855, hv853⟩
  ·skip
   refine c_condF (congrArg Value.bool hc736) ?_
   refine wp_exit ?_
   cases hs
   have hO := hO.fr1
   have hO := hO.fr1
   exact ⟨rfl, _, a730, n730, c730, f730, f732, fr_ovl 120 ⟨rfl, rfl, trivial⟩, hC, hO, h0, hv732, hv730⟩
 ·skip
  have hO := hO.fr1
  exact ⟨_, (some ⟨g11, 0, none⟩), 1, 1, (g11 :: ((f8x0) ++ ([]))), [b13], fr_ovl 120 ⟨rfl, rfl, rfl, rfl, rfl, trivial⟩, hC, hO, h0, hv21, hv11⟩
 ·cases o728 with
  | nx _ => exact True.intro
  | rt r_ =>
   have hs := after_rt hs
   intro a1 w1 hK
   cases hs
   exact hK
  | br s724 =>
   have hs := after_br hs
   rintro a1 w725 ⟨σ, a733, n733, c733, f733, f735, rfl, hC, hO, h0, hv735, hv733⟩
   refine c_seq (c_region ?_)
   refine pl_val (.slice a733 n733 c733) (y_move rfl) ?_
   have hL907 := hO
   have hI907 := Own.lend (F := (f733 ++ ([]))) (R := f735 ++ ([])) (Own.perm (hL907) (by simp))
   obtain ⟨r908, hr908, hs⟩ := bind_some hs
   refine pl_call Bd77 rfl (c_impl_sortRows__impl_compareTerms (M := M) s724.1 hv733 hI907 hI907.fut hr908) ?_
   rintro _ w907 ⟨fi907x0, rfl, hC907, hvi907x0, hOc907⟩
   have hO := hO.perm (R := (f733 ++ ([])) ++ (f735 ++ ([]))) (by simp)
   have h0 := h0.mut hC907 (fun g hg => hO.inM g ((fun _ h => h) g hg)) (fun _ _ h => nomatch h)
   have hv735 := hv735.mut hC907 (fun g hg => hO.inM g ((fun _ h => h) g hg)) (fun g hg e => hO.apart g ((fun _ h => h) g hg) (mem_l (e)))
   have hC := hC.step hC907 (fun g hg => hO.inN g ((fun _ h => h) g hg))
   have hO := Own.join hO hC907 hOc907
   have hO := hO.perm (R := fi907x0 ++ (f735 ++ ([]))) (by simp)
   refine c_nil ?_
   refine c_seq (c_region ?_)
   obtain ⟨w909, g909, ew909, eg909, hC909, hb909⟩ := new_block w907 [] 51
   refine pl_val (w' := w909) (.slice (some ⟨g909, 0, none⟩) 0 0) (y_bslice rfl (by rw [ew909, eg909]; kernel_rfl)) ?_
   have hv735 := hv735.ext hC909
   have hvi907x0 := hvi907x0.ext hC909
   have hC := hC.ext hC909
   have hO := hO.new1 hC909 eg909 hb909.lt
   have hv909 := os_of_box (r := (RT.pr (RT.int .i64) (RT.os 25 (RT.os 3 (RT.int .i64))))) (M := M) (css := []) (fps := []) (xs := ([] : List (Int × (List (List Int))))) hb909 trivial (Nat.zero_le _) (List.nodup_cons.2 ⟨(fun h => nomatch h), List.nodup_nil⟩)
   have hv909 : (RT.os 51 (RT.pr (RT.int .i64) (RT.os 25 (RT.os 3 (RT.int .i64))))).val M w909 (.slice (some ⟨g909, 0, none⟩) 0 0) [] [g909] := hv909
   refine pl_val (.slice (some ⟨g909, 0, none⟩) 0 0) (y_assign rfl) ?_
   refine c_nil ?_
   refine c_seq ?_
   refine c_seq (c_region ?_)
   refine pl_val (.slice a733 n733 c733) (y_move rfl) ?_
   refine pl_val (.int .i64 (r908.length : Int)) (y_len' Sl49 (os_len hvi907x0) rfl) ?_
   refine pl_val (.int .i64 0) (y_move rfl) ?_
   refine c_nil ?_
   have hO := hO.fr2
   have hO := hO.drop
   obtain ⟨o977, hl978, hs⟩ := bind_some hs
   refine wp_block ?_
   refine wp_forR (id := 4) (I := fun i_ xs_ s973 a w974 => ∃ k975 : Nat, i_ = (k975 : Int) ∧ List.drop k975 r908 = xs_ ∧ (∃ (σ : Nat → Value) (a979 : Option Addr) (n979 : Nat) (c979 : Nat) (f979 : List Nat), a = fr 120 (ovl σ [(0, (.int .i64 n)), (13, (.slice a979 n979 c979)), (88, (.slice a733 n733 c733)), (89, (.int .i64 (r908.length : Int))), (90, (.int .i64 (k975 : Int)))]) ∧ Chg [] w w974 ∧ Own (Nw w []) M w974 (f979 ++ (fi907x0 ++ [])) ∧ (RT.os 25 (RT.os 3 (RT.int .i64))).val M w974 (.slice a733 n733 c733) r908 fi907x0 ∧ (RT.os 51 (RT.pr (RT.int .i64) (RT.os 25 (RT.os 3 (RT.int .i64))))).val M w974 (.slice a979 n979 c979) s973 f979)) (J := fun s973 a w974 => ∃ (σ : Nat → Value) (a981 : Option Addr) (n981 : Nat) (c981 : Nat) (f981 : List Nat), a = fr 120 (ovl σ [(13, (.slice a981 n981 c981))]) ∧ Chg [] w w974 ∧ Own (Nw w []) M w974 (f981 ++ (fi907x0 ++ [])) ∧ (RT.os 25 (RT.os 3 (RT.int .i64))).val M w974 (.slice a733 n733 c733) r908 fi907x0 ∧ (RT.os 51 (RT.pr (RT.int .i64) (RT.os 25 (RT.os 3 (RT.int .i64))))).val M w974 (.slice a981 n981 c981) s973 f981) (K := (k_impl_pairRelations M w)) ?_ ?_ r908 0 ([]) o977 _ _ ?_ hl978 ?_
   ·rintro _ s973 a w974 ⟨k975, rfl, hd, σ, a979, n979, c979, f979, rfl, hC, hO, hvi907x0, hv979⟩
    have hlt := drop_nil_ge hd
    refine c_seq (c_region ?_)
    refine pl_val (.bool (decide ((k975 : Int) < (r908.length : Int)))) (y_lss rfl rfl) ?_
    refine c_nil ?_
    refine c_seq ?_
    refine c_condF (congrArg Value.bool (decide_eq_false hlt)) ?_
    refine wp_exit ?_
    have hO := hO.fr1
    have hO := hO.fr1
    exact ⟨rfl, _, a979, n979, c979, f979, fr_ovl 120 ⟨rfl, trivial⟩, hC, hO, hvi907x0, hv979⟩
   ·rintro _ x976 xs_ s973 o977 a w974 ⟨k975, rfl, hd, σ, a979, n979, c979, f979, rfl, hC, hO, hvi907x0, hv979⟩ hs
    have hlt := drop_cons_lt hd
    have hxk975 := drop_cons_idx hd
    refine c_seq (c_region ?_)
    refine pl_val (.bool (decide ((k975 : Int) < (r908.length : Int)))) (y_lss rfl rfl) ?_
    refine c_nil ?_
    refine c_seq ?_
    refine c_condT (congrArg Value.bool (decide_eq_true hlt)) ?_
    refine wp_skip ?_
    refine c_seq ?_
    refine wp_block ?_
    refine c_seq (c_region ?_)
    obtain ⟨g983, f983, hg983, hk983, hp983, ha983, hf983⟩ := os_idx Sl49 Sz25 hvi907x0 hxk975
    have hb983 := own_row (Frz.os Frz.int) ha983 hf983
    refine pl_val (.pointer (some ⟨g983, 0 + Int.toNat (k975 : Int) * 1, none⟩)) (hp983 _ _ _ _ _ _ _ _ _ rfl rfl) ?_
    obtain ⟨v984, hl984, hrow984, hv984⟩ := at_load1 Ag25 Sz25 rfl rfl hb983
    obtain ⟨a984, n984, c984, rfl⟩ := rs_sl hv984
    refine pl_val (.slice a984 n984 c984) (y_load rfl (hl984 _ (Chg.refl _ _))) ?_
    refine pl_val (.slice a984 n984 c984) (y_assign rfl) ?_
    refine c_nil ?_
    refine c_seq (c_region ?_)
    refine pl_val (.agg #[(.int .i64 2), (.slice none 0 0)]) (y_build rfl (by kernel_rfl)) ?_
    obtain ⟨w986, g986, ew986, eg986, hC986, hb986⟩ := new_block w974 [(.int .i64 0), (.slice none 0 0)] 51
    refine pl_val (w' := w986) (.pointer (some ⟨g986, 0, none⟩)) (y_alloc (by rw [ew986, eg986]; kernel_rfl)) ?_
    have hvi907x0 := hvi907x0.ext hC986
    have hv979 := hv979.ext hC986
    have hv984 := hv984.ext hC986
    have hrow984 := hrow984.chg hC986 (fun h => nomatch h)
    have hC := hC.ext hC986
    have hO := hO.new1 hC986 eg986 hb986.lt
    obtain ⟨w987, hst987, hC987, hb987⟩ := box_store (P := Try.prog) hb986 [] [(.int .i64 0), (.slice none 0 0)] [] [(.int .i64 2), (.slice none 0 0)] rfl rfl (by intro u hu; simp only [List.mem_cons, List.not_mem_nil, or_false] at hu; rcases hu with rfl | rfl <;> rfl)
    refine pl_skip (w' := w987) (ys_store rfl rfl (hst987 _ _ rfl Sz51)) ?_
    have hvi907x0 := hvi907x0.mut hC987 (fun g hg => hO.inM g ((fun _ h => h) g hg)) (fun g hg e => hO.apart g ((fun _ h => h) g hg) (mem_r (mem_l (e))))
    have hv979 := hv979.mut hC987 (fun g hg => hO.inM g ((fun _ h => h) g hg)) (fun g hg e => hO.apart g ((fun _ h => h) g hg) (mem_l (e)))
    have hv984 := hv984.mut hC987 (fun g hg => ⟨hO.inM g ((fun _ h => h) g hg), fun e => hO.apart g ((fun _ h => h) g hg) (mem_r (mem_l (e)))⟩) (fun _ _ h => nomatch h)
    have hC := hC.step hC987 (fun g hg => hO.inN g ((fun _ h => h) g hg))
    have hO := hO.ext hC987
    have hb987 : BoxV w987 g986 51 [(.int .i64 2), (.slice none 0 0)] := hb987
    refine c_nil ?_
    refine c_seq ?_
    refine c_seq (c_region ?_)
    refine pl_val (.slice a984 n984 c984) (y_move rfl) ?_
    refine pl_val (.int .i64 (x976.length : Int)) (y_len' Sl25 (rs_len hv984) rfl) ?_
    refine pl_val (.int .i64 0) (y_move rfl) ?_
    refine c_nil ?_
    obtain ⟨o1020, hl1021, hs⟩ := bind_some hs
    refine wp_block ?_
    refine wp_forR (id := 6) (I := fun i_ xs_ s1016 a w1017 => ∃ k1018 : Nat, i_ = (k1018 : Int) ∧ List.drop k1018 x976 = xs_ ∧ (∃ (σ : Nat → Value) (a1022 : Option Addr) (n1022 : Nat) (c1022 : Nat) (f1022 : List Nat), a = fr 120 (ovl σ [(0, (.int .i64 n)), (13, (.slice a979 n979 c979)), (16, (.pointer (some ⟨g986, 0, none⟩))), (88, (.slice a733 n733 c733)), (89, (.int .i64 (r908.length : Int))), (90, (.int .i64 (k975 : Int))), (95, (.slice a984 n984 c984)), (96, (.int .i64 (x976.length : Int))), (97, (.int .i64 (k1018 : Int)))]) ∧ Chg [] w w1017 ∧ Own (Nw w []) M w1017 (f1022 ++ (([g986]) ++ (f979 ++ (fi907x0 ++ [])))) ∧ (RT.os 25 (RT.os 3 (RT.int .i64))).val M w1017 (.slice a733 n733 c733) r908 fi907x0 ∧ (RT.os 51 (RT.pr (RT.int .i64) (RT.os 25 (RT.os 3 (RT.int .i64))))).val M w1017 (.slice a979 n979 c979) s973 f979 ∧ (RT.rs (RT.int .i64)).val (Less M fi907x0) w1017 (.slice a984 n984 c984) x976 ([]) ∧ BoxV w1017 g986 51 [(.int .i64 2), (.slice a1022 n1022 c1022)] ∧ (RT.os 25 (RT.os 3 (RT.int .i64))).val M w1017 (.slice a1022 n1022 c1022) s1016 f1022)) (J := fun s1016 a w1017 => ∃ (σ : Nat → Value) (a1024 : Option Addr) (n1024 : Nat) (c1024 : Nat) (f1024 : List Nat), a = fr 120 (ovl σ [(0, (.int .i64 n)), (13, (.slice a979 n979 c979)), (16, (.pointer (some ⟨g986, 0, none⟩))), (88, (.slice a733 n733 c733)), (89, (.int .i64 (r908.length : Int))), (90, (.int .i64 (k975 : Int)))]) ∧ Chg [] w w1017 ∧ Own (Nw w []) M w1017 (f1024 ++ (([g986]) ++ (f979 ++ (fi907x0 ++ [])))) ∧ (RT.os 25 (RT.os 3 (RT.int .i64))).val M w1017 (.slice a733 n733 c733) r908 fi907x0 ∧ (RT.os 51 (RT.pr (RT.int .i64) (RT.os 25 (RT.os 3 (RT.int .i64))))).val M w1017 (.slice a979 n979 c979) s973 f979 ∧ (RT.rs (RT.int .i64)).val (Less M fi907x0) w1017 (.slice a984 n984 c984) x976 ([]) ∧ BoxV w1017 g986 51 [(.int .i64 2), (.slice a1024 n1024 c1024)] ∧ (RT.os 25 (RT.os 3 (RT.int .i64))).val M w1017 (.slice a1024 n1024 c1024) s1016 f1024) (K := (k_impl_pairRelations M w)) ?_ ?_ x976 0 ([]) o1020 _ _ ?_ hl1021 ?_
    ·rintro _ s1016 a w1017 ⟨k1018, rfl, hd, σ, a1022, n1022, c1022, f1022, rfl, hC, hO, hvi907x0, hv979, hv984, hb987, hv1022⟩
     have hlt := drop_nil_ge hd
     refine c_seq (c_region ?_)
     refine pl_val (.bool (decide ((k1018 : Int) < (x976.length : Int)))) (y_lss rfl rfl) ?_
     refine c_nil ?_
     refine c_seq ?_
     refine c_condF (congrArg Value.bool (decide_eq_false hlt)) ?_
     refine wp_exit ?_
     have hO := hO.fr3
     have hO := hO.fr3
     have hO := hO.fr3
     have hO := hO.fr3
     exact ⟨rfl, _, a1022, n1022, c1022, f1022, fr_ovl 120 ⟨rfl, rfl, rfl, rfl, rfl, rfl, trivial⟩, hC, hO, hvi907x0, hv979, hv984, hb987, hv1022⟩
    ·rintro _ x1019 xs_ s1016 o1020 a w1017 ⟨k1018, rfl, hd, σ, a1022, n1022, c1022, f1022, rfl, hC, hO, hvi907x0, hv979, hv984, hb987, hv1022⟩ hs
     have hlt := drop_cons_lt hd
     have hxk1018 := drop_cons_idx hd
     refine c_seq (c_region ?_)
     refine pl_val (.bool (decide ((k1018 : Int) < (x976.length : Int)))) (y_lss rfl rfl) ?_
     refine c_nil ?_
     refine c_seq ?_
     refine c_condT (congrArg Value.bool (decide_eq_true hlt)) ?_
     refine wp_skip ?_
     refine c_seq ?_
     refine wp_block ?_
     refine c_seq (c_region ?_)
     obtain ⟨b1026, o1026, hp1026, ha1026⟩ := rs_idx Sl25 Sz3 hv984 hxk1018
     refine pl_val (.pointer (some ⟨b1026, o1026, none⟩)) (hp1026 _ _ _ _ _ _ _ _ _ rfl rfl) ?_
     refine pl_val (.int .i64 x1019) (y_load rfl ((at_load_int Ag3 Sz3 ha1026) _ (Chg.refl _ _))) ?_
     refine pl_val (.int .i64 x1019) (y_assign rfl) ?_
     refine c_nil ?_
     refine x_start [10, 12] Mx rfl ?_
     have hCw1027 := Chg.drew w1017
     generalize World.drew w1017 = w1027 at hCw1027 ⊢
     have hvi907x0 := hvi907x0.ext hCw1027
     have hv979 := hv979.ext hCw1027
     have hv984 := hv984.ext hCw1027
     have hb987 := hb987.chg hCw1027 (fun h => nomatch h)
     have hv1022 := hv1022.ext hCw1027
     have hC := hC.ext hCw1027
     have hO := hO.ext hCw1027
     have hS := Chg.refl [] w1027
     refine x_p 0 (.pointer (some ⟨g986, 1, none⟩)) rfl (by kernel_rfl)  (fun _ => y_faddr rfl Fa51x1) (fun _ => hS) ?_
     refine x_l 1 (.slice a1022 n1022 c1022) rfl (by kernel_rfl)  (fun w' hw' => y_load rfl ((box_load Ag49 Sz49 hb987 [(.int .i64 2)] [(.slice a1022 n1022 c1022)] [] rfl rfl (fun _ => rfl)) w' hw')) hS ?_
     refine x_p 2 (.int .i64 x1019) rfl (by kernel_rfl)  (fun _ => y_move rfl) (fun _ => hS) ?_
     refine x_p 3 (.int .i64 n) rfl (by kernel_rfl)  (fun _ => y_move rfl) (fun _ => hS) ?_
     obtain ⟨u1028, hu1028, hs⟩ := bind_some hs
     refine x_p 4 (.int .i64 (w64 (Int.tdiv x1019 n))) rfl (by kernel_rfl)  (fun _ => y_quo rfl rfl (nz_ne hu1028)) (fun _ => hS) ?_
     refine x_p 5 (.int .i64 x1019) rfl (by kernel_rfl)  (fun _ => y_move rfl) (fun _ => hS) ?_
     refine x_p 6 (.int .i64 n) rfl (by kernel_rfl)  (fun _ => y_move rfl) (fun _ => hS) ?_
     obtain ⟨u1029, hu1029, hs⟩ := bind_some hs
     refine x_p 7 (.int .i64 (Int.tmod x1019 n)) rfl (by kernel_rfl)  (fun _ => y_rem rfl rfl (nz_ne hu1029)) (fun _ => hS) ?_
     refine x_one (i := 8) (by kernel_rfl) ?_
     obtain ⟨w1030, g1030, ew1030, eg1030, hC1030, hb1030⟩ := new_block w1027 [(.int .i64 (w64 (Int.tdiv x1019 n))), (.int .i64 (Int.tmod x1019 n))] 3
     refine xk_val (w' := w1030) (b := false) (.slice (some ⟨g1030, 0, none⟩) 2 2) rfl  (y_bslice rfl (by rw [ew1030, eg1030]; kernel_rfl)) rfl (fun _ => hS.ext hC1030) ?_
     have hvi907x0 := hvi907x0.ext hC1030
     have hv979 := hv979.ext hC1030
     have hv984 := hv984.ext hC1030
     have hb987 := hb987.chg hC1030 (fun h => nomatch h)
     have hv1022 := hv1022.ext hC1030
     have hC := hC.ext hC1030
     have hO := hO.new1 hC1030 eg1030 hb1030.lt
     have hv1030 := os_of_box (r := (RT.int .i64)) (M := M) (css := [[(.int .i64 (w64 (Int.tdiv x1019 n)))], [(.int .i64 (Int.tmod x1019 n))]]) (fps := [([] : List Nat), ([] : List Nat)]) (xs := ([w64 (Int.tdiv x1019 n), Int.tmod x1019 n] : List Int)) hb1030 ⟨⟨rfl, rfl⟩, ⟨⟨rfl, rfl⟩, trivial⟩⟩ (Nat.le_of_ble_eq_true rfl) (List.nodup_cons.2 ⟨(fun h => nomatch h), List.nodup_nil⟩)
     have hv1030 : (RT.os 3 (RT.int .i64)).val M w1030 (.slice (some ⟨g1030, 0, none⟩) 2 2) [w64 (Int.tdiv x1019 n), Int.tmod x1019 n] [g1030] := hv1030
     have hS := hS.ext hC1030
     refine x_one (i := 9) (by kernel_rfl) ?_
     obtain ⟨w1032, g1032, ew1032, eg1032, hC1032, hb1032⟩ := new_block w1030 [(.slice (some ⟨g1030, 0, none⟩) 2 2)] 25
     refine xk_val (w' := w1032) (b := false) (.slice (some ⟨g1032, 0, none⟩) 1 1) rfl  (y_bslice rfl (by rw [ew1032, eg1032]; kernel_rfl)) rfl (fun _ => hS.ext hC1032) ?_
     have hvi907x0 := hvi907x0.ext hC1032
     have hv979 := hv979.ext hC1032
     have hv984 := hv984.ext hC1032
     have hb987 := hb987.chg hC1032 (fun h => nomatch h)
     have hv1022 := hv1022.ext hC1032
     have hv1030 := hv1030.ext hC1032
     have hC := hC.ext hC1032
     have hO := hO.new1 hC1032 eg1032 hb1032.lt
     have hO := hO.perm (R := (g1032 :: ((([g1030])) ++ ([]))) ++ (f1022 ++ (([g986]) ++ (f979 ++ (fi907x0 ++ ([])))))) (by simp)
     have hnd1032 := hO.nd
     have hv1032 := os_of_box (r := (RT.os 3 (RT.int .i64))) (M := M) (css := [[(.slice (some ⟨g1030, 0, none⟩) 2 2)]]) (fps := [([g1030] : List Nat)]) (xs := ([[w64 (Int.tdiv x1019 n), Int.tmod x1019 n]] : List (List Int))) hb1032 ⟨(os_unval hv1030), trivial⟩ (Nat.le_of_ble_eq_true rfl) hnd1032
     have hv1032 : (RT.os 25 (RT.os 3 (RT.int .i64))).val M w1032 (.slice (some ⟨g1032, 0, none⟩) 1 1) [[w64 (Int.tdiv x1019 n), Int.tmod x1019 n]] (g1032 :: ((([g1030])) ++ ([]))) := hv1032
     have hS := hS.ext hC1032
     refine x_one (i := 10) (by kernel_rfl) ?_
     obtain ⟨y1035, hy1035, hs⟩ := bind_some hs
     have hO := hO.fr1
     obtain ⟨a1034, n1034, c1034, w1034, f1034, hr1034, hC1034, hf1034, hv1034⟩ := app_os Rw49 hy1035 hv1022 hv1032 hO.inM (fun g hg hq => hO.apart g hq (mem_l hg))
     have hG1034 := os_block hv1022
     refine xk_val (w' := w1034) (b := true) (.slice a1034 n1034 c1034) rfl  (y_append rfl rfl (hr1034 _)) rfl (fun h => nomatch h) ?_
     have hO := hO.fr1
     have hO := hO.fr1
     have hvi907x0 := hvi907x0.mut hC1034 (fun g hg => hO.inM g (hG1034 g hg)) (fun g hg e => hO.apart g (hG1034 g hg) (mem_r (mem_r (mem_r (mem_l (e))))))
     have hv979 := hv979.mut hC1034 (fun g hg => hO.inM g (hG1034 g hg)) (fun g hg e => hO.apart g (hG1034 g hg) (mem_r (mem_r (mem_l (e)))))
     have hv984 := hv984.mut hC1034 (fun g hg => ⟨hO.inM g (hG1034 g hg), fun e => hO.apart g (hG1034 g hg) (mem_r (mem_r (mem_r (mem_l (e)))))⟩) (fun _ _ h => nomatch h)
     have hb987 := hb987.chg hC1034 (fun hg => hO.apart _ (hG1034 _ hg) (mem_r (mem_l (List.mem_singleton.2 rfl))))
     have hC := hC.step hC1034 (fun g hg => hO.inN g (hG1034 g hg))
     have hO := hO.eat hC1034 hf1034 (os_nodup hv1034) hv1034.fpl
     refine x_p 11 (.pointer (some ⟨g986, 1, none⟩)) rfl (by kernel_rfl)  (fun _ => y_faddr rfl Fa51x1) (fun h => nomatch h) ?_
     refine x_one (i := 12) (by kernel_rfl) ?_
     obtain ⟨w1037, hst1037, hC1037, hb1037⟩ := box_store (P := Try.prog) hb987 [(.int .i64 2)] [(.slice a1022 n1022 c1022)] [] [(.slice a1034 n1034 c1034)] rfl rfl (by intro u hu; simp only [List.mem_cons, List.not_mem_nil, or_false] at hu; rcases hu with rfl <;> rfl)
     refine xk_skip (w' := w1037) (b := true) rfl (ys_store rfl rfl (hst1037 _ _ rfl Sz49)) rfl (fun h => nomatch h) ?_
     have hO := hO.fr1
     have hvi907x0 := hvi907x0.mut hC1037 (fun g hg => hO.inM g ((fun _ h => h) g hg)) (fun g hg e => hO.apart g ((fun _ h => h) g hg) (mem_r (mem_r (mem_l (e)))))
     have hv979 := hv979.mut hC1037 (fun g hg => hO.inM g ((fun _ h => h) g hg)) (fun g hg e => hO.apart g ((fun _ h => h) g hg) (mem_r (mem_l (e))))
     have hv984 := hv984.mut hC1037 (fun g hg => ⟨hO.inM g ((fun _ h => h) g hg), fun e => hO.apart g ((fun _ h => h) g hg) (mem_r (mem_r (mem_l (e))))⟩) (fun _ _ h => nomatch h)
     have hv1034 := hv1034.mut hC1037 (fun g hg => hO.inM g ((fun _ h => h) g hg)) (fun g hg e => hO.apart g ((fun _ h => h) g hg) (mem_l (e)))
     have hC := hC.step hC1037 (fun g hg => hO.inN g ((fun _ h => h) g hg))
     have hO := hO.ext hC1037
     have hb1037 : BoxV w1037 g986 51 [(.int .i64 2), (.slice a1034 n1034 c1034)] := hb1037
     refine x_end (by kernel_rfl) ?_
     clear hS
     refine c_region ?_
     refine pl_val (.int .i64 (w64 ((k1018 : Int) + 1))) (y_add rfl rfl) ?_
     refine pl_val (.int .i64 (w64 ((k1018 : Int) + 1))) (y_move rfl) ?_
     refine c_nil ?_
     cases hs
     have hO := hO.fr3
     have hO := hO.fr3
     have hO := hO.fr2
     have hO := hO.fr3
     exact ⟨_, rfl, drop_cons_next hd, _, a1034, n1034, c1034, f1034, fr_ovl 120 ⟨rfl, rfl, rfl, rfl, rfl, rfl, rfl, rfl, congrArg (Value.int .i64) (w64_succ hlt (Int.natCast_nonneg _) (rs_max hv984)), trivial⟩, hC, hO, hvi907x0, hv979, hv984, hb1037, hv1034⟩
    ·skip
     have hO := hO.fr2
     have hO := hO.fr2
     have hO := hO.fr2
     have hO := hO.nil
     exact ⟨0, rfl, rfl, _, none, 0, 0, [], fr_ovl 120 ⟨rfl, rfl, rfl, rfl, rfl, rfl, rfl, rfl, rfl, trivial⟩, hC, hO, hvi907x0, hv979, hv984, hb987, os_nil⟩
    ·cases o1020 with
     | nx _ => exact True.intro
     | rt r_ =>
      have hs := after_rt hs
      intro a1 w1 hK
      cases hs
      exact hK
     | br s1016 =>
      have hs := after_br hs
      rintro a1 w1017 ⟨σ, a1024, n1024, c1024, f1024, rfl, hC, hO, hvi907x0, hv979, hv984, hb987, hv1024⟩
      refine c_region ?_
      refine pl_val (.slice a979 n979 c979) (y_move rfl) ?_
      refine pl_val (.agg #[(.int .i64 2), (.slice a1024 n1024 c1024)]) (y_load rfl ((box_load Ag51 Sz51 hb987 [] [(.int .i64 2), (.slice a1024 n1024 c1024)] [] rfl rfl (fun h => nomatch h)) _ (Chg.refl _ _))) ?_
      obtain ⟨w1038, g1038, ew1038, eg1038, hC1038, hb1038⟩ := new_block w1017 [(.int .i64 2), (.slice a1024 n1024 c1024)] 51
      refine pl_val (w' := w1038) (.slice (some ⟨g1038, 0, none⟩) 1 1) (y_bslice rfl (by rw [ew1038, eg1038]; kernel_rfl)) ?_
      have hvi907x0 := hvi907x0.ext hC1038
      have hv979 := hv979.ext hC1038
      have hv984 := hv984.ext hC1038
      have hb987 := hb987.chg hC1038 (fun h => nomatch h)
      have hv1024 := hv1024.ext hC1038
      have hC := hC.ext hC1038
      have hO := hO.new1 hC1038 eg1038 hb1038.lt
      have hO := hO.perm (R := (g1038 :: ((f1024) ++ ([]))) ++ (([g986]) ++ (f979 ++ (fi907x0 ++ ([]))))) (by simp)
      have hnd1038 := hO.nd
      have hv1038 := os_of_box (r := (RT.pr (RT.int .i64) (RT.os 25 (RT.os 3 (RT.int .i64))))) (M := M) (css := [[(.int .i64 2), (.slice a1024 n1024 c1024)]]) (fps := [(f1024 : List Nat)]) (xs := ([(2, s1016)] : List (Int × (List (List Int))))) hb1038 ⟨⟨_, _, _, _, rfl, rfl, ⟨rfl, rfl⟩, (os_unval hv1024)⟩, trivial⟩ (Nat.le_of_ble_eq_true rfl) hnd1038
      have hv1038 : (RT.os 51 (RT.pr (RT.int .i64) (RT.os 25 (RT.os 3 (RT.int .i64))))).val M w1038 (.slice (some ⟨g1038, 0, none⟩) 1 1) [(2, s1016)] (g1038 :: ((f1024) ++ ([]))) := hv1038
      obtain ⟨y1041, hy1041, hs⟩ := bind_some hs
      have hO := hO.fr2
      obtain ⟨a1040, n1040, c1040, w1040, f1040, hr1040, hC1040, hf1040, hv1040⟩ := app_os Rw43 hy1041 hv979 hv1038 hO.inM (fun g hg hq => hO.apart g hq (mem_l hg))
      have hG1040 := os_block hv979
      refine pl_val (w' := w1040) (.slice a1040 n1040 c1040) (y_append rfl rfl (hr1040 _)) ?_
      have hO := hO.fr1
      have hO := hO.fr1
      have hvi907x0 := hvi907x0.mut hC1040 (fun g hg => hO.inM g (hG1040 g hg)) (fun g hg e => hO.apart g (hG1040 g hg) (mem_r (mem_r (mem_l (e)))))
      have hv984 := hv984.mut hC1040 (fun g hg => ⟨hO.inM g (hG1040 g hg), fun e => hO.apart g (hG1040 g hg) (mem_r (mem_r (mem_l (e))))⟩) (fun _ _ h => nomatch h)
      have hb987 := hb987.chg hC1040 (fun hg => hO.apart _ (hG1040 _ hg) (mem_r (mem_l (List.mem_singleton.2 rfl))))
      have hC := hC.step hC1040 (fun g hg => hO.inN g (hG1040 g hg))
      have hO := hO.eat hC1040 hf1040 (os_nodup hv1040) hv1040.fpl
      refine pl_val (.slice a1040 n1040 c1040) (y_assign rfl) ?_
      refine c_nil ?_
      refine c_region ?_
      refine pl_val (.int .i64 (w64 ((k975 : Int) + 1))) (y_add rfl rfl) ?_
      refine pl_val (.int .i64 (w64 ((k975 : Int) + 1))) (y_move rfl) ?_
      refine c_nil ?_
      cases hs
      have hO := hO.fr1
      have hO := hO.drop
      have hO := hO.fr1
      have hO := hO.fr1
      exact ⟨_, rfl, drop_cons_next hd, _, a1040, n1040, c1040, f1040, fr_ovl 120 ⟨rfl, rfl, rfl, rfl, congrArg (Value.int .i64) (w64_succ hlt (Int.natCast_nonneg _) (os_max hvi907x0)), trivial⟩, hC, hO, hvi907x0, hv1040⟩
   ·skip
    have hO := hO.fr1
    have hO := hO.fr1
    exact ⟨0, rfl, rfl, _, (some ⟨g909, 0, none⟩), 0, 0, ([g909]), fr_ovl 120 ⟨rfl, rfl, rfl, rfl, rfl, trivial⟩, hC, hO, hvi907x0, hv909⟩
   ·cases o977 with
    | nx _ => exact True.intro
    | rt r_ =>
     have hs := after_rt hs
     intro a1 w1 hK
     cases hs
     exact hK
    | br s973 =>
     have hs := after_br hs
     rintro a1 w974 ⟨σ, a981, n981, c981, f981, rfl, hC, hO, hvi907x0, hv981⟩
     refine c_seq (c_region ?_)
     refine pl_val (.slice a981 n981 c981) (y_move rfl) ?_
     refine pl_val (.slice a981 n981 c981) (y_assign rfl) ?_
     refine pl_val (.bool true) (y_assign rfl) ?_
     refine c_nil ?_
     refine wp_ret ?_
     cases hs
     have hO := hO.fr1
     have hO := hO.drop
     exact ⟨_, a981, n981, c981, f981, fr_ovl 120 ⟨rfl, rfl, trivial⟩, hC, hv981, hO.top⟩

theorem Bd59 : Bodied Try.prog 59 := bodied Try.func59 (by kernel_rfl) rfl

theorem Bd60 : Bodied Try.prog 60 := bodied Try.func60 (by kernel_rfl) rfl

def k_impl_allPairRelations (M : Nat → Prop) (w0 : World) (r : (List (Int × (List (List Int)))) × Bool) (a : Act) (w : World) : Prop :=
  ∃ (σ : Nat → Value) (ra0 : Option Addr) (rn0 rc0 : Nat) (rf0 : List Nat), a = fr 19 (ovl σ [(2, (.slice ra0 rn0 rc0)), (3, (.bool r.2))]) ∧ Chg [] w0 w ∧ (RT.os 51 (RT.pr (RT.int .i64) (RT.os 25 (RT.os 3 (RT.int .i64))))).val M w (.slice ra0 rn0 rc0) r.1 rf0 ∧ Own (Nw w0 []) (fun _ => True) w (rf0 ++ ([]))
def s_impl_allPairRelations (a_ : Int × (List (Int × (List Int)))) : Option ((List (Int × (List (List Int)))) × Bool) :=
  ((s_impl_IsAlgebra (a_.1, a_.2)).bind fun r7 =>
  (bif (!r7) then some true else some (decide (4 < a_.1)))).bind fun s3 =>
  (bif s3 then some ([], false) else (s_impl_pairRelations a_.1 a_.2).bind fun r11 =>
  some (r11.1, r11.2))
set_option maxHeartbeats 4000000 in
theorem c_impl_allPairRelations {M : Nat → Prop} {w : World} {pa0 : Option Addr} {pn0 pc0 : Nat} (a_ : Int × (List (Int × (List Int)))) (h0 : (RT.rs (RT.pr (RT.int .i64) (RT.rs (RT.int .i64)))).val M w (.slice pa0 pn0 pc0) a_.2 ([])) (hM : ∀ g, w.heap.size ≤ g → M g) {r : (List (Int × (List (List Int)))) × Bool} (hs : s_impl_allPairRelations a_ = some r) :
    Gives Try.prog 39 [(.agg #[(.int .i64 a_.1), (.slice pa0 pn0 pc0)])] w (fun v w' => ∃ (ra0 : Option Addr) (rn0 rc0 : Nat) (rf0 : List Nat), v = (.tuple #[(.slice ra0 rn0 rc0), (.bool r.2)]) ∧ Chg [] w w' ∧ (RT.os 51 (RT.pr (RT.int .i64) (RT.os 25 (RT.os 3 (RT.int .i64))))).val M w' (.slice ra0 rn0 rc0) r.1 rf0 ∧ Own (Nw w []) (fun _ => True) w' (rf0 ++ ([]))) := by
 refine calls_fr Try.func39 rfl Try.ntmps39 (Nat.le_of_ble_eq_true rfl) ?_
 have hO := Own.start (N := Nw w []) hM Nw.fut
 have hC := Chg.refl [] w
 unfold s_impl_allPairRelations at hs
 refine wp_mono (Q := KPost (k_impl_allPairRelations M w r)) ?_ (fun e a w1 h => ?_)
 rotate_left
 ·cases e
  case ret =>
   obtain ⟨σ, ra0, rn0, rc0, rf0, rfl, hrest⟩ := h
   exact ret2x Try.results39 (res_tmp rfl) (res_tmp rfl) ⟨ra0, rn0, rc0, rf0, rfl, hrest⟩
  all_goals exact (h : False).elim
 refine c_seq (c_region ?_)
 obtain ⟨w2, g2, ew2, eg2, hC2, hb2⟩ := new_block w [(.int .i64 a_.1), (.slice pa0 pn0 pc0)] 34
 refine pl_val (w' := w2) (.pointer (some ⟨g2, 0, none⟩)) (y_box rfl (by rw [ew2, eg2]; kernel_rfl)) ?_
 have h0 := h0.ext hC2
 have hC := hC.ext hC2
 have hO := hO.new1 hC2 eg2 hb2.lt
 refine pl_val (.slice none 0 0) (y_assign rfl) ?_
 refine pl_val (.bool false) (y_assign rfl) ?_
 refine c_nil ?_
 refine c_seq ?_
 refine c_seq ?_
 obtain ⟨s3, hm5, hs⟩ := bind_some hs
 refine c_mid (I := fun a w4 => ∃ (σ : Nat → Value), a = fr 19 (ovl σ [(1, (.pointer (some ⟨g2, 0, none⟩))), (2, (.slice none 0 0)), (3, (.bool false)), (11, (.bool s3))]) ∧ Chg [] w2 w4) ?_ ?_
 ·replace hs := hm5
  have hMid := Chg.refl [] w2
  refine c_region ?_
  refine pl_val (.agg #[(.int .i64 a_.1), (.slice pa0 pn0 pc0)]) (y_load rfl ((box_load Ag34 Sz34 hb2 [] [(.int .i64 a_.1), (.slice pa0 pn0 pc0)] [] rfl rfl (fun h => nomatch h)) _ (Chg.refl _ _))) ?_
  obtain ⟨r7, hr7, hs⟩ := bind_some hs
  refine pl_call Bd59 rfl (c_impl_IsAlgebra (M := M) (a_.1, a_.2) h0 hO.fut hr7) ?_
  rintro _ w6 ⟨rfl, hC6⟩
  have h0 := h0.ext hC6
  have hb2 := hb2.chg hC6 (fun h => nomatch h)
  have hMid := hMid.ext hC6
  have hC := hC.ext hC6
  have hO := hO.ext hC6
  refine pl_val (.bool (!r7)) (y_not rfl) ?_
  refine pl_val (.bool (!r7)) (y_move rfl) ?_
  rcases bif_some hs with ⟨hc8, hs⟩ | ⟨hc8, hs⟩
  ·skip
   refine pl_not (tg := 7) (by kernel_rfl) (congrArg Value.bool hc8) ?_
   refine pl_not (tg := 7) (by kernel_rfl) (congrArg Value.bool hc8) ?_
   refine pl_not (tg := 7) (by kernel_rfl) (congrArg Value.bool hc8) ?_
   refine pl_val (.bool true) (y_pick_t (congrArg Value.bool hc8) rfl) ?_
   refine c_nil ?_
   cases hs
   exact ⟨_, fr_ovl 19 ⟨rfl, rfl, rfl, rfl, trivial⟩, hMid⟩
  ·skip
   refine pl_yes (.pointer (some ⟨g2, 0, none⟩)) (tg := 7) (by kernel_rfl) (congrArg Value.bool hc8) (y_faddr rfl Fa34x0) ?_
   refine pl_yes (.int .i64 a_.1) (tg := 7) (by kernel_rfl) (congrArg Value.bool hc8) (y_load rfl ((box_load Ag3 Sz3 hb2 [] [(.int .i64 a_.1)] [(.slice pa0 pn0 pc0)] rfl rfl (fun _ => rfl)) _ (Chg.refl _ _))) ?_
   refine pl_yes (.bool (decide (4 < a_.1))) (tg := 7) (by kernel_rfl) (congrArg Value.bool hc8) (y_gtr rfl rfl) ?_
   refine pl_val (.bool (decide (4 < a_.1))) (y_pick_f (congrArg Value.bool hc8) rfl) ?_
   refine c_nil ?_
   cases hs
   exact ⟨_, fr_ovl 19 ⟨rfl, rfl, rfl, rfl, trivial⟩, hMid⟩
 ·rintro a1 w4 ⟨σ, rfl, hCs3⟩
  have h0 := h0.ext hCs3
  have hb2 := hb2.chg hCs3 (fun h => nomatch h)
  have hC := hC.ext hCs3
  have hO := hO.ext hCs3
  rcases bif_some hs with ⟨hc9, hs⟩ | ⟨hc9, hs⟩
  ·skip
   refine c_condT (congrArg Value.bool hc9) ?_
   refine c_seq (c_region ?_)
   refine pl_val (.slice none 0 0) (y_assign rfl) ?_
   refine pl_val (.bool false) (y_assign rfl) ?_
   refine c_nil ?_
   refine wp_ret ?_
   cases hs
   have hO := hO.drop
   have hO := hO.nil
   exact ⟨_, none, 0, 0, [], fr_ovl 19 ⟨rfl, rfl, trivial⟩, hC, os_nil, hO.top⟩
  ·skip
   refine c_condF (congrArg Value.bool hc9) ?_
   refine wp_skip ?_
   refine c_seq (c_region ?_)
   refine pl_val (.pointer (some ⟨g2, 0, none⟩)) (y_faddr rfl Fa34x0) ?_
   refine pl_val (.int .i64 a_.1) (y_load rfl ((box_load Ag3 Sz3 hb2 [] [(.int .i64 a_.1)] [(.slice pa0 pn0 pc0)] rfl rfl (fun _ => rfl)) _ (Chg.refl _ _))) ?_
   refine pl_val (.pointer (some ⟨g2, 1, none⟩)) (y_faddr rfl Fa34x1) ?_
   refine pl_val (.slice pa0 pn0 pc0) (y_load rfl ((box_load Ag32 Sz32 hb2 [(.int .i64 a_.1)] [(.slice pa0 pn0 pc0)] [] rfl rfl (fun _ => rfl)) _ (Chg.refl _ _))) ?_
   obtain ⟨r11, hr11, hs⟩ := bind_some hs
   refine pl_call Bd60 rfl (c_impl_pairRelations (M := M) a_.1 a_.2 h0 hO.fut hr11) ?_
   rintro _ w10 ⟨a10x0, n10x0, c10x0, f10x0, rfl, hC10, hv10x0, hOc10⟩
   have h0 := h0.ext hC10
   have hb2 := hb2.chg hC10 (fun h => nomatch h)
   have hC := hC.ext hC10
   have hO := Own.join0 hO hC10 hOc10
   have hO := hO.perm (R := f10x0 ++ (([g2]) ++ ([]))) (by simp)
   refine pl_val (.slice a10x0 n10x0 c10x0) (y_extract rfl (by kernel_rfl)) ?_
   refine pl_val (.bool r11.2) (y_extract rfl (by kernel_rfl)) ?_
   refine pl_val (.slice a10x0 n10x0 c10x0) (y_assign rfl) ?_
   refine pl_val (.bool r11.2) (y_assign rfl) ?_
   refine c_nil ?_
   refine wp_ret ?_
   cases hs
   have hO := hO.fr1
   have hO := hO.drop
   exact ⟨_, a10x0, n10x0, c10x0, f10x0, fr_ovl 19 ⟨rfl, rfl, trivial⟩, hC, hv10x0, hO.top⟩

def k_impl_tupleSet (M : Nat → Prop) (w0 : World) (r : (List (ByteArray × Bool))) (a : Act) (w : World) : Prop :=
  ∃ (σ : Nat → Value) (rn0 : Nat) (rf0 : List Nat), a = fr 19 (ovl σ [(2, (.map (some rn0)))]) ∧ Chg [] w0 w ∧ (RT.mo Value.bool).val M w (.map (some rn0)) r rf0 ∧ Own (Nw w0 []) (fun _ => True) w (rf0 ++ ([]))
def s_impl_tupleSet (r_ : Int × (List (List Int))) : Option ((List (ByteArray × Bool))) :=
  (forR (S := (List (ByteArray × Bool))) (R := (List (ByteArray × Bool))) (fun _ x21 s18 =>
  (s_impl_keyOf x21).bind fun r30 =>
  some (.nx (mput s18 r30 true))) 0 r_.2 ([])).bind fun o22 => after o22 (fun r_ => some r_) (fun s18 =>
  some s18)
set_option maxHeartbeats 4000000 in
theorem c_impl_tupleSet {M : Nat → Prop} {w : World} {pa0 : Option Addr} {pn0 pc0 : Nat} (r_ : Int × (List (List Int))) (h0 : (RT.rs (RT.rs (RT.int .i64))).val M w (.slice pa0 pn0 pc0) r_.2 ([])) (hM : ∀ g, w.heap.size ≤ g → M g) {r : (List (ByteArray × Bool))} (hs : s_impl_tupleSet r_ = some r) :
    Gives Try.prog 67 [(.agg #[(.int .i64 r_.1), (.slice pa0 pn0 pc0)])] w (fun v w' => ∃ (rn0 : Nat) (rf0 : List Nat), v = (.map (some rn0)) ∧ Chg [] w w' ∧ (RT.mo Value.bool).val M w' (.map (some rn0)) r rf0 ∧ Own (Nw w []) (fun _ => True) w' (rf0 ++ ([]))) := by
 refine calls_fr Try.func67 rfl Try.ntmps67 (Nat.le_of_ble_eq_true rfl) ?_
 have hO := Own.start (N := Nw w []) hM Nw.fut
 have hC := Chg.refl [] w
 unfold s_impl_tupleSet at hs
 refine wp_mono (Q := KPost (k_impl_tupleSet M w r)) ?_ (fun e a w1 h => ?_)
 rotate_left
 ·cases e
  case ret =>
   obtain ⟨σ, rn0, rf0, rfl, hrest⟩ := h
   exact ret1x Try.results67 (res_tmp rfl) ⟨rn0, rf0, rfl, hrest⟩
  all_goals exact (h : False).elim
 refine c_seq (c_region ?_)
 obtain ⟨w2, g2, ew2, eg2, hC2, hb2⟩ := new_block w [(.int .i64 r_.1), (.slice pa0 pn0 pc0)] 51
 refine pl_val (w' := w2) (.pointer (some ⟨g2, 0, none⟩)) (y_box rfl (by rw [ew2, eg2]; kernel_rfl)) ?_
 have h0 := h0.ext hC2
 have hC := hC.ext hC2
 have hO := hO.new1 hC2 eg2 hb2.lt
 refine pl_val (.map none) (y_assign rfl) ?_
 refine c_nil ?_
 refine c_seq (c_region ?_)
 obtain ⟨w3, b3, ew3, eb3, hC3, hv3⟩ := mo_make (enc := Value.bool) (M := M) w2
 refine pl_val (w' := w3) (.map (some b3)) (by rw [ew3, eb3]; exact y_mmap) ?_
 have h0 := h0.ext hC3
 have hb2 := hb2.chg hC3 (fun h => nomatch h)
 have hC := hC.ext hC3
 have hO := hO.new (X' := [b3]) hC3 (fun q hq => by rw [List.mem_singleton.1 hq, eb3]; exact Nat.le_refl _) (List.nodup_cons.2 ⟨(fun h => nomatch h), List.nodup_nil⟩) hv3.fpl
 refine pl_val (.map (some b3)) (y_assign rfl) ?_
 refine c_nil ?_
 refine c_seq ?_
 refine c_seq (c_region ?_)
 refine pl_val (.pointer (some ⟨g2, 1, none⟩)) (y_faddr rfl Fa51x1) ?_
 refine pl_val (.slice pa0 pn0 pc0) (y_load rfl ((box_load Ag49 Sz49 hb2 [(.int .i64 r_.1)] [(.slice pa0 pn0 pc0)] [] rfl rfl (fun _ => rfl)) _ (Chg.refl _ _))) ?_
 refine pl_val (.int .i64 (r_.2.length : Int)) (y_len' Sl49 (rs_len h0) rfl) ?_
 refine pl_val (.int .i64 0) (y_move rfl) ?_
 refine c_nil ?_
 have hO := hO.fr1
 have hO := hO.drop
 obtain ⟨o22, hl23, hs⟩ := bind_some hs
 refine wp_block ?_
 refine wp_forR (id := 0) (I := fun i_ xs_ s18 a w19 => ∃ k20 : Nat, i_ = (k20 : Int) ∧ List.drop k20 r_.2 = xs_ ∧ (∃ (σ : Nat → Value) (f24 : List Nat), a = fr 19 (ovl σ [(3, (.map (some b3))), (8, (.slice pa0 pn0 pc0)), (9, (.int .i64 (r_.2.length : Int))), (10, (.int .i64 (k20 : Int)))]) ∧ Chg [] w w19 ∧ Own (Nw w []) M w19 (f24 ++ []) ∧ (RT.rs (RT.rs (RT.int .i64))).val M w19 (.slice pa0 pn0 pc0) r_.2 ([]) ∧ (RT.mo Value.bool).val M w19 (.map (some b3)) s18 f24)) (J := fun s18 a w19 => ∃ (σ : Nat → Value) (f25 : List Nat), a = fr 19 (ovl σ [(3, (.map (some b3)))]) ∧ Chg [] w w19 ∧ Own (Nw w []) M w19 (f25 ++ []) ∧ (RT.rs (RT.rs (RT.int .i64))).val M w19 (.slice pa0 pn0 pc0) r_.2 ([]) ∧ (RT.mo Value.bool).val M w19 (.map (some b3)) s18 f25) (K := (k_impl_tupleSet M w)) ?_ ?_ r_.2 0 ([]) o22 _ _ ?_ hl23 ?_
 ·rintro _ s18 a w19 ⟨k20, rfl, hd, σ, f24, rfl, hC, hO, h0, hv24⟩
  have hlt := drop_nil_ge hd
  refine c_seq (c_region ?_)
  refine pl_val (.bool (decide ((k20 : Int) < (r_.2.length : Int)))) (y_lss rfl rfl) ?_
  refine c_nil ?_
  refine c_seq ?_
  refine c_condF (congrArg Value.bool (decide_eq_false hlt)) ?_
  refine wp_exit ?_
  exact ⟨rfl, _, f24, fr_ovl 19 ⟨rfl, trivial⟩, hC, hO, h0, hv24⟩
 ·rintro _ x21 xs_ s18 o22 a w19 ⟨k20, rfl, hd, σ, f24, rfl, hC, hO, h0, hv24⟩ hs
  have hlt := drop_cons_lt hd
  have hxk20 := drop_cons_idx hd
  refine c_seq (c_region ?_)
  refine pl_val (.bool (decide ((k20 : Int) < (r_.2.length : Int)))) (y_lss rfl rfl) ?_
  refine c_nil ?_
  refine c_seq ?_
  refine c_condT (congrArg Value.bool (decide_eq_true hlt)) ?_
  refine wp_skip ?_
  refine c_seq ?_
  refine wp_block ?_
  refine c_seq (c_region ?_)
  obtain ⟨b26, o26, hp26, ha26⟩ := rs_idx Sl49 Sz25 h0 hxk20
  refine pl_val (.pointer (some ⟨b26, o26, none⟩)) (hp26 _ _ _ _ _ _ _ _ _ rfl rfl) ?_
  obtain ⟨v27, hl27, hv27⟩ := at_load Ag25 Sz25 (fun _ => rfl) ha26
  obtain ⟨a27, n27, c27, rfl⟩ := rs_sl hv27
  refine pl_val (.slice a27 n27 c27) (y_load rfl (hl27 _ (Chg.refl _ _))) ?_
  refine pl_val (.slice a27 n27 c27) (y_assign rfl) ?_
  refine c_nil ?_
  refine c_region ?_
  refine pl_val (.map (some b3)) (y_move rfl) ?_
  refine pl_val (.slice a27 n27 c27) (y_move rfl) ?_
  obtain ⟨r30, hr30, hs⟩ := bind_some hs
  refine pl_call Bd68 rfl (c_impl_keyOf (M := M) x21 hv27 hO.fut hr30) ?_
  rintro _ w29 ⟨rfl, hC29⟩
  have h0 := h0.ext hC29
  have hv24 := hv24.ext hC29
  have hv27 := hv27.ext hC29
  have hC := hC.ext hC29
  have hO := hO.ext hC29
  obtain ⟨w31, hst31, hC31, hv31⟩ := mo_put (P := Try.prog) (t := 88) (key := r30) (x := true) Try.underlying88 Try.underlying9 hv24
  refine pl_skip (w' := w31) (ys_put rfl rfl rfl hst31) ?_
  have h0 := h0.mut hC31 (fun g hg => hO.inM g ((fun _ h => h) g hg)) (fun _ _ h => nomatch h)
  have hv27 := hv27.mut hC31 (fun g hg => hO.inM g ((fun _ h => h) g hg)) (fun _ _ h => nomatch h)
  have hC := hC.step hC31 (fun g hg => hO.inN g ((fun _ h => h) g hg))
  have hO := hO.ext hC31
  refine c_nil ?_
  refine c_region ?_
  refine pl_val (.int .i64 (w64 ((k20 : Int) + 1))) (y_add rfl rfl) ?_
  refine pl_val (.int .i64 (w64 ((k20 : Int) + 1))) (y_move rfl) ?_
  refine c_nil ?_
  cases hs
  exact ⟨_, rfl, drop_cons_next hd, _, f24, fr_ovl 19 ⟨rfl, rfl, rfl, congrArg (Value.int .i64) (w64_succ hlt (Int.natCast_nonneg _) (rs_max h0)), trivial⟩, hC, hO, h0, hv31⟩
 ·skip
  exact ⟨0, rfl, rfl, _, [b3], fr_ovl 19 ⟨rfl, rfl, rfl, rfl, trivial⟩, hC, hO, h0, hv3⟩
 ·cases o22 with
  | nx _ => exact True.intro
  | rt r_ =>
   have hs := after_rt hs
   intro a1 w1 hK
   cases hs
   exact hK
  | br s18 =>
   have hs := after_br hs
   rintro a1 w19 ⟨σ, f25, rfl, hC, hO, h0, hv25⟩
   refine c_seq (c_region ?_)
   refine pl_val (.map (some b3)) (y_move rfl) ?_
   refine pl_val (.map (some b3)) (y_assign rfl) ?_
   refine c_nil ?_
   refine wp_ret ?_
   cases hs
   exact ⟨_, b3, f25, fr_ovl 19 ⟨rfl, trivial⟩, hC, hv25, hO.top⟩

theorem Bd67 : Bodied Try.prog 67 := bodied Try.func67 (by kernel_rfl) rfl

def k_impl_firstBreak (M : Nat → Prop) (w0 : World) (r : (List Int) × (List Int) × Bool) (a : Act) (w : World) : Prop :=
  ∃ (σ : Nat → Value) (ra0 : Option Addr) (rn0 rc0 : Nat) (rf0 : List Nat) (ra1 : Option Addr) (rn1 rc1 : Nat) (rf1 : List Nat), a = fr 96 (ovl σ [(6, (.slice ra0 rn0 rc0)), (7, (.slice ra1 rn1 rc1)), (8, (.bool r.2.2))]) ∧ Chg [] w0 w ∧ (RT.os 3 (RT.int .i64)).val M w (.slice ra0 rn0 rc0) r.1 rf0 ∧ (RT.os 3 (RT.int .i64)).val M w (.slice ra1 rn1 rc1) r.2.1 rf1 ∧ Own (Nw w0 []) (fun _ => True) w (rf0 ++ (rf1 ++ ([])))
def s_impl_firstBreak (n : Int) (op : Int × (List Int)) (r_ : Int × (List (List Int))) : Option ((List Int) × (List Int) × Bool) :=
  (s_impl_tupleSet (r_.1, r_.2)).bind fun r6 =>
  (mks op.1 (0 : Int)).bind fun y9 =>
  (mks r_.1 (0 : Int)).bind fun y12 =>
  (iter (S := Int × (List Int) × (List Int)) (R := (List Int) × (List Int) × Bool) (fun s250 =>
  (s_impl_power (r_.2.length : Int) op.1).bind fun r261 =>
  (bif (decide (s250.1 < r261)) then (iter (S := Int × Int × (List Int)) (R := (List Int) × (List Int) × Bool) (fun s276 =>
  (bif (decide (0 ≤ s276.2.1)) then (nz (r_.2.length : Int)).bind fun u285 =>
  (idx s276.2.2 s276.2.1).bind fun x286 =>
  (nz (r_.2.length : Int)).bind fun u289 =>
  some (.nx (w64 (Int.tdiv s276.1 (r_.2.length : Int)), w64 (s276.2.1 - 1), List.set s276.2.2 (Int.toNat s276.2.1) (Int.tmod s276.1 (r_.2.length : Int)))) else some (.br (s276.1, s276.2.1, s276.2.2)))) FU (s250.1, w64 (op.1 - 1), s250.2.1)).bind fun o280 => after o280 (fun r_ => some (.rt r_)) (fun s276 =>
  (forC (S := (List Int)) (R := (List Int) × (List Int) × Bool) (fun k343 s341 =>
  (forR (S := Int) (R := (List Int) × (List Int) × Bool) (fun _ x359 s356 =>
  (idx r_.2 x359).bind fun x363 =>
  (idx x363 k343).bind fun x367 =>
  some (.nx (w64 ((w64 (s356 * n)) + x367)))) 0 s276.2.2 0).bind fun o360 => after o360 (fun r_ => some (.rt r_)) (fun s356 =>
  (idx op.2 s356).bind fun x369 =>
  (idx s341 k343).bind fun x371 =>
  some (.nx (List.set s341 (Int.toNat k343) x369)))) 0 (s250.2.2.length : Int) s250.2.2).bind fun o345 => after o345 (fun r_ => some (.rt r_)) (fun s341 =>
  (s_impl_keyOf s341).bind fun r375 =>
  (bif (!((mget r6 r375).getD false)) then some (.rt (s276.2.2, s341, true)) else some (.nx (w64 (s250.1 + 1), s276.2.2, s341))))) else some (.br (s250.1, s250.2.1, s250.2.2)))) FU (0, y9, y12)).bind fun o254 => after o254 (fun r_ => some r_) (fun s250 =>
  some ([], [], false))
set_option maxHeartbeats 4000000 in
theorem c_impl_firstBreak {M : Nat → Prop} {w : World} {pa0 : Option Addr} {pn0 pc0 : Nat} {pa1 : Option Addr} {pn1 pc1 : Nat} (n : Int) (op : Int × (List Int)) (r_ : Int × (List (List Int))) (h0 : (RT.rs (RT.int .i64)).val M w (.slice pa0 pn0 pc0) op.2 ([])) (h1 : (RT.rs (RT.rs (RT.int .i64))).val M w (.slice pa1 pn1 pc1) r_.2 ([])) (hM : ∀ g, w.heap.size ≤ g → M g) {r : (List Int) × (List Int) × Bool} (hs : s_impl_firstBreak n op r_ = some r) :
    Gives Try.prog 51 [(.int .i64 n), (.agg #[(.int .i64 op.1), (.slice pa0 pn0 pc0)]), (.agg #[(.int .i64 r_.1), (.slice pa1 pn1 pc1)])] w (fun v w' => ∃ (ra0 : Option Addr) (rn0 rc0 : Nat) (rf0 : List Nat) (ra1 : Option Addr) (rn1 rc1 : Nat) (rf1 : List Nat), v = (.tuple #[(.slice ra0 rn0 rc0), (.slice ra1 rn1 rc1), (.bool r.2.2)]) ∧ Chg [] w w' ∧ (RT.os 3 (RT.int .i64)).val M w' (.slice ra0 rn0 rc0) r.1 rf0 ∧ (RT.os 3 (RT.int .i64)).val M w' (.slice ra1 rn1 rc1) r.2.1 rf1 ∧ Own (Nw w []) (fun _ => True) w' (rf0 ++ (rf1 ++ ([])))) := by
 refine calls_fr Try.func51 rfl Try.ntmps51 (Nat.le_of_ble_eq_true rfl) ?_
 have hO := Own.start (N := Nw w []) hM Nw.fut
 have hC := Chg.refl [] w
 unfold s_impl_firstBreak at hs
 refine wp_mono (Q := KPost (k_impl_firstBreak M w r)) ?_ (fun e a w1 h => ?_)
 rotate_left
 ·cases e
  case ret =>
   obtain ⟨σ, ra0, rn0, rc0, rf0, ra1, rn1, rc1, rf1, rfl, hrest⟩ := h
   exact ret3x Try.results51 (res_tmp rfl) (res_tmp rfl) (res_tmp rfl) ⟨ra0, rn0, rc0, rf0, ra1, rn1, rc1, rf1, rfl, hrest⟩
  all_goals exact (h : False).elim
 refine c_seq (c_region ?_)
 obtain ⟨w3, g3, ew3, eg3, hC3, hb3⟩ := new_block w [(.int .i64 op.1), (.slice pa0 pn0 pc0)] 36
 refine pl_val (w' := w3) (.pointer (some ⟨g3, 0, none⟩)) (y_box rfl (by rw [ew3, eg3]; kernel_rfl)) ?_
 have h0 := h0.ext hC3
 have h1 := h1.ext hC3
 have hC := hC.ext hC3
 have hO := hO.new1 hC3 eg3 hb3.lt
 obtain ⟨w4, g4, ew4, eg4, hC4, hb4⟩ := new_block w3 [(.int .i64 r_.1), (.slice pa1 pn1 pc1)] 51
 refine pl_val (w' := w4) (.pointer (some ⟨g4, 0, none⟩)) (y_box rfl (by rw [ew4, eg4]; kernel_rfl)) ?_
 have h0 := h0.ext hC4
 have h1 := h1.ext hC4
 have hb3 := hb3.chg hC4 (fun h => nomatch h)
 have hC := hC.ext hC4
 have hO := hO.new1 hC4 eg4 hb4.lt
 refine pl_val (.slice none 0 0) (y_assign rfl) ?_
 refine pl_val (.slice none 0 0) (y_assign rfl) ?_
 refine pl_val (.bool false) (y_assign rfl) ?_
 refine c_nil ?_
 refine c_seq (c_region ?_)
 refine pl_val (.agg #[(.int .i64 r_.1), (.slice pa1 pn1 pc1)]) (y_load rfl ((box_load Ag51 Sz51 hb4 [] [(.int .i64 r_.1), (.slice pa1 pn1 pc1)] [] rfl rfl (fun h => nomatch h)) _ (Chg.refl _ _))) ?_
 obtain ⟨r6, hr6, hs⟩ := bind_some hs
 refine pl_call Bd67 rfl (c_impl_tupleSet (M := M) (r_.1, r_.2) h1 hO.fut hr6) ?_
 rintro _ w5 ⟨n5x0, f5x0, rfl, hC5, hv5x0, hOc5⟩
 have h0 := h0.ext hC5
 have h1 := h1.ext hC5
 have hb3 := hb3.chg hC5 (fun h => nomatch h)
 have hb4 := hb4.chg hC5 (fun h => nomatch h)
 have hC := hC.ext hC5
 have hO := Own.join0 hO hC5 hOc5
 have hO := hO.perm (R := f5x0 ++ (([g4]) ++ (([g3]) ++ ([])))) (by simp)
 refine pl_val (.map (some n5x0)) (y_assign rfl) ?_
 refine c_nil ?_
 refine c_seq (c_region ?_)
 refine pl_val (.pointer (some ⟨g4, 1, none⟩)) (y_faddr rfl Fa51x1) ?_
 refine pl_val (.slice pa1 pn1 pc1) (y_load rfl ((box_load Ag49 Sz49 hb4 [(.int .i64 r_.1)] [(.slice pa1 pn1 pc1)] [] rfl rfl (fun _ => rfl)) _ (Chg.refl _ _))) ?_
 refine pl_val (.int .i64 (r_.2.length : Int)) (y_len' Sl49 (rs_len h1) rfl) ?_
 refine pl_val (.int .i64 (r_.2.length : Int)) (y_assign rfl) ?_
 refine c_nil ?_
 refine c_seq (c_region ?_)
 refine pl_val (.pointer (some ⟨g3, 0, none⟩)) (y_faddr rfl Fa36x0) ?_
 refine pl_val (.int .i64 op.1) (y_load rfl ((box_load Ag3 Sz3 hb3 [] [(.int .i64 op.1)] [(.slice pa0 pn0 pc0)] rfl rfl (fun _ => rfl)) _ (Chg.refl _ _))) ?_
 obtain ⟨y9, hy9, hs⟩ := bind_some hs
 obtain ⟨a8, n8, c8, w8, f8, hm8, hC8, hfr8, hv8⟩ := mk_os (M := M) (w := w5) (r := (RT.int .i64)) Rw25 hy9 (fun _ _ => ⟨rfl, rfl⟩)
 refine pl_val (w' := w8) (.slice a8 n8 c8) (y_make rfl rfl hm8) ?_
 have h0 := h0.ext hC8
 have h1 := h1.ext hC8
 have hb3 := hb3.chg hC8 (fun h => nomatch h)
 have hb4 := hb4.chg hC8 (fun h => nomatch h)
 have hv5x0 := hv5x0.ext hC8
 have hC := hC.ext hC8
 have hO := hO.new hC8 hfr8 (os_nodup hv8) hv8.fpl
 refine pl_val (.slice a8 n8 c8) (y_assign rfl) ?_
 refine c_nil ?_
 refine c_seq (c_region ?_)
 refine pl_val (.pointer (some ⟨g4, 0, none⟩)) (y_faddr rfl Fa51x0) ?_
 refine pl_val (.int .i64 r_.1) (y_load rfl ((box_load Ag3 Sz3 hb4 [] [(.int .i64 r_.1)] [(.slice pa1 pn1 pc1)] rfl rfl (fun _ => rfl)) _ (Chg.refl _ _))) ?_
 obtain ⟨y12, hy12, hs⟩ := bind_some hs
 obtain ⟨a11, n11, c11, w11, f11, hm11, hC11, hfr11, hv11⟩ := mk_os (M := M) (w := w8) (r := (RT.int .i64)) Rw25 hy12 (fun _ _ => ⟨rfl, rfl⟩)
 refine pl_val (w' := w11) (.slice a11 n11 c11) (y_make rfl rfl hm11) ?_
 have h0 := h0.ext hC11
 have h1 := h1.ext hC11
 have hb3 := hb3.chg hC11 (fun h => nomatch h)
 have hb4 := hb4.chg hC11 (fun h => nomatch h)
 have hv5x0 := hv5x0.ext hC11
 have hv8 := hv8.ext hC11
 have hC := hC.ext hC11
 have hO := hO.new hC11 hfr11 (os_nodup hv11) hv11.fpl
 refine pl_val (.slice a11 n11 c11) (y_assign rfl) ?_
 refine c_nil ?_
 refine c_seq ?_
 refine c_seq (c_region ?_)
 refine pl_val (.int .i64 0) (y_assign rfl) ?_
 refine c_nil ?_
 obtain ⟨o254, hl255, hs⟩ := bind_some hs
 refine wp_block ?_
 refine wp_iter (id := 0) (I := fun s250 a w251 => ∃ (σ : Nat → Value) (f256 : List Nat) (f257 : List Nat), a = fr 96 (ovl σ [(0, (.int .i64 n)), (4, (.pointer (some ⟨g3, 0, none⟩))), (5, (.pointer (some ⟨g4, 0, none⟩))), (9, (.map (some n5x0))), (10, (.int .i64 (r_.2.length : Int))), (11, (.slice a8 n8 c8)), (12, (.slice a11 n11 c11)), (13, (.int .i64 s250.1))]) ∧ Chg [] w w251 ∧ Own (Nw w []) M w251 (f257 ++ (f256 ++ (f5x0 ++ (([g4]) ++ (([g3]) ++ []))))) ∧ (RT.rs (RT.int .i64)).val M w251 (.slice pa0 pn0 pc0) op.2 ([]) ∧ (RT.rs (RT.rs (RT.int .i64))).val M w251 (.slice pa1 pn1 pc1) r_.2 ([]) ∧ BoxV w251 g3 36 [(.int .i64 op.1), (.slice pa0 pn0 pc0)] ∧ BoxV w251 g4 51 [(.int .i64 r_.1), (.slice pa1 pn1 pc1)] ∧ (RT.mo Value.bool).val M w251 (.map (some n5x0)) r6 f5x0 ∧ (RT.os 3 (RT.int .i64)).val M w251 (.slice a8 n8 c8) s250.2.1 f256 ∧ (RT.os 3 (RT.int .i64)).val M w251 (.slice a11 n11 c11) s250.2.2 f257) (J := fun s250 a w251 => ∃ (σ : Nat → Value) (f258 : List Nat) (f259 : List Nat), a = fr 96 (ovl σ []) ∧ Chg [] w w251 ∧ Own (Nw w []) M w251 (f259 ++ (f258 ++ (f5x0 ++ (([g4]) ++ (([g3]) ++ []))))) ∧ (RT.rs (RT.int .i64)).val M w251 (.slice pa0 pn0 pc0) op.2 ([]) ∧ (RT.rs (RT.rs (RT.int .i64))).val M w251 (.slice pa1 pn1 pc1) r_.2 ([]) ∧ BoxV w251 g3 36 [(.int .i64 op.1), (.slice pa0 pn0 pc0)] ∧ BoxV w251 g4 51 [(.int .i64 r_.1), (.slice pa1 pn1 pc1)] ∧ (RT.mo Value.bool).val M w251 (.map (some n5x0)) r6 f5x0 ∧ (RT.os 3 (RT.int .i64)).val M w251 (.slice a8 n8 c8) s250.2.1 f258 ∧ (RT.os 3 (RT.int .i64)).val M w251 (.slice a11 n11 c11) s250.2.2 f259) (K := (k_impl_firstBreak M w)) ?_ FU (0, y9, y12) o254 _ _ ?_ hl255 ?_
 ·rintro s250 o254 a w251 ⟨σ, f256, f257, rfl, hC, hO, h0, h1, hb3, hb4, hv5x0, hv256, hv257⟩ hs
  refine c_seq ?_
  refine c_seq (c_region ?_)
  refine pl_val (.int .i64 s250.1) (y_move rfl) ?_
  refine pl_val (.int .i64 (r_.2.length : Int)) (y_move rfl) ?_
  refine pl_val (.pointer (some ⟨g3, 0, none⟩)) (y_faddr rfl Fa36x0) ?_
  refine pl_val (.int .i64 op.1) (y_load rfl ((box_load Ag3 Sz3 hb3 [] [(.int .i64 op.1)] [(.slice pa0 pn0 pc0)] rfl rfl (fun _ => rfl)) _ (Chg.refl _ _))) ?_
  obtain ⟨r261, hr261, hs⟩ := bind_some hs
  refine pl_call Bd61 rfl (c_impl_power (M := M) (r_.2.length : Int) op.1  hO.fut hr261) ?_
  rintro _ w260 ⟨rfl, hC260⟩
  have h0 := h0.ext hC260
  have h1 := h1.ext hC260
  have hb3 := hb3.chg hC260 (fun h => nomatch h)
  have hb4 := hb4.chg hC260 (fun h => nomatch h)
  have hv5x0 := hv5x0.ext hC260
  have hv256 := hv256.ext hC260
  have hv257 := hv257.ext hC260
  have hC := hC.ext hC260
  have hO := hO.ext hC260
  refine pl_val (.bool (decide (s250.1 < r261))) (y_lss rfl rfl) ?_
  refine c_nil ?_
  rcases bif_some hs with ⟨hc262, hs⟩ | ⟨hc262, hs⟩
  ·skip
   refine c_condT (congrArg Value.bool hc262) ?_
   refine wp_skip ?_
   refine c_seq ?_
   refine wp_block ?_
   refine c_seq (c_region ?_)
   refine pl_val (.int .i64 s250.1) (y_move rfl) ?_
   refine pl_val (.int .i64 s250.1) (y_assign rfl) ?_
   refine c_nil ?_
   refine c_seq ?_
   refine c_seq (c_region ?_)
   refine pl_val (.pointer (some ⟨g3, 0, none⟩)) (y_faddr rfl Fa36x0) ?_
   refine pl_val (.int .i64 op.1) (y_load rfl ((box_load Ag3 Sz3 hb3 [] [(.int .i64 op.1)] [(.slice pa0 pn0 pc0)] rfl rfl (fun _ => rfl)) _ (Chg.refl _ _))) ?_
   refine pl_val (.int .i64 (w64 (op.1 - 1))) (y_sub rfl rfl) ?_
   refine pl_val (.int .i64 (w64 (op.1 - 1))) (y_assign rfl) ?_
   refine c_nil ?_
   obtain ⟨o280, hl281, hs⟩ := bind_some hs
   refine wp_block ?_
   refine wp_iter (id := 2) (I := fun s276 a w277 => ∃ (σ : Nat → Value) (f282 : List Nat), a = fr 96 (ovl σ [(0, (.int .i64 n)), (4, (.pointer (some ⟨g3, 0, none⟩))), (5, (.pointer (some ⟨g4, 0, none⟩))), (9, (.map (some n5x0))), (10, (.int .i64 (r_.2.length : Int))), (11, (.slice a8 n8 c8)), (12, (.slice a11 n11 c11)), (13, (.int .i64 s250.1)), (14, (.int .i64 s276.1)), (15, (.int .i64 s276.2.1))]) ∧ Chg [] w w277 ∧ Own (Nw w []) M w277 (f257 ++ (f282 ++ (f5x0 ++ (([g4]) ++ (([g3]) ++ []))))) ∧ (RT.rs (RT.int .i64)).val M w277 (.slice pa0 pn0 pc0) op.2 ([]) ∧ (RT.rs (RT.rs (RT.int .i64))).val M w277 (.slice pa1 pn1 pc1) r_.2 ([]) ∧ BoxV w277 g3 36 [(.int .i64 op.1), (.slice pa0 pn0 pc0)] ∧ BoxV w277 g4 51 [(.int .i64 r_.1), (.slice pa1 pn1 pc1)] ∧ (RT.mo Value.bool).val M w277 (.map (some n5x0)) r6 f5x0 ∧ (RT.os 3 (RT.int .i64)).val M w277 (.slice a8 n8 c8) s276.2.2 f282 ∧ (RT.os 3 (RT.int .i64)).val M w277 (.slice a11 n11 c11) s250.2.2 f257) (J := fun s276 a w277 => ∃ (σ : Nat → Value) (f283 : List Nat), a = fr 96 (ovl σ [(0, (.int .i64 n)), (4, (.pointer (some ⟨g3, 0, none⟩))), (5, (.pointer (some ⟨g4, 0, none⟩))), (9, (.map (some n5x0))), (10, (.int .i64 (r_.2.length : Int))), (11, (.slice a8 n8 c8)), (12, (.slice a11 n11 c11)), (13, (.int .i64 s250.1))]) ∧ Chg [] w w277 ∧ Own (Nw w []) M w277 (f257 ++ (f283 ++ (f5x0 ++ (([g4]) ++ (([g3]) ++ []))))) ∧ (RT.rs (RT.int .i64)).val M w277 (.slice pa0 pn0 pc0) op.2 ([]) ∧ (RT.rs (RT.rs (RT.int .i64))).val M w277 (.slice pa1 pn1 pc1) r_.2 ([]) ∧ BoxV w277 g3 36 [(.int .i64 op.1), (.slice pa0 pn0 pc0)] ∧ BoxV w277 g4 51 [(.int .i64 r_.1), (.slice pa1 pn1 pc1)] ∧ (RT.mo Value.bool).val M w277 (.map (some n5x0)) r6 f5x0 ∧ (RT.os 3 (RT.int .i64)).val M w277 (.slice a8 n8 c8) s276.2.2 f283 ∧ (RT.os 3 (RT.int .i64)).val M w277 (.slice a11 n11 c11) s250.2.2 f257) (K := (k_impl_firstBreak M w)) ?_ FU (s250.1, w64 (op.1 - 1), s250.2.1) o280 _ _ ?_ hl281 ?_
   ·rintro s276 o280 a w277 ⟨σ, f282, rfl, hC, hO, h0, h1, hb3, hb4, hv5x0, hv282, hv257⟩ hs
    refine c_seq ?_
    refine c_seq (c_region ?_)
    refine pl_val (.int .i64 s276.2.1) (y_move rfl) ?_
    refine pl_val (.bool (decide (0 ≤ s276.2.1))) (y_geq rfl rfl) ?_
    refine c_nil ?_
    rcases bif_some hs with ⟨hc284, hs⟩ | ⟨hc284, hs⟩
    ·skip
     refine c_condT (congrArg Value.bool hc284) ?_
     refine wp_skip ?_
     refine c_seq ?_
     refine wp_block ?_
     refine c_seq (c_region ?_)
     refine pl_val (.slice a8 n8 c8) (y_move rfl) ?_
     refine pl_val (.int .i64 s276.2.1) (y_move rfl) ?_
     refine pl_val (.int .i64 s276.1) (y_move rfl) ?_
     refine pl_val (.int .i64 (r_.2.length : Int)) (y_move rfl) ?_
     obtain ⟨u285, hu285, hs⟩ := bind_some hs
     refine pl_val (.int .i64 (Int.tmod s276.1 (r_.2.length : Int))) (y_rem rfl rfl (nz_ne hu285)) ?_
     obtain ⟨x286, hx286, hs⟩ := bind_some hs
     obtain ⟨g287, f287, hg287, hk287, hp287, ha287, hf287⟩ := os_idx Sl25 Sz3 hv282 hx286
     refine pl_val (.pointer (some ⟨g287, 0 + Int.toNat s276.2.1 * 1, none⟩)) (hp287 _ _ _ _ _ _ _ _ _ rfl rfl) ?_
     have hO := hO.fr1
     obtain ⟨w288, f288, hst288, hC288, hf288, hv288⟩ := os_store (P := Try.prog) (c' := [(.int .i64 (Int.tmod s276.1 (r_.2.length : Int)))]) hg287 hv282 hk287 (fun g hg => hO.inM g (os_block hv282 g (by simpa using hg))) ⟨rfl, rfl⟩ List.nodup_nil (fun _ h => nomatch h) (fun _ h => .inl h)
     have hG288 : ∀ q ∈ [g287], q ∈ f282 := fun q hq => os_block hv282 q (by rw [hg287]; exact hq)
     refine pl_skip (w' := w288) (ys_store rfl rfl (hst288 _ _ rfl Sz3)) ?_
     have h0 := h0.mut hC288 (fun g hg => hO.inM g (hG288 g hg)) (fun _ _ h => nomatch h)
     have h1 := h1.mut hC288 (fun g hg => hO.inM g (hG288 g hg)) (fun _ _ h => nomatch h)
     have hb3 := hb3.chg hC288 (fun hg => hO.apart _ (hG288 _ hg) (mem_r (mem_r (mem_r (mem_l (List.mem_singleton.2 rfl))))))
     have hb4 := hb4.chg hC288 (fun hg => hO.apart _ (hG288 _ hg) (mem_r (mem_r (mem_l (List.mem_singleton.2 rfl)))))
     have hv5x0 := hv5x0.mut hC288 (fun g hg => hO.inM g (hG288 g hg)) (fun g hg e => hO.apart g (hG288 g hg) (mem_r (mem_l (e))))
     have hv257 := hv257.mut hC288 (fun g hg => hO.inM g (hG288 g hg)) (fun g hg e => hO.apart g (hG288 g hg) (mem_l (e)))
     have hC := hC.step hC288 (fun g hg => hO.inN g (hG288 g hg))
     have hO := hO.grow hC288 (fun q hq => .inl ((hf288 q hq).resolve_right (fun h => nomatch h))) (os_nodup hv288) hv288.fpl
     refine c_nil ?_
     refine c_region ?_
     refine pl_val (.int .i64 s276.1) (y_move rfl) ?_
     refine pl_val (.int .i64 (r_.2.length : Int)) (y_move rfl) ?_
     obtain ⟨u289, hu289, hs⟩ := bind_some hs
     refine pl_val (.int .i64 (w64 (Int.tdiv s276.1 (r_.2.length : Int)))) (y_quo rfl rfl (nz_ne hu289)) ?_
     refine pl_val (.int .i64 (w64 (Int.tdiv s276.1 (r_.2.length : Int)))) (y_assign rfl) ?_
     refine c_nil ?_
     refine c_region ?_
     refine pl_val (.int .i64 s276.2.1) (y_move rfl) ?_
     refine pl_val (.int .i64 (w64 (s276.2.1 - 1))) (y_sub rfl rfl) ?_
     refine pl_val (.int .i64 (w64 (s276.2.1 - 1))) (y_assign rfl) ?_
     refine c_nil ?_
     cases hs
     have hO := hO.fr4
     have hO := hO.fr4
     have hO := hO.fr4
     have hO := hO.fr3
     have hO := hO.fr4
     exact ⟨_, f288, fr_ovl 96 ⟨rfl, rfl, rfl, rfl, rfl, rfl, rfl, rfl, rfl, rfl, trivial⟩, hC, hO, h0, h1, hb3, hb4, hv5x0, hv288, hv257⟩
    ·skip
     refine c_condF (congrArg Value.bool hc284) ?_
     refine wp_exit ?_
     cases hs
     have hO := hO.fr4
     have hO := hO.fr4
     have hO := hO.fr4
     have hO := hO.fr4
     have hO := hO.fr4
     exact ⟨rfl, _, f282, fr_ovl 96 ⟨rfl, rfl, rfl, rfl, rfl, rfl, rfl, rfl, trivial⟩, hC, hO, h0, h1, hb3, hb4, hv5x0, hv282, hv257⟩
   ·skip
    have hO := hO.fr4
    have hO := hO.fr4
    have hO := hO.fr4
    have hO := hO.fr4
    have hO := hO.fr4
    exact ⟨_, f256, fr_ovl 96 ⟨rfl, rfl, rfl, rfl, rfl, rfl, rfl, rfl, rfl, rfl, trivial⟩, hC, hO, h0, h1, hb3, hb4, hv5x0, hv256, hv257⟩
   ·cases o280 with
    | nx _ => exact True.intro
    | rt r_ =>
     have hs := after_rt hs
     intro a1 w1 hK
     cases hs
     exact hK
    | br s276 =>
     have hs := after_br hs
     rintro a1 w277 ⟨σ, f283, rfl, hC, hO, h0, h1, hb3, hb4, hv5x0, hv283, hv257⟩
     refine c_seq ?_
     refine c_seq (c_region ?_)
     refine pl_val (.slice a11 n11 c11) (y_move rfl) ?_
     refine pl_val (.int .i64 (s250.2.2.length : Int)) (y_len' Sl25 (os_len hv257) rfl) ?_
     refine pl_val (.int .i64 0) (y_move rfl) ?_
     refine c_nil ?_
     obtain ⟨o345, hl346, hs⟩ := bind_some hs
     refine wp_block ?_
     refine wp_forC (id := 4) (s250.2.2.length : Int) (I := fun k343 s341 a w342 => ∃ (σ : Nat → Value) (f347 : List Nat), a = fr 96 (ovl σ [(0, (.int .i64 n)), (4, (.pointer (some ⟨g3, 0, none⟩))), (5, (.pointer (some ⟨g4, 0, none⟩))), (9, (.map (some n5x0))), (10, (.int .i64 (r_.2.length : Int))), (11, (.slice a8 n8 c8)), (12, (.slice a11 n11 c11)), (13, (.int .i64 s250.1)), (57, (.int .i64 (s250.2.2.length : Int))), (58, (.int .i64 k343))]) ∧ Chg [] w w342 ∧ Own (Nw w []) M w342 (f347 ++ (f283 ++ (f5x0 ++ (([g4]) ++ (([g3]) ++ []))))) ∧ (RT.rs (RT.int .i64)).val M w342 (.slice pa0 pn0 pc0) op.2 ([]) ∧ (RT.rs (RT.rs (RT.int .i64))).val M w342 (.slice pa1 pn1 pc1) r_.2 ([]) ∧ BoxV w342 g3 36 [(.int .i64 op.1), (.slice pa0 pn0 pc0)] ∧ BoxV w342 g4 51 [(.int .i64 r_.1), (.slice pa1 pn1 pc1)] ∧ (RT.mo Value.bool).val M w342 (.map (some n5x0)) r6 f5x0 ∧ (RT.os 3 (RT.int .i64)).val M w342 (.slice a8 n8 c8) s276.2.2 f283 ∧ (RT.os 3 (RT.int .i64)).val M w342 (.slice a11 n11 c11) s341 f347) (J := fun s341 a w342 => ∃ (σ : Nat → Value) (f348 : List Nat), a = fr 96 (ovl σ [(0, (.int .i64 n)), (4, (.pointer (some ⟨g3, 0, none⟩))), (5, (.pointer (some ⟨g4, 0, none⟩))), (9, (.map (some n5x0))), (10, (.int .i64 (r_.2.length : Int))), (11, (.slice a8 n8 c8)), (12, (.slice a11 n11 c11)), (13, (.int .i64 s250.1))]) ∧ Chg [] w w342 ∧ Own (Nw w []) M w342 (f348 ++ (f283 ++ (f5x0 ++ (([g4]) ++ (([g3]) ++ []))))) ∧ (RT.rs (RT.int .i64)).val M w342 (.slice pa0 pn0 pc0) op.2 ([]) ∧ (RT.rs (RT.rs (RT.int .i64))).val M w342 (.slice pa1 pn1 pc1) r_.2 ([]) ∧ BoxV w342 g3 36 [(.int .i64 op.1), (.slice pa0 pn0 pc0)] ∧ BoxV w342 g4 51 [(.int .i64 r_.1), (.slice pa1 pn1 pc1)] ∧ (RT.mo Value.bool).val M w342 (.map (some n5x0)) r6 f5x0 ∧ (RT.os 3 (RT.int .i64)).val M w342 (.slice a8 n8 c8) s276.2.2 f283 ∧ (RT.os 3 (RT.int .i64)).val M w342 (.slice a11 n11 c11) s341 f348) (K := (k_impl_firstBreak M w)) ?_ ?_ 0 s250.2.2 o345 _ _ ?_ hl346 ?_
     ·rintro k343 s341 a w342 ⟨σ, f347, rfl, hC, hO, h0, h1, hb3, hb4, hv5x0, hv283, hv347⟩ hlt
      refine c_seq (c_region ?_)
      refine pl_val (.bool (decide (k343 < (s250.2.2.length : Int)))) (y_lss rfl rfl) ?_
      refine c_nil ?_
      refine c_seq ?_
      refine c_condF (congrArg Value.bool (decide_eq_false hlt)) ?_
      refine wp_exit ?_
      have hO := hO.fr4
      have hO := hO.fr4
      have hO := hO.fr4
      have hO := hO.fr4
      have hO := hO.fr4
      exact ⟨rfl, _, f347, fr_ovl 96 ⟨rfl, rfl, rfl, rfl, rfl, rfl, rfl, rfl, trivial⟩, hC, hO, h0, h1, hb3, hb4, hv5x0, hv283, hv347⟩
     ·rintro k343 s341 o345 a w342 ⟨σ, f347, rfl, hC, hO, h0, h1, hb3, hb4, hv5x0, hv283, hv347⟩ hlt hw hs
      refine c_seq (c_region ?_)
      refine pl_val (.bool (decide (k343 < (s250.2.2.length : Int)))) (y_lss rfl rfl) ?_
      refine c_nil ?_
      refine c_seq ?_
      refine c_condT (congrArg Value.bool (decide_eq_true hlt)) ?_
      refine wp_skip ?_
      refine c_seq ?_
      refine wp_block ?_
      refine c_seq (c_region ?_)
      refine pl_val (.int .i64 k343) (y_move rfl) ?_
      refine pl_val (.int .i64 k343) (y_assign rfl) ?_
      refine c_nil ?_
      refine c_seq (c_region ?_)
      refine pl_val (.int .i64 0) (y_assign rfl) ?_
      refine c_nil ?_
      refine c_seq ?_
      refine c_seq (c_region ?_)
      refine pl_val (.slice a8 n8 c8) (y_move rfl) ?_
      refine pl_val (.int .i64 (s276.2.2.length : Int)) (y_len' Sl25 (os_len hv283) rfl) ?_
      refine pl_val (.int .i64 0) (y_move rfl) ?_
      refine c_nil ?_
      obtain ⟨o360, hl361, hs⟩ := bind_some hs
      refine wp_block ?_
      refine wp_forR (id := 6) (I := fun i_ xs_ s356 a w357 => ∃ k358 : Nat, i_ = (k358 : Int) ∧ List.drop k358 s276.2.2 = xs_ ∧ (∃ (σ : Nat → Value), a = fr 96 (ovl σ [(0, (.int .i64 n)), (4, (.pointer (some ⟨g3, 0, none⟩))), (5, (.pointer (some ⟨g4, 0, none⟩))), (9, (.map (some n5x0))), (10, (.int .i64 (r_.2.length : Int))), (11, (.slice a8 n8 c8)), (12, (.slice a11 n11 c11)), (13, (.int .i64 s250.1)), (16, (.int .i64 k343)), (17, (.int .i64 s356)), (57, (.int .i64 (s250.2.2.length : Int))), (58, (.int .i64 k343)), (61, (.slice a8 n8 c8)), (62, (.int .i64 (s276.2.2.length : Int))), (63, (.int .i64 (k358 : Int)))]) ∧ Chg [] w w357 ∧ Own (Nw w []) M w357 (f347 ++ (f283 ++ (f5x0 ++ (([g4]) ++ (([g3]) ++ []))))) ∧ (RT.rs (RT.int .i64)).val M w357 (.slice pa0 pn0 pc0) op.2 ([]) ∧ (RT.rs (RT.rs (RT.int .i64))).val M w357 (.slice pa1 pn1 pc1) r_.2 ([]) ∧ BoxV w357 g3 36 [(.int .i64 op.1), (.slice pa0 pn0 pc0)] ∧ BoxV w357 g4 51 [(.int .i64 r_.1), (.slice pa1 pn1 pc1)] ∧ (RT.mo Value.bool).val M w357 (.map (some n5x0)) r6 f5x0 ∧ (RT.os 3 (RT.int .i64)).val M w357 (.slice a8 n8 c8) s276.2.2 f283 ∧ (RT.os 3 (RT.int .i64)).val M w357 (.slice a11 n11 c11) s341 f347)) (J := fun s356 a w357 => ∃ (σ : Nat → Value), a = fr 96 (ovl σ [(0, (.int .i64 n)), (4, (.pointer (some ⟨g3, 0, none⟩))), (5, (.pointer (some ⟨g4, 0, none⟩))), (9, (.map (some n5x0))), (10, (.int .i64 (r_.2.length : Int))), (11, (.slice a8 n8 c8)), (12, (.slice a11 n11 c11)), (13, (.int .i64 s250.1)), (16, (.int .i64 k343)), (17, (.int .i64 s356)), (57, (.int .i64 (s250.2.2.length : Int))), (58, (.int .i64 k343))]) ∧ Chg [] w w357 ∧ Own (Nw w []) M w357 (f347 ++ (f283 ++ (f5x0 ++ (([g4]) ++ (([g3]) ++ []))))) ∧ (RT.rs (RT.int .i64)).val M w357 (.slice pa0 pn0 pc0) op.2 ([]) ∧ (RT.rs (RT.rs (RT.int .i64))).val M w357 (.slice pa1 pn1 pc1) r_.2 ([]) ∧ BoxV w357 g3 36 [(.int .i64 op.1), (.slice pa0 pn0 pc0)] ∧ BoxV w357 g4 51 [(.int .i64 r_.1), (.slice pa1 pn1 pc1)] ∧ (RT.mo Value.bool).val M w357 (.map (some n5x0)) r6 f5x0 ∧ (RT.os 3 (RT.int .i64)).val M w357 (.slice a8 n8 c8) s276.2.2 f283 ∧ (RT.os 3 (RT.int .i64)).val M w357 (.slice a11 n11 c11) s341 f347) (K := (k_impl_firstBreak M w)) ?_ ?_ s276.2.2 0 0 o360 _ _ ?_ hl361 ?_
      ·rintro _ s356 a w357 ⟨k358, rfl, hd, σ, rfl, hC, hO, h0, h1, hb3, hb4, hv5x0, hv283, hv347⟩
       have hlt := drop_nil_ge hd
       refine c_seq (c_region ?_)
       refine pl_val (.bool (decide ((k358 : Int) < (s276.2.2.length : Int)))) (y_lss rfl rfl) ?_
       refine c_nil ?_
       refine c_seq ?_
       refine c_condF (congrArg Value.bool (decide_eq_false hlt)) ?_
       refine wp_exit ?_
       have hO := hO.fr4
       have hO := hO.fr4
       have hO := hO.fr4
       have hO := hO.fr4
       have hO := hO.fr4
       exact ⟨rfl, _, fr_ovl 96 ⟨rfl, rfl, rfl, rfl, rfl, rfl, rfl, rfl, rfl, rfl, rfl, rfl, trivial⟩, hC, hO, h0, h1, hb3, hb4, hv5x0, hv283, hv347⟩
      ·rintro _ x359 xs_ s356 o360 a w357 ⟨k358, rfl, hd, σ, rfl, hC, hO, h0, h1, hb3, hb4, hv5x0, hv283, hv347⟩ hs
       have hlt := drop_cons_lt hd
       have hxk358 := drop_cons_idx hd
       refine c_seq (c_region ?_)
       refine pl_val (.bool (decide ((k358 : Int) < (s276.2.2.length : Int)))) (y_lss rfl rfl) ?_
       refine c_nil ?_
       refine c_seq ?_
       refine c_condT (congrArg Value.bool (decide_eq_true hlt)) ?_
       refine wp_skip ?_
       refine c_seq ?_
       refine wp_block ?_
       refine c_seq (c_region ?_)
       obtain ⟨g362, f362, hg362, hk362, hp362, ha362, hf362⟩ := os_idx Sl25 Sz3 hv283 hxk358
       refine pl_val (.pointer (some ⟨g362, 0 + Int.toNat (k358 : Int) * 1, none⟩)) (hp362 _ _ _ _ _ _ _ _ _ rfl rfl) ?_
       refine pl_val (.int .i64 x359) (y_load rfl ((at_load_int Ag3 Sz3 ha362) _ (Chg.refl _ _))) ?_
       refine pl_val (.int .i64 x359) (y_assign rfl) ?_
       refine c_nil ?_
       refine c_region ?_
       refine pl_val (.int .i64 s356) (y_move rfl) ?_
       refine pl_val (.int .i64 n) (y_move rfl) ?_
       refine pl_val (.int .i64 (w64 (s356 * n))) (y_mul rfl rfl) ?_
       refine pl_val (.pointer (some ⟨g4, 1, none⟩)) (y_faddr rfl Fa51x1) ?_
       refine pl_val (.slice pa1 pn1 pc1) (y_load rfl ((box_load Ag49 Sz49 hb4 [(.int .i64 r_.1)] [(.slice pa1 pn1 pc1)] [] rfl rfl (fun _ => rfl)) _ (Chg.refl _ _))) ?_
       refine pl_val (.int .i64 x359) (y_move rfl) ?_
       obtain ⟨x363, hx363, hs⟩ := bind_some hs
       obtain ⟨b364, o364, hp364, ha364⟩ := rs_idx Sl49 Sz25 h1 hx363
       refine pl_val (.pointer (some ⟨b364, o364, none⟩)) (hp364 _ _ _ _ _ _ _ _ _ rfl rfl) ?_
       obtain ⟨v365, hl365, hv365⟩ := at_load Ag25 Sz25 (fun _ => rfl) ha364
       obtain ⟨a365, n365, c365, rfl⟩ := rs_sl hv365
       refine pl_val (.slice a365 n365 c365) (y_load rfl (hl365 _ (Chg.refl _ _))) ?_
       refine pl_val (.int .i64 k343) (y_move rfl) ?_
       obtain ⟨x367, hx367, hs⟩ := bind_some hs
       obtain ⟨b368, o368, hp368, ha368⟩ := rs_idx Sl25 Sz3 hv365 hx367
       refine pl_val (.pointer (some ⟨b368, o368, none⟩)) (hp368 _ _ _ _ _ _ _ _ _ rfl rfl) ?_
       refine pl_val (.int .i64 x367) (y_load rfl ((at_load_int Ag3 Sz3 ha368) _ (Chg.refl _ _))) ?_
       refine pl_val (.int .i64 (w64 ((w64 (s356 * n)) + x367))) (y_add rfl rfl) ?_
       refine pl_val (.int .i64 (w64 ((w64 (s356 * n)) + x367))) (y_assign rfl) ?_
       refine c_nil ?_
       refine c_region ?_
       refine pl_val (.int .i64 (w64 ((k358 : Int) + 1))) (y_add rfl rfl) ?_
       refine pl_val (.int .i64 (w64 ((k358 : Int) + 1))) (y_move rfl) ?_
       refine c_nil ?_
       cases hs
       have hO := hO.fr4
       have hO := hO.fr4
       have hO := hO.fr4
       have hO := hO.fr4
       have hO := hO.fr4
       exact ⟨_, rfl, drop_cons_next hd, _, fr_ovl 96 ⟨rfl, rfl, rfl, rfl, rfl, rfl, rfl, rfl, rfl, rfl, rfl, rfl, rfl, rfl, congrArg (Value.int .i64) (w64_succ hlt (Int.natCast_nonneg _) (os_max hv283)), trivial⟩, hC, hO, h0, h1, hb3, hb4, hv5x0, hv283, hv347⟩
      ·skip
       have hO := hO.fr4
       have hO := hO.fr4
       have hO := hO.fr4
       have hO := hO.fr4
       have hO := hO.fr4
       exact ⟨0, rfl, rfl, _, fr_ovl 96 ⟨rfl, rfl, rfl, rfl, rfl, rfl, rfl, rfl, rfl, rfl, rfl, rfl, rfl, rfl, rfl, trivial⟩, hC, hO, h0, h1, hb3, hb4, hv5x0, hv283, hv347⟩
      ·cases o360 with
       | nx _ => exact True.intro
       | rt r_ =>
        have hs := after_rt hs
        intro a1 w1 hK
        cases hs
        exact hK
       | br s356 =>
        have hs := after_br hs
        rintro a1 w357 ⟨σ, rfl, hC, hO, h0, h1, hb3, hb4, hv5x0, hv283, hv347⟩
        refine c_region ?_
        refine pl_val (.slice a11 n11 c11) (y_move rfl) ?_
        refine pl_val (.int .i64 k343) (y_move rfl) ?_
        refine pl_val (.pointer (some ⟨g3, 1, none⟩)) (y_faddr rfl Fa36x1) ?_
        refine pl_val (.slice pa0 pn0 pc0) (y_load rfl ((box_load Ag25 Sz25 hb3 [(.int .i64 op.1)] [(.slice pa0 pn0 pc0)] [] rfl rfl (fun _ => rfl)) _ (Chg.refl _ _))) ?_
        refine pl_val (.int .i64 s356) (y_move rfl) ?_
        obtain ⟨x369, hx369, hs⟩ := bind_some hs
        obtain ⟨b370, o370, hp370, ha370⟩ := rs_idx Sl25 Sz3 h0 hx369
        refine pl_val (.pointer (some ⟨b370, o370, none⟩)) (hp370 _ _ _ _ _ _ _ _ _ rfl rfl) ?_
        refine pl_val (.int .i64 x369) (y_load rfl ((at_load_int Ag3 Sz3 ha370) _ (Chg.refl _ _))) ?_
        obtain ⟨x371, hx371, hs⟩ := bind_some hs
        obtain ⟨g372, f372, hg372, hk372, hp372, ha372, hf372⟩ := os_idx Sl25 Sz3 hv347 hx371
        refine pl_val (.pointer (some ⟨g372, 0 + Int.toNat k343 * 1, none⟩)) (hp372 _ _ _ _ _ _ _ _ _ rfl rfl) ?_
        obtain ⟨w373, f373, hst373, hC373, hf373, hv373⟩ := os_store (P := Try.prog) (c' := [(.int .i64 x369)]) hg372 hv347 hk372 (fun g hg => hO.inM g (os_block hv347 g (by simpa using hg))) ⟨rfl, rfl⟩ List.nodup_nil (fun _ h => nomatch h) (fun _ h => .inl h)
        have hG373 : ∀ q ∈ [g372], q ∈ f347 := fun q hq => os_block hv347 q (by rw [hg372]; exact hq)
        refine pl_skip (w' := w373) (ys_store rfl rfl (hst373 _ _ rfl Sz3)) ?_
        have h0 := h0.mut hC373 (fun g hg => hO.inM g (hG373 g hg)) (fun _ _ h => nomatch h)
        have h1 := h1.mut hC373 (fun g hg => hO.inM g (hG373 g hg)) (fun _ _ h => nomatch h)
        have hb3 := hb3.chg hC373 (fun hg => hO.apart _ (hG373 _ hg) (mem_r (mem_r (mem_r (mem_l (List.mem_singleton.2 rfl))))))
        have hb4 := hb4.chg hC373 (fun hg => hO.apart _ (hG373 _ hg) (mem_r (mem_r (mem_l (List.mem_singleton.2 rfl)))))
        have hv5x0 := hv5x0.mut hC373 (fun g hg => hO.inM g (hG373 g hg)) (fun g hg e => hO.apart g (hG373 g hg) (mem_r (mem_l (e))))
        have hv283 := hv283.mut hC373 (fun g hg => hO.inM g (hG373 g hg)) (fun g hg e => hO.apart g (hG373 g hg) (mem_l (e)))
        have hC := hC.step hC373 (fun g hg => hO.inN g (hG373 g hg))
        have hO := hO.grow hC373 (fun q hq => .inl ((hf373 q hq).resolve_right (fun h => nomatch h))) (os_nodup hv373) hv373.fpl
        refine c_nil ?_
        refine c_region ?_
        refine pl_val (.int .i64 (w64 (k343 + 1))) (y_add rfl rfl) ?_
        refine pl_val (.int .i64 (w64 (k343 + 1))) (y_move rfl) ?_
        refine c_nil ?_
        cases hs
        have hO := hO.fr4
        have hO := hO.fr4
        have hO := hO.fr4
        have hO := hO.fr4
        have hO := hO.fr4
        exact ⟨_, f373, fr_ovl 96 ⟨rfl, rfl, rfl, rfl, rfl, rfl, rfl, rfl, rfl, congrArg (Value.int .i64) hw, trivial⟩, hC, hO, h0, h1, hb3, hb4, hv5x0, hv283, hv373⟩
     ·skip
      have hO := hO.fr4
      have hO := hO.fr4
      have hO := hO.fr4
      have hO := hO.fr4
      have hO := hO.fr4
      exact ⟨_, f257, fr_ovl 96 ⟨rfl, rfl, rfl, rfl, rfl, rfl, rfl, rfl, rfl, rfl, trivial⟩, hC, hO, h0, h1, hb3, hb4, hv5x0, hv283, hv257⟩
     ·cases o345 with
      | nx _ => exact True.intro
      | rt r_ =>
       have hs := after_rt hs
       intro a1 w1 hK
       cases hs
       exact hK
      | br s341 =>
       have hs := after_br hs
       rintro a1 w342 ⟨σ, f348, rfl, hC, hO, h0, h1, hb3, hb4, hv5x0, hv283, hv348⟩
       refine c_seq (c_region ?_)
       refine pl_val (.map (some n5x0)) (y_move rfl) ?_
       refine pl_val (.slice a11 n11 c11) (y_move rfl) ?_
       obtain ⟨r375, hr375, hs⟩ := bind_some hs
       refine pl_call Bd68 rfl (c_impl_keyOf (M := (Less M f348)) s341 (((Frz.os Frz.int)).val hv348 Less.sub Less.not) hO.less.fut hr375) ?_
       rintro _ w374 ⟨rfl, hC374⟩
       have h0 := h0.ext hC374
       have h1 := h1.ext hC374
       have hb3 := hb3.chg hC374 (fun h => nomatch h)
       have hb4 := hb4.chg hC374 (fun h => nomatch h)
       have hv5x0 := hv5x0.ext hC374
       have hv283 := hv283.ext hC374
       have hv348 := hv348.ext hC374
       have hC := hC.ext hC374
       have hO := hO.ext hC374
       refine pl_val (.bool ((mget r6 r375).getD false)) (y_look (enc := Value.bool) Try.underlying88 Try.underlying9 Zv4 (mo_at hv5x0) rfl rfl) ?_
       refine pl_val (.bool (!((mget r6 r375).getD false))) (y_not rfl) ?_
       refine c_nil ?_
       rcases bif_some hs with ⟨hc376, hs⟩ | ⟨hc376, hs⟩
       ·skip
        refine c_condT (congrArg Value.bool hc376) ?_
        refine c_seq (c_region ?_)
        refine pl_val (.slice a8 n8 c8) (y_move rfl) ?_
        refine pl_val (.slice a11 n11 c11) (y_move rfl) ?_
        refine pl_val (.slice a8 n8 c8) (y_assign rfl) ?_
        refine pl_val (.slice a11 n11 c11) (y_assign rfl) ?_
        refine pl_val (.bool true) (y_assign rfl) ?_
        refine c_nil ?_
        refine wp_ret ?_
        cases hs
        have hO := hO.fr2
        have hO := hO.drop
        have hO := hO.fr2
        have hO := hO.drop
        have hO := hO.fr2
        have hO := hO.drop
        have hO := hO.fr1
        exact ⟨_, a8, n8, c8, f283, a11, n11, c11, f348, fr_ovl 96 ⟨rfl, rfl, rfl, trivial⟩, hC, hv283, hv348, hO.top⟩
       ·skip
        refine c_condF (congrArg Value.bool hc376) ?_
        refine wp_skip ?_
        refine c_region ?_
        refine pl_val (.int .i64 s250.1) (y_move rfl) ?_
        refine pl_val (.int .i64 (w64 (s250.1 + 1))) (y_add rfl rfl) ?_
        refine pl_val (.int .i64 (w64 (s250.1 + 1))) (y_assign rfl) ?_
        refine c_nil ?_
        cases hs
        have hO := hO.fr4
        have hO := hO.fr4
        have hO := hO.fr4
        have hO := hO.fr4
        have hO := hO.fr4
        exact ⟨_, f283, f348, fr_ovl 96 ⟨rfl, rfl, rfl, rfl, rfl, rfl, rfl, rfl, trivial⟩, hC, hO, h0, h1, hb3, hb4, hv5x0, hv283, hv348⟩
  ·skip
   refine c_condF (congrArg Value.bool hc262) ?_
   refine wp_exit ?_
   cases hs
   have hO := hO.fr4
   have hO := hO.fr4
   have hO := hO.fr4
   have hO := hO.fr4
   have hO := hO.fr4
   exact ⟨rfl, _, f256, f257, fr_ovl 96 trivial, hC, hO, h0, h1, hb3, hb4, hv5x0, hv256, hv257⟩
 ·skip
  have hO := hO.fr4
  have hO := hO.fr4
  have hO := hO.fr4
  have hO := hO.fr4
  have hO := hO.fr4
  exact ⟨_, f8, f11, fr_ovl 96 ⟨rfl, rfl, rfl, rfl, rfl, rfl, rfl, rfl, trivial⟩, hC, hO, h0, h1, hb3, hb4, hv5x0, hv8, hv11⟩
 ·cases o254 with
  | nx _ => exact True.intro
  | rt r_ =>
   have hs := after_rt hs
   intro a1 w1 hK
   cases hs
   exact hK
  | br s250 =>
   have hs := after_br hs
   rintro a1 w251 ⟨σ, f258, f259, rfl, hC, hO, h0, h1, hb3, hb4, hv5x0, hv258, hv259⟩
   refine c_seq (c_region ?_)
   refine pl_val (.slice none 0 0) (y_assign rfl) ?_
   refine pl_val (.slice none 0 0) (y_assign rfl) ?_
   refine pl_val (.bool false) (y_assign rfl) ?_
   refine c_nil ?_
   refine wp_ret ?_
   cases hs
   have hO := hO.drop
   have hO := hO.drop
   have hO := hO.drop
   have hO := hO.drop
   have hO := hO.drop
   have hO := hO.nil
   have hO := hO.nil
   exact ⟨_, none, 0, 0, [], none, 0, 0, [], fr_ovl 96 ⟨rfl, rfl, rfl, trivial⟩, hC, os_nil, os_nil, hO.top⟩

theorem Sl43 : SlT Try.prog 43 51 := Try.underlying43

theorem Bd51 : Bodied Try.prog 51 := bodied Try.func51 (by kernel_rfl) rfl

def k_impl_keepsAll (M : Nat → Prop) (w0 : World) (r : Bool) (a : Act) (w : World) : Prop :=
  ∃ (σ : Nat → Value) , a = fr 28 (ovl σ [(6, (.bool r))]) ∧ Chg [] w0 w
def s_impl_keepsAll (n : Int) (rels : List (Int × (List (List Int)))) (op : Int × (List Int)) : Option (Bool) :=
  (forR (S := Unit) (R := Bool) (fun _ x17 s14 =>
  (s_impl_firstBreak n (op.1, op.2) (x17.1, x17.2)).bind fun r26 =>
  (bif r26.2.2 then some (.rt false) else some (.nx ()))) 0 rels ()).bind fun o18 => after o18 (fun r_ => some r_) (fun s14 =>
  some true)
set_option maxHeartbeats 4000000 in
theorem c_impl_keepsAll {M : Nat → Prop} {w : World} {pa0 : Option Addr} {pn0 pc0 : Nat} {pa1 : Option Addr} {pn1 pc1 : Nat} (n : Int) (rels : List (Int × (List (List Int)))) (op : Int × (List Int)) (h0 : (RT.rs (RT.pr (RT.int .i64) (RT.rs (RT.rs (RT.int .i64))))).val M w (.slice pa0 pn0 pc0) rels ([])) (h1 : (RT.rs (RT.int .i64)).val M w (.slice pa1 pn1 pc1) op.2 ([])) (hM : ∀ g, w.heap.size ≤ g → M g) {r : Bool} (hs : s_impl_keepsAll n rels op = some r) :
    Gives Try.prog 41 [(.int .i64 n), (.slice pa0 pn0 pc0), (.agg #[(.int .i64 op.1), (.slice pa1 pn1 pc1)])] w (fun v w' => v = (.bool r) ∧ Chg [] w w') := by
 refine calls_fr Try.func41 rfl Try.ntmps41 (Nat.le_of_ble_eq_true rfl) ?_
 have hO := Own.start (N := Nw w []) hM Nw.fut
 have hC := Chg.refl [] w
 unfold s_impl_keepsAll at hs
 refine wp_mono (Q := KPost (k_impl_keepsAll M w r)) ?_ (fun e a w1 h => ?_)
 rotate_left
 ·cases e
  case ret =>
   obtain ⟨σ, rfl, hrest⟩ := h
   exact ret1x Try.results41 (res_tmp rfl) ⟨rfl, hrest⟩
  all_goals exact (h : False).elim
 refine c_seq (c_region ?_)
 obtain ⟨w3, g3, ew3, eg3, hC3, hb3⟩ := new_block w [(.int .i64 op.1), (.slice pa1 pn1 pc1)] 36
 refine pl_val (w' := w3) (.pointer (some ⟨g3, 0, none⟩)) (y_box rfl (by rw [ew3, eg3]; kernel_rfl)) ?_
 have h0 := h0.ext hC3
 have h1 := h1.ext hC3
 have hC := hC.ext hC3
 have hO := hO.new1 hC3 eg3 hb3.lt
 refine pl_val (.bool false) (y_assign rfl) ?_
 refine c_nil ?_
 refine c_seq ?_
 refine c_seq (c_region ?_)
 refine pl_val (.slice pa0 pn0 pc0) (y_move rfl) ?_
 refine pl_val (.int .i64 (rels.length : Int)) (y_len' Sl43 (rs_len h0) rfl) ?_
 refine pl_val (.int .i64 0) (y_move rfl) ?_
 refine c_nil ?_
 obtain ⟨o18, hl19, hs⟩ := bind_some hs
 refine wp_block ?_
 refine wp_forR (id := 0) (I := fun i_ xs_ s14 a w15 => ∃ k16 : Nat, i_ = (k16 : Int) ∧ List.drop k16 rels = xs_ ∧ (∃ (σ : Nat → Value), a = fr 28 (ovl σ [(0, (.int .i64 n)), (5, (.pointer (some ⟨g3, 0, none⟩))), (12, (.slice pa0 pn0 pc0)), (13, (.int .i64 (rels.length : Int))), (14, (.int .i64 (k16 : Int)))]) ∧ Chg [] w w15 ∧ Own (Nw w []) M w15 (([g3]) ++ []) ∧ (RT.rs (RT.pr (RT.int .i64) (RT.rs (RT.rs (RT.int .i64))))).val M w15 (.slice pa0 pn0 pc0) rels ([]) ∧ (RT.rs (RT.int .i64)).val M w15 (.slice pa1 pn1 pc1) op.2 ([]) ∧ BoxV w15 g3 36 [(.int .i64 op.1), (.slice pa1 pn1 pc1)])) (J := fun s14 a w15 => ∃ (σ : Nat → Value), a = fr 28 (ovl σ []) ∧ Chg [] w w15 ∧ Own (Nw w []) M w15 (([g3]) ++ []) ∧ (RT.rs (RT.pr (RT.int .i64) (RT.rs (RT.rs (RT.int .i64))))).val M w15 (.slice pa0 pn0 pc0) rels ([]) ∧ (RT.rs (RT.int .i64)).val M w15 (.slice pa1 pn1 pc1) op.2 ([]) ∧ BoxV w15 g3 36 [(.int .i64 op.1), (.slice pa1 pn1 pc1)]) (K := (k_impl_keepsAll M w)) ?_ ?_ rels 0 () o18 _ _ ?_ hl19 ?_
 ·rintro _ s14 a w15 ⟨k16, rfl, hd, σ, rfl, hC, hO, h0, h1, hb3⟩
  have hlt := drop_nil_ge hd
  refine c_seq (c_region ?_)
  refine pl_val (.bool (decide ((k16 : Int) < (rels.length : Int)))) (y_lss rfl rfl) ?_
  refine c_nil ?_
  refine c_seq ?_
  refine c_condF (congrArg Value.bool (decide_eq_false hlt)) ?_
  refine wp_exit ?_
  exact ⟨rfl, _, fr_ovl 28 trivial, hC, hO, h0, h1, hb3⟩
 ·rintro _ x17 xs_ s14 o18 a w15 ⟨k16, rfl, hd, σ, rfl, hC, hO, h0, h1, hb3⟩ hs
  have hlt := drop_cons_lt hd
  have hxk16 := drop_cons_idx hd
  refine c_seq (c_region ?_)
  refine pl_val (.bool (decide ((k16 : Int) < (rels.length : Int)))) (y_lss rfl rfl) ?_
  refine c_nil ?_
  refine c_seq ?_
  refine c_condT (congrArg Value.bool (decide_eq_true hlt)) ?_
  refine wp_skip ?_
  refine c_seq ?_
  refine wp_block ?_
  refine c_seq (c_region ?_)
  obtain ⟨b20, o20, hp20, ha20⟩ := rs_idx Sl43 Sz51 h0 hxk16
  refine pl_val (.pointer (some ⟨b20, o20, none⟩)) (hp20 _ _ _ _ _ _ _ _ _ rfl rfl) ?_
  obtain ⟨v21, hl21, hv21⟩ := at_load Ag51 Sz51 (by intro h; cases h) ha20
  obtain ⟨cs21, rfl, hr21⟩ := hv21
  obtain ⟨cc21x1, cd21x1, rfl, hh21x1, ht21x1⟩ := pr_open hr21
  obtain rfl := int_rel hh21x1
  obtain ⟨a21x2, n21x2, c21x2, rfl, hv21x2⟩ := rs_rel ht21x1
  refine pl_val (.agg #[(.int .i64 x17.1), (.slice a21x2 n21x2 c21x2)]) (y_load rfl (hl21 _ (Chg.refl _ _))) ?_
  obtain ⟨w23, g23, ew23, eg23, hC23, hb23⟩ := new_block w15 [(.int .i64 0), (.slice none 0 0)] 51
  refine pl_val (w' := w23) (.pointer (some ⟨g23, 0, none⟩)) (y_alloc (by rw [ew23, eg23]; kernel_rfl)) ?_
  have h0 := h0.ext hC23
  have h1 := h1.ext hC23
  have hb3 := hb3.chg hC23 (fun h => nomatch h)
  have hv21x2 := hv21x2.ext hC23
  have hC := hC.ext hC23
  have hO := hO.new1 hC23 eg23 hb23.lt
  obtain ⟨w24, hst24, hC24, hb24⟩ := box_store (P := Try.prog) hb23 [] [(.int .i64 0), (.slice none 0 0)] [] [(.int .i64 x17.1), (.slice a21x2 n21x2 c21x2)] rfl rfl (by intro u hu; simp only [List.mem_cons, List.not_mem_nil, or_false] at hu; rcases hu with rfl | rfl <;> rfl)
  refine pl_skip (w' := w24) (ys_store rfl rfl (hst24 _ _ rfl Sz51)) ?_
  have h0 := h0.mut hC24 (fun g hg => hO.inM g ((fun _ h => h) g hg)) (fun _ _ h => nomatch h)
  have h1 := h1.mut hC24 (fun g hg => hO.inM g ((fun _ h => h) g hg)) (fun _ _ h => nomatch h)
  have hb3 := hb3.chg hC24 (fun hg => hO.apart _ ((fun _ h => h) _ hg) (mem_l (List.mem_singleton.2 rfl)))
  have hv21x2 := hv21x2.mut hC24 (fun g hg => hO.inM g ((fun _ h => h) g hg)) (fun _ _ h => nomatch h)
  have hC := hC.step hC24 (fun g hg => hO.inN g ((fun _ h => h) g hg))
  have hO := hO.ext hC24
  have hb24 : BoxV w24 g23 51 [(.int .i64 x17.1), (.slice a21x2 n21x2 c21x2)] := hb24
  refine c_nil ?_
  refine c_seq (c_region ?_)
  refine pl_val (.int .i64 n) (y_move rfl) ?_
  refine pl_val (.agg #[(.int .i64 op.1), (.slice pa1 pn1 pc1)]) (y_load rfl ((box_load Ag36 Sz36 hb3 [] [(.int .i64 op.1), (.slice pa1 pn1 pc1)] [] rfl rfl (fun h => nomatch h)) _ (Chg.refl _ _))) ?_
  refine pl_val (.agg #[(.int .i64 x17.1), (.slice a21x2 n21x2 c21x2)]) (y_load rfl ((box_load Ag51 Sz51 hb24 [] [(.int .i64 x17.1), (.slice a21x2 n21x2 c21x2)] [] rfl rfl (fun h => nomatch h)) _ (Chg.refl _ _))) ?_
  obtain ⟨r26, hr26, hs⟩ := bind_some hs
  refine pl_call Bd51 rfl (c_impl_firstBreak (M := M) n (op.1, op.2) (x17.1, x17.2) h1 hv21x2 hO.fut hr26) ?_
  rintro _ w25 ⟨a25x0, n25x0, c25x0, f25x0, a25x1, n25x1, c25x1, f25x1, rfl, hC25, hv25x0, hv25x1, hOc25⟩
  have h0 := h0.ext hC25
  have h1 := h1.ext hC25
  have hb3 := hb3.chg hC25 (fun h => nomatch h)
  have hv21x2 := hv21x2.ext hC25
  have hb24 := hb24.chg hC25 (fun h => nomatch h)
  have hC := hC.ext hC25
  have hO := Own.join0 hO hC25 hOc25
  have hO := hO.perm (R := f25x0 ++ (f25x1 ++ (([g23]) ++ (([g3]) ++ ([]))))) (by simp)
  refine pl_val (.tuple #[(.slice a25x0 n25x0 c25x0), (.slice a25x1 n25x1 c25x1), (.bool r26.2.2)]) (y_move rfl) ?_
  refine pl_val (.slice a25x0 n25x0 c25x0) (y_extract rfl (by kernel_rfl)) ?_
  refine pl_val (.slice a25x1 n25x1 c25x1) (y_extract rfl (by kernel_rfl)) ?_
  refine pl_val (.bool r26.2.2) (y_extract rfl (by kernel_rfl)) ?_
  refine pl_val (.slice a25x0 n25x0 c25x0) (y_assign rfl) ?_
  refine pl_val (.slice a25x1 n25x1 c25x1) (y_assign rfl) ?_
  refine pl_val (.bool r26.2.2) (y_assign rfl) ?_
  refine c_nil ?_
  refine c_seq (c_region ?_)
  refine pl_val (.bool r26.2.2) (y_move rfl) ?_
  refine c_nil ?_
  rcases bif_some hs with ⟨hc29, hs⟩ | ⟨hc29, hs⟩
  ·skip
   refine c_condT (congrArg Value.bool hc29) ?_
   refine c_seq (c_region ?_)
   refine pl_val (.bool false) (y_assign rfl) ?_
   refine c_nil ?_
   refine wp_ret ?_
   cases hs
   exact ⟨_, fr_ovl 28 ⟨rfl, trivial⟩, hC⟩
  ·skip
   refine c_condF (congrArg Value.bool hc29) ?_
   refine wp_skip ?_
   refine c_region ?_
   refine pl_val (.int .i64 (w64 ((k16 : Int) + 1))) (y_add rfl rfl) ?_
   refine pl_val (.int .i64 (w64 ((k16 : Int) + 1))) (y_move rfl) ?_
   refine c_nil ?_
   cases hs
   have hO := hO.drop
   have hO := hO.drop
   have hO := hO.drop
   exact ⟨_, rfl, drop_cons_next hd, _, fr_ovl 28 ⟨rfl, rfl, rfl, rfl, congrArg (Value.int .i64) (w64_succ hlt (Int.natCast_nonneg _) (rs_max h0)), trivial⟩, hC, hO, h0, h1, hb3⟩
 ·skip
  exact ⟨0, rfl, rfl, _, fr_ovl 28 ⟨rfl, rfl, rfl, rfl, rfl, trivial⟩, hC, hO, h0, h1, hb3⟩
 ·cases o18 with
  | nx _ => exact True.intro
  | rt r_ =>
   have hs := after_rt hs
   intro a1 w1 hK
   cases hs
   exact hK
  | br s14 =>
   have hs := after_br hs
   rintro a1 w15 ⟨σ, rfl, hC, hO, h0, h1, hb3⟩
   refine c_seq (c_region ?_)
   refine pl_val (.bool true) (y_assign rfl) ?_
   refine c_nil ?_
   refine wp_ret ?_
   cases hs
   exact ⟨_, fr_ovl 28 ⟨rfl, trivial⟩, hC⟩

theorem Bd39 : Bodied Try.prog 39 := bodied Try.func39 (by kernel_rfl) rfl

theorem Bd41 : Bodied Try.prog 41 := bodied Try.func41 (by kernel_rfl) rfl

def k_impl_KeepsAllPairs (M : Nat → Prop) (w0 : World) (r : Bool × Bool) (a : Act) (w : World) : Prop :=
  ∃ (σ : Nat → Value) , a = fr 27 (ovl σ [(4, (.bool r.1)), (5, (.bool r.2))]) ∧ Chg [] w0 w
def s_impl_KeepsAllPairs (a_ : Int × (List (Int × (List Int)))) (op : Int × (List Int)) : Option (Bool × Bool) :=
  (s_impl_allPairRelations (a_.1, a_.2)).bind fun r6 =>
  ((bif (!r6.2) then some true else (s_impl_isOp (op.1, op.2) a_.1).bind fun r13 =>
  some (!r13))).bind fun s8 =>
  (bif s8 then some (false, false) else (s_impl_keepsAll a_.1 r6.1 (op.1, op.2)).bind fun r16 =>
  some (r16, true))
set_option maxHeartbeats 4000000 in
theorem c_impl_KeepsAllPairs {M : Nat → Prop} {w : World} {pa0 : Option Addr} {pn0 pc0 : Nat} {pa1 : Option Addr} {pn1 pc1 : Nat} (a_ : Int × (List (Int × (List Int)))) (op : Int × (List Int)) (h0 : (RT.rs (RT.pr (RT.int .i64) (RT.rs (RT.int .i64)))).val M w (.slice pa0 pn0 pc0) a_.2 ([])) (h1 : (RT.rs (RT.int .i64)).val M w (.slice pa1 pn1 pc1) op.2 ([])) (hM : ∀ g, w.heap.size ≤ g → M g) {r : Bool × Bool} (hs : s_impl_KeepsAllPairs a_ op = some r) :
    Gives Try.prog 13 [(.agg #[(.int .i64 a_.1), (.slice pa0 pn0 pc0)]), (.agg #[(.int .i64 op.1), (.slice pa1 pn1 pc1)])] w (fun v w' => v = (.tuple #[(.bool r.1), (.bool r.2)]) ∧ Chg [] w w') := by
 refine calls_fr Try.func13 rfl Try.ntmps13 (Nat.le_of_ble_eq_true rfl) ?_
 have hO := Own.start (N := Nw w []) hM Nw.fut
 have hC := Chg.refl [] w
 unfold s_impl_KeepsAllPairs at hs
 refine wp_mono (Q := KPost (k_impl_KeepsAllPairs M w r)) ?_ (fun e a w1 h => ?_)
 rotate_left
 ·cases e
  case ret =>
   obtain ⟨σ, rfl, hrest⟩ := h
   exact ret2x Try.results13 (res_tmp rfl) (res_tmp rfl) ⟨rfl, hrest⟩
  all_goals exact (h : False).elim
 refine c_seq (c_region ?_)
 obtain ⟨w3, g3, ew3, eg3, hC3, hb3⟩ := new_block w [(.int .i64 a_.1), (.slice pa0 pn0 pc0)] 34
 refine pl_val (w' := w3) (.pointer (some ⟨g3, 0, none⟩)) (y_box rfl (by rw [ew3, eg3]; kernel_rfl)) ?_
 have h0 := h0.ext hC3
 have h1 := h1.ext hC3
 have hC := hC.ext hC3
 have hO := hO.new1 hC3 eg3 hb3.lt
 obtain ⟨w4, g4, ew4, eg4, hC4, hb4⟩ := new_block w3 [(.int .i64 op.1), (.slice pa1 pn1 pc1)] 36
 refine pl_val (w' := w4) (.pointer (some ⟨g4, 0, none⟩)) (y_box rfl (by rw [ew4, eg4]; kernel_rfl)) ?_
 have h0 := h0.ext hC4
 have h1 := h1.ext hC4
 have hb3 := hb3.chg hC4 (fun h => nomatch h)
 have hC := hC.ext hC4
 have hO := hO.new1 hC4 eg4 hb4.lt
 refine pl_val (.bool false) (y_assign rfl) ?_
 refine pl_val (.bool false) (y_assign rfl) ?_
 refine c_nil ?_
 refine c_seq (c_region ?_)
 refine pl_val (.agg #[(.int .i64 a_.1), (.slice pa0 pn0 pc0)]) (y_load rfl ((box_load Ag34 Sz34 hb3 [] [(.int .i64 a_.1), (.slice pa0 pn0 pc0)] [] rfl rfl (fun h => nomatch h)) _ (Chg.refl _ _))) ?_
 obtain ⟨r6, hr6, hs⟩ := bind_some hs
 refine pl_call Bd39 rfl (c_impl_allPairRelations (M := M) (a_.1, a_.2) h0 hO.fut hr6) ?_
 rintro _ w5 ⟨a5x0, n5x0, c5x0, f5x0, rfl, hC5, hv5x0, hOc5⟩
 have h0 := h0.ext hC5
 have h1 := h1.ext hC5
 have hb3 := hb3.chg hC5 (fun h => nomatch h)
 have hb4 := hb4.chg hC5 (fun h => nomatch h)
 have hC := hC.ext hC5
 have hO := Own.join0 hO hC5 hOc5
 have hO := hO.perm (R := f5x0 ++ (([g4]) ++ (([g3]) ++ ([])))) (by simp)
 refine pl_val (.tuple #[(.slice a5x0 n5x0 c5x0), (.bool r6.2)]) (y_move rfl) ?_
 refine pl_val (.slice a5x0 n5x0 c5x0) (y_extract rfl (by kernel_rfl)) ?_
 refine pl_val (.bool r6.2) (y_extract rfl (by kernel_rfl)) ?_
 refine pl_val (.slice a5x0 n5x0 c5x0) (y_assign rfl) ?_
 refine pl_val (.bool r6.2) (y_assign rfl) ?_
 refine c_nil ?_
 refine c_seq ?_
 refine c_seq ?_
 obtain ⟨s8, hm10, hs⟩ := bind_some hs
 refine c_mid (I := fun a w9 => ∃ (σ : Nat → Value), a = fr 27 (ovl σ [(2, (.pointer (some ⟨g3, 0, none⟩))), (3, (.pointer (some ⟨g4, 0, none⟩))), (4, (.bool false)), (5, (.bool false)), (6, (.slice a5x0 n5x0 c5x0)), (21, (.bool s8))]) ∧ Chg [] w5 w9) ?_ ?_
 ·replace hs := hm10
  have hMid := Chg.refl [] w5
  refine c_region ?_
  refine pl_val (.bool r6.2) (y_move rfl) ?_
  refine pl_val (.bool (!r6.2)) (y_not rfl) ?_
  refine pl_val (.bool (!r6.2)) (y_move rfl) ?_
  rcases bif_some hs with ⟨hc11, hs⟩ | ⟨hc11, hs⟩
  ·skip
   refine pl_not (tg := 15) (by kernel_rfl) (congrArg Value.bool hc11) ?_
   refine pl_not (tg := 15) (by kernel_rfl) (congrArg Value.bool hc11) ?_
   refine pl_not (tg := 15) (by kernel_rfl) (congrArg Value.bool hc11) ?_
   refine pl_not (tg := 15) (by kernel_rfl) (congrArg Value.bool hc11) ?_
   refine pl_not (tg := 15) (by kernel_rfl) (congrArg Value.bool hc11) ?_
   refine pl_val (.bool true) (y_pick_t (congrArg Value.bool hc11) rfl) ?_
   refine c_nil ?_
   cases hs
   exact ⟨_, fr_ovl 27 ⟨rfl, rfl, rfl, rfl, rfl, rfl, trivial⟩, hMid⟩
  ·skip
   refine pl_yes (.agg #[(.int .i64 op.1), (.slice pa1 pn1 pc1)]) (tg := 15) (by kernel_rfl) (congrArg Value.bool hc11) (y_load rfl ((box_load Ag36 Sz36 hb4 [] [(.int .i64 op.1), (.slice pa1 pn1 pc1)] [] rfl rfl (fun h => nomatch h)) _ (Chg.refl _ _))) ?_
   refine pl_yes (.pointer (some ⟨g3, 0, none⟩)) (tg := 15) (by kernel_rfl) (congrArg Value.bool hc11) (y_faddr rfl Fa34x0) ?_
   refine pl_yes (.int .i64 a_.1) (tg := 15) (by kernel_rfl) (congrArg Value.bool hc11) (y_load rfl ((box_load Ag3 Sz3 hb3 [] [(.int .i64 a_.1)] [(.slice pa0 pn0 pc0)] rfl rfl (fun _ => rfl)) _ (Chg.refl _ _))) ?_
   obtain ⟨r13, hr13, hs⟩ := bind_some hs
   refine pl_cally (tg := 15) (by kernel_rfl) (congrArg Value.bool hc11) Bd40 rfl (c_impl_isOp (M := M) (op.1, op.2) a_.1 h1 hO.fut hr13) ?_
   rintro _ w12 ⟨rfl, hC12⟩
   have h0 := h0.ext hC12
   have h1 := h1.ext hC12
   have hb3 := hb3.chg hC12 (fun h => nomatch h)
   have hb4 := hb4.chg hC12 (fun h => nomatch h)
   have hv5x0 := hv5x0.ext hC12
   have hMid := hMid.ext hC12
   have hC := hC.ext hC12
   have hO := hO.ext hC12
   refine pl_yes (.bool (!r13)) (tg := 15) (by kernel_rfl) (congrArg Value.bool hc11) (y_not rfl) ?_
   refine pl_val (.bool (!r13)) (y_pick_f (congrArg Value.bool hc11) rfl) ?_
   refine c_nil ?_
   cases hs
   exact ⟨_, fr_ovl 27 ⟨rfl, rfl, rfl, rfl, rfl, rfl, trivial⟩, hMid⟩
 ·rintro a1 w9 ⟨σ, rfl, hCs8⟩
  have h0 := h0.ext hCs8
  have h1 := h1.ext hCs8
  have hb3 := hb3.chg hCs8 (fun h => nomatch h)
  have hb4 := hb4.chg hCs8 (fun h => nomatch h)
  have hv5x0 := hv5x0.ext hCs8
  have hC := hC.ext hCs8
  have hO := hO.ext hCs8
  rcases bif_some hs with ⟨hc14, hs⟩ | ⟨hc14, hs⟩
  ·skip
   refine c_condT (congrArg Value.bool hc14) ?_
   refine c_seq (c_region ?_)
   refine pl_val (.bool false) (y_assign rfl) ?_
   refine pl_val (.bool false) (y_assign rfl) ?_
   refine c_nil ?_
   refine wp_ret ?_
   cases hs
   exact ⟨_, fr_ovl 27 ⟨rfl, rfl, trivial⟩, hC⟩
  ·skip
   refine c_condF (congrArg Value.bool hc14) ?_
   refine wp_skip ?_
   refine c_seq (c_region ?_)
   refine pl_val (.pointer (some ⟨g3, 0, none⟩)) (y_faddr rfl Fa34x0) ?_
   refine pl_val (.int .i64 a_.1) (y_load rfl ((box_load Ag3 Sz3 hb3 [] [(.int .i64 a_.1)] [(.slice pa0 pn0 pc0)] rfl rfl (fun _ => rfl)) _ (Chg.refl _ _))) ?_
   refine pl_val (.slice a5x0 n5x0 c5x0) (y_move rfl) ?_
   refine pl_val (.agg #[(.int .i64 op.1), (.slice pa1 pn1 pc1)]) (y_load rfl ((box_load Ag36 Sz36 hb4 [] [(.int .i64 op.1), (.slice pa1 pn1 pc1)] [] rfl rfl (fun h => nomatch h)) _ (Chg.refl _ _))) ?_
   obtain ⟨r16, hr16, hs⟩ := bind_some hs
   refine pl_call Bd41 rfl (c_impl_keepsAll (M := (Less M f5x0)) a_.1 r6.1 (op.1, op.2) (((Frz.os (Frz.pr Frz.int (Frz.os (Frz.os Frz.int))))).val hv5x0 Less.sub Less.not) (h1.sub Less.sub) hO.less.fut hr16) ?_
   rintro _ w15 ⟨rfl, hC15⟩
   have h0 := h0.ext hC15
   have h1 := h1.ext hC15
   have hb3 := hb3.chg hC15 (fun h => nomatch h)
   have hb4 := hb4.chg hC15 (fun h => nomatch h)
   have hv5x0 := hv5x0.ext hC15
   have hC := hC.ext hC15
   have hO := hO.ext hC15
   refine pl_val (.bool r16) (y_assign rfl) ?_
   refine pl_val (.bool true) (y_assign rfl) ?_
   refine c_nil ?_
   refine wp_ret ?_
   cases hs
   exact ⟨_, fr_ovl 27 ⟨rfl, rfl, trivial⟩, hC⟩

def k_laws_eqIntS (M : Nat → Prop) (w0 : World) (r : Bool) (a : Act) (w : World) : Prop :=
  ∃ (σ : Nat → Value) , a = fr 26 (ovl σ [(4, (.bool r))]) ∧ Chg [] w0 w
def s_laws_eqIntS (a_ : List Int) (b : List Int) : Option (Bool) :=
  (bif ((a_.length : Int) != (b.length : Int)) then some false else (forC (S := Unit) (R := Bool) (fun k12 s10 =>
  (idx a_ k12).bind fun x17 =>
  (idx b k12).bind fun x19 =>
  (bif (x17 != x19) then some (.rt false) else some (.nx ()))) 0 (a_.length : Int) ()).bind fun o14 => after o14 (fun r_ => some r_) (fun s10 =>
  some true))
set_option maxHeartbeats 4000000 in
theorem c_laws_eqIntS {M : Nat → Prop} {w : World} {pa0 : Option Addr} {pn0 pc0 : Nat} {pa1 : Option Addr} {pn1 pc1 : Nat} (a_ : List Int) (b : List Int) (h0 : (RT.rs (RT.int .i64)).val M w (.slice pa0 pn0 pc0) a_ ([])) (h1 : (RT.rs (RT.int .i64)).val M w (.slice pa1 pn1 pc1) b ([])) (hM : ∀ g, w.heap.size ≤ g → M g) {r : Bool} (hs : s_laws_eqIntS a_ b = some r) :
    Gives Try.prog 43 [(.slice pa0 pn0 pc0), (.slice pa1 pn1 pc1)] w (fun v w' => v = (.bool r) ∧ Chg [] w w') := by
 refine calls_fr Try.func43 rfl Try.ntmps43 (Nat.le_of_ble_eq_true rfl) ?_
 have hO := Own.start (N := Nw w []) hM Nw.fut
 have hC := Chg.refl [] w
 unfold s_laws_eqIntS at hs
 refine wp_mono (Q := KPost (k_laws_eqIntS M w r)) ?_ (fun e a w1 h => ?_)
 rotate_left
 ·cases e
  case ret =>
   obtain ⟨σ, rfl, hrest⟩ := h
   exact ret1x Try.results43 (res_tmp rfl) ⟨rfl, hrest⟩
  all_goals exact (h : False).elim
 refine c_seq (c_region ?_)
 refine pl_val (.bool false) (y_assign rfl) ?_
 refine c_nil ?_
 refine c_seq ?_
 refine c_seq (c_region ?_)
 refine pl_val (.slice pa0 pn0 pc0) (y_move rfl) ?_
 refine pl_val (.int .i64 (a_.length : Int)) (y_len' Sl25 (rs_len h0) rfl) ?_
 refine pl_val (.slice pa1 pn1 pc1) (y_move rfl) ?_
 refine pl_val (.int .i64 (b.length : Int)) (y_len' Sl25 (rs_len h1) rfl) ?_
 refine pl_val (.bool ((a_.length : Int) != (b.length : Int))) (y_neq rfl rfl) ?_
 refine c_nil ?_
 rcases bif_some hs with ⟨hc3, hs⟩ | ⟨hc3, hs⟩
 ·skip
  refine c_condT (congrArg Value.bool hc3) ?_
  refine c_seq (c_region ?_)
  refine pl_val (.bool false) (y_assign rfl) ?_
  refine c_nil ?_
  refine wp_ret ?_
  cases hs
  exact ⟨_, fr_ovl 26 ⟨rfl, trivial⟩, hC⟩
 ·skip
  refine c_condF (congrArg Value.bool hc3) ?_
  refine wp_skip ?_
  refine c_seq ?_
  refine c_seq (c_region ?_)
  refine pl_val (.int .i64 0) (y_assign rfl) ?_
  refine c_nil ?_
  obtain ⟨o14, hl15, hs⟩ := bind_some hs
  refine wp_block ?_
  refine wp_forC (id := 0) (a_.length : Int) (I := fun k12 s10 a w11 => ∃ (σ : Nat → Value), a = fr 26 (ovl σ [(0, (.slice pa0 pn0 pc0)), (1, (.slice pa1 pn1 pc1)), (5, (.int .i64 k12))]) ∧ Chg [] w w11 ∧ Own (Nw w []) M w11 ([]) ∧ (RT.rs (RT.int .i64)).val M w11 (.slice pa0 pn0 pc0) a_ ([]) ∧ (RT.rs (RT.int .i64)).val M w11 (.slice pa1 pn1 pc1) b ([])) (J := fun s10 a w11 => ∃ (σ : Nat → Value), a = fr 26 (ovl σ []) ∧ Chg [] w w11 ∧ Own (Nw w []) M w11 ([]) ∧ (RT.rs (RT.int .i64)).val M w11 (.slice pa0 pn0 pc0) a_ ([]) ∧ (RT.rs (RT.int .i64)).val M w11 (.slice pa1 pn1 pc1) b ([])) (K := (k_laws_eqIntS M w)) ?_ ?_ 0 () o14 _ _ ?_ hl15 ?_
  ·rintro k12 s10 a w11 ⟨σ, rfl, hC, hO, h0, h1⟩ hlt
   refine c_seq ?_
   refine c_seq (c_region ?_)
   refine pl_val (.int .i64 k12) (y_move rfl) ?_
   refine pl_val (.slice pa0 pn0 pc0) (y_move rfl) ?_
   refine pl_val (.int .i64 (a_.length : Int)) (y_len' Sl25 (rs_len h0) rfl) ?_
   refine pl_val (.bool (decide (k12 < (a_.length : Int)))) (y_lss rfl rfl) ?_
   refine c_nil ?_
   refine c_condF (congrArg Value.bool (decide_eq_false hlt)) ?_
   refine wp_exit ?_
   exact ⟨rfl, _, fr_ovl 26 trivial, hC, hO, h0, h1⟩
  ·rintro k12 s10 o14 a w11 ⟨σ, rfl, hC, hO, h0, h1⟩ hlt hw hs
   refine c_seq ?_
   refine c_seq (c_region ?_)
   refine pl_val (.int .i64 k12) (y_move rfl) ?_
   refine pl_val (.slice pa0 pn0 pc0) (y_move rfl) ?_
   refine pl_val (.int .i64 (a_.length : Int)) (y_len' Sl25 (rs_len h0) rfl) ?_
   refine pl_val (.bool (decide (k12 < (a_.length : Int)))) (y_lss rfl rfl) ?_
   refine c_nil ?_
   refine c_condT (congrArg Value.bool (decide_eq_true hlt)) ?_
   refine wp_skip ?_
   refine c_seq ?_
   refine wp_block ?_
   refine c_seq ?_
   refine x_start [] Mx rfl ?_
   have hCw16 := Chg.drew w11
   generalize World.drew w11 = w16 at hCw16 ⊢
   have h0 := h0.ext hCw16
   have h1 := h1.ext hCw16
   have hC := hC.ext hCw16
   have hO := hO.ext hCw16
   have hS := Chg.refl [] w16
   refine x_p 0 (.slice pa0 pn0 pc0) rfl (by kernel_rfl)  (fun _ => y_move rfl) (fun _ => hS) ?_
   refine x_p 1 (.int .i64 k12) rfl (by kernel_rfl)  (fun _ => y_move rfl) (fun _ => hS) ?_
   obtain ⟨x17, hx17, hs⟩ := bind_some hs
   obtain ⟨b18, o18, hp18, ha18⟩ := rs_idx Sl25 Sz3 h0 hx17
   refine x_p 2 (.pointer (some ⟨b18, o18, none⟩)) rfl (by kernel_rfl)  (fun _ => hp18 _ _ _ _ _ _ _ _ _ rfl rfl) (fun _ => hS) ?_
   refine x_l 3 (.int .i64 x17) rfl (by kernel_rfl)  (fun w' hw' => y_load rfl ((at_load_int Ag3 Sz3 ha18) w' hw')) hS ?_
   refine x_p 4 (.slice pa1 pn1 pc1) rfl (by kernel_rfl)  (fun _ => y_move rfl) (fun _ => hS) ?_
   refine x_p 5 (.int .i64 k12) rfl (by kernel_rfl)  (fun _ => y_move rfl) (fun _ => hS) ?_
   obtain ⟨x19, hx19, hs⟩ := bind_some hs
   obtain ⟨b20, o20, hp20, ha20⟩ := rs_idx Sl25 Sz3 h1 hx19
   refine x_p 6 (.pointer (some ⟨b20, o20, none⟩)) rfl (by kernel_rfl)  (fun _ => hp20 _ _ _ _ _ _ _ _ _ rfl rfl) (fun _ => hS) ?_
   refine x_l 7 (.int .i64 x19) rfl (by kernel_rfl)  (fun w' hw' => y_load rfl ((at_load_int Ag3 Sz3 ha20) w' hw')) hS ?_
   refine x_p 8 (.bool (x17 != x19)) rfl (by kernel_rfl)  (fun _ => y_neq rfl rfl) (fun _ => hS) ?_
   refine x_end (by kernel_rfl) ?_
   clear hS
   rcases bif_some hs with ⟨hc21, hs⟩ | ⟨hc21, hs⟩
   ·skip
    refine c_condT (congrArg Value.bool hc21) ?_
    refine c_seq (c_region ?_)
    refine pl_val (.bool false) (y_assign rfl) ?_
    refine c_nil ?_
    refine wp_ret ?_
    cases hs
    exact ⟨_, fr_ovl 26 ⟨rfl, trivial⟩, hC⟩
   ·skip
    refine c_condF (congrArg Value.bool hc21) ?_
    refine wp_skip ?_
    refine c_region ?_
    refine pl_val (.int .i64 k12) (y_move rfl) ?_
    refine pl_val (.int .i64 (w64 (k12 + 1))) (y_add rfl rfl) ?_
    refine pl_val (.int .i64 (w64 (k12 + 1))) (y_assign rfl) ?_
    refine c_nil ?_
    cases hs
    exact ⟨_, fr_ovl 26 ⟨rfl, rfl, congrArg (Value.int .i64) hw, trivial⟩, hC, hO, h0, h1⟩
  ·skip
   exact ⟨_, fr_ovl 26 ⟨rfl, rfl, rfl, trivial⟩, hC, hO, h0, h1⟩
  ·cases o14 with
   | nx _ => exact True.intro
   | rt r_ =>
    have hs := after_rt hs
    intro a1 w1 hK
    cases hs
    exact hK
   | br s10 =>
    have hs := after_br hs
    rintro a1 w11 ⟨σ, rfl, hC, hO, h0, h1⟩
    refine c_seq (c_region ?_)
    refine pl_val (.bool true) (y_assign rfl) ?_
    refine c_nil ?_
    refine wp_ret ?_
    cases hs
    exact ⟨_, fr_ovl 26 ⟨rfl, trivial⟩, hC⟩

theorem Bd43 : Bodied Try.prog 43 := bodied Try.func43 (by kernel_rfl) rfl

def k_laws_eqOp (M : Nat → Prop) (w0 : World) (r : Bool) (a : Act) (w : World) : Prop :=
  ∃ (σ : Nat → Value) , a = fr 16 (ovl σ [(4, (.bool r))]) ∧ Chg [] w0 w
def s_laws_eqOp (a_ : Int × (List Int)) (b : Int × (List Int)) : Option (Bool) :=
  (bif (a_.1 != b.1) then some false else (s_laws_eqIntS a_.2 b.2).bind fun r7 =>
  (bif (!r7) then some false else some true))
set_option maxHeartbeats 4000000 in
theorem c_laws_eqOp {M : Nat → Prop} {w : World} {pa0 : Option Addr} {pn0 pc0 : Nat} {pa1 : Option Addr} {pn1 pc1 : Nat} (a_ : Int × (List Int)) (b : Int × (List Int)) (h0 : (RT.rs (RT.int .i64)).val M w (.slice pa0 pn0 pc0) a_.2 ([])) (h1 : (RT.rs (RT.int .i64)).val M w (.slice pa1 pn1 pc1) b.2 ([])) (hM : ∀ g, w.heap.size ≤ g → M g) {r : Bool} (hs : s_laws_eqOp a_ b = some r) :
    Gives Try.prog 15 [(.agg #[(.int .i64 a_.1), (.slice pa0 pn0 pc0)]), (.agg #[(.int .i64 b.1), (.slice pa1 pn1 pc1)])] w (fun v w' => v = (.bool r) ∧ Chg [] w w') := by
 refine calls_fr Try.func15 rfl Try.ntmps15 (Nat.le_of_ble_eq_true rfl) ?_
 have hO := Own.start (N := Nw w []) hM Nw.fut
 have hC := Chg.refl [] w
 unfold s_laws_eqOp at hs
 refine wp_mono (Q := KPost (k_laws_eqOp M w r)) ?_ (fun e a w1 h => ?_)
 rotate_left
 ·cases e
  case ret =>
   obtain ⟨σ, rfl, hrest⟩ := h
   exact ret1x Try.results15 (res_tmp rfl) ⟨rfl, hrest⟩
  all_goals exact (h : False).elim
 refine c_seq (c_region ?_)
 obtain ⟨w3, g3, ew3, eg3, hC3, hb3⟩ := new_block w [(.int .i64 a_.1), (.slice pa0 pn0 pc0)] 36
 refine pl_val (w' := w3) (.pointer (some ⟨g3, 0, none⟩)) (y_box rfl (by rw [ew3, eg3]; kernel_rfl)) ?_
 have h0 := h0.ext hC3
 have h1 := h1.ext hC3
 have hC := hC.ext hC3
 have hO := hO.new1 hC3 eg3 hb3.lt
 obtain ⟨w4, g4, ew4, eg4, hC4, hb4⟩ := new_block w3 [(.int .i64 b.1), (.slice pa1 pn1 pc1)] 36
 refine pl_val (w' := w4) (.pointer (some ⟨g4, 0, none⟩)) (y_box rfl (by rw [ew4, eg4]; kernel_rfl)) ?_
 have h0 := h0.ext hC4
 have h1 := h1.ext hC4
 have hb3 := hb3.chg hC4 (fun h => nomatch h)
 have hC := hC.ext hC4
 have hO := hO.new1 hC4 eg4 hb4.lt
 refine pl_val (.bool false) (y_assign rfl) ?_
 refine c_nil ?_
 refine c_seq ?_
 refine c_seq (c_region ?_)
 refine pl_val (.pointer (some ⟨g3, 0, none⟩)) (y_faddr rfl Fa36x0) ?_
 refine pl_val (.int .i64 a_.1) (y_load rfl ((box_load Ag3 Sz3 hb3 [] [(.int .i64 a_.1)] [(.slice pa0 pn0 pc0)] rfl rfl (fun _ => rfl)) _ (Chg.refl _ _))) ?_
 refine pl_val (.pointer (some ⟨g4, 0, none⟩)) (y_faddr rfl Fa36x0) ?_
 refine pl_val (.int .i64 b.1) (y_load rfl ((box_load Ag3 Sz3 hb4 [] [(.int .i64 b.1)] [(.slice pa1 pn1 pc1)] rfl rfl (fun _ => rfl)) _ (Chg.refl _ _))) ?_
 refine pl_val (.bool (a_.1 != b.1)) (y_neq rfl rfl) ?_
 refine c_nil ?_
 rcases bif_some hs with ⟨hc5, hs⟩ | ⟨hc5, hs⟩
 ·skip
  refine c_condT (congrArg Value.bool hc5) ?_
  refine c_seq (c_region ?_)
  refine pl_val (.bool false) (y_assign rfl) ?_
  refine c_nil ?_
  refine wp_ret ?_
  cases hs
  exact ⟨_, fr_ovl 16 ⟨rfl, trivial⟩, hC⟩
 ·skip
  refine c_condF (congrArg Value.bool hc5) ?_
  refine wp_skip ?_
  refine c_seq ?_
  refine c_seq (c_region ?_)
  refine pl_val (.pointer (some ⟨g3, 1, none⟩)) (y_faddr rfl Fa36x1) ?_
  refine pl_val (.slice pa0 pn0 pc0) (y_load rfl ((box_load Ag25 Sz25 hb3 [(.int .i64 a_.1)] [(.slice pa0 pn0 pc0)] [] rfl rfl (fun _ => rfl)) _ (Chg.refl _ _))) ?_
  refine pl_val (.pointer (some ⟨g4, 1, none⟩)) (y_faddr rfl Fa36x1) ?_
  refine pl_val (.slice pa1 pn1 pc1) (y_load rfl ((box_load Ag25 Sz25 hb4 [(.int .i64 b.1)] [(.slice pa1 pn1 pc1)] [] rfl rfl (fun _ => rfl)) _ (Chg.refl _ _))) ?_
  obtain ⟨r7, hr7, hs⟩ := bind_some hs
  refine pl_call Bd43 rfl (c_laws_eqIntS (M := M) a_.2 b.2 h0 h1 hO.fut hr7) ?_
  rintro _ w6 ⟨rfl, hC6⟩
  have h0 := h0.ext hC6
  have h1 := h1.ext hC6
  have hb3 := hb3.chg hC6 (fun h => nomatch h)
  have hb4 := hb4.chg hC6 (fun h => nomatch h)
  have hC := hC.ext hC6
  have hO := hO.ext hC6
  refine pl_val (.bool (!r7)) (y_not rfl) ?_
  refine c_nil ?_
  rcases bif_some hs with ⟨hc8, hs⟩ | ⟨hc8, hs⟩
  ·skip
   refine c_condT (congrArg Value.bool hc8) ?_
   refine c_seq (c_region ?_)
   refine pl_val (.bool false) (y_assign rfl) ?_
   refine c_nil ?_
   refine wp_ret ?_
   cases hs
   exact ⟨_, fr_ovl 16 ⟨rfl, trivial⟩, hC⟩
  ·skip
   refine c_condF (congrArg Value.bool hc8) ?_
   refine wp_skip ?_
   refine c_seq (c_region ?_)
   refine pl_val (.bool true) (y_assign rfl) ?_
   refine c_nil ?_
   refine wp_ret ?_
   cases hs
   exact ⟨_, fr_ovl 16 ⟨rfl, trivial⟩, hC⟩

theorem Bd15 : Bodied Try.prog 15 := bodied Try.func15 (by kernel_rfl) rfl

def k_laws_eqOpS (M : Nat → Prop) (w0 : World) (r : Bool) (a : Act) (w : World) : Prop :=
  ∃ (σ : Nat → Value) , a = fr 27 (ovl σ [(4, (.bool r))]) ∧ Chg [] w0 w
def s_laws_eqOpS (a_ : List (Int × (List Int))) (b : List (Int × (List Int))) : Option (Bool) :=
  (bif ((a_.length : Int) != (b.length : Int)) then some false else (forC (S := Unit) (R := Bool) (fun k18 s16 =>
  (idx a_ k18).bind fun x23 =>
  (idx b k18).bind fun x27 =>
  (s_laws_eqOp (x23.1, x23.2) (x27.1, x27.2)).bind fun r32 =>
  (bif (!r32) then some (.rt false) else some (.nx ()))) 0 (a_.length : Int) ()).bind fun o20 => after o20 (fun r_ => some r_) (fun s16 =>
  some true))
set_option maxHeartbeats 4000000 in
theorem c_laws_eqOpS {M : Nat → Prop} {w : World} {pa0 : Option Addr} {pn0 pc0 : Nat} {pa1 : Option Addr} {pn1 pc1 : Nat} (a_ : List (Int × (List Int))) (b : List (Int × (List Int))) (h0 : (RT.rs (RT.pr (RT.int .i64) (RT.rs (RT.int .i64)))).val M w (.slice pa0 pn0 pc0) a_ ([])) (h1 : (RT.rs (RT.pr (RT.int .i64) (RT.rs (RT.int .i64)))).val M w (.slice pa1 pn1 pc1) b ([])) (hM : ∀ g, w.heap.size ≤ g → M g) {r : Bool} (hs : s_laws_eqOpS a_ b = some r) :
    Gives Try.prog 42 [(.slice pa0 pn0 pc0), (.slice pa1 pn1 pc1)] w (fun v w' => v = (.bool r) ∧ Chg [] w w') := by
 refine calls_fr Try.func42 rfl Try.ntmps42 (Nat.le_of_ble_eq_true rfl) ?_
 have hO := Own.start (N := Nw w []) hM Nw.fut
 have hC := Chg.refl [] w
 unfold s_laws_eqOpS at hs
 refine wp_mono (Q := KPost (k_laws_eqOpS M w r)) ?_ (fun e a w1 h => ?_)
 rotate_left
 ·cases e
  case ret =>
   obtain ⟨σ, rfl, hrest⟩ := h
   exact ret1x Try.results42 (res_tmp rfl) ⟨rfl, hrest⟩
  all_goals exact (h : False).elim
 refine c_seq (c_region ?_)
 refine pl_val (.bool false) (y_assign rfl) ?_
 refine c_nil ?_
 refine c_seq ?_
 refine c_seq (c_region ?_)
 refine pl_val (.slice pa0 pn0 pc0) (y_move rfl) ?_
 refine pl_val (.int .i64 (a_.length : Int)) (y_len' Sl32 (rs_len h0) rfl) ?_
 refine pl_val (.slice pa1 pn1 pc1) (y_move rfl) ?_
 refine pl_val (.int .i64 (b.length : Int)) (y_len' Sl32 (rs_len h1) rfl) ?_
 refine pl_val (.bool ((a_.length : Int) != (b.length : Int))) (y_neq rfl rfl) ?_
 refine c_nil ?_
 rcases bif_some hs with ⟨hc3, hs⟩ | ⟨hc3, hs⟩
 ·skip
  refine c_condT (congrArg Value.bool hc3) ?_
  refine c_seq (c_region ?_)
  refine pl_val (.bool false) (y_assign rfl) ?_
  refine c_nil ?_
  refine wp_ret ?_
  cases hs
  exact ⟨_, fr_ovl 27 ⟨rfl, trivial⟩, hC⟩
 ·skip
  refine c_condF (congrArg Value.bool hc3) ?_
  refine wp_skip ?_
  refine c_seq ?_
  refine c_seq (c_region ?_)
  refine pl_val (.int .i64 0) (y_assign rfl) ?_
  refine c_nil ?_
  obtain ⟨o20, hl21, hs⟩ := bind_some hs
  refine wp_block ?_
  refine wp_forC (id := 0) (a_.length : Int) (I := fun k18 s16 a w17 => ∃ (σ : Nat → Value), a = fr 27 (ovl σ [(0, (.slice pa0 pn0 pc0)), (1, (.slice pa1 pn1 pc1)), (5, (.int .i64 k18))]) ∧ Chg [] w w17 ∧ Own (Nw w []) M w17 ([]) ∧ (RT.rs (RT.pr (RT.int .i64) (RT.rs (RT.int .i64)))).val M w17 (.slice pa0 pn0 pc0) a_ ([]) ∧ (RT.rs (RT.pr (RT.int .i64) (RT.rs (RT.int .i64)))).val M w17 (.slice pa1 pn1 pc1) b ([])) (J := fun s16 a w17 => ∃ (σ : Nat → Value), a = fr 27 (ovl σ []) ∧ Chg [] w w17 ∧ Own (Nw w []) M w17 ([]) ∧ (RT.rs (RT.pr (RT.int .i64) (RT.rs (RT.int .i64)))).val M w17 (.slice pa0 pn0 pc0) a_ ([]) ∧ (RT.rs (RT.pr (RT.int .i64) (RT.rs (RT.int .i64)))).val M w17 (.slice pa1 pn1 pc1) b ([])) (K := (k_laws_eqOpS M w)) ?_ ?_ 0 () o20 _ _ ?_ hl21 ?_
  ·rintro k18 s16 a w17 ⟨σ, rfl, hC, hO, h0, h1⟩ hlt
   refine c_seq ?_
   refine c_seq (c_region ?_)
   refine pl_val (.int .i64 k18) (y_move rfl) ?_
   refine pl_val (.slice pa0 pn0 pc0) (y_move rfl) ?_
   refine pl_val (.int .i64 (a_.length : Int)) (y_len' Sl32 (rs_len h0) rfl) ?_
   refine pl_val (.bool (decide (k18 < (a_.length : Int)))) (y_lss rfl rfl) ?_
   refine c_nil ?_
   refine c_condF (congrArg Value.bool (decide_eq_false hlt)) ?_
   refine wp_exit ?_
   exact ⟨rfl, _, fr_ovl 27 trivial, hC, hO, h0, h1⟩
  ·rintro k18 s16 o20 a w17 ⟨σ, rfl, hC, hO, h0, h1⟩ hlt hw hs
   refine c_seq ?_
   refine c_seq (c_region ?_)
   refine pl_val (.int .i64 k18) (y_move rfl) ?_
   refine pl_val (.slice pa0 pn0 pc0) (y_move rfl) ?_
   refine pl_val (.int .i64 (a_.length : Int)) (y_len' Sl32 (rs_len h0) rfl) ?_
   refine pl_val (.bool (decide (k18 < (a_.length : Int)))) (y_lss rfl rfl) ?_
   refine c_nil ?_
   refine c_condT (congrArg Value.bool (decide_eq_true hlt)) ?_
   refine wp_skip ?_
   refine c_seq ?_
   refine wp_block ?_
   refine c_seq ?_
   refine x_start [] Mx rfl ?_
   have hCw22 := Chg.drew w17
   generalize World.drew w17 = w22 at hCw22 ⊢
   have h0 := h0.ext hCw22
   have h1 := h1.ext hCw22
   have hC := hC.ext hCw22
   have hO := hO.ext hCw22
   have hS := Chg.refl [] w22
   refine x_p 0 (.slice pa0 pn0 pc0) rfl (by kernel_rfl)  (fun _ => y_move rfl) (fun _ => hS) ?_
   refine x_p 1 (.int .i64 k18) rfl (by kernel_rfl)  (fun _ => y_move rfl) (fun _ => hS) ?_
   obtain ⟨x23, hx23, hs⟩ := bind_some hs
   obtain ⟨b24, o24, hp24, ha24⟩ := rs_idx Sl32 Sz36 h0 hx23
   refine x_p 2 (.pointer (some ⟨b24, o24, none⟩)) rfl (by kernel_rfl)  (fun _ => hp24 _ _ _ _ _ _ _ _ _ rfl rfl) (fun _ => hS) ?_
   obtain ⟨v25, hl25, hv25⟩ := at_load Ag36 Sz36 (by intro h; cases h) ha24
   obtain ⟨cs25, rfl, hr25⟩ := hv25
   obtain ⟨cc25x1, cd25x1, rfl, hh25x1, ht25x1⟩ := pr_open hr25
   obtain rfl := int_rel hh25x1
   obtain ⟨a25x2, n25x2, c25x2, rfl, hv25x2⟩ := rs_rel ht25x1
   refine x_l 3 (.agg #[(.int .i64 x23.1), (.slice a25x2 n25x2 c25x2)]) rfl (by kernel_rfl)  (fun w' hw' => y_load rfl (hl25 w' hw')) hS ?_
   refine x_p 4 (.slice pa1 pn1 pc1) rfl (by kernel_rfl)  (fun _ => y_move rfl) (fun _ => hS) ?_
   refine x_p 5 (.int .i64 k18) rfl (by kernel_rfl)  (fun _ => y_move rfl) (fun _ => hS) ?_
   obtain ⟨x27, hx27, hs⟩ := bind_some hs
   obtain ⟨b28, o28, hp28, ha28⟩ := rs_idx Sl32 Sz36 h1 hx27
   refine x_p 6 (.pointer (some ⟨b28, o28, none⟩)) rfl (by kernel_rfl)  (fun _ => hp28 _ _ _ _ _ _ _ _ _ rfl rfl) (fun _ => hS) ?_
   obtain ⟨v29, hl29, hv29⟩ := at_load Ag36 Sz36 (by intro h; cases h) ha28
   obtain ⟨cs29, rfl, hr29⟩ := hv29
   obtain ⟨cc29x1, cd29x1, rfl, hh29x1, ht29x1⟩ := pr_open hr29
   obtain rfl := int_rel hh29x1
   obtain ⟨a29x2, n29x2, c29x2, rfl, hv29x2⟩ := rs_rel ht29x1
   refine x_l 7 (.agg #[(.int .i64 x27.1), (.slice a29x2 n29x2 c29x2)]) rfl (by kernel_rfl)  (fun w' hw' => y_load rfl (hl29 w' hw')) hS ?_
   refine x_one (i := 8) (by kernel_rfl) ?_
   obtain ⟨r32, hr32, hs⟩ := bind_some hs
   refine xk_call (b := false) rfl  Bd15 rfl (c_laws_eqOp (M := M) (x23.1, x23.2) (x27.1, x27.2) hv25x2 hv29x2 hO.fut hr32) rfl (by rintro _ _ _ ⟨rfl, hC31⟩; exact hS.ext hC31) ?_
   rintro _ w31 ⟨rfl, hC31⟩
   have h0 := h0.ext hC31
   have h1 := h1.ext hC31
   have hv25x2 := hv25x2.ext hC31
   have hv29x2 := hv29x2.ext hC31
   have hC := hC.ext hC31
   have hO := hO.ext hC31
   have hS := hS.ext hC31
   refine x_p 9 (.bool (!r32)) rfl (by kernel_rfl)  (fun _ => y_not rfl) (fun _ => hS) ?_
   refine x_end (by kernel_rfl) ?_
   clear hS
   rcases bif_some hs with ⟨hc33, hs⟩ | ⟨hc33, hs⟩
   ·skip
    refine c_condT (congrArg Value.bool hc33) ?_
    refine c_seq (c_region ?_)
    refine pl_val (.bool false) (y_assign rfl) ?_
    refine c_nil ?_
    refine wp_ret ?_
    cases hs
    exact ⟨_, fr_ovl 27 ⟨rfl, trivial⟩, hC⟩
   ·skip
    refine c_condF (congrArg Value.bool hc33) ?_
    refine wp_skip ?_
    refine c_region ?_
    refine pl_val (.int .i64 k18) (y_move rfl) ?_
    refine pl_val (.int .i64 (w64 (k18 + 1))) (y_add rfl rfl) ?_
    refine pl_val (.int .i64 (w64 (k18 + 1))) (y_assign rfl) ?_
    refine c_nil ?_
    cases hs
    exact ⟨_, fr_ovl 27 ⟨rfl, rfl, congrArg (Value.int .i64) hw, trivial⟩, hC, hO, h0, h1⟩
  ·skip
   exact ⟨_, fr_ovl 27 ⟨rfl, rfl, rfl, trivial⟩, hC, hO, h0, h1⟩
  ·cases o20 with
   | nx _ => exact True.intro
   | rt r_ =>
    have hs := after_rt hs
    intro a1 w1 hK
    cases hs
    exact hK
   | br s16 =>
    have hs := after_br hs
    rintro a1 w17 ⟨σ, rfl, hC, hO, h0, h1⟩
    refine c_seq (c_region ?_)
    refine pl_val (.bool true) (y_assign rfl) ?_
    refine c_nil ?_
    refine wp_ret ?_
    cases hs
    exact ⟨_, fr_ovl 27 ⟨rfl, trivial⟩, hC⟩

theorem Bd42 : Bodied Try.prog 42 := bodied Try.func42 (by kernel_rfl) rfl

def k_laws_eqAlgebra (M : Nat → Prop) (w0 : World) (r : Bool) (a : Act) (w : World) : Prop :=
  ∃ (σ : Nat → Value) , a = fr 16 (ovl σ [(4, (.bool r))]) ∧ Chg [] w0 w
def s_laws_eqAlgebra (a_ : Int × (List (Int × (List Int)))) (b : Int × (List (Int × (List Int)))) : Option (Bool) :=
  (bif (a_.1 != b.1) then some false else (s_laws_eqOpS a_.2 b.2).bind fun r7 =>
  (bif (!r7) then some false else some true))
set_option maxHeartbeats 4000000 in
theorem c_laws_eqAlgebra {M : Nat → Prop} {w : World} {pa0 : Option Addr} {pn0 pc0 : Nat} {pa1 : Option Addr} {pn1 pc1 : Nat} (a_ : Int × (List (Int × (List Int)))) (b : Int × (List (Int × (List Int)))) (h0 : (RT.rs (RT.pr (RT.int .i64) (RT.rs (RT.int .i64)))).val M w (.slice pa0 pn0 pc0) a_.2 ([])) (h1 : (RT.rs (RT.pr (RT.int .i64) (RT.rs (RT.int .i64)))).val M w (.slice pa1 pn1 pc1) b.2 ([])) (hM : ∀ g, w.heap.size ≤ g → M g) {r : Bool} (hs : s_laws_eqAlgebra a_ b = some r) :
    Gives Try.prog 14 [(.agg #[(.int .i64 a_.1), (.slice pa0 pn0 pc0)]), (.agg #[(.int .i64 b.1), (.slice pa1 pn1 pc1)])] w (fun v w' => v = (.bool r) ∧ Chg [] w w') := by
 refine calls_fr Try.func14 rfl Try.ntmps14 (Nat.le_of_ble_eq_true rfl) ?_
 have hO := Own.start (N := Nw w []) hM Nw.fut
 have hC := Chg.refl [] w
 unfold s_laws_eqAlgebra at hs
 refine wp_mono (Q := KPost (k_laws_eqAlgebra M w r)) ?_ (fun e a w1 h => ?_)
 rotate_left
 ·cases e
  case ret =>
   obtain ⟨σ, rfl, hrest⟩ := h
   exact ret1x Try.results14 (res_tmp rfl) ⟨rfl, hrest⟩
  all_goals exact (h : False).elim
 refine c_seq (c_region ?_)
 obtain ⟨w3, g3, ew3, eg3, hC3, hb3⟩ := new_block w [(.int .i64 a_.1), (.slice pa0 pn0 pc0)] 34
 refine pl_val (w' := w3) (.pointer (some ⟨g3, 0, none⟩)) (y_box rfl (by rw [ew3, eg3]; kernel_rfl)) ?_
 have h0 := h0.ext hC3
 have h1 := h1.ext hC3
 have hC := hC.ext hC3
 have hO := hO.new1 hC3 eg3 hb3.lt
 obtain ⟨w4, g4, ew4, eg4, hC4, hb4⟩ := new_block w3 [(.int .i64 b.1), (.slice pa1 pn1 pc1)] 34
 refine pl_val (w' := w4) (.pointer (some ⟨g4, 0, none⟩)) (y_box rfl (by rw [ew4, eg4]; kernel_rfl)) ?_
 have h0 := h0.ext hC4
 have h1 := h1.ext hC4
 have hb3 := hb3.chg hC4 (fun h => nomatch h)
 have hC := hC.ext hC4
 have hO := hO.new1 hC4 eg4 hb4.lt
 refine pl_val (.bool false) (y_assign rfl) ?_
 refine c_nil ?_
 refine c_seq ?_
 refine c_seq (c_region ?_)
 refine pl_val (.pointer (some ⟨g3, 0, none⟩)) (y_faddr rfl Fa34x0) ?_
 refine pl_val (.int .i64 a_.1) (y_load rfl ((box_load Ag3 Sz3 hb3 [] [(.int .i64 a_.1)] [(.slice pa0 pn0 pc0)] rfl rfl (fun _ => rfl)) _ (Chg.refl _ _))) ?_
 refine pl_val (.pointer (some ⟨g4, 0, none⟩)) (y_faddr rfl Fa34x0) ?_
 refine pl_val (.int .i64 b.1) (y_load rfl ((box_load Ag3 Sz3 hb4 [] [(.int .i64 b.1)] [(.slice pa1 pn1 pc1)] rfl rfl (fun _ => rfl)) _ (Chg.refl _ _))) ?_
 refine pl_val (.bool (a_.1 != b.1)) (y_neq rfl rfl) ?_
 refine c_nil ?_
 rcases bif_some hs with ⟨hc5, hs⟩ | ⟨hc5, hs⟩
 ·skip
  refine c_condT (congrArg Value.bool hc5) ?_
  refine c_seq (c_region ?_)
  refine pl_val (.bool false) (y_assign rfl) ?_
  refine c_nil ?_
  refine wp_ret ?_
  cases hs
  exact ⟨_, fr_ovl 16 ⟨rfl, trivial⟩, hC⟩
 ·skip
  refine c_condF (congrArg Value.bool hc5) ?_
  refine wp_skip ?_
  refine c_seq ?_
  refine c_seq (c_region ?_)
  refine pl_val (.pointer (some ⟨g3, 1, none⟩)) (y_faddr rfl Fa34x1) ?_
  refine pl_val (.slice pa0 pn0 pc0) (y_load rfl ((box_load Ag32 Sz32 hb3 [(.int .i64 a_.1)] [(.slice pa0 pn0 pc0)] [] rfl rfl (fun _ => rfl)) _ (Chg.refl _ _))) ?_
  refine pl_val (.pointer (some ⟨g4, 1, none⟩)) (y_faddr rfl Fa34x1) ?_
  refine pl_val (.slice pa1 pn1 pc1) (y_load rfl ((box_load Ag32 Sz32 hb4 [(.int .i64 b.1)] [(.slice pa1 pn1 pc1)] [] rfl rfl (fun _ => rfl)) _ (Chg.refl _ _))) ?_
  obtain ⟨r7, hr7, hs⟩ := bind_some hs
  refine pl_call Bd42 rfl (c_laws_eqOpS (M := M) a_.2 b.2 h0 h1 hO.fut hr7) ?_
  rintro _ w6 ⟨rfl, hC6⟩
  have h0 := h0.ext hC6
  have h1 := h1.ext hC6
  have hb3 := hb3.chg hC6 (fun h => nomatch h)
  have hb4 := hb4.chg hC6 (fun h => nomatch h)
  have hC := hC.ext hC6
  have hO := hO.ext hC6
  refine pl_val (.bool (!r7)) (y_not rfl) ?_
  refine c_nil ?_
  rcases bif_some hs with ⟨hc8, hs⟩ | ⟨hc8, hs⟩
  ·skip
   refine c_condT (congrArg Value.bool hc8) ?_
   refine c_seq (c_region ?_)
   refine pl_val (.bool false) (y_assign rfl) ?_
   refine c_nil ?_
   refine wp_ret ?_
   cases hs
   exact ⟨_, fr_ovl 16 ⟨rfl, trivial⟩, hC⟩
  ·skip
   refine c_condF (congrArg Value.bool hc8) ?_
   refine wp_skip ?_
   refine c_seq (c_region ?_)
   refine pl_val (.bool true) (y_assign rfl) ?_
   refine c_nil ?_
   refine wp_ret ?_
   cases hs
   exact ⟨_, fr_ovl 16 ⟨rfl, trivial⟩, hC⟩

theorem Ag24 : AggT Try.prog 24 true := fun _ => by kernel_rfl

theorem Sz24 : SzT Try.prog 24 2 := ⟨_, rfl, rfl⟩

theorem Bd8 : Bodied Try.prog 8 := bodied Try.func8 (by kernel_rfl) rfl

theorem Bd11 : Bodied Try.prog 11 := bodied Try.func11 (by kernel_rfl) rfl

theorem Bd10 : Bodied Try.prog 10 := bodied Try.func10 (by kernel_rfl) rfl

theorem Bd13 : Bodied Try.prog 13 := bodied Try.func13 (by kernel_rfl) rfl

theorem Bd14 : Bodied Try.prog 14 := bodied Try.func14 (by kernel_rfl) rfl

end Go.Proofs
