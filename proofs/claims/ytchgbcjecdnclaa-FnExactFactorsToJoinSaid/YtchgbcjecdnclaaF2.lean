/- What functions of the program compute, as plain functions, and that a call gives just that. Conditions: those named in each theorem. -/
import Derived.Test.YtchgbcjecdnclaaF1
set_option linter.unusedVariables false
namespace Go.Proofs
open Go.G Go.RowKit
set_option maxRecDepth 100000

def k_impl_composeRelations (M : Nat → Prop) (w0 : World) (r : (Int × (List (List Int)))) (a : Act) (w : World) : Prop :=
  ∃ (σ : Nat → Value) (rg4 : Nat) (ra0 : Option Addr) (rn0 rc0 : Nat), a = fr 46 (ovl σ [(4, (.pointer (some ⟨rg4, 0, none⟩)))]) ∧ BoxV w rg4 71 [(.int .i64 r.1), (.slice ra0 rn0 rc0)] ∧ Chg [] w0 w ∧ (RT.rs (RT.rs (RT.int .i64))).val (Past M w0 w) w (.slice ra0 rn0 rc0) r.2 []
def s_impl_composeRelations (r_ : Int × (List (List Int))) (s_ : Int × (List (List Int))) : Option ((Int × (List (List Int)))) :=
  (forR (S := (List (List Int))) (R := (Int × (List (List Int)))) (fun _ x80 s77 =>
  (forR (S := (List (List Int))) (R := (Int × (List (List Int)))) (fun _ x121 s118 =>
  (idx x80 1).bind fun x137 =>
  (idx x121 0).bind fun x139 =>
  (bif (x137 == x139) then (idx x80 0).bind fun x143 =>
  (idx x121 1).bind fun x145 =>
  (app s118 ([[x143, x145]])).bind fun y152 =>
  some (.nx y152) else some (.nx s118))) 0 s_.2 s77).bind fun o122 => after o122 (fun r_ => some (.rt r_)) (fun s118 =>
  some (.nx s118))) 0 r_.2 ([])).bind fun o81 => after o81 (fun r_ => some r_) (fun s77 =>
  (s_impl_makeRelation 2 s77).bind fun r156 =>
  some (r156.1, r156.2))
set_option maxHeartbeats 4000000 in
theorem c_impl_composeRelations {M : Nat → Prop} {w : World} {pa0 : Option Addr} {pn0 pc0 : Nat} {pa1 : Option Addr} {pn1 pc1 : Nat} (r_ : Int × (List (List Int))) (s_ : Int × (List (List Int))) (h0 : (RT.rs (RT.rs (RT.int .i64))).val M w (.slice pa0 pn0 pc0) r_.2 ([])) (h1 : (RT.rs (RT.rs (RT.int .i64))).val M w (.slice pa1 pn1 pc1) s_.2 ([])) (hM : ∀ g, w.heap.size ≤ g → M g) {r : (Int × (List (List Int)))} (hs : s_impl_composeRelations r_ s_ = some r) :
    Gives Try.prog 79 [(.agg #[(.int .i64 r_.1), (.slice pa0 pn0 pc0)]), (.agg #[(.int .i64 s_.1), (.slice pa1 pn1 pc1)])] w (fun v w' => ∃ (ra0 : Option Addr) (rn0 rc0 : Nat), v = (.agg #[(.int .i64 r.1), (.slice ra0 rn0 rc0)]) ∧ Chg [] w w' ∧ (RT.rs (RT.rs (RT.int .i64))).val (Past M w w') w' (.slice ra0 rn0 rc0) r.2 []) := by
 refine calls_fr Try.func79 rfl Try.ntmps79 (Nat.le_of_ble_eq_true rfl) ?_
 have hO := Own.start (N := Nw w []) hM Nw.fut
 have hC := Chg.refl [] w
 unfold s_impl_composeRelations at hs
 refine wp_mono (Q := KPost (k_impl_composeRelations M w r)) ?_ (fun e a w1 h => ?_)
 rotate_left
 ·cases e
  case ret =>
   obtain ⟨σ, rg4, ra0, rn0, rc0, rfl, hbrg4, hrest⟩ := h
   exact ret1x Try.results79 (res_cell rfl (box_load Ag71 Sz71 hbrg4 [] _ [] rfl rfl (fun h => nomatch h))) ⟨ra0, rn0, rc0, rfl, hrest⟩
  all_goals exact (h : False).elim
 refine c_seq (c_region ?_)
 obtain ⟨w3, g3, ew3, eg3, hC3, hb3⟩ := new_block w [(.int .i64 r_.1), (.slice pa0 pn0 pc0)] 71
 refine pl_val (w' := w3) (.pointer (some ⟨g3, 0, none⟩)) (y_box rfl (by rw [ew3, eg3]; kernel_rfl)) ?_
 have h0 := h0.ext hC3
 have h1 := h1.ext hC3
 have hC := hC.ext hC3
 have hO := hO.new1 hC3 eg3 hb3.lt
 obtain ⟨w4, g4, ew4, eg4, hC4, hb4⟩ := new_block w3 [(.int .i64 s_.1), (.slice pa1 pn1 pc1)] 71
 refine pl_val (w' := w4) (.pointer (some ⟨g4, 0, none⟩)) (y_box rfl (by rw [ew4, eg4]; kernel_rfl)) ?_
 have h0 := h0.ext hC4
 have h1 := h1.ext hC4
 have hb3 := hb3.chg hC4 (fun h => nomatch h)
 have hC := hC.ext hC4
 have hO := hO.new1 hC4 eg4 hb4.lt
 obtain ⟨w5, g5, ew5, eg5, hC5, hb5⟩ := new_block w4 [(.int .i64 0), (.slice none 0 0)] 71
 refine pl_val (w' := w5) (.pointer (some ⟨g5, 0, none⟩)) (y_alloc (by rw [ew5, eg5]; kernel_rfl)) ?_
 have h0 := h0.ext hC5
 have h1 := h1.ext hC5
 have hb3 := hb3.chg hC5 (fun h => nomatch h)
 have hb4 := hb4.chg hC5 (fun h => nomatch h)
 have hC := hC.ext hC5
 have hO := hO.new1 hC5 eg5 hb5.lt
 refine c_nil ?_
 refine c_seq (c_region ?_)
 obtain ⟨w6, g6, ew6, eg6, hC6, hb6⟩ := new_block w5 [] 22
 refine pl_val (w' := w6) (.slice (some ⟨g6, 0, none⟩) 0 0) (y_bslice rfl (by rw [ew6, eg6]; kernel_rfl)) ?_
 have h0 := h0.ext hC6
 have h1 := h1.ext hC6
 have hb3 := hb3.chg hC6 (fun h => nomatch h)
 have hb4 := hb4.chg hC6 (fun h => nomatch h)
 have hb5 := hb5.chg hC6 (fun h => nomatch h)
 have hC := hC.ext hC6
 have hO := hO.new1 hC6 eg6 hb6.lt
 have hv6 := os_of_box (r := (RT.os 3 (RT.int .i64))) (M := M) (css := []) (fps := []) (xs := ([] : List (List Int))) hb6 trivial (Nat.zero_le _) (List.nodup_cons.2 ⟨(fun h => nomatch h), List.nodup_nil⟩)
 have hv6 : (RT.os 22 (RT.os 3 (RT.int .i64))).val M w6 (.slice (some ⟨g6, 0, none⟩) 0 0) [] [g6] := hv6
 refine pl_val (.slice (some ⟨g6, 0, none⟩) 0 0) (y_assign rfl) ?_
 refine c_nil ?_
 refine c_seq ?_
 refine c_seq (c_region ?_)
 refine pl_val (.pointer (some ⟨g3, 1, none⟩)) (y_faddr rfl Fa71x1) ?_
 refine pl_val (.slice pa0 pn0 pc0) (y_load rfl ((box_load Ag41 Sz41 hb3 [(.int .i64 r_.1)] [(.slice pa0 pn0 pc0)] [] rfl rfl (fun _ => rfl)) _ (Chg.refl _ _))) ?_
 refine pl_val (.int .i64 (r_.2.length : Int)) (y_len' Sl41 (rs_len h0) rfl) ?_
 refine pl_val (.int .i64 0) (y_move rfl) ?_
 refine c_nil ?_
 have hO := hO.fr3
 have hO := hO.drop
 obtain ⟨o81, hl82, hs⟩ := bind_some hs
 refine wp_block ?_
 refine wp_forR (id := 0) (I := fun i_ xs_ s77 a w78 => ∃ k79 : Nat, i_ = (k79 : Int) ∧ List.drop k79 r_.2 = xs_ ∧ (∃ (σ : Nat → Value) (a83 : Option Addr) (n83 : Nat) (c83 : Nat) (f83 : List Nat), a = fr 46 (ovl σ [(3, (.pointer (some ⟨g4, 0, none⟩))), (4, (.pointer (some ⟨g5, 0, none⟩))), (5, (.slice a83 n83 c83)), (12, (.slice pa0 pn0 pc0)), (13, (.int .i64 (r_.2.length : Int))), (14, (.int .i64 (k79 : Int)))]) ∧ Chg [] w w78 ∧ Own (Nw w []) M w78 (f83 ++ (([g5]) ++ (([g4]) ++ []))) ∧ (RT.rs (RT.rs (RT.int .i64))).val M w78 (.slice pa0 pn0 pc0) r_.2 ([]) ∧ (RT.rs (RT.rs (RT.int .i64))).val M w78 (.slice pa1 pn1 pc1) s_.2 ([]) ∧ BoxV w78 g4 71 [(.int .i64 s_.1), (.slice pa1 pn1 pc1)] ∧ BoxV w78 g5 71 [(.int .i64 0), (.slice none 0 0)] ∧ (RT.os 22 (RT.os 3 (RT.int .i64))).val M w78 (.slice a83 n83 c83) s77 f83)) (J := fun s77 a w78 => ∃ (σ : Nat → Value) (a85 : Option Addr) (n85 : Nat) (c85 : Nat) (f85 : List Nat), a = fr 46 (ovl σ [(4, (.pointer (some ⟨g5, 0, none⟩))), (5, (.slice a85 n85 c85))]) ∧ Chg [] w w78 ∧ Own (Nw w []) M w78 (f85 ++ (([g5]) ++ (([g4]) ++ []))) ∧ (RT.rs (RT.rs (RT.int .i64))).val M w78 (.slice pa0 pn0 pc0) r_.2 ([]) ∧ (RT.rs (RT.rs (RT.int .i64))).val M w78 (.slice pa1 pn1 pc1) s_.2 ([]) ∧ BoxV w78 g4 71 [(.int .i64 s_.1), (.slice pa1 pn1 pc1)] ∧ BoxV w78 g5 71 [(.int .i64 0), (.slice none 0 0)] ∧ (RT.os 22 (RT.os 3 (RT.int .i64))).val M w78 (.slice a85 n85 c85) s77 f85) (K := (k_impl_composeRelations M w)) ?_ ?_ r_.2 0 ([]) o81 _ _ ?_ hl82 ?_
 ·rintro _ s77 a w78 ⟨k79, rfl, hd, σ, a83, n83, c83, f83, rfl, hC, hO, h0, h1, hb4, hb5, hv83⟩
  have hlt := drop_nil_ge hd
  refine c_seq (c_region ?_)
  refine pl_val (.bool (decide ((k79 : Int) < (r_.2.length : Int)))) (y_lss rfl rfl) ?_
  refine c_nil ?_
  refine c_seq ?_
  refine c_condF (congrArg Value.bool (decide_eq_false hlt)) ?_
  refine wp_exit ?_
  have hO := hO.fr2
  have hO := hO.fr2
  have hO := hO.fr2
  exact ⟨rfl, _, a83, n83, c83, f83, fr_ovl 46 ⟨rfl, rfl, trivial⟩, hC, hO, h0, h1, hb4, hb5, hv83⟩
 ·rintro _ x80 xs_ s77 o81 a w78 ⟨k79, rfl, hd, σ, a83, n83, c83, f83, rfl, hC, hO, h0, h1, hb4, hb5, hv83⟩ hs
  have hlt := drop_cons_lt hd
  have hxk79 := drop_cons_idx hd
  refine c_seq (c_region ?_)
  refine pl_val (.bool (decide ((k79 : Int) < (r_.2.length : Int)))) (y_lss rfl rfl) ?_
  refine c_nil ?_
  refine c_seq ?_
  refine c_condT (congrArg Value.bool (decide_eq_true hlt)) ?_
  refine wp_skip ?_
  refine c_seq ?_
  refine wp_block ?_
  refine c_seq (c_region ?_)
  obtain ⟨b87, o87, hp87, ha87⟩ := rs_idx Sl41 Sz22 h0 hxk79
  refine pl_val (.pointer (some ⟨b87, o87, none⟩)) (hp87 _ _ _ _ _ _ _ _ _ rfl rfl) ?_
  obtain ⟨v88, hl88, hv88⟩ := at_load Ag22 Sz22 (fun _ => rfl) ha87
  obtain ⟨a88, n88, c88, rfl⟩ := rs_sl hv88
  refine pl_val (.slice a88 n88 c88) (y_load rfl (hl88 _ (Chg.refl _ _))) ?_
  refine pl_val (.slice a88 n88 c88) (y_assign rfl) ?_
  refine c_nil ?_
  refine c_seq (c_region ?_)
  refine pl_val (.pointer (some ⟨g4, 1, none⟩)) (y_faddr rfl Fa71x1) ?_
  refine pl_val (.slice pa1 pn1 pc1) (y_load rfl ((box_load Ag41 Sz41 hb4 [(.int .i64 s_.1)] [(.slice pa1 pn1 pc1)] [] rfl rfl (fun _ => rfl)) _ (Chg.refl _ _))) ?_
  refine pl_val (.int .i64 (s_.2.length : Int)) (y_len' Sl41 (rs_len h1) rfl) ?_
  refine pl_val (.int .i64 0) (y_move rfl) ?_
  refine c_nil ?_
  obtain ⟨o122, hl123, hs⟩ := bind_some hs
  refine wp_block ?_
  refine wp_forR (id := 2) (I := fun i_ xs_ s118 a w119 => ∃ k120 : Nat, i_ = (k120 : Int) ∧ List.drop k120 s_.2 = xs_ ∧ (∃ (σ : Nat → Value) (a124 : Option Addr) (n124 : Nat) (c124 : Nat) (f124 : List Nat), a = fr 46 (ovl σ [(3, (.pointer (some ⟨g4, 0, none⟩))), (4, (.pointer (some ⟨g5, 0, none⟩))), (5, (.slice a124 n124 c124)), (7, (.slice a88 n88 c88)), (12, (.slice pa0 pn0 pc0)), (13, (.int .i64 (r_.2.length : Int))), (14, (.int .i64 (k79 : Int))), (19, (.slice pa1 pn1 pc1)), (20, (.int .i64 (s_.2.length : Int))), (21, (.int .i64 (k120 : Int)))]) ∧ Chg [] w w119 ∧ Own (Nw w []) M w119 (f124 ++ (([g5]) ++ (([g4]) ++ []))) ∧ (RT.rs (RT.rs (RT.int .i64))).val M w119 (.slice pa0 pn0 pc0) r_.2 ([]) ∧ (RT.rs (RT.rs (RT.int .i64))).val M w119 (.slice pa1 pn1 pc1) s_.2 ([]) ∧ BoxV w119 g4 71 [(.int .i64 s_.1), (.slice pa1 pn1 pc1)] ∧ BoxV w119 g5 71 [(.int .i64 0), (.slice none 0 0)] ∧ (RT.rs (RT.int .i64)).val M w119 (.slice a88 n88 c88) x80 ([]) ∧ (RT.os 22 (RT.os 3 (RT.int .i64))).val M w119 (.slice a124 n124 c124) s118 f124)) (J := fun s118 a w119 => ∃ (σ : Nat → Value) (a126 : Option Addr) (n126 : Nat) (c126 : Nat) (f126 : List Nat), a = fr 46 (ovl σ [(3, (.pointer (some ⟨g4, 0, none⟩))), (4, (.pointer (some ⟨g5, 0, none⟩))), (5, (.slice a126 n126 c126)), (12, (.slice pa0 pn0 pc0)), (13, (.int .i64 (r_.2.length : Int))), (14, (.int .i64 (k79 : Int)))]) ∧ Chg [] w w119 ∧ Own (Nw w []) M w119 (f126 ++ (([g5]) ++ (([g4]) ++ []))) ∧ (RT.rs (RT.rs (RT.int .i64))).val M w119 (.slice pa0 pn0 pc0) r_.2 ([]) ∧ (RT.rs (RT.rs (RT.int .i64))).val M w119 (.slice pa1 pn1 pc1) s_.2 ([]) ∧ BoxV w119 g4 71 [(.int .i64 s_.1), (.slice pa1 pn1 pc1)] ∧ BoxV w119 g5 71 [(.int .i64 0), (.slice none 0 0)] ∧ (RT.rs (RT.int .i64)).val M w119 (.slice a88 n88 c88) x80 ([]) ∧ (RT.os 22 (RT.os 3 (RT.int .i64))).val M w119 (.slice a126 n126 c126) s118 f126) (K := (k_impl_composeRelations M w)) ?_ ?_ s_.2 0 s77 o122 _ _ ?_ hl123 ?_
  ·rintro _ s118 a w119 ⟨k120, rfl, hd, σ, a124, n124, c124, f124, rfl, hC, hO, h0, h1, hb4, hb5, hv88, hv124⟩
   have hlt := drop_nil_ge hd
   refine c_seq (c_region ?_)
   refine pl_val (.bool (decide ((k120 : Int) < (s_.2.length : Int)))) (y_lss rfl rfl) ?_
   refine c_nil ?_
   refine c_seq ?_
   refine c_condF (congrArg Value.bool (decide_eq_false hlt)) ?_
   refine wp_exit ?_
   have hO := hO.fr2
   have hO := hO.fr2
   have hO := hO.fr2
   exact ⟨rfl, _, a124, n124, c124, f124, fr_ovl 46 ⟨rfl, rfl, rfl, rfl, rfl, rfl, trivial⟩, hC, hO, h0, h1, hb4, hb5, hv88, hv124⟩
  ·rintro _ x121 xs_ s118 o122 a w119 ⟨k120, rfl, hd, σ, a124, n124, c124, f124, rfl, hC, hO, h0, h1, hb4, hb5, hv88, hv124⟩ hs
   have hlt := drop_cons_lt hd
   have hxk120 := drop_cons_idx hd
   refine c_seq (c_region ?_)
   refine pl_val (.bool (decide ((k120 : Int) < (s_.2.length : Int)))) (y_lss rfl rfl) ?_
   refine c_nil ?_
   refine c_seq ?_
   refine c_condT (congrArg Value.bool (decide_eq_true hlt)) ?_
   refine wp_skip ?_
   refine c_seq ?_
   refine wp_block ?_
   refine c_seq (c_region ?_)
   obtain ⟨b128, o128, hp128, ha128⟩ := rs_idx Sl41 Sz22 h1 hxk120
   refine pl_val (.pointer (some ⟨b128, o128, none⟩)) (hp128 _ _ _ _ _ _ _ _ _ rfl rfl) ?_
   obtain ⟨v129, hl129, hv129⟩ := at_load Ag22 Sz22 (fun _ => rfl) ha128
   obtain ⟨a129, n129, c129, rfl⟩ := rs_sl hv129
   refine pl_val (.slice a129 n129 c129) (y_load rfl (hl129 _ (Chg.refl _ _))) ?_
   refine pl_val (.slice a129 n129 c129) (y_assign rfl) ?_
   refine c_nil ?_
   refine c_seq ?_
   refine x_start [] Mx rfl ?_
   have hCw136 := Chg.drew w119
   generalize World.drew w119 = w136 at hCw136 ⊢
   have h0 := h0.ext hCw136
   have h1 := h1.ext hCw136
   have hb4 := hb4.chg hCw136 (fun h => nomatch h)
   have hb5 := hb5.chg hCw136 (fun h => nomatch h)
   have hv88 := hv88.ext hCw136
   have hv124 := hv124.ext hCw136
   have hv129 := hv129.ext hCw136
   have hC := hC.ext hCw136
   have hO := hO.ext hCw136
   have hS := Chg.refl [] w136
   refine x_p 0 (.slice a88 n88 c88) rfl (by kernel_rfl)  (fun _ => y_move rfl) (fun _ => hS) ?_
   obtain ⟨x137, hx137, hs⟩ := bind_some hs
   obtain ⟨b138, o138, hp138, ha138⟩ := rs_idx Sl22 Sz3 hv88 hx137
   refine x_p 1 (.pointer (some ⟨b138, o138, none⟩)) rfl (by kernel_rfl)  (fun _ => hp138 _ _ _ _ _ _ _ _ _ rfl rfl) (fun _ => hS) ?_
   refine x_l 2 (.int .i64 x137) rfl (by kernel_rfl)  (fun w' hw' => y_load rfl ((at_load_int Ag3 Sz3 ha138) w' hw')) hS ?_
   refine x_p 3 (.slice a129 n129 c129) rfl (by kernel_rfl)  (fun _ => y_move rfl) (fun _ => hS) ?_
   obtain ⟨x139, hx139, hs⟩ := bind_some hs
   obtain ⟨b140, o140, hp140, ha140⟩ := rs_idx Sl22 Sz3 hv129 hx139
   refine x_p 4 (.pointer (some ⟨b140, o140, none⟩)) rfl (by kernel_rfl)  (fun _ => hp140 _ _ _ _ _ _ _ _ _ rfl rfl) (fun _ => hS) ?_
   refine x_l 5 (.int .i64 x139) rfl (by kernel_rfl)  (fun w' hw' => y_load rfl ((at_load_int Ag3 Sz3 ha140) w' hw')) hS ?_
   refine x_p 6 (.bool (x137 == x139)) rfl (by kernel_rfl)  (fun _ => y_eql rfl rfl) (fun _ => hS) ?_
   refine x_end (by kernel_rfl) ?_
   clear hS
   rcases bif_some hs with ⟨hc141, hs⟩ | ⟨hc141, hs⟩
   ·skip
    refine c_condT (congrArg Value.bool hc141) ?_
    refine x_start [9] Mx rfl ?_
    have hCw142 := Chg.drew w136
    generalize World.drew w136 = w142 at hCw142 ⊢
    have h0 := h0.ext hCw142
    have h1 := h1.ext hCw142
    have hb4 := hb4.chg hCw142 (fun h => nomatch h)
    have hb5 := hb5.chg hCw142 (fun h => nomatch h)
    have hv88 := hv88.ext hCw142
    have hv124 := hv124.ext hCw142
    have hv129 := hv129.ext hCw142
    have hC := hC.ext hCw142
    have hO := hO.ext hCw142
    have hS := Chg.refl [] w142
    refine x_p 0 (.slice a124 n124 c124) rfl (by kernel_rfl)  (fun _ => y_move rfl) (fun _ => hS) ?_
    refine x_p 1 (.slice a88 n88 c88) rfl (by kernel_rfl)  (fun _ => y_move rfl) (fun _ => hS) ?_
    obtain ⟨x143, hx143, hs⟩ := bind_some hs
    obtain ⟨b144, o144, hp144, ha144⟩ := rs_idx Sl22 Sz3 hv88 hx143
    refine x_p 2 (.pointer (some ⟨b144, o144, none⟩)) rfl (by kernel_rfl)  (fun _ => hp144 _ _ _ _ _ _ _ _ _ rfl rfl) (fun _ => hS) ?_
    refine x_l 3 (.int .i64 x143) rfl (by kernel_rfl)  (fun w' hw' => y_load rfl ((at_load_int Ag3 Sz3 ha144) w' hw')) hS ?_
    refine x_p 4 (.slice a129 n129 c129) rfl (by kernel_rfl)  (fun _ => y_move rfl) (fun _ => hS) ?_
    obtain ⟨x145, hx145, hs⟩ := bind_some hs
    obtain ⟨b146, o146, hp146, ha146⟩ := rs_idx Sl22 Sz3 hv129 hx145
    refine x_p 5 (.pointer (some ⟨b146, o146, none⟩)) rfl (by kernel_rfl)  (fun _ => hp146 _ _ _ _ _ _ _ _ _ rfl rfl) (fun _ => hS) ?_
    refine x_l 6 (.int .i64 x145) rfl (by kernel_rfl)  (fun w' hw' => y_load rfl ((at_load_int Ag3 Sz3 ha146) w' hw')) hS ?_
    refine x_one (i := 7) (by kernel_rfl) ?_
    obtain ⟨w147, g147, ew147, eg147, hC147, hb147⟩ := new_block w142 [(.int .i64 x143), (.int .i64 x145)] 3
    refine xk_val (w' := w147) (b := false) (.slice (some ⟨g147, 0, none⟩) 2 2) rfl  (y_bslice rfl (by rw [ew147, eg147]; kernel_rfl)) rfl (fun _ => hS.ext hC147) ?_
    have h0 := h0.ext hC147
    have h1 := h1.ext hC147
    have hb4 := hb4.chg hC147 (fun h => nomatch h)
    have hb5 := hb5.chg hC147 (fun h => nomatch h)
    have hv88 := hv88.ext hC147
    have hv124 := hv124.ext hC147
    have hv129 := hv129.ext hC147
    have hC := hC.ext hC147
    have hO := hO.new1 hC147 eg147 hb147.lt
    have hv147 := os_of_box (r := (RT.int .i64)) (M := M) (css := [[(.int .i64 x143)], [(.int .i64 x145)]]) (fps := [([] : List Nat), ([] : List Nat)]) (xs := ([x143, x145] : List Int)) hb147 ⟨⟨rfl, rfl⟩, ⟨⟨rfl, rfl⟩, trivial⟩⟩ (Nat.le_of_ble_eq_true rfl) (List.nodup_cons.2 ⟨(fun h => nomatch h), List.nodup_nil⟩)
    have hv147 : (RT.os 3 (RT.int .i64)).val M w147 (.slice (some ⟨g147, 0, none⟩) 2 2) [x143, x145] [g147] := hv147
    have hS := hS.ext hC147
    refine x_one (i := 8) (by kernel_rfl) ?_
    obtain ⟨w149, g149, ew149, eg149, hC149, hb149⟩ := new_block w147 [(.slice (some ⟨g147, 0, none⟩) 2 2)] 22
    refine xk_val (w' := w149) (b := false) (.slice (some ⟨g149, 0, none⟩) 1 1) rfl  (y_bslice rfl (by rw [ew149, eg149]; kernel_rfl)) rfl (fun _ => hS.ext hC149) ?_
    have h0 := h0.ext hC149
    have h1 := h1.ext hC149
    have hb4 := hb4.chg hC149 (fun h => nomatch h)
    have hb5 := hb5.chg hC149 (fun h => nomatch h)
    have hv88 := hv88.ext hC149
    have hv124 := hv124.ext hC149
    have hv129 := hv129.ext hC149
    have hv147 := hv147.ext hC149
    have hC := hC.ext hC149
    have hO := hO.new1 hC149 eg149 hb149.lt
    have hO := hO.perm (R := (g149 :: ((([g147])) ++ ([]))) ++ (f124 ++ (([g5]) ++ (([g4]) ++ ([]))))) (by simp)
    have hnd149 := hO.nd
    have hv149 := os_of_box (r := (RT.os 3 (RT.int .i64))) (M := M) (css := [[(.slice (some ⟨g147, 0, none⟩) 2 2)]]) (fps := [([g147] : List Nat)]) (xs := ([[x143, x145]] : List (List Int))) hb149 ⟨(os_unval hv147), trivial⟩ (Nat.le_of_ble_eq_true rfl) hnd149
    have hv149 : (RT.os 22 (RT.os 3 (RT.int .i64))).val M w149 (.slice (some ⟨g149, 0, none⟩) 1 1) [[x143, x145]] (g149 :: ((([g147])) ++ ([]))) := hv149
    have hS := hS.ext hC149
    refine x_one (i := 9) (by kernel_rfl) ?_
    obtain ⟨y152, hy152, hs⟩ := bind_some hs
    have hO := hO.fr1
    obtain ⟨a151, n151, c151, w151, f151, hr151, hC151, hf151, hv151⟩ := app_os Rw41 hy152 hv124 hv149 hO.inM (fun g hg hq => hO.apart g hq (mem_l hg))
    have hG151 := os_block hv124
    refine xk_val (w' := w151) (b := true) (.slice a151 n151 c151) rfl  (y_append rfl rfl (hr151 _)) rfl (fun h => nomatch h) ?_
    have hO := hO.fr1
    have hO := hO.fr1
    have h0 := h0.mut hC151 (fun g hg => hO.inM g (hG151 g hg)) (fun _ _ h => nomatch h)
    have h1 := h1.mut hC151 (fun g hg => hO.inM g (hG151 g hg)) (fun _ _ h => nomatch h)
    have hb4 := hb4.chg hC151 (fun hg => hO.apart _ (hG151 _ hg) (mem_r (mem_r (mem_l (List.mem_singleton.2 rfl)))))
    have hb5 := hb5.chg hC151 (fun hg => hO.apart _ (hG151 _ hg) (mem_r (mem_l (List.mem_singleton.2 rfl))))
    have hv88 := hv88.mut hC151 (fun g hg => hO.inM g (hG151 g hg)) (fun _ _ h => nomatch h)
    have hv129 := hv129.mut hC151 (fun g hg => hO.inM g (hG151 g hg)) (fun _ _ h => nomatch h)
    have hC := hC.step hC151 (fun g hg => hO.inN g (hG151 g hg))
    have hO := hO.eat hC151 hf151 (os_nodup hv151) hv151.fpl
    refine x_p 10 (.slice a151 n151 c151) rfl (by kernel_rfl)  (fun _ => y_assign rfl) (fun h => nomatch h) ?_
    refine x_end (by kernel_rfl) ?_
    clear hS
    refine c_region ?_
    refine pl_val (.int .i64 (w64 ((k120 : Int) + 1))) (y_add rfl rfl) ?_
    refine pl_val (.int .i64 (w64 ((k120 : Int) + 1))) (y_move rfl) ?_
    refine c_nil ?_
    cases hs
    have hO := hO.fr2
    have hO := hO.fr2
    have hO := hO.fr2
    exact ⟨_, rfl, drop_cons_next hd, _, a151, n151, c151, f151, fr_ovl 46 ⟨rfl, rfl, rfl, rfl, rfl, rfl, rfl, rfl, rfl, congrArg (Value.int .i64) (w64_succ hlt (Int.natCast_nonneg _) (rs_max h1)), trivial⟩, hC, hO, h0, h1, hb4, hb5, hv88, hv151⟩
   ·skip
    refine c_condF (congrArg Value.bool hc141) ?_
    refine wp_skip ?_
    refine c_region ?_
    refine pl_val (.int .i64 (w64 ((k120 : Int) + 1))) (y_add rfl rfl) ?_
    refine pl_val (.int .i64 (w64 ((k120 : Int) + 1))) (y_move rfl) ?_
    refine c_nil ?_
    cases hs
    have hO := hO.fr2
    have hO := hO.fr2
    have hO := hO.fr2
    exact ⟨_, rfl, drop_cons_next hd, _, a124, n124, c124, f124, fr_ovl 46 ⟨rfl, rfl, rfl, rfl, rfl, rfl, rfl, rfl, rfl, congrArg (Value.int .i64) (w64_succ hlt (Int.natCast_nonneg _) (rs_max h1)), trivial⟩, hC, hO, h0, h1, hb4, hb5, hv88, hv124⟩
  ·skip
   have hO := hO.fr2
   have hO := hO.fr2
   have hO := hO.fr2
   exact ⟨0, rfl, rfl, _, a83, n83, c83, f83, fr_ovl 46 ⟨rfl, rfl, rfl, rfl, rfl, rfl, rfl, rfl, rfl, rfl, trivial⟩, hC, hO, h0, h1, hb4, hb5, hv88, hv83⟩
  ·cases o122 with
   | nx _ => exact True.intro
   | rt r_ =>
    have hs := after_rt hs
    intro a1 w1 hK
    cases hs
    exact hK
   | br s118 =>
    have hs := after_br hs
    rintro a1 w119 ⟨σ, a126, n126, c126, f126, rfl, hC, hO, h0, h1, hb4, hb5, hv88, hv126⟩
    refine c_region ?_
    refine pl_val (.int .i64 (w64 ((k79 : Int) + 1))) (y_add rfl rfl) ?_
    refine pl_val (.int .i64 (w64 ((k79 : Int) + 1))) (y_move rfl) ?_
    refine c_nil ?_
    cases hs
    have hO := hO.fr2
    have hO := hO.fr2
    have hO := hO.fr2
    exact ⟨_, rfl, drop_cons_next hd, _, a126, n126, c126, f126, fr_ovl 46 ⟨rfl, rfl, rfl, rfl, rfl, congrArg (Value.int .i64) (w64_succ hlt (Int.natCast_nonneg _) (rs_max h0)), trivial⟩, hC, hO, h0, h1, hb4, hb5, hv126⟩
 ·skip
  have hO := hO.fr2
  have hO := hO.fr2
  have hO := hO.fr2
  exact ⟨0, rfl, rfl, _, (some ⟨g6, 0, none⟩), 0, 0, ([g6]), fr_ovl 46 ⟨rfl, rfl, rfl, rfl, rfl, rfl, trivial⟩, hC, hO, h0, h1, hb4, hb5, hv6⟩
 ·cases o81 with
  | nx _ => exact True.intro
  | rt r_ =>
   have hs := after_rt hs
   intro a1 w1 hK
   cases hs
   exact hK
  | br s77 =>
   have hs := after_br hs
   rintro a1 w78 ⟨σ, a85, n85, c85, f85, rfl, hC, hO, h0, h1, hb4, hb5, hv85⟩
   refine c_seq (c_region ?_)
   refine pl_val (.slice a85 n85 c85) (y_move rfl) ?_
   obtain ⟨M155, eM155, hs155, hk155, hO, hv155⟩ := frz_own (Frz.os (Frz.os Frz.int)) hv85 hO
   have h0 := h0.sub (M' := M155) hs155
   have h1 := h1.sub (M' := M155) hs155
   have hK := hk155
   obtain ⟨r156, hr156, hs⟩ := bind_some hs
   refine pl_call Bd104 rfl (c_impl_makeRelation (M := M155) 2 s77 hv155 hO.fut hr156) ?_
   rintro _ w154 ⟨a154x0, n154x0, c154x0, rfl, hC154, hv154x0⟩
   have hK := hK.trans (show Keeps w M155 (Past M155 w78 w154) from Keeps.past hC.size)
   have h0 := h0.ext hC154
   have h1 := h1.ext hC154
   have hb4 := hb4.chg hC154 (fun h => nomatch h)
   have hb5 := hb5.chg hC154 (fun h => nomatch h)
   have hv155 := hv155.ext hC154
   have hC := hC.ext hC154
   have hO := hO.past hC154
   have h0 := h0.sub (M' := (Past M155 w78 w154)) (fun g hg => .inl hg.1)
   have h1 := h1.sub (M' := (Past M155 w78 w154)) (fun g hg => .inl hg.1)
   have hv155 := hv155.sub (M' := (Past M155 w78 w154)) (fun g hg => .inl hg.1)
   obtain ⟨w158, hst158, hC158, hb158⟩ := box_store (P := Try.prog) hb5 [] [(.int .i64 0), (.slice none 0 0)] [] [(.int .i64 r156.1), (.slice a154x0 n154x0 c154x0)] rfl rfl (by intro u hu; simp only [List.mem_cons, List.not_mem_nil, or_false] at hu; rcases hu with rfl | rfl <;> rfl)
   refine pl_skip (w' := w158) (ys_store rfl rfl (hst158 _ _ rfl Sz71)) ?_
   have h0 := h0.mut hC158 (fun g hg => hO.inM g ((fun _ h => h) g hg)) (fun _ _ h => nomatch h)
   have h1 := h1.mut hC158 (fun g hg => hO.inM g ((fun _ h => h) g hg)) (fun _ _ h => nomatch h)
   have hb4 := hb4.chg hC158 (fun hg => hO.apart _ ((fun _ h => h) _ hg) (mem_l (List.mem_singleton.2 rfl)))
   have hv155 := hv155.mut hC158 (fun g hg => hO.inM g ((fun _ h => h) g hg)) (fun _ _ h => nomatch h)
   have hv154x0 := hv154x0.mut hC158 (fun g hg => hO.inM g ((fun _ h => h) g hg)) (fun _ _ h => nomatch h)
   have hC := hC.step hC158 (fun g hg => hO.inN g ((fun _ h => h) g hg))
   have hO := hO.ext hC158
   have hb158 : BoxV w158 g5 71 [(.int .i64 r156.1), (.slice a154x0 n154x0 c154x0)] := hb158
   refine c_nil ?_
   refine wp_ret ?_
   cases hs
   exact ⟨_, g5, a154x0, n154x0, c154x0, fr_ovl 46 ⟨rfl, trivial⟩, hb158, hC, (Keeps.out hK hv154x0)⟩

theorem Bd78 : Bodied Try.prog 78 := bodied Try.func78 (by kernel_rfl) rfl

theorem Bd77 : Bodied Try.prog 77 := bodied Try.func77 (by kernel_rfl) rfl

theorem Bd79 : Bodied Try.prog 79 := bodied Try.func79 (by kernel_rfl) rfl

def k_impl_factorsToJoin (M : Nat → Prop) (w0 : World) (r : Int) (a : Act) (w : World) : Prop :=
  ∃ (σ : Nat → Value) , a = fr 34 (ovl σ [(4, (.int .i64 r))]) ∧ Chg [] w0 w
def s_impl_factorsToJoin (p : List Int) (q : List Int) : Option (Int) :=
  (s_impl_join p q).bind fun r4 =>
  (s_impl_relationOfPartition r4).bind fun r7 =>
  (s_impl_relationOfPartition p).bind fun r10 =>
  (iter (S := Int × Int × (List (List Int))) (R := Int) (fun s71 =>
  (bif (decide ((s71.2.2.length : Int) < (r7.2.length : Int))) then (bif ((Int.tmod (w64 (s71.1 + 1)) 2) == 0) then some q else some p).bind fun s84 =>
  (s_impl_relationOfPartition s84).bind fun r92 =>
  (s_impl_composeRelations (s71.2.1, s71.2.2) (r92.1, r92.2)).bind fun r96 =>
  some (.nx (w64 (s71.1 + 1), r96.1, r96.2)) else some (.br (s71.1, s71.2.1, s71.2.2)))) FU (1, r10.1, r10.2)).bind fun o75 => after o75 (fun r_ => some r_) (fun s71 =>
  some s71.1)
set_option maxHeartbeats 4000000 in
theorem c_impl_factorsToJoin {M : Nat → Prop} {w : World} {pa0 : Option Addr} {pn0 pc0 : Nat} {pa1 : Option Addr} {pn1 pc1 : Nat} (p : List Int) (q : List Int) (h0 : (RT.rs (RT.int .i64)).val M w (.slice pa0 pn0 pc0) p ([])) (h1 : (RT.rs (RT.int .i64)).val M w (.slice pa1 pn1 pc1) q ([])) (hM : ∀ g, w.heap.size ≤ g → M g) {r : Int} (hs : s_impl_factorsToJoin p q = some r) :
    Gives Try.prog 47 [(.slice pa0 pn0 pc0), (.slice pa1 pn1 pc1)] w (fun v w' => v = (.int .i64 r) ∧ Chg [] w w') := by
 refine calls_fr Try.func47 rfl Try.ntmps47 (Nat.le_of_ble_eq_true rfl) ?_
 have hO := Own.start (N := Nw w []) hM Nw.fut
 have hC := Chg.refl [] w
 unfold s_impl_factorsToJoin at hs
 refine wp_mono (Q := KPost (k_impl_factorsToJoin M w r)) ?_ (fun e a w1 h => ?_)
 rotate_left
 ·cases e
  case ret =>
   obtain ⟨σ, rfl, hrest⟩ := h
   exact ret1x Try.results47 (res_tmp rfl) ⟨rfl, hrest⟩
  all_goals exact (h : False).elim
 refine c_seq (c_region ?_)
 refine pl_val (.int .i64 0) (y_assign rfl) ?_
 refine c_nil ?_
 refine c_seq (c_region ?_)
 refine pl_val (.slice pa0 pn0 pc0) (y_move rfl) ?_
 refine pl_val (.slice pa1 pn1 pc1) (y_move rfl) ?_
 obtain ⟨r4, hr4, hs⟩ := bind_some hs
 refine pl_call Bd78 rfl (c_impl_join (M := M) p q h0 h1 hO.fut hr4) ?_
 rintro _ w3 ⟨a3x0, n3x0, c3x0, f3x0, rfl, hC3, hv3x0, hOc3⟩
 have h0 := h0.ext hC3
 have h1 := h1.ext hC3
 have hC := hC.ext hC3
 have hO := Own.join0 hO hC3 hOc3
 have hO := hO.perm (R := f3x0 ++ ([])) (by simp)
 obtain ⟨r7, hr7, hs⟩ := bind_some hs
 refine pl_call Bd77 rfl (c_impl_relationOfPartition (M := (Less M f3x0)) r4 (((Frz.os Frz.int)).val hv3x0 Less.sub Less.not) hO.less.fut hr7) ?_
 rintro _ w6 ⟨a6x0, n6x0, c6x0, f6x0, rfl, hC6, hv6x0, hOc6⟩
 have h0 := h0.ext hC6
 have h1 := h1.ext hC6
 have hv3x0 := hv3x0.ext hC6
 have hC := hC.ext hC6
 have hO := Own.join0 hO hC6 hOc6
 have hO := hO.perm (R := f6x0 ++ (f3x0 ++ ([]))) (by simp)
 have hv6x0 := hv6x0.free (M' := M) (Free.os (Free.os Free.int))
 refine pl_val (.slice a6x0 n6x0 c6x0) (y_field rfl (by kernel_rfl)) ?_
 refine pl_val (.int .i64 (r7.2.length : Int)) (y_len' Sl41 (os_len hv6x0) rfl) ?_
 refine pl_val (.int .i64 (r7.2.length : Int)) (y_assign rfl) ?_
 refine c_nil ?_
 refine c_seq (c_region ?_)
 refine pl_val (.slice pa0 pn0 pc0) (y_move rfl) ?_
 obtain ⟨r10, hr10, hs⟩ := bind_some hs
 refine pl_call Bd77 rfl (c_impl_relationOfPartition (M := M) p h0 hO.fut hr10) ?_
 rintro _ w9 ⟨a9x0, n9x0, c9x0, f9x0, rfl, hC9, hv9x0, hOc9⟩
 have h0 := h0.ext hC9
 have h1 := h1.ext hC9
 have hv3x0 := hv3x0.ext hC9
 have hv6x0 := hv6x0.ext hC9
 have hC := hC.ext hC9
 have hO := Own.join0 hO hC9 hOc9
 have hO := hO.perm (R := f9x0 ++ (f6x0 ++ (f3x0 ++ ([])))) (by simp)
 obtain ⟨w12, g12, ew12, eg12, hC12, hb12⟩ := new_block w9 [(.int .i64 0), (.slice none 0 0)] 71
 refine pl_val (w' := w12) (.pointer (some ⟨g12, 0, none⟩)) (y_alloc (by rw [ew12, eg12]; kernel_rfl)) ?_
 have h0 := h0.ext hC12
 have h1 := h1.ext hC12
 have hv3x0 := hv3x0.ext hC12
 have hv6x0 := hv6x0.ext hC12
 have hv9x0 := hv9x0.ext hC12
 have hC := hC.ext hC12
 have hO := hO.new1 hC12 eg12 hb12.lt
 obtain ⟨w13, hst13, hC13, hb13⟩ := box_store (P := Try.prog) hb12 [] [(.int .i64 0), (.slice none 0 0)] [] [(.int .i64 r10.1), (.slice a9x0 n9x0 c9x0)] rfl rfl (by intro u hu; simp only [List.mem_cons, List.not_mem_nil, or_false] at hu; rcases hu with rfl | rfl <;> rfl)
 refine pl_skip (w' := w13) (ys_store rfl rfl (hst13 _ _ rfl Sz71)) ?_
 have h0 := h0.mut hC13 (fun g hg => hO.inM g ((fun _ h => h) g hg)) (fun _ _ h => nomatch h)
 have h1 := h1.mut hC13 (fun g hg => hO.inM g ((fun _ h => h) g hg)) (fun _ _ h => nomatch h)
 have hv3x0 := hv3x0.mut hC13 (fun g hg => hO.inM g ((fun _ h => h) g hg)) (fun g hg e => hO.apart g ((fun _ h => h) g hg) (mem_r (mem_r (mem_l (e)))))
 have hv6x0 := hv6x0.mut hC13 (fun g hg => hO.inM g ((fun _ h => h) g hg)) (fun g hg e => hO.apart g ((fun _ h => h) g hg) (mem_r (mem_l (e))))
 have hv9x0 := hv9x0.mut hC13 (fun g hg => hO.inM g ((fun _ h => h) g hg)) (fun g hg e => hO.apart g ((fun _ h => h) g hg) (mem_l (e)))
 have hC := hC.step hC13 (fun g hg => hO.inN g ((fun _ h => h) g hg))
 have hO := hO.ext hC13
 have hb13 : BoxV w13 g12 71 [(.int .i64 r10.1), (.slice a9x0 n9x0 c9x0)] := hb13
 refine c_nil ?_
 refine c_seq (c_region ?_)
 refine pl_val (.int .i64 1) (y_assign rfl) ?_
 refine c_nil ?_
 refine c_seq ?_
 have hO := hO.fr2
 have hO := hO.drop
 have hO := hO.fr2
 have hO := hO.drop
 have hO := hO.fr1
 obtain ⟨M70, eM70, hs70, hk70, hO, hv70⟩ := frz_own (Frz.os (Frz.os Frz.int)) hv9x0 hO
 have h0 := h0.sub (M' := M70) hs70
 have h1 := h1.sub (M' := M70) hs70
 have hK := hk70
 obtain ⟨o75, hl76, hs⟩ := bind_some hs
 refine wp_block ?_
 refine wp_iter (id := 0) (I := fun s71 a w72 => ∃ (σ : Nat → Value) (M77 : Nat → Prop) (a78 : Option Addr) (n78 : Nat) (c78 : Nat), a = fr 34 (ovl σ [(0, (.slice pa0 pn0 pc0)), (1, (.slice pa1 pn1 pc1)), (5, (.int .i64 (r7.2.length : Int))), (6, (.pointer (some ⟨g12, 0, none⟩))), (7, (.int .i64 s71.1))]) ∧ Chg [] w w72 ∧ Own (Nw w []) M77 w72 (([g12]) ++ []) ∧ Keeps w M M77 ∧ (RT.rs (RT.int .i64)).val M77 w72 (.slice pa0 pn0 pc0) p ([]) ∧ (RT.rs (RT.int .i64)).val M77 w72 (.slice pa1 pn1 pc1) q ([]) ∧ BoxV w72 g12 71 [(.int .i64 s71.2.1), (.slice a78 n78 c78)] ∧ (RT.rs (RT.rs (RT.int .i64))).val M77 w72 (.slice a78 n78 c78) s71.2.2 ([])) (J := fun s71 a w72 => ∃ (σ : Nat → Value) (M80 : Nat → Prop) (a81 : Option Addr) (n81 : Nat) (c81 : Nat), a = fr 34 (ovl σ [(7, (.int .i64 s71.1))]) ∧ Chg [] w w72 ∧ Own (Nw w []) M80 w72 (([g12]) ++ []) ∧ Keeps w M M80 ∧ (RT.rs (RT.int .i64)).val M80 w72 (.slice pa0 pn0 pc0) p ([]) ∧ (RT.rs (RT.int .i64)).val M80 w72 (.slice pa1 pn1 pc1) q ([]) ∧ BoxV w72 g12 71 [(.int .i64 s71.2.1), (.slice a81 n81 c81)] ∧ (RT.rs (RT.rs (RT.int .i64))).val M80 w72 (.slice a81 n81 c81) s71.2.2 ([])) (K := (k_impl_factorsToJoin M w)) ?_ FU (1, r10.1, r10.2) o75 _ _ ?_ hl76 ?_
 ·rintro s71 o75 a w72 ⟨σ, M77, a78, n78, c78, rfl, hC, hO, hK, h0, h1, hb13, hv78⟩ hs
  refine c_seq ?_
  refine c_seq (c_region ?_)
  refine pl_val (.pointer (some ⟨g12, 1, none⟩)) (y_faddr rfl Fa71x1) ?_
  refine pl_val (.slice a78 n78 c78) (y_load rfl ((box_load Ag41 Sz41 hb13 [(.int .i64 s71.2.1)] [(.slice a78 n78 c78)] [] rfl rfl (fun _ => rfl)) _ (Chg.refl _ _))) ?_
  refine pl_val (.int .i64 (s71.2.2.length : Int)) (y_len' Sl41 (rs_len hv78) rfl) ?_
  refine pl_val (.int .i64 (r7.2.length : Int)) (y_move rfl) ?_
  refine pl_val (.bool (decide ((s71.2.2.length : Int) < (r7.2.length : Int)))) (y_lss rfl rfl) ?_
  refine c_nil ?_
  rcases bif_some hs with ⟨hc83, hs⟩ | ⟨hc83, hs⟩
  ·skip
   refine c_condT (congrArg Value.bool hc83) ?_
   refine wp_skip ?_
   refine wp_block ?_
   refine c_seq (c_region ?_)
   refine pl_val (.int .i64 s71.1) (y_move rfl) ?_
   refine pl_val (.int .i64 (w64 (s71.1 + 1))) (y_add rfl rfl) ?_
   refine pl_val (.int .i64 (w64 (s71.1 + 1))) (y_assign rfl) ?_
   refine c_nil ?_
   refine c_seq (c_region ?_)
   refine pl_val (.slice pa0 pn0 pc0) (y_move rfl) ?_
   refine pl_val (.slice pa0 pn0 pc0) (y_assign rfl) ?_
   refine c_nil ?_
   refine c_seq ?_
   refine c_seq (c_region ?_)
   refine pl_val (.int .i64 (w64 (s71.1 + 1))) (y_move rfl) ?_
   refine pl_val (.int .i64 (Int.tmod (w64 (s71.1 + 1)) 2)) (y_rem rfl rfl (by decide)) ?_
   refine pl_val (.bool ((Int.tmod (w64 (s71.1 + 1)) 2) == 0)) (y_eql rfl rfl) ?_
   refine c_nil ?_
   obtain ⟨s84, hm86, hs⟩ := bind_some hs
   refine c_mid (I := fun a w85 => ∃ (σ : Nat → Value) (a87 : Option Addr) (n87 : Nat) (c87 : Nat), a = fr 34 (ovl σ [(0, (.slice pa0 pn0 pc0)), (1, (.slice pa1 pn1 pc1)), (5, (.int .i64 (r7.2.length : Int))), (6, (.pointer (some ⟨g12, 0, none⟩))), (7, (.int .i64 (w64 (s71.1 + 1)))), (8, (.slice a87 n87 c87))]) ∧ Chg [] w w85 ∧ Own (Nw w []) M77 w85 (([g12]) ++ []) ∧ (RT.rs (RT.int .i64)).val M77 w85 (.slice pa0 pn0 pc0) p ([]) ∧ (RT.rs (RT.int .i64)).val M77 w85 (.slice pa1 pn1 pc1) q ([]) ∧ BoxV w85 g12 71 [(.int .i64 s71.2.1), (.slice a78 n78 c78)] ∧ (RT.rs (RT.rs (RT.int .i64))).val M77 w85 (.slice a78 n78 c78) s71.2.2 ([]) ∧ (RT.rs (RT.int .i64)).val M77 w85 (.slice a87 n87 c87) s84 ([])) ?_ ?_
   ·replace hs := hm86
    rcases bif_some hs with ⟨hc89, hs⟩ | ⟨hc89, hs⟩
    ·skip
     refine c_condT (congrArg Value.bool hc89) ?_
     refine c_region ?_
     refine pl_val (.slice pa1 pn1 pc1) (y_move rfl) ?_
     refine pl_val (.slice pa1 pn1 pc1) (y_assign rfl) ?_
     refine c_nil ?_
     cases hs
     exact ⟨_, pa1, pn1, pc1, fr_ovl 34 ⟨rfl, rfl, rfl, rfl, rfl, rfl, trivial⟩, hC, hO, h0, h1, hb13, hv78, h1⟩
    ·skip
     refine c_condF (congrArg Value.bool hc89) ?_
     refine wp_skip ?_
     cases hs
     exact ⟨_, pa0, pn0, pc0, fr_ovl 34 ⟨rfl, rfl, rfl, rfl, rfl, rfl, trivial⟩, hC, hO, h0, h1, hb13, hv78, h0⟩
   ·rintro a1 w85 ⟨σ, a87, n87, c87, rfl, hC, hO, h0, h1, hb13, hv78, hv87⟩
    refine x_start [3, 4] Mx rfl ?_
    have hCw90 := Chg.drew w85
    generalize World.drew w85 = w90 at hCw90 ⊢
    have h0 := h0.ext hCw90
    have h1 := h1.ext hCw90
    have hb13 := hb13.chg hCw90 (fun h => nomatch h)
    have hv78 := hv78.ext hCw90
    have hv87 := hv87.ext hCw90
    have hC := hC.ext hCw90
    have hO := hO.ext hCw90
    have hS := Chg.refl [] w90
    refine x_l 0 (.agg #[(.int .i64 s71.2.1), (.slice a78 n78 c78)]) rfl (by kernel_rfl)  (fun w' hw' => y_load rfl ((box_load Ag71 Sz71 hb13 [] [(.int .i64 s71.2.1), (.slice a78 n78 c78)] [] rfl rfl (fun h => nomatch h)) w' hw')) hS ?_
    refine x_p 1 (.slice a87 n87 c87) rfl (by kernel_rfl)  (fun _ => y_move rfl) (fun _ => hS) ?_
    refine x_one (i := 2) (by kernel_rfl) ?_
    obtain ⟨r92, hr92, hs⟩ := bind_some hs
    refine xk_call (b := false) rfl  Bd77 rfl (c_impl_relationOfPartition (M := M77) s84 hv87 hO.fut hr92) rfl (by rintro _ _ _ ⟨a91x0, n91x0, c91x0, f91x0, rfl, hC91, hv91x0, hOc91⟩; exact hS.ext hC91) ?_
    rintro _ w91 ⟨a91x0, n91x0, c91x0, f91x0, rfl, hC91, hv91x0, hOc91⟩
    have h0 := h0.ext hC91
    have h1 := h1.ext hC91
    have hb13 := hb13.chg hC91 (fun h => nomatch h)
    have hv78 := hv78.ext hC91
    have hv87 := hv87.ext hC91
    have hC := hC.ext hC91
    have hO := Own.join0 hO hC91 hOc91
    have hO := hO.perm (R := f91x0 ++ (([g12]) ++ ([]))) (by simp)
    have hS := hS.ext hC91
    refine x_one (i := 3) (by kernel_rfl) ?_
    obtain ⟨M95, eM95, hs95, hk95, hO, hv95⟩ := frz_own (Frz.os (Frz.os Frz.int)) hv91x0 hO
    have h0 := h0.sub (M' := M95) hs95
    have h1 := h1.sub (M' := M95) hs95
    have hv78 := hv78.sub (M' := M95) hs95
    have hv87 := hv87.sub (M' := M95) hs95
    have hK := hK.trans hk95
    obtain ⟨r96, hr96, hs⟩ := bind_some hs
    refine xk_call (b := true) rfl  Bd79 rfl (c_impl_composeRelations (M := M95) (s71.2.1, s71.2.2) (r92.1, r92.2) hv78 hv95 hO.fut hr96) rfl (fun h => nomatch h) ?_
    rintro _ w94 ⟨a94x0, n94x0, c94x0, rfl, hC94, hv94x0⟩
    have hK := hK.trans (show Keeps w M95 (Past M95 w91 w94) from Keeps.past hC.size)
    have h0 := h0.ext hC94
    have h1 := h1.ext hC94
    have hb13 := hb13.chg hC94 (fun h => nomatch h)
    have hv78 := hv78.ext hC94
    have hv87 := hv87.ext hC94
    have hv95 := hv95.ext hC94
    have hC := hC.ext hC94
    have hO := hO.past hC94
    have h0 := h0.sub (M' := (Past M95 w91 w94)) (fun g hg => .inl hg.1)
    have h1 := h1.sub (M' := (Past M95 w91 w94)) (fun g hg => .inl hg.1)
    have hv78 := hv78.sub (M' := (Past M95 w91 w94)) (fun g hg => .inl hg.1)
    have hv87 := hv87.sub (M' := (Past M95 w91 w94)) (fun g hg => .inl hg.1)
    have hv95 := hv95.sub (M' := (Past M95 w91 w94)) (fun g hg => .inl hg.1)
    refine x_one (i := 4) (by kernel_rfl) ?_
    obtain ⟨w98, hst98, hC98, hb98⟩ := box_store (P := Try.prog) hb13 [] [(.int .i64 s71.2.1), (.slice a78 n78 c78)] [] [(.int .i64 r96.1), (.slice a94x0 n94x0 c94x0)] rfl rfl (by intro u hu; simp only [List.mem_cons, List.not_mem_nil, or_false] at hu; rcases hu with rfl | rfl <;> rfl)
    refine xk_skip (w' := w98) (b := true) rfl (ys_store rfl rfl (hst98 _ _ rfl Sz71)) rfl (fun h => nomatch h) ?_
    have h0 := h0.mut hC98 (fun g hg => hO.inM g ((fun _ h => h) g hg)) (fun _ _ h => nomatch h)
    have h1 := h1.mut hC98 (fun g hg => hO.inM g ((fun _ h => h) g hg)) (fun _ _ h => nomatch h)
    have hv78 := hv78.mut hC98 (fun g hg => hO.inM g ((fun _ h => h) g hg)) (fun _ _ h => nomatch h)
    have hv87 := hv87.mut hC98 (fun g hg => hO.inM g ((fun _ h => h) g hg)) (fun _ _ h => nomatch h)
    have hv95 := hv95.mut hC98 (fun g hg => hO.inM g ((fun _ h => h) g hg)) (fun _ _ h => nomatch h)
    have hv94x0 := hv94x0.mut hC98 (fun g hg => hO.inM g ((fun _ h => h) g hg)) (fun _ _ h => nomatch h)
    have hC := hC.step hC98 (fun g hg => hO.inN g ((fun _ h => h) g hg))
    have hO := hO.ext hC98
    have hb98 : BoxV w98 g12 71 [(.int .i64 r96.1), (.slice a94x0 n94x0 c94x0)] := hb98
    refine x_end (by kernel_rfl) ?_
    clear hS
    cases hs
    exact ⟨_, (Past M95 w91 w94), a94x0, n94x0, c94x0, fr_ovl 34 ⟨rfl, rfl, rfl, rfl, rfl, trivial⟩, hC, hO, hK, h0, h1, hb98, hv94x0⟩
  ·skip
   refine c_condF (congrArg Value.bool hc83) ?_
   refine wp_exit ?_
   cases hs
   exact ⟨rfl, _, M77, a78, n78, c78, fr_ovl 34 ⟨rfl, trivial⟩, hC, hO, hK, h0, h1, hb13, hv78⟩
 ·skip
  exact ⟨_, M70, a9x0, n9x0, c9x0, fr_ovl 34 ⟨rfl, rfl, rfl, rfl, rfl, trivial⟩, hC, hO, hK, h0, h1, hb13, hv70⟩
 ·cases o75 with
  | nx _ => exact True.intro
  | rt r_ =>
   have hs := after_rt hs
   intro a1 w1 hK
   cases hs
   exact hK
  | br s71 =>
   have hs := after_br hs
   rintro a1 w72 ⟨σ, M80, a81, n81, c81, rfl, hC, hO, hK, h0, h1, hb13, hv81⟩
   refine c_seq (c_region ?_)
   refine pl_val (.int .i64 s71.1) (y_move rfl) ?_
   refine pl_val (.int .i64 s71.1) (y_assign rfl) ?_
   refine c_nil ?_
   refine wp_ret ?_
   cases hs
   exact ⟨_, fr_ovl 34 ⟨rfl, trivial⟩, hC⟩

theorem Bd46 : Bodied Try.prog 46 := bodied Try.func46 (by kernel_rfl) rfl

theorem Bd47 : Bodied Try.prog 47 := bodied Try.func47 (by kernel_rfl) rfl

def k_impl_FactorsToJoin (M : Nat → Prop) (w0 : World) (r : Int × Bool) (a : Act) (w : World) : Prop :=
  ∃ (σ : Nat → Value) , a = fr 16 (ovl σ [(6, (.int .i64 r.1)), (7, (.bool r.2))]) ∧ Chg [] w0 w
def s_impl_FactorsToJoin (n : Int) (p : List Int) (q : List Int) : Option (Int × Bool) :=
  (s_impl_arePartitions n p q).bind fun r4 =>
  (bif (!r4) then some (0, false) else (s_impl_factorsToJoin p q).bind fun r7 =>
  some (r7, true))
set_option maxHeartbeats 4000000 in
theorem c_impl_FactorsToJoin {M : Nat → Prop} {w : World} {pa0 : Option Addr} {pn0 pc0 : Nat} {pa1 : Option Addr} {pn1 pc1 : Nat} (n : Int) (p : List Int) (q : List Int) (h0 : (RT.rs (RT.int .i64)).val M w (.slice pa0 pn0 pc0) p ([])) (h1 : (RT.rs (RT.int .i64)).val M w (.slice pa1 pn1 pc1) q ([])) (hM : ∀ g, w.heap.size ≤ g → M g) {r : Int × Bool} (hs : s_impl_FactorsToJoin n p q = some r) :
    Gives Try.prog 15 [(.int .i64 n), (.slice pa0 pn0 pc0), (.slice pa1 pn1 pc1)] w (fun v w' => v = (.tuple #[(.int .i64 r.1), (.bool r.2)]) ∧ Chg [] w w') := by
 refine calls_fr Try.func15 rfl Try.ntmps15 (Nat.le_of_ble_eq_true rfl) ?_
 have hO := Own.start (N := Nw w []) hM Nw.fut
 have hC := Chg.refl [] w
 unfold s_impl_FactorsToJoin at hs
 refine wp_mono (Q := KPost (k_impl_FactorsToJoin M w r)) ?_ (fun e a w1 h => ?_)
 rotate_left
 ·cases e
  case ret =>
   obtain ⟨σ, rfl, hrest⟩ := h
   exact ret2x Try.results15 (res_tmp rfl) (res_tmp rfl) ⟨rfl, hrest⟩
  all_goals exact (h : False).elim
 refine c_seq (c_region ?_)
 refine pl_val (.int .i64 0) (y_assign rfl) ?_
 refine pl_val (.bool false) (y_assign rfl) ?_
 refine c_nil ?_
 refine c_seq ?_
 refine c_seq (c_region ?_)
 refine pl_val (.int .i64 n) (y_move rfl) ?_
 refine pl_val (.slice pa0 pn0 pc0) (y_move rfl) ?_
 refine pl_val (.slice pa1 pn1 pc1) (y_move rfl) ?_
 obtain ⟨r4, hr4, hs⟩ := bind_some hs
 refine pl_call Bd46 rfl (c_impl_arePartitions (M := M) n p q h0 h1 hO.fut hr4) ?_
 rintro _ w3 ⟨rfl, hC3⟩
 have h0 := h0.ext hC3
 have h1 := h1.ext hC3
 have hC := hC.ext hC3
 have hO := hO.ext hC3
 refine pl_val (.bool (!r4)) (y_not rfl) ?_
 refine c_nil ?_
 rcases bif_some hs with ⟨hc5, hs⟩ | ⟨hc5, hs⟩
 ·skip
  refine c_condT (congrArg Value.bool hc5) ?_
  refine c_seq (c_region ?_)
  refine pl_val (.int .i64 0) (y_assign rfl) ?_
  refine pl_val (.bool false) (y_assign rfl) ?_
  refine c_nil ?_
  refine wp_ret ?_
  cases hs
  exact ⟨_, fr_ovl 16 ⟨rfl, rfl, trivial⟩, hC⟩
 ·skip
  refine c_condF (congrArg Value.bool hc5) ?_
  refine wp_skip ?_
  refine c_seq (c_region ?_)
  refine pl_val (.slice pa0 pn0 pc0) (y_move rfl) ?_
  refine pl_val (.slice pa1 pn1 pc1) (y_move rfl) ?_
  obtain ⟨r7, hr7, hs⟩ := bind_some hs
  refine pl_call Bd47 rfl (c_impl_factorsToJoin (M := M) p q h0 h1 hO.fut hr7) ?_
  rintro _ w6 ⟨rfl, hC6⟩
  have h0 := h0.ext hC6
  have h1 := h1.ext hC6
  have hC := hC.ext hC6
  have hO := hO.ext hC6
  refine pl_val (.int .i64 r7) (y_assign rfl) ?_
  refine pl_val (.bool true) (y_assign rfl) ?_
  refine c_nil ?_
  refine wp_ret ?_
  cases hs
  exact ⟨_, fr_ovl 16 ⟨rfl, rfl, trivial⟩, hC⟩

def k_laws_eqIntS (M : Nat → Prop) (w0 : World) (r : Bool) (a : Act) (w : World) : Prop :=
  ∃ (σ : Nat → Value) , a = fr 26 (ovl σ [(4, (.bool r))]) ∧ Chg [] w0 w
def s_laws_eqIntS (a_ : List Int) (b : List Int) : Option (Bool) :=
  (bif ((a_.length : Int) != (b.length : Int)) then some false else (forC (S := Unit) (R := Bool) (fun k12 s10 =>
  (idx a_ k12).bind fun x17 =>
  (idx b k12).bind fun x19 =>
  (bif (x17 != x19) then some (.rt false) else some (.nx ()))) 0 (a_.length : Int) ()).bind fun o14 => after o14 (fun r_ => some r_) (fun s10 =>
  some true))
set_option maxHeartbeats 4000000 in
theorem c_laws_eqIntS {M : Nat → Prop} {w : World} {pa0 : Option Addr} {pn0 pc0 : Nat} {pa1 : Option Addr} {pn1 pc1 : Nat} (a_ : List Int) (b : List Int) (h0 : (RT.rs (RT.int .i64)).val M w (.slice pa0 pn0 pc0) a_ ([])) (h1 : (RT.rs (RT.int .i64)).val M w (.slice pa1 pn1 pc1) b ([])) (hM : ∀ g, w.heap.size ≤ g → M g) {r : Bool} (hs : s_laws_eqIntS a_ b = some r) :
    Gives Try.prog 16 [(.slice pa0 pn0 pc0), (.slice pa1 pn1 pc1)] w (fun v w' => v = (.bool r) ∧ Chg [] w w') := by
 refine calls_fr Try.func16 rfl Try.ntmps16 (Nat.le_of_ble_eq_true rfl) ?_
 have hO := Own.start (N := Nw w []) hM Nw.fut
 have hC := Chg.refl [] w
 unfold s_laws_eqIntS at hs
 refine wp_mono (Q := KPost (k_laws_eqIntS M w r)) ?_ (fun e a w1 h => ?_)
 rotate_left
 ·cases e
  case ret =>
   obtain ⟨σ, rfl, hrest⟩ := h
   exact ret1x Try.results16 (res_tmp rfl) ⟨rfl, hrest⟩
  all_goals exact (h : False).elim
 refine c_seq (c_region ?_)
 refine pl_val (.bool false) (y_assign rfl) ?_
 refine c_nil ?_
 refine c_seq ?_
 refine c_seq (c_region ?_)
 refine pl_val (.slice pa0 pn0 pc0) (y_move rfl) ?_
 refine pl_val (.int .i64 (a_.length : Int)) (y_len' Sl22 (rs_len h0) rfl) ?_
 refine pl_val (.slice pa1 pn1 pc1) (y_move rfl) ?_
 refine pl_val (.int .i64 (b.length : Int)) (y_len' Sl22 (rs_len h1) rfl) ?_
 refine pl_val (.bool ((a_.length : Int) != (b.length : Int))) (y_neq rfl rfl) ?_
 refine c_nil ?_
 rcases bif_some hs with ⟨hc3, hs⟩ | ⟨hc3, hs⟩
 ·skip
  refine c_condT (congrArg Value.bool hc3) ?_
  refine c_seq (c_region ?_)
  refine pl_val (.bool false) (y_assign rfl) ?_
  refine c_nil ?_
  refine wp_ret ?_
  cases hs
  exact ⟨_, fr_ovl 26 ⟨rfl, trivial⟩, hC⟩
 ·skip
  refine c_condF (congrArg Value.bool hc3) ?_
  refine wp_skip ?_
  refine c_seq ?_
  refine c_seq (c_region ?_)
  refine pl_val (.int .i64 0) (y_assign rfl) ?_
  refine c_nil ?_
  obtain ⟨o14, hl15, hs⟩ := bind_some hs
  refine wp_block ?_
  refine wp_forC (id := 0) (a_.length : Int) (I := fun k12 s10 a w11 => ∃ (σ : Nat → Value), a = fr 26 (ovl σ [(0, (.slice pa0 pn0 pc0)), (1, (.slice pa1 pn1 pc1)), (5, (.int .i64 k12))]) ∧ Chg [] w w11 ∧ Own (Nw w []) M w11 ([]) ∧ (RT.rs (RT.int .i64)).val M w11 (.slice pa0 pn0 pc0) a_ ([]) ∧ (RT.rs (RT.int .i64)).val M w11 (.slice pa1 pn1 pc1) b ([])) (J := fun s10 a w11 => ∃ (σ : Nat → Value), a = fr 26 (ovl σ []) ∧ Chg [] w w11 ∧ Own (Nw w []) M w11 ([]) ∧ (RT.rs (RT.int .i64)).val M w11 (.slice pa0 pn0 pc0) a_ ([]) ∧ (RT.rs (RT.int .i64)).val M w11 (.slice pa1 pn1 pc1) b ([])) (K := (k_laws_eqIntS M w)) ?_ ?_ 0 () o14 _ _ ?_ hl15 ?_
  ·rintro k12 s10 a w11 ⟨σ, rfl, hC, hO, h0, h1⟩ hlt
   refine c_seq ?_
   refine c_seq (c_region ?_)
   refine pl_val (.int .i64 k12) (y_move rfl) ?_
   refine pl_val (.slice pa0 pn0 pc0) (y_move rfl) ?_
   refine pl_val (.int .i64 (a_.length : Int)) (y_len' Sl22 (rs_len h0) rfl) ?_
   refine pl_val (.bool (decide (k12 < (a_.length : Int)))) (y_lss rfl rfl) ?_
   refine c_nil ?_
   refine c_condF (congrArg Value.bool (decide_eq_false hlt)) ?_
   refine wp_exit ?_
   exact ⟨rfl, _, fr_ovl 26 trivial, hC, hO, h0, h1⟩
  ·rintro k12 s10 o14 a w11 ⟨σ, rfl, hC, hO, h0, h1⟩ hlt hw hs
   refine c_seq ?_
   refine c_seq (c_region ?_)
   refine pl_val (.int .i64 k12) (y_move rfl) ?_
   refine pl_val (.slice pa0 pn0 pc0) (y_move rfl) ?_
   refine pl_val (.int .i64 (a_.length : Int)) (y_len' Sl22 (rs_len h0) rfl) ?_
   refine pl_val (.bool (decide (k12 < (a_.length : Int)))) (y_lss rfl rfl) ?_
   refine c_nil ?_
   refine c_condT (congrArg Value.bool (decide_eq_true hlt)) ?_
   refine wp_skip ?_
   refine c_seq ?_
   refine wp_block ?_
   refine c_seq ?_
   refine x_start [] Mx rfl ?_
   have hCw16 := Chg.drew w11
   generalize World.drew w11 = w16 at hCw16 ⊢
   have h0 := h0.ext hCw16
   have h1 := h1.ext hCw16
   have hC := hC.ext hCw16
   have hO := hO.ext hCw16
   have hS := Chg.refl [] w16
   refine x_p 0 (.slice pa0 pn0 pc0) rfl (by kernel_rfl)  (fun _ => y_move rfl) (fun _ => hS) ?_
   refine x_p 1 (.int .i64 k12) rfl (by kernel_rfl)  (fun _ => y_move rfl) (fun _ => hS) ?_
   obtain ⟨x17, hx17, hs⟩ := bind_some hs
   obtain ⟨b18, o18, hp18, ha18⟩ := rs_idx Sl22 Sz3 h0 hx17
   refine x_p 2 (.pointer (some ⟨b18, o18, none⟩)) rfl (by kernel_rfl)  (fun _ => hp18 _ _ _ _ _ _ _ _ _ rfl rfl) (fun _ => hS) ?_
   refine x_l 3 (.int .i64 x17) rfl (by kernel_rfl)  (fun w' hw' => y_load rfl ((at_load_int Ag3 Sz3 ha18) w' hw')) hS ?_
   refine x_p 4 (.slice pa1 pn1 pc1) rfl (by kernel_rfl)  (fun _ => y_move rfl) (fun _ => hS) ?_
   refine x_p 5 (.int .i64 k12) rfl (by kernel_rfl)  (fun _ => y_move rfl) (fun _ => hS) ?_
   obtain ⟨x19, hx19, hs⟩ := bind_some hs
   obtain ⟨b20, o20, hp20, ha20⟩ := rs_idx Sl22 Sz3 h1 hx19
   refine x_p 6 (.pointer (some ⟨b20, o20, none⟩)) rfl (by kernel_rfl)  (fun _ => hp20 _ _ _ _ _ _ _ _ _ rfl rfl) (fun _ => hS) ?_
   refine x_l 7 (.int .i64 x19) rfl (by kernel_rfl)  (fun w' hw' => y_load rfl ((at_load_int Ag3 Sz3 ha20) w' hw')) hS ?_
   refine x_p 8 (.bool (x17 != x19)) rfl (by kernel_rfl)  (fun _ => y_neq rfl rfl) (fun _ => hS) ?_
   refine x_end (by kernel_rfl) ?_
   clear hS
   rcases bif_some hs with ⟨hc21, hs⟩ | ⟨hc21, hs⟩
   ·skip
    refine c_condT (congrArg Value.bool hc21) ?_
    refine c_seq (c_region ?_)
    refine pl_val (.bool false) (y_assign rfl) ?_
    refine c_nil ?_
    refine wp_ret ?_
    cases hs
    exact ⟨_, fr_ovl 26 ⟨rfl, trivial⟩, hC⟩
   ·skip
    refine c_condF (congrArg Value.bool hc21) ?_
    refine wp_skip ?_
    refine c_region ?_
    refine pl_val (.int .i64 k12) (y_move rfl) ?_
    refine pl_val (.int .i64 (w64 (k12 + 1))) (y_add rfl rfl) ?_
    refine pl_val (.int .i64 (w64 (k12 + 1))) (y_assign rfl) ?_
    refine c_nil ?_
    cases hs
    exact ⟨_, fr_ovl 26 ⟨rfl, rfl, congrArg (Value.int .i64) hw, trivial⟩, hC, hO, h0, h1⟩
  ·skip
   exact ⟨_, fr_ovl 26 ⟨rfl, rfl, rfl, trivial⟩, hC, hO, h0, h1⟩
  ·cases o14 with
   | nx _ => exact True.intro
   | rt r_ =>
    have hs := after_rt hs
    intro a1 w1 hK
    cases hs
    exact hK
   | br s10 =>
    have hs := after_br hs
    rintro a1 w11 ⟨σ, rfl, hC, hO, h0, h1⟩
    refine c_seq (c_region ?_)
    refine pl_val (.bool true) (y_assign rfl) ?_
    refine c_nil ?_
    refine wp_ret ?_
    cases hs
    exact ⟨_, fr_ovl 26 ⟨rfl, trivial⟩, hC⟩

theorem Bd14 : Bodied Try.prog 14 := bodied Try.func14 (by kernel_rfl) rfl

theorem Bd13 : Bodied Try.prog 13 := bodied Try.func13 (by kernel_rfl) rfl

theorem Bd15 : Bodied Try.prog 15 := bodied Try.func15 (by kernel_rfl) rfl

theorem Bd16 : Bodied Try.prog 16 := bodied Try.func16 (by kernel_rfl) rfl

def k_laws_FnExactFactorsToJoin (M : Nat → Prop) (w0 : World) (r : Bool) (a : Act) (w : World) : Prop :=
  ∃ (σ : Nat → Value) , a = fr 57 (ovl σ [(6, (.bool r))]) ∧ Chg [] w0 w
def s_laws_FnExactFactorsToJoin (aN : Int) (aP : List Int) (aQ : List Int) : Option (Bool) :=
  (bif (decide (1048576 < (aP.length : Int))) then some true else (bif (decide (1048576 < (aQ.length : Int))) then some true else (s_laws_toIntS aP).bind fun r6 =>
  (s_laws_toIntS aQ).bind fun r9 =>
  (s_spec_FactorsToJoin aN r6 r9).bind fun r12 =>
  (s_laws_toIntS aP).bind fun r14 =>
  (s_laws_toIntS aQ).bind fun r17 =>
  (s_impl_FactorsToJoin aN r14 r17).bind fun r20 =>
  (bif ((r20.1 != r12.1) || (!(r20.2 == r12.2))) then some false else (s_laws_toIntS aP).bind fun r27 =>
  (s_laws_eqIntS r14 r27).bind fun r30 =>
  (bif (!r30) then some false else (s_laws_toIntS aQ).bind fun r33 =>
  (s_laws_eqIntS r17 r33).bind fun r36 =>
  (bif (!r36) then some false else some true)))))
set_option maxHeartbeats 4000000 in
theorem c_laws_FnExactFactorsToJoin {M : Nat → Prop} {w : World} {pa0 : Option Addr} {pn0 pc0 : Nat} {pa1 : Option Addr} {pn1 pc1 : Nat} (aN : Int) (aP : List Int) (aQ : List Int) (h0 : (RT.rs (RT.int .i64)).val M w (.slice pa0 pn0 pc0) aP ([])) (h1 : (RT.rs (RT.int .i64)).val M w (.slice pa1 pn1 pc1) aQ ([])) (hM : ∀ g, w.heap.size ≤ g → M g) {r : Bool} (hs : s_laws_FnExactFactorsToJoin aN aP aQ = some r) :
    Gives Try.prog 3 [(.int .i64 aN), (.slice pa0 pn0 pc0), (.slice pa1 pn1 pc1)] w (fun v w' => v = (.bool r) ∧ Chg [] w w') := by
 refine calls_fr Try.func3 rfl Try.ntmps3 (Nat.le_of_ble_eq_true rfl) ?_
 have hO := Own.start (N := Nw w []) hM Nw.fut
 have hC := Chg.refl [] w
 unfold s_laws_FnExactFactorsToJoin at hs
 refine wp_mono (Q := KPost (k_laws_FnExactFactorsToJoin M w r)) ?_ (fun e a w1 h => ?_)
 rotate_left
 ·cases e
  case ret =>
   obtain ⟨σ, rfl, hrest⟩ := h
   exact ret1x Try.results3 (res_tmp rfl) ⟨rfl, hrest⟩
  all_goals exact (h : False).elim
 refine c_seq (c_region ?_)
 refine pl_val (.bool false) (y_assign rfl) ?_
 refine c_nil ?_
 refine c_seq ?_
 refine c_seq (c_region ?_)
 refine pl_val (.slice pa0 pn0 pc0) (y_move rfl) ?_
 refine pl_val (.int .i64 (aP.length : Int)) (y_len' Sl22 (rs_len h0) rfl) ?_
 refine pl_val (.bool (decide (1048576 < (aP.length : Int)))) (y_gtr rfl rfl) ?_
 refine c_nil ?_
 rcases bif_some hs with ⟨hc3, hs⟩ | ⟨hc3, hs⟩
 ·skip
  refine c_condT (congrArg Value.bool hc3) ?_
  refine c_seq (c_region ?_)
  refine pl_val (.bool true) (y_assign rfl) ?_
  refine c_nil ?_
  refine wp_ret ?_
  cases hs
  exact ⟨_, fr_ovl 57 ⟨rfl, trivial⟩, hC⟩
 ·skip
  refine c_condF (congrArg Value.bool hc3) ?_
  refine wp_skip ?_
  refine c_seq ?_
  refine c_seq (c_region ?_)
  refine pl_val (.slice pa1 pn1 pc1) (y_move rfl) ?_
  refine pl_val (.int .i64 (aQ.length : Int)) (y_len' Sl22 (rs_len h1) rfl) ?_
  refine pl_val (.bool (decide (1048576 < (aQ.length : Int)))) (y_gtr rfl rfl) ?_
  refine c_nil ?_
  rcases bif_some hs with ⟨hc4, hs⟩ | ⟨hc4, hs⟩
  ·skip
   refine c_condT (congrArg Value.bool hc4) ?_
   refine c_seq (c_region ?_)
   refine pl_val (.bool true) (y_assign rfl) ?_
   refine c_nil ?_
   refine wp_ret ?_
   cases hs
   exact ⟨_, fr_ovl 57 ⟨rfl, trivial⟩, hC⟩
  ·skip
   refine c_condF (congrArg Value.bool hc4) ?_
   refine wp_skip ?_
   refine c_seq (c_region ?_)
   refine pl_val (.int .i64 aN) (y_move rfl) ?_
   refine pl_val (.slice pa0 pn0 pc0) (y_move rfl) ?_
   obtain ⟨r6, hr6, hs⟩ := bind_some hs
   refine pl_call Bd14 rfl (c_laws_toIntS (M := M) aP h0 hO.fut hr6) ?_
   rintro _ w5 ⟨a5x0, n5x0, c5x0, f5x0, rfl, hC5, hv5x0, hOc5⟩
   have h0 := h0.ext hC5
   have h1 := h1.ext hC5
   have hC := hC.ext hC5
   have hO := Own.join0 hO hC5 hOc5
   have hO := hO.perm (R := f5x0 ++ ([])) (by simp)
   refine pl_val (.slice pa1 pn1 pc1) (y_move rfl) ?_
   obtain ⟨r9, hr9, hs⟩ := bind_some hs
   refine pl_call Bd14 rfl (c_laws_toIntS (M := M) aQ h1 hO.fut hr9) ?_
   rintro _ w8 ⟨a8x0, n8x0, c8x0, f8x0, rfl, hC8, hv8x0, hOc8⟩
   have h0 := h0.ext hC8
   have h1 := h1.ext hC8
   have hv5x0 := hv5x0.ext hC8
   have hC := hC.ext hC8
   have hO := Own.join0 hO hC8 hOc8
   have hO := hO.perm (R := f8x0 ++ (f5x0 ++ ([]))) (by simp)
   have hO := hO.fr1
   obtain ⟨r12, hr12, hs⟩ := bind_some hs
   refine pl_call Bd13 rfl (c_spec_FactorsToJoin (M := (Less (Less M f5x0) f8x0)) aN r6 r9 ((((Frz.os Frz.int)).val hv5x0 Less.sub Less.not).sub Less.sub) (((Frz.os Frz.int)).val (hv8x0.sub Less.sub) Less.sub Less.not) (hO.less).less.fut hr12) ?_
   rintro _ w11 ⟨rfl, hC11⟩
   have h0 := h0.ext hC11
   have h1 := h1.ext hC11
   have hv5x0 := hv5x0.ext hC11
   have hv8x0 := hv8x0.ext hC11
   have hC := hC.ext hC11
   have hO := hO.ext hC11
   refine pl_val (.tuple #[(.int .i64 r12.1), (.bool r12.2)]) (y_move rfl) ?_
   refine pl_val (.int .i64 r12.1) (y_extract rfl (by kernel_rfl)) ?_
   refine pl_val (.bool r12.2) (y_extract rfl (by kernel_rfl)) ?_
   refine pl_val (.int .i64 r12.1) (y_assign rfl) ?_
   refine pl_val (.bool r12.2) (y_assign rfl) ?_
   refine c_nil ?_
   refine c_seq (c_region ?_)
   refine pl_val (.slice pa0 pn0 pc0) (y_move rfl) ?_
   obtain ⟨r14, hr14, hs⟩ := bind_some hs
   refine pl_call Bd14 rfl (c_laws_toIntS (M := M) aP h0 hO.fut hr14) ?_
   rintro _ w13 ⟨a13x0, n13x0, c13x0, f13x0, rfl, hC13, hv13x0, hOc13⟩
   have h0 := h0.ext hC13
   have h1 := h1.ext hC13
   have hv5x0 := hv5x0.ext hC13
   have hv8x0 := hv8x0.ext hC13
   have hC := hC.ext hC13
   have hO := Own.join0 hO hC13 hOc13
   have hO := hO.perm (R := f13x0 ++ (f5x0 ++ (f8x0 ++ ([])))) (by simp)
   refine pl_val (.slice a13x0 n13x0 c13x0) (y_assign rfl) ?_
   refine c_nil ?_
   refine c_seq (c_region ?_)
   refine pl_val (.slice pa1 pn1 pc1) (y_move rfl) ?_
   obtain ⟨r17, hr17, hs⟩ := bind_some hs
   refine pl_call Bd14 rfl (c_laws_toIntS (M := M) aQ h1 hO.fut hr17) ?_
   rintro _ w16 ⟨a16x0, n16x0, c16x0, f16x0, rfl, hC16, hv16x0, hOc16⟩
   have h0 := h0.ext hC16
   have h1 := h1.ext hC16
   have hv5x0 := hv5x0.ext hC16
   have hv8x0 := hv8x0.ext hC16
   have hv13x0 := hv13x0.ext hC16
   have hC := hC.ext hC16
   have hO := Own.join0 hO hC16 hOc16
   have hO := hO.perm (R := f16x0 ++ (f13x0 ++ (f5x0 ++ (f8x0 ++ ([]))))) (by simp)
   refine pl_val (.slice a16x0 n16x0 c16x0) (y_assign rfl) ?_
   refine c_nil ?_
   refine c_seq (c_region ?_)
   refine pl_val (.int .i64 aN) (y_move rfl) ?_
   refine pl_val (.slice a13x0 n13x0 c13x0) (y_move rfl) ?_
   refine pl_val (.slice a16x0 n16x0 c16x0) (y_move rfl) ?_
   have hO := hO.fr1
   obtain ⟨r20, hr20, hs⟩ := bind_some hs
   refine pl_call Bd15 rfl (c_impl_FactorsToJoin (M := (Less (Less M f13x0) f16x0)) aN r14 r17 ((((Frz.os Frz.int)).val hv13x0 Less.sub Less.not).sub Less.sub) (((Frz.os Frz.int)).val (hv16x0.sub Less.sub) Less.sub Less.not) (hO.less).less.fut hr20) ?_
   rintro _ w19 ⟨rfl, hC19⟩
   have h0 := h0.ext hC19
   have h1 := h1.ext hC19
   have hv5x0 := hv5x0.ext hC19
   have hv8x0 := hv8x0.ext hC19
   have hv13x0 := hv13x0.ext hC19
   have hv16x0 := hv16x0.ext hC19
   have hC := hC.ext hC19
   have hO := hO.ext hC19
   refine pl_val (.tuple #[(.int .i64 r20.1), (.bool r20.2)]) (y_move rfl) ?_
   refine pl_val (.int .i64 r20.1) (y_extract rfl (by kernel_rfl)) ?_
   refine pl_val (.bool r20.2) (y_extract rfl (by kernel_rfl)) ?_
   refine pl_val (.int .i64 r20.1) (y_assign rfl) ?_
   refine pl_val (.bool r20.2) (y_assign rfl) ?_
   refine c_nil ?_
   refine c_seq ?_
   refine c_seq ?_
   refine c_mid (I := fun a w22 => ∃ (σ : Nat → Value), a = fr 57 (ovl σ [(1, (.slice pa0 pn0 pc0)), (2, (.slice pa1 pn1 pc1)), (6, (.bool false)), (9, (.slice a13x0 n13x0 c13x0)), (10, (.slice a16x0 n16x0 c16x0)), (46, (.bool ((r20.1 != r12.1) || (!(r20.2 == r12.2)))))]) ∧ Chg [] w19 w22) ?_ ?_
   ·have hMid := Chg.refl [] w19
    refine c_region ?_
    refine pl_val (.int .i64 r20.1) (y_move rfl) ?_
    refine pl_val (.int .i64 r12.1) (y_move rfl) ?_
    refine pl_val (.bool (r20.1 != r12.1)) (y_neq rfl rfl) ?_
    refine pl_val (.bool (r20.1 != r12.1)) (y_move rfl) ?_
    rcases Bool.eq_false_or_eq_true ((r20.1 != r12.1)) with hc24 | hc24
    ·skip
     refine pl_not (tg := 42) (by kernel_rfl) (congrArg Value.bool hc24) ?_
     refine pl_not (tg := 42) (by kernel_rfl) (congrArg Value.bool hc24) ?_
     refine pl_not (tg := 42) (by kernel_rfl) (congrArg Value.bool hc24) ?_
     refine pl_val (.bool ((r20.1 != r12.1) || (!(r20.2 == r12.2)))) (y_pick_t (congrArg Value.bool hc24) (congrArg Value.bool (by rw [hc24]; rfl))) ?_
     refine c_nil ?_
     exact ⟨_, fr_ovl 57 ⟨rfl, rfl, rfl, rfl, rfl, rfl, trivial⟩, hMid⟩
    ·skip
     refine pl_yes (.bool r20.2) (tg := 42) (by kernel_rfl) (congrArg Value.bool hc24) (y_move rfl) ?_
     refine pl_yes (.bool r12.2) (tg := 42) (by kernel_rfl) (congrArg Value.bool hc24) (y_move rfl) ?_
     refine pl_yes (.bool (!(r20.2 == r12.2))) (tg := 42) (by kernel_rfl) (congrArg Value.bool hc24) (y_bneq Try.underlying4 rfl rfl) ?_
     refine pl_val (.bool ((r20.1 != r12.1) || (!(r20.2 == r12.2)))) (y_pick_f (congrArg Value.bool hc24) (congrArg Value.bool (by rw [hc24]; rfl))) ?_
     refine c_nil ?_
     exact ⟨_, fr_ovl 57 ⟨rfl, rfl, rfl, rfl, rfl, rfl, trivial⟩, hMid⟩
   ·rintro a1 w22 ⟨σ, rfl, hCs21⟩
    have h0 := h0.ext hCs21
    have h1 := h1.ext hCs21
    have hv5x0 := hv5x0.ext hCs21
    have hv8x0 := hv8x0.ext hCs21
    have hv13x0 := hv13x0.ext hCs21
    have hv16x0 := hv16x0.ext hCs21
    have hC := hC.ext hCs21
    have hO := hO.ext hCs21
    rcases bif_some hs with ⟨hc25, hs⟩ | ⟨hc25, hs⟩
    ·skip
     refine c_condT (congrArg Value.bool hc25) ?_
     refine c_seq (c_region ?_)
     refine pl_val (.bool false) (y_assign rfl) ?_
     refine c_nil ?_
     refine wp_ret ?_
     cases hs
     exact ⟨_, fr_ovl 57 ⟨rfl, trivial⟩, hC⟩
    ·skip
     refine c_condF (congrArg Value.bool hc25) ?_
     refine wp_skip ?_
     refine c_seq ?_
     refine c_seq (c_region ?_)
     refine pl_val (.slice a13x0 n13x0 c13x0) (y_move rfl) ?_
     refine pl_val (.slice pa0 pn0 pc0) (y_move rfl) ?_
     obtain ⟨r27, hr27, hs⟩ := bind_some hs
     refine pl_call Bd14 rfl (c_laws_toIntS (M := M) aP h0 hO.fut hr27) ?_
     rintro _ w26 ⟨a26x0, n26x0, c26x0, f26x0, rfl, hC26, hv26x0, hOc26⟩
     have h0 := h0.ext hC26
     have h1 := h1.ext hC26
     have hv5x0 := hv5x0.ext hC26
     have hv8x0 := hv8x0.ext hC26
     have hv13x0 := hv13x0.ext hC26
     have hv16x0 := hv16x0.ext hC26
     have hC := hC.ext hC26
     have hO := Own.join0 hO hC26 hOc26
     have hO := hO.perm (R := f26x0 ++ (f13x0 ++ (f16x0 ++ (f5x0 ++ (f8x0 ++ ([])))))) (by simp)
     have hO := hO.fr1
     obtain ⟨r30, hr30, hs⟩ := bind_some hs
     refine pl_call Bd16 rfl (c_laws_eqIntS (M := (Less (Less M f13x0) f26x0)) r14 r27 ((((Frz.os Frz.int)).val hv13x0 Less.sub Less.not).sub Less.sub) (((Frz.os Frz.int)).val (hv26x0.sub Less.sub) Less.sub Less.not) (hO.less).less.fut hr30) ?_
     rintro _ w29 ⟨rfl, hC29⟩
     have h0 := h0.ext hC29
     have h1 := h1.ext hC29
     have hv5x0 := hv5x0.ext hC29
     have hv8x0 := hv8x0.ext hC29
     have hv13x0 := hv13x0.ext hC29
     have hv16x0 := hv16x0.ext hC29
     have hv26x0 := hv26x0.ext hC29
     have hC := hC.ext hC29
     have hO := hO.ext hC29
     refine pl_val (.bool (!r30)) (y_not rfl) ?_
     refine c_nil ?_
     rcases bif_some hs with ⟨hc31, hs⟩ | ⟨hc31, hs⟩
     ·skip
      refine c_condT (congrArg Value.bool hc31) ?_
      refine c_seq (c_region ?_)
      refine pl_val (.bool false) (y_assign rfl) ?_
      refine c_nil ?_
      refine wp_ret ?_
      cases hs
      exact ⟨_, fr_ovl 57 ⟨rfl, trivial⟩, hC⟩
     ·skip
      refine c_condF (congrArg Value.bool hc31) ?_
      refine wp_skip ?_
      refine c_seq ?_
      refine c_seq (c_region ?_)
      refine pl_val (.slice a16x0 n16x0 c16x0) (y_move rfl) ?_
      refine pl_val (.slice pa1 pn1 pc1) (y_move rfl) ?_
      obtain ⟨r33, hr33, hs⟩ := bind_some hs
      refine pl_call Bd14 rfl (c_laws_toIntS (M := M) aQ h1 hO.fut hr33) ?_
      rintro _ w32 ⟨a32x0, n32x0, c32x0, f32x0, rfl, hC32, hv32x0, hOc32⟩
      have h1 := h1.ext hC32
      have hv5x0 := hv5x0.ext hC32
      have hv8x0 := hv8x0.ext hC32
      have hv13x0 := hv13x0.ext hC32
      have hv16x0 := hv16x0.ext hC32
      have hv26x0 := hv26x0.ext hC32
      have hC := hC.ext hC32
      have hO := Own.join0 hO hC32 hOc32
      have hO := hO.perm (R := f32x0 ++ (f13x0 ++ (f26x0 ++ (f16x0 ++ (f5x0 ++ (f8x0 ++ ([]))))))) (by simp)
      have hO := hO.fr3
      obtain ⟨r36, hr36, hs⟩ := bind_some hs
      refine pl_call Bd16 rfl (c_laws_eqIntS (M := (Less (Less M f16x0) f32x0)) r17 r33 ((((Frz.os Frz.int)).val hv16x0 Less.sub Less.not).sub Less.sub) (((Frz.os Frz.int)).val (hv32x0.sub Less.sub) Less.sub Less.not) (hO.less).less.fut hr36) ?_
      rintro _ w35 ⟨rfl, hC35⟩
      have h1 := h1.ext hC35
      have hv5x0 := hv5x0.ext hC35
      have hv8x0 := hv8x0.ext hC35
      have hv13x0 := hv13x0.ext hC35
      have hv16x0 := hv16x0.ext hC35
      have hv26x0 := hv26x0.ext hC35
      have hv32x0 := hv32x0.ext hC35
      have hC := hC.ext hC35
      have hO := hO.ext hC35
      refine pl_val (.bool (!r36)) (y_not rfl) ?_
      refine c_nil ?_
      rcases bif_some hs with ⟨hc37, hs⟩ | ⟨hc37, hs⟩
      ·skip
       refine c_condT (congrArg Value.bool hc37) ?_
       refine c_seq (c_region ?_)
       refine pl_val (.bool false) (y_assign rfl) ?_
       refine c_nil ?_
       refine wp_ret ?_
       cases hs
       exact ⟨_, fr_ovl 57 ⟨rfl, trivial⟩, hC⟩
      ·skip
       refine c_condF (congrArg Value.bool hc37) ?_
       refine wp_skip ?_
       refine c_seq (c_region ?_)
       refine pl_val (.bool true) (y_assign rfl) ?_
       refine c_nil ?_
       refine wp_ret ?_
       cases hs
       exact ⟨_, fr_ovl 57 ⟨rfl, trivial⟩, hC⟩

end Go.Proofs
